-- several texts in one (by the session's program shake.py)
import Derived.Test.YtokkhnjedmlbhaaZRoundM
import Derived.Test.YtokkhnjedmlbhaaZPrg01x
import Derived.Test.YtokkhnjedmlbhaaZSboxP
import Derived.RegionTactic
import Derived.Laws.CopyOwn
import Derived.ChangeAlike
section
namespace Go.Proofs.Ytokkhnjedmlbhaa.M
open Go.RowKit Go.Proofs.Ytokkhnjedmlbhaa.Pr Go.Proofs.YtokkhnjedmlbhaaW.PrintWords Go.Proofs.YtokkhnjedmlbhaaW.PrintLast Go.Proofs.YtokkhnjedmlbhaaW.PrintMore Go.Proofs.YtokkhnjedmlbhaaGf
set_option linter.unusedSimpArgs false
def fwd : List ByteArray → ByteArray → ByteArray
  | [], s => s
  | k :: ks, s => fwd ks (doT s k ks.isEmpty)
def bwd : List ByteArray → ByteArray → ByteArray
  | [], s => s
  | k :: ks, s => unT (bwd ks s) k ks.isEmpty
/-- A block, encrypted; decrypted. -/
def encT (ks : List ByteArray) (s : ByteArray) : ByteArray := match ks with
  | [] => s
  | k :: ks => fwd ks (kyT s k)
def decT (ks : List ByteArray) (s : ByteArray) : ByteArray := match ks with
  | [] => s
  | k :: ks => kyT (bwd ks s) k
def all16 (ks : List ByteArray) : Prop := ∀ k ∈ ks, k.size = 16
theorem fwd_size : ∀ {ks : List ByteArray} {s : ByteArray}, all16 ks → s.size = 16 → (fwd ks s).size = 16
  | [], _, _, hs => hs
  | k :: ks, s, h, hs => fwd_size (ks := ks) (fun x hx => h x (by simp [hx])) (do_size hs (h k (by simp)) _)
theorem bwd_size : ∀ {ks : List ByteArray} {s : ByteArray}, all16 ks → s.size = 16 → (bwd ks s).size = 16
  | [], _, _, hs => hs
  | k :: ks, s, h, hs => un_size (bwd_size (ks := ks) (fun x hx => h x (by simp [hx])) hs) (h k (by simp)) _
theorem bwd_fwd : ∀ {ks : List ByteArray} {s : ByteArray}, all16 ks → s.size = 16 → bwd ks (fwd ks s) = s
  | [], _, _, _ => rfl
  | k :: ks, s, h, hs => by
    simp only [fwd, bwd]
    rw [bwd_fwd (ks := ks) (fun x hx => h x (by simp [hx])) (do_size hs (h k (by simp)) _), un_do hs (h k (by simp))]
theorem enc_size {ks : List ByteArray} {s : ByteArray} (h : all16 ks) (hs : s.size = 16) : (encT ks s).size = 16 := by
  cases ks with
  | nil => exact hs
  | cons k ks => exact fwd_size (fun x hx => h x (by simp [hx])) (ky_size hs (h k (by simp)))
theorem dec_size {ks : List ByteArray} {s : ByteArray} (h : all16 ks) (hs : s.size = 16) : (decT ks s).size = 16 := by
  cases ks with
  | nil => exact hs
  | cons k ks => exact ky_size (bwd_size (fun x hx => h x (by simp [hx])) hs) (h k (by simp))
theorem dec_enc {ks : List ByteArray} {s : ByteArray} (h : all16 ks) (hs : s.size = 16) : decT ks (encT ks s) = s := by
  cases ks with
  | nil => rfl
  | cons k ks =>
    simp only [decT, encT]
    rw [bwd_fwd (fun x hx => h x (by simp [hx])) (ky_size hs (h k (by simp))), ky_ky hs (h k (by simp))]
/-- One round, on numbers. -/
def F1 (f : Nat → Nat) (q : Nat) : Nat := sN (f (5 * q % 16))
theorem F1_lt (f : Nat → Nat) (q : Nat) : F1 f q < 256 := sN_lt _
theorem SH_F1 (f : Nat → Nat) (q : Nat) : SH (fun j => sN (f j)) q = F1 f q := by
  unfold SH F1
  congr 2
  omega
theorem sb_T {f : Nat → Nat} (hf : ∀ i, f i < 256) : sbT (T f) = T (fun j => sN (f j)) := by
  unfold sbT T
  rw [nb_mkB (isB_map hf _), List.map_map]
  rfl
theorem sh_sb {f : Nat → Nat} (hf : ∀ i, f i < 256) : shT (sbT (T f)) = T (F1 f) := by
  rw [sb_T hf]
  unfold shT
  rw [if_pos (T_size _)]
  exact T_congr (fun i hi => (SH_congr (T_out (fun j => sN_lt (f j))) i).trans (SH_F1 f i))
theorem ky_T {f : Nat → Nat} (hf : ∀ i, f i < 256) {k : ByteArray} (hk : k.size = 16) : kyT (T f) k = T (fun q => f q ^^^ bb k q) := by
  rw [ky_16 (T_size _) hk]
  exact T_congr (fun i hi => by rw [T_out hf i hi])
theorem do_last {f : Nat → Nat} (hf : ∀ i, f i < 256) {k : ByteArray} (hk : k.size = 16) : doT (T f) k true = T (fun q => F1 f q ^^^ bb k q) := by
  unfold doT
  rw [if_pos (T_size _), if_pos hk, if_pos rfl, sh_sb hf, ky_T (F1_lt f) hk]
theorem mx_T {f : Nat → Nat} (hf : ∀ i, f i < 256) : mxT (T f) = T (MX f) := by
  unfold mxT
  rw [if_pos (T_size _)]
  exact T_congr (fun i hi => MX_congr (T_out hf) hi)
theorem do_mid {f : Nat → Nat} (hf : ∀ i, f i < 256) {k : ByteArray} (hk : k.size = 16) : doT (T f) k false = T (fun q => MX (F1 f) q ^^^ bb k q) := by
  unfold doT
  rw [if_pos (T_size _), if_pos hk, if_neg (by simp), sh_sb hf, mx_T (F1_lt f), ky_T (MX_lt (F1_lt f)) hk]
/-- Back: the bytes for which they stand, rows moved back. -/
def B1 (f : Nat → Nat) (q : Nat) : Nat := bN (f (13 * q % 16))
theorem colsumA (g : Nat → Nat) (i : Nat) : ((g (4 * (i / 4)) ^^^ g (4 * (i / 4) + 1)) ^^^ g (4 * (i / 4) + 2)) ^^^ g (4 * (i / 4) + 3) = g i ^^^ (g (nx i 1) ^^^ (g (nx i 2) ^^^ g (nx i 3))) := by
  obtain h | h | h | h : i % 4 = 0 ∨ i % 4 = 1 ∨ i % 4 = 2 ∨ i % 4 = 3 := by omega
  · rw [show g i = g (4 * (i / 4)) from congrArg g (by omega), show nx i 1 = 4 * (i / 4) + 1 by unfold nx; omega, show nx i 2 = 4 * (i / 4) + 2 by unfold nx; omega, show nx i 3 = 4 * (i / 4) + 3 by unfold nx; omega]
    simp only [Nat.xor_assoc]
  · rw [show g i = g (4 * (i / 4) + 1) from congrArg g (by omega), show nx i 1 = 4 * (i / 4) + 2 by unfold nx; omega, show nx i 2 = 4 * (i / 4) + 3 by unfold nx; omega, show nx i 3 = 4 * (i / 4) by unfold nx; omega]
    generalize g (4 * (i / 4)) = a; generalize g (4 * (i / 4) + 1) = b; generalize g (4 * (i / 4) + 2) = c; generalize g (4 * (i / 4) + 3) = d
    simp only [Nat.xor_assoc, Nat.xor_comm, xor_lc]
  · rw [show g i = g (4 * (i / 4) + 2) from congrArg g (by omega), show nx i 1 = 4 * (i / 4) + 3 by unfold nx; omega, show nx i 2 = 4 * (i / 4) by unfold nx; omega, show nx i 3 = 4 * (i / 4) + 1 by unfold nx; omega]
    generalize g (4 * (i / 4)) = a; generalize g (4 * (i / 4) + 1) = b; generalize g (4 * (i / 4) + 2) = c; generalize g (4 * (i / 4) + 3) = d
    simp only [Nat.xor_assoc, Nat.xor_comm, xor_lc]
  · rw [show g i = g (4 * (i / 4) + 3) from congrArg g (by omega), show nx i 1 = 4 * (i / 4) by unfold nx; omega, show nx i 2 = 4 * (i / 4) + 1 by unfold nx; omega, show nx i 3 = 4 * (i / 4) + 2 by unfold nx; omega]
    generalize g (4 * (i / 4)) = a; generalize g (4 * (i / 4) + 1) = b; generalize g (4 * (i / 4) + 2) = c; generalize g (4 * (i / 4) + 3) = d
    simp only [Nat.xor_assoc, Nat.xor_comm, xor_lc]
def mxA (g : Nat → Nat) (c j : Nat) : Nat := (g (4 * c + j) ^^^ (((g (4 * c) ^^^ g (4 * c + 1)) ^^^ g (4 * c + 2)) ^^^ g (4 * c + 3))) ^^^ xt (g (4 * c + j) ^^^ g (4 * c + (j + 1) % 4))
theorem mxA_MX {g : Nat → Nat} (hg : ∀ i, g i < 256) (c j : Nat) (hj : j < 4) : mxA g c j = MX g (4 * c + j) := by
  have h := colsumA g (4 * c + j)
  rw [show (4 * c + j) / 4 = c by omega] at h
  unfold mxA MX m0
  rw [h, show 4 * c + (j + 1) % 4 = nx (4 * c + j) 1 by unfold nx; omega, xt_lin (hg _) (hg _)]
  generalize g (4 * c + j) = a; generalize g (nx (4 * c + j) 1) = b; generalize g (nx (4 * c + j) 2) = c; generalize g (nx (4 * c + j) 3) = d
  generalize xt a = a1; generalize xt b = b1
  simp only [Nat.xor_assoc, Nat.xor_comm, xor_lc, Nat.xor_self, Nat.xor_zero, Nat.zero_xor, xor_xc]
end Go.Proofs.Ytokkhnjedmlbhaa.M
end
section
namespace Go.Proofs.Ytokkhnjedmlbhaa.Pr
open Go.RowKit Go.Proofs.YtokkhnjedmlbhaaW.PrintWords Go.Proofs.YtokkhnjedmlbhaaW.PrintLast Go.Proofs.YtokkhnjedmlbhaaW.PrintMore Go.Proofs.YtokkhnjedmlbhaaHw Go.Proofs.YtokkhnjedmlbhaaGf
theorem tabR_at (p v : Nat) (hp : p < 7) (hv : v < 256) : (tabR 256).getD (256 * p + v) 0 = ((tabV 256 (256 * p + v) : Nat) : Int) := by
  have : 256 * p + v < 1792 := by omega
  simp [tabR, this]
theorem tab_sub (v : Nat) (hv : v < 256) : (tabR 256).getD v 0 = ((M.sN v : Nat) : Int) := by
  have h := tabR_at 0 v (by omega) hv
  rw [show 256 * 0 + v = v by omega] at h
  rw [h]
  unfold tabV
  rw [show v / 256 = 0 by omega, show v % 256 = v by omega, if_neg (by decide), if_pos hv]
  rfl
theorem tab_oth (p v : Nat) (hp : p < 7) (h1 : p ≠ 1) (hv : v < 256) : (tabR 256).getD (256 * p + v) 0 = ((tabF p v : Nat) : Int) := by
  rw [tabR_at p v hp hv]
  unfold tabV
  rw [show (256 * p + v) / 256 = p by omega, show (256 * p + v) % 256 = v by omega, if_neg h1, if_pos hv]
/-- Sixteen bytes. -/
def L16 (f : Nat → Nat) : List Int := (List.range 16).map fun q => ((f q : Nat) : Int)
theorem L16_length (f : Nat → Nat) : (L16 f).length = 16 := by simp [L16]
theorem L16_get (f : Nat → Nat) (i : Nat) (hi : i < 16) : (L16 f).getD i 0 = ((f i : Nat) : Int) := by simp [L16, hi]
def C16 (f : Nat → Nat) : Nat → Int := fun q => ((f q : Nat) : Int)
theorem L16_C (f : Nat → Nat) : L16 f = (List.range 16).map (C16 f) := rfl
theorem cells_16 (s : ByteArray) (hs : s.size = 16) : (Lib.byteCells s.data.toList).take 16 = (L16 (M.bb s)).map (Value.int .u8) := by
  apply List.ext_getElem
  · rw [List.length_take, Lib.byteCells_length, List.length_map, L16_length, ← Lib.size_eq]; omega
  · intro i h1 h2
    have hi : i < 16 := by rw [List.length_map, L16_length] at h2; exact h2
    simp only [List.getElem_take, Lib.byteCells, List.getElem_map, L16, List.getElem_range]
    rw [← M.bt_bb, ← bt_at s (i : Int) (by simp; omega)]
    rfl
theorem L16_xor {f : Nat → Nat} (hf : ∀ i, f i < 256) (key : ByteArray) : ((List.range 16).map fun q => Go.bits .xor .u8 (C16 f q) (bt key q)) = L16 (fun q => f q ^^^ M.bb key q) := by
  apply List.map_congr_left
  intro q _
  show Go.bits .xor .u8 ((f q : Nat) : Int) (bt key (q : Int)) = _
  rw [M.bt_bb, M.bx (hf q) (M.bb_lt key q)]
/-- A key added to sixteen bytes. -/
theorem add_nat (g : Nat) (f : Nat → Nat) (hf : ∀ i, f i < 256) (key : ByteArray) (w : World) (hg : BY w g 65 (L16 f)) (hk : key.size = 16) :
    Calls Try.prog 194 #[.pointer (some ⟨g, 0, none⟩), .string key] w fun e w' => e = .returned (.tuple #[]) ∧ BY w' g 65 (L16 fun q => f q ^^^ M.bb key q) ∧ w.grownBy w' (some g) := by
  refine (add_calls g (C16 f) key w hg hk).mono fun e w' h => ?_
  rw [L16_xor hf] at h
  exact h
/-- The same, with what else is known of the memory. -/
theorem add_both {w0 W : World} {g h : Nat} {f : Nat → Nat} {ys : List Int} (key : ByteArray) (hf : ∀ i, f i < 256) (hg : BY W g 65 (L16 f)) (hh : BY W h 65 ys) (hne : h ≠ g) (hB : Below w0.heap.size w0 W) (hbg : w0.heap.size ≤ g) (hk : key.size = 16) :
    Calls Try.prog 194 #[.pointer (some ⟨g, 0, none⟩), .string key] W fun e w' => e = .returned (.tuple #[]) ∧ BY w' g 65 (L16 fun q => f q ^^^ M.bb key q) ∧ BY w' h 65 ys ∧ Below w0.heap.size w0 w' := by
  refine (add_nat g f hf key W hg hk).mono fun e w' h' => ?_
  obtain ⟨h1, h2, h3⟩ := h'
  exact ⟨h1, h2, hh.same (h3.block _ hh.lt (fun e => hne (by injection e))), hB.grown h3 hB.size (fun q hq => by injection hq with hq; omega)⟩
def kAt (ks : List ByteArray) (j : Nat) : ByteArray := ks.getD j ByteArray.empty
theorem StrRow.at_ {w : World} {g : Nat} {ps : List ByteArray} (h : StrRow w g ps) (j : Nat) (hj : j < ps.length) : w.cell? ⟨g, j, none⟩ = some (.string (kAt ps j)) := by
  refine h.cell j _ ?_
  simp [kAt, List.getD_eq_getElem?_getD, hj]
theorem strL16 (f : Nat → Nat) : strOfNums (L16 f) = M.T f := by
  unfold M.T
  rw [← M.strOfNums_cast, List.map_map]
  rfl
theorem conv_L16 {W : World} {g : Nat} {f : Nat → Nat} (h : BY W g 65 (L16 f)) : (convert 66 9 (.slice (some ⟨g, 0, none⟩) 16 16)).run Try.prog W = .ok (.string (M.T f)) W := by
  rw [← strL16]
  exact run_convert_bytes_arg (P := Try.prog) W 66 5 Try.underlying66 Try.underlying5 g 0 16 16 (L16 f) (L16_length f) (fun i hi => by
    rw [Nat.zero_add]
    exact h.cell i (by rw [L16_length]; exact hi)) 9 Try.underlying9
theorem drop_at {ks : List ByteArray} {i : Nat} (h : i < ks.length) : ks.drop i = kAt ks i :: ks.drop (i + 1) := by
  rw [List.drop_eq_getElem_cons h]
  simp [kAt, List.getD_eq_getElem?_getD, h]
set_option maxHeartbeats 4000000 in
set_option maxRecDepth 100000 in
theorem enc_calls (g n : Nat) (ks : List ByteArray) (s : ByteArray) (w : World) (hC : IsC w g n ks) (hs : s.size = 16) (hl : 2 ≤ ks.length) (hl2 : ks.length ≤ 100) (hk : M.all16 ks) :
    Calls Try.prog 106 #[.pointer (some ⟨g, 0, none⟩), .string s] w fun e w' => e = .returned (.tuple #[.string (M.encT ks s), .int .i64 0]) ∧ Below w.heap.size w w' := by
  have HC := Aside0.mk hC
  have HSZ := Aside0.mk hs
  have HKS := Aside0.mk hk
  obtain ⟨gk, cap, gt, c1, c2, hS, hT⟩ := hC.cells
  have HSR := Aside0.mk hS
  have HT := Aside0.mk hT
  have hgk := hS.lt
  have hgt := hT.lt
  have hgl := hC.lt
  have hk0 : M.all16 ks := hk
  have HK0 : Aside0 (∀ j, j < ks.length → (kAt ks j).size = 16) := ⟨fun j hj => by
    unfold kAt
    rw [List.getD_eq_getElem?_getD, List.getElem?_eq_getElem hj]
    exact hk0 _ (List.getElem_mem hj)⟩
  have HC1 := Aside0.mk c1
  have HC2 := Aside0.mk c2
  obtain ⟨W1, hW1⟩ : ∃ W1 : World, W1 = ((w.alloc (.cells #[.int .u8 0, .int .u8 0, .int .u8 0, .int .u8 0, .int .u8 0, .int .u8 0, .int .u8 0, .int .u8 0, .int .u8 0, .int .u8 0, .int .u8 0, .int .u8 0, .int .u8 0, .int .u8 0, .int .u8 0, .int .u8 0] 65)).alloc (.cells #[.int .u8 0, .int .u8 0, .int .u8 0, .int .u8 0, .int .u8 0, .int .u8 0, .int .u8 0, .int .u8 0, .int .u8 0, .int .u8 0, .int .u8 0, .int .u8 0, .int .u8 0, .int .u8 0, .int .u8 0, .int .u8 0] 65)).setRow w.heap.size ((L16 (M.bb s)).map (Value.int .u8)).toArray := ⟨_, rfl⟩
  have hz0 : ((w.alloc (.cells #[.int .u8 0, .int .u8 0, .int .u8 0, .int .u8 0, .int .u8 0, .int .u8 0, .int .u8 0, .int .u8 0, .int .u8 0, .int .u8 0, .int .u8 0, .int .u8 0, .int .u8 0, .int .u8 0, .int .u8 0, .int .u8 0] 65)).alloc (.cells #[.int .u8 0, .int .u8 0, .int .u8 0, .int .u8 0, .int .u8 0, .int .u8 0, .int .u8 0, .int .u8 0, .int .u8 0, .int .u8 0, .int .u8 0, .int .u8 0, .int .u8 0, .int .u8 0, .int .u8 0, .int .u8 0] 65)).heap[w.heap.size]? = some (.cells #[.int .u8 0, .int .u8 0, .int .u8 0, .int .u8 0, .int .u8 0, .int .u8 0, .int .u8 0, .int .u8 0, .int .u8 0, .int .u8 0, .int .u8 0, .int .u8 0, .int .u8 0, .int .u8 0, .int .u8 0, .int .u8 0] 65 (0, 0)) := (heap_alloc_old _ _ (by simp)).trans (heap_alloc_new w _)
  have hcp : ∀ (ty : TypeId), (Builtin.copy_ #[66, 9] ty #[.slice (some ⟨w.heap.size, 0, none⟩) 16 16, .string s]).run Try.prog ((w.alloc (.cells #[.int .u8 0, .int .u8 0, .int .u8 0, .int .u8 0, .int .u8 0, .int .u8 0, .int .u8 0, .int .u8 0, .int .u8 0, .int .u8 0, .int .u8 0, .int .u8 0, .int .u8 0, .int .u8 0, .int .u8 0, .int .u8 0] 65)).alloc (.cells #[.int .u8 0, .int .u8 0, .int .u8 0, .int .u8 0, .int .u8 0, .int .u8 0, .int .u8 0, .int .u8 0, .int .u8 0, .int .u8 0, .int .u8 0, .int .u8 0, .int .u8 0, .int .u8 0, .int .u8 0, .int .u8 0] 65)) = .ok (goInt 16) W1 := fun ty => by
    rw [hW1, ← cells_16 s hs]
    exact run_copy_str (P := Try.prog) _ 66 9 ty 5 w.heap.size 16 16 s #[.int .u8 0, .int .u8 0, .int .u8 0, .int .u8 0, .int .u8 0, .int .u8 0, .int .u8 0, .int .u8 0, .int .u8 0, .int .u8 0, .int .u8 0, .int .u8 0, .int .u8 0, .int .u8 0, .int .u8 0, .int .u8 0] 65 Try.underlying66 (by kernel_rfl) hz0 (by omega) rfl
  have hB1 : Below w.heap.size w W1 := by
    rw [hW1]
    exact below_setRow (((Below.refl _ _).alloc (Nat.le_refl _) _).alloc (by simp) _) (Nat.le_refl _) _
  have hs1 : BY W1 w.heap.size 65 (L16 (M.bb s)) := by
    rw [hW1]
    exact setRow_heap _ _ _ _ _ _ hz0
  have ht1 : BY W1 (w.heap.size + 1) 65 (L16 fun _ => 0) := by
    rw [hW1]
    have h : ((w.alloc (.cells #[.int .u8 0, .int .u8 0, .int .u8 0, .int .u8 0, .int .u8 0, .int .u8 0, .int .u8 0, .int .u8 0, .int .u8 0, .int .u8 0, .int .u8 0, .int .u8 0, .int .u8 0, .int .u8 0, .int .u8 0, .int .u8 0] 65)).alloc (.cells #[.int .u8 0, .int .u8 0, .int .u8 0, .int .u8 0, .int .u8 0, .int .u8 0, .int .u8 0, .int .u8 0, .int .u8 0, .int .u8 0, .int .u8 0, .int .u8 0, .int .u8 0, .int .u8 0, .int .u8 0, .int .u8 0] 65)).heap[w.heap.size + 1]? = some (.cells #[.int .u8 0, .int .u8 0, .int .u8 0, .int .u8 0, .int .u8 0, .int .u8 0, .int .u8 0, .int .u8 0, .int .u8 0, .int .u8 0, .int .u8 0, .int .u8 0, .int .u8 0, .int .u8 0, .int .u8 0, .int .u8 0] 65 (0, 0)) := by
      have := heap_alloc_new (w.alloc (.cells #[.int .u8 0, .int .u8 0, .int .u8 0, .int .u8 0, .int .u8 0, .int .u8 0, .int .u8 0, .int .u8 0, .int .u8 0, .int .u8 0, .int .u8 0, .int .u8 0, .int .u8 0, .int .u8 0, .int .u8 0, .int .u8 0] 65)) (.cells #[.int .u8 0, .int .u8 0, .int .u8 0, .int .u8 0, .int .u8 0, .int .u8 0, .int .u8 0, .int .u8 0, .int .u8 0, .int .u8 0, .int .u8 0, .int .u8 0, .int .u8 0, .int .u8 0, .int .u8 0, .int .u8 0] 65)
      simpa using this
    exact (setRow_other _ _ _ _ (by omega)).trans h
  have HCOP := Aside0.mk hcp
  have HB1 := Aside0.mk hB1
  have HS1 := Aside0.mk hs1
  have HT1 := Aside0.mk ht1
  have d1 : W1.cell? ⟨g, 1, none⟩ = some (.slice (some ⟨gk, 0, none⟩) ks.length cap) := pw_cell_below hB1 c1
  have d2 : W1.cell? ⟨gk, 0, none⟩ = some (.string (kAt ks 0)) := pw_cell_below hB1 (hS.at_ 0 (by omega))
  clear hW1 hz0 hB1 hs1 ht1 hS hT hk hk0 hs c1 c2 hC HCOP
  go_enter Try.func106, Try.ntmps106
  go_wp2_with (first | (go_at_call 193; (with_reducible refine (may_ok g n ks s _ HC.out HSZ.out).mono ?_); rintro e w' ⟨rfl, hw'⟩; have hw2 := hw'.symm; subst hw2) | (go_at_call 194; (with_reducible refine (add_both (w0 := w) _ (M.bb_lt s) HS1.out HT1.out (by omega) HB1.out (Nat.le_refl _) (HK0.out 0 (by omega))).mono ?_); rintro e W2 ⟨rfl, hs2, ht2, hb2⟩; have d3 := pw_cell_below hb2 HC1.out))
  have HS2 := Aside0.mk hs2
  have HT2 := Aside0.mk ht2
  have HB2 := Aside0.mk hb2
  clear hs2 ht2 hb2
  have HF0 : Aside0 (∀ q, (fun q => M.bb s q ^^^ M.bb (kAt ks 0) q) q < 256) := ⟨fun q => xor_lt (M.bb_lt _ _) (M.bb_lt _ _)⟩
  have HE0 : Aside0 (M.fwd (ks.drop 1) (M.T fun q => M.bb s q ^^^ M.bb (kAt ks 0) q) = M.encT ks s) := ⟨by
    cases ks with
    | nil => simp at hl
    | cons k0 kt =>
      show M.fwd kt _ = M.fwd kt (M.kyT s k0)
      rw [M.ky_16 HSZ.out (HKS.out k0 (by simp))]
      rfl⟩
  clear hcp d1 d2 d3 HB1 HS1 HT1
  generalize (fun q => M.bb s q ^^^ M.bb (kAt ks 0) q) = f0 at *
  go_loopw [10] (fun iv wr => ∃ (i : Nat) (f y : Nat → Nat), 1 ≤ i ∧ i < ks.length ∧ iv = .int .i64 i ∧ Aside0 (∀ q, f q < 256) ∧ Aside0 (M.fwd (ks.drop i) (M.T f) = M.encT ks s) ∧ Aside0 (BY wr w.heap.size 65 (L16 f)) ∧ Aside0 (BY wr (w.heap.size + 1) 65 (L16 y)) ∧ Aside0 (Below w.heap.size w wr)) (fun iv _ => ks.length - (intOf iv).toNat)
  case atStart => exact ⟨1, f0, fun _ => 0, by omega, by omega, rfl, HF0, HE0, HS2, HT2, HB2⟩
  case round =>
    clear HF0 HE0 HS2 HT2 HB2
    obtain ⟨i, f, y, hi1, hi2, rfl, HF, HE, HS2, HT2, HB2⟩ := hrel
    go_wp2
    go_loopw [39] (fun kv wr => ∃ k : Nat, k ≤ 16 ∧ kv = .int .i64 k ∧ Aside0 (BY wr w.heap.size 65 (L16 f)) ∧ Aside0 (BY wr (w.heap.size + 1) 65 (mixL k (C16 (M.F1 f)) (C16 y))) ∧ Aside0 (Below w.heap.size w wr)) (fun kv _ => 16 - (intOf kv).toNat)
    case atStart => exact ⟨0, Nat.zero_le _, rfl, HS2, ⟨by rw [mixL_zero]; exact HT2.out⟩, HB2⟩
    case round =>
      clear HS2 HT2 HB2
      obtain ⟨k, hk, rfl, HS2, HT2, HB2⟩ := hrel
      by_cases hlt : k < 16
      · have e2 : wr.cell? ⟨g, 2, none⟩ = some (.pointer (some ⟨gt, 0, none⟩)) := pw_cell_below HB2.out HC2.out
        have hlt5 : 5 * k % 16 < 16 := Nat.mod_lt _ (by omega)
        have e3 := HS2.out.cell (5 * k % 16) (by rw [L16_length]; exact hlt5)
        rw [L16_get f _ hlt5] at e3
        have hfv := HF.out (5 * k % 16)
        have e4 := (HT.out.below HB2.out).cell (f (5 * k % 16)) (by rw [tabR_length]; omega)
        rw [tab_sub _ hfv, show M.sN (f (5 * k % 16)) = M.F1 f k from rfl] at e4
        have e5 := HT2.out.frozen k
        have e6 := HT2.out.cell k (by rw [mixL_length]; exact hlt)
        go_wp2
        go_region
        go_wp2
        have HS3 : Aside0 (BY ((wr.setCell ⟨w.heap.size + 1, k, none⟩ (.int .u8 ((M.F1 f k : Nat) : Int))).drew) w.heap.size 65 (L16 f)) := ⟨HS2.out.same ((grownBy_set wr (w.heap.size + 1) k _).block _ HS2.out.lt (by simp))⟩
        exact ⟨⟨k + 1, hlt, by go_num, HS3, ⟨by rw [← mixL_set]; exact (HT2.out.set k _).drew⟩, ⟨below_drew1 (below_set HB2.out (by omega))⟩⟩, by simp [intOf]; omega⟩
      · obtain rfl : k = 16 := by omega
        have HT3 : Aside0 (BY wr (w.heap.size + 1) 65 (L16 (M.F1 f))) := ⟨by rw [L16_C, ← mixL_all _ (C16 y)]; exact HT2.out⟩
        clear HT2 hlt hk
        have hkl := HK0.out i hi2
        have d1 : wr.cell? ⟨g, 1, none⟩ = some (.slice (some ⟨gk, 0, none⟩) ks.length cap) := pw_cell_below HB2.out HC1.out
        have d2 : wr.cell? ⟨gk, i, none⟩ = some (.string (kAt ks i)) := pw_cell_below HB2.out (HSR.out.at_ i hi2)
        by_cases hlast : i = ks.length - 1
        · have hI : ((i : Int) == ((ks.length : Int) - 1)) = true := beq_iff_eq.mpr (by omega)
          have d3 : wr.cell? ⟨gk, ks.length - 1, none⟩ = some (.string (kAt ks (ks.length - 1))) := by rw [← hlast]; exact d2
          have HEND : Aside0 (M.T (fun q => M.F1 f q ^^^ M.bb (kAt ks (ks.length - 1)) q) = M.encT ks s) := ⟨by
            rw [← hlast, ← M.do_last HF.out hkl, ← HE.out, drop_at hi2, hlast, show ks.length - 1 + 1 = ks.length by omega, List.drop_length]
            rfl⟩
          rw [hlast] at hkl
          have HKL := Aside0.mk hkl
          clear d2 hlast HE hkl
          go_wp2_with (go_at_call 194; (with_reducible refine (add_both (w0 := w) _ (M.F1_lt f) HT3.out HS2.out (by omega) HB2.out (by omega) HKL.out).mono ?_); rintro e W3 ⟨rfl, hs3, ht3, hb3⟩; have hcv := conv_L16 hs3; have HB3 := Aside0.mk hb3; clear hs3 ht3 hb3)
          go_ret2
          exact ⟨by rw [← HEND.out]; simp, HB3.out⟩
        · have hI : ((i : Int) == ((ks.length : Int) - 1)) = false := beq_eq_false_iff_ne.mpr (by omega)
          have hi3 : i + 1 < ks.length := by omega
          clear hlast
          go_wp2
          go_loopw [12] (fun kv wr => ∃ c : Nat, c ≤ 4 ∧ kv = .int .i64 ((4 * c : Nat) : Int) ∧ Aside0 (BY wr w.heap.size 65 (mixL (4 * c) (C16 (M.MX (M.F1 f))) (C16 f))) ∧ Aside0 (BY wr (w.heap.size + 1) 65 (L16 (M.F1 f))) ∧ Aside0 (Below w.heap.size w wr)) (fun kv _ => 16 - (intOf kv).toNat)
          case atStart => exact ⟨0, Nat.zero_le _, rfl, ⟨by rw [Nat.mul_zero, mixL_zero]; exact HS2.out⟩, HT3, HB2⟩
          case round =>
            clear HS2 HT3 HB2 d1 d2
            obtain ⟨c, hc, rfl, HS2, HT2, HB2⟩ := hrel
            by_cases hlc : c < 4
            · have a0 := HT2.out.cell (4 * c) (by rw [L16_length]; omega)
              have a1 := HT2.out.cell (4 * c + 1) (by rw [L16_length]; omega)
              have a2 := HT2.out.cell (4 * c + 2) (by rw [L16_length]; omega)
              have a3 := HT2.out.cell (4 * c + 3) (by rw [L16_length]; omega)
              rw [L16_get _ _ (by omega)] at a0 a1 a2 a3
              have x1 := M.bx (M.F1_lt f (4 * c)) (M.F1_lt f (4 * c + 1))
              have x2 := M.bx (xor_lt (M.F1_lt f (4 * c)) (M.F1_lt f (4 * c + 1))) (M.F1_lt f (4 * c + 2))
              have x3 := M.bx (xor_lt (xor_lt (M.F1_lt f (4 * c)) (M.F1_lt f (4 * c + 1))) (M.F1_lt f (4 * c + 2))) (M.F1_lt f (4 * c + 3))
              go_wp2
              go_region
              clear a0 a1 a2 a3 x1 x2 x3
              have HS3 := Aside0.mk HS2.out.drew
              have HT3 := Aside0.mk HT2.out.drew
              have HB3 := Aside0.mk (below_drew1 HB2.out)
              clear HS2 HT2 HB2
              generalize hA : M.F1 f (4 * c) ^^^ M.F1 f (4 * c + 1) ^^^ M.F1 f (4 * c + 2) ^^^ M.F1 f (4 * c + 3) = A
              have hAl : A < 256 := by rw [← hA]; exact xor_lt (xor_lt (xor_lt (M.F1_lt f _) (M.F1_lt f _)) (M.F1_lt f _)) (M.F1_lt f _)
              have HA := Aside0.mk hA
              clear hA
              go_wp2
              go_loopw [83] (fun jv wr => ∃ j : Nat, j ≤ 4 ∧ jv = .int .i64 j ∧ Aside0 (BY wr w.heap.size 65 (mixL (4 * c + j) (C16 (M.MX (M.F1 f))) (C16 f))) ∧ Aside0 (BY wr (w.heap.size + 1) 65 (L16 (M.F1 f))) ∧ Aside0 (Below w.heap.size w wr)) (fun jv _ => 4 - (intOf jv).toNat)
              case atStart => exact ⟨0, Nat.zero_le _, rfl, HS3, HT3, HB3⟩
              case round =>
                clear HS3 HT3 HB3
                obtain ⟨j, hj, rfl, HS2, HT2, HB2⟩ := hrel
                by_cases hlj : j < 4
                · have hm : (j + 1) % 4 < 4 := Nat.mod_lt _ (by omega)
                  have a0 := HT2.out.cell (4 * c + j) (by rw [L16_length]; omega)
                  have a1 := HT2.out.cell (4 * c + (j + 1) % 4) (by rw [L16_length]; omega)
                  rw [L16_get _ _ (by omega)] at a0 a1
                  have l0 := M.F1_lt f (4 * c + j)
                  have l1 := M.F1_lt f (4 * c + (j + 1) % 4)
                  have x0 := M.bx l0 hAl
                  have x1 := M.bx l0 l1
                  have lx := xor_lt l0 l1
                  have e2 : wr.cell? ⟨g, 2, none⟩ = some (.pointer (some ⟨gt, 0, none⟩)) := pw_cell_below HB2.out HC2.out
                  have e4 := (HT.out.below HB2.out).cell (256 * 2 + (M.F1 f (4 * c + j) ^^^ M.F1 f (4 * c + (j + 1) % 4))) (by rw [tabR_length]; omega)
                  rw [tab_oth 2 _ (by omega) (by omega) lx, show tabF 2 (M.F1 f (4 * c + j) ^^^ M.F1 f (4 * c + (j + 1) % 4)) = xt (M.F1 f (4 * c + j) ^^^ M.F1 f (4 * c + (j + 1) % 4)) from rfl, show 256 * 2 = 512 from rfl] at e4
                  have x2 := M.bx (xor_lt l0 hAl) (xt_lt lx)
                  have hmx := M.mxA_MX (M.F1_lt f) c j hlj
                  unfold M.mxA at hmx
                  rw [HA.out] at hmx
                  rw [hmx] at x2
                  have e5 := HS2.out.frozen (4 * c + j)
                  have e6 := HS2.out.cell (4 * c + j) (by rw [mixL_length]; omega)
                  clear hmx
                  go_wp2
                  go_region
                  go_wp2
                  have HT3 : Aside0 (BY ((wr.setCell ⟨w.heap.size, 4 * c + j, none⟩ (.int .u8 ((M.MX (M.F1 f) (4 * c + j) : Nat) : Int))).drew) (w.heap.size + 1) 65 (L16 (M.F1 f))) := ⟨HT2.out.same ((grownBy_set wr w.heap.size (4 * c + j) _).block _ HT2.out.lt (by simp))⟩
                  exact ⟨⟨j + 1, hlj, by go_num, ⟨by rw [← Nat.add_assoc, ← mixL_set]; exact (HS2.out.set (4 * c + j) _).drew⟩, HT3, ⟨below_drew1 (below_set HB2.out (Nat.le_refl _))⟩⟩, by simp [intOf]; omega⟩
                · obtain rfl : j = 4 := by omega
                  go_wp2
                  exact ⟨⟨c + 1, hlc, by go_num, by rw [Nat.mul_succ]; exact HS2, HT2, HB2⟩, by simp [intOf]; omega⟩
            · obtain rfl : c = 4 := by omega
              have hs4 : BY wr w.heap.size 65 (L16 (M.MX (M.F1 f))) := by rw [L16_C, ← mixL_all _ (C16 f)]; exact HS2.out
              have HS4 := Aside0.mk hs4
              have HE4 : Aside0 (M.fwd (ks.drop (i + 1)) (M.T (fun q => M.MX (M.F1 f) q ^^^ M.bb (kAt ks i) q)) = M.encT ks s) := ⟨by
                rw [← HE.out, drop_at hi2, ← M.do_mid HF.out hkl, drop_at hi3]
                rfl⟩
              have HF4 : Aside0 (∀ q, (fun q => M.MX (M.F1 f) q ^^^ M.bb (kAt ks i) q) q < 256) := ⟨fun q => xor_lt (M.MX_lt (M.F1_lt f) _) (M.bb_lt _ _)⟩
              have HKL := Aside0.mk hkl
              have d1 : wr.cell? ⟨g, 1, none⟩ = some (.slice (some ⟨gk, 0, none⟩) ks.length cap) := pw_cell_below HB2.out HC1.out
              have d2 : wr.cell? ⟨gk, i, none⟩ = some (.string (kAt ks i)) := pw_cell_below HB2.out (HSR.out.at_ i hi2)
              clear hs4 HS2 HE HF hkl
              go_wp2_with (go_at_call 194; (with_reducible refine (add_both (w0 := w) _ (M.MX_lt (M.F1_lt f)) HS4.out HT2.out (by omega) HB2.out (Nat.le_refl _) HKL.out).mono ?_); rintro e W3 ⟨rfl, hs3, ht3, hb3⟩; have HS5 := Aside0.mk hs3; have HT5 := Aside0.mk ht3; have HB5 := Aside0.mk hb3; clear hs3 ht3 hb3)
              exact ⟨⟨i + 1, _, _, by omega, by omega, by go_num, HF4, HE4, HS5, HT5, HB5⟩, by simp [intOf]; omega⟩
end Go.Proofs.Ytokkhnjedmlbhaa.Pr
end
section
namespace Go.Proofs.Ytokkhnjedmlbhaa.M
def dbN (g : Nat → Nat) (i : Nat) : Nat := if i < 15 then 2 * g i % 256 + g (i + 1) / 128 else (2 * g 15 % 256) ^^^ (g 0 / 128 * 135)
def dblT (b : ByteArray) : ByteArray := if b.size = 16 then T (dbN (bb b)) else ⟨#[]⟩
end Go.Proofs.Ytokkhnjedmlbhaa.M
end
section
namespace Go.Proofs.Ytokkhnjedmlbhaa.Pr
open Go.RowKit Go.Proofs.YtokkhnjedmlbhaaW.PrintWords Go.Proofs.YtokkhnjedmlbhaaW.PrintLast Go.Proofs.YtokkhnjedmlbhaaW.PrintMore Go.Proofs.YtokkhnjedmlbhaaHw Go.Proofs.YtokkhnjedmlbhaaGf
theorem L16_set (f : Nat → Nat) (k x : Nat) (_hk : k < 16) : (L16 f).set k ((x : Nat) : Int) = L16 (fun q => if q = k then x else f q) := by
  apply List.ext_getElem
  · simp [L16]
  · intro i h1 h2
    have hi : i < 16 := by rw [L16_length] at h2; exact h2
    rw [List.getElem_set]
    simp only [L16, List.getElem_map, List.getElem_range]
    by_cases e : k = i
    · rw [if_pos e, if_pos e.symm]
    · rw [if_neg e, if_neg (fun h => e h.symm)]
theorem L16_congr {f g : Nat → Nat} (h : ∀ q, q < 16 → f q = g q) : L16 f = L16 g := List.map_congr_left (fun q hq => by rw [h q (List.mem_range.1 hq)])
/-- What stands at place q behind the loop. -/
def dbV (g : Nat → Nat) (q : Nat) : Nat := if q < 15 then 2 * g q % 256 + g (q + 1) / 128 else 2 * g 15 % 256
/-- What is carried to place n - 1. -/
def dbC (g : Nat → Nat) (n : Nat) : Nat := if n < 16 then g n / 128 else 0
def clavigerref11_Double.f (b : ByteArray) : Option ByteArray := some (M.dblT b)
set_option maxHeartbeats 2000000 in
set_option maxRecDepth 100000 in
theorem rdbl_16 (b : ByteArray) (w : World) (hs : b.size = 16) :
    Calls Try.prog 113 #[.string b] w fun e w' => e = .returned (.string (M.T (M.dbN (M.bb b)))) ∧ Below w.heap.size w w' := by
  have e1 : (((b.size : Nat) : Int) != 16) = false := by simp; omega
  have hb := M.bb_lt b
  have HS := Aside0.mk hs
  have HB := Aside0.mk hb
  clear hb
  go_enter Try.func113, Try.ntmps113
  go_wp2
  have hz : BY (w.alloc (.cells #[.int .u8 0, .int .u8 0, .int .u8 0, .int .u8 0, .int .u8 0, .int .u8 0, .int .u8 0, .int .u8 0, .int .u8 0, .int .u8 0, .int .u8 0, .int .u8 0, .int .u8 0, .int .u8 0, .int .u8 0, .int .u8 0] 65)) w.heap.size 65 (L16 fun _ => 0) := heap_alloc_new w _
  have hbl : Below w.heap.size w (w.alloc (.cells #[.int .u8 0, .int .u8 0, .int .u8 0, .int .u8 0, .int .u8 0, .int .u8 0, .int .u8 0, .int .u8 0, .int .u8 0, .int .u8 0, .int .u8 0, .int .u8 0, .int .u8 0, .int .u8 0, .int .u8 0, .int .u8 0] 65)) := below_alloc (Below.refl _ _) _
  generalize w.alloc (.cells #[.int .u8 0, .int .u8 0, .int .u8 0, .int .u8 0, .int .u8 0, .int .u8 0, .int .u8 0, .int .u8 0, .int .u8 0, .int .u8 0, .int .u8 0, .int .u8 0, .int .u8 0, .int .u8 0, .int .u8 0, .int .u8 0] 65) = w1 at *
  have HZ := Aside0.mk hz
  have HBL := Aside0.mk hbl
  clear hz hbl e1 hs
  go_loopw [4, 5] (fun cv iv wr => ∃ n : Nat, n ≤ 16 ∧ cv = .int .i64 ((dbC (M.bb b) n : Nat) : Int) ∧ iv = .int .i64 ((n : Int) - 1) ∧ Aside0 (BY wr w.heap.size 65 (L16 fun q => if n ≤ q then dbV (M.bb b) q else 0)) ∧ Aside0 (Below w.heap.size w wr)) (fun _ iv _ => (intOf iv + 1).toNat)
  case atStart => exact ⟨16, Nat.le_refl _, rfl, rfl, ⟨by rw [L16_congr (g := fun _ => 0) (fun q hq => by rw [if_neg (by omega)])]; exact HZ.out⟩, HBL⟩
  case round =>
    clear HZ HBL
    obtain ⟨n, hn, rfl, rfl, HK, HBW⟩ := hrel
    cases n with
    | succ m =>
      rw [show (((m + 1 : Nat) : Int) - 1) = (m : Int) by omega]
      have hms : m < b.size := by rw [HS.out]; omega
      have hbt : ((b[m]'hms).toNat : Int) = ((M.bb b m : Nat) : Int) := by rw [← M.bt_bb]; exact bt_at b (m : Int) (by simpa using hms)
      have hbm := HB.out m
      have hc : dbC (M.bb b) (m + 1) < 2 := by have := HB.out (m + 1); unfold dbC; split <;> omega
      have hv : dbV (M.bb b) m = (2 * M.bb b m + dbC (M.bb b) (m + 1)) % 256 := by
        unfold dbV dbC
        by_cases h : m < 15
        · rw [if_pos h, if_pos (by omega)]; have := HB.out (m + 1); omega
        · rw [if_neg h, if_neg (by omega), show m = 15 by omega]; rfl
      have hc2 : dbC (M.bb b) m = (2 * M.bb b m + dbC (M.bb b) (m + 1)) / 256 := by
        have h1 : dbC (M.bb b) m = M.bb b m / 128 := by unfold dbC; rw [if_pos (by omega)]
        rw [h1]
        omega
      have f0 := HK.out.frozen m
      have c0 := HK.out.cell m (by rw [L16_length]; omega)
      rw [L16_get _ _ (by omega)] at c0
      generalize hg : dbC (M.bb b) (m + 1) = c at *
      generalize M.bb b m = x at *
      go_wp2
      have hk2 := HK.out.set m (((2 * x + c) % 256 : Nat) : Int)
      rw [L16_set _ m _ (by omega), L16_congr (g := fun q => if m ≤ q then dbV (M.bb b) q else 0) (fun q hq => by
        by_cases e : q = m
        · rw [if_pos e, if_pos (by omega), e, hv]
        · rw [if_neg e]
          by_cases e2 : m + 1 ≤ q
          · rw [if_pos e2, if_pos (by omega)]
          · rw [if_neg e2, if_neg (by omega)]), show (((2 * x + c) % 256 : Nat) : Int) = (2 * (x : Int) + (c : Int)) % 256 from rfl] at hk2
      refine ⟨⟨m, by omega, ?_, rfl, ⟨hk2⟩, ⟨below_set HBW.out (Nat.le_refl _)⟩⟩, by simp [intOf]⟩
      rw [hc2]
      rfl
    | zero =>
      rw [show (((0 : Nat) : Int) - 1) = -1 from rfl]
      have hk0 : BY wr w.heap.size 65 (L16 (dbV (M.bb b))) := by have h := HK.out; rwa [L16_congr (g := dbV (M.bb b)) (fun q _ => if_pos (Nat.zero_le q))] at h
      have hc : dbC (M.bb b) 0 = M.bb b 0 / 128 := by unfold dbC; rw [if_pos (by omega)]
      have hb0 := HB.out 0
      have h15 := HB.out 15
      have hv : dbV (M.bb b) 15 = 2 * M.bb b 15 % 256 := by unfold dbV; rw [if_neg (by omega)]
      have c0 := hk0.cell 15 (by rw [L16_length]; omega)
      rw [L16_get _ _ (by omega)] at c0
      have f0 := hk0.frozen 15
      by_cases h1 : M.bb b 0 / 128 = 1
      · have e1 : (((dbC (M.bb b) 0 : Nat) : Int) == 1) = true := by rw [hc, h1]; rfl
        have x0 : Go.bits .xor .u8 ((dbV (M.bb b) 15 : Nat) : Int) 135 = ((dbV (M.bb b) 15 ^^^ 135 : Nat) : Int) := M.bx (a := dbV (M.bb b) 15) (b := 135) (by rw [hv]; omega) (by omega)
        have hk2 := hk0.set 15 ((dbV (M.bb b) 15 ^^^ 135 : Nat) : Int)
        rw [L16_set _ 15 _ (by omega), L16_congr (g := M.dbN (M.bb b)) (fun q hq => by
          unfold M.dbN
          by_cases e : q = 15
          · rw [if_pos e, if_neg (by omega), hv, h1]
          · rw [if_neg e, if_pos (by omega)]; unfold dbV; rw [if_pos (by omega)])] at hk2
        have hcv := conv_L16 hk2
        have HBW2 := Aside0.mk (below_set (v := .int .u8 ((dbV (M.bb b) 15 ^^^ 135 : Nat) : Int)) (j := 15) (g := w.heap.size) HBW.out (Nat.le_refl _))
        clear hk2 hk0 HK hc hv h1
        go_wp2
        go_ret
        exact ⟨rfl, HBW2.out⟩
      · have e1 : (((dbC (M.bb b) 0 : Nat) : Int) == 1) = false := by rw [hc]; exact beq_eq_false_iff_ne.mpr (by omega)
        have hk2 := hk0
        rw [L16_congr (g := M.dbN (M.bb b)) (fun q hq => by
          unfold M.dbN
          by_cases e : q = 15
          · rw [if_neg (by omega), show M.bb b 0 / 128 = 0 by omega, e, hv]; simp
          · rw [if_pos (by omega)]; unfold dbV; rw [if_pos (by omega)])] at hk2
        have hcv := conv_L16 hk2
        clear hk2 hk0 HK hc hv h1
        go_wp2
        go_ret
        exact ⟨rfl, HBW.out⟩
theorem clavigerref11_Double.calls (b r : ByteArray) (w : World) (h : clavigerref11_Double.f b = some r) :
    Calls Try.prog 113 #[.string b] w fun e w' => e = .returned (.string r) ∧ Below w.heap.size w w' := by
  unfold clavigerref11_Double.f M.dblT at h
  obtain rfl := Option.some.inj h
  by_cases hs : b.size = 16
  · rw [if_pos hs]
    exact rdbl_16 b w hs
  · rw [if_neg hs]
    have e1 : (((b.size : Nat) : Int) != 16) = true := by simp; omega
    clear h hs
    go_enter Try.func113, Try.ntmps113
    go_wp2
    go_ret
    exact ⟨rfl, Below.refl _ _⟩
end Go.Proofs.Ytokkhnjedmlbhaa.Pr
end
section
namespace Go.Proofs.Ytokkhnjedmlbhaa.Pr
open Go.RowKit Go.Proofs.YtokkhnjedmlbhaaW.PrintWords Go.Proofs.YtokkhnjedmlbhaaW.PrintLast Go.Proofs.YtokkhnjedmlbhaaW.PrintMore Go.Proofs.YtokkhnjedmlbhaaHw
attribute [local go_sem] max2_int min2_int max_two min_two max_three min_three max_four min_four
/-- What lies in the row behind k rounds. -/
def xorRow (a b : ByteArray) (m k : Nat) : List Int := (List.range m).map fun i => if i < k then Go.bits .xor .u8 (bt a i) (bt b i) else bt a i
theorem xorRow_length (a b : ByteArray) (m k : Nat) : (xorRow a b m k).length = m := by simp [xorRow]
theorem xorRow_zero (a b : ByteArray) (m : Nat) (h : m ≤ a.size) : (Lib.byteCells a.data.toList).take m = (xorRow a b m 0).map (Value.int .u8) := by
  apply List.ext_getElem
  · rw [List.length_take, Lib.byteCells_length, List.length_map, xorRow_length, ← Lib.size_eq]; omega
  · intro i h1 h2
    have hi : i < m := by simpa [xorRow] using h2
    simp only [List.getElem_take, Lib.byteCells, List.getElem_map, xorRow, List.getElem_range, Nat.not_lt_zero, if_false]
    rw [← bt_at a (i : Int) (by simp; omega)]
    rfl
theorem xorRow_get (a b : ByteArray) (m k : Nat) (h : k < m) : ((xorRow a b m k).map (Value.int .u8)).toArray[k]? = some (.int .u8 (bt a k)) := by
  simp [xorRow, h]
theorem xorRow_set (a b : ByteArray) (m k : Nat) : ((xorRow a b m k).map (Value.int .u8)).toArray.setIfInBounds k (.int .u8 (Go.bits .xor .u8 (bt a k) (bt b k))) = ((xorRow a b m (k + 1)).map (Value.int .u8)).toArray := by
  apply Array.ext'
  simp only [Array.toList_setIfInBounds]
  apply List.ext_getElem
  · simp [xorRow]
  · intro i h1 h2
    have hi : i < m := by simpa [xorRow] using h2
    rw [List.getElem_set]
    by_cases e : k = i
    · subst e; simp [xorRow]
    · rw [if_neg e]
      simp only [List.getElem_map, xorRow, List.getElem_range]
      have : (i < k) = (i < k + 1) := by apply propext; omega
      simp only [this]
def octets_Xor.f (a b : ByteArray) : Option ByteArray := if min a.size b.size ≤ 281474976710656 then some (strOfNums (xorRow a b (min a.size b.size) (min a.size b.size))) else none
set_option maxHeartbeats 1000000 in
theorem octets_Xor.loop (a b : ByteArray) (m : Nat) (w : World) (hm : m ≤ 281474976710656) (ha : m ≤ a.size) (hb : m ≤ b.size) (hmin : (if (b.size : Int) < (a.size : Int) then (b.size : Int) else (a.size : Int)) = (m : Int)) (hmin2 : (if b.size < a.size then (b.size : Int) else (a.size : Int)) = (m : Int)) :
    Calls Try.prog 170 #[.string a, .string b] w fun e w' => e = .returned (.string (strOfNums (xorRow a b m m))) ∧ Below w.heap.size w w' := by
  have hmk := print_make (P := Try.prog) 66 5 .u8 1 Try.underlying66 (by kernel_rfl) (by decide) m (by omega)
  have hcp : ∀ (ty : TypeId), (Builtin.copy_ #[66, 9] ty #[.slice (some ⟨w.heap.size, 0, none⟩) m m, .string a]).run Try.prog (w.alloc (.cells (madeCells #[.int .u8 0] m) 5)) = .ok (goInt m) ((w.alloc (.cells (madeCells #[.int .u8 0] m) 5)).setRow w.heap.size ((xorRow a b m 0).map (Value.int .u8)).toArray) := fun ty => by
    rw [← xorRow_zero a b m ha]
    exact run_copy_str (P := Try.prog) _ 66 9 ty 5 w.heap.size m m a _ 5 Try.underlying66 (by kernel_rfl) (heap_alloc_new w _) ha (by simp [size_madeCells])
  go_enter Try.func170, Try.ntmps170
  go_wp2
  clear hmk hcp
  have hbk := setRow_heap (w.alloc (.cells (madeCells #[.int .u8 0] m) 5)) w.heap.size _ ((xorRow a b m 0).map (Value.int .u8)).toArray 5 (0, 0) (heap_alloc_new w _)
  have hbl : Below w.heap.size w ((w.alloc (.cells (madeCells #[.int .u8 0] m) 5)).setRow w.heap.size ((xorRow a b m 0).map (Value.int .u8)).toArray) := below_setRow ((Below.refl _ _).alloc (Nat.le_refl _) _) (Nat.le_refl _) _
  have HK := Aside0.mk hbk
  have HL := Aside0.mk hbl
  clear hbk hbl hmin hmin2
  go_loopw [18] (fun i wr => ∃ k : Nat, k ≤ m ∧ i = .int .i64 k ∧ Aside0 (wr.heap[w.heap.size]? = some (.cells ((xorRow a b m k).map (Value.int .u8)).toArray 5 (0, 0))) ∧ Aside0 (Below w.heap.size w wr)) (fun i _ => m - (intOf i).toNat)
  case atStart => exact ⟨0, Nat.zero_le _, rfl, HK, HL⟩
  case round =>
    clear HK HL
    obtain ⟨k, hk, rfl, HK, HB⟩ := hrel
    by_cases hlt : k < m
    · have hc : wr.cell? ⟨w.heap.size, k, none⟩ = some (.int .u8 (bt a k)) := (blk_cell HK.out k).trans (xorRow_get a b m k hlt)
      have hf : wr.frozen? ⟨w.heap.size, k, none⟩ = false := blk_frozen HK.out k
      have hbi : k < b.size := by omega
      go_wp2
      go_region
      go_wp2
      have hbt : ((b[k]'hbi).toNat : Int) = bt b k := bt_at b (k : Int) (by simpa using hbi)
      rw [hbt]
      have hs : ((wr.setCell ⟨w.heap.size, k, none⟩ (.int .u8 (Go.bits .xor .u8 (bt a k) (bt b k)))).drew).heap[w.heap.size]? = some (.cells ((xorRow a b m (k + 1)).map (Value.int .u8)).toArray 5 (0, 0)) := by
        rw [← xorRow_set a b m k]
        exact blk_set HK.out k _
      exact ⟨⟨k + 1, hlt, by go_num, ⟨hs⟩, ⟨below_drew1 (below_set HB.out (Nat.le_refl _))⟩⟩, by simp [intOf]; omega⟩
    · obtain rfl : k = m := by omega
      have hcv := run_convert_bytes_arg (P := Try.prog) wr 66 5 Try.underlying66 Try.underlying5 w.heap.size 0 k k (xorRow a b k k) (xorRow_length a b k k) (fun i hi => by
        rw [Nat.zero_add, blk_cell HK.out i]
        simp [List.getD_eq_getElem?_getD, List.getElem?_eq_getElem (show i < (xorRow a b k k).length by rw [xorRow_length]; exact hi)]) 9 Try.underlying9
      go_wp2
      go_ret
      exact ⟨rfl, HB.out⟩
theorem octets_Xor.calls (a b : ByteArray) (r : ByteArray) (w : World) (h : octets_Xor.f a b = some r) :
    Calls Try.prog 170 #[.string a, .string b] w fun e w' => e = .returned (.string r) ∧ Below w.heap.size w w' := by
  unfold octets_Xor.f at h
  split at h
  case isFalse => cases h
  case isTrue hm =>
  obtain rfl := Option.some.inj h
  exact octets_Xor.loop a b (min a.size b.size) w hm (by omega) (by omega) (by split <;> omega) (by split <;> omega)
end Go.Proofs.Ytokkhnjedmlbhaa.Pr
end
