-- several texts in one (by the session's program shake.py)
import Derived.Test.YtokkhnjedmlbhaaZRoundM
import Derived.Test.YtokkhnjedmlbhaaZShelf
import Derived.ScopeJumps
import Derived.Test.YtokkhnjedmlbhaaZJoin
import Derived.Laws.BitsAllLaws
import Derived.Test.YtokkhnjedmlbhaaZPrg01x
section
namespace Go.Proofs.Ytokkhnjedmlbhaa.M
open Go.RowKit Go.Proofs.Ytokkhnjedmlbhaa.Pr Go.Proofs.YtokkhnjedmlbhaaW.PrintWords Go.Proofs.YtokkhnjedmlbhaaW.PrintLast Go.Proofs.YtokkhnjedmlbhaaW.PrintMore Go.Proofs.YtokkhnjedmlbhaaGf
set_option linter.unusedSimpArgs false
def fwd : List ByteArray → ByteArray → ByteArray
  | [], s => s
  | k :: ks, s => fwd ks (doT s k ks.isEmpty)
def bwd : List ByteArray → ByteArray → ByteArray
  | [], s => s
  | k :: ks, s => unT (bwd ks s) k ks.isEmpty
/-- A block, encrypted; decrypted. -/
def encT (ks : List ByteArray) (s : ByteArray) : ByteArray := match ks with
  | [] => s
  | k :: ks => fwd ks (kyT s k)
def decT (ks : List ByteArray) (s : ByteArray) : ByteArray := match ks with
  | [] => s
  | k :: ks => kyT (bwd ks s) k
def all16 (ks : List ByteArray) : Prop := ∀ k ∈ ks, k.size = 16
theorem fwd_size : ∀ {ks : List ByteArray} {s : ByteArray}, all16 ks → s.size = 16 → (fwd ks s).size = 16
  | [], _, _, hs => hs
  | k :: ks, s, h, hs => fwd_size (ks := ks) (fun x hx => h x (by simp [hx])) (do_size hs (h k (by simp)) _)
theorem enc_size {ks : List ByteArray} {s : ByteArray} (h : all16 ks) (hs : s.size = 16) : (encT ks s).size = 16 := by
  cases ks with
  | nil => exact hs
  | cons k ks => exact fwd_size (fun x hx => h x (by simp [hx])) (ky_size hs (h k (by simp)))
/-- One round, on numbers. -/
def F1 (f : Nat → Nat) (q : Nat) : Nat := sN (f (5 * q % 16))
theorem F1_lt (f : Nat → Nat) (q : Nat) : F1 f q < 256 := sN_lt _
theorem SH_F1 (f : Nat → Nat) (q : Nat) : SH (fun j => sN (f j)) q = F1 f q := by
  unfold SH F1
  congr 2
  omega
theorem sb_T {f : Nat → Nat} (hf : ∀ i, f i < 256) : sbT (T f) = T (fun j => sN (f j)) := by
  unfold sbT T
  rw [nb_mkB (isB_map hf _), List.map_map]
  rfl
theorem sh_sb {f : Nat → Nat} (hf : ∀ i, f i < 256) : shT (sbT (T f)) = T (F1 f) := by
  rw [sb_T hf]
  unfold shT
  rw [if_pos (T_size _)]
  exact T_congr (fun i hi => (SH_congr (T_out (fun j => sN_lt (f j))) i).trans (SH_F1 f i))
theorem ky_T {f : Nat → Nat} (hf : ∀ i, f i < 256) {k : ByteArray} (hk : k.size = 16) : kyT (T f) k = T (fun q => f q ^^^ bb k q) := by
  rw [ky_16 (T_size _) hk]
  exact T_congr (fun i hi => by rw [T_out hf i hi])
theorem do_last {f : Nat → Nat} (hf : ∀ i, f i < 256) {k : ByteArray} (hk : k.size = 16) : doT (T f) k true = T (fun q => F1 f q ^^^ bb k q) := by
  unfold doT
  rw [if_pos (T_size _), if_pos hk, if_pos rfl, sh_sb hf, ky_T (F1_lt f) hk]
theorem mx_T {f : Nat → Nat} (hf : ∀ i, f i < 256) : mxT (T f) = T (MX f) := by
  unfold mxT
  rw [if_pos (T_size _)]
  exact T_congr (fun i hi => MX_congr (T_out hf) hi)
theorem do_mid {f : Nat → Nat} (hf : ∀ i, f i < 256) {k : ByteArray} (hk : k.size = 16) : doT (T f) k false = T (fun q => MX (F1 f) q ^^^ bb k q) := by
  unfold doT
  rw [if_pos (T_size _), if_pos hk, if_neg (by simp), sh_sb hf, mx_T (F1_lt f), ky_T (MX_lt (F1_lt f)) hk]
/-- Back: the bytes for which they stand, rows moved back. -/
def B1 (f : Nat → Nat) (q : Nat) : Nat := bN (f (13 * q % 16))
theorem colsumA (g : Nat → Nat) (i : Nat) : ((g (4 * (i / 4)) ^^^ g (4 * (i / 4) + 1)) ^^^ g (4 * (i / 4) + 2)) ^^^ g (4 * (i / 4) + 3) = g i ^^^ (g (nx i 1) ^^^ (g (nx i 2) ^^^ g (nx i 3))) := by
  obtain h | h | h | h : i % 4 = 0 ∨ i % 4 = 1 ∨ i % 4 = 2 ∨ i % 4 = 3 := by omega
  · rw [show g i = g (4 * (i / 4)) from congrArg g (by omega), show nx i 1 = 4 * (i / 4) + 1 by unfold nx; omega, show nx i 2 = 4 * (i / 4) + 2 by unfold nx; omega, show nx i 3 = 4 * (i / 4) + 3 by unfold nx; omega]
    simp only [Nat.xor_assoc]
  · rw [show g i = g (4 * (i / 4) + 1) from congrArg g (by omega), show nx i 1 = 4 * (i / 4) + 2 by unfold nx; omega, show nx i 2 = 4 * (i / 4) + 3 by unfold nx; omega, show nx i 3 = 4 * (i / 4) by unfold nx; omega]
    generalize g (4 * (i / 4)) = a; generalize g (4 * (i / 4) + 1) = b; generalize g (4 * (i / 4) + 2) = c; generalize g (4 * (i / 4) + 3) = d
    simp only [Nat.xor_assoc, Nat.xor_comm, xor_lc]
  · rw [show g i = g (4 * (i / 4) + 2) from congrArg g (by omega), show nx i 1 = 4 * (i / 4) + 3 by unfold nx; omega, show nx i 2 = 4 * (i / 4) by unfold nx; omega, show nx i 3 = 4 * (i / 4) + 1 by unfold nx; omega]
    generalize g (4 * (i / 4)) = a; generalize g (4 * (i / 4) + 1) = b; generalize g (4 * (i / 4) + 2) = c; generalize g (4 * (i / 4) + 3) = d
    simp only [Nat.xor_assoc, Nat.xor_comm, xor_lc]
  · rw [show g i = g (4 * (i / 4) + 3) from congrArg g (by omega), show nx i 1 = 4 * (i / 4) by unfold nx; omega, show nx i 2 = 4 * (i / 4) + 1 by unfold nx; omega, show nx i 3 = 4 * (i / 4) + 2 by unfold nx; omega]
    generalize g (4 * (i / 4)) = a; generalize g (4 * (i / 4) + 1) = b; generalize g (4 * (i / 4) + 2) = c; generalize g (4 * (i / 4) + 3) = d
    simp only [Nat.xor_assoc, Nat.xor_comm, xor_lc]
def mxA (g : Nat → Nat) (c j : Nat) : Nat := (g (4 * c + j) ^^^ (((g (4 * c) ^^^ g (4 * c + 1)) ^^^ g (4 * c + 2)) ^^^ g (4 * c + 3))) ^^^ xt (g (4 * c + j) ^^^ g (4 * c + (j + 1) % 4))
theorem mxA_MX {g : Nat → Nat} (hg : ∀ i, g i < 256) (c j : Nat) (hj : j < 4) : mxA g c j = MX g (4 * c + j) := by
  have h := colsumA g (4 * c + j)
  rw [show (4 * c + j) / 4 = c by omega] at h
  unfold mxA MX m0
  rw [h, show 4 * c + (j + 1) % 4 = nx (4 * c + j) 1 by unfold nx; omega, xt_lin (hg _) (hg _)]
  generalize g (4 * c + j) = a; generalize g (nx (4 * c + j) 1) = b; generalize g (nx (4 * c + j) 2) = c; generalize g (nx (4 * c + j) 3) = d
  generalize xt a = a1; generalize xt b = b1
  simp only [Nat.xor_assoc, Nat.xor_comm, xor_lc, Nat.xor_self, Nat.xor_zero, Nat.zero_xor, xor_xc]
end Go.Proofs.Ytokkhnjedmlbhaa.M
end
section
namespace Go.Proofs.Ytokkhnjedmlbhaa.Pr
open Go.RowKit Go.Proofs.YtokkhnjedmlbhaaW.PrintWords Go.Proofs.YtokkhnjedmlbhaaW.PrintLast Go.Proofs.YtokkhnjedmlbhaaW.PrintMore Go.Proofs.YtokkhnjedmlbhaaHw Go.Proofs.YtokkhnjedmlbhaaGf
theorem tabR_at (p v : Nat) (hp : p < 7) (hv : v < 256) : (tabR 256).getD (256 * p + v) 0 = ((tabV 256 (256 * p + v) : Nat) : Int) := by
  have : 256 * p + v < 1792 := by omega
  simp [tabR, this]
theorem tab_sub (v : Nat) (hv : v < 256) : (tabR 256).getD v 0 = ((M.sN v : Nat) : Int) := by
  have h := tabR_at 0 v (by omega) hv
  rw [show 256 * 0 + v = v by omega] at h
  rw [h]
  unfold tabV
  rw [show v / 256 = 0 by omega, show v % 256 = v by omega, if_neg (by decide), if_pos hv]
  rfl
theorem tab_oth (p v : Nat) (hp : p < 7) (h1 : p ≠ 1) (hv : v < 256) : (tabR 256).getD (256 * p + v) 0 = ((tabF p v : Nat) : Int) := by
  rw [tabR_at p v hp hv]
  unfold tabV
  rw [show (256 * p + v) / 256 = p by omega, show (256 * p + v) % 256 = v by omega, if_neg h1, if_pos hv]
/-- Sixteen bytes. -/
def L16 (f : Nat → Nat) : List Int := (List.range 16).map fun q => ((f q : Nat) : Int)
theorem L16_length (f : Nat → Nat) : (L16 f).length = 16 := by simp [L16]
theorem L16_get (f : Nat → Nat) (i : Nat) (hi : i < 16) : (L16 f).getD i 0 = ((f i : Nat) : Int) := by simp [L16, hi]
def C16 (f : Nat → Nat) : Nat → Int := fun q => ((f q : Nat) : Int)
theorem L16_C (f : Nat → Nat) : L16 f = (List.range 16).map (C16 f) := rfl
theorem cells_16 (s : ByteArray) (hs : s.size = 16) : (Lib.byteCells s.data.toList).take 16 = (L16 (M.bb s)).map (Value.int .u8) := by
  apply List.ext_getElem
  · rw [List.length_take, Lib.byteCells_length, List.length_map, L16_length, ← Lib.size_eq]; omega
  · intro i h1 h2
    have hi : i < 16 := by rw [List.length_map, L16_length] at h2; exact h2
    simp only [List.getElem_take, Lib.byteCells, List.getElem_map, L16, List.getElem_range]
    rw [← M.bt_bb, ← bt_at s (i : Int) (by simp; omega)]
    rfl
theorem L16_xor {f : Nat → Nat} (hf : ∀ i, f i < 256) (key : ByteArray) : ((List.range 16).map fun q => Go.bits .xor .u8 (C16 f q) (bt key q)) = L16 (fun q => f q ^^^ M.bb key q) := by
  apply List.map_congr_left
  intro q _
  show Go.bits .xor .u8 ((f q : Nat) : Int) (bt key (q : Int)) = _
  rw [M.bt_bb, M.bx (hf q) (M.bb_lt key q)]
/-- A key added to sixteen bytes. -/
theorem add_nat (g : Nat) (f : Nat → Nat) (hf : ∀ i, f i < 256) (key : ByteArray) (w : World) (hg : BY w g 65 (L16 f)) (hk : key.size = 16) :
    Calls Try.prog 194 #[.pointer (some ⟨g, 0, none⟩), .string key] w fun e w' => e = .returned (.tuple #[]) ∧ BY w' g 65 (L16 fun q => f q ^^^ M.bb key q) ∧ w.grownBy w' (some g) := by
  refine (add_calls g (C16 f) key w hg hk).mono fun e w' h => ?_
  rw [L16_xor hf] at h
  exact h
/-- The same, with what else is known of the memory. -/
theorem add_both {w0 W : World} {g h : Nat} {f : Nat → Nat} {ys : List Int} (key : ByteArray) (hf : ∀ i, f i < 256) (hg : BY W g 65 (L16 f)) (hh : BY W h 65 ys) (hne : h ≠ g) (hB : Below w0.heap.size w0 W) (hbg : w0.heap.size ≤ g) (hk : key.size = 16) :
    Calls Try.prog 194 #[.pointer (some ⟨g, 0, none⟩), .string key] W fun e w' => e = .returned (.tuple #[]) ∧ BY w' g 65 (L16 fun q => f q ^^^ M.bb key q) ∧ BY w' h 65 ys ∧ Below w0.heap.size w0 w' := by
  refine (add_nat g f hf key W hg hk).mono fun e w' h' => ?_
  obtain ⟨h1, h2, h3⟩ := h'
  exact ⟨h1, h2, hh.same (h3.block _ hh.lt (fun e => hne (by injection e))), hB.grown h3 hB.size (fun q hq => by injection hq with hq; omega)⟩
def kAt (ks : List ByteArray) (j : Nat) : ByteArray := ks.getD j ByteArray.empty
theorem StrRow.at_ {w : World} {g : Nat} {ps : List ByteArray} (h : StrRow w g ps) (j : Nat) (hj : j < ps.length) : w.cell? ⟨g, j, none⟩ = some (.string (kAt ps j)) := by
  refine h.cell j _ ?_
  simp [kAt, List.getD_eq_getElem?_getD, hj]
theorem strL16 (f : Nat → Nat) : strOfNums (L16 f) = M.T f := by
  unfold M.T
  rw [← M.strOfNums_cast, List.map_map]
  rfl
theorem conv_L16 {W : World} {g : Nat} {f : Nat → Nat} (h : BY W g 65 (L16 f)) : (convert 66 9 (.slice (some ⟨g, 0, none⟩) 16 16)).run Try.prog W = .ok (.string (M.T f)) W := by
  rw [← strL16]
  exact run_convert_bytes_arg (P := Try.prog) W 66 5 Try.underlying66 Try.underlying5 g 0 16 16 (L16 f) (L16_length f) (fun i hi => by
    rw [Nat.zero_add]
    exact h.cell i (by rw [L16_length]; exact hi)) 9 Try.underlying9
theorem drop_at {ks : List ByteArray} {i : Nat} (h : i < ks.length) : ks.drop i = kAt ks i :: ks.drop (i + 1) := by
  rw [List.drop_eq_getElem_cons h]
  simp [kAt, List.getD_eq_getElem?_getD, h]
set_option maxHeartbeats 4000000 in
set_option maxRecDepth 100000 in
theorem enc_calls (g n : Nat) (ks : List ByteArray) (s : ByteArray) (w : World) (hC : IsC w g n ks) (hs : s.size = 16) (hl : 2 ≤ ks.length) (hl2 : ks.length ≤ 100) (hk : M.all16 ks) :
    Calls Try.prog 106 #[.pointer (some ⟨g, 0, none⟩), .string s] w fun e w' => e = .returned (.tuple #[.string (M.encT ks s), .int .i64 0]) ∧ Below w.heap.size w w' := by
  have HC := Aside0.mk hC
  have HSZ := Aside0.mk hs
  have HKS := Aside0.mk hk
  obtain ⟨gk, cap, gt, c1, c2, hS, hT⟩ := hC.cells
  have HSR := Aside0.mk hS
  have HT := Aside0.mk hT
  have hgk := hS.lt
  have hgt := hT.lt
  have hgl := hC.lt
  have hk0 : M.all16 ks := hk
  have HK0 : Aside0 (∀ j, j < ks.length → (kAt ks j).size = 16) := ⟨fun j hj => by
    unfold kAt
    rw [List.getD_eq_getElem?_getD, List.getElem?_eq_getElem hj]
    exact hk0 _ (List.getElem_mem hj)⟩
  have HC1 := Aside0.mk c1
  have HC2 := Aside0.mk c2
  obtain ⟨W1, hW1⟩ : ∃ W1 : World, W1 = ((w.alloc (.cells #[.int .u8 0, .int .u8 0, .int .u8 0, .int .u8 0, .int .u8 0, .int .u8 0, .int .u8 0, .int .u8 0, .int .u8 0, .int .u8 0, .int .u8 0, .int .u8 0, .int .u8 0, .int .u8 0, .int .u8 0, .int .u8 0] 65)).alloc (.cells #[.int .u8 0, .int .u8 0, .int .u8 0, .int .u8 0, .int .u8 0, .int .u8 0, .int .u8 0, .int .u8 0, .int .u8 0, .int .u8 0, .int .u8 0, .int .u8 0, .int .u8 0, .int .u8 0, .int .u8 0, .int .u8 0] 65)).setRow w.heap.size ((L16 (M.bb s)).map (Value.int .u8)).toArray := ⟨_, rfl⟩
  have hz0 : ((w.alloc (.cells #[.int .u8 0, .int .u8 0, .int .u8 0, .int .u8 0, .int .u8 0, .int .u8 0, .int .u8 0, .int .u8 0, .int .u8 0, .int .u8 0, .int .u8 0, .int .u8 0, .int .u8 0, .int .u8 0, .int .u8 0, .int .u8 0] 65)).alloc (.cells #[.int .u8 0, .int .u8 0, .int .u8 0, .int .u8 0, .int .u8 0, .int .u8 0, .int .u8 0, .int .u8 0, .int .u8 0, .int .u8 0, .int .u8 0, .int .u8 0, .int .u8 0, .int .u8 0, .int .u8 0, .int .u8 0] 65)).heap[w.heap.size]? = some (.cells #[.int .u8 0, .int .u8 0, .int .u8 0, .int .u8 0, .int .u8 0, .int .u8 0, .int .u8 0, .int .u8 0, .int .u8 0, .int .u8 0, .int .u8 0, .int .u8 0, .int .u8 0, .int .u8 0, .int .u8 0, .int .u8 0] 65 (0, 0)) := (heap_alloc_old _ _ (by simp)).trans (heap_alloc_new w _)
  have hcp : ∀ (ty : TypeId), (Builtin.copy_ #[66, 9] ty #[.slice (some ⟨w.heap.size, 0, none⟩) 16 16, .string s]).run Try.prog ((w.alloc (.cells #[.int .u8 0, .int .u8 0, .int .u8 0, .int .u8 0, .int .u8 0, .int .u8 0, .int .u8 0, .int .u8 0, .int .u8 0, .int .u8 0, .int .u8 0, .int .u8 0, .int .u8 0, .int .u8 0, .int .u8 0, .int .u8 0] 65)).alloc (.cells #[.int .u8 0, .int .u8 0, .int .u8 0, .int .u8 0, .int .u8 0, .int .u8 0, .int .u8 0, .int .u8 0, .int .u8 0, .int .u8 0, .int .u8 0, .int .u8 0, .int .u8 0, .int .u8 0, .int .u8 0, .int .u8 0] 65)) = .ok (goInt 16) W1 := fun ty => by
    rw [hW1, ← cells_16 s hs]
    exact run_copy_str (P := Try.prog) _ 66 9 ty 5 w.heap.size 16 16 s #[.int .u8 0, .int .u8 0, .int .u8 0, .int .u8 0, .int .u8 0, .int .u8 0, .int .u8 0, .int .u8 0, .int .u8 0, .int .u8 0, .int .u8 0, .int .u8 0, .int .u8 0, .int .u8 0, .int .u8 0, .int .u8 0] 65 Try.underlying66 (by kernel_rfl) hz0 (by omega) rfl
  have hB1 : Below w.heap.size w W1 := by
    rw [hW1]
    exact below_setRow (((Below.refl _ _).alloc (Nat.le_refl _) _).alloc (by simp) _) (Nat.le_refl _) _
  have hs1 : BY W1 w.heap.size 65 (L16 (M.bb s)) := by
    rw [hW1]
    exact setRow_heap _ _ _ _ _ _ hz0
  have ht1 : BY W1 (w.heap.size + 1) 65 (L16 fun _ => 0) := by
    rw [hW1]
    have h : ((w.alloc (.cells #[.int .u8 0, .int .u8 0, .int .u8 0, .int .u8 0, .int .u8 0, .int .u8 0, .int .u8 0, .int .u8 0, .int .u8 0, .int .u8 0, .int .u8 0, .int .u8 0, .int .u8 0, .int .u8 0, .int .u8 0, .int .u8 0] 65)).alloc (.cells #[.int .u8 0, .int .u8 0, .int .u8 0, .int .u8 0, .int .u8 0, .int .u8 0, .int .u8 0, .int .u8 0, .int .u8 0, .int .u8 0, .int .u8 0, .int .u8 0, .int .u8 0, .int .u8 0, .int .u8 0, .int .u8 0] 65)).heap[w.heap.size + 1]? = some (.cells #[.int .u8 0, .int .u8 0, .int .u8 0, .int .u8 0, .int .u8 0, .int .u8 0, .int .u8 0, .int .u8 0, .int .u8 0, .int .u8 0, .int .u8 0, .int .u8 0, .int .u8 0, .int .u8 0, .int .u8 0, .int .u8 0] 65 (0, 0)) := by
      have := heap_alloc_new (w.alloc (.cells #[.int .u8 0, .int .u8 0, .int .u8 0, .int .u8 0, .int .u8 0, .int .u8 0, .int .u8 0, .int .u8 0, .int .u8 0, .int .u8 0, .int .u8 0, .int .u8 0, .int .u8 0, .int .u8 0, .int .u8 0, .int .u8 0] 65)) (.cells #[.int .u8 0, .int .u8 0, .int .u8 0, .int .u8 0, .int .u8 0, .int .u8 0, .int .u8 0, .int .u8 0, .int .u8 0, .int .u8 0, .int .u8 0, .int .u8 0, .int .u8 0, .int .u8 0, .int .u8 0, .int .u8 0] 65)
      simpa using this
    exact (setRow_other _ _ _ _ (by omega)).trans h
  have HCOP := Aside0.mk hcp
  have HB1 := Aside0.mk hB1
  have HS1 := Aside0.mk hs1
  have HT1 := Aside0.mk ht1
  have d1 : W1.cell? ⟨g, 1, none⟩ = some (.slice (some ⟨gk, 0, none⟩) ks.length cap) := pw_cell_below hB1 c1
  have d2 : W1.cell? ⟨gk, 0, none⟩ = some (.string (kAt ks 0)) := pw_cell_below hB1 (hS.at_ 0 (by omega))
  clear hW1 hz0 hB1 hs1 ht1 hS hT hk hk0 hs c1 c2 hC HCOP
  go_enter Try.func106, Try.ntmps106
  go_wp2_with (first | (go_at_call 193; (with_reducible refine (may_ok g n ks s _ HC.out HSZ.out).mono ?_); rintro e w' ⟨rfl, hw'⟩; have hw2 := hw'.symm; subst hw2) | (go_at_call 194; (with_reducible refine (add_both (w0 := w) _ (M.bb_lt s) HS1.out HT1.out (by omega) HB1.out (Nat.le_refl _) (HK0.out 0 (by omega))).mono ?_); rintro e W2 ⟨rfl, hs2, ht2, hb2⟩; have d3 := pw_cell_below hb2 HC1.out))
  have HS2 := Aside0.mk hs2
  have HT2 := Aside0.mk ht2
  have HB2 := Aside0.mk hb2
  clear hs2 ht2 hb2
  have HF0 : Aside0 (∀ q, (fun q => M.bb s q ^^^ M.bb (kAt ks 0) q) q < 256) := ⟨fun q => xor_lt (M.bb_lt _ _) (M.bb_lt _ _)⟩
  have HE0 : Aside0 (M.fwd (ks.drop 1) (M.T fun q => M.bb s q ^^^ M.bb (kAt ks 0) q) = M.encT ks s) := ⟨by
    cases ks with
    | nil => simp at hl
    | cons k0 kt =>
      show M.fwd kt _ = M.fwd kt (M.kyT s k0)
      rw [M.ky_16 HSZ.out (HKS.out k0 (by simp))]
      rfl⟩
  clear hcp d1 d2 d3 HB1 HS1 HT1
  generalize (fun q => M.bb s q ^^^ M.bb (kAt ks 0) q) = f0 at *
  go_loopw [10] (fun iv wr => ∃ (i : Nat) (f y : Nat → Nat), 1 ≤ i ∧ i < ks.length ∧ iv = .int .i64 i ∧ Aside0 (∀ q, f q < 256) ∧ Aside0 (M.fwd (ks.drop i) (M.T f) = M.encT ks s) ∧ Aside0 (BY wr w.heap.size 65 (L16 f)) ∧ Aside0 (BY wr (w.heap.size + 1) 65 (L16 y)) ∧ Aside0 (Below w.heap.size w wr)) (fun iv _ => ks.length - (intOf iv).toNat)
  case atStart => exact ⟨1, f0, fun _ => 0, by omega, by omega, rfl, HF0, HE0, HS2, HT2, HB2⟩
  case round =>
    clear HF0 HE0 HS2 HT2 HB2
    obtain ⟨i, f, y, hi1, hi2, rfl, HF, HE, HS2, HT2, HB2⟩ := hrel
    go_wp2
    go_loopw [39] (fun kv wr => ∃ k : Nat, k ≤ 16 ∧ kv = .int .i64 k ∧ Aside0 (BY wr w.heap.size 65 (L16 f)) ∧ Aside0 (BY wr (w.heap.size + 1) 65 (mixL k (C16 (M.F1 f)) (C16 y))) ∧ Aside0 (Below w.heap.size w wr)) (fun kv _ => 16 - (intOf kv).toNat)
    case atStart => exact ⟨0, Nat.zero_le _, rfl, HS2, ⟨by rw [mixL_zero]; exact HT2.out⟩, HB2⟩
    case round =>
      clear HS2 HT2 HB2
      obtain ⟨k, hk, rfl, HS2, HT2, HB2⟩ := hrel
      by_cases hlt : k < 16
      · have e2 : wr.cell? ⟨g, 2, none⟩ = some (.pointer (some ⟨gt, 0, none⟩)) := pw_cell_below HB2.out HC2.out
        have hlt5 : 5 * k % 16 < 16 := Nat.mod_lt _ (by omega)
        have e3 := HS2.out.cell (5 * k % 16) (by rw [L16_length]; exact hlt5)
        rw [L16_get f _ hlt5] at e3
        have hfv := HF.out (5 * k % 16)
        have e4 := (HT.out.below HB2.out).cell (f (5 * k % 16)) (by rw [tabR_length]; omega)
        rw [tab_sub _ hfv, show M.sN (f (5 * k % 16)) = M.F1 f k from rfl] at e4
        have e5 := HT2.out.frozen k
        have e6 := HT2.out.cell k (by rw [mixL_length]; exact hlt)
        go_wp2
        go_region
        go_wp2
        have HS3 : Aside0 (BY ((wr.setCell ⟨w.heap.size + 1, k, none⟩ (.int .u8 ((M.F1 f k : Nat) : Int))).drew) w.heap.size 65 (L16 f)) := ⟨HS2.out.same ((grownBy_set wr (w.heap.size + 1) k _).block _ HS2.out.lt (by simp))⟩
        exact ⟨⟨k + 1, hlt, by go_num, HS3, ⟨by rw [← mixL_set]; exact (HT2.out.set k _).drew⟩, ⟨below_drew1 (below_set HB2.out (by omega))⟩⟩, by simp [intOf]; omega⟩
      · obtain rfl : k = 16 := by omega
        have HT3 : Aside0 (BY wr (w.heap.size + 1) 65 (L16 (M.F1 f))) := ⟨by rw [L16_C, ← mixL_all _ (C16 y)]; exact HT2.out⟩
        clear HT2 hlt hk
        have hkl := HK0.out i hi2
        have d1 : wr.cell? ⟨g, 1, none⟩ = some (.slice (some ⟨gk, 0, none⟩) ks.length cap) := pw_cell_below HB2.out HC1.out
        have d2 : wr.cell? ⟨gk, i, none⟩ = some (.string (kAt ks i)) := pw_cell_below HB2.out (HSR.out.at_ i hi2)
        by_cases hlast : i = ks.length - 1
        · have hI : ((i : Int) == ((ks.length : Int) - 1)) = true := beq_iff_eq.mpr (by omega)
          have d3 : wr.cell? ⟨gk, ks.length - 1, none⟩ = some (.string (kAt ks (ks.length - 1))) := by rw [← hlast]; exact d2
          have HEND : Aside0 (M.T (fun q => M.F1 f q ^^^ M.bb (kAt ks (ks.length - 1)) q) = M.encT ks s) := ⟨by
            rw [← hlast, ← M.do_last HF.out hkl, ← HE.out, drop_at hi2, hlast, show ks.length - 1 + 1 = ks.length by omega, List.drop_length]
            rfl⟩
          rw [hlast] at hkl
          have HKL := Aside0.mk hkl
          clear d2 hlast HE hkl
          go_wp2_with (go_at_call 194; (with_reducible refine (add_both (w0 := w) _ (M.F1_lt f) HT3.out HS2.out (by omega) HB2.out (by omega) HKL.out).mono ?_); rintro e W3 ⟨rfl, hs3, ht3, hb3⟩; have hcv := conv_L16 hs3; have HB3 := Aside0.mk hb3; clear hs3 ht3 hb3)
          go_ret2
          exact ⟨by rw [← HEND.out]; simp, HB3.out⟩
        · have hI : ((i : Int) == ((ks.length : Int) - 1)) = false := beq_eq_false_iff_ne.mpr (by omega)
          have hi3 : i + 1 < ks.length := by omega
          clear hlast
          go_wp2
          go_loopw [12] (fun kv wr => ∃ c : Nat, c ≤ 4 ∧ kv = .int .i64 ((4 * c : Nat) : Int) ∧ Aside0 (BY wr w.heap.size 65 (mixL (4 * c) (C16 (M.MX (M.F1 f))) (C16 f))) ∧ Aside0 (BY wr (w.heap.size + 1) 65 (L16 (M.F1 f))) ∧ Aside0 (Below w.heap.size w wr)) (fun kv _ => 16 - (intOf kv).toNat)
          case atStart => exact ⟨0, Nat.zero_le _, rfl, ⟨by rw [Nat.mul_zero, mixL_zero]; exact HS2.out⟩, HT3, HB2⟩
          case round =>
            clear HS2 HT3 HB2 d1 d2
            obtain ⟨c, hc, rfl, HS2, HT2, HB2⟩ := hrel
            by_cases hlc : c < 4
            · have a0 := HT2.out.cell (4 * c) (by rw [L16_length]; omega)
              have a1 := HT2.out.cell (4 * c + 1) (by rw [L16_length]; omega)
              have a2 := HT2.out.cell (4 * c + 2) (by rw [L16_length]; omega)
              have a3 := HT2.out.cell (4 * c + 3) (by rw [L16_length]; omega)
              rw [L16_get _ _ (by omega)] at a0 a1 a2 a3
              have x1 := M.bx (M.F1_lt f (4 * c)) (M.F1_lt f (4 * c + 1))
              have x2 := M.bx (xor_lt (M.F1_lt f (4 * c)) (M.F1_lt f (4 * c + 1))) (M.F1_lt f (4 * c + 2))
              have x3 := M.bx (xor_lt (xor_lt (M.F1_lt f (4 * c)) (M.F1_lt f (4 * c + 1))) (M.F1_lt f (4 * c + 2))) (M.F1_lt f (4 * c + 3))
              go_wp2
              go_region
              clear a0 a1 a2 a3 x1 x2 x3
              have HS3 := Aside0.mk HS2.out.drew
              have HT3 := Aside0.mk HT2.out.drew
              have HB3 := Aside0.mk (below_drew1 HB2.out)
              clear HS2 HT2 HB2
              generalize hA : M.F1 f (4 * c) ^^^ M.F1 f (4 * c + 1) ^^^ M.F1 f (4 * c + 2) ^^^ M.F1 f (4 * c + 3) = A
              have hAl : A < 256 := by rw [← hA]; exact xor_lt (xor_lt (xor_lt (M.F1_lt f _) (M.F1_lt f _)) (M.F1_lt f _)) (M.F1_lt f _)
              have HA := Aside0.mk hA
              clear hA
              go_wp2
              go_loopw [83] (fun jv wr => ∃ j : Nat, j ≤ 4 ∧ jv = .int .i64 j ∧ Aside0 (BY wr w.heap.size 65 (mixL (4 * c + j) (C16 (M.MX (M.F1 f))) (C16 f))) ∧ Aside0 (BY wr (w.heap.size + 1) 65 (L16 (M.F1 f))) ∧ Aside0 (Below w.heap.size w wr)) (fun jv _ => 4 - (intOf jv).toNat)
              case atStart => exact ⟨0, Nat.zero_le _, rfl, HS3, HT3, HB3⟩
              case round =>
                clear HS3 HT3 HB3
                obtain ⟨j, hj, rfl, HS2, HT2, HB2⟩ := hrel
                by_cases hlj : j < 4
                · have hm : (j + 1) % 4 < 4 := Nat.mod_lt _ (by omega)
                  have a0 := HT2.out.cell (4 * c + j) (by rw [L16_length]; omega)
                  have a1 := HT2.out.cell (4 * c + (j + 1) % 4) (by rw [L16_length]; omega)
                  rw [L16_get _ _ (by omega)] at a0 a1
                  have l0 := M.F1_lt f (4 * c + j)
                  have l1 := M.F1_lt f (4 * c + (j + 1) % 4)
                  have x0 := M.bx l0 hAl
                  have x1 := M.bx l0 l1
                  have lx := xor_lt l0 l1
                  have e2 : wr.cell? ⟨g, 2, none⟩ = some (.pointer (some ⟨gt, 0, none⟩)) := pw_cell_below HB2.out HC2.out
                  have e4 := (HT.out.below HB2.out).cell (256 * 2 + (M.F1 f (4 * c + j) ^^^ M.F1 f (4 * c + (j + 1) % 4))) (by rw [tabR_length]; omega)
                  rw [tab_oth 2 _ (by omega) (by omega) lx, show tabF 2 (M.F1 f (4 * c + j) ^^^ M.F1 f (4 * c + (j + 1) % 4)) = xt (M.F1 f (4 * c + j) ^^^ M.F1 f (4 * c + (j + 1) % 4)) from rfl, show 256 * 2 = 512 from rfl] at e4
                  have x2 := M.bx (xor_lt l0 hAl) (xt_lt lx)
                  have hmx := M.mxA_MX (M.F1_lt f) c j hlj
                  unfold M.mxA at hmx
                  rw [HA.out] at hmx
                  rw [hmx] at x2
                  have e5 := HS2.out.frozen (4 * c + j)
                  have e6 := HS2.out.cell (4 * c + j) (by rw [mixL_length]; omega)
                  clear hmx
                  go_wp2
                  go_region
                  go_wp2
                  have HT3 : Aside0 (BY ((wr.setCell ⟨w.heap.size, 4 * c + j, none⟩ (.int .u8 ((M.MX (M.F1 f) (4 * c + j) : Nat) : Int))).drew) (w.heap.size + 1) 65 (L16 (M.F1 f))) := ⟨HT2.out.same ((grownBy_set wr w.heap.size (4 * c + j) _).block _ HT2.out.lt (by simp))⟩
                  exact ⟨⟨j + 1, hlj, by go_num, ⟨by rw [← Nat.add_assoc, ← mixL_set]; exact (HS2.out.set (4 * c + j) _).drew⟩, HT3, ⟨below_drew1 (below_set HB2.out (Nat.le_refl _))⟩⟩, by simp [intOf]; omega⟩
                · obtain rfl : j = 4 := by omega
                  go_wp2
                  exact ⟨⟨c + 1, hlc, by go_num, by rw [Nat.mul_succ]; exact HS2, HT2, HB2⟩, by simp [intOf]; omega⟩
            · obtain rfl : c = 4 := by omega
              have hs4 : BY wr w.heap.size 65 (L16 (M.MX (M.F1 f))) := by rw [L16_C, ← mixL_all _ (C16 f)]; exact HS2.out
              have HS4 := Aside0.mk hs4
              have HE4 : Aside0 (M.fwd (ks.drop (i + 1)) (M.T (fun q => M.MX (M.F1 f) q ^^^ M.bb (kAt ks i) q)) = M.encT ks s) := ⟨by
                rw [← HE.out, drop_at hi2, ← M.do_mid HF.out hkl, drop_at hi3]
                rfl⟩
              have HF4 : Aside0 (∀ q, (fun q => M.MX (M.F1 f) q ^^^ M.bb (kAt ks i) q) q < 256) := ⟨fun q => xor_lt (M.MX_lt (M.F1_lt f) _) (M.bb_lt _ _)⟩
              have HKL := Aside0.mk hkl
              have d1 : wr.cell? ⟨g, 1, none⟩ = some (.slice (some ⟨gk, 0, none⟩) ks.length cap) := pw_cell_below HB2.out HC1.out
              have d2 : wr.cell? ⟨gk, i, none⟩ = some (.string (kAt ks i)) := pw_cell_below HB2.out (HSR.out.at_ i hi2)
              clear hs4 HS2 HE HF hkl
              go_wp2_with (go_at_call 194; (with_reducible refine (add_both (w0 := w) _ (M.MX_lt (M.F1_lt f)) HS4.out HT2.out (by omega) HB2.out (Nat.le_refl _) HKL.out).mono ?_); rintro e W3 ⟨rfl, hs3, ht3, hb3⟩; have HS5 := Aside0.mk hs3; have HT5 := Aside0.mk ht3; have HB5 := Aside0.mk hb3; clear hs3 ht3 hb3)
              exact ⟨⟨i + 1, _, _, by omega, by omega, by go_num, HF4, HE4, HS5, HT5, HB5⟩, by simp [intOf]; omega⟩
end Go.Proofs.Ytokkhnjedmlbhaa.Pr
end
section
namespace Go.Proofs.Ytokkhnjedmlbhaa.M
def dbN (g : Nat → Nat) (i : Nat) : Nat := if i < 15 then 2 * g i % 256 + g (i + 1) / 128 else (2 * g 15 % 256) ^^^ (g 0 / 128 * 135)
def dblT (b : ByteArray) : ByteArray := if b.size = 16 then T (dbN (bb b)) else ⟨#[]⟩
end Go.Proofs.Ytokkhnjedmlbhaa.M
end
section
namespace Go.Proofs.Ytokkhnjedmlbhaa.Pr
open Go.RowKit Go.Proofs.YtokkhnjedmlbhaaW.PrintWords Go.Proofs.YtokkhnjedmlbhaaW.PrintLast Go.Proofs.YtokkhnjedmlbhaaW.PrintMore Go.Proofs.YtokkhnjedmlbhaaHw Go.Proofs.YtokkhnjedmlbhaaGf
theorem L16_set (f : Nat → Nat) (k x : Nat) (_hk : k < 16) : (L16 f).set k ((x : Nat) : Int) = L16 (fun q => if q = k then x else f q) := by
  apply List.ext_getElem
  · simp [L16]
  · intro i h1 h2
    have hi : i < 16 := by rw [L16_length] at h2; exact h2
    rw [List.getElem_set]
    simp only [L16, List.getElem_map, List.getElem_range]
    by_cases e : k = i
    · rw [if_pos e, if_pos e.symm]
    · rw [if_neg e, if_neg (fun h => e h.symm)]
theorem L16_congr {f g : Nat → Nat} (h : ∀ q, q < 16 → f q = g q) : L16 f = L16 g := List.map_congr_left (fun q hq => by rw [h q (List.mem_range.1 hq)])
def clavigerref11_Double.f (b : ByteArray) : Option ByteArray := some (M.dblT b)
end Go.Proofs.Ytokkhnjedmlbhaa.Pr
end
section
namespace Go.Proofs.Ytokkhnjedmlbhaa.Pr
open Go.RowKit Go.Proofs.YtokkhnjedmlbhaaW.PrintWords Go.Proofs.YtokkhnjedmlbhaaW.PrintLast Go.Proofs.YtokkhnjedmlbhaaW.PrintMore Go.Proofs.YtokkhnjedmlbhaaHw Go.Proofs.YtokkhnjedmlbhaaGf
theorem back_all (f y : Nat → Nat) : (L16 fun q => if 13 * q % 16 < 16 then M.B1 f q else y q) = L16 (M.B1 f) := by
  apply List.map_congr_left
  intro q _
  show ((if 13 * q % 16 < 16 then M.B1 f q else y q : Nat) : Int) = _
  rw [if_pos (Nat.mod_lt _ (by omega))]
/-- What holds at the label: the state has its key; what comes out of it is known. -/
def DecJ (ks : List ByteArray) (s : ByteArray) (g : Nat) (w : World) (a' : Act) (w' : World) : Prop := ∃ (i : Nat) (f y : Nat → Nat) (u : Nat → Value), 1 ≤ i ∧ i < ks.length ∧ Aside0 (∀ q, f q < 256) ∧ Aside0 (M.T (M.B1 f) = M.bwd (ks.drop i) s) ∧ Aside0 (BY w' w.heap.size 65 (L16 y)) ∧ Aside0 (BY w' (w.heap.size + 1) 65 (L16 f)) ∧ Aside0 (Below w.heap.size w w') ∧ a' = { tmps := #[.pointer (some ⟨g, 0, none⟩), .string s, u 2, u 3, .string ⟨#[]⟩, .int .i64 0, .int .i64 0, .pointer (some ⟨w.heap.size, 0, none⟩), .pointer (some ⟨w.heap.size + 1, 0, none⟩), .int .i64 i, u 10, u 11, u 12, u 13, u 14, u 15, u 16, u 17, u 18, u 19, u 20, u 21, u 22, u 23, u 24, u 25, u 26, u 27, u 28, u 29, u 30, u 31, u 32, u 33, u 34, u 35, u 36, u 37, u 38, u 39, u 40, u 41, u 42, u 43, u 44, u 45, u 46, u 47, u 48, u 49, u 50, u 51, u 52, u 53, u 54, u 55, u 56, u 57, u 58, u 59, u 60, u 61, u 62, u 63, u 64, u 65, u 66, u 67, u 68, u 69, u 70, u 71, u 72, u 73, u 74, u 75, u 76, u 77, u 78, u 79, u 80, u 81, u 82, u 83, u 84, u 85, u 86, u 87, u 88, u 89, u 90, u 91, u 92, u 93, u 94, u 95, u 96, u 97, u 98, u 99, u 100, u 101, u 102, u 103, u 104, u 105, u 106, u 107, u 108, u 109, u 110, u 111, u 112, u 113, u 114, u 115, u 116, u 117, u 118, u 119, u 120, u 121, u 122, u 123, u 124, u 125, u 126, u 127, u 128, u 129, u 130, u 131, u 132, u 133, u 134, u 135, u 136, u 137, u 138, u 139, u 140, u 141], defers := [] }
theorem DecJ.mk {ks : List ByteArray} {s : ByteArray} {g : Nat} {w : World} {a' : Act} {w' : World} (i : Nat) (f y : Nat → Nat) (h1 : 1 ≤ i) (h2 : i < ks.length) (h3 : Aside0 (∀ q, f q < 256)) (h4 : Aside0 (M.T (M.B1 f) = M.bwd (ks.drop i) s)) (h5 : Aside0 (BY w' w.heap.size 65 (L16 y))) (h6 : Aside0 (BY w' (w.heap.size + 1) 65 (L16 f))) (h7 : Aside0 (Below w.heap.size w w'))
    (h8 : a' = { tmps := #[.pointer (some ⟨g, 0, none⟩), .string s, a'.tmps.getD 2 undef, a'.tmps.getD 3 undef, .string ⟨#[]⟩, .int .i64 0, .int .i64 0, .pointer (some ⟨w.heap.size, 0, none⟩), .pointer (some ⟨w.heap.size + 1, 0, none⟩), .int .i64 i, a'.tmps.getD 10 undef, a'.tmps.getD 11 undef, a'.tmps.getD 12 undef, a'.tmps.getD 13 undef, a'.tmps.getD 14 undef, a'.tmps.getD 15 undef, a'.tmps.getD 16 undef, a'.tmps.getD 17 undef, a'.tmps.getD 18 undef, a'.tmps.getD 19 undef, a'.tmps.getD 20 undef, a'.tmps.getD 21 undef, a'.tmps.getD 22 undef, a'.tmps.getD 23 undef, a'.tmps.getD 24 undef, a'.tmps.getD 25 undef, a'.tmps.getD 26 undef, a'.tmps.getD 27 undef, a'.tmps.getD 28 undef, a'.tmps.getD 29 undef, a'.tmps.getD 30 undef, a'.tmps.getD 31 undef, a'.tmps.getD 32 undef, a'.tmps.getD 33 undef, a'.tmps.getD 34 undef, a'.tmps.getD 35 undef, a'.tmps.getD 36 undef, a'.tmps.getD 37 undef, a'.tmps.getD 38 undef, a'.tmps.getD 39 undef, a'.tmps.getD 40 undef, a'.tmps.getD 41 undef, a'.tmps.getD 42 undef, a'.tmps.getD 43 undef, a'.tmps.getD 44 undef, a'.tmps.getD 45 undef, a'.tmps.getD 46 undef, a'.tmps.getD 47 undef, a'.tmps.getD 48 undef, a'.tmps.getD 49 undef, a'.tmps.getD 50 undef, a'.tmps.getD 51 undef, a'.tmps.getD 52 undef, a'.tmps.getD 53 undef, a'.tmps.getD 54 undef, a'.tmps.getD 55 undef, a'.tmps.getD 56 undef, a'.tmps.getD 57 undef, a'.tmps.getD 58 undef, a'.tmps.getD 59 undef, a'.tmps.getD 60 undef, a'.tmps.getD 61 undef, a'.tmps.getD 62 undef, a'.tmps.getD 63 undef, a'.tmps.getD 64 undef, a'.tmps.getD 65 undef, a'.tmps.getD 66 undef, a'.tmps.getD 67 undef, a'.tmps.getD 68 undef, a'.tmps.getD 69 undef, a'.tmps.getD 70 undef, a'.tmps.getD 71 undef, a'.tmps.getD 72 undef, a'.tmps.getD 73 undef, a'.tmps.getD 74 undef, a'.tmps.getD 75 undef, a'.tmps.getD 76 undef, a'.tmps.getD 77 undef, a'.tmps.getD 78 undef, a'.tmps.getD 79 undef, a'.tmps.getD 80 undef, a'.tmps.getD 81 undef, a'.tmps.getD 82 undef, a'.tmps.getD 83 undef, a'.tmps.getD 84 undef, a'.tmps.getD 85 undef, a'.tmps.getD 86 undef, a'.tmps.getD 87 undef, a'.tmps.getD 88 undef, a'.tmps.getD 89 undef, a'.tmps.getD 90 undef, a'.tmps.getD 91 undef, a'.tmps.getD 92 undef, a'.tmps.getD 93 undef, a'.tmps.getD 94 undef, a'.tmps.getD 95 undef, a'.tmps.getD 96 undef, a'.tmps.getD 97 undef, a'.tmps.getD 98 undef, a'.tmps.getD 99 undef, a'.tmps.getD 100 undef, a'.tmps.getD 101 undef, a'.tmps.getD 102 undef, a'.tmps.getD 103 undef, a'.tmps.getD 104 undef, a'.tmps.getD 105 undef, a'.tmps.getD 106 undef, a'.tmps.getD 107 undef, a'.tmps.getD 108 undef, a'.tmps.getD 109 undef, a'.tmps.getD 110 undef, a'.tmps.getD 111 undef, a'.tmps.getD 112 undef, a'.tmps.getD 113 undef, a'.tmps.getD 114 undef, a'.tmps.getD 115 undef, a'.tmps.getD 116 undef, a'.tmps.getD 117 undef, a'.tmps.getD 118 undef, a'.tmps.getD 119 undef, a'.tmps.getD 120 undef, a'.tmps.getD 121 undef, a'.tmps.getD 122 undef, a'.tmps.getD 123 undef, a'.tmps.getD 124 undef, a'.tmps.getD 125 undef, a'.tmps.getD 126 undef, a'.tmps.getD 127 undef, a'.tmps.getD 128 undef, a'.tmps.getD 129 undef, a'.tmps.getD 130 undef, a'.tmps.getD 131 undef, a'.tmps.getD 132 undef, a'.tmps.getD 133 undef, a'.tmps.getD 134 undef, a'.tmps.getD 135 undef, a'.tmps.getD 136 undef, a'.tmps.getD 137 undef, a'.tmps.getD 138 undef, a'.tmps.getD 139 undef, a'.tmps.getD 140 undef, a'.tmps.getD 141 undef], defers := [] }) : DecJ ks s g w a' w' := ⟨i, f, y, fun q => a'.tmps.getD q undef, h1, h2, h3, h4, h5, h6, h7, h8⟩
end Go.Proofs.Ytokkhnjedmlbhaa.Pr
end
section
namespace Go.Proofs.Ytokkhnjedmlbhaa.M
open Go.RowKit Go.Proofs.Ytokkhnjedmlbhaa.Pr Go.Proofs.YtokkhnjedmlbhaaW.PrintWords Go.Proofs.YtokkhnjedmlbhaaW.PrintLast Go.Proofs.YtokkhnjedmlbhaaW.PrintMore Go.Proofs.YtokkhnjedmlbhaaGf
set_option linter.unusedSimpArgs false
/-- The four bytes of a word. -/
def wL (w : Nat) : List Nat := [w / 16777216 % 256, w / 65536 % 256, w / 256 % 256, w % 256]
def wB (w : Nat) : ByteArray := mkB (wL w)
theorem isB_wL (w : Nat) : isB (wL w) := by
  intro x hx
  simp only [wL, List.mem_cons, List.not_mem_nil, or_false] at hx
  rcases hx with rfl | rfl | rfl | rfl <;> exact Nat.mod_lt _ (by omega)
theorem wB_size (w : Nat) : (wB w).size = 4 := by unfold wB; rw [mkB_size]; rfl
theorem bb_mkB {l : List Nat} (h : isB l) (i : Nat) : bb (mkB l) i = l.getD i 0 := by rw [bb_nb, nb_mkB h]
theorem xor_div_mod (u v k : Nat) : (u ^^^ v) / 2 ^ k % 2 ^ 8 = (u / 2 ^ k % 2 ^ 8) ^^^ (v / 2 ^ k % 2 ^ 8) := by
  rw [← Nat.shiftRight_eq_div_pow, ← Nat.shiftRight_eq_div_pow, ← Nat.shiftRight_eq_div_pow, Nat.shiftRight_xor_distrib, Nat.xor_mod_two_pow]
theorem xorT_4 {a b : ByteArray} (ha : a.size = 4) (hb : b.size = 4) : xorT a b = mkB [bb a 0 ^^^ bb b 0, bb a 1 ^^^ bb b 1, bb a 2 ^^^ bb b 2, bb a 3 ^^^ bb b 3] := by
  unfold xorT; rw [ha, hb]; rfl
theorem wB_xor (u v : Nat) : xorT (wB u) (wB v) = wB (u ^^^ v) := by
  rw [xorT_4 (wB_size u) (wB_size v)]
  unfold wB
  rw [bb_mkB (isB_wL u), bb_mkB (isB_wL u), bb_mkB (isB_wL u), bb_mkB (isB_wL u), bb_mkB (isB_wL v), bb_mkB (isB_wL v), bb_mkB (isB_wL v), bb_mkB (isB_wL v)]
  have h0 := xor_div_mod u v 24
  have h1 := xor_div_mod u v 16
  have h2 := xor_div_mod u v 8
  have h3 := xor_div_mod u v 0
  simp only [Nat.reducePow, Nat.div_one] at h0 h1 h2 h3
  simp only [wL, h0, h1, h2, h3]
  rfl
/-- A word, turned by a byte. -/
def rotW (u : Nat) : Nat := u % 16777216 * 256 + u / 16777216
theorem rotW_lt {u : Nat} (h : u < 4294967296) : rotW u < 4294967296 := by unfold rotW; omega
theorem or_add {a b k : Nat} (h : b < 2 ^ k) : 2 ^ k * a ||| b = 2 ^ k * a + b := (Nat.two_pow_add_eq_or_of_lt h a).symm
theorem rotw_n {u : Nat} (h : u < 4294967296) : rotw (u : Int) = ((rotW u : Nat) : Int) := by
  unfold rotw
  rw [show ((u : Int) * 256 % 4294967296) = ((2 ^ 8 * (u % 16777216) : Nat) : Int) by omega, show ((u : Int) / 16777216) = ((u / 16777216 : Nat) : Int) by omega, u32_or_nat _ _ (by omega) (by omega), or_add (by omega)]
  unfold rotW
  congr 1
  omega
theorem wB_rot {u : Nat} (h : u < 4294967296) : wB (rotW u) = (wB u).extract 1 4 ++ (wB u).extract 0 1 := by
  rw [extract_nb, extract_nb, mkB_append]
  unfold wB
  rw [nb_mkB (isB_wL u)]
  congr 1
  simp only [wL, rotW, List.take_succ_cons, List.take_zero, List.drop_succ_cons, List.drop_zero, List.cons_append, List.nil_append, List.cons.injEq, and_true]
  obtain ⟨a, b, c, d, ha, hb, hc, hd, rfl⟩ : ∃ a b c d : Nat, a < 256 ∧ b < 256 ∧ c < 256 ∧ d < 256 ∧ u = 16777216 * a + 65536 * b + 256 * c + d :=
    ⟨u / 16777216, u / 65536 % 256, u / 256 % 256, u % 256, by omega, by omega, by omega, by omega, by omega⟩
  have e1 : (16777216 * a + 65536 * b + 256 * c + d) % 16777216 = 65536 * b + 256 * c + d := by omega
  have e2 : (16777216 * a + 65536 * b + 256 * c + d) / 16777216 = a := by omega
  have e3 : (16777216 * a + 65536 * b + 256 * c + d) / 65536 = 256 * a + b := by omega
  have e4 : (16777216 * a + 65536 * b + 256 * c + d) / 256 = 65536 * a + 256 * b + c := by omega
  have e5 : ((65536 * b + 256 * c + d) * 256 + a) / 16777216 = b := by omega
  have e6 : ((65536 * b + 256 * c + d) * 256 + a) / 65536 = 256 * b + c := by omega
  have e7 : ((65536 * b + 256 * c + d) * 256 + a) / 256 = 65536 * b + 256 * c + d := by omega
  rw [e1, e2, e3, e4, e5, e6, e7]
  refine ⟨by omega, by omega, by omega, by omega⟩
def subWN (u : Nat) : Nat := sN (u / 16777216 % 256) * 16777216 + sN (u / 65536 % 256) * 65536 + sN (u / 256 % 256) * 256 + sN (u % 256)
theorem subWN_lt (u : Nat) : subWN u < 4294967296 := by
  have h0 := sN_lt (u / 16777216 % 256); have h1 := sN_lt (u / 65536 % 256); have h2 := sN_lt (u / 256 % 256); have h3 := sN_lt (u % 256)
  unfold subWN; omega
theorem wordI_n {a b c d : Nat} (ha : a < 256) (hb : b < 256) (hc : c < 256) (hd : d < 256) : wordI (a : Int) (b : Int) (c : Int) (d : Int) = ((a * 16777216 + b * 65536 + c * 256 + d : Nat) : Int) := by
  unfold wordI
  rw [show ((a : Int) % 4294967296 * 16777216 % 4294967296) = ((2 ^ 24 * a : Nat) : Int) by omega, show ((b : Int) % 4294967296 * 65536 % 4294967296) = ((2 ^ 16 * b : Nat) : Int) by omega, show ((c : Int) % 4294967296 * 256 % 4294967296) = ((2 ^ 8 * c : Nat) : Int) by omega, show ((d : Int) % 4294967296) = ((d : Nat) : Int) by omega]
  rw [u32_or_nat _ _ (by omega) (by omega), or_add (by omega), show 2 ^ 24 * a + 2 ^ 16 * b = 2 ^ 16 * (2 ^ 8 * a + b) by omega, u32_or_nat _ _ (by omega) (by omega), or_add (by omega), show 2 ^ 16 * (2 ^ 8 * a + b) + 2 ^ 8 * c = 2 ^ 8 * (2 ^ 16 * a + 2 ^ 8 * b + c) by omega, u32_or_nat _ _ (by omega) (by omega), or_add (by omega)]
  congr 1
  omega
theorem bt_sT {i : Nat} (hi : i < 256) : bt (mkB sT) (i : Int) = ((sN i : Nat) : Int) := by
  rw [bt_bb, bb_mkB (show isB sT from isB_map sN_lt _)]
  simp [sT, hi]
theorem subW_n {u : Nat} (h : u < 4294967296) : subW (mkB sT) (u : Int) = ((subWN u : Nat) : Int) := by
  unfold subW
  rw [show ((u : Int) / 16777216) = ((u / 16777216 % 256 : Nat) : Int) by omega, show ((u : Int) / 65536 % 256) = ((u / 65536 % 256 : Nat) : Int) by omega, show ((u : Int) / 256 % 256) = ((u / 256 % 256 : Nat) : Int) by omega, show ((u : Int) % 256) = ((u % 256 : Nat) : Int) by omega]
  rw [bt_sT (by omega), bt_sT (by omega), bt_sT (by omega), bt_sT (by omega), wordI_n (sN_lt _) (sN_lt _) (sN_lt _) (sN_lt _)]
  rfl
theorem wB_sub (u : Nat) : wB (subWN u) = sbT (wB u) := by
  unfold wB sbT
  rw [nb_mkB (isB_wL u)]
  congr 1
  have h0 := sN_lt (u / 16777216 % 256); have h1 := sN_lt (u / 65536 % 256); have h2 := sN_lt (u / 256 % 256); have h3 := sN_lt (u % 256)
  simp only [wL, subWN, List.map_cons, List.map_nil, List.cons.injEq, and_true]
  generalize sN (u / 16777216 % 256) = a at *; generalize sN (u / 65536 % 256) = b at *; generalize sN (u / 256 % 256) = c at *; generalize sN (u % 256) = d at *
  refine ⟨by omega, by omega, by omega, by omega⟩
theorem wB_top {c : Nat} (hc : c < 256) : wB (c * 16777216) = mkB [c, 0, 0, 0] := by
  unfold wB wL
  congr 1
  simp only [List.cons.injEq, and_true]
  refine ⟨by omega, by omega, by omega, by omega⟩

/-- The word that comes behind: out of the one n places ahead and the last one. -/
def stepB (n i : Nat) (q t : ByteArray) : ByteArray :=
  if i % n = 0 then xorT q (xorT (sbT (t.extract 1 4 ++ t.extract 0 1)) (mkB [pw 2 (i / n - 1), 0, 0, 0])) else if n = 8 ∧ i % 8 = 4 then xorT q (sbT t) else xorT q t
def goB (n : Nat) : Nat → Nat → List ByteArray → List ByteArray
  | 0, _, ws => ws
  | d + 1, i, ws => goB n d (i + 1) (ws ++ [stepB n i (ws.getD (i - n) ByteArray.empty) (ws.getD (i - 1) ByteArray.empty)])
/-- m pieces of n bytes. -/
def pcs (n m : Nat) (s : ByteArray) : List ByteArray := (List.range m).map fun i => s.extract (n * i) (n * i + n)
def wordsB (key : ByteArray) : List ByteArray := goB (key.size / 4) (3 * (key.size / 4) + 28) (key.size / 4) (pcs 4 (key.size / 4) key)
/-- The words as texts and as numbers go together. -/
theorem getD_map_wB (us : List Nat) {j : Nat} (hj : j < us.length) : (us.map wB).getD j ByteArray.empty = wB (us.getD j 0) := by
  simp [List.getD_eq_getElem?_getD, hj]
theorem rd_cast (us : List Nat) (j : Nat) : rd (us.map Int.ofNat) (j : Int) = ((us.getD j 0 : Nat) : Int) := by
  unfold rd
  by_cases h : j < us.length
  · simp [List.getD_eq_getElem?_getD, h]
  · simp [List.getD_eq_getElem?_getD, h]
theorem getD_lt {us : List Nat} (h : ∀ u ∈ us, u < 4294967296) (j : Nat) : us.getD j 0 < 4294967296 := by
  rw [List.getD_eq_getElem?_getD]
  by_cases hj : j < us.length
  · rw [List.getElem?_eq_getElem hj]; exact h _ (List.getElem_mem hj)
  · rw [List.getElem?_eq_none (by omega)]; decide
end Go.Proofs.Ytokkhnjedmlbhaa.M
end
section
namespace Go.Proofs.Ytokkhnjedmlbhaa.M
open Go.RowKit Go.Proofs.Ytokkhnjedmlbhaa.Pr Go.Proofs.YtokkhnjedmlbhaaW.PrintWords Go.Proofs.YtokkhnjedmlbhaaW.PrintLast Go.Proofs.YtokkhnjedmlbhaaW.PrintMore Go.Proofs.YtokkhnjedmlbhaaGf
set_option linter.unusedSimpArgs false
theorem xt_pw (m : Nat) : xt (pw 2 m) = pw 2 (m + 1) := by
  show _ = gm (pw 2 m) 2
  rw [gm_two (pw_lt m)]
theorem map_snoc (us : List Nat) (u : Nat) : us.map Int.ofNat ++ [((u : Nat) : Int)] = (us ++ [u]).map Int.ofNat := by rw [List.map_append]; rfl
theorem expL2_c (n : Nat) (hn : n = 4 ∨ n = 6 ∨ n = 8) (d : Nat) : ∀ (i : Nat) (us : List Nat), us.length = i → n ≤ i → i + d ≤ 60 → (∀ u ∈ us, u < 4294967296) →
    ∃ vs : List Nat, expL2 (mkB sT) n d i ((pw 2 ((i - 1) / n) : Nat) : Int) (us.map Int.ofNat) = some (vs.map Int.ofNat) ∧ vs.map wB = goB n d i (us.map wB) ∧ (∀ u ∈ vs, u < 4294967296) ∧ vs.length = i + d := by
  induction d with
  | zero => intro i us hl hi hb hu; exact ⟨us, rfl, rfl, hu, hl⟩
  | succ d ih =>
    intro i us hl hi hb hu
    have h1 : ((i : Int) - 1) = ((i - 1 : Nat) : Int) := by omega
    have h2 : ((i : Int) - n) = ((i - n : Nat) : Int) := by omega
    have p1 := getD_lt hu (i - 1)
    have p2 := getD_lt hu (i - n)
    have hc := pw_lt (a := 2) ((i - 1) / n)
    have e1 := getD_map_wB us (show i - 1 < us.length by omega)
    have e2 := getD_map_wB us (show i - n < us.length by rcases hn with rfl | rfl | rfl <;> omega)
    simp only [expL2, goB]
    rw [h1, h2, rd_cast, rd_cast, if_pos (by omega), if_pos (by omega), e1, e2]
    have fin : ∀ (v c' : Nat), v < 4294967296 → c' = (i + 1 - 1) / n → wB v = stepB n i (wB (us.getD (i - n) 0)) (wB (us.getD (i - 1) 0)) →
        ∃ vs : List Nat, expL2 (mkB sT) n d (i + 1) ((pw 2 c' : Nat) : Int) (us.map Int.ofNat ++ [((v : Nat) : Int)]) = some (vs.map Int.ofNat) ∧ vs.map wB = goB n d (i + 1) (us.map wB ++ [stepB n i (wB (us.getD (i - n) 0)) (wB (us.getD (i - 1) 0))]) ∧ (∀ u ∈ vs, u < 4294967296) ∧ vs.length = i + (d + 1) := by
      intro v c' hv hc' hw
      obtain ⟨vs, q1, q2, q3, q4⟩ := ih (i + 1) (us ++ [v]) (by simp [hl]) (by omega) (by omega) (fun u h => by
        rcases List.mem_append.1 h with h | h
        · exact hu u h
        · have : u = v := by simpa using h
          subst this; exact hv)
      refine ⟨vs, ?_, ?_, q3, by omega⟩
      · rw [map_snoc, hc']; exact q1
      · rw [q2, List.map_append, ← hw]; rfl
    generalize us.getD (i - 1) 0 = t at *
    generalize us.getD (i - n) 0 = q at *
    by_cases hm : i % n = 0
    · rw [if_pos hm]
      have hk : (i + 1 - 1) / n = (i - 1) / n + 1 := by rcases hn with rfl | rfl | rfl <;> omega
      have hk2 : i / n - 1 = (i - 1) / n := by rcases hn with rfl | rfl | rfl <;> omega
      rw [show (((pw 2 ((i - 1) / n) : Nat) : Int) % 256) = ((pw 2 ((i - 1) / n) : Nat) : Int) by omega, twice_c hc]
      simp only [Option.bind_some]
      rw [xt_pw, show (((pw 2 ((i - 1) / n + 1) : Nat) : Int) % 4294967296) = ((pw 2 ((i - 1) / n + 1) : Nat) : Int) by have := pw_lt (a := 2) ((i - 1) / n + 1); omega,
        rotw_n p1, subW_n (rotW_lt p1), show (((pw 2 ((i - 1) / n) : Nat) : Int) * 16777216 % 4294967296) = ((pw 2 ((i - 1) / n) * 16777216 : Nat) : Int) by omega,
        u32_xor_nat _ _ (subWN_lt _) (by omega), u32_xor_nat _ _ p2 (Nat.xor_lt_two_pow (n := 32) (subWN_lt _) (by omega))]
      refine fin _ _ (Nat.xor_lt_two_pow (n := 32) p2 (Nat.xor_lt_two_pow (n := 32) (subWN_lt _) (by omega))) hk.symm ?_
      unfold stepB
      rw [if_pos hm, ← wB_rot p1, ← wB_sub, hk2, ← wB_top hc, wB_xor, wB_xor]
    · rw [if_neg hm]
      have hk : (i + 1 - 1) / n = (i - 1) / n := by rcases hn with rfl | rfl | rfl <;> omega
      by_cases h8 : n = 8 ∧ i % 8 = 4
      · rw [if_pos h8, subW_n p1, u32_xor_nat _ _ p2 (subWN_lt _)]
        refine fin _ _ (Nat.xor_lt_two_pow (n := 32) p2 (subWN_lt _)) hk.symm ?_
        unfold stepB
        rw [if_neg hm, if_pos h8, ← wB_sub, wB_xor]
      · rw [if_neg h8, u32_xor_nat _ _ p2 p1]
        refine fin _ _ (Nat.xor_lt_two_pow (n := 32) p2 p1) hk.symm ?_
        unfold stepB
        rw [if_neg hm, if_neg h8, wB_xor]
/-- The number of the first i bytes. -/
def beT (s : ByteArray) : Nat → Nat
  | 0 => 0
  | i + 1 => beT s i * 256 + bb s i
theorem beT_lt (s : ByteArray) (i : Nat) : beT s i < 256 ^ i := by
  induction i with
  | zero => show 0 < 1; omega
  | succ i ih =>
    have := bb_lt s i
    simp only [beT, Nat.pow_succ]
    omega
theorem getL (s : ByteArray) (hs : s.size ≤ 8) (d : Nat) : ∀ i, s.size - i = d → i ≤ s.size → Ev (fun k => octets_Get.l0 k s ((beT s i : Nat) : Int) ((s.size : Nat) : Int) (i : Int)) (((beT s s.size : Nat) : Int), true) := by
  induction d with
  | zero =>
    intro i hd hi
    obtain rfl : i = s.size := by omega
    exact Ev.step (f := fun _ => some (((beT s s.size : Nat) : Int), true)) (fun k => by simp only [octets_Get.l0]; rw [if_neg (by omega)]) (Ev.now _)
  | succ d ih =>
    intro i hd hi
    have h1 := beT_lt s i
    have h2 := bb_lt s i
    have h3 : 256 ^ i ≤ 256 ^ 7 := Nat.pow_le_pow_right (by omega) (by omega)
    refine Ev.step (fun k => ?_) (ih (i + 1) (by omega) (by omega))
    simp only [octets_Get.l0]
    rw [if_pos (by omega), if_pos (by omega), if_pos (by omega), bt_bb, wrap_id (x := (i : Int) + 1) (by omega) (by omega)]
    rw [show IntKind.u64.wrap (((beT s i : Nat) : Int) * 256) = ((2 ^ 8 * beT s i : Nat) : Int) by rw [IntKind.wrap_u64]; omega, show IntKind.u64.wrap ((bb s i : Nat) : Int) = ((bb s i : Nat) : Int) by rw [IntKind.wrap_u64]; omega,
      u64_or_nat _ _ (by omega) (by omega), or_add (by omega)]
    simp only [beT]
    rw [Nat.mul_comm (beT s i)]
    rfl
theorem get_c (s : ByteArray) (h0 : 0 < s.size) (h8 : s.size ≤ 8) : Ev (fun k => octets_Get.f k s) (((beT s s.size : Nat) : Int), true) := by
  unfold octets_Get.f
  refine evn (by omega) ?_
  refine Ev.step (f := fun k => octets_Get.l0 k s 0 (s.size : Int) 0) (fun k => by simp only [octets_Get.j0]; rw [if_neg (by simp; omega)]) ?_
  exact getL s h8 _ 0 rfl (by omega)
/-- Texts, one behind the other. -/
def catB : List ByteArray → ByteArray
  | [] => ⟨#[]⟩
  | a :: l => a ++ catB l
theorem nb_append (a b : ByteArray) : nb (a ++ b) = nb a ++ nb b := by
  conv => lhs; rw [← mkB_nb a, ← mkB_nb b, mkB_append]
  rw [nb_mkB (isB_append.2 ⟨isB_nb a, isB_nb b⟩)]
theorem ext_left (a b : ByteArray) : (a ++ b).extract 0 a.size = a := by
  rw [extract_nb, nb_append, List.drop_zero, List.take_left' (nb_length a), mkB_nb]
theorem ext_right (a b : ByteArray) : (a ++ b).extract a.size (a ++ b).size = b := by
  rw [extract_nb, nb_append, List.take_of_length_le (by rw [List.length_append, nb_length, nb_length, ByteArray.size_append]; exact Nat.le_refl _), List.drop_left' (nb_length a), mkB_nb]
theorem piecesL (n : Nat) (hn : 0 < n) : ∀ (l : List ByteArray) (a : ByteArray) (out : List ByteArray), (∀ x ∈ a :: l, x.size = n) → out.length + l.length < 8796093022207 → Ev (fun k => octets_Pieces.l0 k (catB (a :: l)) (n : Int) out) (out ++ a :: l)
  | [], a, out, h, ho => by
    have ha := h a (by simp)
    have e : catB [a] = a := by show a ++ (⟨#[]⟩ : ByteArray) = a; rw [show (⟨#[]⟩ : ByteArray) = mkB [] from rfl, ← mkB_nb a, mkB_append, List.append_nil]
    refine Ev.step (f := fun _ => some (out ++ [a])) (fun k => ?_) (Ev.now _)
    simp only [octets_Pieces.l0]
    rw [e, if_neg (by omega), if_pos (by omega)]
  | b :: l, a, out, h, ho => by
    have ha := h a (by simp)
    have hb := h b (by simp)
    have hh := piecesL n hn l b (out ++ [a]) (fun x hx => h x (by simp at hx ⊢; exact .inr hx)) (by simp at ho ⊢; omega)
    rw [List.append_assoc] at hh
    have hs : (catB (a :: b :: l)).size = n + (catB (b :: l)).size := by show (a ++ catB (b :: l)).size = _; rw [ByteArray.size_append, ha]
    have hs2 : (catB (b :: l)).size = n + (catB l).size := by show (b ++ catB l).size = _; rw [ByteArray.size_append, hb]
    refine Ev.step (fun k => ?_) hh
    simp only [octets_Pieces.l0]
    rw [if_pos (by omega), if_pos (by omega), if_pos (by omega), if_pos (by simp at ho; omega), Int.toNat_natCast]
    have h1 : (catB (a :: b :: l)).extract 0 n = a := by rw [← ha]; exact ext_left a _
    have h2 : (catB (a :: b :: l)).extract n (catB (a :: b :: l)).size = catB (b :: l) := by rw [← ha]; exact ext_right a _
    rw [h1, h2]
theorem tl_loop (s : ByteArray) : ∀ (d i : Nat) (r : List UInt8), s.size - i = d → ByteArray.toList.loop s i r = r.reverse ++ s.data.toList.drop i := by
  intro d
  induction d with
  | zero =>
    intro i r h
    rw [ByteArray.toList.loop, if_neg (by omega), List.drop_of_length_le (by rw [Array.length_toList]; show s.size ≤ i; omega), List.append_nil]
  | succ d ih =>
    intro i r h
    have hi : i < s.size := by omega
    rw [ByteArray.toList.loop, if_pos hi, ih (i + 1) _ (by omega), List.reverse_cons, List.append_assoc]
    have hi' : i < s.data.toList.length := by rw [Array.length_toList]; exact hi
    rw [List.drop_eq_getElem_cons hi']
    congr 1
    simp [ByteArray.get!, hi]
theorem tl_eq (s : ByteArray) : s.toList = s.data.toList := by
  unfold ByteArray.toList
  rw [tl_loop s _ 0 [] rfl]
  rfl
theorem toList_ne {s : ByteArray} (h : 0 < s.size) : (s.toList == ([] : List UInt8)) = false := by
  refine beq_eq_false_iff_ne.mpr (fun e => ?_)
  rw [tl_eq] at e
  have : s.data.toList.length = 0 := by rw [e]; rfl
  rw [Array.length_toList] at this
  have h2 : s.data.size = s.size := rfl
  omega
theorem pieces_c (n : Nat) (hn : 0 < n) (hn2 : n ≤ 1000) (a : ByteArray) (l : List ByteArray) (h : ∀ x ∈ a :: l, x.size = n) (hl : l.length < 1000000) (hs : (catB (a :: l)).size < 1000000000) : Ev (fun k => octets_Pieces.f k (catB (a :: l)) (n : Int)) (a :: l) := by
  have h0 : 0 < (catB (a :: l)).size := by
    show 0 < (a ++ catB l).size
    rw [ByteArray.size_append, h a (by simp)]; omega
  have hd : (catB (a :: l)).size / n ≤ (catB (a :: l)).size := Nat.div_le_self _ _
  have e : (((catB (a :: l)).size : Int) / (n : Int)) = (((catB (a :: l)).size / n : Nat) : Int) := by rw [Int.natCast_ediv]
  unfold octets_Pieces.f
  refine evn (by omega) ?_
  rw [toList_ne h0]
  refine Ev.step (fun k => ?_) (piecesL n hn l a [] h (by simp; omega))
  simp only [octets_Pieces.j0]
  rw [if_neg (by simp), if_neg (by omega), e]
  generalize (catB (a :: l)).size / n = q at *
  rw [wrap_id (x := (q : Int)) (by omega) (by omega), wrap_id (by omega) (by omega), if_pos (by omega), if_pos (by omega)]
theorem join_flat (l : List (List UInt8)) : Lib.join l [] = l.flatten := by
  show List.intercalate [] l = _
  unfold List.intercalate
  induction l with
  | nil => rfl
  | cons a l ih =>
    cases l with
    | nil => simp
    | cons b l =>
      rw [List.intersperse_cons_cons, List.flatten_cons, List.flatten_cons, ih]
      rfl
theorem catB_data (l : List ByteArray) : (catB l).data.toList = (l.map (·.data.toList)).flatten := by
  induction l with
  | nil => rfl
  | cons a l ih =>
    show (a ++ catB l).data.toList = _
    rw [ByteArray.data_append, Array.toList_append, ih]
    rfl
theorem joinB_cat (l : List ByteArray) : joinB l = catB l := by
  apply ByteArray.ext
  apply Array.ext'
  rw [catB_data]
  show (Lib.join (l.map (·.data.toList)) []).toArray.toList = _
  rw [join_flat]
theorem join_c (l : List ByteArray) (h1 : l.length ≤ 140737488355328) (h2 : (catB l).size ≤ 140737488355328) : octets_Join.f l = some (catB l) := by
  unfold octets_Join.f
  have e : (Lib.join (l.map (·.data.toList)) []).length = (catB l).size := by
    rw [join_flat, ← catB_data, data_length]
  rw [if_pos h1, e, if_pos h2, joinB_cat]
end Go.Proofs.Ytokkhnjedmlbhaa.M
end
