-- several texts in one (by the session's program shake.py)
import Derived.Test.YtokkhnjedmlbhaaZRoundM
import Derived.Test.YtokkhnjedmlbhaaZPrg01x
import Derived.ScopeJumps
section
namespace Go.Proofs.Ytokkhnjedmlbhaa.M
open Go.RowKit Go.Proofs.Ytokkhnjedmlbhaa.Pr Go.Proofs.YtokkhnjedmlbhaaW.PrintWords Go.Proofs.YtokkhnjedmlbhaaW.PrintLast Go.Proofs.YtokkhnjedmlbhaaW.PrintMore Go.Proofs.YtokkhnjedmlbhaaGf
set_option linter.unusedSimpArgs false
def fwd : List ByteArray → ByteArray → ByteArray
  | [], s => s
  | k :: ks, s => fwd ks (doT s k ks.isEmpty)
def bwd : List ByteArray → ByteArray → ByteArray
  | [], s => s
  | k :: ks, s => unT (bwd ks s) k ks.isEmpty
/-- A block, encrypted; decrypted. -/
def encT (ks : List ByteArray) (s : ByteArray) : ByteArray := match ks with
  | [] => s
  | k :: ks => fwd ks (kyT s k)
def decT (ks : List ByteArray) (s : ByteArray) : ByteArray := match ks with
  | [] => s
  | k :: ks => kyT (bwd ks s) k
def all16 (ks : List ByteArray) : Prop := ∀ k ∈ ks, k.size = 16
theorem fwd_size : ∀ {ks : List ByteArray} {s : ByteArray}, all16 ks → s.size = 16 → (fwd ks s).size = 16
  | [], _, _, hs => hs
  | k :: ks, s, h, hs => fwd_size (ks := ks) (fun x hx => h x (by simp [hx])) (do_size hs (h k (by simp)) _)
theorem bwd_size : ∀ {ks : List ByteArray} {s : ByteArray}, all16 ks → s.size = 16 → (bwd ks s).size = 16
  | [], _, _, hs => hs
  | k :: ks, s, h, hs => un_size (bwd_size (ks := ks) (fun x hx => h x (by simp [hx])) hs) (h k (by simp)) _
theorem bwd_fwd : ∀ {ks : List ByteArray} {s : ByteArray}, all16 ks → s.size = 16 → bwd ks (fwd ks s) = s
  | [], _, _, _ => rfl
  | k :: ks, s, h, hs => by
    simp only [fwd, bwd]
    rw [bwd_fwd (ks := ks) (fun x hx => h x (by simp [hx])) (do_size hs (h k (by simp)) _), un_do hs (h k (by simp))]
theorem fwd_bwd : ∀ {ks : List ByteArray} {s : ByteArray}, all16 ks → s.size = 16 → fwd ks (bwd ks s) = s
  | [], _, _, _ => rfl
  | k :: ks, s, h, hs => by
    simp only [fwd, bwd]
    rw [do_un (bwd_size (ks := ks) (fun x hx => h x (by simp [hx])) hs) (h k (by simp)), fwd_bwd (ks := ks) (fun x hx => h x (by simp [hx])) hs]
theorem enc_size {ks : List ByteArray} {s : ByteArray} (h : all16 ks) (hs : s.size = 16) : (encT ks s).size = 16 := by
  cases ks with
  | nil => exact hs
  | cons k ks => exact fwd_size (fun x hx => h x (by simp [hx])) (ky_size hs (h k (by simp)))
theorem dec_size {ks : List ByteArray} {s : ByteArray} (h : all16 ks) (hs : s.size = 16) : (decT ks s).size = 16 := by
  cases ks with
  | nil => exact hs
  | cons k ks => exact ky_size (bwd_size (fun x hx => h x (by simp [hx])) hs) (h k (by simp))
theorem dec_enc {ks : List ByteArray} {s : ByteArray} (h : all16 ks) (hs : s.size = 16) : decT ks (encT ks s) = s := by
  cases ks with
  | nil => rfl
  | cons k ks =>
    simp only [decT, encT]
    rw [bwd_fwd (fun x hx => h x (by simp [hx])) (ky_size hs (h k (by simp))), ky_ky hs (h k (by simp))]
theorem enc_dec {ks : List ByteArray} {s : ByteArray} (h : all16 ks) (hs : s.size = 16) : encT ks (decT ks s) = s := by
  cases ks with
  | nil => rfl
  | cons k ks =>
    simp only [decT, encT]
    rw [ky_ky (bwd_size (fun x hx => h x (by simp [hx])) hs) (h k (by simp)), fwd_bwd (fun x hx => h x (by simp [hx])) hs]
/-- One round, on numbers. -/
def F1 (f : Nat → Nat) (q : Nat) : Nat := sN (f (5 * q % 16))
theorem F1_lt (f : Nat → Nat) (q : Nat) : F1 f q < 256 := sN_lt _
theorem SH_F1 (f : Nat → Nat) (q : Nat) : SH (fun j => sN (f j)) q = F1 f q := by
  unfold SH F1
  congr 2
  omega
theorem sb_T {f : Nat → Nat} (hf : ∀ i, f i < 256) : sbT (T f) = T (fun j => sN (f j)) := by
  unfold sbT T
  rw [nb_mkB (isB_map hf _), List.map_map]
  rfl
theorem sh_sb {f : Nat → Nat} (hf : ∀ i, f i < 256) : shT (sbT (T f)) = T (F1 f) := by
  rw [sb_T hf]
  unfold shT
  rw [if_pos (T_size _)]
  exact T_congr (fun i hi => (SH_congr (T_out (fun j => sN_lt (f j))) i).trans (SH_F1 f i))
theorem ky_T {f : Nat → Nat} (hf : ∀ i, f i < 256) {k : ByteArray} (hk : k.size = 16) : kyT (T f) k = T (fun q => f q ^^^ bb k q) := by
  rw [ky_16 (T_size _) hk]
  exact T_congr (fun i hi => by rw [T_out hf i hi])
theorem do_last {f : Nat → Nat} (hf : ∀ i, f i < 256) {k : ByteArray} (hk : k.size = 16) : doT (T f) k true = T (fun q => F1 f q ^^^ bb k q) := by
  unfold doT
  rw [if_pos (T_size _), if_pos hk, if_pos rfl, sh_sb hf, ky_T (F1_lt f) hk]
theorem mx_T {f : Nat → Nat} (hf : ∀ i, f i < 256) : mxT (T f) = T (MX f) := by
  unfold mxT
  rw [if_pos (T_size _)]
  exact T_congr (fun i hi => MX_congr (T_out hf) hi)
theorem um_T {f : Nat → Nat} (hf : ∀ i, f i < 256) : umT (T f) = T (UX f) := by
  unfold umT
  rw [if_pos (T_size _)]
  exact T_congr (fun i hi => UX_congr (T_out hf) hi)
theorem do_mid {f : Nat → Nat} (hf : ∀ i, f i < 256) {k : ByteArray} (hk : k.size = 16) : doT (T f) k false = T (fun q => MX (F1 f) q ^^^ bb k q) := by
  unfold doT
  rw [if_pos (T_size _), if_pos hk, if_neg (by simp), sh_sb hf, mx_T (F1_lt f), ky_T (MX_lt (F1_lt f)) hk]
/-- Back: the bytes for which they stand, rows moved back. -/
def B1 (f : Nat → Nat) (q : Nat) : Nat := bN (f (13 * q % 16))
theorem B1_lt (f : Nat → Nat) (q : Nat) : B1 f q < 256 := bN_lt _
theorem bk_uh {f : Nat → Nat} (hf : ∀ i, f i < 256) : bkT (uhT (T f)) = T (B1 f) := by
  have e : uhT (T f) = T (UH f) := by
    unfold uhT
    rw [if_pos (T_size _)]
    exact T_congr (fun i hi => UH_congr (T_out hf) i)
  rw [e]
  unfold bkT T
  rw [nb_mkB (isB_map (UH_lt hf) _), List.map_map]
  rfl
theorem un_last {f : Nat → Nat} (hf : ∀ i, f i < 256) {k : ByteArray} (hk : k.size = 16) : unT (T f) k true = T (B1 (fun q => f q ^^^ bb k q)) := by
  unfold unT
  rw [if_pos rfl, ky_T hf hk, bk_uh (fun i => xor_lt (hf i) (bb_lt k i))]
theorem un_mid {f : Nat → Nat} (hf : ∀ i, f i < 256) {k : ByteArray} (hk : k.size = 16) : unT (T f) k false = T (B1 (UX (fun q => f q ^^^ bb k q))) := by
  unfold unT
  rw [if_neg (by simp), ky_T hf hk, um_T (fun i => xor_lt (hf i) (bb_lt k i)), bk_uh (UX_lt _)]
theorem colsumA (g : Nat → Nat) (i : Nat) : ((g (4 * (i / 4)) ^^^ g (4 * (i / 4) + 1)) ^^^ g (4 * (i / 4) + 2)) ^^^ g (4 * (i / 4) + 3) = g i ^^^ (g (nx i 1) ^^^ (g (nx i 2) ^^^ g (nx i 3))) := by
  obtain h | h | h | h : i % 4 = 0 ∨ i % 4 = 1 ∨ i % 4 = 2 ∨ i % 4 = 3 := by omega
  · rw [show g i = g (4 * (i / 4)) from congrArg g (by omega), show nx i 1 = 4 * (i / 4) + 1 by unfold nx; omega, show nx i 2 = 4 * (i / 4) + 2 by unfold nx; omega, show nx i 3 = 4 * (i / 4) + 3 by unfold nx; omega]
    simp only [Nat.xor_assoc]
  · rw [show g i = g (4 * (i / 4) + 1) from congrArg g (by omega), show nx i 1 = 4 * (i / 4) + 2 by unfold nx; omega, show nx i 2 = 4 * (i / 4) + 3 by unfold nx; omega, show nx i 3 = 4 * (i / 4) by unfold nx; omega]
    generalize g (4 * (i / 4)) = a; generalize g (4 * (i / 4) + 1) = b; generalize g (4 * (i / 4) + 2) = c; generalize g (4 * (i / 4) + 3) = d
    simp only [Nat.xor_assoc, Nat.xor_comm, xor_lc]
  · rw [show g i = g (4 * (i / 4) + 2) from congrArg g (by omega), show nx i 1 = 4 * (i / 4) + 3 by unfold nx; omega, show nx i 2 = 4 * (i / 4) by unfold nx; omega, show nx i 3 = 4 * (i / 4) + 1 by unfold nx; omega]
    generalize g (4 * (i / 4)) = a; generalize g (4 * (i / 4) + 1) = b; generalize g (4 * (i / 4) + 2) = c; generalize g (4 * (i / 4) + 3) = d
    simp only [Nat.xor_assoc, Nat.xor_comm, xor_lc]
  · rw [show g i = g (4 * (i / 4) + 3) from congrArg g (by omega), show nx i 1 = 4 * (i / 4) by unfold nx; omega, show nx i 2 = 4 * (i / 4) + 1 by unfold nx; omega, show nx i 3 = 4 * (i / 4) + 2 by unfold nx; omega]
    generalize g (4 * (i / 4)) = a; generalize g (4 * (i / 4) + 1) = b; generalize g (4 * (i / 4) + 2) = c; generalize g (4 * (i / 4) + 3) = d
    simp only [Nat.xor_assoc, Nat.xor_comm, xor_lc]
def mxA (g : Nat → Nat) (c j : Nat) : Nat := (g (4 * c + j) ^^^ (((g (4 * c) ^^^ g (4 * c + 1)) ^^^ g (4 * c + 2)) ^^^ g (4 * c + 3))) ^^^ xt (g (4 * c + j) ^^^ g (4 * c + (j + 1) % 4))
theorem mxA_MX {g : Nat → Nat} (hg : ∀ i, g i < 256) (c j : Nat) (hj : j < 4) : mxA g c j = MX g (4 * c + j) := by
  have h := colsumA g (4 * c + j)
  rw [show (4 * c + j) / 4 = c by omega] at h
  unfold mxA MX m0
  rw [h, show 4 * c + (j + 1) % 4 = nx (4 * c + j) 1 by unfold nx; omega, xt_lin (hg _) (hg _)]
  generalize g (4 * c + j) = a; generalize g (nx (4 * c + j) 1) = b; generalize g (nx (4 * c + j) 2) = c; generalize g (nx (4 * c + j) 3) = d
  generalize xt a = a1; generalize xt b = b1
  simp only [Nat.xor_assoc, Nat.xor_comm, xor_lc, Nat.xor_self, Nat.xor_zero, Nat.zero_xor, xor_xc]
/-- Four products of a column. -/
def umA (g : Nat → Nat) (c j : Nat) : Nat := ((gm 14 (g (4 * c + j)) ^^^ gm 11 (g (4 * c + (j + 1) % 4))) ^^^ gm 13 (g (4 * c + (j + 2) % 4))) ^^^ gm 9 (g (4 * c + (j + 3) % 4))
theorem umA_UX (g : Nat → Nat) (c j : Nat) (hj : j < 4) : umA g c j = UX g (4 * c + j) := by
  unfold umA UX u0
  rw [show 4 * c + (j + 1) % 4 = nx (4 * c + j) 1 by unfold nx; omega, show 4 * c + (j + 2) % 4 = nx (4 * c + j) 2 by unfold nx; omega, show 4 * c + (j + 3) % 4 = nx (4 * c + j) 3 by unfold nx; omega]
  simp only [Nat.xor_assoc]
end Go.Proofs.Ytokkhnjedmlbhaa.M
end
section
namespace Go.Proofs.Ytokkhnjedmlbhaa.Pr
open Go.RowKit Go.Proofs.YtokkhnjedmlbhaaW.PrintWords Go.Proofs.YtokkhnjedmlbhaaW.PrintLast Go.Proofs.YtokkhnjedmlbhaaW.PrintMore Go.Proofs.YtokkhnjedmlbhaaHw Go.Proofs.YtokkhnjedmlbhaaGf
theorem tabR_at (p v : Nat) (hp : p < 7) (hv : v < 256) : (tabR 256).getD (256 * p + v) 0 = ((tabV 256 (256 * p + v) : Nat) : Int) := by
  have : 256 * p + v < 1792 := by omega
  simp [tabR, this]
theorem tab_sub (v : Nat) (hv : v < 256) : (tabR 256).getD v 0 = ((M.sN v : Nat) : Int) := by
  have h := tabR_at 0 v (by omega) hv
  rw [show 256 * 0 + v = v by omega] at h
  rw [h]
  unfold tabV
  rw [show v / 256 = 0 by omega, show v % 256 = v by omega, if_neg (by decide), if_pos hv]
  rfl
theorem tab_back (v : Nat) (hv : v < 256) : (tabR 256).getD (256 + v) 0 = ((M.bN v : Nat) : Int) := by
  rw [tabR_at 1 v (by omega) hv]
  unfold tabV
  rw [show (256 * 1 + v) / 256 = 1 by omega, show (256 * 1 + v) % 256 = v by omega, if_pos rfl, if_pos (M.bN_lt v)]
theorem tab_oth (p v : Nat) (hp : p < 7) (h1 : p ≠ 1) (hv : v < 256) : (tabR 256).getD (256 * p + v) 0 = ((tabF p v : Nat) : Int) := by
  rw [tabR_at p v hp hv]
  unfold tabV
  rw [show (256 * p + v) / 256 = p by omega, show (256 * p + v) % 256 = v by omega, if_neg h1, if_pos hv]
/-- Sixteen bytes. -/
def L16 (f : Nat → Nat) : List Int := (List.range 16).map fun q => ((f q : Nat) : Int)
theorem L16_length (f : Nat → Nat) : (L16 f).length = 16 := by simp [L16]
theorem L16_get (f : Nat → Nat) (i : Nat) (hi : i < 16) : (L16 f).getD i 0 = ((f i : Nat) : Int) := by simp [L16, hi]
def C16 (f : Nat → Nat) : Nat → Int := fun q => ((f q : Nat) : Int)
theorem L16_C (f : Nat → Nat) : L16 f = (List.range 16).map (C16 f) := rfl
theorem cells_16 (s : ByteArray) (hs : s.size = 16) : (Lib.byteCells s.data.toList).take 16 = (L16 (M.bb s)).map (Value.int .u8) := by
  apply List.ext_getElem
  · rw [List.length_take, Lib.byteCells_length, List.length_map, L16_length, ← Lib.size_eq]; omega
  · intro i h1 h2
    have hi : i < 16 := by rw [List.length_map, L16_length] at h2; exact h2
    simp only [List.getElem_take, Lib.byteCells, List.getElem_map, L16, List.getElem_range]
    rw [← M.bt_bb, ← bt_at s (i : Int) (by simp; omega)]
    rfl
theorem L16_xor {f : Nat → Nat} (hf : ∀ i, f i < 256) (key : ByteArray) : ((List.range 16).map fun q => Go.bits .xor .u8 (C16 f q) (bt key q)) = L16 (fun q => f q ^^^ M.bb key q) := by
  apply List.map_congr_left
  intro q _
  show Go.bits .xor .u8 ((f q : Nat) : Int) (bt key (q : Int)) = _
  rw [M.bt_bb, M.bx (hf q) (M.bb_lt key q)]
/-- A key added to sixteen bytes. -/
theorem add_nat (g : Nat) (f : Nat → Nat) (hf : ∀ i, f i < 256) (key : ByteArray) (w : World) (hg : BY w g 65 (L16 f)) (hk : key.size = 16) :
    Calls Try.prog 194 #[.pointer (some ⟨g, 0, none⟩), .string key] w fun e w' => e = .returned (.tuple #[]) ∧ BY w' g 65 (L16 fun q => f q ^^^ M.bb key q) ∧ w.grownBy w' (some g) := by
  refine (add_calls g (C16 f) key w hg hk).mono fun e w' h => ?_
  rw [L16_xor hf] at h
  exact h
/-- The same, with what else is known of the memory. -/
theorem add_both {w0 W : World} {g h : Nat} {f : Nat → Nat} {ys : List Int} (key : ByteArray) (hf : ∀ i, f i < 256) (hg : BY W g 65 (L16 f)) (hh : BY W h 65 ys) (hne : h ≠ g) (hB : Below w0.heap.size w0 W) (hbg : w0.heap.size ≤ g) (hk : key.size = 16) :
    Calls Try.prog 194 #[.pointer (some ⟨g, 0, none⟩), .string key] W fun e w' => e = .returned (.tuple #[]) ∧ BY w' g 65 (L16 fun q => f q ^^^ M.bb key q) ∧ BY w' h 65 ys ∧ Below w0.heap.size w0 w' := by
  refine (add_nat g f hf key W hg hk).mono fun e w' h' => ?_
  obtain ⟨h1, h2, h3⟩ := h'
  exact ⟨h1, h2, hh.same (h3.block _ hh.lt (fun e => hne (by injection e))), hB.grown h3 hB.size (fun q hq => by injection hq with hq; omega)⟩
def kAt (ks : List ByteArray) (j : Nat) : ByteArray := ks.getD j ByteArray.empty
theorem StrRow.at_ {w : World} {g : Nat} {ps : List ByteArray} (h : StrRow w g ps) (j : Nat) (hj : j < ps.length) : w.cell? ⟨g, j, none⟩ = some (.string (kAt ps j)) := by
  refine h.cell j _ ?_
  simp [kAt, List.getD_eq_getElem?_getD, hj]
theorem strL16 (f : Nat → Nat) : strOfNums (L16 f) = M.T f := by
  unfold M.T
  rw [← M.strOfNums_cast, List.map_map]
  rfl
theorem conv_L16 {W : World} {g : Nat} {f : Nat → Nat} (h : BY W g 65 (L16 f)) : (convert 66 9 (.slice (some ⟨g, 0, none⟩) 16 16)).run Try.prog W = .ok (.string (M.T f)) W := by
  rw [← strL16]
  exact run_convert_bytes_arg (P := Try.prog) W 66 5 Try.underlying66 Try.underlying5 g 0 16 16 (L16 f) (L16_length f) (fun i hi => by
    rw [Nat.zero_add]
    exact h.cell i (by rw [L16_length]; exact hi)) 9 Try.underlying9
theorem drop_at {ks : List ByteArray} {i : Nat} (h : i < ks.length) : ks.drop i = kAt ks i :: ks.drop (i + 1) := by
  rw [List.drop_eq_getElem_cons h]
  simp [kAt, List.getD_eq_getElem?_getD, h]
set_option maxHeartbeats 4000000 in
set_option maxRecDepth 100000 in
theorem enc_calls (g n : Nat) (ks : List ByteArray) (s : ByteArray) (w : World) (hC : IsC w g n ks) (hs : s.size = 16) (hl : 2 ≤ ks.length) (hl2 : ks.length ≤ 100) (hk : M.all16 ks) :
    Calls Try.prog 106 #[.pointer (some ⟨g, 0, none⟩), .string s] w fun e w' => e = .returned (.tuple #[.string (M.encT ks s), .int .i64 0]) ∧ Below w.heap.size w w' := by
  have HC := Aside0.mk hC
  have HSZ := Aside0.mk hs
  have HKS := Aside0.mk hk
  obtain ⟨gk, cap, gt, c1, c2, hS, hT⟩ := hC.cells
  have HSR := Aside0.mk hS
  have HT := Aside0.mk hT
  have hgk := hS.lt
  have hgt := hT.lt
  have hgl := hC.lt
  have hk0 : M.all16 ks := hk
  have HK0 : Aside0 (∀ j, j < ks.length → (kAt ks j).size = 16) := ⟨fun j hj => by
    unfold kAt
    rw [List.getD_eq_getElem?_getD, List.getElem?_eq_getElem hj]
    exact hk0 _ (List.getElem_mem hj)⟩
  have HC1 := Aside0.mk c1
  have HC2 := Aside0.mk c2
  obtain ⟨W1, hW1⟩ : ∃ W1 : World, W1 = ((w.alloc (.cells #[.int .u8 0, .int .u8 0, .int .u8 0, .int .u8 0, .int .u8 0, .int .u8 0, .int .u8 0, .int .u8 0, .int .u8 0, .int .u8 0, .int .u8 0, .int .u8 0, .int .u8 0, .int .u8 0, .int .u8 0, .int .u8 0] 65)).alloc (.cells #[.int .u8 0, .int .u8 0, .int .u8 0, .int .u8 0, .int .u8 0, .int .u8 0, .int .u8 0, .int .u8 0, .int .u8 0, .int .u8 0, .int .u8 0, .int .u8 0, .int .u8 0, .int .u8 0, .int .u8 0, .int .u8 0] 65)).setRow w.heap.size ((L16 (M.bb s)).map (Value.int .u8)).toArray := ⟨_, rfl⟩
  have hz0 : ((w.alloc (.cells #[.int .u8 0, .int .u8 0, .int .u8 0, .int .u8 0, .int .u8 0, .int .u8 0, .int .u8 0, .int .u8 0, .int .u8 0, .int .u8 0, .int .u8 0, .int .u8 0, .int .u8 0, .int .u8 0, .int .u8 0, .int .u8 0] 65)).alloc (.cells #[.int .u8 0, .int .u8 0, .int .u8 0, .int .u8 0, .int .u8 0, .int .u8 0, .int .u8 0, .int .u8 0, .int .u8 0, .int .u8 0, .int .u8 0, .int .u8 0, .int .u8 0, .int .u8 0, .int .u8 0, .int .u8 0] 65)).heap[w.heap.size]? = some (.cells #[.int .u8 0, .int .u8 0, .int .u8 0, .int .u8 0, .int .u8 0, .int .u8 0, .int .u8 0, .int .u8 0, .int .u8 0, .int .u8 0, .int .u8 0, .int .u8 0, .int .u8 0, .int .u8 0, .int .u8 0, .int .u8 0] 65 (0, 0)) := (heap_alloc_old _ _ (by simp)).trans (heap_alloc_new w _)
  have hcp : ∀ (ty : TypeId), (Builtin.copy_ #[66, 9] ty #[.slice (some ⟨w.heap.size, 0, none⟩) 16 16, .string s]).run Try.prog ((w.alloc (.cells #[.int .u8 0, .int .u8 0, .int .u8 0, .int .u8 0, .int .u8 0, .int .u8 0, .int .u8 0, .int .u8 0, .int .u8 0, .int .u8 0, .int .u8 0, .int .u8 0, .int .u8 0, .int .u8 0, .int .u8 0, .int .u8 0] 65)).alloc (.cells #[.int .u8 0, .int .u8 0, .int .u8 0, .int .u8 0, .int .u8 0, .int .u8 0, .int .u8 0, .int .u8 0, .int .u8 0, .int .u8 0, .int .u8 0, .int .u8 0, .int .u8 0, .int .u8 0, .int .u8 0, .int .u8 0] 65)) = .ok (goInt 16) W1 := fun ty => by
    rw [hW1, ← cells_16 s hs]
    exact run_copy_str (P := Try.prog) _ 66 9 ty 5 w.heap.size 16 16 s #[.int .u8 0, .int .u8 0, .int .u8 0, .int .u8 0, .int .u8 0, .int .u8 0, .int .u8 0, .int .u8 0, .int .u8 0, .int .u8 0, .int .u8 0, .int .u8 0, .int .u8 0, .int .u8 0, .int .u8 0, .int .u8 0] 65 Try.underlying66 (by kernel_rfl) hz0 (by omega) rfl
  have hB1 : Below w.heap.size w W1 := by
    rw [hW1]
    exact below_setRow (((Below.refl _ _).alloc (Nat.le_refl _) _).alloc (by simp) _) (Nat.le_refl _) _
  have hs1 : BY W1 w.heap.size 65 (L16 (M.bb s)) := by
    rw [hW1]
    exact setRow_heap _ _ _ _ _ _ hz0
  have ht1 : BY W1 (w.heap.size + 1) 65 (L16 fun _ => 0) := by
    rw [hW1]
    have h : ((w.alloc (.cells #[.int .u8 0, .int .u8 0, .int .u8 0, .int .u8 0, .int .u8 0, .int .u8 0, .int .u8 0, .int .u8 0, .int .u8 0, .int .u8 0, .int .u8 0, .int .u8 0, .int .u8 0, .int .u8 0, .int .u8 0, .int .u8 0] 65)).alloc (.cells #[.int .u8 0, .int .u8 0, .int .u8 0, .int .u8 0, .int .u8 0, .int .u8 0, .int .u8 0, .int .u8 0, .int .u8 0, .int .u8 0, .int .u8 0, .int .u8 0, .int .u8 0, .int .u8 0, .int .u8 0, .int .u8 0] 65)).heap[w.heap.size + 1]? = some (.cells #[.int .u8 0, .int .u8 0, .int .u8 0, .int .u8 0, .int .u8 0, .int .u8 0, .int .u8 0, .int .u8 0, .int .u8 0, .int .u8 0, .int .u8 0, .int .u8 0, .int .u8 0, .int .u8 0, .int .u8 0, .int .u8 0] 65 (0, 0)) := by
      have := heap_alloc_new (w.alloc (.cells #[.int .u8 0, .int .u8 0, .int .u8 0, .int .u8 0, .int .u8 0, .int .u8 0, .int .u8 0, .int .u8 0, .int .u8 0, .int .u8 0, .int .u8 0, .int .u8 0, .int .u8 0, .int .u8 0, .int .u8 0, .int .u8 0] 65)) (.cells #[.int .u8 0, .int .u8 0, .int .u8 0, .int .u8 0, .int .u8 0, .int .u8 0, .int .u8 0, .int .u8 0, .int .u8 0, .int .u8 0, .int .u8 0, .int .u8 0, .int .u8 0, .int .u8 0, .int .u8 0, .int .u8 0] 65)
      simpa using this
    exact (setRow_other _ _ _ _ (by omega)).trans h
  have HCOP := Aside0.mk hcp
  have HB1 := Aside0.mk hB1
  have HS1 := Aside0.mk hs1
  have HT1 := Aside0.mk ht1
  have d1 : W1.cell? ⟨g, 1, none⟩ = some (.slice (some ⟨gk, 0, none⟩) ks.length cap) := pw_cell_below hB1 c1
  have d2 : W1.cell? ⟨gk, 0, none⟩ = some (.string (kAt ks 0)) := pw_cell_below hB1 (hS.at_ 0 (by omega))
  clear hW1 hz0 hB1 hs1 ht1 hS hT hk hk0 hs c1 c2 hC HCOP
  go_enter Try.func106, Try.ntmps106
  go_wp2_with (first | (go_at_call 193; (with_reducible refine (may_ok g n ks s _ HC.out HSZ.out).mono ?_); rintro e w' ⟨rfl, hw'⟩; have hw2 := hw'.symm; subst hw2) | (go_at_call 194; (with_reducible refine (add_both (w0 := w) _ (M.bb_lt s) HS1.out HT1.out (by omega) HB1.out (Nat.le_refl _) (HK0.out 0 (by omega))).mono ?_); rintro e W2 ⟨rfl, hs2, ht2, hb2⟩; have d3 := pw_cell_below hb2 HC1.out))
  have HS2 := Aside0.mk hs2
  have HT2 := Aside0.mk ht2
  have HB2 := Aside0.mk hb2
  clear hs2 ht2 hb2
  have HF0 : Aside0 (∀ q, (fun q => M.bb s q ^^^ M.bb (kAt ks 0) q) q < 256) := ⟨fun q => xor_lt (M.bb_lt _ _) (M.bb_lt _ _)⟩
  have HE0 : Aside0 (M.fwd (ks.drop 1) (M.T fun q => M.bb s q ^^^ M.bb (kAt ks 0) q) = M.encT ks s) := ⟨by
    cases ks with
    | nil => simp at hl
    | cons k0 kt =>
      show M.fwd kt _ = M.fwd kt (M.kyT s k0)
      rw [M.ky_16 HSZ.out (HKS.out k0 (by simp))]
      rfl⟩
  clear hcp d1 d2 d3 HB1 HS1 HT1
  generalize (fun q => M.bb s q ^^^ M.bb (kAt ks 0) q) = f0 at *
  go_loopw [10] (fun iv wr => ∃ (i : Nat) (f y : Nat → Nat), 1 ≤ i ∧ i < ks.length ∧ iv = .int .i64 i ∧ Aside0 (∀ q, f q < 256) ∧ Aside0 (M.fwd (ks.drop i) (M.T f) = M.encT ks s) ∧ Aside0 (BY wr w.heap.size 65 (L16 f)) ∧ Aside0 (BY wr (w.heap.size + 1) 65 (L16 y)) ∧ Aside0 (Below w.heap.size w wr)) (fun iv _ => ks.length - (intOf iv).toNat)
  case atStart => exact ⟨1, f0, fun _ => 0, by omega, by omega, rfl, HF0, HE0, HS2, HT2, HB2⟩
  case round =>
    clear HF0 HE0 HS2 HT2 HB2
    obtain ⟨i, f, y, hi1, hi2, rfl, HF, HE, HS2, HT2, HB2⟩ := hrel
    go_wp2
    go_loopw [39] (fun kv wr => ∃ k : Nat, k ≤ 16 ∧ kv = .int .i64 k ∧ Aside0 (BY wr w.heap.size 65 (L16 f)) ∧ Aside0 (BY wr (w.heap.size + 1) 65 (mixL k (C16 (M.F1 f)) (C16 y))) ∧ Aside0 (Below w.heap.size w wr)) (fun kv _ => 16 - (intOf kv).toNat)
    case atStart => exact ⟨0, Nat.zero_le _, rfl, HS2, ⟨by rw [mixL_zero]; exact HT2.out⟩, HB2⟩
    case round =>
      clear HS2 HT2 HB2
      obtain ⟨k, hk, rfl, HS2, HT2, HB2⟩ := hrel
      by_cases hlt : k < 16
      · have e2 : wr.cell? ⟨g, 2, none⟩ = some (.pointer (some ⟨gt, 0, none⟩)) := pw_cell_below HB2.out HC2.out
        have hlt5 : 5 * k % 16 < 16 := Nat.mod_lt _ (by omega)
        have e3 := HS2.out.cell (5 * k % 16) (by rw [L16_length]; exact hlt5)
        rw [L16_get f _ hlt5] at e3
        have hfv := HF.out (5 * k % 16)
        have e4 := (HT.out.below HB2.out).cell (f (5 * k % 16)) (by rw [tabR_length]; omega)
        rw [tab_sub _ hfv, show M.sN (f (5 * k % 16)) = M.F1 f k from rfl] at e4
        have e5 := HT2.out.frozen k
        have e6 := HT2.out.cell k (by rw [mixL_length]; exact hlt)
        go_wp2
        go_region
        go_wp2
        have HS3 : Aside0 (BY ((wr.setCell ⟨w.heap.size + 1, k, none⟩ (.int .u8 ((M.F1 f k : Nat) : Int))).drew) w.heap.size 65 (L16 f)) := ⟨HS2.out.same ((grownBy_set wr (w.heap.size + 1) k _).block _ HS2.out.lt (by simp))⟩
        exact ⟨⟨k + 1, hlt, by go_num, HS3, ⟨by rw [← mixL_set]; exact (HT2.out.set k _).drew⟩, ⟨below_drew1 (below_set HB2.out (by omega))⟩⟩, by simp [intOf]; omega⟩
      · obtain rfl : k = 16 := by omega
        have HT3 : Aside0 (BY wr (w.heap.size + 1) 65 (L16 (M.F1 f))) := ⟨by rw [L16_C, ← mixL_all _ (C16 y)]; exact HT2.out⟩
        clear HT2 hlt hk
        have hkl := HK0.out i hi2
        have d1 : wr.cell? ⟨g, 1, none⟩ = some (.slice (some ⟨gk, 0, none⟩) ks.length cap) := pw_cell_below HB2.out HC1.out
        have d2 : wr.cell? ⟨gk, i, none⟩ = some (.string (kAt ks i)) := pw_cell_below HB2.out (HSR.out.at_ i hi2)
        by_cases hlast : i = ks.length - 1
        · have hI : ((i : Int) == ((ks.length : Int) - 1)) = true := beq_iff_eq.mpr (by omega)
          have d3 : wr.cell? ⟨gk, ks.length - 1, none⟩ = some (.string (kAt ks (ks.length - 1))) := by rw [← hlast]; exact d2
          have HEND : Aside0 (M.T (fun q => M.F1 f q ^^^ M.bb (kAt ks (ks.length - 1)) q) = M.encT ks s) := ⟨by
            rw [← hlast, ← M.do_last HF.out hkl, ← HE.out, drop_at hi2, hlast, show ks.length - 1 + 1 = ks.length by omega, List.drop_length]
            rfl⟩
          rw [hlast] at hkl
          have HKL := Aside0.mk hkl
          clear d2 hlast HE hkl
          go_wp2_with (go_at_call 194; (with_reducible refine (add_both (w0 := w) _ (M.F1_lt f) HT3.out HS2.out (by omega) HB2.out (by omega) HKL.out).mono ?_); rintro e W3 ⟨rfl, hs3, ht3, hb3⟩; have hcv := conv_L16 hs3; have HB3 := Aside0.mk hb3; clear hs3 ht3 hb3)
          go_ret2
          exact ⟨by rw [← HEND.out]; simp, HB3.out⟩
        · have hI : ((i : Int) == ((ks.length : Int) - 1)) = false := beq_eq_false_iff_ne.mpr (by omega)
          have hi3 : i + 1 < ks.length := by omega
          clear hlast
          go_wp2
          go_loopw [12] (fun kv wr => ∃ c : Nat, c ≤ 4 ∧ kv = .int .i64 ((4 * c : Nat) : Int) ∧ Aside0 (BY wr w.heap.size 65 (mixL (4 * c) (C16 (M.MX (M.F1 f))) (C16 f))) ∧ Aside0 (BY wr (w.heap.size + 1) 65 (L16 (M.F1 f))) ∧ Aside0 (Below w.heap.size w wr)) (fun kv _ => 16 - (intOf kv).toNat)
          case atStart => exact ⟨0, Nat.zero_le _, rfl, ⟨by rw [Nat.mul_zero, mixL_zero]; exact HS2.out⟩, HT3, HB2⟩
          case round =>
            clear HS2 HT3 HB2 d1 d2
            obtain ⟨c, hc, rfl, HS2, HT2, HB2⟩ := hrel
            by_cases hlc : c < 4
            · have a0 := HT2.out.cell (4 * c) (by rw [L16_length]; omega)
              have a1 := HT2.out.cell (4 * c + 1) (by rw [L16_length]; omega)
              have a2 := HT2.out.cell (4 * c + 2) (by rw [L16_length]; omega)
              have a3 := HT2.out.cell (4 * c + 3) (by rw [L16_length]; omega)
              rw [L16_get _ _ (by omega)] at a0 a1 a2 a3
              have x1 := M.bx (M.F1_lt f (4 * c)) (M.F1_lt f (4 * c + 1))
              have x2 := M.bx (xor_lt (M.F1_lt f (4 * c)) (M.F1_lt f (4 * c + 1))) (M.F1_lt f (4 * c + 2))
              have x3 := M.bx (xor_lt (xor_lt (M.F1_lt f (4 * c)) (M.F1_lt f (4 * c + 1))) (M.F1_lt f (4 * c + 2))) (M.F1_lt f (4 * c + 3))
              go_wp2
              go_region
              clear a0 a1 a2 a3 x1 x2 x3
              have HS3 := Aside0.mk HS2.out.drew
              have HT3 := Aside0.mk HT2.out.drew
              have HB3 := Aside0.mk (below_drew1 HB2.out)
              clear HS2 HT2 HB2
              generalize hA : M.F1 f (4 * c) ^^^ M.F1 f (4 * c + 1) ^^^ M.F1 f (4 * c + 2) ^^^ M.F1 f (4 * c + 3) = A
              have hAl : A < 256 := by rw [← hA]; exact xor_lt (xor_lt (xor_lt (M.F1_lt f _) (M.F1_lt f _)) (M.F1_lt f _)) (M.F1_lt f _)
              have HA := Aside0.mk hA
              clear hA
              go_wp2
              go_loopw [83] (fun jv wr => ∃ j : Nat, j ≤ 4 ∧ jv = .int .i64 j ∧ Aside0 (BY wr w.heap.size 65 (mixL (4 * c + j) (C16 (M.MX (M.F1 f))) (C16 f))) ∧ Aside0 (BY wr (w.heap.size + 1) 65 (L16 (M.F1 f))) ∧ Aside0 (Below w.heap.size w wr)) (fun jv _ => 4 - (intOf jv).toNat)
              case atStart => exact ⟨0, Nat.zero_le _, rfl, HS3, HT3, HB3⟩
              case round =>
                clear HS3 HT3 HB3
                obtain ⟨j, hj, rfl, HS2, HT2, HB2⟩ := hrel
                by_cases hlj : j < 4
                · have hm : (j + 1) % 4 < 4 := Nat.mod_lt _ (by omega)
                  have a0 := HT2.out.cell (4 * c + j) (by rw [L16_length]; omega)
                  have a1 := HT2.out.cell (4 * c + (j + 1) % 4) (by rw [L16_length]; omega)
                  rw [L16_get _ _ (by omega)] at a0 a1
                  have l0 := M.F1_lt f (4 * c + j)
                  have l1 := M.F1_lt f (4 * c + (j + 1) % 4)
                  have x0 := M.bx l0 hAl
                  have x1 := M.bx l0 l1
                  have lx := xor_lt l0 l1
                  have e2 : wr.cell? ⟨g, 2, none⟩ = some (.pointer (some ⟨gt, 0, none⟩)) := pw_cell_below HB2.out HC2.out
                  have e4 := (HT.out.below HB2.out).cell (256 * 2 + (M.F1 f (4 * c + j) ^^^ M.F1 f (4 * c + (j + 1) % 4))) (by rw [tabR_length]; omega)
                  rw [tab_oth 2 _ (by omega) (by omega) lx, show tabF 2 (M.F1 f (4 * c + j) ^^^ M.F1 f (4 * c + (j + 1) % 4)) = xt (M.F1 f (4 * c + j) ^^^ M.F1 f (4 * c + (j + 1) % 4)) from rfl, show 256 * 2 = 512 from rfl] at e4
                  have x2 := M.bx (xor_lt l0 hAl) (xt_lt lx)
                  have hmx := M.mxA_MX (M.F1_lt f) c j hlj
                  unfold M.mxA at hmx
                  rw [HA.out] at hmx
                  rw [hmx] at x2
                  have e5 := HS2.out.frozen (4 * c + j)
                  have e6 := HS2.out.cell (4 * c + j) (by rw [mixL_length]; omega)
                  clear hmx
                  go_wp2
                  go_region
                  go_wp2
                  have HT3 : Aside0 (BY ((wr.setCell ⟨w.heap.size, 4 * c + j, none⟩ (.int .u8 ((M.MX (M.F1 f) (4 * c + j) : Nat) : Int))).drew) (w.heap.size + 1) 65 (L16 (M.F1 f))) := ⟨HT2.out.same ((grownBy_set wr w.heap.size (4 * c + j) _).block _ HT2.out.lt (by simp))⟩
                  exact ⟨⟨j + 1, hlj, by go_num, ⟨by rw [← Nat.add_assoc, ← mixL_set]; exact (HS2.out.set (4 * c + j) _).drew⟩, HT3, ⟨below_drew1 (below_set HB2.out (Nat.le_refl _))⟩⟩, by simp [intOf]; omega⟩
                · obtain rfl : j = 4 := by omega
                  go_wp2
                  exact ⟨⟨c + 1, hlc, by go_num, by rw [Nat.mul_succ]; exact HS2, HT2, HB2⟩, by simp [intOf]; omega⟩
            · obtain rfl : c = 4 := by omega
              have hs4 : BY wr w.heap.size 65 (L16 (M.MX (M.F1 f))) := by rw [L16_C, ← mixL_all _ (C16 f)]; exact HS2.out
              have HS4 := Aside0.mk hs4
              have HE4 : Aside0 (M.fwd (ks.drop (i + 1)) (M.T (fun q => M.MX (M.F1 f) q ^^^ M.bb (kAt ks i) q)) = M.encT ks s) := ⟨by
                rw [← HE.out, drop_at hi2, ← M.do_mid HF.out hkl, drop_at hi3]
                rfl⟩
              have HF4 : Aside0 (∀ q, (fun q => M.MX (M.F1 f) q ^^^ M.bb (kAt ks i) q) q < 256) := ⟨fun q => xor_lt (M.MX_lt (M.F1_lt f) _) (M.bb_lt _ _)⟩
              have HKL := Aside0.mk hkl
              have d1 : wr.cell? ⟨g, 1, none⟩ = some (.slice (some ⟨gk, 0, none⟩) ks.length cap) := pw_cell_below HB2.out HC1.out
              have d2 : wr.cell? ⟨gk, i, none⟩ = some (.string (kAt ks i)) := pw_cell_below HB2.out (HSR.out.at_ i hi2)
              clear hs4 HS2 HE HF hkl
              go_wp2_with (go_at_call 194; (with_reducible refine (add_both (w0 := w) _ (M.MX_lt (M.F1_lt f)) HS4.out HT2.out (by omega) HB2.out (Nat.le_refl _) HKL.out).mono ?_); rintro e W3 ⟨rfl, hs3, ht3, hb3⟩; have HS5 := Aside0.mk hs3; have HT5 := Aside0.mk ht3; have HB5 := Aside0.mk hb3; clear hs3 ht3 hb3)
              exact ⟨⟨i + 1, _, _, by omega, by omega, by go_num, HF4, HE4, HS5, HT5, HB5⟩, by simp [intOf]; omega⟩
end Go.Proofs.Ytokkhnjedmlbhaa.Pr
end
section
namespace Go.Proofs.Ytokkhnjedmlbhaa.Pr
open Go.RowKit Go.Proofs.YtokkhnjedmlbhaaW.PrintWords Go.Proofs.YtokkhnjedmlbhaaW.PrintLast Go.Proofs.YtokkhnjedmlbhaaW.PrintMore Go.Proofs.YtokkhnjedmlbhaaHw Go.Proofs.YtokkhnjedmlbhaaGf
/-- A scope with one label: what holds there is used on the way to it, too. -/
theorem scope_pass {P : Program} {a : Act} {w : World} {Q : Exit → Act → World → Prop} {c c2 : Code} (l : Nat) (J : Act → World → Prop) (μ : Act → World → Nat) (hf : findLabel c l = some (Code.seq .skip c2))
    (pass : ∀ a w, J a w → c2.wp P (Exit.jump l (fun a' w' => J a' w' ∧ μ a' w' < μ a w) Q) a w)
    (first : (∀ a w, J a w → c2.wp P (Exit.jump l J Q) a w) → c.wp P (Exit.jump l J Q) a w) : (Code.scope c).wp P Q a w := by
  refine wp_scope_jumps l J μ hf (first fun a w h => Code.wp_mono (fun e a' w' hq => ?_) (pass a w h)) (fun a w h => wp_seq (wp_skip (pass a w h)))
  cases e <;> first | exact hq | exact ⟨hq.1, hq.2.1⟩
theorem sum_c (c j q : Nat) (hq : q = 4 * c + j) (h : q < 16) : IntKind.i64.wrap (4 * (c : Int) + (j : Int)) = (q : Int) := by
  rw [IntKind.wrap_i64]; omega
theorem mod_c (j d r : Nat) (hj : j < 4) (hd : d < 4) (hr : r = (j + d) % 4) : (IntKind.i64.wrap ((j : Int) + (d : Int))).tmod 4 = (r : Int) := by
  have e : IntKind.i64.wrap ((j : Int) + (d : Int)) = ((j + d : Nat) : Int) := by rw [IntKind.wrap_i64]; omega
  rw [e, Int.tmod_eq_emod_of_nonneg (by omega), hr]
  omega
/-- The places of a column that a product reads. -/
theorem idx4 (c j : Nat) (hc : c < 4) (hj : j < 4) : ∃ r1 r2 r3 q0 q1 q2 q3 : Nat, (q0 = 4 * c + j ∧ q1 = 4 * c + (j + 1) % 4 ∧ q2 = 4 * c + (j + 2) % 4 ∧ q3 = 4 * c + (j + 3) % 4) ∧ (q0 < 16 ∧ q1 < 16 ∧ q2 < 16 ∧ q3 < 16) ∧
    IntKind.i64.wrap (4 * (c : Int) + (j : Int)) = (q0 : Int) ∧ (IntKind.i64.wrap ((j : Int) + 1)).tmod 4 = (r1 : Int) ∧ (IntKind.i64.wrap ((j : Int) + 2)).tmod 4 = (r2 : Int) ∧ (IntKind.i64.wrap ((j : Int) + 3)).tmod 4 = (r3 : Int) ∧
    IntKind.i64.wrap (4 * (c : Int) + (r1 : Int)) = (q1 : Int) ∧ IntKind.i64.wrap (4 * (c : Int) + (r2 : Int)) = (q2 : Int) ∧ IntKind.i64.wrap (4 * (c : Int) + (r3 : Int)) = (q3 : Int) := by
  have h1 : (j + 1) % 4 < 4 := Nat.mod_lt _ (by omega)
  have h2 : (j + 2) % 4 < 4 := Nat.mod_lt _ (by omega)
  have h3 : (j + 3) % 4 < 4 := Nat.mod_lt _ (by omega)
  exact ⟨(j + 1) % 4, (j + 2) % 4, (j + 3) % 4, _, _, _, _, ⟨rfl, rfl, rfl, rfl⟩, ⟨by omega, by omega, by omega, by omega⟩, sum_c c j _ rfl (by omega), mod_c j 1 _ hj (by omega) rfl, mod_c j 2 _ hj (by omega) rfl, mod_c j 3 _ hj (by omega) rfl, sum_c c _ _ rfl (by omega), sum_c c _ _ rfl (by omega), sum_c c _ _ rfl (by omega)⟩
theorem back_set (f y : Nat → Nat) (k : Nat) (hk : k < 16) : (L16 fun q => if 13 * q % 16 < k then M.B1 f q else y q).set (5 * k % 16) ((M.bN (f k) : Nat) : Int) = L16 fun q => if 13 * q % 16 < k + 1 then M.B1 f q else y q := by
  apply List.ext_getElem
  · simp [L16]
  · intro q h1 h2
    have hq : q < 16 := by rw [L16_length] at h2; exact h2
    rw [List.getElem_set]
    simp only [L16, List.getElem_map, List.getElem_range]
    have hu : 5 * k % 16 = q ↔ 13 * q % 16 = k := by omega
    by_cases e : 5 * k % 16 = q
    · have e' := hu.1 e
      rw [if_pos e, if_pos (by omega)]
      show _ = ((M.bN (f (13 * q % 16)) : Nat) : Int)
      rw [e']
    · have e' : 13 * q % 16 ≠ k := fun h => e (hu.2 h)
      rw [if_neg e]
      by_cases h3 : 13 * q % 16 < k
      · rw [if_pos h3, if_pos (by omega)]
      · rw [if_neg h3, if_neg (by omega)]
theorem back_all (f y : Nat → Nat) : (L16 fun q => if 13 * q % 16 < 16 then M.B1 f q else y q) = L16 (M.B1 f) := by
  apply List.map_congr_left
  intro q _
  show ((if 13 * q % 16 < 16 then M.B1 f q else y q : Nat) : Int) = _
  rw [if_pos (Nat.mod_lt _ (by omega))]
/-- What holds at the label: the state has its key; what comes out of it is known. -/
def DecJ (ks : List ByteArray) (s : ByteArray) (g : Nat) (w : World) (a' : Act) (w' : World) : Prop := ∃ (i : Nat) (f y : Nat → Nat) (u : Nat → Value), 1 ≤ i ∧ i < ks.length ∧ Aside0 (∀ q, f q < 256) ∧ Aside0 (M.T (M.B1 f) = M.bwd (ks.drop i) s) ∧ Aside0 (BY w' w.heap.size 65 (L16 y)) ∧ Aside0 (BY w' (w.heap.size + 1) 65 (L16 f)) ∧ Aside0 (Below w.heap.size w w') ∧ a' = { tmps := #[.pointer (some ⟨g, 0, none⟩), .string s, u 2, u 3, .string ⟨#[]⟩, .int .i64 0, .int .i64 0, .pointer (some ⟨w.heap.size, 0, none⟩), .pointer (some ⟨w.heap.size + 1, 0, none⟩), .int .i64 i, u 10, u 11, u 12, u 13, u 14, u 15, u 16, u 17, u 18, u 19, u 20, u 21, u 22, u 23, u 24, u 25, u 26, u 27, u 28, u 29, u 30, u 31, u 32, u 33, u 34, u 35, u 36, u 37, u 38, u 39, u 40, u 41, u 42, u 43, u 44, u 45, u 46, u 47, u 48, u 49, u 50, u 51, u 52, u 53, u 54, u 55, u 56, u 57, u 58, u 59, u 60, u 61, u 62, u 63, u 64, u 65, u 66, u 67, u 68, u 69, u 70, u 71, u 72, u 73, u 74, u 75, u 76, u 77, u 78, u 79, u 80, u 81, u 82, u 83, u 84, u 85, u 86, u 87, u 88, u 89, u 90, u 91, u 92, u 93, u 94, u 95, u 96, u 97, u 98, u 99, u 100, u 101, u 102, u 103, u 104, u 105, u 106, u 107, u 108, u 109, u 110, u 111, u 112, u 113, u 114, u 115, u 116, u 117, u 118, u 119, u 120, u 121, u 122, u 123, u 124, u 125, u 126, u 127, u 128, u 129, u 130, u 131, u 132, u 133, u 134, u 135, u 136, u 137, u 138, u 139, u 140, u 141], defers := [] }
theorem DecJ.mk {ks : List ByteArray} {s : ByteArray} {g : Nat} {w : World} {a' : Act} {w' : World} (i : Nat) (f y : Nat → Nat) (h1 : 1 ≤ i) (h2 : i < ks.length) (h3 : Aside0 (∀ q, f q < 256)) (h4 : Aside0 (M.T (M.B1 f) = M.bwd (ks.drop i) s)) (h5 : Aside0 (BY w' w.heap.size 65 (L16 y))) (h6 : Aside0 (BY w' (w.heap.size + 1) 65 (L16 f))) (h7 : Aside0 (Below w.heap.size w w'))
    (h8 : a' = { tmps := #[.pointer (some ⟨g, 0, none⟩), .string s, a'.tmps.getD 2 undef, a'.tmps.getD 3 undef, .string ⟨#[]⟩, .int .i64 0, .int .i64 0, .pointer (some ⟨w.heap.size, 0, none⟩), .pointer (some ⟨w.heap.size + 1, 0, none⟩), .int .i64 i, a'.tmps.getD 10 undef, a'.tmps.getD 11 undef, a'.tmps.getD 12 undef, a'.tmps.getD 13 undef, a'.tmps.getD 14 undef, a'.tmps.getD 15 undef, a'.tmps.getD 16 undef, a'.tmps.getD 17 undef, a'.tmps.getD 18 undef, a'.tmps.getD 19 undef, a'.tmps.getD 20 undef, a'.tmps.getD 21 undef, a'.tmps.getD 22 undef, a'.tmps.getD 23 undef, a'.tmps.getD 24 undef, a'.tmps.getD 25 undef, a'.tmps.getD 26 undef, a'.tmps.getD 27 undef, a'.tmps.getD 28 undef, a'.tmps.getD 29 undef, a'.tmps.getD 30 undef, a'.tmps.getD 31 undef, a'.tmps.getD 32 undef, a'.tmps.getD 33 undef, a'.tmps.getD 34 undef, a'.tmps.getD 35 undef, a'.tmps.getD 36 undef, a'.tmps.getD 37 undef, a'.tmps.getD 38 undef, a'.tmps.getD 39 undef, a'.tmps.getD 40 undef, a'.tmps.getD 41 undef, a'.tmps.getD 42 undef, a'.tmps.getD 43 undef, a'.tmps.getD 44 undef, a'.tmps.getD 45 undef, a'.tmps.getD 46 undef, a'.tmps.getD 47 undef, a'.tmps.getD 48 undef, a'.tmps.getD 49 undef, a'.tmps.getD 50 undef, a'.tmps.getD 51 undef, a'.tmps.getD 52 undef, a'.tmps.getD 53 undef, a'.tmps.getD 54 undef, a'.tmps.getD 55 undef, a'.tmps.getD 56 undef, a'.tmps.getD 57 undef, a'.tmps.getD 58 undef, a'.tmps.getD 59 undef, a'.tmps.getD 60 undef, a'.tmps.getD 61 undef, a'.tmps.getD 62 undef, a'.tmps.getD 63 undef, a'.tmps.getD 64 undef, a'.tmps.getD 65 undef, a'.tmps.getD 66 undef, a'.tmps.getD 67 undef, a'.tmps.getD 68 undef, a'.tmps.getD 69 undef, a'.tmps.getD 70 undef, a'.tmps.getD 71 undef, a'.tmps.getD 72 undef, a'.tmps.getD 73 undef, a'.tmps.getD 74 undef, a'.tmps.getD 75 undef, a'.tmps.getD 76 undef, a'.tmps.getD 77 undef, a'.tmps.getD 78 undef, a'.tmps.getD 79 undef, a'.tmps.getD 80 undef, a'.tmps.getD 81 undef, a'.tmps.getD 82 undef, a'.tmps.getD 83 undef, a'.tmps.getD 84 undef, a'.tmps.getD 85 undef, a'.tmps.getD 86 undef, a'.tmps.getD 87 undef, a'.tmps.getD 88 undef, a'.tmps.getD 89 undef, a'.tmps.getD 90 undef, a'.tmps.getD 91 undef, a'.tmps.getD 92 undef, a'.tmps.getD 93 undef, a'.tmps.getD 94 undef, a'.tmps.getD 95 undef, a'.tmps.getD 96 undef, a'.tmps.getD 97 undef, a'.tmps.getD 98 undef, a'.tmps.getD 99 undef, a'.tmps.getD 100 undef, a'.tmps.getD 101 undef, a'.tmps.getD 102 undef, a'.tmps.getD 103 undef, a'.tmps.getD 104 undef, a'.tmps.getD 105 undef, a'.tmps.getD 106 undef, a'.tmps.getD 107 undef, a'.tmps.getD 108 undef, a'.tmps.getD 109 undef, a'.tmps.getD 110 undef, a'.tmps.getD 111 undef, a'.tmps.getD 112 undef, a'.tmps.getD 113 undef, a'.tmps.getD 114 undef, a'.tmps.getD 115 undef, a'.tmps.getD 116 undef, a'.tmps.getD 117 undef, a'.tmps.getD 118 undef, a'.tmps.getD 119 undef, a'.tmps.getD 120 undef, a'.tmps.getD 121 undef, a'.tmps.getD 122 undef, a'.tmps.getD 123 undef, a'.tmps.getD 124 undef, a'.tmps.getD 125 undef, a'.tmps.getD 126 undef, a'.tmps.getD 127 undef, a'.tmps.getD 128 undef, a'.tmps.getD 129 undef, a'.tmps.getD 130 undef, a'.tmps.getD 131 undef, a'.tmps.getD 132 undef, a'.tmps.getD 133 undef, a'.tmps.getD 134 undef, a'.tmps.getD 135 undef, a'.tmps.getD 136 undef, a'.tmps.getD 137 undef, a'.tmps.getD 138 undef, a'.tmps.getD 139 undef, a'.tmps.getD 140 undef, a'.tmps.getD 141 undef], defers := [] }) : DecJ ks s g w a' w' := ⟨i, f, y, fun q => a'.tmps.getD q undef, h1, h2, h3, h4, h5, h6, h7, h8⟩
set_option maxHeartbeats 4000000 in
set_option maxRecDepth 100000 in
theorem dec_calls (g n : Nat) (ks : List ByteArray) (s : ByteArray) (w : World) (hC : IsC w g n ks) (hs : s.size = 16) (hl : 2 ≤ ks.length) (hl2 : ks.length ≤ 100) (hk : M.all16 ks) :
    Calls Try.prog 107 #[.pointer (some ⟨g, 0, none⟩), .string s] w fun e w' => e = .returned (.tuple #[.string (M.decT ks s), .int .i64 0]) ∧ Below w.heap.size w w' := by
  have HC := Aside0.mk hC
  have HSZ := Aside0.mk hs
  have HKS := Aside0.mk hk
  obtain ⟨gk, cap, gt, c1, c2, hS, hT⟩ := hC.cells
  have HSR := Aside0.mk hS
  have HT := Aside0.mk hT
  have hgk := hS.lt
  have hgt := hT.lt
  have hgl := hC.lt
  have hk0 : M.all16 ks := hk
  have HK0 : Aside0 (∀ j, j < ks.length → (kAt ks j).size = 16) := ⟨fun j hj => by
    unfold kAt
    rw [List.getD_eq_getElem?_getD, List.getElem?_eq_getElem hj]
    exact hk0 _ (List.getElem_mem hj)⟩
  have HC1 := Aside0.mk c1
  have HC2 := Aside0.mk c2
  obtain ⟨W1, hW1⟩ : ∃ W1 : World, W1 = ((w.alloc (.cells #[.int .u8 0, .int .u8 0, .int .u8 0, .int .u8 0, .int .u8 0, .int .u8 0, .int .u8 0, .int .u8 0, .int .u8 0, .int .u8 0, .int .u8 0, .int .u8 0, .int .u8 0, .int .u8 0, .int .u8 0, .int .u8 0] 65)).alloc (.cells #[.int .u8 0, .int .u8 0, .int .u8 0, .int .u8 0, .int .u8 0, .int .u8 0, .int .u8 0, .int .u8 0, .int .u8 0, .int .u8 0, .int .u8 0, .int .u8 0, .int .u8 0, .int .u8 0, .int .u8 0, .int .u8 0] 65)).setRow (w.heap.size + 1) ((L16 (M.bb s)).map (Value.int .u8)).toArray := ⟨_, rfl⟩
  have hz0 : ((w.alloc (.cells #[.int .u8 0, .int .u8 0, .int .u8 0, .int .u8 0, .int .u8 0, .int .u8 0, .int .u8 0, .int .u8 0, .int .u8 0, .int .u8 0, .int .u8 0, .int .u8 0, .int .u8 0, .int .u8 0, .int .u8 0, .int .u8 0] 65)).alloc (.cells #[.int .u8 0, .int .u8 0, .int .u8 0, .int .u8 0, .int .u8 0, .int .u8 0, .int .u8 0, .int .u8 0, .int .u8 0, .int .u8 0, .int .u8 0, .int .u8 0, .int .u8 0, .int .u8 0, .int .u8 0, .int .u8 0] 65)).heap[w.heap.size]? = some (.cells #[.int .u8 0, .int .u8 0, .int .u8 0, .int .u8 0, .int .u8 0, .int .u8 0, .int .u8 0, .int .u8 0, .int .u8 0, .int .u8 0, .int .u8 0, .int .u8 0, .int .u8 0, .int .u8 0, .int .u8 0, .int .u8 0] 65 (0, 0)) := (heap_alloc_old _ _ (by simp)).trans (heap_alloc_new w _)
  have hz1 : ((w.alloc (.cells #[.int .u8 0, .int .u8 0, .int .u8 0, .int .u8 0, .int .u8 0, .int .u8 0, .int .u8 0, .int .u8 0, .int .u8 0, .int .u8 0, .int .u8 0, .int .u8 0, .int .u8 0, .int .u8 0, .int .u8 0, .int .u8 0] 65)).alloc (.cells #[.int .u8 0, .int .u8 0, .int .u8 0, .int .u8 0, .int .u8 0, .int .u8 0, .int .u8 0, .int .u8 0, .int .u8 0, .int .u8 0, .int .u8 0, .int .u8 0, .int .u8 0, .int .u8 0, .int .u8 0, .int .u8 0] 65)).heap[w.heap.size + 1]? = some (.cells #[.int .u8 0, .int .u8 0, .int .u8 0, .int .u8 0, .int .u8 0, .int .u8 0, .int .u8 0, .int .u8 0, .int .u8 0, .int .u8 0, .int .u8 0, .int .u8 0, .int .u8 0, .int .u8 0, .int .u8 0, .int .u8 0] 65 (0, 0)) := by
    have := heap_alloc_new (w.alloc (.cells #[.int .u8 0, .int .u8 0, .int .u8 0, .int .u8 0, .int .u8 0, .int .u8 0, .int .u8 0, .int .u8 0, .int .u8 0, .int .u8 0, .int .u8 0, .int .u8 0, .int .u8 0, .int .u8 0, .int .u8 0, .int .u8 0] 65)) (.cells #[.int .u8 0, .int .u8 0, .int .u8 0, .int .u8 0, .int .u8 0, .int .u8 0, .int .u8 0, .int .u8 0, .int .u8 0, .int .u8 0, .int .u8 0, .int .u8 0, .int .u8 0, .int .u8 0, .int .u8 0, .int .u8 0] 65)
    simpa using this
  have hcp : ∀ (ty : TypeId), (Builtin.copy_ #[66, 9] ty #[.slice (some ⟨w.heap.size + 1, 0, none⟩) 16 16, .string s]).run Try.prog ((w.alloc (.cells #[.int .u8 0, .int .u8 0, .int .u8 0, .int .u8 0, .int .u8 0, .int .u8 0, .int .u8 0, .int .u8 0, .int .u8 0, .int .u8 0, .int .u8 0, .int .u8 0, .int .u8 0, .int .u8 0, .int .u8 0, .int .u8 0] 65)).alloc (.cells #[.int .u8 0, .int .u8 0, .int .u8 0, .int .u8 0, .int .u8 0, .int .u8 0, .int .u8 0, .int .u8 0, .int .u8 0, .int .u8 0, .int .u8 0, .int .u8 0, .int .u8 0, .int .u8 0, .int .u8 0, .int .u8 0] 65)) = .ok (goInt 16) W1 := fun ty => by
    rw [hW1, ← cells_16 s hs]
    exact run_copy_str (P := Try.prog) _ 66 9 ty 5 (w.heap.size + 1) 16 16 s #[.int .u8 0, .int .u8 0, .int .u8 0, .int .u8 0, .int .u8 0, .int .u8 0, .int .u8 0, .int .u8 0, .int .u8 0, .int .u8 0, .int .u8 0, .int .u8 0, .int .u8 0, .int .u8 0, .int .u8 0, .int .u8 0] 65 Try.underlying66 (by kernel_rfl) hz1 (by omega) rfl
  have hB1 : Below w.heap.size w W1 := by
    rw [hW1]
    exact below_setRow (((Below.refl _ _).alloc (Nat.le_refl _) _).alloc (by simp) _) (by omega) _
  have ht1 : BY W1 (w.heap.size + 1) 65 (L16 (M.bb s)) := by
    rw [hW1]
    exact setRow_heap _ _ _ _ _ _ hz1
  have hs1 : BY W1 w.heap.size 65 (L16 fun _ => 0) := by
    rw [hW1]
    exact (setRow_other _ _ _ _ (by omega)).trans hz0
  have HB1 := Aside0.mk hB1
  have HS1 := Aside0.mk hs1
  have HT1 := Aside0.mk ht1
  have d1 : W1.cell? ⟨g, 1, none⟩ = some (.slice (some ⟨gk, 0, none⟩) ks.length cap) := pw_cell_below hB1 c1
  have d2 : W1.cell? ⟨gk, ks.length - 1, none⟩ = some (.string (kAt ks (ks.length - 1))) := pw_cell_below hB1 (hS.at_ (ks.length - 1) (by omega))
  clear hW1 hz0 hz1 hB1 hs1 ht1 hS hT hk hk0 hs c1 c2 hC
  go_enter Try.func107, Try.ntmps107
  go_wp2
  refine scope_pass 0 (DecJ ks s g w) (fun a' _ => (intOf (a'.tmps.getD 9 undef)).toNat) rfl ?_ ?_
  · clear hcp d1 d2 HB1 HS1 HT1
    intro a0 w0 hJ
    obtain ⟨i, f, y, u, hi1, hi2, HF, HE, HS2, HT2, HB2, rfl⟩ := hJ
    obtain ⟨m, rfl⟩ : ∃ m, i = m + 1 := ⟨i - 1, by omega⟩
    go_wp2
    go_loopw [36] (fun kv wr => ∃ k : Nat, k ≤ 16 ∧ kv = .int .i64 k ∧ Aside0 (BY wr w.heap.size 65 (L16 fun q => if 13 * q % 16 < k then M.B1 f q else y q)) ∧ Aside0 (BY wr (w.heap.size + 1) 65 (L16 f)) ∧ Aside0 (Below w.heap.size w wr)) (fun kv _ => 16 - (intOf kv).toNat)
    case atStart => exact ⟨0, Nat.zero_le _, rfl, HS2, HT2, HB2⟩
    case round =>
      clear HS2 HT2 HB2
      obtain ⟨k, hk, rfl, HS2, HT2, HB2⟩ := hrel
      by_cases hlt : k < 16
      · have e2 : wr.cell? ⟨g, 2, none⟩ = some (.pointer (some ⟨gt, 0, none⟩)) := pw_cell_below HB2.out HC2.out
        have hlt5 : 5 * k % 16 < 16 := Nat.mod_lt _ (by omega)
        have e3 := HT2.out.cell k (by rw [L16_length]; exact hlt)
        rw [L16_get f _ hlt] at e3
        have hfv := HF.out k
        have e4 := (HT.out.below HB2.out).cell (256 + f k) (by rw [tabR_length]; omega)
        rw [tab_back _ hfv] at e4
        have e5 := HS2.out.frozen (5 * k % 16)
        have e6 := HS2.out.cell (5 * k % 16) (by rw [L16_length]; exact hlt5)
        go_wp2
        go_region
        go_wp2
        have HT3 : Aside0 (BY ((wr.setCell ⟨w.heap.size, 5 * k % 16, none⟩ (.int .u8 ((M.bN (f k) : Nat) : Int))).drew) (w.heap.size + 1) 65 (L16 f)) := ⟨HT2.out.same ((grownBy_set wr w.heap.size (5 * k % 16) _).block _ HT2.out.lt (by simp))⟩
        exact ⟨⟨k + 1, hlt, by go_num, ⟨by rw [← back_set f y k hlt]; exact (HS2.out.set (5 * k % 16) _).drew⟩, HT3, ⟨below_drew1 (below_set HB2.out (Nat.le_refl _))⟩⟩, by simp [intOf]; omega⟩
      · obtain rfl : k = 16 := by omega
        have HS3 : Aside0 (BY wr w.heap.size 65 (L16 (M.B1 f))) := ⟨by rw [← back_all f y]; exact HS2.out⟩
        clear HS2 hlt hk
        have HKL := Aside0.mk (HK0.out m (by omega))
        have d1 : wr.cell? ⟨g, 1, none⟩ = some (.slice (some ⟨gk, 0, none⟩) ks.length cap) := pw_cell_below HB2.out HC1.out
        have d2 : wr.cell? ⟨gk, m, none⟩ = some (.string (kAt ks m)) := pw_cell_below HB2.out (HSR.out.at_ m (by omega))
        by_cases hlast : m = 0
        · subst hlast
          have HEND : Aside0 (M.T (fun q => M.B1 f q ^^^ M.bb (kAt ks 0) q) = M.decT ks s) := ⟨by
            have he := HE.out
            rw [← M.ky_T (M.B1_lt f) HKL.out, he]
            cases ks with
            | nil => simp at hl
            | cons k0 kt => rfl⟩
          clear HE
          go_wp2_with (go_at_call 194; (with_reducible refine (add_both (w0 := w) _ (M.B1_lt f) HS3.out HT2.out (by omega) HB2.out (Nat.le_refl _) HKL.out).mono ?_); rintro e W3 ⟨rfl, hs3, ht3, hb3⟩; have hcv := conv_L16 hs3; have HB3 := Aside0.mk hb3; clear hs3 ht3 hb3)
          simp only [Exit.jump]
          go_ret2
          exact ⟨by rw [← HEND.out]; simp, HB3.out⟩
        · have hm1 : 1 ≤ m := by omega
          have HE4 : Aside0 (M.T (M.B1 (M.UX fun q => M.B1 f q ^^^ M.bb (kAt ks m) q)) = M.bwd (ks.drop m) s) := ⟨by
            rw [← M.un_mid (M.B1_lt f) HKL.out, HE.out, drop_at (show m < ks.length by omega), drop_at (show m + 1 < ks.length by omega)]
            rfl⟩
          have hI : ((m : Int) == 0) = false := beq_eq_false_iff_ne.mpr (by omega)
          clear hlast HE
          go_wp2_with (go_at_call 194; (with_reducible refine (add_both (w0 := w) _ (M.B1_lt f) HS3.out HT2.out (by omega) HB2.out (Nat.le_refl _) HKL.out).mono ?_); rintro e W3 ⟨rfl, hs3, ht3, hb3⟩; have HS4 := Aside0.mk hs3; have HT4 := Aside0.mk ht3; have HB4 := Aside0.mk hb3; clear hs3 ht3 hb3)
          have HZ : Aside0 (∀ q, (fun q => M.B1 f q ^^^ M.bb (kAt ks m) q) q < 256) := ⟨fun q => xor_lt (M.B1_lt f q) (M.bb_lt _ _)⟩
          clear HS3 HT2 HB2 d1 d2 hI
          generalize (fun q => M.B1 f q ^^^ M.bb (kAt ks m) q) = z at *
          go_loopw [11] (fun kv wr => ∃ c : Nat, c ≤ 4 ∧ kv = .int .i64 (4 * (c : Int)) ∧ Aside0 (BY wr (w.heap.size + 1) 65 (mixL (4 * c) (C16 (M.UX z)) (C16 f))) ∧ Aside0 (BY wr w.heap.size 65 (L16 z)) ∧ Aside0 (Below w.heap.size w wr)) (fun kv _ => 16 - (intOf kv).toNat)
          case atStart => exact ⟨0, Nat.zero_le _, rfl, ⟨by rw [Nat.mul_zero, mixL_zero]; exact HT4.out⟩, HS4, HB4⟩
          case round =>
            clear HS4 HT4 HB4
            obtain ⟨c, hc, rfl, HT2, HS2, HB2⟩ := hrel
            by_cases hlc : c < 4
            · have hd4 : decide (4 * (c : Int) < 16) = true := decide_eq_true (by omega)
              go_wp2
              clear hd4
              go_loopw [73] (fun jv wr => ∃ j : Nat, j ≤ 4 ∧ jv = .int .i64 j ∧ Aside0 (BY wr (w.heap.size + 1) 65 (mixL (4 * c + j) (C16 (M.UX z)) (C16 f))) ∧ Aside0 (BY wr w.heap.size 65 (L16 z)) ∧ Aside0 (Below w.heap.size w wr)) (fun jv _ => 4 - (intOf jv).toNat)
              case atStart => exact ⟨0, Nat.zero_le _, rfl, HT2, HS2, HB2⟩
              case round =>
                clear HS2 HT2 HB2
                obtain ⟨j, hj, rfl, HT2, HS2, HB2⟩ := hrel
                by_cases hlj : j < 4
                · have hum := M.umA_UX z c j hlj
                  unfold M.umA at hum
                  obtain ⟨r1, r2, r3, q0, q1, q2, q3, ⟨hq0, hq1, hq2, hq3⟩, ⟨hl0, hl1, hl2, hl3⟩, t0, v1, v2, v3, t1, t2, t3⟩ := idx4 c j hlc hlj
                  rw [← hq0, ← hq1, ← hq2, ← hq3] at hum
                  have At0 := Aside0.mk t0
                  have At1 := Aside0.mk t1
                  have At2 := Aside0.mk t2
                  have At3 := Aside0.mk t3
                  have Av1 := Aside0.mk v1
                  have Av2 := Aside0.mk v2
                  have Av3 := Aside0.mk v3
                  clear t0 t1 t2 t3 v1 v2 v3 hq1 hq2 hq3
                  have a0 := HS2.out.cell q0 (by rw [L16_length]; exact hl0)
                  have a1 := HS2.out.cell q1 (by rw [L16_length]; exact hl1)
                  have a2 := HS2.out.cell q2 (by rw [L16_length]; exact hl2)
                  have a3 := HS2.out.cell q3 (by rw [L16_length]; exact hl3)
                  rw [L16_get _ _ hl0] at a0
                  rw [L16_get _ _ hl1] at a1
                  rw [L16_get _ _ hl2] at a2
                  rw [L16_get _ _ hl3] at a3
                  have l0 := HZ.out q0
                  have l1 := HZ.out q1
                  have l2 := HZ.out q2
                  have l3 := HZ.out q3
                  have e2 : wr.cell? ⟨g, 2, none⟩ = some (.pointer (some ⟨gt, 0, none⟩)) := pw_cell_below HB2.out HC2.out
                  have hTw := HT.out.below HB2.out
                  have b0 := hTw.cell (256 * 6 + z q0) (by rw [tabR_length]; omega)
                  have b1 := hTw.cell (256 * 4 + z q1) (by rw [tabR_length]; omega)
                  have b2 := hTw.cell (256 * 5 + z q2) (by rw [tabR_length]; omega)
                  have b3 := hTw.cell (256 * 3 + z q3) (by rw [tabR_length]; omega)
                  rw [tab_oth 6 _ (by omega) (by omega) l0, show ∀ v, tabF 6 v = gm 14 v from fun _ => rfl, show 256 * 6 = 1536 from rfl] at b0
                  rw [tab_oth 4 _ (by omega) (by omega) l1, show ∀ v, tabF 4 v = gm 11 v from fun _ => rfl, show 256 * 4 = 1024 from rfl] at b1
                  rw [tab_oth 5 _ (by omega) (by omega) l2, show ∀ v, tabF 5 v = gm 13 v from fun _ => rfl, show 256 * 5 = 1280 from rfl] at b2
                  rw [tab_oth 3 _ (by omega) (by omega) l3, show ∀ v, tabF 3 v = gm 9 v from fun _ => rfl, show 256 * 3 = 768 from rfl] at b3
                  have x1 := M.bx (gm_lt (a := 14) (b := z q0) (by omega)) (gm_lt (a := 11) (b := z q1) (by omega))
                  have y1 := xor_lt (gm_lt (a := 14) (b := z q0) (by omega)) (gm_lt (a := 11) (b := z q1) (by omega))
                  have x2 := M.bx y1 (gm_lt (a := 13) (b := z q2) (by omega))
                  have y2 := xor_lt y1 (gm_lt (a := 13) (b := z q2) (by omega))
                  have x3 := M.bx y2 (gm_lt (a := 9) (b := z q3) (by omega))
                  rw [hum] at x3
                  have e5 := HT2.out.frozen q0
                  have e6 := HT2.out.cell q0 (by rw [mixL_length]; exact hl0)
                  have i0 : (q0 : Int) < 16 := by omega
                  have k0 : ((z q0 : Nat) : Int) < 256 := by omega
                  have i1 : (q1 : Int) < 16 := by omega
                  have k1 : ((z q1 : Nat) : Int) < 256 := by omega
                  have i2 : (q2 : Int) < 16 := by omega
                  have k2 : ((z q2 : Nat) : Int) < 256 := by omega
                  have i3 : (q3 : Int) < 16 := by omega
                  have k3 : ((z q3 : Nat) : Int) < 256 := by omega
                  have HQ := Aside0.mk hq0
                  have HT3 := Aside0.mk ((HT2.out.set q0 ((M.UX z q0 : Nat) : Int)).drew)
                  have HS3 : Aside0 (BY ((wr.setCell ⟨w.heap.size + 1, q0, none⟩ (.int .u8 ((M.UX z q0 : Nat) : Int))).drew) w.heap.size 65 (L16 z)) := ⟨HS2.out.same ((grownBy_set wr (w.heap.size + 1) q0 _).block _ HS2.out.lt (by simp))⟩
                  have HB3 : Aside0 (Below w.heap.size w ((wr.setCell ⟨w.heap.size + 1, q0, none⟩ (.int .u8 ((M.UX z q0 : Nat) : Int))).drew)) := ⟨below_drew1 (below_set HB2.out (by omega))⟩
                  clear hum hTw y1 y2 hq0 HS2 HT2 HB2 l0 l1 l2 l3
                  go_wp2
                  simp only [List.append]
                  have t0 := At0.out
                  have v1 := Av1.out
                  have v2 := Av2.out
                  have v3 := Av3.out
                  have t1 := At1.out
                  have t2 := At2.out
                  have t3 := At3.out
                  refine still_tail 65 (by kernel_rfl) (by kernel_rfl) ?_
                  simp only [List.take_succ_cons, List.take_zero, List.drop_succ_cons, List.drop_zero]
                  repeat still_step
                  refine wpStill_nil ?_
                  clear t0 t1 t2 t3 v1 v2 v3 a0 a1 a2 a3 b0 b1 b2 b3 x1 x2 x3
                  go_wp2
                  have HT5 : Aside0 (BY ((wr.setCell ⟨w.heap.size + 1, q0, none⟩ (.int .u8 ((M.UX z q0 : Nat) : Int))).drew) (w.heap.size + 1) 65 (mixL (4 * c + (j + 1)) (C16 (M.UX z)) (C16 f))) := ⟨by rw [← Nat.add_assoc, ← HQ.out, ← mixL_set]; have h := HT3.out; rw [← HQ.out] at h; exact h⟩
                  exact ⟨⟨j + 1, hlj, by go_num, HT5, HS3, HB3⟩, by simp [intOf]; omega⟩
                · obtain rfl : j = 4 := by omega
                  go_wp2
                  exact ⟨⟨c + 1, hlc, by first | go_num | (congr 1; omega), by rw [Nat.mul_succ]; exact HT2, HS2, HB2⟩, by simp [intOf]; omega⟩
            · obtain rfl : c = 4 := by omega
              have HT3 : Aside0 (BY wr (w.heap.size + 1) 65 (L16 (M.UX z))) := ⟨by rw [L16_C, ← mixL_all _ (C16 f)]; exact HT2.out⟩
              clear HT2
              go_wp2
              go_step3
              exact ⟨rfl, DecJ.mk m (M.UX z) z hm1 (by omega) ⟨fun q => M.UX_lt _ q⟩ HE4 HS2 HT3 HB2 rfl, by simp [intOf]⟩
  · intro hpass
    go_wp2_with (first | (go_at_call 193; (with_reducible refine (may_ok g n ks s _ HC.out HSZ.out).mono ?_); rintro e w' ⟨rfl, hw'⟩; have hw2 := hw'.symm; subst hw2) | (go_at_call 194; (with_reducible refine (add_both (w0 := w) _ (M.bb_lt s) HT1.out HS1.out (by omega) HB1.out (by omega) (HK0.out (ks.length - 1) (by omega))).mono ?_); rintro e W2 ⟨rfl, ht2, hs2, hb2⟩))
    have HF0 : Aside0 (∀ q, (fun q => M.bb s q ^^^ M.bb (kAt ks (ks.length - 1)) q) q < 256) := ⟨fun q => xor_lt (M.bb_lt _ _) (M.bb_lt _ _)⟩
    have HE0 : Aside0 (M.T (M.B1 fun q => M.bb s q ^^^ M.bb (kAt ks (ks.length - 1)) q) = M.bwd (ks.drop (ks.length - 1)) s) := ⟨by
      rw [← M.un_last (M.bb_lt s) (HK0.out (ks.length - 1) (by omega)), M.T_of s HSZ.out, drop_at (show ks.length - 1 < ks.length by omega), show ks.length - 1 + 1 = ks.length by omega, List.drop_length]
      rfl⟩
    have HS2 := Aside0.mk hs2
    have HT2 := Aside0.mk ht2
    have HB2 := Aside0.mk hb2
    clear hs2 ht2 hb2
    go_step3
    rename_i K hK
    have e9 : ((ks.length : Int) - 1) = ((ks.length - 1 : Nat) : Int) := by omega
    rw [e9]
    exact hK _ _ (hpass _ _ (DecJ.mk (ks.length - 1) _ (fun _ => 0) (by omega) (by omega) HF0 HE0 HS2 HT2 HB2 rfl))
end Go.Proofs.Ytokkhnjedmlbhaa.Pr
end
