-- several texts in one (by the session's program shake.py)
import Derived.Test.YtokkhnjedmlbhaaZAesAdd
import Derived.Test.YtokkhnjedmlbhaaZAesM
import Derived.Test.YtokkhnjedmlbhaaZPrg05
import Derived.ScopeJumps
import Derived.Test.YtokkhnjedmlbhaaZExpand
import Derived.Laws.BitsAllLaws
section
namespace Go.Proofs.Ytokkhnjedmlbhaa.Pr
open Go.RowKit Go.Proofs.YtokkhnjedmlbhaaW.PrintWords Go.Proofs.YtokkhnjedmlbhaaW.PrintLast Go.Proofs.YtokkhnjedmlbhaaW.PrintMore Go.Proofs.YtokkhnjedmlbhaaHw Go.Proofs.YtokkhnjedmlbhaaGf
theorem tabR_at (p v : Nat) (hp : p < 7) (hv : v < 256) : (tabR 256).getD (256 * p + v) 0 = ((tabV 256 (256 * p + v) : Nat) : Int) := by
  have : 256 * p + v < 1792 := by omega
  simp [tabR, this]
theorem tab_sub (v : Nat) (hv : v < 256) : (tabR 256).getD v 0 = ((M.sN v : Nat) : Int) := by
  have h := tabR_at 0 v (by omega) hv
  rw [show 256 * 0 + v = v by omega] at h
  rw [h]
  unfold tabV
  rw [show v / 256 = 0 by omega, show v % 256 = v by omega, if_neg (by decide), if_pos hv]
  rfl
theorem tab_back (v : Nat) (hv : v < 256) : (tabR 256).getD (256 + v) 0 = ((M.bN v : Nat) : Int) := by
  rw [tabR_at 1 v (by omega) hv]
  unfold tabV
  rw [show (256 * 1 + v) / 256 = 1 by omega, show (256 * 1 + v) % 256 = v by omega, if_pos rfl, if_pos (M.bN_lt v)]
theorem tab_oth (p v : Nat) (hp : p < 7) (h1 : p ≠ 1) (hv : v < 256) : (tabR 256).getD (256 * p + v) 0 = ((tabF p v : Nat) : Int) := by
  rw [tabR_at p v hp hv]
  unfold tabV
  rw [show (256 * p + v) / 256 = p by omega, show (256 * p + v) % 256 = v by omega, if_neg h1, if_pos hv]
/-- Sixteen bytes. -/
def L16 (f : Nat → Nat) : List Int := (List.range 16).map fun q => ((f q : Nat) : Int)
theorem L16_length (f : Nat → Nat) : (L16 f).length = 16 := by simp [L16]
theorem L16_get (f : Nat → Nat) (i : Nat) (hi : i < 16) : (L16 f).getD i 0 = ((f i : Nat) : Int) := by simp [L16, hi]
def C16 (f : Nat → Nat) : Nat → Int := fun q => ((f q : Nat) : Int)
theorem L16_C (f : Nat → Nat) : L16 f = (List.range 16).map (C16 f) := rfl
theorem cells_16 (s : ByteArray) (hs : s.size = 16) : (Lib.byteCells s.data.toList).take 16 = (L16 (M.bb s)).map (Value.int .u8) := by
  apply List.ext_getElem
  · rw [List.length_take, Lib.byteCells_length, List.length_map, L16_length, ← Lib.size_eq]; omega
  · intro i h1 h2
    have hi : i < 16 := by rw [List.length_map, L16_length] at h2; exact h2
    simp only [List.getElem_take, Lib.byteCells, List.getElem_map, L16, List.getElem_range]
    rw [← M.bt_bb, ← bt_at s (i : Int) (by simp; omega)]
    rfl
theorem L16_xor {f : Nat → Nat} (hf : ∀ i, f i < 256) (key : ByteArray) : ((List.range 16).map fun q => Go.bits .xor .u8 (C16 f q) (bt key q)) = L16 (fun q => f q ^^^ M.bb key q) := by
  apply List.map_congr_left
  intro q _
  show Go.bits .xor .u8 ((f q : Nat) : Int) (bt key (q : Int)) = _
  rw [M.bt_bb, M.bx (hf q) (M.bb_lt key q)]
/-- A key added to sixteen bytes. -/
theorem add_nat (g : Nat) (f : Nat → Nat) (hf : ∀ i, f i < 256) (key : ByteArray) (w : World) (hg : BY w g 65 (L16 f)) (hk : key.size = 16) :
    Calls Try.prog 194 #[.pointer (some ⟨g, 0, none⟩), .string key] w fun e w' => e = .returned (.tuple #[]) ∧ BY w' g 65 (L16 fun q => f q ^^^ M.bb key q) ∧ w.grownBy w' (some g) := by
  refine (add_calls g (C16 f) key w hg hk).mono fun e w' h => ?_
  rw [L16_xor hf] at h
  exact h
/-- The same, with what else is known of the memory. -/
theorem add_both {w0 W : World} {g h : Nat} {f : Nat → Nat} {ys : List Int} (key : ByteArray) (hf : ∀ i, f i < 256) (hg : BY W g 65 (L16 f)) (hh : BY W h 65 ys) (hne : h ≠ g) (hB : Below w0.heap.size w0 W) (hbg : w0.heap.size ≤ g) (hk : key.size = 16) :
    Calls Try.prog 194 #[.pointer (some ⟨g, 0, none⟩), .string key] W fun e w' => e = .returned (.tuple #[]) ∧ BY w' g 65 (L16 fun q => f q ^^^ M.bb key q) ∧ BY w' h 65 ys ∧ Below w0.heap.size w0 w' := by
  refine (add_nat g f hf key W hg hk).mono fun e w' h' => ?_
  obtain ⟨h1, h2, h3⟩ := h'
  exact ⟨h1, h2, hh.same (h3.block _ hh.lt (fun e => hne (by injection e))), hB.grown h3 hB.size (fun q hq => by injection hq with hq; omega)⟩
def kAt (ks : List ByteArray) (j : Nat) : ByteArray := ks.getD j ByteArray.empty
theorem StrRow.at_ {w : World} {g : Nat} {ps : List ByteArray} (h : StrRow w g ps) (j : Nat) (hj : j < ps.length) : w.cell? ⟨g, j, none⟩ = some (.string (kAt ps j)) := by
  refine h.cell j _ ?_
  simp [kAt, List.getD_eq_getElem?_getD, hj]
theorem strL16 (f : Nat → Nat) : strOfNums (L16 f) = M.T f := by
  unfold M.T
  rw [← M.strOfNums_cast, List.map_map]
  rfl
theorem conv_L16 {W : World} {g : Nat} {f : Nat → Nat} (h : BY W g 65 (L16 f)) : (convert 66 9 (.slice (some ⟨g, 0, none⟩) 16 16)).run Try.prog W = .ok (.string (M.T f)) W := by
  rw [← strL16]
  exact run_convert_bytes_arg (P := Try.prog) W 66 5 Try.underlying66 Try.underlying5 g 0 16 16 (L16 f) (L16_length f) (fun i hi => by
    rw [Nat.zero_add]
    exact h.cell i (by rw [L16_length]; exact hi)) 9 Try.underlying9
theorem drop_at {ks : List ByteArray} {i : Nat} (h : i < ks.length) : ks.drop i = kAt ks i :: ks.drop (i + 1) := by
  rw [List.drop_eq_getElem_cons h]
  simp [kAt, List.getD_eq_getElem?_getD, h]
set_option maxHeartbeats 4000000 in
set_option maxRecDepth 100000 in
theorem enc_calls (g n : Nat) (ks : List ByteArray) (s : ByteArray) (w : World) (hC : IsC w g n ks) (hs : s.size = 16) (hl : 2 ≤ ks.length) (hl2 : ks.length ≤ 100) (hk : M.all16 ks) :
    Calls Try.prog 106 #[.pointer (some ⟨g, 0, none⟩), .string s] w fun e w' => e = .returned (.tuple #[.string (M.encT ks s), .int .i64 0]) ∧ Below w.heap.size w w' := by
  have HC := Aside0.mk hC
  have HSZ := Aside0.mk hs
  have HKS := Aside0.mk hk
  obtain ⟨gk, cap, gt, c1, c2, hS, hT⟩ := hC.cells
  have HSR := Aside0.mk hS
  have HT := Aside0.mk hT
  have hgk := hS.lt
  have hgt := hT.lt
  have hgl := hC.lt
  have hk0 : M.all16 ks := hk
  have HK0 : Aside0 (∀ j, j < ks.length → (kAt ks j).size = 16) := ⟨fun j hj => by
    unfold kAt
    rw [List.getD_eq_getElem?_getD, List.getElem?_eq_getElem hj]
    exact hk0 _ (List.getElem_mem hj)⟩
  have HC1 := Aside0.mk c1
  have HC2 := Aside0.mk c2
  obtain ⟨W1, hW1⟩ : ∃ W1 : World, W1 = ((w.alloc (.cells #[.int .u8 0, .int .u8 0, .int .u8 0, .int .u8 0, .int .u8 0, .int .u8 0, .int .u8 0, .int .u8 0, .int .u8 0, .int .u8 0, .int .u8 0, .int .u8 0, .int .u8 0, .int .u8 0, .int .u8 0, .int .u8 0] 65)).alloc (.cells #[.int .u8 0, .int .u8 0, .int .u8 0, .int .u8 0, .int .u8 0, .int .u8 0, .int .u8 0, .int .u8 0, .int .u8 0, .int .u8 0, .int .u8 0, .int .u8 0, .int .u8 0, .int .u8 0, .int .u8 0, .int .u8 0] 65)).setRow w.heap.size ((L16 (M.bb s)).map (Value.int .u8)).toArray := ⟨_, rfl⟩
  have hz0 : ((w.alloc (.cells #[.int .u8 0, .int .u8 0, .int .u8 0, .int .u8 0, .int .u8 0, .int .u8 0, .int .u8 0, .int .u8 0, .int .u8 0, .int .u8 0, .int .u8 0, .int .u8 0, .int .u8 0, .int .u8 0, .int .u8 0, .int .u8 0] 65)).alloc (.cells #[.int .u8 0, .int .u8 0, .int .u8 0, .int .u8 0, .int .u8 0, .int .u8 0, .int .u8 0, .int .u8 0, .int .u8 0, .int .u8 0, .int .u8 0, .int .u8 0, .int .u8 0, .int .u8 0, .int .u8 0, .int .u8 0] 65)).heap[w.heap.size]? = some (.cells #[.int .u8 0, .int .u8 0, .int .u8 0, .int .u8 0, .int .u8 0, .int .u8 0, .int .u8 0, .int .u8 0, .int .u8 0, .int .u8 0, .int .u8 0, .int .u8 0, .int .u8 0, .int .u8 0, .int .u8 0, .int .u8 0] 65 (0, 0)) := (heap_alloc_old _ _ (by simp)).trans (heap_alloc_new w _)
  have hcp : ∀ (ty : TypeId), (Builtin.copy_ #[66, 9] ty #[.slice (some ⟨w.heap.size, 0, none⟩) 16 16, .string s]).run Try.prog ((w.alloc (.cells #[.int .u8 0, .int .u8 0, .int .u8 0, .int .u8 0, .int .u8 0, .int .u8 0, .int .u8 0, .int .u8 0, .int .u8 0, .int .u8 0, .int .u8 0, .int .u8 0, .int .u8 0, .int .u8 0, .int .u8 0, .int .u8 0] 65)).alloc (.cells #[.int .u8 0, .int .u8 0, .int .u8 0, .int .u8 0, .int .u8 0, .int .u8 0, .int .u8 0, .int .u8 0, .int .u8 0, .int .u8 0, .int .u8 0, .int .u8 0, .int .u8 0, .int .u8 0, .int .u8 0, .int .u8 0] 65)) = .ok (goInt 16) W1 := fun ty => by
    rw [hW1, ← cells_16 s hs]
    exact run_copy_str (P := Try.prog) _ 66 9 ty 5 w.heap.size 16 16 s #[.int .u8 0, .int .u8 0, .int .u8 0, .int .u8 0, .int .u8 0, .int .u8 0, .int .u8 0, .int .u8 0, .int .u8 0, .int .u8 0, .int .u8 0, .int .u8 0, .int .u8 0, .int .u8 0, .int .u8 0, .int .u8 0] 65 Try.underlying66 (by kernel_rfl) hz0 (by omega) rfl
  have hB1 : Below w.heap.size w W1 := by
    rw [hW1]
    exact below_setRow (((Below.refl _ _).alloc (Nat.le_refl _) _).alloc (by simp) _) (Nat.le_refl _) _
  have hs1 : BY W1 w.heap.size 65 (L16 (M.bb s)) := by
    rw [hW1]
    exact setRow_heap _ _ _ _ _ _ hz0
  have ht1 : BY W1 (w.heap.size + 1) 65 (L16 fun _ => 0) := by
    rw [hW1]
    have h : ((w.alloc (.cells #[.int .u8 0, .int .u8 0, .int .u8 0, .int .u8 0, .int .u8 0, .int .u8 0, .int .u8 0, .int .u8 0, .int .u8 0, .int .u8 0, .int .u8 0, .int .u8 0, .int .u8 0, .int .u8 0, .int .u8 0, .int .u8 0] 65)).alloc (.cells #[.int .u8 0, .int .u8 0, .int .u8 0, .int .u8 0, .int .u8 0, .int .u8 0, .int .u8 0, .int .u8 0, .int .u8 0, .int .u8 0, .int .u8 0, .int .u8 0, .int .u8 0, .int .u8 0, .int .u8 0, .int .u8 0] 65)).heap[w.heap.size + 1]? = some (.cells #[.int .u8 0, .int .u8 0, .int .u8 0, .int .u8 0, .int .u8 0, .int .u8 0, .int .u8 0, .int .u8 0, .int .u8 0, .int .u8 0, .int .u8 0, .int .u8 0, .int .u8 0, .int .u8 0, .int .u8 0, .int .u8 0] 65 (0, 0)) := by
      have := heap_alloc_new (w.alloc (.cells #[.int .u8 0, .int .u8 0, .int .u8 0, .int .u8 0, .int .u8 0, .int .u8 0, .int .u8 0, .int .u8 0, .int .u8 0, .int .u8 0, .int .u8 0, .int .u8 0, .int .u8 0, .int .u8 0, .int .u8 0, .int .u8 0] 65)) (.cells #[.int .u8 0, .int .u8 0, .int .u8 0, .int .u8 0, .int .u8 0, .int .u8 0, .int .u8 0, .int .u8 0, .int .u8 0, .int .u8 0, .int .u8 0, .int .u8 0, .int .u8 0, .int .u8 0, .int .u8 0, .int .u8 0] 65)
      simpa using this
    exact (setRow_other _ _ _ _ (by omega)).trans h
  have HCOP := Aside0.mk hcp
  have HB1 := Aside0.mk hB1
  have HS1 := Aside0.mk hs1
  have HT1 := Aside0.mk ht1
  have d1 : W1.cell? ⟨g, 1, none⟩ = some (.slice (some ⟨gk, 0, none⟩) ks.length cap) := pw_cell_below hB1 c1
  have d2 : W1.cell? ⟨gk, 0, none⟩ = some (.string (kAt ks 0)) := pw_cell_below hB1 (hS.at_ 0 (by omega))
  clear hW1 hz0 hB1 hs1 ht1 hS hT hk hk0 hs c1 c2 hC HCOP
  go_enter Try.func106, Try.ntmps106
  go_wp2_with (first | (go_at_call 193; (with_reducible refine (may_ok g n ks s _ HC.out HSZ.out).mono ?_); rintro e w' ⟨rfl, hw'⟩; have hw2 := hw'.symm; subst hw2) | (go_at_call 194; (with_reducible refine (add_both (w0 := w) _ (M.bb_lt s) HS1.out HT1.out (by omega) HB1.out (Nat.le_refl _) (HK0.out 0 (by omega))).mono ?_); rintro e W2 ⟨rfl, hs2, ht2, hb2⟩; have d3 := pw_cell_below hb2 HC1.out))
  have HS2 := Aside0.mk hs2
  have HT2 := Aside0.mk ht2
  have HB2 := Aside0.mk hb2
  clear hs2 ht2 hb2
  have HF0 : Aside0 (∀ q, (fun q => M.bb s q ^^^ M.bb (kAt ks 0) q) q < 256) := ⟨fun q => xor_lt (M.bb_lt _ _) (M.bb_lt _ _)⟩
  have HE0 : Aside0 (M.fwd (ks.drop 1) (M.T fun q => M.bb s q ^^^ M.bb (kAt ks 0) q) = M.encT ks s) := ⟨by
    cases ks with
    | nil => simp at hl
    | cons k0 kt =>
      show M.fwd kt _ = M.fwd kt (M.kyT s k0)
      rw [M.ky_16 HSZ.out (HKS.out k0 (by simp))]
      rfl⟩
  clear hcp d1 d2 d3 HB1 HS1 HT1
  generalize (fun q => M.bb s q ^^^ M.bb (kAt ks 0) q) = f0 at *
  go_loopw [10] (fun iv wr => ∃ (i : Nat) (f y : Nat → Nat), 1 ≤ i ∧ i < ks.length ∧ iv = .int .i64 i ∧ Aside0 (∀ q, f q < 256) ∧ Aside0 (M.fwd (ks.drop i) (M.T f) = M.encT ks s) ∧ Aside0 (BY wr w.heap.size 65 (L16 f)) ∧ Aside0 (BY wr (w.heap.size + 1) 65 (L16 y)) ∧ Aside0 (Below w.heap.size w wr)) (fun iv _ => ks.length - (intOf iv).toNat)
  case atStart => exact ⟨1, f0, fun _ => 0, by omega, by omega, rfl, HF0, HE0, HS2, HT2, HB2⟩
  case round =>
    clear HF0 HE0 HS2 HT2 HB2
    obtain ⟨i, f, y, hi1, hi2, rfl, HF, HE, HS2, HT2, HB2⟩ := hrel
    go_wp2
    go_loopw [39] (fun kv wr => ∃ k : Nat, k ≤ 16 ∧ kv = .int .i64 k ∧ Aside0 (BY wr w.heap.size 65 (L16 f)) ∧ Aside0 (BY wr (w.heap.size + 1) 65 (mixL k (C16 (M.F1 f)) (C16 y))) ∧ Aside0 (Below w.heap.size w wr)) (fun kv _ => 16 - (intOf kv).toNat)
    case atStart => exact ⟨0, Nat.zero_le _, rfl, HS2, ⟨by rw [mixL_zero]; exact HT2.out⟩, HB2⟩
    case round =>
      clear HS2 HT2 HB2
      obtain ⟨k, hk, rfl, HS2, HT2, HB2⟩ := hrel
      by_cases hlt : k < 16
      · have e2 : wr.cell? ⟨g, 2, none⟩ = some (.pointer (some ⟨gt, 0, none⟩)) := pw_cell_below HB2.out HC2.out
        have hlt5 : 5 * k % 16 < 16 := Nat.mod_lt _ (by omega)
        have e3 := HS2.out.cell (5 * k % 16) (by rw [L16_length]; exact hlt5)
        rw [L16_get f _ hlt5] at e3
        have hfv := HF.out (5 * k % 16)
        have e4 := (HT.out.below HB2.out).cell (f (5 * k % 16)) (by rw [tabR_length]; omega)
        rw [tab_sub _ hfv, show M.sN (f (5 * k % 16)) = M.F1 f k from rfl] at e4
        have e5 := HT2.out.frozen k
        have e6 := HT2.out.cell k (by rw [mixL_length]; exact hlt)
        go_wp2
        go_region
        go_wp2
        have HS3 : Aside0 (BY ((wr.setCell ⟨w.heap.size + 1, k, none⟩ (.int .u8 ((M.F1 f k : Nat) : Int))).drew) w.heap.size 65 (L16 f)) := ⟨HS2.out.same ((grownBy_set wr (w.heap.size + 1) k _).block _ HS2.out.lt (by simp))⟩
        exact ⟨⟨k + 1, hlt, by go_num, HS3, ⟨by rw [← mixL_set]; exact (HT2.out.set k _).drew⟩, ⟨below_drew1 (below_set HB2.out (by omega))⟩⟩, by simp [intOf]; omega⟩
      · obtain rfl : k = 16 := by omega
        have HT3 : Aside0 (BY wr (w.heap.size + 1) 65 (L16 (M.F1 f))) := ⟨by rw [L16_C, ← mixL_all _ (C16 y)]; exact HT2.out⟩
        clear HT2 hlt hk
        have hkl := HK0.out i hi2
        have d1 : wr.cell? ⟨g, 1, none⟩ = some (.slice (some ⟨gk, 0, none⟩) ks.length cap) := pw_cell_below HB2.out HC1.out
        have d2 : wr.cell? ⟨gk, i, none⟩ = some (.string (kAt ks i)) := pw_cell_below HB2.out (HSR.out.at_ i hi2)
        by_cases hlast : i = ks.length - 1
        · have hI : ((i : Int) == ((ks.length : Int) - 1)) = true := beq_iff_eq.mpr (by omega)
          have d3 : wr.cell? ⟨gk, ks.length - 1, none⟩ = some (.string (kAt ks (ks.length - 1))) := by rw [← hlast]; exact d2
          have HEND : Aside0 (M.T (fun q => M.F1 f q ^^^ M.bb (kAt ks (ks.length - 1)) q) = M.encT ks s) := ⟨by
            rw [← hlast, ← M.do_last HF.out hkl, ← HE.out, drop_at hi2, hlast, show ks.length - 1 + 1 = ks.length by omega, List.drop_length]
            rfl⟩
          rw [hlast] at hkl
          have HKL := Aside0.mk hkl
          clear d2 hlast HE hkl
          go_wp2_with (go_at_call 194; (with_reducible refine (add_both (w0 := w) _ (M.F1_lt f) HT3.out HS2.out (by omega) HB2.out (by omega) HKL.out).mono ?_); rintro e W3 ⟨rfl, hs3, ht3, hb3⟩; have hcv := conv_L16 hs3; have HB3 := Aside0.mk hb3; clear hs3 ht3 hb3)
          go_ret2
          exact ⟨by rw [← HEND.out]; simp, HB3.out⟩
        · have hI : ((i : Int) == ((ks.length : Int) - 1)) = false := beq_eq_false_iff_ne.mpr (by omega)
          have hi3 : i + 1 < ks.length := by omega
          clear hlast
          go_wp2
          go_loopw [12] (fun kv wr => ∃ c : Nat, c ≤ 4 ∧ kv = .int .i64 ((4 * c : Nat) : Int) ∧ Aside0 (BY wr w.heap.size 65 (mixL (4 * c) (C16 (M.MX (M.F1 f))) (C16 f))) ∧ Aside0 (BY wr (w.heap.size + 1) 65 (L16 (M.F1 f))) ∧ Aside0 (Below w.heap.size w wr)) (fun kv _ => 16 - (intOf kv).toNat)
          case atStart => exact ⟨0, Nat.zero_le _, rfl, ⟨by rw [Nat.mul_zero, mixL_zero]; exact HS2.out⟩, HT3, HB2⟩
          case round =>
            clear HS2 HT3 HB2 d1 d2
            obtain ⟨c, hc, rfl, HS2, HT2, HB2⟩ := hrel
            by_cases hlc : c < 4
            · have a0 := HT2.out.cell (4 * c) (by rw [L16_length]; omega)
              have a1 := HT2.out.cell (4 * c + 1) (by rw [L16_length]; omega)
              have a2 := HT2.out.cell (4 * c + 2) (by rw [L16_length]; omega)
              have a3 := HT2.out.cell (4 * c + 3) (by rw [L16_length]; omega)
              rw [L16_get _ _ (by omega)] at a0 a1 a2 a3
              have x1 := M.bx (M.F1_lt f (4 * c)) (M.F1_lt f (4 * c + 1))
              have x2 := M.bx (xor_lt (M.F1_lt f (4 * c)) (M.F1_lt f (4 * c + 1))) (M.F1_lt f (4 * c + 2))
              have x3 := M.bx (xor_lt (xor_lt (M.F1_lt f (4 * c)) (M.F1_lt f (4 * c + 1))) (M.F1_lt f (4 * c + 2))) (M.F1_lt f (4 * c + 3))
              go_wp2
              go_region
              clear a0 a1 a2 a3 x1 x2 x3
              have HS3 := Aside0.mk HS2.out.drew
              have HT3 := Aside0.mk HT2.out.drew
              have HB3 := Aside0.mk (below_drew1 HB2.out)
              clear HS2 HT2 HB2
              generalize hA : M.F1 f (4 * c) ^^^ M.F1 f (4 * c + 1) ^^^ M.F1 f (4 * c + 2) ^^^ M.F1 f (4 * c + 3) = A
              have hAl : A < 256 := by rw [← hA]; exact xor_lt (xor_lt (xor_lt (M.F1_lt f _) (M.F1_lt f _)) (M.F1_lt f _)) (M.F1_lt f _)
              have HA := Aside0.mk hA
              clear hA
              go_wp2
              go_loopw [83] (fun jv wr => ∃ j : Nat, j ≤ 4 ∧ jv = .int .i64 j ∧ Aside0 (BY wr w.heap.size 65 (mixL (4 * c + j) (C16 (M.MX (M.F1 f))) (C16 f))) ∧ Aside0 (BY wr (w.heap.size + 1) 65 (L16 (M.F1 f))) ∧ Aside0 (Below w.heap.size w wr)) (fun jv _ => 4 - (intOf jv).toNat)
              case atStart => exact ⟨0, Nat.zero_le _, rfl, HS3, HT3, HB3⟩
              case round =>
                clear HS3 HT3 HB3
                obtain ⟨j, hj, rfl, HS2, HT2, HB2⟩ := hrel
                by_cases hlj : j < 4
                · have hm : (j + 1) % 4 < 4 := Nat.mod_lt _ (by omega)
                  have a0 := HT2.out.cell (4 * c + j) (by rw [L16_length]; omega)
                  have a1 := HT2.out.cell (4 * c + (j + 1) % 4) (by rw [L16_length]; omega)
                  rw [L16_get _ _ (by omega)] at a0 a1
                  have l0 := M.F1_lt f (4 * c + j)
                  have l1 := M.F1_lt f (4 * c + (j + 1) % 4)
                  have x0 := M.bx l0 hAl
                  have x1 := M.bx l0 l1
                  have lx := xor_lt l0 l1
                  have e2 : wr.cell? ⟨g, 2, none⟩ = some (.pointer (some ⟨gt, 0, none⟩)) := pw_cell_below HB2.out HC2.out
                  have e4 := (HT.out.below HB2.out).cell (256 * 2 + (M.F1 f (4 * c + j) ^^^ M.F1 f (4 * c + (j + 1) % 4))) (by rw [tabR_length]; omega)
                  rw [tab_oth 2 _ (by omega) (by omega) lx, show tabF 2 (M.F1 f (4 * c + j) ^^^ M.F1 f (4 * c + (j + 1) % 4)) = xt (M.F1 f (4 * c + j) ^^^ M.F1 f (4 * c + (j + 1) % 4)) from rfl, show 256 * 2 = 512 from rfl] at e4
                  have x2 := M.bx (xor_lt l0 hAl) (xt_lt lx)
                  have hmx := M.mxA_MX (M.F1_lt f) c j hlj
                  unfold M.mxA at hmx
                  rw [HA.out] at hmx
                  rw [hmx] at x2
                  have e5 := HS2.out.frozen (4 * c + j)
                  have e6 := HS2.out.cell (4 * c + j) (by rw [mixL_length]; omega)
                  clear hmx
                  go_wp2
                  go_region
                  go_wp2
                  have HT3 : Aside0 (BY ((wr.setCell ⟨w.heap.size, 4 * c + j, none⟩ (.int .u8 ((M.MX (M.F1 f) (4 * c + j) : Nat) : Int))).drew) (w.heap.size + 1) 65 (L16 (M.F1 f))) := ⟨HT2.out.same ((grownBy_set wr w.heap.size (4 * c + j) _).block _ HT2.out.lt (by simp))⟩
                  exact ⟨⟨j + 1, hlj, by go_num, ⟨by rw [← Nat.add_assoc, ← mixL_set]; exact (HS2.out.set (4 * c + j) _).drew⟩, HT3, ⟨below_drew1 (below_set HB2.out (Nat.le_refl _))⟩⟩, by simp [intOf]; omega⟩
                · obtain rfl : j = 4 := by omega
                  go_wp2
                  exact ⟨⟨c + 1, hlc, by go_num, by rw [Nat.mul_succ]; exact HS2, HT2, HB2⟩, by simp [intOf]; omega⟩
            · obtain rfl : c = 4 := by omega
              have hs4 : BY wr w.heap.size 65 (L16 (M.MX (M.F1 f))) := by rw [L16_C, ← mixL_all _ (C16 f)]; exact HS2.out
              have HS4 := Aside0.mk hs4
              have HE4 : Aside0 (M.fwd (ks.drop (i + 1)) (M.T (fun q => M.MX (M.F1 f) q ^^^ M.bb (kAt ks i) q)) = M.encT ks s) := ⟨by
                rw [← HE.out, drop_at hi2, ← M.do_mid HF.out hkl, drop_at hi3]
                rfl⟩
              have HF4 : Aside0 (∀ q, (fun q => M.MX (M.F1 f) q ^^^ M.bb (kAt ks i) q) q < 256) := ⟨fun q => xor_lt (M.MX_lt (M.F1_lt f) _) (M.bb_lt _ _)⟩
              have HKL := Aside0.mk hkl
              have d1 : wr.cell? ⟨g, 1, none⟩ = some (.slice (some ⟨gk, 0, none⟩) ks.length cap) := pw_cell_below HB2.out HC1.out
              have d2 : wr.cell? ⟨gk, i, none⟩ = some (.string (kAt ks i)) := pw_cell_below HB2.out (HSR.out.at_ i hi2)
              clear hs4 HS2 HE HF hkl
              go_wp2_with (go_at_call 194; (with_reducible refine (add_both (w0 := w) _ (M.MX_lt (M.F1_lt f)) HS4.out HT2.out (by omega) HB2.out (Nat.le_refl _) HKL.out).mono ?_); rintro e W3 ⟨rfl, hs3, ht3, hb3⟩; have HS5 := Aside0.mk hs3; have HT5 := Aside0.mk ht3; have HB5 := Aside0.mk hb3; clear hs3 ht3 hb3)
              exact ⟨⟨i + 1, _, _, by omega, by omega, by go_num, HF4, HE4, HS5, HT5, HB5⟩, by simp [intOf]; omega⟩
end Go.Proofs.Ytokkhnjedmlbhaa.Pr
end
section
namespace Go.Proofs.Ytokkhnjedmlbhaa.Pr
open Go.RowKit Go.Proofs.YtokkhnjedmlbhaaW.PrintWords Go.Proofs.YtokkhnjedmlbhaaW.PrintLast Go.Proofs.YtokkhnjedmlbhaaW.PrintMore Go.Proofs.YtokkhnjedmlbhaaHw Go.Proofs.YtokkhnjedmlbhaaGf
/-- A scope with one label: what holds there is used on the way to it, too. -/
theorem scope_pass {P : Program} {a : Act} {w : World} {Q : Exit → Act → World → Prop} {c c2 : Code} (l : Nat) (J : Act → World → Prop) (μ : Act → World → Nat) (hf : findLabel c l = some (Code.seq .skip c2))
    (pass : ∀ a w, J a w → c2.wp P (Exit.jump l (fun a' w' => J a' w' ∧ μ a' w' < μ a w) Q) a w)
    (first : (∀ a w, J a w → c2.wp P (Exit.jump l J Q) a w) → c.wp P (Exit.jump l J Q) a w) : (Code.scope c).wp P Q a w := by
  refine wp_scope_jumps l J μ hf (first fun a w h => Code.wp_mono (fun e a' w' hq => ?_) (pass a w h)) (fun a w h => wp_seq (wp_skip (pass a w h)))
  cases e <;> first | exact hq | exact ⟨hq.1, hq.2.1⟩
theorem sum_c (c j q : Nat) (hq : q = 4 * c + j) (h : q < 16) : IntKind.i64.wrap (4 * (c : Int) + (j : Int)) = (q : Int) := by
  rw [IntKind.wrap_i64]; omega
theorem mod_c (j d r : Nat) (hj : j < 4) (hd : d < 4) (hr : r = (j + d) % 4) : (IntKind.i64.wrap ((j : Int) + (d : Int))).tmod 4 = (r : Int) := by
  have e : IntKind.i64.wrap ((j : Int) + (d : Int)) = ((j + d : Nat) : Int) := by rw [IntKind.wrap_i64]; omega
  rw [e, Int.tmod_eq_emod_of_nonneg (by omega), hr]
  omega
/-- The places of a column that a product reads. -/
theorem idx4 (c j : Nat) (hc : c < 4) (hj : j < 4) : ∃ r1 r2 r3 q0 q1 q2 q3 : Nat, (q0 = 4 * c + j ∧ q1 = 4 * c + (j + 1) % 4 ∧ q2 = 4 * c + (j + 2) % 4 ∧ q3 = 4 * c + (j + 3) % 4) ∧ (q0 < 16 ∧ q1 < 16 ∧ q2 < 16 ∧ q3 < 16) ∧
    IntKind.i64.wrap (4 * (c : Int) + (j : Int)) = (q0 : Int) ∧ (IntKind.i64.wrap ((j : Int) + 1)).tmod 4 = (r1 : Int) ∧ (IntKind.i64.wrap ((j : Int) + 2)).tmod 4 = (r2 : Int) ∧ (IntKind.i64.wrap ((j : Int) + 3)).tmod 4 = (r3 : Int) ∧
    IntKind.i64.wrap (4 * (c : Int) + (r1 : Int)) = (q1 : Int) ∧ IntKind.i64.wrap (4 * (c : Int) + (r2 : Int)) = (q2 : Int) ∧ IntKind.i64.wrap (4 * (c : Int) + (r3 : Int)) = (q3 : Int) := by
  have h1 : (j + 1) % 4 < 4 := Nat.mod_lt _ (by omega)
  have h2 : (j + 2) % 4 < 4 := Nat.mod_lt _ (by omega)
  have h3 : (j + 3) % 4 < 4 := Nat.mod_lt _ (by omega)
  exact ⟨(j + 1) % 4, (j + 2) % 4, (j + 3) % 4, _, _, _, _, ⟨rfl, rfl, rfl, rfl⟩, ⟨by omega, by omega, by omega, by omega⟩, sum_c c j _ rfl (by omega), mod_c j 1 _ hj (by omega) rfl, mod_c j 2 _ hj (by omega) rfl, mod_c j 3 _ hj (by omega) rfl, sum_c c _ _ rfl (by omega), sum_c c _ _ rfl (by omega), sum_c c _ _ rfl (by omega)⟩
theorem back_set (f y : Nat → Nat) (k : Nat) (hk : k < 16) : (L16 fun q => if 13 * q % 16 < k then M.B1 f q else y q).set (5 * k % 16) ((M.bN (f k) : Nat) : Int) = L16 fun q => if 13 * q % 16 < k + 1 then M.B1 f q else y q := by
  apply List.ext_getElem
  · simp [L16]
  · intro q h1 h2
    have hq : q < 16 := by rw [L16_length] at h2; exact h2
    rw [List.getElem_set]
    simp only [L16, List.getElem_map, List.getElem_range]
    have hu : 5 * k % 16 = q ↔ 13 * q % 16 = k := by omega
    by_cases e : 5 * k % 16 = q
    · have e' := hu.1 e
      rw [if_pos e, if_pos (by omega)]
      show _ = ((M.bN (f (13 * q % 16)) : Nat) : Int)
      rw [e']
    · have e' : 13 * q % 16 ≠ k := fun h => e (hu.2 h)
      rw [if_neg e]
      by_cases h3 : 13 * q % 16 < k
      · rw [if_pos h3, if_pos (by omega)]
      · rw [if_neg h3, if_neg (by omega)]
theorem back_all (f y : Nat → Nat) : (L16 fun q => if 13 * q % 16 < 16 then M.B1 f q else y q) = L16 (M.B1 f) := by
  apply List.map_congr_left
  intro q _
  show ((if 13 * q % 16 < 16 then M.B1 f q else y q : Nat) : Int) = _
  rw [if_pos (Nat.mod_lt _ (by omega))]
/-- What holds at the label: the state has its key; what comes out of it is known. -/
def DecJ (ks : List ByteArray) (s : ByteArray) (g : Nat) (w : World) (a' : Act) (w' : World) : Prop := ∃ (i : Nat) (f y : Nat → Nat) (u : Nat → Value), 1 ≤ i ∧ i < ks.length ∧ Aside0 (∀ q, f q < 256) ∧ Aside0 (M.T (M.B1 f) = M.bwd (ks.drop i) s) ∧ Aside0 (BY w' w.heap.size 65 (L16 y)) ∧ Aside0 (BY w' (w.heap.size + 1) 65 (L16 f)) ∧ Aside0 (Below w.heap.size w w') ∧ a' = { tmps := #[.pointer (some ⟨g, 0, none⟩), .string s, u 2, u 3, .string ⟨#[]⟩, .int .i64 0, .int .i64 0, .pointer (some ⟨w.heap.size, 0, none⟩), .pointer (some ⟨w.heap.size + 1, 0, none⟩), .int .i64 i, u 10, u 11, u 12, u 13, u 14, u 15, u 16, u 17, u 18, u 19, u 20, u 21, u 22, u 23, u 24, u 25, u 26, u 27, u 28, u 29, u 30, u 31, u 32, u 33, u 34, u 35, u 36, u 37, u 38, u 39, u 40, u 41, u 42, u 43, u 44, u 45, u 46, u 47, u 48, u 49, u 50, u 51, u 52, u 53, u 54, u 55, u 56, u 57, u 58, u 59, u 60, u 61, u 62, u 63, u 64, u 65, u 66, u 67, u 68, u 69, u 70, u 71, u 72, u 73, u 74, u 75, u 76, u 77, u 78, u 79, u 80, u 81, u 82, u 83, u 84, u 85, u 86, u 87, u 88, u 89, u 90, u 91, u 92, u 93, u 94, u 95, u 96, u 97, u 98, u 99, u 100, u 101, u 102, u 103, u 104, u 105, u 106, u 107, u 108, u 109, u 110, u 111, u 112, u 113, u 114, u 115, u 116, u 117, u 118, u 119, u 120, u 121, u 122, u 123, u 124, u 125, u 126, u 127, u 128, u 129, u 130, u 131, u 132, u 133, u 134, u 135, u 136, u 137, u 138, u 139, u 140, u 141], defers := [] }
theorem DecJ.mk {ks : List ByteArray} {s : ByteArray} {g : Nat} {w : World} {a' : Act} {w' : World} (i : Nat) (f y : Nat → Nat) (h1 : 1 ≤ i) (h2 : i < ks.length) (h3 : Aside0 (∀ q, f q < 256)) (h4 : Aside0 (M.T (M.B1 f) = M.bwd (ks.drop i) s)) (h5 : Aside0 (BY w' w.heap.size 65 (L16 y))) (h6 : Aside0 (BY w' (w.heap.size + 1) 65 (L16 f))) (h7 : Aside0 (Below w.heap.size w w'))
    (h8 : a' = { tmps := #[.pointer (some ⟨g, 0, none⟩), .string s, a'.tmps.getD 2 undef, a'.tmps.getD 3 undef, .string ⟨#[]⟩, .int .i64 0, .int .i64 0, .pointer (some ⟨w.heap.size, 0, none⟩), .pointer (some ⟨w.heap.size + 1, 0, none⟩), .int .i64 i, a'.tmps.getD 10 undef, a'.tmps.getD 11 undef, a'.tmps.getD 12 undef, a'.tmps.getD 13 undef, a'.tmps.getD 14 undef, a'.tmps.getD 15 undef, a'.tmps.getD 16 undef, a'.tmps.getD 17 undef, a'.tmps.getD 18 undef, a'.tmps.getD 19 undef, a'.tmps.getD 20 undef, a'.tmps.getD 21 undef, a'.tmps.getD 22 undef, a'.tmps.getD 23 undef, a'.tmps.getD 24 undef, a'.tmps.getD 25 undef, a'.tmps.getD 26 undef, a'.tmps.getD 27 undef, a'.tmps.getD 28 undef, a'.tmps.getD 29 undef, a'.tmps.getD 30 undef, a'.tmps.getD 31 undef, a'.tmps.getD 32 undef, a'.tmps.getD 33 undef, a'.tmps.getD 34 undef, a'.tmps.getD 35 undef, a'.tmps.getD 36 undef, a'.tmps.getD 37 undef, a'.tmps.getD 38 undef, a'.tmps.getD 39 undef, a'.tmps.getD 40 undef, a'.tmps.getD 41 undef, a'.tmps.getD 42 undef, a'.tmps.getD 43 undef, a'.tmps.getD 44 undef, a'.tmps.getD 45 undef, a'.tmps.getD 46 undef, a'.tmps.getD 47 undef, a'.tmps.getD 48 undef, a'.tmps.getD 49 undef, a'.tmps.getD 50 undef, a'.tmps.getD 51 undef, a'.tmps.getD 52 undef, a'.tmps.getD 53 undef, a'.tmps.getD 54 undef, a'.tmps.getD 55 undef, a'.tmps.getD 56 undef, a'.tmps.getD 57 undef, a'.tmps.getD 58 undef, a'.tmps.getD 59 undef, a'.tmps.getD 60 undef, a'.tmps.getD 61 undef, a'.tmps.getD 62 undef, a'.tmps.getD 63 undef, a'.tmps.getD 64 undef, a'.tmps.getD 65 undef, a'.tmps.getD 66 undef, a'.tmps.getD 67 undef, a'.tmps.getD 68 undef, a'.tmps.getD 69 undef, a'.tmps.getD 70 undef, a'.tmps.getD 71 undef, a'.tmps.getD 72 undef, a'.tmps.getD 73 undef, a'.tmps.getD 74 undef, a'.tmps.getD 75 undef, a'.tmps.getD 76 undef, a'.tmps.getD 77 undef, a'.tmps.getD 78 undef, a'.tmps.getD 79 undef, a'.tmps.getD 80 undef, a'.tmps.getD 81 undef, a'.tmps.getD 82 undef, a'.tmps.getD 83 undef, a'.tmps.getD 84 undef, a'.tmps.getD 85 undef, a'.tmps.getD 86 undef, a'.tmps.getD 87 undef, a'.tmps.getD 88 undef, a'.tmps.getD 89 undef, a'.tmps.getD 90 undef, a'.tmps.getD 91 undef, a'.tmps.getD 92 undef, a'.tmps.getD 93 undef, a'.tmps.getD 94 undef, a'.tmps.getD 95 undef, a'.tmps.getD 96 undef, a'.tmps.getD 97 undef, a'.tmps.getD 98 undef, a'.tmps.getD 99 undef, a'.tmps.getD 100 undef, a'.tmps.getD 101 undef, a'.tmps.getD 102 undef, a'.tmps.getD 103 undef, a'.tmps.getD 104 undef, a'.tmps.getD 105 undef, a'.tmps.getD 106 undef, a'.tmps.getD 107 undef, a'.tmps.getD 108 undef, a'.tmps.getD 109 undef, a'.tmps.getD 110 undef, a'.tmps.getD 111 undef, a'.tmps.getD 112 undef, a'.tmps.getD 113 undef, a'.tmps.getD 114 undef, a'.tmps.getD 115 undef, a'.tmps.getD 116 undef, a'.tmps.getD 117 undef, a'.tmps.getD 118 undef, a'.tmps.getD 119 undef, a'.tmps.getD 120 undef, a'.tmps.getD 121 undef, a'.tmps.getD 122 undef, a'.tmps.getD 123 undef, a'.tmps.getD 124 undef, a'.tmps.getD 125 undef, a'.tmps.getD 126 undef, a'.tmps.getD 127 undef, a'.tmps.getD 128 undef, a'.tmps.getD 129 undef, a'.tmps.getD 130 undef, a'.tmps.getD 131 undef, a'.tmps.getD 132 undef, a'.tmps.getD 133 undef, a'.tmps.getD 134 undef, a'.tmps.getD 135 undef, a'.tmps.getD 136 undef, a'.tmps.getD 137 undef, a'.tmps.getD 138 undef, a'.tmps.getD 139 undef, a'.tmps.getD 140 undef, a'.tmps.getD 141 undef], defers := [] }) : DecJ ks s g w a' w' := ⟨i, f, y, fun q => a'.tmps.getD q undef, h1, h2, h3, h4, h5, h6, h7, h8⟩
set_option maxHeartbeats 4000000 in
set_option maxRecDepth 100000 in
theorem dec_calls (g n : Nat) (ks : List ByteArray) (s : ByteArray) (w : World) (hC : IsC w g n ks) (hs : s.size = 16) (hl : 2 ≤ ks.length) (hl2 : ks.length ≤ 100) (hk : M.all16 ks) :
    Calls Try.prog 107 #[.pointer (some ⟨g, 0, none⟩), .string s] w fun e w' => e = .returned (.tuple #[.string (M.decT ks s), .int .i64 0]) ∧ Below w.heap.size w w' := by
  have HC := Aside0.mk hC
  have HSZ := Aside0.mk hs
  have HKS := Aside0.mk hk
  obtain ⟨gk, cap, gt, c1, c2, hS, hT⟩ := hC.cells
  have HSR := Aside0.mk hS
  have HT := Aside0.mk hT
  have hgk := hS.lt
  have hgt := hT.lt
  have hgl := hC.lt
  have hk0 : M.all16 ks := hk
  have HK0 : Aside0 (∀ j, j < ks.length → (kAt ks j).size = 16) := ⟨fun j hj => by
    unfold kAt
    rw [List.getD_eq_getElem?_getD, List.getElem?_eq_getElem hj]
    exact hk0 _ (List.getElem_mem hj)⟩
  have HC1 := Aside0.mk c1
  have HC2 := Aside0.mk c2
  obtain ⟨W1, hW1⟩ : ∃ W1 : World, W1 = ((w.alloc (.cells #[.int .u8 0, .int .u8 0, .int .u8 0, .int .u8 0, .int .u8 0, .int .u8 0, .int .u8 0, .int .u8 0, .int .u8 0, .int .u8 0, .int .u8 0, .int .u8 0, .int .u8 0, .int .u8 0, .int .u8 0, .int .u8 0] 65)).alloc (.cells #[.int .u8 0, .int .u8 0, .int .u8 0, .int .u8 0, .int .u8 0, .int .u8 0, .int .u8 0, .int .u8 0, .int .u8 0, .int .u8 0, .int .u8 0, .int .u8 0, .int .u8 0, .int .u8 0, .int .u8 0, .int .u8 0] 65)).setRow (w.heap.size + 1) ((L16 (M.bb s)).map (Value.int .u8)).toArray := ⟨_, rfl⟩
  have hz0 : ((w.alloc (.cells #[.int .u8 0, .int .u8 0, .int .u8 0, .int .u8 0, .int .u8 0, .int .u8 0, .int .u8 0, .int .u8 0, .int .u8 0, .int .u8 0, .int .u8 0, .int .u8 0, .int .u8 0, .int .u8 0, .int .u8 0, .int .u8 0] 65)).alloc (.cells #[.int .u8 0, .int .u8 0, .int .u8 0, .int .u8 0, .int .u8 0, .int .u8 0, .int .u8 0, .int .u8 0, .int .u8 0, .int .u8 0, .int .u8 0, .int .u8 0, .int .u8 0, .int .u8 0, .int .u8 0, .int .u8 0] 65)).heap[w.heap.size]? = some (.cells #[.int .u8 0, .int .u8 0, .int .u8 0, .int .u8 0, .int .u8 0, .int .u8 0, .int .u8 0, .int .u8 0, .int .u8 0, .int .u8 0, .int .u8 0, .int .u8 0, .int .u8 0, .int .u8 0, .int .u8 0, .int .u8 0] 65 (0, 0)) := (heap_alloc_old _ _ (by simp)).trans (heap_alloc_new w _)
  have hz1 : ((w.alloc (.cells #[.int .u8 0, .int .u8 0, .int .u8 0, .int .u8 0, .int .u8 0, .int .u8 0, .int .u8 0, .int .u8 0, .int .u8 0, .int .u8 0, .int .u8 0, .int .u8 0, .int .u8 0, .int .u8 0, .int .u8 0, .int .u8 0] 65)).alloc (.cells #[.int .u8 0, .int .u8 0, .int .u8 0, .int .u8 0, .int .u8 0, .int .u8 0, .int .u8 0, .int .u8 0, .int .u8 0, .int .u8 0, .int .u8 0, .int .u8 0, .int .u8 0, .int .u8 0, .int .u8 0, .int .u8 0] 65)).heap[w.heap.size + 1]? = some (.cells #[.int .u8 0, .int .u8 0, .int .u8 0, .int .u8 0, .int .u8 0, .int .u8 0, .int .u8 0, .int .u8 0, .int .u8 0, .int .u8 0, .int .u8 0, .int .u8 0, .int .u8 0, .int .u8 0, .int .u8 0, .int .u8 0] 65 (0, 0)) := by
    have := heap_alloc_new (w.alloc (.cells #[.int .u8 0, .int .u8 0, .int .u8 0, .int .u8 0, .int .u8 0, .int .u8 0, .int .u8 0, .int .u8 0, .int .u8 0, .int .u8 0, .int .u8 0, .int .u8 0, .int .u8 0, .int .u8 0, .int .u8 0, .int .u8 0] 65)) (.cells #[.int .u8 0, .int .u8 0, .int .u8 0, .int .u8 0, .int .u8 0, .int .u8 0, .int .u8 0, .int .u8 0, .int .u8 0, .int .u8 0, .int .u8 0, .int .u8 0, .int .u8 0, .int .u8 0, .int .u8 0, .int .u8 0] 65)
    simpa using this
  have hcp : ∀ (ty : TypeId), (Builtin.copy_ #[66, 9] ty #[.slice (some ⟨w.heap.size + 1, 0, none⟩) 16 16, .string s]).run Try.prog ((w.alloc (.cells #[.int .u8 0, .int .u8 0, .int .u8 0, .int .u8 0, .int .u8 0, .int .u8 0, .int .u8 0, .int .u8 0, .int .u8 0, .int .u8 0, .int .u8 0, .int .u8 0, .int .u8 0, .int .u8 0, .int .u8 0, .int .u8 0] 65)).alloc (.cells #[.int .u8 0, .int .u8 0, .int .u8 0, .int .u8 0, .int .u8 0, .int .u8 0, .int .u8 0, .int .u8 0, .int .u8 0, .int .u8 0, .int .u8 0, .int .u8 0, .int .u8 0, .int .u8 0, .int .u8 0, .int .u8 0] 65)) = .ok (goInt 16) W1 := fun ty => by
    rw [hW1, ← cells_16 s hs]
    exact run_copy_str (P := Try.prog) _ 66 9 ty 5 (w.heap.size + 1) 16 16 s #[.int .u8 0, .int .u8 0, .int .u8 0, .int .u8 0, .int .u8 0, .int .u8 0, .int .u8 0, .int .u8 0, .int .u8 0, .int .u8 0, .int .u8 0, .int .u8 0, .int .u8 0, .int .u8 0, .int .u8 0, .int .u8 0] 65 Try.underlying66 (by kernel_rfl) hz1 (by omega) rfl
  have hB1 : Below w.heap.size w W1 := by
    rw [hW1]
    exact below_setRow (((Below.refl _ _).alloc (Nat.le_refl _) _).alloc (by simp) _) (by omega) _
  have ht1 : BY W1 (w.heap.size + 1) 65 (L16 (M.bb s)) := by
    rw [hW1]
    exact setRow_heap _ _ _ _ _ _ hz1
  have hs1 : BY W1 w.heap.size 65 (L16 fun _ => 0) := by
    rw [hW1]
    exact (setRow_other _ _ _ _ (by omega)).trans hz0
  have HB1 := Aside0.mk hB1
  have HS1 := Aside0.mk hs1
  have HT1 := Aside0.mk ht1
  have d1 : W1.cell? ⟨g, 1, none⟩ = some (.slice (some ⟨gk, 0, none⟩) ks.length cap) := pw_cell_below hB1 c1
  have d2 : W1.cell? ⟨gk, ks.length - 1, none⟩ = some (.string (kAt ks (ks.length - 1))) := pw_cell_below hB1 (hS.at_ (ks.length - 1) (by omega))
  clear hW1 hz0 hz1 hB1 hs1 ht1 hS hT hk hk0 hs c1 c2 hC
  go_enter Try.func107, Try.ntmps107
  go_wp2
  refine scope_pass 0 (DecJ ks s g w) (fun a' _ => (intOf (a'.tmps.getD 9 undef)).toNat) rfl ?_ ?_
  · clear hcp d1 d2 HB1 HS1 HT1
    intro a0 w0 hJ
    obtain ⟨i, f, y, u, hi1, hi2, HF, HE, HS2, HT2, HB2, rfl⟩ := hJ
    obtain ⟨m, rfl⟩ : ∃ m, i = m + 1 := ⟨i - 1, by omega⟩
    go_wp2
    go_loopw [36] (fun kv wr => ∃ k : Nat, k ≤ 16 ∧ kv = .int .i64 k ∧ Aside0 (BY wr w.heap.size 65 (L16 fun q => if 13 * q % 16 < k then M.B1 f q else y q)) ∧ Aside0 (BY wr (w.heap.size + 1) 65 (L16 f)) ∧ Aside0 (Below w.heap.size w wr)) (fun kv _ => 16 - (intOf kv).toNat)
    case atStart => exact ⟨0, Nat.zero_le _, rfl, HS2, HT2, HB2⟩
    case round =>
      clear HS2 HT2 HB2
      obtain ⟨k, hk, rfl, HS2, HT2, HB2⟩ := hrel
      by_cases hlt : k < 16
      · have e2 : wr.cell? ⟨g, 2, none⟩ = some (.pointer (some ⟨gt, 0, none⟩)) := pw_cell_below HB2.out HC2.out
        have hlt5 : 5 * k % 16 < 16 := Nat.mod_lt _ (by omega)
        have e3 := HT2.out.cell k (by rw [L16_length]; exact hlt)
        rw [L16_get f _ hlt] at e3
        have hfv := HF.out k
        have e4 := (HT.out.below HB2.out).cell (256 + f k) (by rw [tabR_length]; omega)
        rw [tab_back _ hfv] at e4
        have e5 := HS2.out.frozen (5 * k % 16)
        have e6 := HS2.out.cell (5 * k % 16) (by rw [L16_length]; exact hlt5)
        go_wp2
        go_region
        go_wp2
        have HT3 : Aside0 (BY ((wr.setCell ⟨w.heap.size, 5 * k % 16, none⟩ (.int .u8 ((M.bN (f k) : Nat) : Int))).drew) (w.heap.size + 1) 65 (L16 f)) := ⟨HT2.out.same ((grownBy_set wr w.heap.size (5 * k % 16) _).block _ HT2.out.lt (by simp))⟩
        exact ⟨⟨k + 1, hlt, by go_num, ⟨by rw [← back_set f y k hlt]; exact (HS2.out.set (5 * k % 16) _).drew⟩, HT3, ⟨below_drew1 (below_set HB2.out (Nat.le_refl _))⟩⟩, by simp [intOf]; omega⟩
      · obtain rfl : k = 16 := by omega
        have HS3 : Aside0 (BY wr w.heap.size 65 (L16 (M.B1 f))) := ⟨by rw [← back_all f y]; exact HS2.out⟩
        clear HS2 hlt hk
        have HKL := Aside0.mk (HK0.out m (by omega))
        have d1 : wr.cell? ⟨g, 1, none⟩ = some (.slice (some ⟨gk, 0, none⟩) ks.length cap) := pw_cell_below HB2.out HC1.out
        have d2 : wr.cell? ⟨gk, m, none⟩ = some (.string (kAt ks m)) := pw_cell_below HB2.out (HSR.out.at_ m (by omega))
        by_cases hlast : m = 0
        · subst hlast
          have HEND : Aside0 (M.T (fun q => M.B1 f q ^^^ M.bb (kAt ks 0) q) = M.decT ks s) := ⟨by
            have he := HE.out
            rw [← M.ky_T (M.B1_lt f) HKL.out, he]
            cases ks with
            | nil => simp at hl
            | cons k0 kt => rfl⟩
          clear HE
          go_wp2_with (go_at_call 194; (with_reducible refine (add_both (w0 := w) _ (M.B1_lt f) HS3.out HT2.out (by omega) HB2.out (Nat.le_refl _) HKL.out).mono ?_); rintro e W3 ⟨rfl, hs3, ht3, hb3⟩; have hcv := conv_L16 hs3; have HB3 := Aside0.mk hb3; clear hs3 ht3 hb3)
          simp only [Exit.jump]
          go_ret2
          exact ⟨by rw [← HEND.out]; simp, HB3.out⟩
        · have hm1 : 1 ≤ m := by omega
          have HE4 : Aside0 (M.T (M.B1 (M.UX fun q => M.B1 f q ^^^ M.bb (kAt ks m) q)) = M.bwd (ks.drop m) s) := ⟨by
            rw [← M.un_mid (M.B1_lt f) HKL.out, HE.out, drop_at (show m < ks.length by omega), drop_at (show m + 1 < ks.length by omega)]
            rfl⟩
          have hI : ((m : Int) == 0) = false := beq_eq_false_iff_ne.mpr (by omega)
          clear hlast HE
          go_wp2_with (go_at_call 194; (with_reducible refine (add_both (w0 := w) _ (M.B1_lt f) HS3.out HT2.out (by omega) HB2.out (Nat.le_refl _) HKL.out).mono ?_); rintro e W3 ⟨rfl, hs3, ht3, hb3⟩; have HS4 := Aside0.mk hs3; have HT4 := Aside0.mk ht3; have HB4 := Aside0.mk hb3; clear hs3 ht3 hb3)
          have HZ : Aside0 (∀ q, (fun q => M.B1 f q ^^^ M.bb (kAt ks m) q) q < 256) := ⟨fun q => xor_lt (M.B1_lt f q) (M.bb_lt _ _)⟩
          clear HS3 HT2 HB2 d1 d2 hI
          generalize (fun q => M.B1 f q ^^^ M.bb (kAt ks m) q) = z at *
          go_loopw [11] (fun kv wr => ∃ c : Nat, c ≤ 4 ∧ kv = .int .i64 (4 * (c : Int)) ∧ Aside0 (BY wr (w.heap.size + 1) 65 (mixL (4 * c) (C16 (M.UX z)) (C16 f))) ∧ Aside0 (BY wr w.heap.size 65 (L16 z)) ∧ Aside0 (Below w.heap.size w wr)) (fun kv _ => 16 - (intOf kv).toNat)
          case atStart => exact ⟨0, Nat.zero_le _, rfl, ⟨by rw [Nat.mul_zero, mixL_zero]; exact HT4.out⟩, HS4, HB4⟩
          case round =>
            clear HS4 HT4 HB4
            obtain ⟨c, hc, rfl, HT2, HS2, HB2⟩ := hrel
            by_cases hlc : c < 4
            · have hd4 : decide (4 * (c : Int) < 16) = true := decide_eq_true (by omega)
              go_wp2
              clear hd4
              go_loopw [73] (fun jv wr => ∃ j : Nat, j ≤ 4 ∧ jv = .int .i64 j ∧ Aside0 (BY wr (w.heap.size + 1) 65 (mixL (4 * c + j) (C16 (M.UX z)) (C16 f))) ∧ Aside0 (BY wr w.heap.size 65 (L16 z)) ∧ Aside0 (Below w.heap.size w wr)) (fun jv _ => 4 - (intOf jv).toNat)
              case atStart => exact ⟨0, Nat.zero_le _, rfl, HT2, HS2, HB2⟩
              case round =>
                clear HS2 HT2 HB2
                obtain ⟨j, hj, rfl, HT2, HS2, HB2⟩ := hrel
                by_cases hlj : j < 4
                · have hum := M.umA_UX z c j hlj
                  unfold M.umA at hum
                  obtain ⟨r1, r2, r3, q0, q1, q2, q3, ⟨hq0, hq1, hq2, hq3⟩, ⟨hl0, hl1, hl2, hl3⟩, t0, v1, v2, v3, t1, t2, t3⟩ := idx4 c j hlc hlj
                  rw [← hq0, ← hq1, ← hq2, ← hq3] at hum
                  have At0 := Aside0.mk t0
                  have At1 := Aside0.mk t1
                  have At2 := Aside0.mk t2
                  have At3 := Aside0.mk t3
                  have Av1 := Aside0.mk v1
                  have Av2 := Aside0.mk v2
                  have Av3 := Aside0.mk v3
                  clear t0 t1 t2 t3 v1 v2 v3 hq1 hq2 hq3
                  have a0 := HS2.out.cell q0 (by rw [L16_length]; exact hl0)
                  have a1 := HS2.out.cell q1 (by rw [L16_length]; exact hl1)
                  have a2 := HS2.out.cell q2 (by rw [L16_length]; exact hl2)
                  have a3 := HS2.out.cell q3 (by rw [L16_length]; exact hl3)
                  rw [L16_get _ _ hl0] at a0
                  rw [L16_get _ _ hl1] at a1
                  rw [L16_get _ _ hl2] at a2
                  rw [L16_get _ _ hl3] at a3
                  have l0 := HZ.out q0
                  have l1 := HZ.out q1
                  have l2 := HZ.out q2
                  have l3 := HZ.out q3
                  have e2 : wr.cell? ⟨g, 2, none⟩ = some (.pointer (some ⟨gt, 0, none⟩)) := pw_cell_below HB2.out HC2.out
                  have hTw := HT.out.below HB2.out
                  have b0 := hTw.cell (256 * 6 + z q0) (by rw [tabR_length]; omega)
                  have b1 := hTw.cell (256 * 4 + z q1) (by rw [tabR_length]; omega)
                  have b2 := hTw.cell (256 * 5 + z q2) (by rw [tabR_length]; omega)
                  have b3 := hTw.cell (256 * 3 + z q3) (by rw [tabR_length]; omega)
                  rw [tab_oth 6 _ (by omega) (by omega) l0, show ∀ v, tabF 6 v = gm 14 v from fun _ => rfl, show 256 * 6 = 1536 from rfl] at b0
                  rw [tab_oth 4 _ (by omega) (by omega) l1, show ∀ v, tabF 4 v = gm 11 v from fun _ => rfl, show 256 * 4 = 1024 from rfl] at b1
                  rw [tab_oth 5 _ (by omega) (by omega) l2, show ∀ v, tabF 5 v = gm 13 v from fun _ => rfl, show 256 * 5 = 1280 from rfl] at b2
                  rw [tab_oth 3 _ (by omega) (by omega) l3, show ∀ v, tabF 3 v = gm 9 v from fun _ => rfl, show 256 * 3 = 768 from rfl] at b3
                  have x1 := M.bx (gm_lt (a := 14) (b := z q0) (by omega)) (gm_lt (a := 11) (b := z q1) (by omega))
                  have y1 := xor_lt (gm_lt (a := 14) (b := z q0) (by omega)) (gm_lt (a := 11) (b := z q1) (by omega))
                  have x2 := M.bx y1 (gm_lt (a := 13) (b := z q2) (by omega))
                  have y2 := xor_lt y1 (gm_lt (a := 13) (b := z q2) (by omega))
                  have x3 := M.bx y2 (gm_lt (a := 9) (b := z q3) (by omega))
                  rw [hum] at x3
                  have e5 := HT2.out.frozen q0
                  have e6 := HT2.out.cell q0 (by rw [mixL_length]; exact hl0)
                  have i0 : (q0 : Int) < 16 := by omega
                  have k0 : ((z q0 : Nat) : Int) < 256 := by omega
                  have i1 : (q1 : Int) < 16 := by omega
                  have k1 : ((z q1 : Nat) : Int) < 256 := by omega
                  have i2 : (q2 : Int) < 16 := by omega
                  have k2 : ((z q2 : Nat) : Int) < 256 := by omega
                  have i3 : (q3 : Int) < 16 := by omega
                  have k3 : ((z q3 : Nat) : Int) < 256 := by omega
                  have HQ := Aside0.mk hq0
                  have HT3 := Aside0.mk ((HT2.out.set q0 ((M.UX z q0 : Nat) : Int)).drew)
                  have HS3 : Aside0 (BY ((wr.setCell ⟨w.heap.size + 1, q0, none⟩ (.int .u8 ((M.UX z q0 : Nat) : Int))).drew) w.heap.size 65 (L16 z)) := ⟨HS2.out.same ((grownBy_set wr (w.heap.size + 1) q0 _).block _ HS2.out.lt (by simp))⟩
                  have HB3 : Aside0 (Below w.heap.size w ((wr.setCell ⟨w.heap.size + 1, q0, none⟩ (.int .u8 ((M.UX z q0 : Nat) : Int))).drew)) := ⟨below_drew1 (below_set HB2.out (by omega))⟩
                  clear hum hTw y1 y2 hq0 HS2 HT2 HB2 l0 l1 l2 l3
                  go_wp2
                  simp only [List.append]
                  have t0 := At0.out
                  have v1 := Av1.out
                  have v2 := Av2.out
                  have v3 := Av3.out
                  have t1 := At1.out
                  have t2 := At2.out
                  have t3 := At3.out
                  refine still_tail 65 (by kernel_rfl) (by kernel_rfl) ?_
                  simp only [List.take_succ_cons, List.take_zero, List.drop_succ_cons, List.drop_zero]
                  repeat still_step
                  refine wpStill_nil ?_
                  clear t0 t1 t2 t3 v1 v2 v3 a0 a1 a2 a3 b0 b1 b2 b3 x1 x2 x3
                  go_wp2
                  have HT5 : Aside0 (BY ((wr.setCell ⟨w.heap.size + 1, q0, none⟩ (.int .u8 ((M.UX z q0 : Nat) : Int))).drew) (w.heap.size + 1) 65 (mixL (4 * c + (j + 1)) (C16 (M.UX z)) (C16 f))) := ⟨by rw [← Nat.add_assoc, ← HQ.out, ← mixL_set]; have h := HT3.out; rw [← HQ.out] at h; exact h⟩
                  exact ⟨⟨j + 1, hlj, by go_num, HT5, HS3, HB3⟩, by simp [intOf]; omega⟩
                · obtain rfl : j = 4 := by omega
                  go_wp2
                  exact ⟨⟨c + 1, hlc, by first | go_num | (congr 1; omega), by rw [Nat.mul_succ]; exact HT2, HS2, HB2⟩, by simp [intOf]; omega⟩
            · obtain rfl : c = 4 := by omega
              have HT3 : Aside0 (BY wr (w.heap.size + 1) 65 (L16 (M.UX z))) := ⟨by rw [L16_C, ← mixL_all _ (C16 f)]; exact HT2.out⟩
              clear HT2
              go_wp2
              go_step3
              exact ⟨rfl, DecJ.mk m (M.UX z) z hm1 (by omega) ⟨fun q => M.UX_lt _ q⟩ HE4 HS2 HT3 HB2 rfl, by simp [intOf]⟩
  · intro hpass
    go_wp2_with (first | (go_at_call 193; (with_reducible refine (may_ok g n ks s _ HC.out HSZ.out).mono ?_); rintro e w' ⟨rfl, hw'⟩; have hw2 := hw'.symm; subst hw2) | (go_at_call 194; (with_reducible refine (add_both (w0 := w) _ (M.bb_lt s) HT1.out HS1.out (by omega) HB1.out (by omega) (HK0.out (ks.length - 1) (by omega))).mono ?_); rintro e W2 ⟨rfl, ht2, hs2, hb2⟩))
    have HF0 : Aside0 (∀ q, (fun q => M.bb s q ^^^ M.bb (kAt ks (ks.length - 1)) q) q < 256) := ⟨fun q => xor_lt (M.bb_lt _ _) (M.bb_lt _ _)⟩
    have HE0 : Aside0 (M.T (M.B1 fun q => M.bb s q ^^^ M.bb (kAt ks (ks.length - 1)) q) = M.bwd (ks.drop (ks.length - 1)) s) := ⟨by
      rw [← M.un_last (M.bb_lt s) (HK0.out (ks.length - 1) (by omega)), M.T_of s HSZ.out, drop_at (show ks.length - 1 < ks.length by omega), show ks.length - 1 + 1 = ks.length by omega, List.drop_length]
      rfl⟩
    have HS2 := Aside0.mk hs2
    have HT2 := Aside0.mk ht2
    have HB2 := Aside0.mk hb2
    clear hs2 ht2 hb2
    go_step3
    rename_i K hK
    have e9 : ((ks.length : Int) - 1) = ((ks.length - 1 : Nat) : Int) := by omega
    rw [e9]
    exact hK _ _ (hpass _ _ (DecJ.mk (ks.length - 1) _ (fun _ => 0) (by omega) (by omega) HF0 HE0 HS2 HT2 HB2 rfl))
end Go.Proofs.Ytokkhnjedmlbhaa.Pr
end
section
namespace Go.Proofs.Ytokkhnjedmlbhaa.M
open Go.RowKit Go.Proofs.Ytokkhnjedmlbhaa.Pr Go.Proofs.YtokkhnjedmlbhaaW.PrintWords Go.Proofs.YtokkhnjedmlbhaaW.PrintLast Go.Proofs.YtokkhnjedmlbhaaW.PrintMore Go.Proofs.YtokkhnjedmlbhaaGf
set_option linter.unusedSimpArgs false
/-- The four bytes of a word. -/
def wL (w : Nat) : List Nat := [w / 16777216 % 256, w / 65536 % 256, w / 256 % 256, w % 256]
def wB (w : Nat) : ByteArray := mkB (wL w)
theorem isB_wL (w : Nat) : isB (wL w) := by
  intro x hx
  simp only [wL, List.mem_cons, List.not_mem_nil, or_false] at hx
  rcases hx with rfl | rfl | rfl | rfl <;> exact Nat.mod_lt _ (by omega)
theorem wB_size (w : Nat) : (wB w).size = 4 := by unfold wB; rw [mkB_size]; rfl
theorem bb_mkB {l : List Nat} (h : isB l) (i : Nat) : bb (mkB l) i = l.getD i 0 := by rw [bb_nb, nb_mkB h]
theorem xor_div_mod (u v k : Nat) : (u ^^^ v) / 2 ^ k % 2 ^ 8 = (u / 2 ^ k % 2 ^ 8) ^^^ (v / 2 ^ k % 2 ^ 8) := by
  rw [← Nat.shiftRight_eq_div_pow, ← Nat.shiftRight_eq_div_pow, ← Nat.shiftRight_eq_div_pow, Nat.shiftRight_xor_distrib, Nat.xor_mod_two_pow]
theorem xorT_4 {a b : ByteArray} (ha : a.size = 4) (hb : b.size = 4) : xorT a b = mkB [bb a 0 ^^^ bb b 0, bb a 1 ^^^ bb b 1, bb a 2 ^^^ bb b 2, bb a 3 ^^^ bb b 3] := by
  unfold xorT; rw [ha, hb]; rfl
theorem wB_xor (u v : Nat) : xorT (wB u) (wB v) = wB (u ^^^ v) := by
  rw [xorT_4 (wB_size u) (wB_size v)]
  unfold wB
  rw [bb_mkB (isB_wL u), bb_mkB (isB_wL u), bb_mkB (isB_wL u), bb_mkB (isB_wL u), bb_mkB (isB_wL v), bb_mkB (isB_wL v), bb_mkB (isB_wL v), bb_mkB (isB_wL v)]
  have h0 := xor_div_mod u v 24
  have h1 := xor_div_mod u v 16
  have h2 := xor_div_mod u v 8
  have h3 := xor_div_mod u v 0
  simp only [Nat.reducePow, Nat.div_one] at h0 h1 h2 h3
  simp only [wL, h0, h1, h2, h3]
  rfl
/-- A word, turned by a byte. -/
def rotW (u : Nat) : Nat := u % 16777216 * 256 + u / 16777216
theorem rotW_lt {u : Nat} (h : u < 4294967296) : rotW u < 4294967296 := by unfold rotW; omega
theorem or_add {a b k : Nat} (h : b < 2 ^ k) : 2 ^ k * a ||| b = 2 ^ k * a + b := (Nat.two_pow_add_eq_or_of_lt h a).symm
theorem rotw_n {u : Nat} (h : u < 4294967296) : rotw (u : Int) = ((rotW u : Nat) : Int) := by
  unfold rotw
  rw [show ((u : Int) * 256 % 4294967296) = ((2 ^ 8 * (u % 16777216) : Nat) : Int) by omega, show ((u : Int) / 16777216) = ((u / 16777216 : Nat) : Int) by omega, u32_or_nat _ _ (by omega) (by omega), or_add (by omega)]
  unfold rotW
  congr 1
  omega
theorem wB_rot {u : Nat} (h : u < 4294967296) : wB (rotW u) = (wB u).extract 1 4 ++ (wB u).extract 0 1 := by
  rw [extract_nb, extract_nb, mkB_append]
  unfold wB
  rw [nb_mkB (isB_wL u)]
  congr 1
  simp only [wL, rotW, List.take_succ_cons, List.take_zero, List.drop_succ_cons, List.drop_zero, List.cons_append, List.nil_append, List.cons.injEq, and_true]
  obtain ⟨a, b, c, d, ha, hb, hc, hd, rfl⟩ : ∃ a b c d : Nat, a < 256 ∧ b < 256 ∧ c < 256 ∧ d < 256 ∧ u = 16777216 * a + 65536 * b + 256 * c + d :=
    ⟨u / 16777216, u / 65536 % 256, u / 256 % 256, u % 256, by omega, by omega, by omega, by omega, by omega⟩
  have e1 : (16777216 * a + 65536 * b + 256 * c + d) % 16777216 = 65536 * b + 256 * c + d := by omega
  have e2 : (16777216 * a + 65536 * b + 256 * c + d) / 16777216 = a := by omega
  have e3 : (16777216 * a + 65536 * b + 256 * c + d) / 65536 = 256 * a + b := by omega
  have e4 : (16777216 * a + 65536 * b + 256 * c + d) / 256 = 65536 * a + 256 * b + c := by omega
  have e5 : ((65536 * b + 256 * c + d) * 256 + a) / 16777216 = b := by omega
  have e6 : ((65536 * b + 256 * c + d) * 256 + a) / 65536 = 256 * b + c := by omega
  have e7 : ((65536 * b + 256 * c + d) * 256 + a) / 256 = 65536 * b + 256 * c + d := by omega
  rw [e1, e2, e3, e4, e5, e6, e7]
  refine ⟨by omega, by omega, by omega, by omega⟩
def subWN (u : Nat) : Nat := sN (u / 16777216 % 256) * 16777216 + sN (u / 65536 % 256) * 65536 + sN (u / 256 % 256) * 256 + sN (u % 256)
theorem subWN_lt (u : Nat) : subWN u < 4294967296 := by
  have h0 := sN_lt (u / 16777216 % 256); have h1 := sN_lt (u / 65536 % 256); have h2 := sN_lt (u / 256 % 256); have h3 := sN_lt (u % 256)
  unfold subWN; omega
theorem wordI_n {a b c d : Nat} (ha : a < 256) (hb : b < 256) (hc : c < 256) (hd : d < 256) : wordI (a : Int) (b : Int) (c : Int) (d : Int) = ((a * 16777216 + b * 65536 + c * 256 + d : Nat) : Int) := by
  unfold wordI
  rw [show ((a : Int) % 4294967296 * 16777216 % 4294967296) = ((2 ^ 24 * a : Nat) : Int) by omega, show ((b : Int) % 4294967296 * 65536 % 4294967296) = ((2 ^ 16 * b : Nat) : Int) by omega, show ((c : Int) % 4294967296 * 256 % 4294967296) = ((2 ^ 8 * c : Nat) : Int) by omega, show ((d : Int) % 4294967296) = ((d : Nat) : Int) by omega]
  rw [u32_or_nat _ _ (by omega) (by omega), or_add (by omega), show 2 ^ 24 * a + 2 ^ 16 * b = 2 ^ 16 * (2 ^ 8 * a + b) by omega, u32_or_nat _ _ (by omega) (by omega), or_add (by omega), show 2 ^ 16 * (2 ^ 8 * a + b) + 2 ^ 8 * c = 2 ^ 8 * (2 ^ 16 * a + 2 ^ 8 * b + c) by omega, u32_or_nat _ _ (by omega) (by omega), or_add (by omega)]
  congr 1
  omega
theorem bt_sT {i : Nat} (hi : i < 256) : bt (mkB sT) (i : Int) = ((sN i : Nat) : Int) := by
  rw [bt_bb, bb_mkB (show isB sT from isB_map sN_lt _)]
  simp [sT, hi]
theorem subW_n {u : Nat} (h : u < 4294967296) : subW (mkB sT) (u : Int) = ((subWN u : Nat) : Int) := by
  unfold subW
  rw [show ((u : Int) / 16777216) = ((u / 16777216 % 256 : Nat) : Int) by omega, show ((u : Int) / 65536 % 256) = ((u / 65536 % 256 : Nat) : Int) by omega, show ((u : Int) / 256 % 256) = ((u / 256 % 256 : Nat) : Int) by omega, show ((u : Int) % 256) = ((u % 256 : Nat) : Int) by omega]
  rw [bt_sT (by omega), bt_sT (by omega), bt_sT (by omega), bt_sT (by omega), wordI_n (sN_lt _) (sN_lt _) (sN_lt _) (sN_lt _)]
  rfl
theorem wB_sub (u : Nat) : wB (subWN u) = sbT (wB u) := by
  unfold wB sbT
  rw [nb_mkB (isB_wL u)]
  congr 1
  have h0 := sN_lt (u / 16777216 % 256); have h1 := sN_lt (u / 65536 % 256); have h2 := sN_lt (u / 256 % 256); have h3 := sN_lt (u % 256)
  simp only [wL, subWN, List.map_cons, List.map_nil, List.cons.injEq, and_true]
  generalize sN (u / 16777216 % 256) = a at *; generalize sN (u / 65536 % 256) = b at *; generalize sN (u / 256 % 256) = c at *; generalize sN (u % 256) = d at *
  refine ⟨by omega, by omega, by omega, by omega⟩
theorem wB_top {c : Nat} (hc : c < 256) : wB (c * 16777216) = mkB [c, 0, 0, 0] := by
  unfold wB wL
  congr 1
  simp only [List.cons.injEq, and_true]
  refine ⟨by omega, by omega, by omega, by omega⟩

/-- The word that comes behind: out of the one n places ahead and the last one. -/
def stepB (n i : Nat) (q t : ByteArray) : ByteArray :=
  if i % n = 0 then xorT q (xorT (sbT (t.extract 1 4 ++ t.extract 0 1)) (mkB [pw 2 (i / n - 1), 0, 0, 0])) else if n = 8 ∧ i % 8 = 4 then xorT q (sbT t) else xorT q t
def goB (n : Nat) : Nat → Nat → List ByteArray → List ByteArray
  | 0, _, ws => ws
  | d + 1, i, ws => goB n d (i + 1) (ws ++ [stepB n i (ws.getD (i - n) ByteArray.empty) (ws.getD (i - 1) ByteArray.empty)])
/-- m pieces of n bytes. -/
def pcs (n m : Nat) (s : ByteArray) : List ByteArray := (List.range m).map fun i => s.extract (n * i) (n * i + n)
def wordsB (key : ByteArray) : List ByteArray := goB (key.size / 4) (3 * (key.size / 4) + 28) (key.size / 4) (pcs 4 (key.size / 4) key)
/-- The words as texts and as numbers go together. -/
theorem getD_map_wB (us : List Nat) {j : Nat} (hj : j < us.length) : (us.map wB).getD j ByteArray.empty = wB (us.getD j 0) := by
  simp [List.getD_eq_getElem?_getD, hj]
theorem rd_cast (us : List Nat) (j : Nat) : rd (us.map Int.ofNat) (j : Int) = ((us.getD j 0 : Nat) : Int) := by
  unfold rd
  by_cases h : j < us.length
  · simp [List.getD_eq_getElem?_getD, h]
  · simp [List.getD_eq_getElem?_getD, h]
theorem getD_lt {us : List Nat} (h : ∀ u ∈ us, u < 4294967296) (j : Nat) : us.getD j 0 < 4294967296 := by
  rw [List.getD_eq_getElem?_getD]
  by_cases hj : j < us.length
  · rw [List.getElem?_eq_getElem hj]; exact h _ (List.getElem_mem hj)
  · rw [List.getElem?_eq_none (by omega)]; decide
end Go.Proofs.Ytokkhnjedmlbhaa.M
end
