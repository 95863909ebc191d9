-- several texts in one (by the session's program shake.py)
import Derived.Test.YtokkhnjedmlbhaaZSboxR
import Derived.Test.YtokkhnjedmlbhaaZPrg05
import Derived.Test.YtokkhnjedmlbhaaZPrg01x
import Derived.StillTailTactics
import Derived.Laws.Rows
import Derived.Test.YtokkhnjedmlbhaaZPut
import Derived.RegionTactic
import Derived.Laws.CopyOwn
import Derived.ChangeAlike
import Derived.Laws.BitsAllLaws
section
namespace Go.Proofs.Ytokkhnjedmlbhaa.M
open Go.Proofs.YtokkhnjedmlbhaaGf
set_option linter.unusedSimpArgs false
theorem xor_xc (a b : Nat) : a ^^^ (a ^^^ b) = b := by rw [← Nat.xor_assoc, Nat.xor_self, Nat.zero_xor]
theorem xor_lc (a b c : Nat) : a ^^^ (b ^^^ c) = b ^^^ (a ^^^ c) := by rw [← Nat.xor_assoc, Nat.xor_comm a, Nat.xor_assoc]
theorem gm_sm_all : allB 256 (fun a => Nat.beq (gm 1 a) a && Nat.beq (gm 2 a) (xt a) && Nat.beq (gm 3 a) (xt a ^^^ a) && Nat.beq (gm 9 a) (xt (xt (xt a)) ^^^ a) && Nat.beq (gm 11 a) (xt (xt (xt a)) ^^^ (xt a ^^^ a)) && Nat.beq (gm 13 a) (xt (xt (xt a)) ^^^ (xt (xt a) ^^^ a)) && Nat.beq (gm 14 a) (xt (xt (xt a)) ^^^ (xt (xt a) ^^^ xt a))) = true := by decide +kernel
theorem gm_sm {a : Nat} (ha : a < 256) : gm 1 a = a ∧ gm 2 a = xt a ∧ gm 3 a = xt a ^^^ a ∧ gm 9 a = xt (xt (xt a)) ^^^ a ∧ gm 11 a = xt (xt (xt a)) ^^^ (xt a ^^^ a) ∧ gm 13 a = xt (xt (xt a)) ^^^ (xt (xt a) ^^^ a) ∧ gm 14 a = xt (xt (xt a)) ^^^ (xt (xt a) ^^^ xt a) := by
  have h := allB_of gm_sm_all a ha
  simp only [Bool.and_eq_true] at h
  obtain ⟨⟨⟨⟨⟨⟨h1, h2⟩, h3⟩, h4⟩, h5⟩, h6⟩, h7⟩ := h
  exact ⟨Nat.eq_of_beq_eq_true h1, Nat.eq_of_beq_eq_true h2, Nat.eq_of_beq_eq_true h3, Nat.eq_of_beq_eq_true h4, Nat.eq_of_beq_eq_true h5, Nat.eq_of_beq_eq_true h6, Nat.eq_of_beq_eq_true h7⟩
/-- A byte of a column, mixed. -/
def m0 (a b c d : Nat) : Nat := xt a ^^^ (xt b ^^^ (b ^^^ (c ^^^ d)))
/-- A byte of a column, as it was. -/
def u0 (a b c d : Nat) : Nat := gm 14 a ^^^ (gm 11 b ^^^ (gm 13 c ^^^ gm 9 d))
theorem m0_lt {a b c d : Nat} (ha : a < 256) (hb : b < 256) (hc : c < 256) (hd : d < 256) : m0 a b c d < 256 := xor_lt (xt_lt ha) (xor_lt (xt_lt hb) (xor_lt hb (xor_lt hc hd)))
theorem u0_lt {a b c d : Nat} : u0 a b c d < 256 := xor_lt (gm_lt (by omega)) (xor_lt (gm_lt (by omega)) (xor_lt (gm_lt (by omega)) (gm_lt (by omega))))
set_option maxHeartbeats 4000000 in
theorem m0_u0 {a b c d : Nat} (ha : a < 256) (hb : b < 256) (hc : c < 256) (hd : d < 256) : m0 (u0 a b c d) (u0 b c d a) (u0 c d a b) (u0 d a b c) = a := by
  unfold m0 u0
  simp only [gm_sm ha, gm_sm hb, gm_sm hc, gm_sm hd]
  have ha1 := xt_lt ha; have ha2 := xt_lt ha1; have ha3 := xt_lt ha2
  have hb1 := xt_lt hb; have hb2 := xt_lt hb1; have hb3 := xt_lt hb2
  have hc1 := xt_lt hc; have hc2 := xt_lt hc1; have hc3 := xt_lt hc2
  have hd1 := xt_lt hd; have hd2 := xt_lt hd1; have hd3 := xt_lt hd2
  simp (config := {maxDischargeDepth := 30}) only [xt_lin, xor_lt, ha, hb, hc, hd, ha1, ha2, ha3, hb1, hb2, hb3, hc1, hc2, hc3, hd1, hd2, hd3]
  clear ha1 ha2 ha3 hb1 hb2 hb3 hc1 hc2 hc3 hd1 hd2 hd3
  generalize xt (xt (xt (xt a))) = a4
  generalize xt (xt (xt a)) = a3
  generalize xt (xt a) = a2
  generalize xt a = a1
  generalize xt (xt (xt (xt b))) = b4
  generalize xt (xt (xt b)) = b3
  generalize xt (xt b) = b2
  generalize xt b = b1
  generalize xt (xt (xt (xt c))) = c4
  generalize xt (xt (xt c)) = c3
  generalize xt (xt c) = c2
  generalize xt c = c1
  generalize xt (xt (xt (xt d))) = d4
  generalize xt (xt (xt d)) = d3
  generalize xt (xt d) = d2
  generalize xt d = d1
  simp only [Nat.xor_assoc, Nat.xor_comm, xor_lc, Nat.xor_self, Nat.xor_zero, Nat.zero_xor, xor_xc]
set_option maxHeartbeats 4000000 in
theorem u0_m0 {a b c d : Nat} (ha : a < 256) (hb : b < 256) (hc : c < 256) (hd : d < 256) : u0 (m0 a b c d) (m0 b c d a) (m0 c d a b) (m0 d a b c) = a := by
  have h1 := m0_lt ha hb hc hd
  have h2 := m0_lt hb hc hd ha
  have h3 := m0_lt hc hd ha hb
  have h4 := m0_lt hd ha hb hc
  unfold u0
  simp only [gm_sm h1, gm_sm h2, gm_sm h3, gm_sm h4]
  clear h1 h2 h3 h4
  unfold m0
  have ha1 := xt_lt ha; have ha2 := xt_lt ha1; have ha3 := xt_lt ha2
  have hb1 := xt_lt hb; have hb2 := xt_lt hb1; have hb3 := xt_lt hb2
  have hc1 := xt_lt hc; have hc2 := xt_lt hc1; have hc3 := xt_lt hc2
  have hd1 := xt_lt hd; have hd2 := xt_lt hd1; have hd3 := xt_lt hd2
  simp (config := {maxDischargeDepth := 30}) only [xt_lin, xor_lt, ha, hb, hc, hd, ha1, ha2, ha3, hb1, hb2, hb3, hc1, hc2, hc3, hd1, hd2, hd3]
  clear ha1 ha2 ha3 hb1 hb2 hb3 hc1 hc2 hc3 hd1 hd2 hd3
  generalize xt (xt (xt (xt a))) = a4
  generalize xt (xt (xt a)) = a3
  generalize xt (xt a) = a2
  generalize xt a = a1
  generalize xt (xt (xt (xt b))) = b4
  generalize xt (xt (xt b)) = b3
  generalize xt (xt b) = b2
  generalize xt b = b1
  generalize xt (xt (xt (xt c))) = c4
  generalize xt (xt (xt c)) = c3
  generalize xt (xt c) = c2
  generalize xt c = c1
  generalize xt (xt (xt (xt d))) = d4
  generalize xt (xt (xt d)) = d3
  generalize xt (xt d) = d2
  generalize xt d = d1
  simp only [Nat.xor_assoc, Nat.xor_comm, xor_lc, Nat.xor_self, Nat.xor_zero, Nat.zero_xor, xor_xc]
/-- The place j further in a column. -/
def nx (i j : Nat) : Nat := 4 * (i / 4) + (i % 4 + j) % 4
theorem nx_zero (i : Nat) : nx i 0 = i := by unfold nx; omega
theorem nx_nx (i j k : Nat) : nx (nx i j) k = nx i (j + k) := by unfold nx; omega
theorem nx_lt {i : Nat} (hi : i < 16) (j : Nat) : nx i j < 16 := by unfold nx; omega
/-- A state, mixed; back. -/
def MX (g : Nat → Nat) (i : Nat) : Nat := m0 (g i) (g (nx i 1)) (g (nx i 2)) (g (nx i 3))
def UX (g : Nat → Nat) (i : Nat) : Nat := u0 (g i) (g (nx i 1)) (g (nx i 2)) (g (nx i 3))
theorem MX_lt {g : Nat → Nat} (hg : ∀ i, g i < 256) (i : Nat) : MX g i < 256 := m0_lt (hg _) (hg _) (hg _) (hg _)
theorem UX_lt (g : Nat → Nat) (i : Nat) : UX g i < 256 := u0_lt
theorem nx14 (i : Nat) : nx i 4 = i := by unfold nx; omega
theorem nx15 (i : Nat) : nx i 5 = nx i 1 := by unfold nx; omega
theorem nx16 (i : Nat) : nx i 6 = nx i 2 := by unfold nx; omega
theorem MX_UX {g : Nat → Nat} (hg : ∀ i, g i < 256) (i : Nat) : MX (UX g) i = g i := by
  unfold MX UX
  simp only [nx_nx]
  rw [nx14, nx15, nx16]
  exact m0_u0 (hg _) (hg _) (hg _) (hg _)
theorem UX_MX {g : Nat → Nat} (hg : ∀ i, g i < 256) (i : Nat) : UX (MX g) i = g i := by
  unfold MX UX
  simp only [nx_nx]
  rw [nx14, nx15, nx16]
  exact u0_m0 (hg _) (hg _) (hg _) (hg _)
theorem MX_congr {g h : Nat → Nat} (H : ∀ i, i < 16 → g i = h i) {i : Nat} (hi : i < 16) : MX g i = MX h i := by
  unfold MX; rw [H _ hi, H _ (nx_lt hi _), H _ (nx_lt hi _), H _ (nx_lt hi _)]
theorem UX_congr {g h : Nat → Nat} (H : ∀ i, i < 16 → g i = h i) {i : Nat} (hi : i < 16) : UX g i = UX h i := by
  unfold UX; rw [H _ hi, H _ (nx_lt hi _), H _ (nx_lt hi _), H _ (nx_lt hi _)]
/-- Rows moved, and back. -/
def SH (g : Nat → Nat) (i : Nat) : Nat := g (4 * ((i / 4 + i % 4) % 4) + i % 4)
def UH (g : Nat → Nat) (i : Nat) : Nat := g (4 * ((i / 4 + 4 - i % 4) % 4) + i % 4)
theorem SH_UH {g : Nat → Nat} {i : Nat} (hi : i < 16) : SH (UH g) i = g i := by simp only [SH, UH]; congr 1; omega
theorem UH_SH {g : Nat → Nat} {i : Nat} (hi : i < 16) : UH (SH g) i = g i := by simp only [SH, UH]; congr 1; omega
theorem SH_congr {g h : Nat → Nat} (H : ∀ i, i < 16 → g i = h i) (i : Nat) : SH g i = SH h i := H _ (by omega)
theorem UH_congr {g h : Nat → Nat} (H : ∀ i, i < 16 → g i = h i) (i : Nat) : UH g i = UH h i := H _ (by omega)
end Go.Proofs.Ytokkhnjedmlbhaa.M
end
section
namespace Go.Proofs.Ytokkhnjedmlbhaa.Pr
open Go.RowKit Go.Proofs.YtokkhnjedmlbhaaW.PrintWords Go.Proofs.YtokkhnjedmlbhaaW.PrintLast Go.Proofs.YtokkhnjedmlbhaaW.PrintMore
/-- Twice, as a number. -/
def tw (a : Int) : Int := if Go.bits .and .u8 a 128 = 0 then (a * 2) % 256 else Go.bits .xor .u8 ((a * 2) % 256) 27
theorem tw_some (a : Int) : field_Twice.f a = some (tw a) := by
  unfold field_Twice.f tw
  split <;> rfl
theorem twice_still (a : Int) (w : World) : Calls Try.prog 41 #[.int .u8 a] w fun e w' => e = .returned (.int .u8 (tw a)) ∧ w' = w := by
  by_cases h : Go.bits .and .u8 a 128 = 0
  · have e : tw a = (a * 2) % 256 := if_pos h
    have hb : (Go.bits .and .u8 a 128 == 0) = true := beq_iff_eq.mpr h
    have hb2 : (Go.bits .and .u8 a 128 != 0) = false := bne_eq_false_iff_eq.mpr h
    rw [e]
    clear e h
    go_enter Try.func41, Try.ntmps41
    go_wp2
    go_ret
    exact ⟨rfl, rfl⟩
  · have e : tw a = Go.bits .xor .u8 ((a * 2) % 256) 27 := if_neg h
    have hb : (Go.bits .and .u8 a 128 == 0) = false := beq_eq_false_iff_ne.mpr h
    have hb2 : (Go.bits .and .u8 a 128 != 0) = true := bne_iff_ne.mpr h
    rw [e]
    clear e h
    go_enter Try.func41, Try.ntmps41
    go_wp2
    go_ret
    exact ⟨rfl, rfl⟩
theorem still_tail {P : Program} {id : Nat} {Q : Exit → Act → World → Prop} {a : Act} {w : World} {l : List Oper} (n : Nat) (hm : P.follows .mixedOrders = true) (hB : Region.lexTailB .any l.toArray n = true)
    (h : wpStill P l.toArray w.drew (fun a' => wpList P l.toArray Q (l.drop n) a' w.drew) (l.take n) a) : (Code.region id l.toArray true).wp P Q a w := wp_region_still_tail n hm hB h
end Go.Proofs.Ytokkhnjedmlbhaa.Pr
end
section
namespace Go.Proofs.Ytokkhnjedmlbhaa.Pr
open Go.RowKit Go.Proofs.YtokkhnjedmlbhaaW.PrintWords Go.Proofs.YtokkhnjedmlbhaaW.PrintLast Go.Proofs.YtokkhnjedmlbhaaW.PrintMore Go.Proofs.YtokkhnjedmlbhaaHw Go.Proofs.YtokkhnjedmlbhaaGf
/-- A block of bytes. -/
def BY (w : World) (g : Nat) (t : TypeId) (xs : List Int) : Prop := w.heap[g]? = some (.cells ((xs.map (Value.int .u8)).toArray) t (0, 0))
theorem BY.cell {w : World} {g : Nat} {t : TypeId} {xs : List Int} (h : BY w g t xs) (i : Nat) (hi : i < xs.length) : w.cell? ⟨g, i, none⟩ = some (.int .u8 (xs.getD i 0)) := by
  rw [blk_cell h]
  simp [hi]
theorem BY.frozen {w : World} {g : Nat} {t : TypeId} {xs : List Int} (h : BY w g t xs) (i : Nat) : w.frozen? ⟨g, i, none⟩ = false := blk_frozen h i
theorem BY.set {w : World} {g : Nat} {t : TypeId} {xs : List Int} (h : BY w g t xs) (i : Nat) (v : Int) : BY (w.setCell ⟨g, i, none⟩ (.int .u8 v)) g t (xs.set i v) := by
  have := blk_set h i (.int .u8 v)
  unfold BY
  rw [this]
  congr 2
  apply Array.ext'
  simp only [Array.toList_setIfInBounds]
  exact (List.map_set).symm
theorem BY.lt {w : World} {g : Nat} {t : TypeId} {xs : List Int} (h : BY w g t xs) : g < w.heap.size := blk_lt h
theorem BY.same {w w1 : World} {g : Nat} {t : TypeId} {xs : List Int} (h : BY w g t xs) (he : w1.heap[g]? = w.heap[g]?) : BY w1 g t xs := he.trans h
theorem BY.below {w w1 : World} {g : Nat} {t : TypeId} {xs : List Int} (h : BY w g t xs) (hb : Below w.heap.size w w1) : BY w1 g t xs := h.same (hb.block g h.lt)
theorem BY.drewN {w : World} {g : Nat} {t : TypeId} {xs : List Int} (h : BY w g t xs) (n : Nat) : BY (w.drewN n) g t xs := h
theorem BY.drew {w : World} {g : Nat} {t : TypeId} {xs : List Int} (h : BY w g t xs) : BY w.drew g t xs := h
/-- What stands in the tables for a byte. -/
def tabF (p b : Nat) : Nat := if p = 0 then M.sN b else if p = 2 then xt b else if p = 3 then gm 9 b else if p = 4 then gm 11 b else if p = 5 then gm 13 b else gm 14 b
/-- The tables behind i rounds. -/
def tabV (i q : Nat) : Nat := if q / 256 = 1 then (if M.bN (q % 256) < i then M.bN (q % 256) else 0) else if q % 256 < i then tabF (q / 256) (q % 256) else 0
def tabR (i : Nat) : List Int := (List.range 1792).map fun q => ((tabV i q : Nat) : Int)
theorem tabR_length (i : Nat) : (tabR i).length = 1792 := by rw [tabR, List.length_map, List.length_range]
theorem tabV_zero (q : Nat) : tabV 0 q = 0 := by unfold tabV; split <;> simp
theorem tabR_zero : tabR 0 = List.replicate 1792 (0 : Int) := by
  apply List.ext_getElem
  · rw [tabR_length, List.length_replicate]
  · intro q h1 h2
    simp only [tabR, List.getElem_map, tabV_zero, List.getElem_replicate]
    rfl
theorem tab_step (i : Nat) (hi : i < 256) : (((((((tabR i).set i ((M.sN i : Nat) : Int)).set (256 + M.sN i) ((i : Nat) : Int)).set (512 + i) ((xt i : Nat) : Int)).set (768 + i) ((gm 9 i : Nat) : Int)).set (1024 + i) ((gm 11 i : Nat) : Int)).set (1280 + i) ((gm 13 i : Nat) : Int)).set (1536 + i) ((gm 14 i : Nat) : Int) = tabR (i + 1) := by
  have hs := M.sN_lt i
  apply List.ext_getElem
  · simp only [List.length_set, tabR_length]
  · intro q h1 h2
    have hq : q < 1792 := by rw [tabR_length] at h2; exact h2
    obtain ⟨p, b, hb, rfl⟩ : ∃ p b, b < 256 ∧ q = 256 * p + b := ⟨q / 256, q % 256, by omega, by omega⟩
    have hp : p < 7 := by omega
    have e1 : (256 * p + b) / 256 = p := by omega
    have e2 : (256 * p + b) % 256 = b := by omega
    simp only [List.getElem_set, tabR, List.getElem_map, List.getElem_range, tabV, e1, e2]
    clear h1 h2 e1 e2
    have hbs : b = M.sN i ↔ M.bN b = i := ⟨fun e => by rw [e]; exact (M.bs_id hi).1, fun e => by rw [← e]; exact (M.bs_id hb).2.1.symm⟩
    obtain rfl | rfl | rfl | rfl | rfl | rfl | rfl : p = 0 ∨ p = 1 ∨ p = 2 ∨ p = 3 ∨ p = 4 ∨ p = 5 ∨ p = 6 := by omega
    · rw [if_neg (by omega), if_neg (by omega), if_neg (by omega), if_neg (by omega), if_neg (by omega), if_neg (by omega)]
      by_cases e : b = i
      · rw [if_pos (by omega), if_neg (by decide), if_pos (by omega), e]
        rfl
      · rw [if_neg (by omega), if_neg (by decide)]
        by_cases e2 : b < i
        · rw [if_pos e2, if_neg (by decide), if_pos (by omega)]
        · rw [if_neg e2, if_neg (by decide), if_neg (by omega)]
    · rw [if_neg (by omega), if_neg (by omega), if_neg (by omega), if_neg (by omega), if_neg (by omega)]
      by_cases e : b = M.sN i
      · have e' := hbs.1 e
        rw [if_pos (by omega), if_pos rfl, e', if_pos (by omega)]
      · have e' : M.bN b ≠ i := fun h => e (hbs.2 h)
        rw [if_neg (by omega), if_neg (by omega), if_pos rfl]
        by_cases e2 : M.bN b < i
        · rw [if_pos e2, if_pos rfl, if_pos (by omega)]
        · rw [if_neg e2, if_pos rfl, if_neg (by omega)]
    · rw [if_neg (by omega), if_neg (by omega), if_neg (by omega), if_neg (by omega)]
      by_cases e : b = i
      · rw [if_pos (by omega), if_neg (by decide), if_pos (by omega), e]
        rfl
      · rw [if_neg (by omega), if_neg (by omega), if_neg (by omega), if_neg (by decide)]
        by_cases e2 : b < i
        · rw [if_pos e2, if_neg (by decide), if_pos (by omega)]
        · rw [if_neg e2, if_neg (by decide), if_neg (by omega)]
    · rw [if_neg (by omega), if_neg (by omega), if_neg (by omega)]
      by_cases e : b = i
      · rw [if_pos (by omega), if_neg (by decide), if_pos (by omega), e]
        rfl
      · rw [if_neg (by omega), if_neg (by omega), if_neg (by omega), if_neg (by omega), if_neg (by decide)]
        by_cases e2 : b < i
        · rw [if_pos e2, if_neg (by decide), if_pos (by omega)]
        · rw [if_neg e2, if_neg (by decide), if_neg (by omega)]
    · rw [if_neg (by omega), if_neg (by omega)]
      by_cases e : b = i
      · rw [if_pos (by omega), if_neg (by decide), if_pos (by omega), e]
        rfl
      · rw [if_neg (by omega), if_neg (by omega), if_neg (by omega), if_neg (by omega), if_neg (by omega), if_neg (by decide)]
        by_cases e2 : b < i
        · rw [if_pos e2, if_neg (by decide), if_pos (by omega)]
        · rw [if_neg e2, if_neg (by decide), if_neg (by omega)]
    · rw [if_neg (by omega)]
      by_cases e : b = i
      · rw [if_pos (by omega), if_neg (by decide), if_pos (by omega), e]
        rfl
      · rw [if_neg (by omega), if_neg (by omega), if_neg (by omega), if_neg (by omega), if_neg (by omega), if_neg (by omega), if_neg (by decide)]
        by_cases e2 : b < i
        · rw [if_pos e2, if_neg (by decide), if_pos (by omega)]
        · rw [if_neg e2, if_neg (by decide), if_neg (by omega)]
    · by_cases e : b = i
      · rw [if_pos (by omega), if_neg (by decide), if_pos (by omega), e]
        rfl
      · rw [if_neg (by omega), if_neg (by omega), if_neg (by omega), if_neg (by omega), if_neg (by omega), if_neg (by omega), if_neg (by omega), if_neg (by decide)]
        by_cases e2 : b < i
        · rw [if_pos e2, if_neg (by decide), if_pos (by omega)]
        · rw [if_neg e2, if_neg (by decide), if_neg (by omega)]
theorem tw_nat {a : Nat} (ha : a < 256) : tw (a : Int) = ((xt a : Nat) : Int) := Option.some.inj ((tw_some _).symm.trans (M.twice_c ha))
theorem twice_nat {a : Nat} (ha : a < 256) (w : World) : Calls Try.prog 41 #[.int .u8 (a : Int)] w fun e w' => e = .returned (.int .u8 ((xt a : Nat) : Int)) ∧ w' = w := by
  rw [← tw_nat ha]
  exact twice_still _ w
end Go.Proofs.Ytokkhnjedmlbhaa.Pr
end
section
namespace Go.Proofs.Ytokkhnjedmlbhaa.Pr
open Go.RowKit Go.Proofs.YtokkhnjedmlbhaaW.PrintWords Go.Proofs.YtokkhnjedmlbhaaW.PrintLast Go.Proofs.YtokkhnjedmlbhaaW.PrintMore Go.Proofs.YtokkhnjedmlbhaaHw Go.Proofs.YtokkhnjedmlbhaaGf
theorem sT_get (i : Nat) (hi : i < (M.mkB M.sT).size) : ((M.mkB M.sT)[i]'hi).toNat = M.sN i := by
  have h := bt_at (M.mkB M.sT) (i : Int) (by simpa using hi)
  have h2 : bt (M.mkB M.sT) (i : Int) = ((M.sN i : Nat) : Int) := by
    rw [M.bt_bb, M.bb_nb, M.nb_mkB (show M.isB M.sT from M.isB_map M.sN_lt _)]
    have hi' : i < 256 := by rw [M.mkB_size] at hi; simpa [M.sT] using hi
    simp [M.sT, hi']
  rw [h2] at h
  simp only [Int.toNat_natCast] at h
  omega
set_option maxHeartbeats 2000000 in
set_option maxRecDepth 100000 in
theorem ready_calls (w : World) :
    Calls Try.prog 192 #[] w fun e w' => ∃ g : Nat, e = .returned (.pointer (some ⟨g, 0, none⟩)) ∧ w.heap.size ≤ g ∧ BY w' g 113 (tabR 256) ∧ Below w.heap.size w w' := by
  obtain ⟨k, hk⟩ := Ev.rounds M.table_c
  have HTB := Aside0.mk hk
  have HSZ : (M.mkB M.sT).size = 256 := by rw [M.mkB_size]; simp [M.sT]
  have hz : Try.zeroCells113 = ((tabR 0).map (Value.int .u8)).toArray := by rw [tabR_zero]; kernel_rfl
  have HZ := Aside0.mk hz
  clear hk hz
  go_enter Try.func192, Try.ntmps192
  go_wp2_with (go_at_call 70; (with_reducible refine (sbox_Table.calls k _ _ HTB.out).mono ?_); rintro e w2 ⟨rfl, hb2⟩)
  have h1 : BY (w.alloc (.cells Try.zeroCells113 113)) w.heap.size 113 (tabR 0) := by
    unfold BY
    rw [← HZ.out]
    exact heap_alloc_new w _
  have HK0 := Aside0.mk (h1.below hb2)
  have HB0 := Aside0.mk (below_then ((Below.refl w.heap.size w).alloc (Nat.le_refl _) (.cells Try.zeroCells113 113)) (by simp) hb2)
  clear h1 hb2 HTB HZ
  go_loopw [10] (fun i wr => ∃ j : Nat, j ≤ 256 ∧ i = .int .i64 j ∧ Aside0 (BY wr w.heap.size 113 (tabR j)) ∧ Aside0 (Below w.heap.size w wr)) (fun i _ => 256 - (intOf i).toNat)
  case atStart => exact ⟨0, Nat.zero_le _, rfl, HK0, HB0⟩
  case round =>
    clear HK0 HB0
    obtain ⟨j, hj, rfl, HK, HB⟩ := hrel
    by_cases hlt : j < 256
    · have et := fun hi => sT_get j hi
      have hs := M.sN_lt j
      have xl := xt_lt hlt
      have xl2 := xt_lt xl
      have xl3 := xt_lt xl2
      have g9 : Go.bits .xor .u8 ((xt (xt (xt j)) : Nat) : Int) ((j : Nat) : Int) = ((gm 9 j : Nat) : Int) := by rw [M.bx xl3 hlt, (M.gm_sm hlt).2.2.2.1]
      have g31 : Go.bits .xor .u8 ((xt (xt (xt j)) : Nat) : Int) ((xt j : Nat) : Int) = ((xt (xt (xt j)) ^^^ xt j : Nat) : Int) := M.bx xl3 xl
      have g11 : Go.bits .xor .u8 ((xt (xt (xt j)) ^^^ xt j : Nat) : Int) ((j : Nat) : Int) = ((gm 11 j : Nat) : Int) := by rw [M.bx (xor_lt xl3 xl) hlt, (M.gm_sm hlt).2.2.2.2.1, Nat.xor_assoc]
      have g32 : Go.bits .xor .u8 ((xt (xt (xt j)) : Nat) : Int) ((xt (xt j) : Nat) : Int) = ((xt (xt (xt j)) ^^^ xt (xt j) : Nat) : Int) := M.bx xl3 xl2
      have g13 : Go.bits .xor .u8 ((xt (xt (xt j)) ^^^ xt (xt j) : Nat) : Int) ((j : Nat) : Int) = ((gm 13 j : Nat) : Int) := by rw [M.bx (xor_lt xl3 xl2) hlt, (M.gm_sm hlt).2.2.2.2.2.1, Nat.xor_assoc]
      have g14 : Go.bits .xor .u8 ((xt (xt (xt j)) ^^^ xt (xt j) : Nat) : Int) ((xt j : Nat) : Int) = ((gm 14 j : Nat) : Int) := by rw [M.bx (xor_lt xl3 xl2) xl, (M.gm_sm hlt).2.2.2.2.2.2, Nat.xor_assoc]
      have G := Aside0.mk (And.intro g9 (And.intro g31 (And.intro g11 (And.intro g32 (And.intro g13 g14)))))
      clear g9 g31 g11 g32 g13 g14
      have f0 := HK.out.frozen j
      have c0 := HK.out.cell j (by rw [tabR_length]; omega)
      go_wp2
      go_region
      have HK1 := Aside0.mk ((HK.out.set (j) ((M.sN j : Nat) : Int)).drew)
      have HB1 := Aside0.mk (below_drew1 (below_set (j := j) (v := .int .u8 ((M.sN j : Nat) : Int)) HB.out (Nat.le_refl _)))
      clear f0 c0 HK HB
      generalize (wr.setCell ⟨w.heap.size, j, none⟩ (.int .u8 ((M.sN j : Nat) : Int))).drew = W1 at *
      have f0 := HK1.out.frozen (256 + M.sN j)
      have c0 := HK1.out.cell (256 + M.sN j) (by simp only [List.length_set, tabR_length]; omega)
      go_wp2
      go_region
      have HK2 := Aside0.mk ((HK1.out.set (256 + M.sN j) ((j : Nat) : Int)).drew)
      have HB2 := Aside0.mk (below_drew1 (below_set (j := 256 + M.sN j) (v := .int .u8 ((j : Nat) : Int)) HB1.out (Nat.le_refl _)))
      clear f0 c0 HK1 HB1
      generalize (W1.setCell ⟨w.heap.size, 256 + M.sN j, none⟩ (.int .u8 ((j : Nat) : Int))).drew = W2 at *
      have f0 := HK2.out.frozen (512 + j)
      have c0 := HK2.out.cell (512 + j) (by simp only [List.length_set, tabR_length]; omega)
      go_wp2
      refine still_tail 7 (by kernel_rfl) (by kernel_rfl) ?_
      simp only [List.take_succ_cons, List.take_zero, List.drop_succ_cons, List.drop_zero]
      repeat still_step
      still_call (twice_nat hlt _)
      repeat still_step
      refine wpStill_nil ?_
      have f1 := HK2.out.frozen (768 + j)
      have c1 := HK2.out.cell (768 + j) (by simp only [List.length_set, tabR_length]; omega)
      have g9 := G.out.1
      go_wp2_with (go_at_call 41; (first | (with_reducible refine (twice_nat xl _).mono ?_) | (with_reducible refine (twice_nat xl2 _).mono ?_)); rintro e w' ⟨rfl, rfl⟩)
      have HK4 := Aside0.mk ((HK2.out.set (512 + j) ((xt j : Nat) : Int)).set (768 + j) ((gm 9 j : Nat) : Int)).drew
      have HB4 := Aside0.mk (below_drew1 (below_set (j := 768 + j) (v := .int .u8 ((gm 9 j : Nat) : Int)) (below_set (j := 512 + j) (v := .int .u8 ((xt j : Nat) : Int)) HB2.out (Nat.le_refl _)) (Nat.le_refl _)))
      clear f0 c0 f1 c1 g9 HK2 HB2
      generalize ((W2.setCell ⟨w.heap.size, 512 + j, none⟩ (.int .u8 ((xt j : Nat) : Int))).setCell ⟨w.heap.size, 768 + j, none⟩ (.int .u8 ((gm 9 j : Nat) : Int))).drew = W4 at *
      have c0 : W4.cell? ⟨w.heap.size, 512 + j, none⟩ = some (.int .u8 ((xt j : Nat) : Int)) := by
        have h := HK4.out.cell (512 + j) (by simp only [List.length_set, tabR_length]; omega)
        rw [List.getD_eq_getElem?_getD, List.getElem?_set_ne (by omega), List.getElem?_set_self (by simp only [List.length_set, tabR_length]; omega)] at h
        exact h
      have f1 := HK4.out.frozen (1024 + j)
      have c1 := HK4.out.cell (1024 + j) (by simp only [List.length_set, tabR_length]; omega)
      have g31 := G.out.2.1
      have g11 := G.out.2.2.1
      go_region
      have HK5 := Aside0.mk (HK4.out.set (1024 + j) ((gm 11 j : Nat) : Int)).drew
      have HB5 := Aside0.mk (below_drew1 (below_set (j := 1024 + j) (v := .int .u8 ((gm 11 j : Nat) : Int)) HB4.out (Nat.le_refl _)))
      clear f1 c1 g31 g11 HK4 HB4 c0
      generalize (W4.setCell ⟨w.heap.size, 1024 + j, none⟩ (.int .u8 ((gm 11 j : Nat) : Int))).drew = W5 at *
      have f1 := HK5.out.frozen (1280 + j)
      have c1 := HK5.out.cell (1280 + j) (by simp only [List.length_set, tabR_length]; omega)
      have g32 := G.out.2.2.2.1
      have g13 := G.out.2.2.2.2.1
      go_wp2
      have HK6 := Aside0.mk (HK5.out.set (1280 + j) ((gm 13 j : Nat) : Int))
      have HB6 := Aside0.mk (below_set (j := 1280 + j) (v := .int .u8 ((gm 13 j : Nat) : Int)) HB5.out (Nat.le_refl _))
      clear f1 c1 g32 g13 HK5 HB5
      generalize (W5.setCell ⟨w.heap.size, 1280 + j, none⟩ (.int .u8 ((gm 13 j : Nat) : Int))) = W6 at *
      have c0 : W6.cell? ⟨w.heap.size, 512 + j, none⟩ = some (.int .u8 ((xt j : Nat) : Int)) := by
        have h := HK6.out.cell (512 + j) (by simp only [List.length_set, tabR_length]; omega)
        rw [List.getD_eq_getElem?_getD, List.getElem?_set_ne (by omega), List.getElem?_set_ne (by omega), List.getElem?_set_ne (by omega), List.getElem?_set_self (by simp only [List.length_set, tabR_length]; omega)] at h
        exact h
      have f1 := HK6.out.frozen (1536 + j)
      have c1 := HK6.out.cell (1536 + j) (by simp only [List.length_set, tabR_length]; omega)
      have g32 := G.out.2.2.2.1
      have g14 := G.out.2.2.2.2.2
      go_region
      have HK7 := Aside0.mk (HK6.out.set (1536 + j) ((gm 14 j : Nat) : Int)).drew
      have HB7 := Aside0.mk (below_drew1 (below_set (j := 1536 + j) (v := .int .u8 ((gm 14 j : Nat) : Int)) HB6.out (Nat.le_refl _)))
      clear f1 c1 g32 g14 HK6 HB6 c0
      generalize (W6.setCell ⟨w.heap.size, 1536 + j, none⟩ (.int .u8 ((gm 14 j : Nat) : Int))).drew = W7 at *
      have HE : Aside0 (BY W7 w.heap.size 113 (tabR (j + 1))) := ⟨by rw [← tab_step j hlt]; exact HK7.out⟩
      clear HK7
      go_wp2
      exact ⟨⟨j + 1, hlt, by go_num, HE, HB7⟩, by simp [intOf]; omega⟩
    · obtain rfl : j = 256 := by omega
      go_wp2
      go_ret
      exact ⟨_, rfl, Nat.le_refl _, HK.out, HB.out⟩
end Go.Proofs.Ytokkhnjedmlbhaa.Pr
end
section
namespace Go.Proofs.Ytokkhnjedmlbhaa.Pr
open Go.RowKit Go.Proofs.YtokkhnjedmlbhaaW.PrintWords Go.Proofs.YtokkhnjedmlbhaaW.PrintLast Go.Proofs.YtokkhnjedmlbhaaW.PrintMore
theorem and255 {x : Int} (h0 : 0 ≤ x) (h1 : x < 4294967296) : Go.bits .and .u32 x 255 = x % 256 := by
  obtain ⟨n, rfl⟩ := Int.eq_ofNat_of_zero_le h0
  have h := u32_and_nat n 255 (by omega) (by omega)
  rw [show (255 : Nat) = 2 ^ 8 - 1 from rfl, Nat.and_two_pow_sub_one_eq_mod] at h
  exact h
/-- The word of four bytes. -/
def wordI (a b c d : Int) : Int := Go.bits .or .u32 (Go.bits .or .u32 (Go.bits .or .u32 (a % 4294967296 * 16777216 % 4294967296) (b % 4294967296 * 65536 % 4294967296)) (c % 4294967296 * 256 % 4294967296)) (d % 4294967296)
def subW (tb : ByteArray) (x : Int) : Int := wordI (bt tb (x / 16777216)) (bt tb (x / 65536 % 256)) (bt tb (x / 256 % 256)) (bt tb (x % 256))
set_option maxHeartbeats 1000000 in
set_option maxRecDepth 100000 in
theorem subW_calls (b : Nat) (tb : ByteArray) (x : Int) (w : World) (hc : w.cell? ⟨b, 0, none⟩ = some (.string tb)) (ht : tb.size = 256) (h0 : 0 ≤ x) (h1 : x < 4294967296) :
    Calls Try.prog 221 #[.int .u32 x, .pointer (some ⟨b, 0, none⟩)] w fun e w' => e = .returned (.int .u32 (subW tb x)) ∧ Drawn0 w w' := by
  have e1 := and255 (x := x / 65536) (by omega) (by omega)
  have e2 := and255 (x := x / 256) (by omega) (by omega)
  have e3 := and255 (x := x) (by omega) (by omega)
  have i0 : x / 16777216 < (tb.size : Int) := by omega
  have i1 : x / 65536 % 256 < (tb.size : Int) := by omega
  have i2 : x / 256 % 256 < (tb.size : Int) := by omega
  have i3 : x % 256 < (tb.size : Int) := by omega
  have j0 : 0 ≤ x / 16777216 := by omega
  have j1 : 0 ≤ x / 65536 % 256 := by omega
  have j2 : 0 ≤ x / 256 % 256 := by omega
  have j3 : 0 ≤ x % 256 := by omega
  have k0 : (x / 16777216).toNat < tb.size := by omega
  have k1 : (x / 65536 % 256).toNat < tb.size := by omega
  have k2 : (x / 256 % 256).toNat < tb.size := by omega
  have k3 : (x % 256).toNat < tb.size := by omega
  have es : subW tb x = wordI ((tb[(x / 16777216).toNat]'k0).toNat : Int) ((tb[(x / 65536 % 256).toNat]'k1).toNat : Int) ((tb[(x / 256 % 256).toNat]'k2).toNat : Int) ((tb[(x % 256).toNat]'k3).toNat : Int) := by
    unfold subW
    rw [bt_at tb (x / 16777216) k0, bt_at tb (x / 65536 % 256) k1, bt_at tb (x / 256 % 256) k2, bt_at tb (x % 256) k3]
  unfold wordI at es
  rw [es]
  clear ht es
  go_enter Try.func221, Try.ntmps221
  go_wp2
  go_quiet (fail)
  go_wp2
  go_ret
  exact ⟨rfl, ⟨⟨_, rfl⟩⟩⟩
end Go.Proofs.Ytokkhnjedmlbhaa.Pr
end
