-- several texts in one (by the session's program shake.py)
import Derived.Test.YtokkhnjedmlbhaaZSboxP
import Derived.Test.YtokkhnjedmlbhaaZPrg06
import Derived.Test.YtokkhnjedmlbhaaZPrk
import Derived.Test.YtokkhnjedmlbhaaZPrg05
import Derived.Test.YtokkhnjedmlbhaaZPrg01x
import Derived.Test.YtokkhnjedmlbhaaZExpand
import Derived.Laws.BitsAllLaws
section
namespace Go.Proofs.Ytokkhnjedmlbhaa.M
open Go.RowKit Go.Proofs.Ytokkhnjedmlbhaa.Pr Go.Proofs.YtokkhnjedmlbhaaW.PrintWords Go.Proofs.YtokkhnjedmlbhaaW.PrintLast Go.Proofs.YtokkhnjedmlbhaaW.PrintMore Go.Proofs.YtokkhnjedmlbhaaGf
theorem rSubsL (d : Nat) : ∀ (i : Nat) (s : ByteArray), s.size ≤ 140737488355328 → i ≤ s.size → s.size - i = d → Ev (fun k => clavigerref06_Subs.l0 k s (mkB (((nb s).take i).map sN)) (i : Int)) (mkB ((nb s).map sN)) := by
  induction d with
  | zero =>
    intro i s hs hi hd
    obtain rfl : i = s.size := by omega
    rw [List.take_of_length_le (by rw [nb_length]; exact Nat.le_refl _)]
    exact Ev.step (f := fun _ => some (mkB ((nb s).map sN))) (fun k => by simp only [clavigerref06_Subs.l0]; rw [if_neg (by omega)]) (Ev.now _)
  | succ d ih =>
    intro i s hs hi hd
    have hl : i < (nb s).length := by rw [nb_length]; omega
    have hh := ih (i + 1) s hs (by omega) (by omega)
    rw [List.take_succ_eq_append_getElem hl, List.map_append, ← mkB_append] at hh
    refine Ev.step (f := fun k => (clavigerref06_Sub.f k (bt s (i : Int))).bind fun t185 => ((some (([t185] : List Int) : List Int)).bind fun y186 => (if (mkB (((nb s).take i).map sN)).size + (strOfNums y186).size ≤ 9223372036854775807 then (clavigerref06_Subs.l0 k s (mkB (((nb s).take i).map sN) ++ (strOfNums y186)) (wrap64 ((i : Int) + 1))) else (none)))) (fun k => by simp only [clavigerref06_Subs.l0]; rw [if_pos (by omega), if_pos (by omega)]) ?_
    have e : bb s i = (nb s)[i] := by rw [bb_nb, List.getD_eq_getElem?_getD, List.getElem?_eq_getElem hl]; rfl
    rw [bt_bb]
    refine evb (rsub_c (bb_lt s i)) (evs rfl ?_)
    rw [show strOfNums [((sN (bb s i) : Nat) : Int)] = mkB [sN (bb s i)] from strOfNums_cast [sN (bb s i)]]
    refine evp (by rw [mkB_size, mkB_size, List.length_map, List.length_take]; simp; omega) ?_
    rw [wrap_id (by omega) (by omega), e]
    exact hh
theorem rSubs_c (s : ByteArray) (hs : s.size ≤ 140737488355328) : Ev (fun k => clavigerref06_Subs.f k s) (mkB ((nb s).map sN)) := rSubsL s.size 0 s hs (by omega) (by omega)
theorem table_all : sbox_Table.f 300 = some (mkB sT) := by decide +kernel
theorem table_c : Ev (fun k => sbox_Table.f k) (mkB sT) := Ev.of sbox_Table.mono (k := 300) table_all
end Go.Proofs.Ytokkhnjedmlbhaa.M
end
section
namespace Go.Proofs.Ytokkhnjedmlbhaa.Pr
open Go.RowKit Go.Proofs.YtokkhnjedmlbhaaW.PrintWords Go.Proofs.YtokkhnjedmlbhaaW.PrintLast Go.Proofs.YtokkhnjedmlbhaaW.PrintMore
attribute [local go_sem] max2_int min2_int max_two min_two max_three min_three max_four min_four   -- for this text's walks alone
set_option linter.unusedVariables false
set_option linter.unusedSimpArgs false

def clavigerref07_fits.f (a0 : ByteArray) : Option (Bool) := some ((a0.size : Int) == 16)
def clavigerref07_Key.f (k : Nat) (a0 : ByteArray) (a1 : ByteArray) : Option (ByteArray) := (clavigerref07_fits.f a0).bind fun t248 => (if t248 = true then ((clavigerref07_fits.f a1).bind fun t249 => (if t249 = true then ((clavigerref01_Xor.f k a0 a1).bind fun t250 => (some t250)) else (some (⟨#[]⟩ : ByteArray)))) else (some (⟨#[]⟩ : ByteArray)))
theorem clavigerref07_Key.mono : ∀ a0 a1 k, LeO (clavigerref07_Key.f k a0 a1) (clavigerref07_Key.f (k + 1) a0 a1) := by
 intro a0 a1 k
 unfold clavigerref07_Key.f
 repeat' first
   | (with_reducible exact clavigerref01_Xor.mono _ _ _)
   | (with_reducible exact LeO.refl _)
   | (with_reducible exact LeO.none _)
   | (with_reducible refine LeO.ite ?_ ?_)
   | (with_reducible refine LeO.bind ?_ (fun _ => ?_))
   | exact clavigerref01_Xor.mono _ _ _
   | exact LeO.none _
   | refine LeO.ite ?_ ?_
   | refine LeO.bind ?_ (fun _ => ?_)
mutual
def clavigerref07_moved.l0 : Nat → ByteArray → Int → ByteArray → Int → Option (ByteArray)
 | 0, _, _, _, _ => none
 | k + 1, x0, x1, x5, x6 => if x6 < 4 then (clavigerref07_moved.l1 k x0 x1 x5 x6 0) else (some x5)
def clavigerref07_moved.l1 : Nat → ByteArray → Int → ByteArray → Int → Int → Option (ByteArray)
 | 0, _, _, _, _, _ => none
 | k + 1, x0, x1, x5, x6, x7 => if x7 < 4 then (if 0 ≤ (wrap64 ((wrap64 (4 * (Int.tmod (wrap64 (x6 + (wrap64 (x1 * x7)))) 4))) + x7)) then (if (wrap64 ((wrap64 (4 * (Int.tmod (wrap64 (x6 + (wrap64 (x1 * x7)))) 4))) + x7)) ≤ (wrap64 ((wrap64 ((wrap64 (4 * (Int.tmod (wrap64 (x6 + (wrap64 (x1 * x7)))) 4))) + x7)) + 1)) then (if (wrap64 ((wrap64 ((wrap64 (4 * (Int.tmod (wrap64 (x6 + (wrap64 (x1 * x7)))) 4))) + x7)) + 1)) ≤ (x0.size : Int) then (if x5.size + (x0.extract ((wrap64 ((wrap64 (4 * (Int.tmod (wrap64 (x6 + (wrap64 (x1 * x7)))) 4))) + x7)) : Int).toNat ((wrap64 ((wrap64 ((wrap64 (4 * (Int.tmod (wrap64 (x6 + (wrap64 (x1 * x7)))) 4))) + x7)) + 1)) : Int).toNat).size ≤ 9223372036854775807 then (clavigerref07_moved.l1 k x0 x1 (x5 ++ (x0.extract ((wrap64 ((wrap64 (4 * (Int.tmod (wrap64 (x6 + (wrap64 (x1 * x7)))) 4))) + x7)) : Int).toNat ((wrap64 ((wrap64 ((wrap64 (4 * (Int.tmod (wrap64 (x6 + (wrap64 (x1 * x7)))) 4))) + x7)) + 1)) : Int).toNat)) x6 (wrap64 (x7 + 1))) else (none)) else (none)) else (none)) else (none)) else (clavigerref07_moved.l0 k x0 x1 x5 (wrap64 (x6 + 1)))
end
def clavigerref07_moved.f (k : Nat) (a0 : ByteArray) (a1 : Int) : Option (ByteArray) := (clavigerref07_fits.f a0).bind fun t251 => (if t251 = true then (clavigerref07_moved.l0 k a0 a1 (⟨#[]⟩ : ByteArray) 0) else (some (⟨#[]⟩ : ByteArray)))
theorem clavigerref07_moved.mono_l : ∀ k, (∀ y0 y1 y2 y3, LeO (clavigerref07_moved.l0 k y0 y1 y2 y3) (clavigerref07_moved.l0 (k + 1) y0 y1 y2 y3)) ∧ (∀ y0 y1 y2 y3 y4, LeO (clavigerref07_moved.l1 k y0 y1 y2 y3 y4) (clavigerref07_moved.l1 (k + 1) y0 y1 y2 y3 y4))
 | 0 => ⟨fun _ _ _ _ r h => by simp [clavigerref07_moved.l0] at h, fun _ _ _ _ _ r h => by simp [clavigerref07_moved.l1] at h⟩
 | k + 1 => by
  obtain ⟨ih0, ih1⟩ := clavigerref07_moved.mono_l k
  refine ⟨?_, ?_⟩
  ·intro y0 y1 y2 y3
   unfold clavigerref07_moved.l0
   repeat' first
   | (with_reducible exact ih0 _ _ _ _)
   | (with_reducible exact ih1 _ _ _ _ _)
   | (with_reducible exact LeO.refl _)
   | (with_reducible exact LeO.none _)
   | (with_reducible refine LeO.ite ?_ ?_)
   | (with_reducible refine LeO.bind ?_ (fun _ => ?_))
   | exact ih0 _ _ _ _
   | exact ih1 _ _ _ _ _
   | exact LeO.none _
   | refine LeO.ite ?_ ?_
   | refine LeO.bind ?_ (fun _ => ?_)
  ·intro y0 y1 y2 y3 y4
   unfold clavigerref07_moved.l1
   repeat' first
   | (with_reducible exact ih0 _ _ _ _)
   | (with_reducible exact ih1 _ _ _ _ _)
   | (with_reducible exact LeO.refl _)
   | (with_reducible exact LeO.none _)
   | (with_reducible refine LeO.ite ?_ ?_)
   | (with_reducible refine LeO.bind ?_ (fun _ => ?_))
   | exact ih0 _ _ _ _
   | exact ih1 _ _ _ _ _
   | exact LeO.none _
   | refine LeO.ite ?_ ?_
   | refine LeO.bind ?_ (fun _ => ?_)
theorem clavigerref07_moved.mono : ∀ a0 a1 k, LeO (clavigerref07_moved.f k a0 a1) (clavigerref07_moved.f (k + 1) a0 a1) := by
 intro a0 a1 k
 obtain ⟨ih0, ih1⟩ := clavigerref07_moved.mono_l k
 unfold clavigerref07_moved.f
 repeat' first
   | (with_reducible exact ih0 _ _ _ _)
   | (with_reducible exact ih1 _ _ _ _ _)
   | (with_reducible exact LeO.refl _)
   | (with_reducible exact LeO.none _)
   | (with_reducible refine LeO.ite ?_ ?_)
   | (with_reducible refine LeO.bind ?_ (fun _ => ?_))
   | exact ih0 _ _ _ _
   | exact ih1 _ _ _ _ _
   | exact LeO.none _
   | refine LeO.ite ?_ ?_
   | refine LeO.bind ?_ (fun _ => ?_)
def clavigerref07_Shift.f (k : Nat) (a0 : ByteArray) : Option (ByteArray) := (clavigerref07_moved.f k a0 1).bind fun t252 => (some t252)
theorem clavigerref07_Shift.mono : ∀ a0 k, LeO (clavigerref07_Shift.f k a0) (clavigerref07_Shift.f (k + 1) a0) := by
 intro a0 k
 unfold clavigerref07_Shift.f
 repeat' first
   | (with_reducible exact clavigerref07_moved.mono _ _ _)
   | (with_reducible exact LeO.refl _)
   | (with_reducible exact LeO.none _)
   | (with_reducible refine LeO.ite ?_ ?_)
   | (with_reducible refine LeO.bind ?_ (fun _ => ?_))
   | exact clavigerref07_moved.mono _ _ _
   | exact LeO.none _
   | refine LeO.ite ?_ ?_
   | refine LeO.bind ?_ (fun _ => ?_)
mutual
def clavigerref07_mixed.l0 : Nat → ByteArray → ByteArray → ByteArray → Int → Option (ByteArray)
 | 0, _, _, _, _ => none
 | k + 1, x0, x1, x5, x6 => if x6 < 4 then (clavigerref07_mixed.l1 k x0 x1 x5 x6 0) else (some x5)
def clavigerref07_mixed.l1 : Nat → ByteArray → ByteArray → ByteArray → Int → Int → Option (ByteArray)
 | 0, _, _, _, _, _ => none
 | k + 1, x0, x1, x5, x6, x7 => if x7 < 4 then (clavigerref07_mixed.l2 k x0 x1 x5 x6 x7 0 0) else (clavigerref07_mixed.l0 k x0 x1 x5 (wrap64 (x6 + 1)))
def clavigerref07_mixed.l2 : Nat → ByteArray → ByteArray → ByteArray → Int → Int → Int → Int → Option (ByteArray)
 | 0, _, _, _, _, _, _, _ => none
 | k + 1, x0, x1, x5, x6, x7, x8, x9 => if x9 < 4 then (if 0 ≤ x9 then (if x9 < (x1.size : Int) then (if 0 ≤ (wrap64 ((wrap64 (4 * x6)) + (Int.tmod (wrap64 (x7 + x9)) 4))) then (if (wrap64 ((wrap64 (4 * x6)) + (Int.tmod (wrap64 (x7 + x9)) 4))) < (x0.size : Int) then ((clavigerref05_Mul.f k (bt x1 x9) (bt x0 (wrap64 ((wrap64 (4 * x6)) + (Int.tmod (wrap64 (x7 + x9)) 4))))).bind fun t254 => (clavigerref07_mixed.l2 k x0 x1 x5 x6 x7 (Go.bits .xor .u8 x8 t254) (wrap64 (x9 + 1)))) else (none)) else (none)) else (none)) else (none)) else ((some (([x8] : List Int) : List Int)).bind fun y255 => (if x5.size + (strOfNums y255).size ≤ 9223372036854775807 then (clavigerref07_mixed.l1 k x0 x1 (x5 ++ (strOfNums y255)) x6 (wrap64 (x7 + 1))) else (none)))
end
def clavigerref07_mixed.f (k : Nat) (a0 : ByteArray) (a1 : ByteArray) : Option (ByteArray) := (clavigerref07_fits.f a0).bind fun t253 => (if t253 = true then (clavigerref07_mixed.l0 k a0 a1 (⟨#[]⟩ : ByteArray) 0) else (some (⟨#[]⟩ : ByteArray)))
theorem clavigerref07_mixed.mono_l : ∀ k, (∀ y0 y1 y2 y3, LeO (clavigerref07_mixed.l0 k y0 y1 y2 y3) (clavigerref07_mixed.l0 (k + 1) y0 y1 y2 y3)) ∧ (∀ y0 y1 y2 y3 y4, LeO (clavigerref07_mixed.l1 k y0 y1 y2 y3 y4) (clavigerref07_mixed.l1 (k + 1) y0 y1 y2 y3 y4)) ∧ (∀ y0 y1 y2 y3 y4 y5 y6, LeO (clavigerref07_mixed.l2 k y0 y1 y2 y3 y4 y5 y6) (clavigerref07_mixed.l2 (k + 1) y0 y1 y2 y3 y4 y5 y6))
 | 0 => ⟨fun _ _ _ _ r h => by simp [clavigerref07_mixed.l0] at h, fun _ _ _ _ _ r h => by simp [clavigerref07_mixed.l1] at h, fun _ _ _ _ _ _ _ r h => by simp [clavigerref07_mixed.l2] at h⟩
 | k + 1 => by
  obtain ⟨ih0, ih1, ih2⟩ := clavigerref07_mixed.mono_l k
  refine ⟨?_, ?_, ?_⟩
  ·intro y0 y1 y2 y3
   unfold clavigerref07_mixed.l0
   repeat' first
   | (with_reducible exact ih0 _ _ _ _)
   | (with_reducible exact ih1 _ _ _ _ _)
   | (with_reducible exact ih2 _ _ _ _ _ _ _)
   | (with_reducible exact clavigerref05_Mul.mono _ _ _)
   | (with_reducible exact LeO.refl _)
   | (with_reducible exact LeO.none _)
   | (with_reducible refine LeO.ite ?_ ?_)
   | (with_reducible refine LeO.bind ?_ (fun _ => ?_))
   | exact ih0 _ _ _ _
   | exact ih1 _ _ _ _ _
   | exact ih2 _ _ _ _ _ _ _
   | exact clavigerref05_Mul.mono _ _ _
   | exact LeO.none _
   | refine LeO.ite ?_ ?_
   | refine LeO.bind ?_ (fun _ => ?_)
  ·intro y0 y1 y2 y3 y4
   unfold clavigerref07_mixed.l1
   repeat' first
   | (with_reducible exact ih0 _ _ _ _)
   | (with_reducible exact ih1 _ _ _ _ _)
   | (with_reducible exact ih2 _ _ _ _ _ _ _)
   | (with_reducible exact clavigerref05_Mul.mono _ _ _)
   | (with_reducible exact LeO.refl _)
   | (with_reducible exact LeO.none _)
   | (with_reducible refine LeO.ite ?_ ?_)
   | (with_reducible refine LeO.bind ?_ (fun _ => ?_))
   | exact ih0 _ _ _ _
   | exact ih1 _ _ _ _ _
   | exact ih2 _ _ _ _ _ _ _
   | exact clavigerref05_Mul.mono _ _ _
   | exact LeO.none _
   | refine LeO.ite ?_ ?_
   | refine LeO.bind ?_ (fun _ => ?_)
  ·intro y0 y1 y2 y3 y4 y5 y6
   unfold clavigerref07_mixed.l2
   repeat' first
   | (with_reducible exact ih0 _ _ _ _)
   | (with_reducible exact ih1 _ _ _ _ _)
   | (with_reducible exact ih2 _ _ _ _ _ _ _)
   | (with_reducible exact clavigerref05_Mul.mono _ _ _)
   | (with_reducible exact LeO.refl _)
   | (with_reducible exact LeO.none _)
   | (with_reducible refine LeO.ite ?_ ?_)
   | (with_reducible refine LeO.bind ?_ (fun _ => ?_))
   | exact ih0 _ _ _ _
   | exact ih1 _ _ _ _ _
   | exact ih2 _ _ _ _ _ _ _
   | exact clavigerref05_Mul.mono _ _ _
   | exact LeO.none _
   | refine LeO.ite ?_ ?_
   | refine LeO.bind ?_ (fun _ => ?_)
theorem clavigerref07_mixed.mono : ∀ a0 a1 k, LeO (clavigerref07_mixed.f k a0 a1) (clavigerref07_mixed.f (k + 1) a0 a1) := by
 intro a0 a1 k
 obtain ⟨ih0, ih1, ih2⟩ := clavigerref07_mixed.mono_l k
 unfold clavigerref07_mixed.f
 repeat' first
   | (with_reducible exact ih0 _ _ _ _)
   | (with_reducible exact ih1 _ _ _ _ _)
   | (with_reducible exact ih2 _ _ _ _ _ _ _)
   | (with_reducible exact clavigerref05_Mul.mono _ _ _)
   | (with_reducible exact LeO.refl _)
   | (with_reducible exact LeO.none _)
   | (with_reducible refine LeO.ite ?_ ?_)
   | (with_reducible refine LeO.bind ?_ (fun _ => ?_))
   | exact ih0 _ _ _ _
   | exact ih1 _ _ _ _ _
   | exact ih2 _ _ _ _ _ _ _
   | exact clavigerref05_Mul.mono _ _ _
   | exact LeO.none _
   | refine LeO.ite ?_ ?_
   | refine LeO.bind ?_ (fun _ => ?_)
def clavigerref07_Mix.f (k : Nat) (a0 : ByteArray) : Option (ByteArray) := (clavigerref07_mixed.f k a0 (⟨#[2, 3, 1, 1]⟩ : ByteArray)).bind fun t258 => (some t258)
theorem clavigerref07_Mix.mono : ∀ a0 k, LeO (clavigerref07_Mix.f k a0) (clavigerref07_Mix.f (k + 1) a0) := by
 intro a0 k
 unfold clavigerref07_Mix.f
 repeat' first
   | (with_reducible exact clavigerref07_mixed.mono _ _ _)
   | (with_reducible exact LeO.refl _)
   | (with_reducible exact LeO.none _)
   | (with_reducible refine LeO.ite ?_ ?_)
   | (with_reducible refine LeO.bind ?_ (fun _ => ?_))
   | exact clavigerref07_mixed.mono _ _ _
   | exact LeO.none _
   | refine LeO.ite ?_ ?_
   | refine LeO.bind ?_ (fun _ => ?_)
def clavigerref07_Do.j0 : Nat → ByteArray → ByteArray → Bool → Bool → Option (ByteArray)
 | 0, _, _, _, _ => none
 | k + 1, x0, x1, x2, x15 => if x15 = true then (some (⟨#[]⟩ : ByteArray)) else ((clavigerref06_Subs.f k x0).bind fun t261 => ((clavigerref07_Shift.f k t261).bind fun t262 => (if x2 = true then ((clavigerref07_Key.f k t262 x1).bind fun t263 => (some t263)) else ((clavigerref07_Mix.f k t262).bind fun t264 => ((clavigerref07_Key.f k t264 x1).bind fun t265 => (some t265))))))
def clavigerref07_Do.f (k : Nat) (a0 : ByteArray) (a1 : ByteArray) (a2 : Bool) : Option (ByteArray) := (clavigerref07_fits.f a0).bind fun t259 => (if t259 = true then ((clavigerref07_fits.f a1).bind fun t260 => (clavigerref07_Do.j0 k a0 a1 a2 (!t260))) else (clavigerref07_Do.j0 k a0 a1 a2 true))
theorem clavigerref07_Do.mono_l : ∀ k, (∀ y0 y1 y2 y3, LeO (clavigerref07_Do.j0 k y0 y1 y2 y3) (clavigerref07_Do.j0 (k + 1) y0 y1 y2 y3))
 | 0 => fun _ _ _ _ r h => by simp [clavigerref07_Do.j0] at h
 | k + 1 => by
  have ih0 := clavigerref07_Do.mono_l k
  ·intro y0 y1 y2 y3
   unfold clavigerref07_Do.j0
   repeat' first
   | (with_reducible exact ih0 _ _ _ _)
   | (with_reducible exact clavigerref06_Subs.mono _ _)
   | (with_reducible exact clavigerref07_Key.mono _ _ _)
   | (with_reducible exact clavigerref07_Mix.mono _ _)
   | (with_reducible exact clavigerref07_Shift.mono _ _)
   | (with_reducible exact LeO.refl _)
   | (with_reducible exact LeO.none _)
   | (with_reducible refine LeO.ite ?_ ?_)
   | (with_reducible refine LeO.bind ?_ (fun _ => ?_))
   | exact ih0 _ _ _ _
   | exact clavigerref06_Subs.mono _ _
   | exact clavigerref07_Key.mono _ _ _
   | exact clavigerref07_Mix.mono _ _
   | exact clavigerref07_Shift.mono _ _
   | exact LeO.none _
   | refine LeO.ite ?_ ?_
   | refine LeO.bind ?_ (fun _ => ?_)
theorem clavigerref07_Do.mono : ∀ a0 a1 a2 k, LeO (clavigerref07_Do.f k a0 a1 a2) (clavigerref07_Do.f (k + 1) a0 a1 a2) := by
 intro a0 a1 a2 k
 have ih0 := clavigerref07_Do.mono_l k
 unfold clavigerref07_Do.f
 repeat' first
   | (with_reducible exact ih0 _ _ _ _)
   | (with_reducible exact clavigerref06_Subs.mono _ _)
   | (with_reducible exact clavigerref07_Key.mono _ _ _)
   | (with_reducible exact clavigerref07_Mix.mono _ _)
   | (with_reducible exact clavigerref07_Shift.mono _ _)
   | (with_reducible exact LeO.refl _)
   | (with_reducible exact LeO.none _)
   | (with_reducible refine LeO.ite ?_ ?_)
   | (with_reducible refine LeO.bind ?_ (fun _ => ?_))
   | exact ih0 _ _ _ _
   | exact clavigerref06_Subs.mono _ _
   | exact clavigerref07_Key.mono _ _ _
   | exact clavigerref07_Mix.mono _ _
   | exact clavigerref07_Shift.mono _ _
   | exact LeO.none _
   | refine LeO.ite ?_ ?_
   | refine LeO.bind ?_ (fun _ => ?_)
def clavigerref07_Unshift.f (k : Nat) (a0 : ByteArray) : Option (ByteArray) := (clavigerref07_moved.f k a0 3).bind fun t377 => (some t377)
theorem clavigerref07_Unshift.mono : ∀ a0 k, LeO (clavigerref07_Unshift.f k a0) (clavigerref07_Unshift.f (k + 1) a0) := by
 intro a0 k
 unfold clavigerref07_Unshift.f
 repeat' first
   | (with_reducible exact clavigerref07_moved.mono _ _ _)
   | (with_reducible exact LeO.refl _)
   | (with_reducible exact LeO.none _)
   | (with_reducible refine LeO.ite ?_ ?_)
   | (with_reducible refine LeO.bind ?_ (fun _ => ?_))
   | exact clavigerref07_moved.mono _ _ _
   | exact LeO.none _
   | refine LeO.ite ?_ ?_
   | refine LeO.bind ?_ (fun _ => ?_)
def clavigerref07_Unmix.f (k : Nat) (a0 : ByteArray) : Option (ByteArray) := (clavigerref07_mixed.f k a0 (⟨#[14, 11, 13, 9]⟩ : ByteArray)).bind fun t378 => (some t378)
theorem clavigerref07_Unmix.mono : ∀ a0 k, LeO (clavigerref07_Unmix.f k a0) (clavigerref07_Unmix.f (k + 1) a0) := by
 intro a0 k
 unfold clavigerref07_Unmix.f
 repeat' first
   | (with_reducible exact clavigerref07_mixed.mono _ _ _)
   | (with_reducible exact LeO.refl _)
   | (with_reducible exact LeO.none _)
   | (with_reducible refine LeO.ite ?_ ?_)
   | (with_reducible refine LeO.bind ?_ (fun _ => ?_))
   | exact clavigerref07_mixed.mono _ _ _
   | exact LeO.none _
   | refine LeO.ite ?_ ?_
   | refine LeO.bind ?_ (fun _ => ?_)
def clavigerref07_Undo.j0 : Nat → ByteArray → ByteArray → Bool → Bool → Option (ByteArray)
 | 0, _, _, _, _ => none
 | k + 1, x0, x1, x2, x15 => if x15 = true then (some (⟨#[]⟩ : ByteArray)) else ((clavigerref07_Key.f k x0 x1).bind fun t381 => (if x2 = true then ((clavigerref07_Unshift.f k t381).bind fun t382 => ((clavigerref06_Backs.f k t382).bind fun t383 => (some t383))) else ((clavigerref07_Unmix.f k t381).bind fun t384 => ((clavigerref07_Unshift.f k t384).bind fun t385 => ((clavigerref06_Backs.f k t385).bind fun t386 => (some t386))))))
def clavigerref07_Undo.f (k : Nat) (a0 : ByteArray) (a1 : ByteArray) (a2 : Bool) : Option (ByteArray) := (clavigerref07_fits.f a0).bind fun t379 => (if t379 = true then ((clavigerref07_fits.f a1).bind fun t380 => (clavigerref07_Undo.j0 k a0 a1 a2 (!t380))) else (clavigerref07_Undo.j0 k a0 a1 a2 true))
theorem clavigerref07_Undo.mono_l : ∀ k, (∀ y0 y1 y2 y3, LeO (clavigerref07_Undo.j0 k y0 y1 y2 y3) (clavigerref07_Undo.j0 (k + 1) y0 y1 y2 y3))
 | 0 => fun _ _ _ _ r h => by simp [clavigerref07_Undo.j0] at h
 | k + 1 => by
  have ih0 := clavigerref07_Undo.mono_l k
  ·intro y0 y1 y2 y3
   unfold clavigerref07_Undo.j0
   repeat' first
   | (with_reducible exact ih0 _ _ _ _)
   | (with_reducible exact clavigerref06_Backs.mono _ _)
   | (with_reducible exact clavigerref07_Key.mono _ _ _)
   | (with_reducible exact clavigerref07_Unmix.mono _ _)
   | (with_reducible exact clavigerref07_Unshift.mono _ _)
   | (with_reducible exact LeO.refl _)
   | (with_reducible exact LeO.none _)
   | (with_reducible refine LeO.ite ?_ ?_)
   | (with_reducible refine LeO.bind ?_ (fun _ => ?_))
   | exact ih0 _ _ _ _
   | exact clavigerref06_Backs.mono _ _
   | exact clavigerref07_Key.mono _ _ _
   | exact clavigerref07_Unmix.mono _ _
   | exact clavigerref07_Unshift.mono _ _
   | exact LeO.none _
   | refine LeO.ite ?_ ?_
   | refine LeO.bind ?_ (fun _ => ?_)
theorem clavigerref07_Undo.mono : ∀ a0 a1 a2 k, LeO (clavigerref07_Undo.f k a0 a1 a2) (clavigerref07_Undo.f (k + 1) a0 a1 a2) := by
 intro a0 a1 a2 k
 have ih0 := clavigerref07_Undo.mono_l k
 unfold clavigerref07_Undo.f
 repeat' first
   | (with_reducible exact ih0 _ _ _ _)
   | (with_reducible exact clavigerref06_Backs.mono _ _)
   | (with_reducible exact clavigerref07_Key.mono _ _ _)
   | (with_reducible exact clavigerref07_Unmix.mono _ _)
   | (with_reducible exact clavigerref07_Unshift.mono _ _)
   | (with_reducible exact LeO.refl _)
   | (with_reducible exact LeO.none _)
   | (with_reducible refine LeO.ite ?_ ?_)
   | (with_reducible refine LeO.bind ?_ (fun _ => ?_))
   | exact ih0 _ _ _ _
   | exact clavigerref06_Backs.mono _ _
   | exact clavigerref07_Key.mono _ _ _
   | exact clavigerref07_Unmix.mono _ _
   | exact clavigerref07_Unshift.mono _ _
   | exact LeO.none _
   | refine LeO.ite ?_ ?_
   | refine LeO.bind ?_ (fun _ => ?_)
end Go.Proofs.Ytokkhnjedmlbhaa.Pr
end
section
namespace Go.Proofs.Ytokkhnjedmlbhaa.M
open Go.RowKit Go.Proofs.Ytokkhnjedmlbhaa.Pr Go.Proofs.YtokkhnjedmlbhaaW.PrintWords Go.Proofs.YtokkhnjedmlbhaaW.PrintLast Go.Proofs.YtokkhnjedmlbhaaW.PrintMore Go.Proofs.YtokkhnjedmlbhaaGf
set_option linter.unusedSimpArgs false
/-- The text of sixteen bytes. -/
def T (g : Nat → Nat) : ByteArray := mkB ((List.range 16).map g)
theorem emptyB : (⟨#[]⟩ : ByteArray) = mkB [] := rfl
def xorT (a b : ByteArray) : ByteArray := mkB ((List.range (min a.size b.size)).map fun i => bb a i ^^^ bb b i)
theorem xorT_size (a b : ByteArray) : (xorT a b).size = min a.size b.size := by unfold xorT; rw [mkB_size]; simp
/-- The sum of the bits in which two numbers part. -/
def xs (x y : Nat) : Nat → Nat
  | 0 => 0
  | k + 1 => xs x y k + (if x / 2 ^ k % 2 = y / 2 ^ k % 2 then 0 else 2 ^ k)
theorem xs_mod (x y k : Nat) : xs x y k = (x ^^^ y) % 2 ^ k := by
  induction k with
  | zero => simp [xs, Nat.mod_one]
  | succ k ih =>
    simp only [xs]
    rw [ih, Nat.mod_pow_succ]
    congr 1
    have h := bit_xor x y k
    have h1 : x / 2 ^ k % 2 < 2 := Nat.mod_lt _ (by omega)
    have h2 : y / 2 ^ k % 2 < 2 := Nat.mod_lt _ (by omega)
    have h3 : (x ^^^ y) / 2 ^ k % 2 < 2 := Nat.mod_lt _ (by omega)
    by_cases e : x / 2 ^ k % 2 = y / 2 ^ k % 2
    · rw [if_pos e]
      have : ¬ (x ^^^ y) / 2 ^ k % 2 = 1 := by rw [h, e]; simp
      rw [show (x ^^^ y) / 2 ^ k % 2 = 0 by omega, Nat.mul_zero]
    · rw [if_neg e]
      have : (x ^^^ y) / 2 ^ k % 2 = 1 := by rw [h]; omega
      rw [this, Nat.mul_one]
theorem xs_lt (x y k : Nat) : xs x y k < 2 ^ k := by rw [xs_mod]; exact Nat.mod_lt _ (Nat.two_pow_pos k)
theorem tdiv_c (x j : Nat) (hx : x < 256) : wrap64 (Int.tdiv (x : Int) ((2 ^ j : Nat) : Int)) = ((x / 2 ^ j : Nat) : Int) := by
  rw [Int.tdiv_eq_ediv_of_nonneg (by omega), ← Int.natCast_ediv]
  have : x / 2 ^ j ≤ x := Nat.div_le_self _ _
  generalize x / 2 ^ j = q at *
  unfold wrap64; omega
theorem sNs1 {n : Nat} : strOfNums [((n : Nat) : Int)] = mkB [n] := strOfNums_cast [n]
theorem rxor1 (a b out : ByteArray) (i x y : Nat) (hx : x < 256) (hy : y < 256) (ho : out.size ≤ 9000000000000000000) (hi : i < 9000000000000000000) {res : ByteArray} (h : Ev (fun k => clavigerref01_Xor.l0 k a b (out ++ mkB [x ^^^ y]) ((i + 1 : Nat) : Int)) res) (d : Nat) :
    ∀ j, 8 - j = d → j ≤ 8 → Ev (fun k => clavigerref01_Xor.l1 k a b out (i : Int) (x : Int) (y : Int) ((xs x y j : Nat) : Int) ((2 ^ j : Nat) : Int)) res := by
  induction d with
  | zero =>
    intro j hd hj
    obtain rfl : j = 8 := by omega
    have hs := xs_lt x y 8
    have e : xs x y 8 = x ^^^ y := by rw [xs_mod]; exact Nat.mod_eq_of_lt (xor_lt hx hy)
    refine Ev.step (f := fun k => clavigerref01_Xor.l0 k a b (out ++ mkB [x ^^^ y]) ((i + 1 : Nat) : Int)) (fun k => ?_) h
    simp only [clavigerref01_Xor.l1]
    rw [if_neg (by omega)]
    simp only [Option.bind_some]
    rw [show (((xs x y 8 : Nat) : Int) % 256) = ((x ^^^ y : Nat) : Int) by rw [← e]; omega, sNs1, mkB_size, if_pos (by simp; omega), show wrap64 ((i : Int) + 1) = ((i + 1 : Nat) : Int) by unfold wrap64; omega]
  | succ d ih =>
    intro j hd hj
    have hs := xs_lt x y j
    have hp := pow_le8 (show j < 8 by omega)
    have hp0 := Nat.two_pow_pos j
    have hi' := ih (j + 1) (by omega) (by omega)
    refine Ev.step (fun k => ?_) hi'
    simp only [clavigerref01_Xor.l1]
    rw [if_pos (by omega), if_neg (by omega), tdiv_c x j hx, tdiv_c y j hy, tmod2, tmod2, show wrap64 (2 * ((2 ^ j : Nat) : Int)) = ((2 ^ (j + 1) : Nat) : Int) by rw [Nat.pow_succ]; unfold wrap64; omega]
    simp only [xs]
    by_cases e : x / 2 ^ j % 2 = y / 2 ^ j % 2
    · rw [if_pos (by omega), if_pos e]; rfl
    · rw [if_neg (by omega), if_neg e, show wrap64 (((xs x y j : Nat) : Int) + ((2 ^ j : Nat) : Int)) = ((xs x y j + 2 ^ j : Nat) : Int) by unfold wrap64; omega]
theorem rng_snoc (f : Nat → Nat) (n : Nat) : mkB ((List.range n).map f) ++ mkB [f n] = mkB ((List.range (n + 1)).map f) := by
  rw [mkB_append, List.range_succ, List.map_append]; rfl
theorem rxorL (a b : ByteArray) (ha : a.size ≤ 140737488355328) (hb : b.size ≤ 140737488355328) (d : Nat) : ∀ i, min a.size b.size - i = d → i ≤ min a.size b.size →
    Ev (fun k => clavigerref01_Xor.l0 k a b (mkB ((List.range i).map fun i => bb a i ^^^ bb b i)) (i : Int)) (xorT a b) := by
  induction d with
  | zero =>
    intro i hd hi
    obtain rfl : i = min a.size b.size := by omega
    by_cases h : a.size ≤ b.size
    · refine Ev.step (f := fun k => clavigerref01_Xor.j1 k a b (xorT a b) ((min a.size b.size : Nat) : Int) false) (fun k => by simp only [clavigerref01_Xor.l0]; rw [if_neg (by omega)]; rfl) ?_
      exact Ev.step (f := fun _ => some (xorT a b)) (fun k => by simp only [clavigerref01_Xor.j1]; rw [if_neg (by simp)]) (Ev.now _)
    · refine Ev.step (f := fun k => clavigerref01_Xor.j1 k a b (xorT a b) ((min a.size b.size : Nat) : Int) false) (fun k => by simp only [clavigerref01_Xor.l0]; rw [if_pos (by omega), decide_eq_false (by omega)]; rfl) ?_
      exact Ev.step (f := fun _ => some (xorT a b)) (fun k => by simp only [clavigerref01_Xor.j1]; rw [if_neg (by simp)]) (Ev.now _)
  | succ d ih =>
    intro i hd hi
    have hh := ih (i + 1) (by omega) (by omega)
    rw [← rng_snoc (fun i => bb a i ^^^ bb b i)] at hh
    have h1 := rxor1 a b (mkB ((List.range i).map fun i => bb a i ^^^ bb b i)) i (bb a i) (bb b i) (bb_lt a i) (bb_lt b i) (by rw [mkB_size]; simp; omega) (by omega) hh 8 0 (by omega) (by omega)
    refine Ev.step (f := fun k => clavigerref01_Xor.j1 k a b (mkB ((List.range i).map fun i => bb a i ^^^ bb b i)) (i : Int) true) (fun k => by simp only [clavigerref01_Xor.l0]; rw [if_pos (by omega), decide_eq_true (by omega)]) ?_
    refine Ev.step (fun k => ?_) h1
    simp only [clavigerref01_Xor.j1]
    rw [if_pos True.intro, if_pos (by omega), if_pos (by omega), if_pos (by omega), bt_bb, bt_bb, wrap_id (by omega) (by have := bb_lt a i; omega), wrap_id (by omega) (by have := bb_lt b i; omega)]
    rfl
theorem rxor_c (a b : ByteArray) (ha : a.size ≤ 140737488355328) (hb : b.size ≤ 140737488355328) : Ev (fun k => clavigerref01_Xor.f k a b) (xorT a b) := rxorL a b ha hb _ 0 rfl (by omega)

def sbT (s : ByteArray) : ByteArray := mkB ((nb s).map sN)
theorem ms_size (f : Nat → Nat) (s : ByteArray) : (mkB ((nb s).map f)).size = s.size := by rw [mkB_size, List.length_map, nb_length]
theorem sb_size (s : ByteArray) : (sbT s).size = s.size := ms_size sN s
end Go.Proofs.Ytokkhnjedmlbhaa.M
end
section
namespace Go.Proofs.Ytokkhnjedmlbhaa.M
open Go.RowKit Go.Proofs.Ytokkhnjedmlbhaa.Pr Go.Proofs.YtokkhnjedmlbhaaW.PrintWords Go.Proofs.YtokkhnjedmlbhaaW.PrintLast Go.Proofs.YtokkhnjedmlbhaaW.PrintMore Go.Proofs.YtokkhnjedmlbhaaGf
set_option linter.unusedSimpArgs false
/-- The four bytes of a word. -/
def wL (w : Nat) : List Nat := [w / 16777216 % 256, w / 65536 % 256, w / 256 % 256, w % 256]
def wB (w : Nat) : ByteArray := mkB (wL w)
theorem isB_wL (w : Nat) : isB (wL w) := by
  intro x hx
  simp only [wL, List.mem_cons, List.not_mem_nil, or_false] at hx
  rcases hx with rfl | rfl | rfl | rfl <;> exact Nat.mod_lt _ (by omega)
theorem wB_size (w : Nat) : (wB w).size = 4 := by unfold wB; rw [mkB_size]; rfl
theorem bb_mkB {l : List Nat} (h : isB l) (i : Nat) : bb (mkB l) i = l.getD i 0 := by rw [bb_nb, nb_mkB h]
theorem xor_div_mod (u v k : Nat) : (u ^^^ v) / 2 ^ k % 2 ^ 8 = (u / 2 ^ k % 2 ^ 8) ^^^ (v / 2 ^ k % 2 ^ 8) := by
  rw [← Nat.shiftRight_eq_div_pow, ← Nat.shiftRight_eq_div_pow, ← Nat.shiftRight_eq_div_pow, Nat.shiftRight_xor_distrib, Nat.xor_mod_two_pow]
theorem xorT_4 {a b : ByteArray} (ha : a.size = 4) (hb : b.size = 4) : xorT a b = mkB [bb a 0 ^^^ bb b 0, bb a 1 ^^^ bb b 1, bb a 2 ^^^ bb b 2, bb a 3 ^^^ bb b 3] := by
  unfold xorT; rw [ha, hb]; rfl
theorem wB_xor (u v : Nat) : xorT (wB u) (wB v) = wB (u ^^^ v) := by
  rw [xorT_4 (wB_size u) (wB_size v)]
  unfold wB
  rw [bb_mkB (isB_wL u), bb_mkB (isB_wL u), bb_mkB (isB_wL u), bb_mkB (isB_wL u), bb_mkB (isB_wL v), bb_mkB (isB_wL v), bb_mkB (isB_wL v), bb_mkB (isB_wL v)]
  have h0 := xor_div_mod u v 24
  have h1 := xor_div_mod u v 16
  have h2 := xor_div_mod u v 8
  have h3 := xor_div_mod u v 0
  simp only [Nat.reducePow, Nat.div_one] at h0 h1 h2 h3
  simp only [wL, h0, h1, h2, h3]
  rfl
/-- A word, turned by a byte. -/
def rotW (u : Nat) : Nat := u % 16777216 * 256 + u / 16777216
theorem rotW_lt {u : Nat} (h : u < 4294967296) : rotW u < 4294967296 := by unfold rotW; omega
theorem or_add {a b k : Nat} (h : b < 2 ^ k) : 2 ^ k * a ||| b = 2 ^ k * a + b := (Nat.two_pow_add_eq_or_of_lt h a).symm
theorem rotw_n {u : Nat} (h : u < 4294967296) : rotw (u : Int) = ((rotW u : Nat) : Int) := by
  unfold rotw
  rw [show ((u : Int) * 256 % 4294967296) = ((2 ^ 8 * (u % 16777216) : Nat) : Int) by omega, show ((u : Int) / 16777216) = ((u / 16777216 : Nat) : Int) by omega, u32_or_nat _ _ (by omega) (by omega), or_add (by omega)]
  unfold rotW
  congr 1
  omega
theorem wB_rot {u : Nat} (h : u < 4294967296) : wB (rotW u) = (wB u).extract 1 4 ++ (wB u).extract 0 1 := by
  rw [extract_nb, extract_nb, mkB_append]
  unfold wB
  rw [nb_mkB (isB_wL u)]
  congr 1
  simp only [wL, rotW, List.take_succ_cons, List.take_zero, List.drop_succ_cons, List.drop_zero, List.cons_append, List.nil_append, List.cons.injEq, and_true]
  obtain ⟨a, b, c, d, ha, hb, hc, hd, rfl⟩ : ∃ a b c d : Nat, a < 256 ∧ b < 256 ∧ c < 256 ∧ d < 256 ∧ u = 16777216 * a + 65536 * b + 256 * c + d :=
    ⟨u / 16777216, u / 65536 % 256, u / 256 % 256, u % 256, by omega, by omega, by omega, by omega, by omega⟩
  have e1 : (16777216 * a + 65536 * b + 256 * c + d) % 16777216 = 65536 * b + 256 * c + d := by omega
  have e2 : (16777216 * a + 65536 * b + 256 * c + d) / 16777216 = a := by omega
  have e3 : (16777216 * a + 65536 * b + 256 * c + d) / 65536 = 256 * a + b := by omega
  have e4 : (16777216 * a + 65536 * b + 256 * c + d) / 256 = 65536 * a + 256 * b + c := by omega
  have e5 : ((65536 * b + 256 * c + d) * 256 + a) / 16777216 = b := by omega
  have e6 : ((65536 * b + 256 * c + d) * 256 + a) / 65536 = 256 * b + c := by omega
  have e7 : ((65536 * b + 256 * c + d) * 256 + a) / 256 = 65536 * b + 256 * c + d := by omega
  rw [e1, e2, e3, e4, e5, e6, e7]
  refine ⟨by omega, by omega, by omega, by omega⟩
def subWN (u : Nat) : Nat := sN (u / 16777216 % 256) * 16777216 + sN (u / 65536 % 256) * 65536 + sN (u / 256 % 256) * 256 + sN (u % 256)
theorem subWN_lt (u : Nat) : subWN u < 4294967296 := by
  have h0 := sN_lt (u / 16777216 % 256); have h1 := sN_lt (u / 65536 % 256); have h2 := sN_lt (u / 256 % 256); have h3 := sN_lt (u % 256)
  unfold subWN; omega
theorem wordI_n {a b c d : Nat} (ha : a < 256) (hb : b < 256) (hc : c < 256) (hd : d < 256) : wordI (a : Int) (b : Int) (c : Int) (d : Int) = ((a * 16777216 + b * 65536 + c * 256 + d : Nat) : Int) := by
  unfold wordI
  rw [show ((a : Int) % 4294967296 * 16777216 % 4294967296) = ((2 ^ 24 * a : Nat) : Int) by omega, show ((b : Int) % 4294967296 * 65536 % 4294967296) = ((2 ^ 16 * b : Nat) : Int) by omega, show ((c : Int) % 4294967296 * 256 % 4294967296) = ((2 ^ 8 * c : Nat) : Int) by omega, show ((d : Int) % 4294967296) = ((d : Nat) : Int) by omega]
  rw [u32_or_nat _ _ (by omega) (by omega), or_add (by omega), show 2 ^ 24 * a + 2 ^ 16 * b = 2 ^ 16 * (2 ^ 8 * a + b) by omega, u32_or_nat _ _ (by omega) (by omega), or_add (by omega), show 2 ^ 16 * (2 ^ 8 * a + b) + 2 ^ 8 * c = 2 ^ 8 * (2 ^ 16 * a + 2 ^ 8 * b + c) by omega, u32_or_nat _ _ (by omega) (by omega), or_add (by omega)]
  congr 1
  omega
theorem bt_sT {i : Nat} (hi : i < 256) : bt (mkB sT) (i : Int) = ((sN i : Nat) : Int) := by
  rw [bt_bb, bb_mkB (show isB sT from isB_map sN_lt _)]
  simp [sT, hi]
theorem subW_n {u : Nat} (h : u < 4294967296) : subW (mkB sT) (u : Int) = ((subWN u : Nat) : Int) := by
  unfold subW
  rw [show ((u : Int) / 16777216) = ((u / 16777216 % 256 : Nat) : Int) by omega, show ((u : Int) / 65536 % 256) = ((u / 65536 % 256 : Nat) : Int) by omega, show ((u : Int) / 256 % 256) = ((u / 256 % 256 : Nat) : Int) by omega, show ((u : Int) % 256) = ((u % 256 : Nat) : Int) by omega]
  rw [bt_sT (by omega), bt_sT (by omega), bt_sT (by omega), bt_sT (by omega), wordI_n (sN_lt _) (sN_lt _) (sN_lt _) (sN_lt _)]
  rfl
theorem wB_sub (u : Nat) : wB (subWN u) = sbT (wB u) := by
  unfold wB sbT
  rw [nb_mkB (isB_wL u)]
  congr 1
  have h0 := sN_lt (u / 16777216 % 256); have h1 := sN_lt (u / 65536 % 256); have h2 := sN_lt (u / 256 % 256); have h3 := sN_lt (u % 256)
  simp only [wL, subWN, List.map_cons, List.map_nil, List.cons.injEq, and_true]
  generalize sN (u / 16777216 % 256) = a at *; generalize sN (u / 65536 % 256) = b at *; generalize sN (u / 256 % 256) = c at *; generalize sN (u % 256) = d at *
  refine ⟨by omega, by omega, by omega, by omega⟩
theorem wB_top {c : Nat} (hc : c < 256) : wB (c * 16777216) = mkB [c, 0, 0, 0] := by
  unfold wB wL
  congr 1
  simp only [List.cons.injEq, and_true]
  refine ⟨by omega, by omega, by omega, by omega⟩

/-- The word that comes behind: out of the one n places ahead and the last one. -/
def stepB (n i : Nat) (q t : ByteArray) : ByteArray :=
  if i % n = 0 then xorT q (xorT (sbT (t.extract 1 4 ++ t.extract 0 1)) (mkB [pw 2 (i / n - 1), 0, 0, 0])) else if n = 8 ∧ i % 8 = 4 then xorT q (sbT t) else xorT q t
def goB (n : Nat) : Nat → Nat → List ByteArray → List ByteArray
  | 0, _, ws => ws
  | d + 1, i, ws => goB n d (i + 1) (ws ++ [stepB n i (ws.getD (i - n) ByteArray.empty) (ws.getD (i - 1) ByteArray.empty)])
/-- m pieces of n bytes. -/
def pcs (n m : Nat) (s : ByteArray) : List ByteArray := (List.range m).map fun i => s.extract (n * i) (n * i + n)
def wordsB (key : ByteArray) : List ByteArray := goB (key.size / 4) (3 * (key.size / 4) + 28) (key.size / 4) (pcs 4 (key.size / 4) key)
/-- The words as texts and as numbers go together. -/
theorem getD_map_wB (us : List Nat) {j : Nat} (hj : j < us.length) : (us.map wB).getD j ByteArray.empty = wB (us.getD j 0) := by
  simp [List.getD_eq_getElem?_getD, hj]
theorem rd_cast (us : List Nat) (j : Nat) : rd (us.map Int.ofNat) (j : Int) = ((us.getD j 0 : Nat) : Int) := by
  unfold rd
  by_cases h : j < us.length
  · simp [List.getD_eq_getElem?_getD, h]
  · simp [List.getD_eq_getElem?_getD, h]
theorem getD_lt {us : List Nat} (h : ∀ u ∈ us, u < 4294967296) (j : Nat) : us.getD j 0 < 4294967296 := by
  rw [List.getD_eq_getElem?_getD]
  by_cases hj : j < us.length
  · rw [List.getElem?_eq_getElem hj]; exact h _ (List.getElem_mem hj)
  · rw [List.getElem?_eq_none (by omega)]; decide
end Go.Proofs.Ytokkhnjedmlbhaa.M
end
