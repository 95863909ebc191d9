-- written by the session's program wip/hp.py over the kit's print; Lean checks it
import Derived.Test.YtokkhnjedmlbhaaZShelf
import Derived.Test.YtokkhnjedmlbhaaZAesD
import Derived.Test.YtokkhnjedmlbhaaZPrg01x
namespace Go.Proofs.Ytokkhnjedmlbhaa.Pr
open Go.RowKit Go.Proofs.YtokkhnjedmlbhaaW.PrintWords Go.Proofs.YtokkhnjedmlbhaaW.PrintLast Go.Proofs.YtokkhnjedmlbhaaW.PrintMore
attribute [local go_sem] max2_int min2_int max_two min_two max_three min_three max_four min_four   -- for this text's walks alone
set_option linter.unusedVariables false
set_option linter.unusedSimpArgs false

def clavigerref08_Rounds.f (a0 : Int) : Option (Int) := if a0 = 16 then (some (wrap64 ((wrap64 (Int.tdiv a0 4)) + 6))) else (if a0 = 24 then (some (wrap64 ((wrap64 (Int.tdiv a0 4)) + 6))) else (if a0 = 32 then (some (wrap64 ((wrap64 (Int.tdiv a0 4)) + 6))) else (some 0)))
def clavigerref08_Constant.f (k : Nat) (a0 : Int) : Option (Int) := if a0 < 1 then (some 0) else (if a0 > 255 then (some 0) else ((clavigerref05_Pow.f k 2 (wrap64 (a0 - 1))).bind fun t1 => (some t1)))
theorem clavigerref08_Constant.mono : ∀ a0 k, LeO (clavigerref08_Constant.f k a0) (clavigerref08_Constant.f (k + 1) a0) := by
 intro a0 k
 unfold clavigerref08_Constant.f
 repeat' first
   | (with_reducible exact clavigerref05_Pow.mono _ _ _)
   | (with_reducible exact LeO.refl _)
   | (with_reducible exact LeO.none _)
   | (with_reducible refine LeO.ite ?_ ?_)
   | (with_reducible refine LeO.bind ?_ (fun _ => ?_))
mutual
def clavigerref08_Words.l0 : Nat → ByteArray → List ByteArray → Int → Int → Option (List ByteArray)
 | 0, _, _, _, _ => none
 | k + 1, x0, x3, x4, x5 => (clavigerref08_Rounds.f (x0.size : Int)).bind fun t1 => (if x5 < (wrap64 ((wrap64 (4 * t1)) + 4)) then (if x5 < x4 then (if 0 ≤ (wrap64 (4 * x5)) then (if (wrap64 (4 * x5)) ≤ (wrap64 ((wrap64 (4 * x5)) + 4)) then (if (wrap64 ((wrap64 (4 * x5)) + 4)) ≤ (x0.size : Int) then (if x3.length < 8796093022208 then (clavigerref08_Words.l0 k x0 (x3 ++ [x0.extract ((wrap64 (4 * x5)) : Int).toNat ((wrap64 ((wrap64 (4 * x5)) + 4)) : Int).toNat]) x4 (wrap64 (x5 + 1))) else (none)) else (none)) else (none)) else (none)) else (if 0 ≤ (wrap64 (x5 - 1)) then (if (wrap64 (x5 - 1)) < (x3.length : Int) then (if x4 = 0 then (none) else (if (Int.tmod x5 x4) = 0 then (if 1 ≤ 4 then (if 4 ≤ ((rdOf ByteArray.empty x3 (wrap64 (x5 - 1))).size : Int) then (if 0 ≤ 1 then (if 1 ≤ ((rdOf ByteArray.empty x3 (wrap64 (x5 - 1))).size : Int) then (if ((rdOf ByteArray.empty x3 (wrap64 (x5 - 1))).extract 1 4).size + ((rdOf ByteArray.empty x3 (wrap64 (x5 - 1))).extract 0 1).size ≤ 9223372036854775807 then ((clavigerref06_Subs.f k (((rdOf ByteArray.empty x3 (wrap64 (x5 - 1))).extract 1 4) ++ ((rdOf ByteArray.empty x3 (wrap64 (x5 - 1))).extract 0 1))).bind fun t2 => ((clavigerref08_Constant.f k (wrap64 (Int.tdiv x5 x4))).bind fun t3 => ((clavigerref01_Xor.f k t2 (strOfNums (([t3, 0, 0, 0] : List Int)))).bind fun t4 => (if 0 ≤ (wrap64 (x5 - x4)) then (if (wrap64 (x5 - x4)) < (x3.length : Int) then ((clavigerref01_Xor.f k (rdOf ByteArray.empty x3 (wrap64 (x5 - x4))) t4).bind fun t5 => (if x3.length < 8796093022208 then (clavigerref08_Words.l0 k x0 (x3 ++ [t5]) x4 (wrap64 (x5 + 1))) else (none))) else (none)) else (none))))) else (none)) else (none)) else (none)) else (none)) else (none)) else (if x4 = 8 then (clavigerref08_Words.j1 k x0 x3 x4 x5 (rdOf ByteArray.empty x3 (wrap64 (x5 - 1))) ((Int.tmod x5 8) == 4)) else (clavigerref08_Words.j1 k x0 x3 x4 x5 (rdOf ByteArray.empty x3 (wrap64 (x5 - 1))) false)))) else (none)) else (none))) else (some x3))
def clavigerref08_Words.j1 : Nat → ByteArray → List ByteArray → Int → Int → ByteArray → Bool → Option (List ByteArray)
 | 0, _, _, _, _, _, _ => none
 | k + 1, x0, x3, x4, x5, x6, x66 => if x66 = true then ((clavigerref06_Subs.f k x6).bind fun t6 => (if 0 ≤ (wrap64 (x5 - x4)) then (if (wrap64 (x5 - x4)) < (x3.length : Int) then ((clavigerref01_Xor.f k (rdOf ByteArray.empty x3 (wrap64 (x5 - x4))) t6).bind fun t7 => (if x3.length < 8796093022208 then (clavigerref08_Words.l0 k x0 (x3 ++ [t7]) x4 (wrap64 (x5 + 1))) else (none))) else (none)) else (none))) else (if 0 ≤ (wrap64 (x5 - x4)) then (if (wrap64 (x5 - x4)) < (x3.length : Int) then ((clavigerref01_Xor.f k (rdOf ByteArray.empty x3 (wrap64 (x5 - x4))) x6).bind fun t8 => (if x3.length < 8796093022208 then (clavigerref08_Words.l0 k x0 (x3 ++ [t8]) x4 (wrap64 (x5 + 1))) else (none))) else (none)) else (none))
end
def clavigerref08_Words.f (k : Nat) (a0 : ByteArray) : Option (List ByteArray) := (clavigerref08_Rounds.f (a0.size : Int)).bind fun t9 => (if t9 = 0 then (some ([] : List ByteArray)) else (clavigerref08_Words.l0 k a0 ([] : List ByteArray) (wrap64 ((a0.size : Int) / 4)) 0))
theorem clavigerref08_Words.mono_l : ∀ k, (∀ y10 y11 y12 y13, LeO (clavigerref08_Words.l0 k y10 y11 y12 y13) (clavigerref08_Words.l0 (k + 1) y10 y11 y12 y13)) ∧ (∀ y10 y11 y12 y13 y14 y15, LeO (clavigerref08_Words.j1 k y10 y11 y12 y13 y14 y15) (clavigerref08_Words.j1 (k + 1) y10 y11 y12 y13 y14 y15))
 | 0 => ⟨fun _ _ _ _ r h => by simp [clavigerref08_Words.l0] at h, fun _ _ _ _ _ _ r h => by simp [clavigerref08_Words.j1] at h⟩
 | k + 1 => by
  obtain ⟨ih0, ih1⟩ := clavigerref08_Words.mono_l k
  refine ⟨?_, ?_⟩
  ·intro y10 y11 y12 y13
   unfold clavigerref08_Words.l0
   repeat' first
   | (with_reducible exact ih0 _ _ _ _)
   | (with_reducible exact ih1 _ _ _ _ _ _)
   | (with_reducible exact clavigerref01_Xor.mono _ _ _)
   | (with_reducible exact clavigerref06_Subs.mono _ _)
   | (with_reducible exact clavigerref08_Constant.mono _ _)
   | (with_reducible exact LeO.refl _)
   | (with_reducible exact LeO.none _)
   | (with_reducible refine LeO.ite ?_ ?_)
   | (with_reducible refine LeO.bind ?_ (fun _ => ?_))
  ·intro y10 y11 y12 y13 y14 y15
   unfold clavigerref08_Words.j1
   repeat' first
   | (with_reducible exact ih0 _ _ _ _)
   | (with_reducible exact ih1 _ _ _ _ _ _)
   | (with_reducible exact clavigerref01_Xor.mono _ _ _)
   | (with_reducible exact clavigerref06_Subs.mono _ _)
   | (with_reducible exact clavigerref08_Constant.mono _ _)
   | (with_reducible exact LeO.refl _)
   | (with_reducible exact LeO.none _)
   | (with_reducible refine LeO.ite ?_ ?_)
   | (with_reducible refine LeO.bind ?_ (fun _ => ?_))
theorem clavigerref08_Words.mono : ∀ a0 k, LeO (clavigerref08_Words.f k a0) (clavigerref08_Words.f (k + 1) a0) := by
 intro a0 k
 obtain ⟨ih0, ih1⟩ := clavigerref08_Words.mono_l k
 unfold clavigerref08_Words.f
 repeat' first
   | (with_reducible exact ih0 _ _ _ _)
   | (with_reducible exact ih1 _ _ _ _ _ _)
   | (with_reducible exact clavigerref01_Xor.mono _ _ _)
   | (with_reducible exact clavigerref06_Subs.mono _ _)
   | (with_reducible exact clavigerref08_Constant.mono _ _)
   | (with_reducible exact LeO.refl _)
   | (with_reducible exact LeO.none _)
   | (with_reducible refine LeO.ite ?_ ?_)
   | (with_reducible refine LeO.bind ?_ (fun _ => ?_))
def clavigerref08_Keys.l0 : Nat → List ByteArray → List ByteArray → Int → Option (List ByteArray × Int)
 | 0, _, _, _ => none
 | k + 1, x4, x5, x6 => if x6 < (x4.length : Int) then (if 0 ≤ x6 then (if 0 ≤ (wrap64 (x6 + 1)) then (if (wrap64 (x6 + 1)) < (x4.length : Int) then (if (rdOf ByteArray.empty x4 x6).size + (rdOf ByteArray.empty x4 (wrap64 (x6 + 1))).size ≤ 9223372036854775807 then (if 0 ≤ (wrap64 (x6 + 2)) then (if (wrap64 (x6 + 2)) < (x4.length : Int) then (if ((rdOf ByteArray.empty x4 x6) ++ (rdOf ByteArray.empty x4 (wrap64 (x6 + 1)))).size + (rdOf ByteArray.empty x4 (wrap64 (x6 + 2))).size ≤ 9223372036854775807 then (if 0 ≤ (wrap64 (x6 + 3)) then (if (wrap64 (x6 + 3)) < (x4.length : Int) then (if (((rdOf ByteArray.empty x4 x6) ++ (rdOf ByteArray.empty x4 (wrap64 (x6 + 1)))) ++ (rdOf ByteArray.empty x4 (wrap64 (x6 + 2)))).size + (rdOf ByteArray.empty x4 (wrap64 (x6 + 3))).size ≤ 9223372036854775807 then (if x5.length < 8796093022208 then (clavigerref08_Keys.l0 k x4 (x5 ++ [(((rdOf ByteArray.empty x4 x6) ++ (rdOf ByteArray.empty x4 (wrap64 (x6 + 1)))) ++ (rdOf ByteArray.empty x4 (wrap64 (x6 + 2)))) ++ (rdOf ByteArray.empty x4 (wrap64 (x6 + 3)))]) (wrap64 (x6 + 4))) else (none)) else (none)) else (none)) else (none)) else (none)) else (none)) else (none)) else (none)) else (none)) else (none)) else (none)) else (some (x5, 0))
def clavigerref08_Keys.f (k : Nat) (a0 : ByteArray) : Option (List ByteArray × Int) := (clavigerref08_Rounds.f (a0.size : Int)).bind fun t1 => (if t1 = 0 then (some (([] : List ByteArray), 2)) else ((clavigerref08_Words.f k a0).bind fun t2 => (clavigerref08_Keys.l0 k t2 ([] : List ByteArray) 0)))
theorem clavigerref08_Keys.mono_l : ∀ k, (∀ y3 y4 y5, LeO (clavigerref08_Keys.l0 k y3 y4 y5) (clavigerref08_Keys.l0 (k + 1) y3 y4 y5))
 | 0 => fun _ _ _ r h => by simp [clavigerref08_Keys.l0] at h
 | k + 1 => by
  have ih0 := clavigerref08_Keys.mono_l k
  ·intro y3 y4 y5
   unfold clavigerref08_Keys.l0
   repeat' first
   | (with_reducible exact ih0 _ _ _)
   | (with_reducible exact clavigerref08_Words.mono _ _)
   | (with_reducible exact LeO.refl _)
   | (with_reducible exact LeO.none _)
   | (with_reducible refine LeO.ite ?_ ?_)
   | (with_reducible refine LeO.bind ?_ (fun _ => ?_))
theorem clavigerref08_Keys.mono : ∀ a0 k, LeO (clavigerref08_Keys.f k a0) (clavigerref08_Keys.f (k + 1) a0) := by
 intro a0 k
 have ih0 := clavigerref08_Keys.mono_l k
 unfold clavigerref08_Keys.f
 repeat' first
   | (with_reducible exact ih0 _ _ _)
   | (with_reducible exact clavigerref08_Words.mono _ _)
   | (with_reducible exact LeO.refl _)
   | (with_reducible exact LeO.none _)
   | (with_reducible refine LeO.ite ?_ ?_)
   | (with_reducible refine LeO.bind ?_ (fun _ => ?_))
def sched_Rounds.f (a0 : Int) : Option (Int) := if a0 = 16 then (some (wrap64 (6 + (a0 / 4)))) else (if a0 = 24 then (some (wrap64 (6 + (a0 / 4)))) else (if a0 = 32 then (some (wrap64 (6 + (a0 / 4)))) else (some 0)))
set_option maxHeartbeats 8000000 in
set_option maxRecDepth 100000 in
theorem sched_Rounds.calls (a0 : Int) (r : Int) (w : World) (h : sched_Rounds.f a0 = some r) :
  Calls Try.prog 88 #[.int .i64 a0] w fun e w' => e = .returned (.int .i64 r) ∧ Drawn0 w w' := by
 have H : (if a0 = 16 then (some (wrap64 (6 + (a0 / 4)))) else (if a0 = 24 then (some (wrap64 (6 + (a0 / 4)))) else (if a0 = 32 then (some (wrap64 (6 + (a0 / 4)))) else (some 0)))) = some r := h
 clear h
 by_cases c2 : a0 = 16
 ·rw [if_pos c2] at H
  have c2b0 : (a0 == 16) = true := beq_iff_eq.mpr c2
  have c2b1 : (a0 != 16) = false := bne_eq_false_iff_eq.mpr c2
  clear c2
  obtain rfl := Option.some.inj H
  go_enter Try.func88, Try.ntmps88
  go_wp2
  go_ret
  exact ⟨by first | rfl | (simp; done) | (simp [*]; done) | (simp [IntKind.wrap_u8, IntKind.wrap_i64, wrap64]; done), by repeat (first | exact Drawn0.refl _ | apply Drawn0.step)⟩
 ·rw [if_neg c2] at H
  have c2b0 : (a0 == 16) = false := beq_eq_false_iff_ne.mpr c2
  have c2b1 : (a0 != 16) = true := bne_iff_ne.mpr c2
  by_cases c3 : a0 = 24
  ·rw [if_pos c3] at H
   have c3b0 : (a0 == 24) = true := beq_iff_eq.mpr c3
   have c3b1 : (a0 != 24) = false := bne_eq_false_iff_eq.mpr c3
   clear c3
   obtain rfl := Option.some.inj H
   go_enter Try.func88, Try.ntmps88
   go_wp2
   go_ret
   exact ⟨by first | rfl | (simp; done) | (simp [*]; done) | (simp [IntKind.wrap_u8, IntKind.wrap_i64, wrap64]; done), by repeat (first | exact Drawn0.refl _ | apply Drawn0.step)⟩
  ·rw [if_neg c3] at H
   have c3b0 : (a0 == 24) = false := beq_eq_false_iff_ne.mpr c3
   have c3b1 : (a0 != 24) = true := bne_iff_ne.mpr c3
   by_cases c4 : a0 = 32
   ·rw [if_pos c4] at H
    have c4b0 : (a0 == 32) = true := beq_iff_eq.mpr c4
    have c4b1 : (a0 != 32) = false := bne_eq_false_iff_eq.mpr c4
    clear c4
    obtain rfl := Option.some.inj H
    go_enter Try.func88, Try.ntmps88
    go_wp2
    go_ret
    exact ⟨by first | rfl | (simp; done) | (simp [*]; done) | (simp [IntKind.wrap_u8, IntKind.wrap_i64, wrap64]; done), by repeat (first | exact Drawn0.refl _ | apply Drawn0.step)⟩
   ·rw [if_neg c4] at H
    have c4b0 : (a0 == 32) = false := beq_eq_false_iff_ne.mpr c4
    have c4b1 : (a0 != 32) = true := bne_iff_ne.mpr c4
    obtain rfl := Option.some.inj H
    go_enter Try.func88, Try.ntmps88
    go_wp2
    go_ret
    exact ⟨by first | rfl | (simp; done) | (simp [*]; done) | (simp [IntKind.wrap_u8, IntKind.wrap_i64, wrap64]; done), by repeat (first | exact Drawn0.refl _ | apply Drawn0.step)⟩

end Go.Proofs.Ytokkhnjedmlbhaa.Pr
