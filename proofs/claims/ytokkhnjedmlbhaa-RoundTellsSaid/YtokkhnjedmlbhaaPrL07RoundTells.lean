-- written by the session's program wip/hp.py over the kit's print; Lean checks it
import Derived.Test.YtokkhnjedmlbhaaPrk
import Derived.Test.YtokkhnjedmlbhaaPrg07
import Derived.Test.YtokkhnjedmlbhaaPrL07awake
import Derived.Test.YtokkhnjedmlbhaaPrg07r
import Derived.Test.YtokkhnjedmlbhaaRound
namespace Go.Proofs.Ytokkhnjedmlbhaa.Pr
open Go.RowKit Go.Proofs.YtokkhnjedmlbhaaW.PrintWords Go.Proofs.YtokkhnjedmlbhaaW.PrintLast Go.Proofs.YtokkhnjedmlbhaaW.PrintMore
attribute [local go_sem] max2_int min2_int max_two min_two max_three min_three max_four min_four   -- for this text's walks alone
set_option linter.unusedVariables false
set_option linter.unusedSimpArgs false

/-! ### clavigerlaw07_RoundTells: function 12 -/
def clavigerlaw07_RoundTells.j0 : Nat → ByteArray → ByteArray → Bool → Bool → Option (Bool)
 | 0, _, _, _, _ => none
 | k + 1, x0, x1, x2, x14 => if x14 = true then ((clavigerlaw07_awake.f).bind fun t412 => (some t412)) else ((round_Shift.f x0).bind fun t413 => ((clavigerref07_Shift.f k x0).bind fun t414 => (if t413.toList = t414.toList then ((round_Unshift.f x0).bind fun t415 => ((clavigerref07_Unshift.f k x0).bind fun t416 => (if t415.toList = t416.toList then ((round_Mix.f x0).bind fun t417 => ((clavigerref07_Mix.f k x0).bind fun t418 => (if t417.toList = t418.toList then ((round_Unmix.f x0).bind fun t419 => ((clavigerref07_Unmix.f k x0).bind fun t420 => (if t419.toList = t420.toList then ((round_Key.f x0 x1).bind fun t421 => ((clavigerref07_Key.f k x0 x1).bind fun t422 => (if t421.toList = t422.toList then ((round_Do.f k x0 x1 x2).bind fun t423 => ((clavigerref07_Do.f k x0 x1 x2).bind fun t424 => (if t423.toList = t424.toList then ((round_Undo.f k x0 x1 x2).bind fun t425 => ((clavigerref07_Undo.f k x0 x1 x2).bind fun t426 => (if t425.toList = t426.toList then ((clavigerlaw07_awake.f).bind fun t427 => (some t427)) else (some false)))) else (some false)))) else (some false)))) else (some false)))) else (some false)))) else (some false)))) else (some false))))
def clavigerlaw07_RoundTells.f (k : Nat) (a0 : ByteArray) (a1 : ByteArray) (a2 : Bool) : Option (Bool) := if (a0.size : Int) > 100 then (clavigerlaw07_RoundTells.j0 k a0 a1 a2 true) else (clavigerlaw07_RoundTells.j0 k a0 a1 a2 (decide ((a1.size : Int) > 100)))
theorem clavigerlaw07_RoundTells.mono_l : ∀ k, (∀ y0 y1 y2 y3, LeO (clavigerlaw07_RoundTells.j0 k y0 y1 y2 y3) (clavigerlaw07_RoundTells.j0 (k + 1) y0 y1 y2 y3))
 | 0 => fun _ _ _ _ r h => by simp [clavigerlaw07_RoundTells.j0] at h
 | k + 1 => by
  have ih0 := clavigerlaw07_RoundTells.mono_l k
  ·intro y0 y1 y2 y3
   unfold clavigerlaw07_RoundTells.j0
   repeat' first
   | (with_reducible exact ih0 _ _ _ _)
   | (with_reducible exact clavigerref07_Do.mono _ _ _ _)
   | (with_reducible exact clavigerref07_Key.mono _ _ _)
   | (with_reducible exact clavigerref07_Mix.mono _ _)
   | (with_reducible exact clavigerref07_Shift.mono _ _)
   | (with_reducible exact clavigerref07_Undo.mono _ _ _ _)
   | (with_reducible exact clavigerref07_Unmix.mono _ _)
   | (with_reducible exact clavigerref07_Unshift.mono _ _)
   | (with_reducible exact round_Do.mono _ _ _ _)
   | (with_reducible exact round_Undo.mono _ _ _ _)
   | (with_reducible exact LeO.refl _)
   | (with_reducible exact LeO.none _)
   | (with_reducible refine LeO.ite ?_ ?_)
   | (with_reducible refine LeO.bind ?_ (fun _ => ?_))
   | exact ih0 _ _ _ _
   | exact clavigerref07_Do.mono _ _ _ _
   | exact clavigerref07_Key.mono _ _ _
   | exact clavigerref07_Mix.mono _ _
   | exact clavigerref07_Shift.mono _ _
   | exact clavigerref07_Undo.mono _ _ _ _
   | exact clavigerref07_Unmix.mono _ _
   | exact clavigerref07_Unshift.mono _ _
   | exact round_Do.mono _ _ _ _
   | exact round_Undo.mono _ _ _ _
   | exact LeO.none _
   | refine LeO.ite ?_ ?_
   | refine LeO.bind ?_ (fun _ => ?_)
theorem clavigerlaw07_RoundTells.mono : ∀ a0 a1 a2 k, LeO (clavigerlaw07_RoundTells.f k a0 a1 a2) (clavigerlaw07_RoundTells.f (k + 1) a0 a1 a2) := by
 intro a0 a1 a2 k
 have ih0 := clavigerlaw07_RoundTells.mono_l k
 unfold clavigerlaw07_RoundTells.f
 repeat' first
   | (with_reducible exact ih0 _ _ _ _)
   | (with_reducible exact clavigerref07_Do.mono _ _ _ _)
   | (with_reducible exact clavigerref07_Key.mono _ _ _)
   | (with_reducible exact clavigerref07_Mix.mono _ _)
   | (with_reducible exact clavigerref07_Shift.mono _ _)
   | (with_reducible exact clavigerref07_Undo.mono _ _ _ _)
   | (with_reducible exact clavigerref07_Unmix.mono _ _)
   | (with_reducible exact clavigerref07_Unshift.mono _ _)
   | (with_reducible exact round_Do.mono _ _ _ _)
   | (with_reducible exact round_Undo.mono _ _ _ _)
   | (with_reducible exact LeO.refl _)
   | (with_reducible exact LeO.none _)
   | (with_reducible refine LeO.ite ?_ ?_)
   | (with_reducible refine LeO.bind ?_ (fun _ => ?_))
   | exact ih0 _ _ _ _
   | exact clavigerref07_Do.mono _ _ _ _
   | exact clavigerref07_Key.mono _ _ _
   | exact clavigerref07_Mix.mono _ _
   | exact clavigerref07_Shift.mono _ _
   | exact clavigerref07_Undo.mono _ _ _ _
   | exact clavigerref07_Unmix.mono _ _
   | exact clavigerref07_Unshift.mono _ _
   | exact round_Do.mono _ _ _ _
   | exact round_Undo.mono _ _ _ _
   | exact LeO.none _
   | refine LeO.ite ?_ ?_
   | refine LeO.bind ?_ (fun _ => ?_)
set_option maxHeartbeats 8000000 in
set_option maxRecDepth 100000 in
theorem clavigerlaw07_RoundTells.calls (k : Nat) (a0 : ByteArray) (a1 : ByteArray) (a2 : Bool) (r : Bool) (w : World) (h : clavigerlaw07_RoundTells.f k a0 a1 a2 = some r) :
  Calls Try.prog 12 #[.string a0, .string a1, .bool a2] w fun e w' => e = .returned (.bool r) ∧ Below w.heap.size w w' := by
 have HB := Aside0.mk (Below.refl w.heap.size w)
 have H : (if (a0.size : Int) > 100 then (clavigerlaw07_RoundTells.j0 k a0 a1 a2 true) else (clavigerlaw07_RoundTells.j0 k a0 a1 a2 (decide ((a1.size : Int) > 100)))) = some r := h
 clear h
 have HC4 := Aside0.mk H
 clear H
 go_enter Try.func12, Try.ntmps12
 go_upto_region 1 with (fail)
 go_cut [14] (fun v14 wc => ∃ (kq : Nat) (x14_3 : Bool), v14 = .bool x14_3 ∧ Aside0 (clavigerlaw07_RoundTells.j0 kq a0 a1 a2 x14_3 = some r) ∧ Aside0 (kq ≤ k) ∧ Aside0 (Below w.heap.size w wc))
 case first =>
  have H := HC4.out
  clear HC4
  by_cases c5 : (a0.size : Int) > 100
  ·rw [if_pos c5] at H
   have c5b0 : decide (100 < (a0.size : Int)) = true := decide_eq_true c5
   have c5b1 : decide (100 < a0.size) = true := decide_eq_true (by omega)
   clear c5
   (first | rw [c5b0] | (simp only [i64_w, i32_w]; rw [c5b0]) | skip)
   have H' := Aside0.mk H
   clear H
   go_wp2
   go_meet
   case rel => exact ⟨_, (true), (by first | rfl | (simp; done) | (simp [*]; done)), H', ⟨by first | omega | exact Nat.le_refl _⟩, ⟨by repeat (first | (with_reducible first | exact HB.out | apply below_alloc | apply pw_below_drewN | apply below_drew1) | exact HB.out)⟩⟩
  ·rw [if_neg c5] at H
   have c5b0 : decide (100 < (a0.size : Int)) = false := decide_eq_false c5
   have c5b1 : decide (100 < a0.size) = false := decide_eq_false (by omega)
   clear c5
   (first | rw [c5b0] | (simp only [i64_w, i32_w]; rw [c5b0]) | skip)
   have H' := Aside0.mk H
   clear H
   go_wp2
   go_meet
   case rel => exact ⟨_, (decide ((a1.size : Int) > 100)), (by first | rfl | (simp; done) | (simp [*]; done)), H', ⟨by first | omega | exact Nat.le_refl _⟩, ⟨by repeat (first | (with_reducible first | exact HB.out | apply below_alloc | apply pw_below_drewN | apply below_drew1) | exact HB.out)⟩⟩
 case rest =>
  clear HC4
  try clear c1
  try clear p2
  try clear c5
  try clear c5b0
  try clear c5b1
  obtain ⟨kq, x14_3, rfl, HA, HJ3, HB⟩ := hcut
  cases kq with
  | zero => exact absurd HA.out (by simp [clavigerlaw07_RoundTells.j0])
  | succ kj3 =>
   have H := HA.out
   clear HA
   simp only [clavigerlaw07_RoundTells.j0] at H
   by_cases c6 : x14_3 = true
   ·subst c6
    have H1 : ((clavigerlaw07_awake.f).bind fun t412 => (some t412)) = some r := by rw [if_pos rfl] at H; exact H
    clear H
    have H := H1
    clear H1
    replace H := Option.bind_eq_some_iff.mp H
    obtain ⟨t412, A70, H⟩ := H
    replace H : (some t412) = some r := H
    have A7 := Aside0.mk A70
    clear A70
    obtain rfl := Option.some.inj H
    go_wp2_with (first | ((with_reducible refine gate_callee (f := 52) rfl ?_); refine goesL_ (some 15) rfl rfl Try.func52 (by kernel_rfl) rfl #[] rfl (by (try simp only [List.map_toArray, List.map_cons, List.map_nil]); first | done | rfl | (simp only [List.length_drop, List.length_take]; rfl) | (simp only [ByteArray.size_extract, Nat.min_self, Nat.sub_zero, ByteArray.size_append]; first | done | rfl)) ?_; (with_reducible refine (clavigerlaw07_awake.calls  t412 _ A7.out).mono ?_); rintro e w8 ⟨rfl, hb⟩; refine ⟨_, rfl, ?_⟩; have n0_ := Aside0.mk (below_step (by repeat (first | (with_reducible first | exact HB.out | apply below_alloc | apply pw_below_drewN | apply below_drew1) | exact HB.out)) hb); clear HB; have HB := n0_; clear n0_; (try clear hb); (try clear hb2); (try clear hk); (try clear hi)))
    go_ret
    exact ⟨by first | rfl | (simp [errW_none, errW_some] <;> rfl) | (simp [*, errW_none, errW_some] <;> rfl), by repeat (first | (with_reducible first | exact HB.out | apply below_alloc | apply pw_below_drewN | apply below_drew1) | exact HB.out)⟩
   ·replace c6 := Bool.eq_false_iff.mpr c6
    subst c6
    have H1 : ((round_Shift.f a0).bind fun t413 => ((clavigerref07_Shift.f kj3 a0).bind fun t414 => (if t413.toList = t414.toList then ((round_Unshift.f a0).bind fun t415 => ((clavigerref07_Unshift.f kj3 a0).bind fun t416 => (if t415.toList = t416.toList then ((round_Mix.f a0).bind fun t417 => ((clavigerref07_Mix.f kj3 a0).bind fun t418 => (if t417.toList = t418.toList then ((round_Unmix.f a0).bind fun t419 => ((clavigerref07_Unmix.f kj3 a0).bind fun t420 => (if t419.toList = t420.toList then ((round_Key.f a0 a1).bind fun t421 => ((clavigerref07_Key.f kj3 a0 a1).bind fun t422 => (if t421.toList = t422.toList then ((round_Do.f kj3 a0 a1 a2).bind fun t423 => ((clavigerref07_Do.f kj3 a0 a1 a2).bind fun t424 => (if t423.toList = t424.toList then ((round_Undo.f kj3 a0 a1 a2).bind fun t425 => ((clavigerref07_Undo.f kj3 a0 a1 a2).bind fun t426 => (if t425.toList = t426.toList then ((clavigerlaw07_awake.f).bind fun t427 => (some t427)) else (some false)))) else (some false)))) else (some false)))) else (some false)))) else (some false)))) else (some false)))) else (some false)))) = some r := by rw [if_neg (show ¬ (false = true) by decide)] at H; exact H
    clear H
    have H := H1
    clear H1
    replace H := Option.bind_eq_some_iff.mp H
    obtain ⟨t413, A90, H⟩ := H
    replace H : ((clavigerref07_Shift.f kj3 a0).bind fun t414 => (if t413.toList = t414.toList then ((round_Unshift.f a0).bind fun t415 => ((clavigerref07_Unshift.f kj3 a0).bind fun t416 => (if t415.toList = t416.toList then ((round_Mix.f a0).bind fun t417 => ((clavigerref07_Mix.f kj3 a0).bind fun t418 => (if t417.toList = t418.toList then ((round_Unmix.f a0).bind fun t419 => ((clavigerref07_Unmix.f kj3 a0).bind fun t420 => (if t419.toList = t420.toList then ((round_Key.f a0 a1).bind fun t421 => ((clavigerref07_Key.f kj3 a0 a1).bind fun t422 => (if t421.toList = t422.toList then ((round_Do.f kj3 a0 a1 a2).bind fun t423 => ((clavigerref07_Do.f kj3 a0 a1 a2).bind fun t424 => (if t423.toList = t424.toList then ((round_Undo.f kj3 a0 a1 a2).bind fun t425 => ((clavigerref07_Undo.f kj3 a0 a1 a2).bind fun t426 => (if t425.toList = t426.toList then ((clavigerlaw07_awake.f).bind fun t427 => (some t427)) else (some false)))) else (some false)))) else (some false)))) else (some false)))) else (some false)))) else (some false)))) else (some false))) = some r := H
    have A9 := Aside0.mk A90
    clear A90
    replace H := Option.bind_eq_some_iff.mp H
    obtain ⟨t414, A100, H⟩ := H
    replace H : (if t413.toList = t414.toList then ((round_Unshift.f a0).bind fun t415 => ((clavigerref07_Unshift.f kj3 a0).bind fun t416 => (if t415.toList = t416.toList then ((round_Mix.f a0).bind fun t417 => ((clavigerref07_Mix.f kj3 a0).bind fun t418 => (if t417.toList = t418.toList then ((round_Unmix.f a0).bind fun t419 => ((clavigerref07_Unmix.f kj3 a0).bind fun t420 => (if t419.toList = t420.toList then ((round_Key.f a0 a1).bind fun t421 => ((clavigerref07_Key.f kj3 a0 a1).bind fun t422 => (if t421.toList = t422.toList then ((round_Do.f kj3 a0 a1 a2).bind fun t423 => ((clavigerref07_Do.f kj3 a0 a1 a2).bind fun t424 => (if t423.toList = t424.toList then ((round_Undo.f kj3 a0 a1 a2).bind fun t425 => ((clavigerref07_Undo.f kj3 a0 a1 a2).bind fun t426 => (if t425.toList = t426.toList then ((clavigerlaw07_awake.f).bind fun t427 => (some t427)) else (some false)))) else (some false)))) else (some false)))) else (some false)))) else (some false)))) else (some false)))) else (some false)) = some r := H
    have A10 := Aside0.mk A100
    clear A100
    by_cases c11 : t413.toList = t414.toList
    ·rw [if_pos c11] at H
     have c11b0 : (t413.toList == t414.toList) = true := beq_iff_eq.mpr c11
     have c11b1 : (t413.toList != t414.toList) = false := bne_eq_false_iff_eq.mpr c11
     clear c11
     replace H := Option.bind_eq_some_iff.mp H
     obtain ⟨t415, A120, H⟩ := H
     replace H : ((clavigerref07_Unshift.f kj3 a0).bind fun t416 => (if t415.toList = t416.toList then ((round_Mix.f a0).bind fun t417 => ((clavigerref07_Mix.f kj3 a0).bind fun t418 => (if t417.toList = t418.toList then ((round_Unmix.f a0).bind fun t419 => ((clavigerref07_Unmix.f kj3 a0).bind fun t420 => (if t419.toList = t420.toList then ((round_Key.f a0 a1).bind fun t421 => ((clavigerref07_Key.f kj3 a0 a1).bind fun t422 => (if t421.toList = t422.toList then ((round_Do.f kj3 a0 a1 a2).bind fun t423 => ((clavigerref07_Do.f kj3 a0 a1 a2).bind fun t424 => (if t423.toList = t424.toList then ((round_Undo.f kj3 a0 a1 a2).bind fun t425 => ((clavigerref07_Undo.f kj3 a0 a1 a2).bind fun t426 => (if t425.toList = t426.toList then ((clavigerlaw07_awake.f).bind fun t427 => (some t427)) else (some false)))) else (some false)))) else (some false)))) else (some false)))) else (some false)))) else (some false))) = some r := H
     have A12 := Aside0.mk A120
     clear A120
     replace H := Option.bind_eq_some_iff.mp H
     obtain ⟨t416, A130, H⟩ := H
     replace H : (if t415.toList = t416.toList then ((round_Mix.f a0).bind fun t417 => ((clavigerref07_Mix.f kj3 a0).bind fun t418 => (if t417.toList = t418.toList then ((round_Unmix.f a0).bind fun t419 => ((clavigerref07_Unmix.f kj3 a0).bind fun t420 => (if t419.toList = t420.toList then ((round_Key.f a0 a1).bind fun t421 => ((clavigerref07_Key.f kj3 a0 a1).bind fun t422 => (if t421.toList = t422.toList then ((round_Do.f kj3 a0 a1 a2).bind fun t423 => ((clavigerref07_Do.f kj3 a0 a1 a2).bind fun t424 => (if t423.toList = t424.toList then ((round_Undo.f kj3 a0 a1 a2).bind fun t425 => ((clavigerref07_Undo.f kj3 a0 a1 a2).bind fun t426 => (if t425.toList = t426.toList then ((clavigerlaw07_awake.f).bind fun t427 => (some t427)) else (some false)))) else (some false)))) else (some false)))) else (some false)))) else (some false)))) else (some false)) = some r := H
     have A13 := Aside0.mk A130
     clear A130
     by_cases c14 : t415.toList = t416.toList
     ·rw [if_pos c14] at H
      have c14b0 : (t415.toList == t416.toList) = true := beq_iff_eq.mpr c14
      have c14b1 : (t415.toList != t416.toList) = false := bne_eq_false_iff_eq.mpr c14
      clear c14
      replace H := Option.bind_eq_some_iff.mp H
      obtain ⟨t417, A150, H⟩ := H
      replace H : ((clavigerref07_Mix.f kj3 a0).bind fun t418 => (if t417.toList = t418.toList then ((round_Unmix.f a0).bind fun t419 => ((clavigerref07_Unmix.f kj3 a0).bind fun t420 => (if t419.toList = t420.toList then ((round_Key.f a0 a1).bind fun t421 => ((clavigerref07_Key.f kj3 a0 a1).bind fun t422 => (if t421.toList = t422.toList then ((round_Do.f kj3 a0 a1 a2).bind fun t423 => ((clavigerref07_Do.f kj3 a0 a1 a2).bind fun t424 => (if t423.toList = t424.toList then ((round_Undo.f kj3 a0 a1 a2).bind fun t425 => ((clavigerref07_Undo.f kj3 a0 a1 a2).bind fun t426 => (if t425.toList = t426.toList then ((clavigerlaw07_awake.f).bind fun t427 => (some t427)) else (some false)))) else (some false)))) else (some false)))) else (some false)))) else (some false))) = some r := H
      have A15 := Aside0.mk A150
      clear A150
      replace H := Option.bind_eq_some_iff.mp H
      obtain ⟨t418, A160, H⟩ := H
      replace H : (if t417.toList = t418.toList then ((round_Unmix.f a0).bind fun t419 => ((clavigerref07_Unmix.f kj3 a0).bind fun t420 => (if t419.toList = t420.toList then ((round_Key.f a0 a1).bind fun t421 => ((clavigerref07_Key.f kj3 a0 a1).bind fun t422 => (if t421.toList = t422.toList then ((round_Do.f kj3 a0 a1 a2).bind fun t423 => ((clavigerref07_Do.f kj3 a0 a1 a2).bind fun t424 => (if t423.toList = t424.toList then ((round_Undo.f kj3 a0 a1 a2).bind fun t425 => ((clavigerref07_Undo.f kj3 a0 a1 a2).bind fun t426 => (if t425.toList = t426.toList then ((clavigerlaw07_awake.f).bind fun t427 => (some t427)) else (some false)))) else (some false)))) else (some false)))) else (some false)))) else (some false)) = some r := H
      have A16 := Aside0.mk A160
      clear A160
      by_cases c17 : t417.toList = t418.toList
      ·rw [if_pos c17] at H
       have c17b0 : (t417.toList == t418.toList) = true := beq_iff_eq.mpr c17
       have c17b1 : (t417.toList != t418.toList) = false := bne_eq_false_iff_eq.mpr c17
       clear c17
       replace H := Option.bind_eq_some_iff.mp H
       obtain ⟨t419, A180, H⟩ := H
       replace H : ((clavigerref07_Unmix.f kj3 a0).bind fun t420 => (if t419.toList = t420.toList then ((round_Key.f a0 a1).bind fun t421 => ((clavigerref07_Key.f kj3 a0 a1).bind fun t422 => (if t421.toList = t422.toList then ((round_Do.f kj3 a0 a1 a2).bind fun t423 => ((clavigerref07_Do.f kj3 a0 a1 a2).bind fun t424 => (if t423.toList = t424.toList then ((round_Undo.f kj3 a0 a1 a2).bind fun t425 => ((clavigerref07_Undo.f kj3 a0 a1 a2).bind fun t426 => (if t425.toList = t426.toList then ((clavigerlaw07_awake.f).bind fun t427 => (some t427)) else (some false)))) else (some false)))) else (some false)))) else (some false))) = some r := H
       have A18 := Aside0.mk A180
       clear A180
       replace H := Option.bind_eq_some_iff.mp H
       obtain ⟨t420, A190, H⟩ := H
       replace H : (if t419.toList = t420.toList then ((round_Key.f a0 a1).bind fun t421 => ((clavigerref07_Key.f kj3 a0 a1).bind fun t422 => (if t421.toList = t422.toList then ((round_Do.f kj3 a0 a1 a2).bind fun t423 => ((clavigerref07_Do.f kj3 a0 a1 a2).bind fun t424 => (if t423.toList = t424.toList then ((round_Undo.f kj3 a0 a1 a2).bind fun t425 => ((clavigerref07_Undo.f kj3 a0 a1 a2).bind fun t426 => (if t425.toList = t426.toList then ((clavigerlaw07_awake.f).bind fun t427 => (some t427)) else (some false)))) else (some false)))) else (some false)))) else (some false)) = some r := H
       have A19 := Aside0.mk A190
       clear A190
       by_cases c20 : t419.toList = t420.toList
       ·rw [if_pos c20] at H
        have c20b0 : (t419.toList == t420.toList) = true := beq_iff_eq.mpr c20
        have c20b1 : (t419.toList != t420.toList) = false := bne_eq_false_iff_eq.mpr c20
        clear c20
        replace H := Option.bind_eq_some_iff.mp H
        obtain ⟨t421, A210, H⟩ := H
        replace H : ((clavigerref07_Key.f kj3 a0 a1).bind fun t422 => (if t421.toList = t422.toList then ((round_Do.f kj3 a0 a1 a2).bind fun t423 => ((clavigerref07_Do.f kj3 a0 a1 a2).bind fun t424 => (if t423.toList = t424.toList then ((round_Undo.f kj3 a0 a1 a2).bind fun t425 => ((clavigerref07_Undo.f kj3 a0 a1 a2).bind fun t426 => (if t425.toList = t426.toList then ((clavigerlaw07_awake.f).bind fun t427 => (some t427)) else (some false)))) else (some false)))) else (some false))) = some r := H
        have A21 := Aside0.mk A210
        clear A210
        replace H := Option.bind_eq_some_iff.mp H
        obtain ⟨t422, A220, H⟩ := H
        replace H : (if t421.toList = t422.toList then ((round_Do.f kj3 a0 a1 a2).bind fun t423 => ((clavigerref07_Do.f kj3 a0 a1 a2).bind fun t424 => (if t423.toList = t424.toList then ((round_Undo.f kj3 a0 a1 a2).bind fun t425 => ((clavigerref07_Undo.f kj3 a0 a1 a2).bind fun t426 => (if t425.toList = t426.toList then ((clavigerlaw07_awake.f).bind fun t427 => (some t427)) else (some false)))) else (some false)))) else (some false)) = some r := H
        have A22 := Aside0.mk A220
        clear A220
        by_cases c23 : t421.toList = t422.toList
        ·rw [if_pos c23] at H
         have c23b0 : (t421.toList == t422.toList) = true := beq_iff_eq.mpr c23
         have c23b1 : (t421.toList != t422.toList) = false := bne_eq_false_iff_eq.mpr c23
         clear c23
         replace H := Option.bind_eq_some_iff.mp H
         obtain ⟨t423, A240, H⟩ := H
         replace H : ((clavigerref07_Do.f kj3 a0 a1 a2).bind fun t424 => (if t423.toList = t424.toList then ((round_Undo.f kj3 a0 a1 a2).bind fun t425 => ((clavigerref07_Undo.f kj3 a0 a1 a2).bind fun t426 => (if t425.toList = t426.toList then ((clavigerlaw07_awake.f).bind fun t427 => (some t427)) else (some false)))) else (some false))) = some r := H
         have A24 := Aside0.mk A240
         clear A240
         replace H := Option.bind_eq_some_iff.mp H
         obtain ⟨t424, A250, H⟩ := H
         replace H : (if t423.toList = t424.toList then ((round_Undo.f kj3 a0 a1 a2).bind fun t425 => ((clavigerref07_Undo.f kj3 a0 a1 a2).bind fun t426 => (if t425.toList = t426.toList then ((clavigerlaw07_awake.f).bind fun t427 => (some t427)) else (some false)))) else (some false)) = some r := H
         have A25 := Aside0.mk A250
         clear A250
         by_cases c26 : t423.toList = t424.toList
         ·rw [if_pos c26] at H
          have c26b0 : (t423.toList == t424.toList) = true := beq_iff_eq.mpr c26
          have c26b1 : (t423.toList != t424.toList) = false := bne_eq_false_iff_eq.mpr c26
          clear c26
          replace H := Option.bind_eq_some_iff.mp H
          obtain ⟨t425, A270, H⟩ := H
          replace H : ((clavigerref07_Undo.f kj3 a0 a1 a2).bind fun t426 => (if t425.toList = t426.toList then ((clavigerlaw07_awake.f).bind fun t427 => (some t427)) else (some false))) = some r := H
          have A27 := Aside0.mk A270
          clear A270
          replace H := Option.bind_eq_some_iff.mp H
          obtain ⟨t426, A280, H⟩ := H
          replace H : (if t425.toList = t426.toList then ((clavigerlaw07_awake.f).bind fun t427 => (some t427)) else (some false)) = some r := H
          have A28 := Aside0.mk A280
          clear A280
          by_cases c29 : t425.toList = t426.toList
          ·rw [if_pos c29] at H
           have c29b0 : (t425.toList == t426.toList) = true := beq_iff_eq.mpr c29
           have c29b1 : (t425.toList != t426.toList) = false := bne_eq_false_iff_eq.mpr c29
           clear c29
           replace H := Option.bind_eq_some_iff.mp H
           obtain ⟨t427, A300, H⟩ := H
           replace H : (some t427) = some r := H
           have A30 := Aside0.mk A300
           clear A300
           obtain rfl := Option.some.inj H
           go_wp2_with (first | ((with_reducible refine gate_callee (f := 75) rfl ?_); refine goesL_ (some 17) rfl rfl Try.func75 (by kernel_rfl) rfl #[.string a0] rfl (by (try simp only [List.map_toArray, List.map_cons, List.map_nil]); first | done | rfl | (simp only [List.length_drop, List.length_take]; rfl) | (simp only [ByteArray.size_extract, Nat.min_self, Nat.sub_zero, ByteArray.size_append]; first | done | rfl)) ?_; (with_reducible refine (round_Shift.calls a0 t413 _ A9.out).mono ?_); rintro e w31 ⟨rfl, hb⟩; refine ⟨_, rfl, ?_⟩; have n0_ := Aside0.mk (below_step (by repeat (first | (with_reducible first | exact HB.out | apply below_alloc | apply pw_below_drewN | apply below_drew1) | exact HB.out)) hb); clear HB; have HB := n0_; clear n0_; (try clear hb); (try clear hb2); (try clear hk); (try clear hi)) | ((with_reducible refine gate_callee (f := 76) rfl ?_); refine goesL_ (some 19) rfl rfl Try.func76 (by kernel_rfl) rfl #[.string a0] rfl (by (try simp only [List.map_toArray, List.map_cons, List.map_nil]); first | done | rfl | (simp only [List.length_drop, List.length_take]; rfl) | (simp only [ByteArray.size_extract, Nat.min_self, Nat.sub_zero, ByteArray.size_append]; first | done | rfl)) ?_; (with_reducible refine (clavigerref07_Shift.calls kj3 a0 t414 _ A10.out).mono ?_); rintro e w' ⟨rfl, ⟨nd, rfl⟩⟩; refine ⟨_, rfl, ?_⟩) | (go_at_call 77; (with_reducible refine (round_Unshift.calls a0 t415 _ A12.out).mono ?_); rintro e w32 ⟨rfl, hb⟩; have n0_ := Aside0.mk (below_step (by repeat (first | (with_reducible first | exact HB.out | apply below_alloc | apply pw_below_drewN | apply below_drew1) | exact HB.out)) hb); clear HB; have HB := n0_; clear n0_; (try clear hb); (try clear hb2); (try clear hk); (try clear hi)) | (go_at_call 78; (with_reducible refine (clavigerref07_Unshift.calls kj3 a0 t416 _ A13.out).mono ?_); rintro e w' ⟨rfl, ⟨nd, rfl⟩⟩) | (go_at_call 53; (with_reducible refine (round_Mix.calls a0 t417 _ A15.out).mono ?_); rintro e w33 ⟨rfl, hb⟩; have n0_ := Aside0.mk (below_step (by repeat (first | (with_reducible first | exact HB.out | apply below_alloc | apply pw_below_drewN | apply below_drew1) | exact HB.out)) hb); clear HB; have HB := n0_; clear n0_; (try clear hb); (try clear hb2); (try clear hk); (try clear hi)) | (go_at_call 79; (with_reducible refine (clavigerref07_Mix.calls kj3 a0 t418 _ A16.out).mono ?_); rintro e w34 ⟨rfl, hb⟩; have n0_ := Aside0.mk (below_step (by repeat (first | (with_reducible first | exact HB.out | apply below_alloc | apply pw_below_drewN | apply below_drew1) | exact HB.out)) hb); clear HB; have HB := n0_; clear n0_; (try clear hb); (try clear hb2); (try clear hk); (try clear hi)) | (go_at_call 55; (with_reducible refine (round_Unmix.calls a0 t419 _ A18.out).mono ?_); rintro e w35 ⟨rfl, hb⟩; have n0_ := Aside0.mk (below_step (by repeat (first | (with_reducible first | exact HB.out | apply below_alloc | apply pw_below_drewN | apply below_drew1) | exact HB.out)) hb); clear HB; have HB := n0_; clear n0_; (try clear hb); (try clear hb2); (try clear hk); (try clear hi)) | (go_at_call 80; (with_reducible refine (clavigerref07_Unmix.calls kj3 a0 t420 _ A19.out).mono ?_); rintro e w36 ⟨rfl, hb⟩; have n0_ := Aside0.mk (below_step (by repeat (first | (with_reducible first | exact HB.out | apply below_alloc | apply pw_below_drewN | apply below_drew1) | exact HB.out)) hb); clear HB; have HB := n0_; clear n0_; (try clear hb); (try clear hb2); (try clear hk); (try clear hi)) | (go_at_call 54; (with_reducible refine (round_Key.calls a0 a1 t421 _ A21.out).mono ?_); rintro e w37 ⟨rfl, hb⟩; have n0_ := Aside0.mk (below_step (by repeat (first | (with_reducible first | exact HB.out | apply below_alloc | apply pw_below_drewN | apply below_drew1) | exact HB.out)) hb); clear HB; have HB := n0_; clear n0_; (try clear hb); (try clear hb2); (try clear hk); (try clear hi)) | (go_at_call 81; (with_reducible refine (clavigerref07_Key.calls kj3 a0 a1 t422 _ A22.out).mono ?_); rintro e w38 ⟨rfl, hb⟩; have n0_ := Aside0.mk (below_step (by repeat (first | (with_reducible first | exact HB.out | apply below_alloc | apply pw_below_drewN | apply below_drew1) | exact HB.out)) hb); clear HB; have HB := n0_; clear n0_; (try clear hb); (try clear hb2); (try clear hk); (try clear hi)) | (go_at_call 82; (with_reducible refine (round_Do.calls kj3 a0 a1 a2 t423 _ A24.out).mono ?_); rintro e w39 ⟨rfl, hb⟩; have n0_ := Aside0.mk (below_step (by repeat (first | (with_reducible first | exact HB.out | apply below_alloc | apply pw_below_drewN | apply below_drew1) | exact HB.out)) hb); clear HB; have HB := n0_; clear n0_; (try clear hb); (try clear hb2); (try clear hk); (try clear hi)) | (go_at_call 83; (with_reducible refine (clavigerref07_Do.calls kj3 a0 a1 a2 t424 _ A25.out).mono ?_); rintro e w40 ⟨rfl, hb⟩; have n0_ := Aside0.mk (below_step (by repeat (first | (with_reducible first | exact HB.out | apply below_alloc | apply pw_below_drewN | apply below_drew1) | exact HB.out)) hb); clear HB; have HB := n0_; clear n0_; (try clear hb); (try clear hb2); (try clear hk); (try clear hi)) | (go_at_call 84; (with_reducible refine (round_Undo.calls kj3 a0 a1 a2 t425 _ A27.out).mono ?_); rintro e w41 ⟨rfl, hb⟩; have n0_ := Aside0.mk (below_step (by repeat (first | (with_reducible first | exact HB.out | apply below_alloc | apply pw_below_drewN | apply below_drew1) | exact HB.out)) hb); clear HB; have HB := n0_; clear n0_; (try clear hb); (try clear hb2); (try clear hk); (try clear hi)) | (go_at_call 85; (with_reducible refine (clavigerref07_Undo.calls kj3 a0 a1 a2 t426 _ A28.out).mono ?_); rintro e w42 ⟨rfl, hb⟩; have n0_ := Aside0.mk (below_step (by repeat (first | (with_reducible first | exact HB.out | apply below_alloc | apply pw_below_drewN | apply below_drew1) | exact HB.out)) hb); clear HB; have HB := n0_; clear n0_; (try clear hb); (try clear hb2); (try clear hk); (try clear hi)) | (go_at_call 52; (with_reducible refine (clavigerlaw07_awake.calls  t427 _ A30.out).mono ?_); rintro e w43 ⟨rfl, hb⟩; have n0_ := Aside0.mk (below_step (by repeat (first | (with_reducible first | exact HB.out | apply below_alloc | apply pw_below_drewN | apply below_drew1) | exact HB.out)) hb); clear HB; have HB := n0_; clear n0_; (try clear hb); (try clear hb2); (try clear hk); (try clear hi)))
           go_ret
           exact ⟨by first | rfl | (simp [errW_none, errW_some] <;> rfl) | (simp [*, errW_none, errW_some] <;> rfl), by repeat (first | (with_reducible first | exact HB.out | apply below_alloc | apply pw_below_drewN | apply below_drew1) | exact HB.out)⟩
          ·rw [if_neg c29] at H
           have c29b0 : (t425.toList == t426.toList) = false := beq_eq_false_iff_ne.mpr c29
           have c29b1 : (t425.toList != t426.toList) = true := bne_iff_ne.mpr c29
           obtain rfl := Option.some.inj H
           go_wp2_with (first | ((with_reducible refine gate_callee (f := 75) rfl ?_); refine goesL_ (some 17) rfl rfl Try.func75 (by kernel_rfl) rfl #[.string a0] rfl (by (try simp only [List.map_toArray, List.map_cons, List.map_nil]); first | done | rfl | (simp only [List.length_drop, List.length_take]; rfl) | (simp only [ByteArray.size_extract, Nat.min_self, Nat.sub_zero, ByteArray.size_append]; first | done | rfl)) ?_; (with_reducible refine (round_Shift.calls a0 t413 _ A9.out).mono ?_); rintro e w44 ⟨rfl, hb⟩; refine ⟨_, rfl, ?_⟩; have n0_ := Aside0.mk (below_step (by repeat (first | (with_reducible first | exact HB.out | apply below_alloc | apply pw_below_drewN | apply below_drew1) | exact HB.out)) hb); clear HB; have HB := n0_; clear n0_; (try clear hb); (try clear hb2); (try clear hk); (try clear hi)) | ((with_reducible refine gate_callee (f := 76) rfl ?_); refine goesL_ (some 19) rfl rfl Try.func76 (by kernel_rfl) rfl #[.string a0] rfl (by (try simp only [List.map_toArray, List.map_cons, List.map_nil]); first | done | rfl | (simp only [List.length_drop, List.length_take]; rfl) | (simp only [ByteArray.size_extract, Nat.min_self, Nat.sub_zero, ByteArray.size_append]; first | done | rfl)) ?_; (with_reducible refine (clavigerref07_Shift.calls kj3 a0 t414 _ A10.out).mono ?_); rintro e w' ⟨rfl, ⟨nd, rfl⟩⟩; refine ⟨_, rfl, ?_⟩) | (go_at_call 77; (with_reducible refine (round_Unshift.calls a0 t415 _ A12.out).mono ?_); rintro e w45 ⟨rfl, hb⟩; have n0_ := Aside0.mk (below_step (by repeat (first | (with_reducible first | exact HB.out | apply below_alloc | apply pw_below_drewN | apply below_drew1) | exact HB.out)) hb); clear HB; have HB := n0_; clear n0_; (try clear hb); (try clear hb2); (try clear hk); (try clear hi)) | (go_at_call 78; (with_reducible refine (clavigerref07_Unshift.calls kj3 a0 t416 _ A13.out).mono ?_); rintro e w' ⟨rfl, ⟨nd, rfl⟩⟩) | (go_at_call 53; (with_reducible refine (round_Mix.calls a0 t417 _ A15.out).mono ?_); rintro e w46 ⟨rfl, hb⟩; have n0_ := Aside0.mk (below_step (by repeat (first | (with_reducible first | exact HB.out | apply below_alloc | apply pw_below_drewN | apply below_drew1) | exact HB.out)) hb); clear HB; have HB := n0_; clear n0_; (try clear hb); (try clear hb2); (try clear hk); (try clear hi)) | (go_at_call 79; (with_reducible refine (clavigerref07_Mix.calls kj3 a0 t418 _ A16.out).mono ?_); rintro e w47 ⟨rfl, hb⟩; have n0_ := Aside0.mk (below_step (by repeat (first | (with_reducible first | exact HB.out | apply below_alloc | apply pw_below_drewN | apply below_drew1) | exact HB.out)) hb); clear HB; have HB := n0_; clear n0_; (try clear hb); (try clear hb2); (try clear hk); (try clear hi)) | (go_at_call 55; (with_reducible refine (round_Unmix.calls a0 t419 _ A18.out).mono ?_); rintro e w48 ⟨rfl, hb⟩; have n0_ := Aside0.mk (below_step (by repeat (first | (with_reducible first | exact HB.out | apply below_alloc | apply pw_below_drewN | apply below_drew1) | exact HB.out)) hb); clear HB; have HB := n0_; clear n0_; (try clear hb); (try clear hb2); (try clear hk); (try clear hi)) | (go_at_call 80; (with_reducible refine (clavigerref07_Unmix.calls kj3 a0 t420 _ A19.out).mono ?_); rintro e w49 ⟨rfl, hb⟩; have n0_ := Aside0.mk (below_step (by repeat (first | (with_reducible first | exact HB.out | apply below_alloc | apply pw_below_drewN | apply below_drew1) | exact HB.out)) hb); clear HB; have HB := n0_; clear n0_; (try clear hb); (try clear hb2); (try clear hk); (try clear hi)) | (go_at_call 54; (with_reducible refine (round_Key.calls a0 a1 t421 _ A21.out).mono ?_); rintro e w50 ⟨rfl, hb⟩; have n0_ := Aside0.mk (below_step (by repeat (first | (with_reducible first | exact HB.out | apply below_alloc | apply pw_below_drewN | apply below_drew1) | exact HB.out)) hb); clear HB; have HB := n0_; clear n0_; (try clear hb); (try clear hb2); (try clear hk); (try clear hi)) | (go_at_call 81; (with_reducible refine (clavigerref07_Key.calls kj3 a0 a1 t422 _ A22.out).mono ?_); rintro e w51 ⟨rfl, hb⟩; have n0_ := Aside0.mk (below_step (by repeat (first | (with_reducible first | exact HB.out | apply below_alloc | apply pw_below_drewN | apply below_drew1) | exact HB.out)) hb); clear HB; have HB := n0_; clear n0_; (try clear hb); (try clear hb2); (try clear hk); (try clear hi)) | (go_at_call 82; (with_reducible refine (round_Do.calls kj3 a0 a1 a2 t423 _ A24.out).mono ?_); rintro e w52 ⟨rfl, hb⟩; have n0_ := Aside0.mk (below_step (by repeat (first | (with_reducible first | exact HB.out | apply below_alloc | apply pw_below_drewN | apply below_drew1) | exact HB.out)) hb); clear HB; have HB := n0_; clear n0_; (try clear hb); (try clear hb2); (try clear hk); (try clear hi)) | (go_at_call 83; (with_reducible refine (clavigerref07_Do.calls kj3 a0 a1 a2 t424 _ A25.out).mono ?_); rintro e w53 ⟨rfl, hb⟩; have n0_ := Aside0.mk (below_step (by repeat (first | (with_reducible first | exact HB.out | apply below_alloc | apply pw_below_drewN | apply below_drew1) | exact HB.out)) hb); clear HB; have HB := n0_; clear n0_; (try clear hb); (try clear hb2); (try clear hk); (try clear hi)) | (go_at_call 84; (with_reducible refine (round_Undo.calls kj3 a0 a1 a2 t425 _ A27.out).mono ?_); rintro e w54 ⟨rfl, hb⟩; have n0_ := Aside0.mk (below_step (by repeat (first | (with_reducible first | exact HB.out | apply below_alloc | apply pw_below_drewN | apply below_drew1) | exact HB.out)) hb); clear HB; have HB := n0_; clear n0_; (try clear hb); (try clear hb2); (try clear hk); (try clear hi)) | (go_at_call 85; (with_reducible refine (clavigerref07_Undo.calls kj3 a0 a1 a2 t426 _ A28.out).mono ?_); rintro e w55 ⟨rfl, hb⟩; have n0_ := Aside0.mk (below_step (by repeat (first | (with_reducible first | exact HB.out | apply below_alloc | apply pw_below_drewN | apply below_drew1) | exact HB.out)) hb); clear HB; have HB := n0_; clear n0_; (try clear hb); (try clear hb2); (try clear hk); (try clear hi)))
           go_ret
           exact ⟨by first | rfl | (simp [errW_none, errW_some] <;> rfl) | (simp [*, errW_none, errW_some] <;> rfl), by repeat (first | (with_reducible first | exact HB.out | apply below_alloc | apply pw_below_drewN | apply below_drew1) | exact HB.out)⟩
         ·rw [if_neg c26] at H
          have c26b0 : (t423.toList == t424.toList) = false := beq_eq_false_iff_ne.mpr c26
          have c26b1 : (t423.toList != t424.toList) = true := bne_iff_ne.mpr c26
          obtain rfl := Option.some.inj H
          go_wp2_with (first | ((with_reducible refine gate_callee (f := 75) rfl ?_); refine goesL_ (some 17) rfl rfl Try.func75 (by kernel_rfl) rfl #[.string a0] rfl (by (try simp only [List.map_toArray, List.map_cons, List.map_nil]); first | done | rfl | (simp only [List.length_drop, List.length_take]; rfl) | (simp only [ByteArray.size_extract, Nat.min_self, Nat.sub_zero, ByteArray.size_append]; first | done | rfl)) ?_; (with_reducible refine (round_Shift.calls a0 t413 _ A9.out).mono ?_); rintro e w56 ⟨rfl, hb⟩; refine ⟨_, rfl, ?_⟩; have n0_ := Aside0.mk (below_step (by repeat (first | (with_reducible first | exact HB.out | apply below_alloc | apply pw_below_drewN | apply below_drew1) | exact HB.out)) hb); clear HB; have HB := n0_; clear n0_; (try clear hb); (try clear hb2); (try clear hk); (try clear hi)) | ((with_reducible refine gate_callee (f := 76) rfl ?_); refine goesL_ (some 19) rfl rfl Try.func76 (by kernel_rfl) rfl #[.string a0] rfl (by (try simp only [List.map_toArray, List.map_cons, List.map_nil]); first | done | rfl | (simp only [List.length_drop, List.length_take]; rfl) | (simp only [ByteArray.size_extract, Nat.min_self, Nat.sub_zero, ByteArray.size_append]; first | done | rfl)) ?_; (with_reducible refine (clavigerref07_Shift.calls kj3 a0 t414 _ A10.out).mono ?_); rintro e w' ⟨rfl, ⟨nd, rfl⟩⟩; refine ⟨_, rfl, ?_⟩) | (go_at_call 77; (with_reducible refine (round_Unshift.calls a0 t415 _ A12.out).mono ?_); rintro e w57 ⟨rfl, hb⟩; have n0_ := Aside0.mk (below_step (by repeat (first | (with_reducible first | exact HB.out | apply below_alloc | apply pw_below_drewN | apply below_drew1) | exact HB.out)) hb); clear HB; have HB := n0_; clear n0_; (try clear hb); (try clear hb2); (try clear hk); (try clear hi)) | (go_at_call 78; (with_reducible refine (clavigerref07_Unshift.calls kj3 a0 t416 _ A13.out).mono ?_); rintro e w' ⟨rfl, ⟨nd, rfl⟩⟩) | (go_at_call 53; (with_reducible refine (round_Mix.calls a0 t417 _ A15.out).mono ?_); rintro e w58 ⟨rfl, hb⟩; have n0_ := Aside0.mk (below_step (by repeat (first | (with_reducible first | exact HB.out | apply below_alloc | apply pw_below_drewN | apply below_drew1) | exact HB.out)) hb); clear HB; have HB := n0_; clear n0_; (try clear hb); (try clear hb2); (try clear hk); (try clear hi)) | (go_at_call 79; (with_reducible refine (clavigerref07_Mix.calls kj3 a0 t418 _ A16.out).mono ?_); rintro e w59 ⟨rfl, hb⟩; have n0_ := Aside0.mk (below_step (by repeat (first | (with_reducible first | exact HB.out | apply below_alloc | apply pw_below_drewN | apply below_drew1) | exact HB.out)) hb); clear HB; have HB := n0_; clear n0_; (try clear hb); (try clear hb2); (try clear hk); (try clear hi)) | (go_at_call 55; (with_reducible refine (round_Unmix.calls a0 t419 _ A18.out).mono ?_); rintro e w60 ⟨rfl, hb⟩; have n0_ := Aside0.mk (below_step (by repeat (first | (with_reducible first | exact HB.out | apply below_alloc | apply pw_below_drewN | apply below_drew1) | exact HB.out)) hb); clear HB; have HB := n0_; clear n0_; (try clear hb); (try clear hb2); (try clear hk); (try clear hi)) | (go_at_call 80; (with_reducible refine (clavigerref07_Unmix.calls kj3 a0 t420 _ A19.out).mono ?_); rintro e w61 ⟨rfl, hb⟩; have n0_ := Aside0.mk (below_step (by repeat (first | (with_reducible first | exact HB.out | apply below_alloc | apply pw_below_drewN | apply below_drew1) | exact HB.out)) hb); clear HB; have HB := n0_; clear n0_; (try clear hb); (try clear hb2); (try clear hk); (try clear hi)) | (go_at_call 54; (with_reducible refine (round_Key.calls a0 a1 t421 _ A21.out).mono ?_); rintro e w62 ⟨rfl, hb⟩; have n0_ := Aside0.mk (below_step (by repeat (first | (with_reducible first | exact HB.out | apply below_alloc | apply pw_below_drewN | apply below_drew1) | exact HB.out)) hb); clear HB; have HB := n0_; clear n0_; (try clear hb); (try clear hb2); (try clear hk); (try clear hi)) | (go_at_call 81; (with_reducible refine (clavigerref07_Key.calls kj3 a0 a1 t422 _ A22.out).mono ?_); rintro e w63 ⟨rfl, hb⟩; have n0_ := Aside0.mk (below_step (by repeat (first | (with_reducible first | exact HB.out | apply below_alloc | apply pw_below_drewN | apply below_drew1) | exact HB.out)) hb); clear HB; have HB := n0_; clear n0_; (try clear hb); (try clear hb2); (try clear hk); (try clear hi)) | (go_at_call 82; (with_reducible refine (round_Do.calls kj3 a0 a1 a2 t423 _ A24.out).mono ?_); rintro e w64 ⟨rfl, hb⟩; have n0_ := Aside0.mk (below_step (by repeat (first | (with_reducible first | exact HB.out | apply below_alloc | apply pw_below_drewN | apply below_drew1) | exact HB.out)) hb); clear HB; have HB := n0_; clear n0_; (try clear hb); (try clear hb2); (try clear hk); (try clear hi)) | (go_at_call 83; (with_reducible refine (clavigerref07_Do.calls kj3 a0 a1 a2 t424 _ A25.out).mono ?_); rintro e w65 ⟨rfl, hb⟩; have n0_ := Aside0.mk (below_step (by repeat (first | (with_reducible first | exact HB.out | apply below_alloc | apply pw_below_drewN | apply below_drew1) | exact HB.out)) hb); clear HB; have HB := n0_; clear n0_; (try clear hb); (try clear hb2); (try clear hk); (try clear hi)))
          go_ret
          exact ⟨by first | rfl | (simp [errW_none, errW_some] <;> rfl) | (simp [*, errW_none, errW_some] <;> rfl), by repeat (first | (with_reducible first | exact HB.out | apply below_alloc | apply pw_below_drewN | apply below_drew1) | exact HB.out)⟩
        ·rw [if_neg c23] at H
         have c23b0 : (t421.toList == t422.toList) = false := beq_eq_false_iff_ne.mpr c23
         have c23b1 : (t421.toList != t422.toList) = true := bne_iff_ne.mpr c23
         obtain rfl := Option.some.inj H
         go_wp2_with (first | ((with_reducible refine gate_callee (f := 75) rfl ?_); refine goesL_ (some 17) rfl rfl Try.func75 (by kernel_rfl) rfl #[.string a0] rfl (by (try simp only [List.map_toArray, List.map_cons, List.map_nil]); first | done | rfl | (simp only [List.length_drop, List.length_take]; rfl) | (simp only [ByteArray.size_extract, Nat.min_self, Nat.sub_zero, ByteArray.size_append]; first | done | rfl)) ?_; (with_reducible refine (round_Shift.calls a0 t413 _ A9.out).mono ?_); rintro e w66 ⟨rfl, hb⟩; refine ⟨_, rfl, ?_⟩; have n0_ := Aside0.mk (below_step (by repeat (first | (with_reducible first | exact HB.out | apply below_alloc | apply pw_below_drewN | apply below_drew1) | exact HB.out)) hb); clear HB; have HB := n0_; clear n0_; (try clear hb); (try clear hb2); (try clear hk); (try clear hi)) | ((with_reducible refine gate_callee (f := 76) rfl ?_); refine goesL_ (some 19) rfl rfl Try.func76 (by kernel_rfl) rfl #[.string a0] rfl (by (try simp only [List.map_toArray, List.map_cons, List.map_nil]); first | done | rfl | (simp only [List.length_drop, List.length_take]; rfl) | (simp only [ByteArray.size_extract, Nat.min_self, Nat.sub_zero, ByteArray.size_append]; first | done | rfl)) ?_; (with_reducible refine (clavigerref07_Shift.calls kj3 a0 t414 _ A10.out).mono ?_); rintro e w' ⟨rfl, ⟨nd, rfl⟩⟩; refine ⟨_, rfl, ?_⟩) | (go_at_call 77; (with_reducible refine (round_Unshift.calls a0 t415 _ A12.out).mono ?_); rintro e w67 ⟨rfl, hb⟩; have n0_ := Aside0.mk (below_step (by repeat (first | (with_reducible first | exact HB.out | apply below_alloc | apply pw_below_drewN | apply below_drew1) | exact HB.out)) hb); clear HB; have HB := n0_; clear n0_; (try clear hb); (try clear hb2); (try clear hk); (try clear hi)) | (go_at_call 78; (with_reducible refine (clavigerref07_Unshift.calls kj3 a0 t416 _ A13.out).mono ?_); rintro e w' ⟨rfl, ⟨nd, rfl⟩⟩) | (go_at_call 53; (with_reducible refine (round_Mix.calls a0 t417 _ A15.out).mono ?_); rintro e w68 ⟨rfl, hb⟩; have n0_ := Aside0.mk (below_step (by repeat (first | (with_reducible first | exact HB.out | apply below_alloc | apply pw_below_drewN | apply below_drew1) | exact HB.out)) hb); clear HB; have HB := n0_; clear n0_; (try clear hb); (try clear hb2); (try clear hk); (try clear hi)) | (go_at_call 79; (with_reducible refine (clavigerref07_Mix.calls kj3 a0 t418 _ A16.out).mono ?_); rintro e w69 ⟨rfl, hb⟩; have n0_ := Aside0.mk (below_step (by repeat (first | (with_reducible first | exact HB.out | apply below_alloc | apply pw_below_drewN | apply below_drew1) | exact HB.out)) hb); clear HB; have HB := n0_; clear n0_; (try clear hb); (try clear hb2); (try clear hk); (try clear hi)) | (go_at_call 55; (with_reducible refine (round_Unmix.calls a0 t419 _ A18.out).mono ?_); rintro e w70 ⟨rfl, hb⟩; have n0_ := Aside0.mk (below_step (by repeat (first | (with_reducible first | exact HB.out | apply below_alloc | apply pw_below_drewN | apply below_drew1) | exact HB.out)) hb); clear HB; have HB := n0_; clear n0_; (try clear hb); (try clear hb2); (try clear hk); (try clear hi)) | (go_at_call 80; (with_reducible refine (clavigerref07_Unmix.calls kj3 a0 t420 _ A19.out).mono ?_); rintro e w71 ⟨rfl, hb⟩; have n0_ := Aside0.mk (below_step (by repeat (first | (with_reducible first | exact HB.out | apply below_alloc | apply pw_below_drewN | apply below_drew1) | exact HB.out)) hb); clear HB; have HB := n0_; clear n0_; (try clear hb); (try clear hb2); (try clear hk); (try clear hi)) | (go_at_call 54; (with_reducible refine (round_Key.calls a0 a1 t421 _ A21.out).mono ?_); rintro e w72 ⟨rfl, hb⟩; have n0_ := Aside0.mk (below_step (by repeat (first | (with_reducible first | exact HB.out | apply below_alloc | apply pw_below_drewN | apply below_drew1) | exact HB.out)) hb); clear HB; have HB := n0_; clear n0_; (try clear hb); (try clear hb2); (try clear hk); (try clear hi)) | (go_at_call 81; (with_reducible refine (clavigerref07_Key.calls kj3 a0 a1 t422 _ A22.out).mono ?_); rintro e w73 ⟨rfl, hb⟩; have n0_ := Aside0.mk (below_step (by repeat (first | (with_reducible first | exact HB.out | apply below_alloc | apply pw_below_drewN | apply below_drew1) | exact HB.out)) hb); clear HB; have HB := n0_; clear n0_; (try clear hb); (try clear hb2); (try clear hk); (try clear hi)))
         go_ret
         exact ⟨by first | rfl | (simp [errW_none, errW_some] <;> rfl) | (simp [*, errW_none, errW_some] <;> rfl), by repeat (first | (with_reducible first | exact HB.out | apply below_alloc | apply pw_below_drewN | apply below_drew1) | exact HB.out)⟩
       ·rw [if_neg c20] at H
        have c20b0 : (t419.toList == t420.toList) = false := beq_eq_false_iff_ne.mpr c20
        have c20b1 : (t419.toList != t420.toList) = true := bne_iff_ne.mpr c20
        obtain rfl := Option.some.inj H
        go_wp2_with (first | ((with_reducible refine gate_callee (f := 75) rfl ?_); refine goesL_ (some 17) rfl rfl Try.func75 (by kernel_rfl) rfl #[.string a0] rfl (by (try simp only [List.map_toArray, List.map_cons, List.map_nil]); first | done | rfl | (simp only [List.length_drop, List.length_take]; rfl) | (simp only [ByteArray.size_extract, Nat.min_self, Nat.sub_zero, ByteArray.size_append]; first | done | rfl)) ?_; (with_reducible refine (round_Shift.calls a0 t413 _ A9.out).mono ?_); rintro e w74 ⟨rfl, hb⟩; refine ⟨_, rfl, ?_⟩; have n0_ := Aside0.mk (below_step (by repeat (first | (with_reducible first | exact HB.out | apply below_alloc | apply pw_below_drewN | apply below_drew1) | exact HB.out)) hb); clear HB; have HB := n0_; clear n0_; (try clear hb); (try clear hb2); (try clear hk); (try clear hi)) | ((with_reducible refine gate_callee (f := 76) rfl ?_); refine goesL_ (some 19) rfl rfl Try.func76 (by kernel_rfl) rfl #[.string a0] rfl (by (try simp only [List.map_toArray, List.map_cons, List.map_nil]); first | done | rfl | (simp only [List.length_drop, List.length_take]; rfl) | (simp only [ByteArray.size_extract, Nat.min_self, Nat.sub_zero, ByteArray.size_append]; first | done | rfl)) ?_; (with_reducible refine (clavigerref07_Shift.calls kj3 a0 t414 _ A10.out).mono ?_); rintro e w' ⟨rfl, ⟨nd, rfl⟩⟩; refine ⟨_, rfl, ?_⟩) | (go_at_call 77; (with_reducible refine (round_Unshift.calls a0 t415 _ A12.out).mono ?_); rintro e w75 ⟨rfl, hb⟩; have n0_ := Aside0.mk (below_step (by repeat (first | (with_reducible first | exact HB.out | apply below_alloc | apply pw_below_drewN | apply below_drew1) | exact HB.out)) hb); clear HB; have HB := n0_; clear n0_; (try clear hb); (try clear hb2); (try clear hk); (try clear hi)) | (go_at_call 78; (with_reducible refine (clavigerref07_Unshift.calls kj3 a0 t416 _ A13.out).mono ?_); rintro e w' ⟨rfl, ⟨nd, rfl⟩⟩) | (go_at_call 53; (with_reducible refine (round_Mix.calls a0 t417 _ A15.out).mono ?_); rintro e w76 ⟨rfl, hb⟩; have n0_ := Aside0.mk (below_step (by repeat (first | (with_reducible first | exact HB.out | apply below_alloc | apply pw_below_drewN | apply below_drew1) | exact HB.out)) hb); clear HB; have HB := n0_; clear n0_; (try clear hb); (try clear hb2); (try clear hk); (try clear hi)) | (go_at_call 79; (with_reducible refine (clavigerref07_Mix.calls kj3 a0 t418 _ A16.out).mono ?_); rintro e w77 ⟨rfl, hb⟩; have n0_ := Aside0.mk (below_step (by repeat (first | (with_reducible first | exact HB.out | apply below_alloc | apply pw_below_drewN | apply below_drew1) | exact HB.out)) hb); clear HB; have HB := n0_; clear n0_; (try clear hb); (try clear hb2); (try clear hk); (try clear hi)) | (go_at_call 55; (with_reducible refine (round_Unmix.calls a0 t419 _ A18.out).mono ?_); rintro e w78 ⟨rfl, hb⟩; have n0_ := Aside0.mk (below_step (by repeat (first | (with_reducible first | exact HB.out | apply below_alloc | apply pw_below_drewN | apply below_drew1) | exact HB.out)) hb); clear HB; have HB := n0_; clear n0_; (try clear hb); (try clear hb2); (try clear hk); (try clear hi)) | (go_at_call 80; (with_reducible refine (clavigerref07_Unmix.calls kj3 a0 t420 _ A19.out).mono ?_); rintro e w79 ⟨rfl, hb⟩; have n0_ := Aside0.mk (below_step (by repeat (first | (with_reducible first | exact HB.out | apply below_alloc | apply pw_below_drewN | apply below_drew1) | exact HB.out)) hb); clear HB; have HB := n0_; clear n0_; (try clear hb); (try clear hb2); (try clear hk); (try clear hi)))
        go_ret
        exact ⟨by first | rfl | (simp [errW_none, errW_some] <;> rfl) | (simp [*, errW_none, errW_some] <;> rfl), by repeat (first | (with_reducible first | exact HB.out | apply below_alloc | apply pw_below_drewN | apply below_drew1) | exact HB.out)⟩
      ·rw [if_neg c17] at H
       have c17b0 : (t417.toList == t418.toList) = false := beq_eq_false_iff_ne.mpr c17
       have c17b1 : (t417.toList != t418.toList) = true := bne_iff_ne.mpr c17
       obtain rfl := Option.some.inj H
       go_wp2_with (first | ((with_reducible refine gate_callee (f := 75) rfl ?_); refine goesL_ (some 17) rfl rfl Try.func75 (by kernel_rfl) rfl #[.string a0] rfl (by (try simp only [List.map_toArray, List.map_cons, List.map_nil]); first | done | rfl | (simp only [List.length_drop, List.length_take]; rfl) | (simp only [ByteArray.size_extract, Nat.min_self, Nat.sub_zero, ByteArray.size_append]; first | done | rfl)) ?_; (with_reducible refine (round_Shift.calls a0 t413 _ A9.out).mono ?_); rintro e w80 ⟨rfl, hb⟩; refine ⟨_, rfl, ?_⟩; have n0_ := Aside0.mk (below_step (by repeat (first | (with_reducible first | exact HB.out | apply below_alloc | apply pw_below_drewN | apply below_drew1) | exact HB.out)) hb); clear HB; have HB := n0_; clear n0_; (try clear hb); (try clear hb2); (try clear hk); (try clear hi)) | ((with_reducible refine gate_callee (f := 76) rfl ?_); refine goesL_ (some 19) rfl rfl Try.func76 (by kernel_rfl) rfl #[.string a0] rfl (by (try simp only [List.map_toArray, List.map_cons, List.map_nil]); first | done | rfl | (simp only [List.length_drop, List.length_take]; rfl) | (simp only [ByteArray.size_extract, Nat.min_self, Nat.sub_zero, ByteArray.size_append]; first | done | rfl)) ?_; (with_reducible refine (clavigerref07_Shift.calls kj3 a0 t414 _ A10.out).mono ?_); rintro e w' ⟨rfl, ⟨nd, rfl⟩⟩; refine ⟨_, rfl, ?_⟩) | (go_at_call 77; (with_reducible refine (round_Unshift.calls a0 t415 _ A12.out).mono ?_); rintro e w81 ⟨rfl, hb⟩; have n0_ := Aside0.mk (below_step (by repeat (first | (with_reducible first | exact HB.out | apply below_alloc | apply pw_below_drewN | apply below_drew1) | exact HB.out)) hb); clear HB; have HB := n0_; clear n0_; (try clear hb); (try clear hb2); (try clear hk); (try clear hi)) | (go_at_call 78; (with_reducible refine (clavigerref07_Unshift.calls kj3 a0 t416 _ A13.out).mono ?_); rintro e w' ⟨rfl, ⟨nd, rfl⟩⟩) | (go_at_call 53; (with_reducible refine (round_Mix.calls a0 t417 _ A15.out).mono ?_); rintro e w82 ⟨rfl, hb⟩; have n0_ := Aside0.mk (below_step (by repeat (first | (with_reducible first | exact HB.out | apply below_alloc | apply pw_below_drewN | apply below_drew1) | exact HB.out)) hb); clear HB; have HB := n0_; clear n0_; (try clear hb); (try clear hb2); (try clear hk); (try clear hi)) | (go_at_call 79; (with_reducible refine (clavigerref07_Mix.calls kj3 a0 t418 _ A16.out).mono ?_); rintro e w83 ⟨rfl, hb⟩; have n0_ := Aside0.mk (below_step (by repeat (first | (with_reducible first | exact HB.out | apply below_alloc | apply pw_below_drewN | apply below_drew1) | exact HB.out)) hb); clear HB; have HB := n0_; clear n0_; (try clear hb); (try clear hb2); (try clear hk); (try clear hi)))
       go_ret
       exact ⟨by first | rfl | (simp [errW_none, errW_some] <;> rfl) | (simp [*, errW_none, errW_some] <;> rfl), by repeat (first | (with_reducible first | exact HB.out | apply below_alloc | apply pw_below_drewN | apply below_drew1) | exact HB.out)⟩
     ·rw [if_neg c14] at H
      have c14b0 : (t415.toList == t416.toList) = false := beq_eq_false_iff_ne.mpr c14
      have c14b1 : (t415.toList != t416.toList) = true := bne_iff_ne.mpr c14
      obtain rfl := Option.some.inj H
      go_wp2_with (first | ((with_reducible refine gate_callee (f := 75) rfl ?_); refine goesL_ (some 17) rfl rfl Try.func75 (by kernel_rfl) rfl #[.string a0] rfl (by (try simp only [List.map_toArray, List.map_cons, List.map_nil]); first | done | rfl | (simp only [List.length_drop, List.length_take]; rfl) | (simp only [ByteArray.size_extract, Nat.min_self, Nat.sub_zero, ByteArray.size_append]; first | done | rfl)) ?_; (with_reducible refine (round_Shift.calls a0 t413 _ A9.out).mono ?_); rintro e w84 ⟨rfl, hb⟩; refine ⟨_, rfl, ?_⟩; have n0_ := Aside0.mk (below_step (by repeat (first | (with_reducible first | exact HB.out | apply below_alloc | apply pw_below_drewN | apply below_drew1) | exact HB.out)) hb); clear HB; have HB := n0_; clear n0_; (try clear hb); (try clear hb2); (try clear hk); (try clear hi)) | ((with_reducible refine gate_callee (f := 76) rfl ?_); refine goesL_ (some 19) rfl rfl Try.func76 (by kernel_rfl) rfl #[.string a0] rfl (by (try simp only [List.map_toArray, List.map_cons, List.map_nil]); first | done | rfl | (simp only [List.length_drop, List.length_take]; rfl) | (simp only [ByteArray.size_extract, Nat.min_self, Nat.sub_zero, ByteArray.size_append]; first | done | rfl)) ?_; (with_reducible refine (clavigerref07_Shift.calls kj3 a0 t414 _ A10.out).mono ?_); rintro e w' ⟨rfl, ⟨nd, rfl⟩⟩; refine ⟨_, rfl, ?_⟩) | (go_at_call 77; (with_reducible refine (round_Unshift.calls a0 t415 _ A12.out).mono ?_); rintro e w85 ⟨rfl, hb⟩; have n0_ := Aside0.mk (below_step (by repeat (first | (with_reducible first | exact HB.out | apply below_alloc | apply pw_below_drewN | apply below_drew1) | exact HB.out)) hb); clear HB; have HB := n0_; clear n0_; (try clear hb); (try clear hb2); (try clear hk); (try clear hi)) | (go_at_call 78; (with_reducible refine (clavigerref07_Unshift.calls kj3 a0 t416 _ A13.out).mono ?_); rintro e w' ⟨rfl, ⟨nd, rfl⟩⟩))
      go_ret
      exact ⟨by first | rfl | (simp [errW_none, errW_some] <;> rfl) | (simp [*, errW_none, errW_some] <;> rfl), by repeat (first | (with_reducible first | exact HB.out | apply below_alloc | apply pw_below_drewN | apply below_drew1) | exact HB.out)⟩
    ·rw [if_neg c11] at H
     have c11b0 : (t413.toList == t414.toList) = false := beq_eq_false_iff_ne.mpr c11
     have c11b1 : (t413.toList != t414.toList) = true := bne_iff_ne.mpr c11
     obtain rfl := Option.some.inj H
     go_wp2_with (first | ((with_reducible refine gate_callee (f := 75) rfl ?_); refine goesL_ (some 17) rfl rfl Try.func75 (by kernel_rfl) rfl #[.string a0] rfl (by (try simp only [List.map_toArray, List.map_cons, List.map_nil]); first | done | rfl | (simp only [List.length_drop, List.length_take]; rfl) | (simp only [ByteArray.size_extract, Nat.min_self, Nat.sub_zero, ByteArray.size_append]; first | done | rfl)) ?_; (with_reducible refine (round_Shift.calls a0 t413 _ A9.out).mono ?_); rintro e w86 ⟨rfl, hb⟩; refine ⟨_, rfl, ?_⟩; have n0_ := Aside0.mk (below_step (by repeat (first | (with_reducible first | exact HB.out | apply below_alloc | apply pw_below_drewN | apply below_drew1) | exact HB.out)) hb); clear HB; have HB := n0_; clear n0_; (try clear hb); (try clear hb2); (try clear hk); (try clear hi)) | ((with_reducible refine gate_callee (f := 76) rfl ?_); refine goesL_ (some 19) rfl rfl Try.func76 (by kernel_rfl) rfl #[.string a0] rfl (by (try simp only [List.map_toArray, List.map_cons, List.map_nil]); first | done | rfl | (simp only [List.length_drop, List.length_take]; rfl) | (simp only [ByteArray.size_extract, Nat.min_self, Nat.sub_zero, ByteArray.size_append]; first | done | rfl)) ?_; (with_reducible refine (clavigerref07_Shift.calls kj3 a0 t414 _ A10.out).mono ?_); rintro e w' ⟨rfl, ⟨nd, rfl⟩⟩; refine ⟨_, rfl, ?_⟩))
     go_ret
     exact ⟨by first | rfl | (simp [errW_none, errW_some] <;> rfl) | (simp [*, errW_none, errW_some] <;> rfl), by repeat (first | (with_reducible first | exact HB.out | apply below_alloc | apply pw_below_drewN | apply below_drew1) | exact HB.out)⟩

/-- THE ONE PURE STATEMENT of clavigerlaw07_RoundTells: yours. -/
def clavigerlaw07_RoundTells.Pure : Prop := ∀ (a0 : ByteArray) (a1 : ByteArray) (a2 : Bool), a0.size ≤ 140737488351232 → a1.size ≤ 140737488351232 → ∃ k, clavigerlaw07_RoundTells.f k a0 a1 a2 = some true
theorem clavigerlaw07_RoundTells.walk (P : clavigerlaw07_RoundTells.Pure) (a0 : ByteArray) (a1 : ByteArray) (a2 : Bool) (w : World) (w0 : a0.size ≤ 140737488351232) (w1 : a1.size ≤ 140737488351232) :
  Calls Try.prog 12 #[.string a0, .string a1, .bool a2] w fun e w' => e = .returned (.bool true) ∧ Below w.heap.size w w' := by
 obtain ⟨k, h⟩ := P a0 a1 a2 w0 w1
 refine (clavigerlaw07_RoundTells.calls k a0 a1 a2 true w h).mono ?_
 rintro e w' ⟨rfl, hd⟩
 exact ⟨rfl, hd⟩

end Go.Proofs.Ytokkhnjedmlbhaa.Pr
