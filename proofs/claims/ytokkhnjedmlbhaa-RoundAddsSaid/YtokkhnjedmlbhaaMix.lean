/-
  round's states: columns mixed. Conditions: none.
-/
import Derived.Test.YtokkhnjedmlbhaaStateD
import Derived.StillTailTactics
namespace Go.Proofs.Ytokkhnjedmlbhaa.Pr
open Go.RowKit Go.Proofs.YtokkhnjedmlbhaaW.PrintWords Go.Proofs.YtokkhnjedmlbhaaW.PrintLast Go.Proofs.YtokkhnjedmlbhaaW.PrintMore
attribute [local go_sem] col0 col1 col2 col3
set_option maxHeartbeats 16000000 in
set_option maxRecDepth 100000 in
theorem mix_calls (f : Nat → Int) (w : World) :
    Calls Try.prog 169 #[.agg (st16 f)] w fun e w' => e = .returned (.agg (st16 (mixI f))) ∧ Below w.heap.size w w' := by
  have t1 : (IntKind.i64.wrap 1).tmod 4 = 1 := rfl
  have t2 : (IntKind.i64.wrap 2).tmod 4 = 2 := rfl
  have t3 : (IntKind.i64.wrap 3).tmod 4 = 3 := rfl
  have t4 : (IntKind.i64.wrap 4).tmod 4 = 0 := rfl
  unfold st16
  go_enter Try.func169, Try.ntmps169
  go_wp2
  refine wp_loop_rounds 5 ?_
  rw [rounds_succ]
  go_wp2
  refine wp_loop_rounds 5 ?_
  rw [rounds_succ]
  go_wp2
  refine still_tail 20 (by kernel_rfl) (by kernel_rfl) ?_
  simp only [List.take_succ_cons, List.take_zero, List.drop_succ_cons, List.drop_zero]
  repeat still_step
  still_call (twice_still _ _)
  repeat still_step
  refine wpStill_nil ?_
  go_wp2
  rw [rounds_succ]
  go_wp2
  refine still_tail 20 (by kernel_rfl) (by kernel_rfl) ?_
  simp only [List.take_succ_cons, List.take_zero, List.drop_succ_cons, List.drop_zero]
  repeat still_step
  still_call (twice_still _ _)
  repeat still_step
  refine wpStill_nil ?_
  go_wp2
  rw [rounds_succ]
  go_wp2
  refine still_tail 20 (by kernel_rfl) (by kernel_rfl) ?_
  simp only [List.take_succ_cons, List.take_zero, List.drop_succ_cons, List.drop_zero]
  repeat still_step
  still_call (twice_still _ _)
  repeat still_step
  refine wpStill_nil ?_
  go_wp2
  rw [rounds_succ]
  go_wp2
  refine still_tail 20 (by kernel_rfl) (by kernel_rfl) ?_
  simp only [List.take_succ_cons, List.take_zero, List.drop_succ_cons, List.drop_zero]
  repeat still_step
  still_call (twice_still _ _)
  repeat still_step
  refine wpStill_nil ?_
  go_wp2
  rw [rounds_succ]
  go_wp2
  rw [rounds_succ]
  go_wp2
  refine wp_loop_rounds 5 ?_
  rw [rounds_succ]
  go_wp2
  refine still_tail 20 (by kernel_rfl) (by kernel_rfl) ?_
  simp only [List.take_succ_cons, List.take_zero, List.drop_succ_cons, List.drop_zero]
  repeat still_step
  still_call (twice_still _ _)
  repeat still_step
  refine wpStill_nil ?_
  go_wp2
  rw [rounds_succ]
  go_wp2
  refine still_tail 20 (by kernel_rfl) (by kernel_rfl) ?_
  simp only [List.take_succ_cons, List.take_zero, List.drop_succ_cons, List.drop_zero]
  repeat still_step
  still_call (twice_still _ _)
  repeat still_step
  refine wpStill_nil ?_
  go_wp2
  rw [rounds_succ]
  go_wp2
  refine still_tail 20 (by kernel_rfl) (by kernel_rfl) ?_
  simp only [List.take_succ_cons, List.take_zero, List.drop_succ_cons, List.drop_zero]
  repeat still_step
  still_call (twice_still _ _)
  repeat still_step
  refine wpStill_nil ?_
  go_wp2
  rw [rounds_succ]
  go_wp2
  refine still_tail 20 (by kernel_rfl) (by kernel_rfl) ?_
  simp only [List.take_succ_cons, List.take_zero, List.drop_succ_cons, List.drop_zero]
  repeat still_step
  still_call (twice_still _ _)
  repeat still_step
  refine wpStill_nil ?_
  go_wp2
  rw [rounds_succ]
  go_wp2
  rw [rounds_succ]
  go_wp2
  refine wp_loop_rounds 5 ?_
  rw [rounds_succ]
  go_wp2
  refine still_tail 20 (by kernel_rfl) (by kernel_rfl) ?_
  simp only [List.take_succ_cons, List.take_zero, List.drop_succ_cons, List.drop_zero]
  repeat still_step
  still_call (twice_still _ _)
  repeat still_step
  refine wpStill_nil ?_
  go_wp2
  rw [rounds_succ]
  go_wp2
  refine still_tail 20 (by kernel_rfl) (by kernel_rfl) ?_
  simp only [List.take_succ_cons, List.take_zero, List.drop_succ_cons, List.drop_zero]
  repeat still_step
  still_call (twice_still _ _)
  repeat still_step
  refine wpStill_nil ?_
  go_wp2
  rw [rounds_succ]
  go_wp2
  refine still_tail 20 (by kernel_rfl) (by kernel_rfl) ?_
  simp only [List.take_succ_cons, List.take_zero, List.drop_succ_cons, List.drop_zero]
  repeat still_step
  still_call (twice_still _ _)
  repeat still_step
  refine wpStill_nil ?_
  go_wp2
  rw [rounds_succ]
  go_wp2
  refine still_tail 20 (by kernel_rfl) (by kernel_rfl) ?_
  simp only [List.take_succ_cons, List.take_zero, List.drop_succ_cons, List.drop_zero]
  repeat still_step
  still_call (twice_still _ _)
  repeat still_step
  refine wpStill_nil ?_
  go_wp2
  rw [rounds_succ]
  go_wp2
  rw [rounds_succ]
  go_wp2
  refine wp_loop_rounds 5 ?_
  rw [rounds_succ]
  go_wp2
  refine still_tail 20 (by kernel_rfl) (by kernel_rfl) ?_
  simp only [List.take_succ_cons, List.take_zero, List.drop_succ_cons, List.drop_zero]
  repeat still_step
  still_call (twice_still _ _)
  repeat still_step
  refine wpStill_nil ?_
  go_wp2
  rw [rounds_succ]
  go_wp2
  refine still_tail 20 (by kernel_rfl) (by kernel_rfl) ?_
  simp only [List.take_succ_cons, List.take_zero, List.drop_succ_cons, List.drop_zero]
  repeat still_step
  still_call (twice_still _ _)
  repeat still_step
  refine wpStill_nil ?_
  go_wp2
  rw [rounds_succ]
  go_wp2
  refine still_tail 20 (by kernel_rfl) (by kernel_rfl) ?_
  simp only [List.take_succ_cons, List.take_zero, List.drop_succ_cons, List.drop_zero]
  repeat still_step
  still_call (twice_still _ _)
  repeat still_step
  refine wpStill_nil ?_
  go_wp2
  rw [rounds_succ]
  go_wp2
  refine still_tail 20 (by kernel_rfl) (by kernel_rfl) ?_
  simp only [List.take_succ_cons, List.take_zero, List.drop_succ_cons, List.drop_zero]
  repeat still_step
  still_call (twice_still _ _)
  repeat still_step
  refine wpStill_nil ?_
  go_wp2
  rw [rounds_succ]
  go_wp2
  rw [rounds_succ]
  go_wp2
  refine bodyPost_ret (v := .agg (st16 (mixI f))) ?_ rfl ⟨rfl, by repeat (first | exact Below.refl _ _ | apply below_drew1 | apply pw_below_drewN | apply below_alloc)⟩
  simp [results, Try.results169, go_sem, st16, mixI, bx8]
end Go.Proofs.Ytokkhnjedmlbhaa.Pr
