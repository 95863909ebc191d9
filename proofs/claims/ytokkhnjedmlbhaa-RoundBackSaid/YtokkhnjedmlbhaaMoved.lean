/-
  round's states: rows shifted, there and back. Conditions: none.
-/
import Derived.Test.YtokkhnjedmlbhaaStateD
import Derived.StillTailTactics
namespace Go.Proofs.Ytokkhnjedmlbhaa.Pr
open Go.RowKit Go.Proofs.YtokkhnjedmlbhaaW.PrintWords Go.Proofs.YtokkhnjedmlbhaaW.PrintLast Go.Proofs.YtokkhnjedmlbhaaW.PrintMore
def shf (f : Nat → Int) (i : Nat) : Int := f (4 * ((i / 4 + i % 4) % 4) + i % 4)
theorem shift_1 (c r : Int) (w : World) : Calls Try.prog 217 #[.int .i64 c, .int .i64 r] w fun e w' => e = .returned (.int .i64 (wrap64 (c + r))) ∧ w' = w := by
  go_enter Try.func217, Try.ntmps217
  go_wp2
  go_ret
  exact ⟨rfl, rfl⟩
set_option maxHeartbeats 8000000 in
set_option maxRecDepth 100000 in
theorem rows_shift (f : Nat → Int) (w : World) :
    Calls Try.prog 216 #[.agg (st16 f), .func (.func 217) #[] #[]] w fun e w' => e = .returned (.agg (st16 (shf f))) ∧ Below w.heap.size w w' := by
  have hw : ∀ x : Int, -9223372036854775808 ≤ x → x ≤ 9223372036854775807 → wrap64 x = x := fun x h1 h2 => by unfold wrap64; omega
  unfold st16
  go_enter Try.func216, Try.ntmps216
  go_wp2
  refine wp_loop_rounds 5 ?_
  rw [rounds_succ]
  go_wp2
  refine wp_loop_rounds 5 ?_
  rw [rounds_succ]
  go_wp2
  refine still_tail 13 (by kernel_rfl) (by kernel_rfl) ?_
  simp only [List.take_succ_cons, List.take_zero, List.drop_succ_cons, List.drop_zero]
  repeat still_step
  still_call (shift_1 _ _ _)
  repeat still_step
  refine wpStill_nil ?_
  go_wp2
  rw [rounds_succ]
  go_wp2
  refine still_tail 13 (by kernel_rfl) (by kernel_rfl) ?_
  simp only [List.take_succ_cons, List.take_zero, List.drop_succ_cons, List.drop_zero]
  repeat still_step
  still_call (shift_1 _ _ _)
  repeat still_step
  refine wpStill_nil ?_
  go_wp2
  rw [rounds_succ]
  go_wp2
  refine still_tail 13 (by kernel_rfl) (by kernel_rfl) ?_
  simp only [List.take_succ_cons, List.take_zero, List.drop_succ_cons, List.drop_zero]
  repeat still_step
  still_call (shift_1 _ _ _)
  repeat still_step
  refine wpStill_nil ?_
  go_wp2
  rw [rounds_succ]
  go_wp2
  refine still_tail 13 (by kernel_rfl) (by kernel_rfl) ?_
  simp only [List.take_succ_cons, List.take_zero, List.drop_succ_cons, List.drop_zero]
  repeat still_step
  still_call (shift_1 _ _ _)
  repeat still_step
  refine wpStill_nil ?_
  go_wp2
  rw [rounds_succ]
  go_wp2
  rw [rounds_succ]
  go_wp2
  refine wp_loop_rounds 5 ?_
  rw [rounds_succ]
  go_wp2
  refine still_tail 13 (by kernel_rfl) (by kernel_rfl) ?_
  simp only [List.take_succ_cons, List.take_zero, List.drop_succ_cons, List.drop_zero]
  repeat still_step
  still_call (shift_1 _ _ _)
  repeat still_step
  refine wpStill_nil ?_
  go_wp2
  rw [rounds_succ]
  go_wp2
  refine still_tail 13 (by kernel_rfl) (by kernel_rfl) ?_
  simp only [List.take_succ_cons, List.take_zero, List.drop_succ_cons, List.drop_zero]
  repeat still_step
  still_call (shift_1 _ _ _)
  repeat still_step
  refine wpStill_nil ?_
  go_wp2
  rw [rounds_succ]
  go_wp2
  refine still_tail 13 (by kernel_rfl) (by kernel_rfl) ?_
  simp only [List.take_succ_cons, List.take_zero, List.drop_succ_cons, List.drop_zero]
  repeat still_step
  still_call (shift_1 _ _ _)
  repeat still_step
  refine wpStill_nil ?_
  go_wp2
  rw [rounds_succ]
  go_wp2
  refine still_tail 13 (by kernel_rfl) (by kernel_rfl) ?_
  simp only [List.take_succ_cons, List.take_zero, List.drop_succ_cons, List.drop_zero]
  repeat still_step
  still_call (shift_1 _ _ _)
  repeat still_step
  refine wpStill_nil ?_
  go_wp2
  rw [rounds_succ]
  go_wp2
  rw [rounds_succ]
  go_wp2
  refine wp_loop_rounds 5 ?_
  rw [rounds_succ]
  go_wp2
  refine still_tail 13 (by kernel_rfl) (by kernel_rfl) ?_
  simp only [List.take_succ_cons, List.take_zero, List.drop_succ_cons, List.drop_zero]
  repeat still_step
  still_call (shift_1 _ _ _)
  repeat still_step
  refine wpStill_nil ?_
  go_wp2
  rw [rounds_succ]
  go_wp2
  refine still_tail 13 (by kernel_rfl) (by kernel_rfl) ?_
  simp only [List.take_succ_cons, List.take_zero, List.drop_succ_cons, List.drop_zero]
  repeat still_step
  still_call (shift_1 _ _ _)
  repeat still_step
  refine wpStill_nil ?_
  go_wp2
  rw [rounds_succ]
  go_wp2
  refine still_tail 13 (by kernel_rfl) (by kernel_rfl) ?_
  simp only [List.take_succ_cons, List.take_zero, List.drop_succ_cons, List.drop_zero]
  repeat still_step
  still_call (shift_1 _ _ _)
  repeat still_step
  refine wpStill_nil ?_
  go_wp2
  rw [rounds_succ]
  go_wp2
  refine still_tail 13 (by kernel_rfl) (by kernel_rfl) ?_
  simp only [List.take_succ_cons, List.take_zero, List.drop_succ_cons, List.drop_zero]
  repeat still_step
  still_call (shift_1 _ _ _)
  repeat still_step
  refine wpStill_nil ?_
  go_wp2
  rw [rounds_succ]
  go_wp2
  rw [rounds_succ]
  go_wp2
  refine wp_loop_rounds 5 ?_
  rw [rounds_succ]
  go_wp2
  refine still_tail 13 (by kernel_rfl) (by kernel_rfl) ?_
  simp only [List.take_succ_cons, List.take_zero, List.drop_succ_cons, List.drop_zero]
  repeat still_step
  still_call (shift_1 _ _ _)
  repeat still_step
  refine wpStill_nil ?_
  go_wp2
  rw [rounds_succ]
  go_wp2
  refine still_tail 13 (by kernel_rfl) (by kernel_rfl) ?_
  simp only [List.take_succ_cons, List.take_zero, List.drop_succ_cons, List.drop_zero]
  repeat still_step
  still_call (shift_1 _ _ _)
  repeat still_step
  refine wpStill_nil ?_
  go_wp2
  rw [rounds_succ]
  go_wp2
  refine still_tail 13 (by kernel_rfl) (by kernel_rfl) ?_
  simp only [List.take_succ_cons, List.take_zero, List.drop_succ_cons, List.drop_zero]
  repeat still_step
  still_call (shift_1 _ _ _)
  repeat still_step
  refine wpStill_nil ?_
  go_wp2
  rw [rounds_succ]
  go_wp2
  refine still_tail 13 (by kernel_rfl) (by kernel_rfl) ?_
  simp only [List.take_succ_cons, List.take_zero, List.drop_succ_cons, List.drop_zero]
  repeat still_step
  still_call (shift_1 _ _ _)
  repeat still_step
  refine wpStill_nil ?_
  go_wp2
  rw [rounds_succ]
  go_wp2
  rw [rounds_succ]
  go_wp2
  refine bodyPost_ret (v := .agg (st16 (shf f))) ?_ rfl ⟨rfl, by repeat (first | exact Below.refl _ _ | apply below_drew1 | apply below_alloc)⟩
  simp [results, Try.results216, go_sem, st16, shf]
set_option maxHeartbeats 1000000 in
theorem shift_calls (f : Nat → Int) (w : World) :
    Calls Try.prog 181 #[.agg (st16 f)] w fun e w' => e = .returned (.agg (st16 (shf f))) ∧ Below w.heap.size w w' := by
  have h := fun W => rows_shift f W
  unfold st16 at h ⊢
  go_enter Try.func181, Try.ntmps181
  go_wp2_with (go_at_call 216; refine (h _).mono ?_; rintro e w1 ⟨rfl, hb⟩; have hblk : w1.heap[w.heap.size + 1]? = some (.cells #[.int .u8 0, .int .u8 0, .int .u8 0, .int .u8 0, .int .u8 0, .int .u8 0, .int .u8 0, .int .u8 0, .int .u8 0, .int .u8 0, .int .u8 0, .int .u8 0, .int .u8 0, .int .u8 0, .int .u8 0, .int .u8 0] 90) := (hb.block (w.heap.size + 1) (by simp)).trans (by have := heap_alloc_new (w.alloc (.cells #[.int .u8 (f 0), .int .u8 (f 1), .int .u8 (f 2), .int .u8 (f 3), .int .u8 (f 4), .int .u8 (f 5), .int .u8 (f 6), .int .u8 (f 7), .int .u8 (f 8), .int .u8 (f 9), .int .u8 (f 10), .int .u8 (f 11), .int .u8 (f 12), .int .u8 (f 13), .int .u8 (f 14), .int .u8 (f 15)] 90)) (.cells #[.int .u8 0, .int .u8 0, .int .u8 0, .int .u8 0, .int .u8 0, .int .u8 0, .int .u8 0, .int .u8 0, .int .u8 0, .int .u8 0, .int .u8 0, .int .u8 0, .int .u8 0, .int .u8 0, .int .u8 0, .int .u8 0] 90); simpa using this); have hc0 := blk_cell hblk 0; have hz0 := blk_frozen hblk 0; have hc1 := blk_cell hblk 1; have hz1 := blk_frozen hblk 1; have hc2 := blk_cell hblk 2; have hz2 := blk_frozen hblk 2; have hc3 := blk_cell hblk 3; have hz3 := blk_frozen hblk 3; have hc4 := blk_cell hblk 4; have hz4 := blk_frozen hblk 4; have hc5 := blk_cell hblk 5; have hz5 := blk_frozen hblk 5; have hc6 := blk_cell hblk 6; have hz6 := blk_frozen hblk 6; have hc7 := blk_cell hblk 7; have hz7 := blk_frozen hblk 7; have hc8 := blk_cell hblk 8; have hz8 := blk_frozen hblk 8; have hc9 := blk_cell hblk 9; have hz9 := blk_frozen hblk 9; have hc10 := blk_cell hblk 10; have hz10 := blk_frozen hblk 10; have hc11 := blk_cell hblk 11; have hz11 := blk_frozen hblk 11; have hc12 := blk_cell hblk 12; have hz12 := blk_frozen hblk 12; have hc13 := blk_cell hblk 13; have hz13 := blk_frozen hblk 13; have hc14 := blk_cell hblk 14; have hz14 := blk_frozen hblk 14; have hc15 := blk_cell hblk 15; have hz15 := blk_frozen hblk 15)
  have H16 := (blk_set (blk_set (blk_set (blk_set (blk_set (blk_set (blk_set (blk_set (blk_set (blk_set (blk_set (blk_set (blk_set (blk_set (blk_set (blk_set hblk 0 (.int .u8 (shf f 0))) 1 (.int .u8 (shf f 1))) 2 (.int .u8 (shf f 2))) 3 (.int .u8 (shf f 3))) 4 (.int .u8 (shf f 4))) 5 (.int .u8 (shf f 5))) 6 (.int .u8 (shf f 6))) 7 (.int .u8 (shf f 7))) 8 (.int .u8 (shf f 8))) 9 (.int .u8 (shf f 9))) 10 (.int .u8 (shf f 10))) 11 (.int .u8 (shf f 11))) 12 (.int .u8 (shf f 12))) 13 (.int .u8 (shf f 13))) 14 (.int .u8 (shf f 14))) 15 (.int .u8 (shf f 15)))
  simp only [List.setIfInBounds_toArray, List.set_cons_zero, List.set_cons_succ] at H16
  have hB : Below w.heap.size w (((((((((((((((((w1).setCell ⟨w.heap.size + 1, 0, none⟩ (.int .u8 (shf f 0))).setCell ⟨w.heap.size + 1, 1, none⟩ (.int .u8 (shf f 1))).setCell ⟨w.heap.size + 1, 2, none⟩ (.int .u8 (shf f 2))).setCell ⟨w.heap.size + 1, 3, none⟩ (.int .u8 (shf f 3))).setCell ⟨w.heap.size + 1, 4, none⟩ (.int .u8 (shf f 4))).setCell ⟨w.heap.size + 1, 5, none⟩ (.int .u8 (shf f 5))).setCell ⟨w.heap.size + 1, 6, none⟩ (.int .u8 (shf f 6))).setCell ⟨w.heap.size + 1, 7, none⟩ (.int .u8 (shf f 7))).setCell ⟨w.heap.size + 1, 8, none⟩ (.int .u8 (shf f 8))).setCell ⟨w.heap.size + 1, 9, none⟩ (.int .u8 (shf f 9))).setCell ⟨w.heap.size + 1, 10, none⟩ (.int .u8 (shf f 10))).setCell ⟨w.heap.size + 1, 11, none⟩ (.int .u8 (shf f 11))).setCell ⟨w.heap.size + 1, 12, none⟩ (.int .u8 (shf f 12))).setCell ⟨w.heap.size + 1, 13, none⟩ (.int .u8 (shf f 13))).setCell ⟨w.heap.size + 1, 14, none⟩ (.int .u8 (shf f 14))).setCell ⟨w.heap.size + 1, 15, none⟩ (.int .u8 (shf f 15))) := by
    repeat (refine Below.setCell ?_ (by simp) _)
    exact ((below_alloc (below_alloc (Below.refl _ _) _) _).trans (hb.mono (by simp; omega)))
  exact bodyPost_ret (ret_state rfl rfl H16 rfl) rfl ⟨rfl, hB⟩
def uhf (f : Nat → Int) (i : Nat) : Int := f (4 * ((i / 4 + 4 - i % 4) % 4) + i % 4)
theorem unshift_1 (c r : Int) (w : World) : Calls Try.prog 218 #[.int .i64 c, .int .i64 r] w fun e w' => e = .returned (.int .i64 (wrap64 (wrap64 (c - r) + 4))) ∧ w' = w := by
  go_enter Try.func218, Try.ntmps218
  go_wp2
  go_ret
  exact ⟨rfl, rfl⟩
set_option maxHeartbeats 8000000 in
set_option maxRecDepth 100000 in
theorem rows_unshift (f : Nat → Int) (w : World) :
    Calls Try.prog 216 #[.agg (st16 f), .func (.func 218) #[] #[]] w fun e w' => e = .returned (.agg (st16 (uhf f))) ∧ Below w.heap.size w w' := by
  have hw : ∀ x : Int, -9223372036854775808 ≤ x → x ≤ 9223372036854775807 → wrap64 x = x := fun x h1 h2 => by unfold wrap64; omega
  unfold st16
  go_enter Try.func216, Try.ntmps216
  go_wp2
  refine wp_loop_rounds 5 ?_
  rw [rounds_succ]
  go_wp2
  refine wp_loop_rounds 5 ?_
  rw [rounds_succ]
  go_wp2
  refine still_tail 13 (by kernel_rfl) (by kernel_rfl) ?_
  simp only [List.take_succ_cons, List.take_zero, List.drop_succ_cons, List.drop_zero]
  repeat still_step
  still_call (unshift_1 _ _ _)
  repeat still_step
  refine wpStill_nil ?_
  go_wp2
  rw [rounds_succ]
  go_wp2
  refine still_tail 13 (by kernel_rfl) (by kernel_rfl) ?_
  simp only [List.take_succ_cons, List.take_zero, List.drop_succ_cons, List.drop_zero]
  repeat still_step
  still_call (unshift_1 _ _ _)
  repeat still_step
  refine wpStill_nil ?_
  go_wp2
  rw [rounds_succ]
  go_wp2
  refine still_tail 13 (by kernel_rfl) (by kernel_rfl) ?_
  simp only [List.take_succ_cons, List.take_zero, List.drop_succ_cons, List.drop_zero]
  repeat still_step
  still_call (unshift_1 _ _ _)
  repeat still_step
  refine wpStill_nil ?_
  go_wp2
  rw [rounds_succ]
  go_wp2
  refine still_tail 13 (by kernel_rfl) (by kernel_rfl) ?_
  simp only [List.take_succ_cons, List.take_zero, List.drop_succ_cons, List.drop_zero]
  repeat still_step
  still_call (unshift_1 _ _ _)
  repeat still_step
  refine wpStill_nil ?_
  go_wp2
  rw [rounds_succ]
  go_wp2
  rw [rounds_succ]
  go_wp2
  refine wp_loop_rounds 5 ?_
  rw [rounds_succ]
  go_wp2
  refine still_tail 13 (by kernel_rfl) (by kernel_rfl) ?_
  simp only [List.take_succ_cons, List.take_zero, List.drop_succ_cons, List.drop_zero]
  repeat still_step
  still_call (unshift_1 _ _ _)
  repeat still_step
  refine wpStill_nil ?_
  go_wp2
  rw [rounds_succ]
  go_wp2
  refine still_tail 13 (by kernel_rfl) (by kernel_rfl) ?_
  simp only [List.take_succ_cons, List.take_zero, List.drop_succ_cons, List.drop_zero]
  repeat still_step
  still_call (unshift_1 _ _ _)
  repeat still_step
  refine wpStill_nil ?_
  go_wp2
  rw [rounds_succ]
  go_wp2
  refine still_tail 13 (by kernel_rfl) (by kernel_rfl) ?_
  simp only [List.take_succ_cons, List.take_zero, List.drop_succ_cons, List.drop_zero]
  repeat still_step
  still_call (unshift_1 _ _ _)
  repeat still_step
  refine wpStill_nil ?_
  go_wp2
  rw [rounds_succ]
  go_wp2
  refine still_tail 13 (by kernel_rfl) (by kernel_rfl) ?_
  simp only [List.take_succ_cons, List.take_zero, List.drop_succ_cons, List.drop_zero]
  repeat still_step
  still_call (unshift_1 _ _ _)
  repeat still_step
  refine wpStill_nil ?_
  go_wp2
  rw [rounds_succ]
  go_wp2
  rw [rounds_succ]
  go_wp2
  refine wp_loop_rounds 5 ?_
  rw [rounds_succ]
  go_wp2
  refine still_tail 13 (by kernel_rfl) (by kernel_rfl) ?_
  simp only [List.take_succ_cons, List.take_zero, List.drop_succ_cons, List.drop_zero]
  repeat still_step
  still_call (unshift_1 _ _ _)
  repeat still_step
  refine wpStill_nil ?_
  go_wp2
  rw [rounds_succ]
  go_wp2
  refine still_tail 13 (by kernel_rfl) (by kernel_rfl) ?_
  simp only [List.take_succ_cons, List.take_zero, List.drop_succ_cons, List.drop_zero]
  repeat still_step
  still_call (unshift_1 _ _ _)
  repeat still_step
  refine wpStill_nil ?_
  go_wp2
  rw [rounds_succ]
  go_wp2
  refine still_tail 13 (by kernel_rfl) (by kernel_rfl) ?_
  simp only [List.take_succ_cons, List.take_zero, List.drop_succ_cons, List.drop_zero]
  repeat still_step
  still_call (unshift_1 _ _ _)
  repeat still_step
  refine wpStill_nil ?_
  go_wp2
  rw [rounds_succ]
  go_wp2
  refine still_tail 13 (by kernel_rfl) (by kernel_rfl) ?_
  simp only [List.take_succ_cons, List.take_zero, List.drop_succ_cons, List.drop_zero]
  repeat still_step
  still_call (unshift_1 _ _ _)
  repeat still_step
  refine wpStill_nil ?_
  go_wp2
  rw [rounds_succ]
  go_wp2
  rw [rounds_succ]
  go_wp2
  refine wp_loop_rounds 5 ?_
  rw [rounds_succ]
  go_wp2
  refine still_tail 13 (by kernel_rfl) (by kernel_rfl) ?_
  simp only [List.take_succ_cons, List.take_zero, List.drop_succ_cons, List.drop_zero]
  repeat still_step
  still_call (unshift_1 _ _ _)
  repeat still_step
  refine wpStill_nil ?_
  go_wp2
  rw [rounds_succ]
  go_wp2
  refine still_tail 13 (by kernel_rfl) (by kernel_rfl) ?_
  simp only [List.take_succ_cons, List.take_zero, List.drop_succ_cons, List.drop_zero]
  repeat still_step
  still_call (unshift_1 _ _ _)
  repeat still_step
  refine wpStill_nil ?_
  go_wp2
  rw [rounds_succ]
  go_wp2
  refine still_tail 13 (by kernel_rfl) (by kernel_rfl) ?_
  simp only [List.take_succ_cons, List.take_zero, List.drop_succ_cons, List.drop_zero]
  repeat still_step
  still_call (unshift_1 _ _ _)
  repeat still_step
  refine wpStill_nil ?_
  go_wp2
  rw [rounds_succ]
  go_wp2
  refine still_tail 13 (by kernel_rfl) (by kernel_rfl) ?_
  simp only [List.take_succ_cons, List.take_zero, List.drop_succ_cons, List.drop_zero]
  repeat still_step
  still_call (unshift_1 _ _ _)
  repeat still_step
  refine wpStill_nil ?_
  go_wp2
  rw [rounds_succ]
  go_wp2
  rw [rounds_succ]
  go_wp2
  refine bodyPost_ret (v := .agg (st16 (uhf f))) ?_ rfl ⟨rfl, by repeat (first | exact Below.refl _ _ | apply below_drew1 | apply below_alloc)⟩
  simp [results, Try.results216, go_sem, st16, uhf]
set_option maxHeartbeats 1000000 in
theorem unshift_calls (f : Nat → Int) (w : World) :
    Calls Try.prog 183 #[.agg (st16 f)] w fun e w' => e = .returned (.agg (st16 (uhf f))) ∧ Below w.heap.size w w' := by
  have h := fun W => rows_unshift f W
  unfold st16 at h ⊢
  go_enter Try.func183, Try.ntmps183
  go_wp2_with (go_at_call 216; refine (h _).mono ?_; rintro e w1 ⟨rfl, hb⟩; have hblk : w1.heap[w.heap.size + 1]? = some (.cells #[.int .u8 0, .int .u8 0, .int .u8 0, .int .u8 0, .int .u8 0, .int .u8 0, .int .u8 0, .int .u8 0, .int .u8 0, .int .u8 0, .int .u8 0, .int .u8 0, .int .u8 0, .int .u8 0, .int .u8 0, .int .u8 0] 90) := (hb.block (w.heap.size + 1) (by simp)).trans (by have := heap_alloc_new (w.alloc (.cells #[.int .u8 (f 0), .int .u8 (f 1), .int .u8 (f 2), .int .u8 (f 3), .int .u8 (f 4), .int .u8 (f 5), .int .u8 (f 6), .int .u8 (f 7), .int .u8 (f 8), .int .u8 (f 9), .int .u8 (f 10), .int .u8 (f 11), .int .u8 (f 12), .int .u8 (f 13), .int .u8 (f 14), .int .u8 (f 15)] 90)) (.cells #[.int .u8 0, .int .u8 0, .int .u8 0, .int .u8 0, .int .u8 0, .int .u8 0, .int .u8 0, .int .u8 0, .int .u8 0, .int .u8 0, .int .u8 0, .int .u8 0, .int .u8 0, .int .u8 0, .int .u8 0, .int .u8 0] 90); simpa using this); have hc0 := blk_cell hblk 0; have hz0 := blk_frozen hblk 0; have hc1 := blk_cell hblk 1; have hz1 := blk_frozen hblk 1; have hc2 := blk_cell hblk 2; have hz2 := blk_frozen hblk 2; have hc3 := blk_cell hblk 3; have hz3 := blk_frozen hblk 3; have hc4 := blk_cell hblk 4; have hz4 := blk_frozen hblk 4; have hc5 := blk_cell hblk 5; have hz5 := blk_frozen hblk 5; have hc6 := blk_cell hblk 6; have hz6 := blk_frozen hblk 6; have hc7 := blk_cell hblk 7; have hz7 := blk_frozen hblk 7; have hc8 := blk_cell hblk 8; have hz8 := blk_frozen hblk 8; have hc9 := blk_cell hblk 9; have hz9 := blk_frozen hblk 9; have hc10 := blk_cell hblk 10; have hz10 := blk_frozen hblk 10; have hc11 := blk_cell hblk 11; have hz11 := blk_frozen hblk 11; have hc12 := blk_cell hblk 12; have hz12 := blk_frozen hblk 12; have hc13 := blk_cell hblk 13; have hz13 := blk_frozen hblk 13; have hc14 := blk_cell hblk 14; have hz14 := blk_frozen hblk 14; have hc15 := blk_cell hblk 15; have hz15 := blk_frozen hblk 15)
  have H16 := (blk_set (blk_set (blk_set (blk_set (blk_set (blk_set (blk_set (blk_set (blk_set (blk_set (blk_set (blk_set (blk_set (blk_set (blk_set (blk_set hblk 0 (.int .u8 (uhf f 0))) 1 (.int .u8 (uhf f 1))) 2 (.int .u8 (uhf f 2))) 3 (.int .u8 (uhf f 3))) 4 (.int .u8 (uhf f 4))) 5 (.int .u8 (uhf f 5))) 6 (.int .u8 (uhf f 6))) 7 (.int .u8 (uhf f 7))) 8 (.int .u8 (uhf f 8))) 9 (.int .u8 (uhf f 9))) 10 (.int .u8 (uhf f 10))) 11 (.int .u8 (uhf f 11))) 12 (.int .u8 (uhf f 12))) 13 (.int .u8 (uhf f 13))) 14 (.int .u8 (uhf f 14))) 15 (.int .u8 (uhf f 15)))
  simp only [List.setIfInBounds_toArray, List.set_cons_zero, List.set_cons_succ] at H16
  have hB : Below w.heap.size w (((((((((((((((((w1).setCell ⟨w.heap.size + 1, 0, none⟩ (.int .u8 (uhf f 0))).setCell ⟨w.heap.size + 1, 1, none⟩ (.int .u8 (uhf f 1))).setCell ⟨w.heap.size + 1, 2, none⟩ (.int .u8 (uhf f 2))).setCell ⟨w.heap.size + 1, 3, none⟩ (.int .u8 (uhf f 3))).setCell ⟨w.heap.size + 1, 4, none⟩ (.int .u8 (uhf f 4))).setCell ⟨w.heap.size + 1, 5, none⟩ (.int .u8 (uhf f 5))).setCell ⟨w.heap.size + 1, 6, none⟩ (.int .u8 (uhf f 6))).setCell ⟨w.heap.size + 1, 7, none⟩ (.int .u8 (uhf f 7))).setCell ⟨w.heap.size + 1, 8, none⟩ (.int .u8 (uhf f 8))).setCell ⟨w.heap.size + 1, 9, none⟩ (.int .u8 (uhf f 9))).setCell ⟨w.heap.size + 1, 10, none⟩ (.int .u8 (uhf f 10))).setCell ⟨w.heap.size + 1, 11, none⟩ (.int .u8 (uhf f 11))).setCell ⟨w.heap.size + 1, 12, none⟩ (.int .u8 (uhf f 12))).setCell ⟨w.heap.size + 1, 13, none⟩ (.int .u8 (uhf f 13))).setCell ⟨w.heap.size + 1, 14, none⟩ (.int .u8 (uhf f 14))).setCell ⟨w.heap.size + 1, 15, none⟩ (.int .u8 (uhf f 15))) := by
    repeat (refine Below.setCell ?_ (by simp) _)
    exact ((below_alloc (below_alloc (Below.refl _ _) _) _).trans (hb.mono (by simp; omega)))
  exact bodyPost_ret (ret_state rfl rfl H16 rfl) rfl ⟨rfl, hB⟩
end Go.Proofs.Ytokkhnjedmlbhaa.Pr
