/-
  round's states: columns mixed, behind the step that makes it the way back. Conditions: none.
-/
import Derived.Test.YtokkhnjedmlbhaaMix
namespace Go.Proofs.Ytokkhnjedmlbhaa.Pr
open Go.RowKit Go.Proofs.YtokkhnjedmlbhaaW.PrintWords Go.Proofs.YtokkhnjedmlbhaaW.PrintLast Go.Proofs.YtokkhnjedmlbhaaW.PrintMore
attribute [local go_sem] col0 col1 col2 col3
theorem alloc_keep {W : World} {i : Nat} {o x : Obj} (h : W.heap[i]? = some o) : (W.alloc x).heap[i]? = some o := (heap_alloc_old W x (blk_lt h)).trans h
theorem alloc_last2 (w : World) (a z : Obj) : ((w.alloc a).alloc z).heap[w.heap.size + 1]? = some z := by have := heap_alloc_new (w.alloc a) z; simpa using this
set_option maxHeartbeats 16000000 in
set_option maxRecDepth 100000 in
theorem unmix_calls (f : Nat → Int) (w : World) :
    Calls Try.prog 171 #[.agg (st16 f)] w fun e w' => e = .returned (.agg (st16 (mixI (preI f)))) ∧ Below w.heap.size w w' := by
  have hm := fun W => mix_calls (preI f) W
  unfold st16 at hm
  unfold st16
  go_enter Try.func171, Try.ntmps171
  go_wp2
  refine wp_loop_rounds 5 ?_
  rw [rounds_succ]
  go_wp2_with (go_at_call 41; refine (twice_still _ _).mono ?_; rintro e w1 ⟨rfl, rfl⟩)
  rw [rounds_succ]
  go_wp2_with (go_at_call 41; refine (twice_still _ _).mono ?_; rintro e w1 ⟨rfl, rfl⟩)
  rw [rounds_succ]
  go_wp2_with (go_at_call 41; refine (twice_still _ _).mono ?_; rintro e w1 ⟨rfl, rfl⟩)
  rw [rounds_succ]
  go_wp2_with (go_at_call 41; refine (twice_still _ _).mono ?_; rintro e w1 ⟨rfl, rfl⟩)
  rw [rounds_succ]
  go_wp2_with (go_at_call 169; refine (hm _).mono ?_; rintro e w1 ⟨rfl, hb⟩; (have hblk : w1.heap[w.heap.size + 1]? = some (.cells #[.int .u8 0, .int .u8 0, .int .u8 0, .int .u8 0, .int .u8 0, .int .u8 0, .int .u8 0, .int .u8 0, .int .u8 0, .int .u8 0, .int .u8 0, .int .u8 0, .int .u8 0, .int .u8 0, .int .u8 0, .int .u8 0] 90) := ((hb.block (w.heap.size + 1) (by first | (simp; done) | (simp; omega))).trans (alloc_keep (alloc_keep (alloc_keep (alloc_keep (alloc_last2 _ _ _)))))); have hc0 := blk_cell hblk 0; have hz0 := blk_frozen hblk 0; have hc1 := blk_cell hblk 1; have hz1 := blk_frozen hblk 1; have hc2 := blk_cell hblk 2; have hz2 := blk_frozen hblk 2; have hc3 := blk_cell hblk 3; have hz3 := blk_frozen hblk 3; have hc4 := blk_cell hblk 4; have hz4 := blk_frozen hblk 4; have hc5 := blk_cell hblk 5; have hz5 := blk_frozen hblk 5; have hc6 := blk_cell hblk 6; have hz6 := blk_frozen hblk 6; have hc7 := blk_cell hblk 7; have hz7 := blk_frozen hblk 7; have hc8 := blk_cell hblk 8; have hz8 := blk_frozen hblk 8; have hc9 := blk_cell hblk 9; have hz9 := blk_frozen hblk 9; have hc10 := blk_cell hblk 10; have hz10 := blk_frozen hblk 10; have hc11 := blk_cell hblk 11; have hz11 := blk_frozen hblk 11; have hc12 := blk_cell hblk 12; have hz12 := blk_frozen hblk 12; have hc13 := blk_cell hblk 13; have hz13 := blk_frozen hblk 13; have hc14 := blk_cell hblk 14; have hz14 := blk_frozen hblk 14; have hc15 := blk_cell hblk 15; have hz15 := blk_frozen hblk 15))
  have H16 := (blk_set (blk_set (blk_set (blk_set (blk_set (blk_set (blk_set (blk_set (blk_set (blk_set (blk_set (blk_set (blk_set (blk_set (blk_set (blk_set hblk 0 (.int .u8 (mixI (preI f) 0))) 1 (.int .u8 (mixI (preI f) 1))) 2 (.int .u8 (mixI (preI f) 2))) 3 (.int .u8 (mixI (preI f) 3))) 4 (.int .u8 (mixI (preI f) 4))) 5 (.int .u8 (mixI (preI f) 5))) 6 (.int .u8 (mixI (preI f) 6))) 7 (.int .u8 (mixI (preI f) 7))) 8 (.int .u8 (mixI (preI f) 8))) 9 (.int .u8 (mixI (preI f) 9))) 10 (.int .u8 (mixI (preI f) 10))) 11 (.int .u8 (mixI (preI f) 11))) 12 (.int .u8 (mixI (preI f) 12))) 13 (.int .u8 (mixI (preI f) 13))) 14 (.int .u8 (mixI (preI f) 14))) 15 (.int .u8 (mixI (preI f) 15)))
  simp only [List.setIfInBounds_toArray, List.set_cons_zero, List.set_cons_succ] at H16
  have hB : Below w.heap.size w (((((((((((((((((w1).setCell ⟨w.heap.size + 1, 0, none⟩ (.int .u8 (mixI (preI f) 0))).setCell ⟨w.heap.size + 1, 1, none⟩ (.int .u8 (mixI (preI f) 1))).setCell ⟨w.heap.size + 1, 2, none⟩ (.int .u8 (mixI (preI f) 2))).setCell ⟨w.heap.size + 1, 3, none⟩ (.int .u8 (mixI (preI f) 3))).setCell ⟨w.heap.size + 1, 4, none⟩ (.int .u8 (mixI (preI f) 4))).setCell ⟨w.heap.size + 1, 5, none⟩ (.int .u8 (mixI (preI f) 5))).setCell ⟨w.heap.size + 1, 6, none⟩ (.int .u8 (mixI (preI f) 6))).setCell ⟨w.heap.size + 1, 7, none⟩ (.int .u8 (mixI (preI f) 7))).setCell ⟨w.heap.size + 1, 8, none⟩ (.int .u8 (mixI (preI f) 8))).setCell ⟨w.heap.size + 1, 9, none⟩ (.int .u8 (mixI (preI f) 9))).setCell ⟨w.heap.size + 1, 10, none⟩ (.int .u8 (mixI (preI f) 10))).setCell ⟨w.heap.size + 1, 11, none⟩ (.int .u8 (mixI (preI f) 11))).setCell ⟨w.heap.size + 1, 12, none⟩ (.int .u8 (mixI (preI f) 12))).setCell ⟨w.heap.size + 1, 13, none⟩ (.int .u8 (mixI (preI f) 13))).setCell ⟨w.heap.size + 1, 14, none⟩ (.int .u8 (mixI (preI f) 14))).setCell ⟨w.heap.size + 1, 15, none⟩ (.int .u8 (mixI (preI f) 15))) := by
    repeat (refine Below.setCell ?_ (by simp) _)
    exact ((below_alloc (below_alloc (below_alloc (below_alloc (below_alloc (below_alloc (Below.refl _ _) _) _) _) _) _) _).trans (hb.mono (by first | (simp; done) | (simp; omega))))
  exact bodyPost_ret (ret_state rfl rfl H16 rfl) rfl ⟨rfl, hB⟩
end Go.Proofs.Ytokkhnjedmlbhaa.Pr
