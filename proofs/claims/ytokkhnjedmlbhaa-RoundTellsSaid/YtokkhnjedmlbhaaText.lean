/-
  round's states: the text of one. Conditions: none.
-/
import Derived.Test.YtokkhnjedmlbhaaStateD
import Derived.Test.YtokkhnjedmlbhaaHx
namespace Go.Proofs.Ytokkhnjedmlbhaa.Pr
open Go.RowKit Go.Proofs.YtokkhnjedmlbhaaW.PrintWords Go.Proofs.YtokkhnjedmlbhaaW.PrintLast Go.Proofs.YtokkhnjedmlbhaaW.PrintMore
attribute [local go_sem] col0 col1 col2 col3
set_option maxHeartbeats 4000000 in
set_option maxRecDepth 100000 in
theorem text_calls (f : Nat → Int) (w : World) :
    Calls Try.prog 213 #[.agg (st16 f)] w fun e w' => e = .returned (.string (txt16 f)) ∧ Below w.heap.size w w' := by
  obtain ⟨i0, hi, hz0, hz1, hz2⟩ := info_parts (by kernel_rfl : (Try.prog.info? 5).map (fun i => (i.zero, i.size, i.bytes)) = some (some (.int .u8 0), 1, 1))
  have hmk : ∀ W : World, (Instr.makeSlice 66 (.int .i64 0) (.int .i64 16)).run Try.prog W = .ok (.slice (some ⟨W.heap.size, 0, none⟩) 0 16) (W.alloc (.cells (madeCells #[.int .u8 0] 16) 5)) := fun W => by
    have h := run_make (P := Try.prog) W 66 5 i0 (.int .u8 0) Try.underlying66 hi hz0 .i64 .i64 0 16 (by omega) (by omega) (by rw [hz2]; omega) (by omega)
    rw [hz1] at h
    exact h
  unfold st16
  go_enter Try.func213, Try.ntmps213
  go_wp2
  have hO : ((w.alloc (.cells #[.int .u8 (f 0), .int .u8 (f 1), .int .u8 (f 2), .int .u8 (f 3), .int .u8 (f 4), .int .u8 (f 5), .int .u8 (f 6), .int .u8 (f 7), .int .u8 (f 8), .int .u8 (f 9), .int .u8 (f 10), .int .u8 (f 11), .int .u8 (f 12), .int .u8 (f 13), .int .u8 (f 14), .int .u8 (f 15)] 90)).alloc (.cells (madeCells #[.int .u8 0] 16) 5)).ownsRow w.heap.size 5 1 (.slice (some ⟨w.heap.size + 1, 0, none⟩) 0 16) 0 (nums .u8 []) := by
    have h := World.ownsRow_made (base := w.heap.size) (e := 5) (size := 1) (w.alloc (.cells #[.int .u8 (f 0), .int .u8 (f 1), .int .u8 (f 2), .int .u8 (f 3), .int .u8 (f 4), .int .u8 (f 5), .int .u8 (f 6), .int .u8 (f 7), .int .u8 (f 8), .int .u8 (f 9), .int .u8 (f 10), .int .u8 (f 11), .int .u8 (f 12), .int .u8 (f 13), .int .u8 (f 14), .int .u8 (f 15)] 90)) (madeCells #[.int .u8 0] 16) 16 (by simp) (by simp [maxLen]) (by simp [size_madeCells])
    simpa [nums] using h
  have HO := Aside0.mk hO
  have HB := Aside0.mk ((((Below.refl w.heap.size w).alloc (Nat.le_refl _) (.cells #[.int .u8 (f 0), .int .u8 (f 1), .int .u8 (f 2), .int .u8 (f 3), .int .u8 (f 4), .int .u8 (f 5), .int .u8 (f 6), .int .u8 (f 7), .int .u8 (f 8), .int .u8 (f 9), .int .u8 (f 10), .int .u8 (f 11), .int .u8 (f 12), .int .u8 (f 13), .int .u8 (f 14), .int .u8 (f 15)] 90))).alloc (by simp) (.cells (madeCells #[.int .u8 0] 16) 5))
  clear hO hmk
  generalize (w.alloc (.cells #[.int .u8 (f 0), .int .u8 (f 1), .int .u8 (f 2), .int .u8 (f 3), .int .u8 (f 4), .int .u8 (f 5), .int .u8 (f 6), .int .u8 (f 7), .int .u8 (f 8), .int .u8 (f 9), .int .u8 (f 10), .int .u8 (f 11), .int .u8 (f 12), .int .u8 (f 13), .int .u8 (f 14), .int .u8 (f 15)] 90)).alloc (.cells (madeCells #[.int .u8 0] 16) 5) = W0 at *
  generalize Value.slice (some ⟨w.heap.size + 1, 0, none⟩) 0 16 = v0 at *
  refine wp_loop_rounds 5 ?_
  rw [rounds_succ]
  go_wp2_with (at_builtin; refine wpList_append_own _ rfl _ _ 66 rfl w.heap.size 5 i0 (.int .u8 0) 1 1 Try.underlying66 hi hz0 hz1 hz2 rfl (by decide) _ _ _ rfl (HO.out.alloc _) ⟨W0.heap.size, 0, none⟩ 4 4 [.int .u8 (f 0), .int .u8 (f 1), .int .u8 (f 2), .int .u8 (f 3)] rfl rfl ?c1 ?c2 ?c3 ?c4 ?c5 ?_)
  case c1 =>
    intro q u hq
    match q, hq with
    | 0, hq => simp at hq; subst hq; simp [Addr.add]
    | 1, hq => simp at hq; subst hq; simp [Addr.add]
    | 2, hq => simp at hq; subst hq; simp [Addr.add]
    | 3, hq => simp at hq; subst hq; simp [Addr.add]
  case c2 => intro u hu; simp at hu; rcases hu with rfl | rfl | rfl | rfl <;> rfl
  case c3 => simp [maxLen]
  case c4 => omega
  case c5 => have := HB.out.size; simp; omega
  intro v1 W1 hown1 hg1 _
  have HO1 := Aside0.mk (show W1.ownsRow w.heap.size 5 1 v1 4 (nums .u8 [f 0, f 1, f 2, f 3]) from hown1)
  have HB1 := Aside0.mk ((HB.out.alloc HB.out.size _).grown hg1 (by have := HB.out.size; simp; omega) (fun q hq => (HO.out.lt q hq).1))
  clear hown1 hg1 HO HB
  replace HO := HO1
  replace HB := HB1
  clear HO1 HB1
  go_wp2
  rw [rounds_succ]
  go_wp2_with (at_builtin; refine wpList_append_own _ rfl _ _ 66 rfl w.heap.size 5 i0 (.int .u8 0) 1 1 Try.underlying66 hi hz0 hz1 hz2 rfl (by decide) _ _ _ rfl (HO.out.alloc _) ⟨W1.heap.size, 0, none⟩ 4 4 [.int .u8 (f 4), .int .u8 (f 5), .int .u8 (f 6), .int .u8 (f 7)] rfl rfl ?c1 ?c2 ?c3 ?c4 ?c5 ?_)
  case c1 =>
    intro q u hq
    match q, hq with
    | 0, hq => simp at hq; subst hq; simp [Addr.add]
    | 1, hq => simp at hq; subst hq; simp [Addr.add]
    | 2, hq => simp at hq; subst hq; simp [Addr.add]
    | 3, hq => simp at hq; subst hq; simp [Addr.add]
  case c2 => intro u hu; simp at hu; rcases hu with rfl | rfl | rfl | rfl <;> rfl
  case c3 => simp [maxLen]
  case c4 => omega
  case c5 => have := HB.out.size; simp; omega
  intro v2 W2 hown2 hg2 _
  have HO2 := Aside0.mk (show W2.ownsRow w.heap.size 5 1 v2 8 (nums .u8 [f 0, f 1, f 2, f 3, f 4, f 5, f 6, f 7]) from hown2)
  have HB2 := Aside0.mk ((HB.out.alloc HB.out.size _).grown hg2 (by have := HB.out.size; simp; omega) (fun q hq => (HO.out.lt q hq).1))
  clear hown2 hg2 HO HB
  replace HO := HO2
  replace HB := HB2
  clear HO2 HB2
  go_wp2
  rw [rounds_succ]
  go_wp2_with (at_builtin; refine wpList_append_own _ rfl _ _ 66 rfl w.heap.size 5 i0 (.int .u8 0) 1 1 Try.underlying66 hi hz0 hz1 hz2 rfl (by decide) _ _ _ rfl (HO.out.alloc _) ⟨W2.heap.size, 0, none⟩ 4 4 [.int .u8 (f 8), .int .u8 (f 9), .int .u8 (f 10), .int .u8 (f 11)] rfl rfl ?c1 ?c2 ?c3 ?c4 ?c5 ?_)
  case c1 =>
    intro q u hq
    match q, hq with
    | 0, hq => simp at hq; subst hq; simp [Addr.add]
    | 1, hq => simp at hq; subst hq; simp [Addr.add]
    | 2, hq => simp at hq; subst hq; simp [Addr.add]
    | 3, hq => simp at hq; subst hq; simp [Addr.add]
  case c2 => intro u hu; simp at hu; rcases hu with rfl | rfl | rfl | rfl <;> rfl
  case c3 => simp [maxLen]
  case c4 => omega
  case c5 => have := HB.out.size; simp; omega
  intro v3 W3 hown3 hg3 _
  have HO3 := Aside0.mk (show W3.ownsRow w.heap.size 5 1 v3 12 (nums .u8 [f 0, f 1, f 2, f 3, f 4, f 5, f 6, f 7, f 8, f 9, f 10, f 11]) from hown3)
  have HB3 := Aside0.mk ((HB.out.alloc HB.out.size _).grown hg3 (by have := HB.out.size; simp; omega) (fun q hq => (HO.out.lt q hq).1))
  clear hown3 hg3 HO HB
  replace HO := HO3
  replace HB := HB3
  clear HO3 HB3
  go_wp2
  rw [rounds_succ]
  go_wp2_with (at_builtin; refine wpList_append_own _ rfl _ _ 66 rfl w.heap.size 5 i0 (.int .u8 0) 1 1 Try.underlying66 hi hz0 hz1 hz2 rfl (by decide) _ _ _ rfl (HO.out.alloc _) ⟨W3.heap.size, 0, none⟩ 4 4 [.int .u8 (f 12), .int .u8 (f 13), .int .u8 (f 14), .int .u8 (f 15)] rfl rfl ?c1 ?c2 ?c3 ?c4 ?c5 ?_)
  case c1 =>
    intro q u hq
    match q, hq with
    | 0, hq => simp at hq; subst hq; simp [Addr.add]
    | 1, hq => simp at hq; subst hq; simp [Addr.add]
    | 2, hq => simp at hq; subst hq; simp [Addr.add]
    | 3, hq => simp at hq; subst hq; simp [Addr.add]
  case c2 => intro u hu; simp at hu; rcases hu with rfl | rfl | rfl | rfl <;> rfl
  case c3 => simp [maxLen]
  case c4 => omega
  case c5 => have := HB.out.size; simp; omega
  intro v4 W4 hown4 hg4 _
  have HO4 := Aside0.mk (show W4.ownsRow w.heap.size 5 1 v4 16 (nums .u8 [f 0, f 1, f 2, f 3, f 4, f 5, f 6, f 7, f 8, f 9, f 10, f 11, f 12, f 13, f 14, f 15]) from hown4)
  have HB4 := Aside0.mk ((HB.out.alloc HB.out.size _).grown hg4 (by have := HB.out.size; simp; omega) (fun q hq => (HO.out.lt q hq).1))
  clear hown4 hg4 HO HB
  replace HO := HO4
  replace HB := HB4
  clear HO4 HB4
  go_wp2
  rw [rounds_succ]
  have hcv := own_string (P := Try.prog) Try.underlying66 Try.underlying5 Try.underlying9 HO.out
  go_wp2
  go_ret
  exact ⟨rfl, HB.out⟩
end Go.Proofs.Ytokkhnjedmlbhaa.Pr
