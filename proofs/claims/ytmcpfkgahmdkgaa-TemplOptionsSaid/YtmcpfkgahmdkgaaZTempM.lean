-- several texts in one (by the session's program shake.py)
import Derived.Test.YtmcpfkgahmdkgaaZPreq3
section
namespace Go.Proofs.Ytmcpfkgahmdkgaa.Pr
open Go.RowKit Go.Proofs.YtmcpfkgahmdkgaaW.PrintWords Go.Proofs.YtmcpfkgahmdkgaaW.PrintLast Go.Proofs.YtmcpfkgahmdkgaaW.PrintMore
attribute [local go_sem] max2_int min2_int max_two min_two max_three min_three max_four min_four   -- for this text's walks alone
set_option linter.unusedVariables false
set_option linter.unusedSimpArgs false

attribute [local go_sem high] eqA102
def clavigerplain_Few.l0 : Nat → List (S102) → Int → Option (Bool)
 | 0, _, _ => none
 | k + 1, x0, x5 => if x5 < (x0.length : Int) then (if 0 ≤ x5 then (if (((rd_T102 x0 x5).f1).size : Int) > 300 then (some false) else (clavigerplain_Few.l0 k x0 (wrap64 (x5 + 1)))) else (none)) else (some true)
def clavigerplain_Few.f (k : Nat) (l0 : List (S102)) (a1 : Int) : Option (Bool) := if (l0.length : Int) > a1 then (some false) else (clavigerplain_Few.l0 k l0 0)
theorem clavigerplain_Few.mono_l : ∀ k, (∀ y1 y2, LeO (clavigerplain_Few.l0 k y1 y2) (clavigerplain_Few.l0 (k + 1) y1 y2))
 | 0 => fun _ _ r h => by simp [clavigerplain_Few.l0] at h
 | k + 1 => by
  have ih0 := clavigerplain_Few.mono_l k
  ·intro y1 y2
   unfold clavigerplain_Few.l0
   repeat' first
   | (with_reducible exact ih0 _ _)
   | (with_reducible exact LeO.refl _)
   | (with_reducible exact LeO.none _)
   | (with_reducible refine LeO.ite ?_ ?_)
   | (with_reducible refine LeO.bind ?_ (fun _ => ?_))
theorem clavigerplain_Few.mono : ∀ a0 a1 k, LeO (clavigerplain_Few.f k a0 a1) (clavigerplain_Few.f (k + 1) a0 a1) := by
 intro a0 a1 k
 have ih0 := clavigerplain_Few.mono_l k
 unfold clavigerplain_Few.f
 repeat' first
   | (with_reducible exact ih0 _ _)
   | (with_reducible exact LeO.refl _)
   | (with_reducible exact LeO.none _)
   | (with_reducible refine LeO.ite ?_ ?_)
   | (with_reducible refine LeO.bind ?_ (fun _ => ?_))
set_option maxHeartbeats 8000000 in
set_option maxRecDepth 100000 in
theorem clavigerplain_Few.calls (k : Nat) (A0 : Option Addr) (c0 : Nat) (l0 : List (S102)) (a1 : Int) (r : Bool) (w : World) (hr0 : Kd.C k102 w A0 l0.length l0) (hc0 : l0.length ≤ c0) (h : clavigerplain_Few.f k l0 a1 = some r) :
  Calls Try.prog 47 #[.slice A0 l0.length c0, .int .i64 a1] w fun e w' => e = .returned (.bool r) ∧ Drawn0 w w' := by
 have HR0 := Aside0.mk hr0
 have HC0 := Aside0.mk hc0
 clear hr0 hc0
 have H : (if (l0.length : Int) > a1 then (some false) else (clavigerplain_Few.l0 k l0 0)) = some r := h
 clear h
 by_cases c3 : (l0.length : Int) > a1
 ·rw [if_pos c3] at H
  have c3b0 : decide (a1 < (l0.length : Int)) = true := decide_eq_true c3
  clear c3
  obtain rfl := Option.some.inj H
  go_enter Try.func47, Try.ntmps47
  go_wp2
  go_ret
  exact ⟨by first | rfl | (simp; done) | (simp [*]; done) | (simp [IntKind.wrap_u8, IntKind.wrap_i64, wrap64]; done), by repeat (first | exact Drawn0.refl _ | apply Drawn0.step)⟩
 ·rw [if_neg c3] at H
  have c3b0 : decide (a1 < (l0.length : Int)) = false := decide_eq_false c3
  clear c3
  have H' := Aside0.mk H
  clear H
  go_enter Try.func47, Try.ntmps47
  go_wp2
  go_loopg [5] k (fun kq v5 w' => ∃ (x5_1 : Int), v5 = .int .i64 x5_1 ∧ Aside0 (clavigerplain_Few.l0 kq l0 x5_1 = some r) ∧ Aside0 (kq ≤ k) ∧ Drawn0 w w')
  case atStart => exact ⟨(0), (by first | rfl | (simp; done) | (simp [*]; done)), H', ⟨Nat.le_refl _⟩, by repeat (first | exact Drawn0.refl _ | apply Drawn0.step)⟩
  case round =>
   clear H'
   try clear p2
   try clear c3
   try clear c3b0
   obtain ⟨x5_1, rfl, HA, HK1, ⟨m1, rfl⟩⟩ := hrel
   cases gk with
   | zero => exact absurd HA.out (by simp [clavigerplain_Few.l0])
   | succ k1 =>
    have H := HA.out
    clear HA
    simp only [clavigerplain_Few.l0] at H
    by_cases c4 : x5_1 < (l0.length : Int)
    ·rw [if_pos c4] at H
     have c4b0 : decide (x5_1 < (l0.length : Int)) = true := decide_eq_true c4
     clear c4
     by_cases c5 : 0 ≤ x5_1
     ·rw [if_pos c5] at H
      have c5b0 : decide (0 ≤ x5_1) = true := decide_eq_true c5
      clear c5
      by_cases c6 : (((rd_T102 l0 x5_1).f1).size : Int) > 300
      ·rw [if_pos c6] at H
       have c6b0 : decide (300 < (((rd_T102 l0 x5_1).f1).size : Int)) = true := decide_eq_true c6
       have c6b1 : decide (300 < ((rd_T102 l0 x5_1).f1).size) = true := decide_eq_true (by omega)
       clear c6
       obtain rfl := Option.some.inj H
       have p5001 : 0 ≤ (x5_1 : Int) := of_decide_eq_true (by assumption)
       have q5001 : x5_1 < (l0.length : Int) := of_decide_eq_true (by assumption)
       obtain ⟨ad5001, e5001, hx5001_0, hx5001_1⟩ := at_T102 HR0.out x5_1 p5001 q5001
       cases e5001
       replace p5001 := eq_true p5001
       replace q5001 := eq_true q5001
       go_wp2
       go_ret
       exact ⟨by first | rfl | (simp; done) | (simp [*]; done) | (simp [IntKind.wrap_u8, IntKind.wrap_i64, wrap64]; done), by repeat (first | exact Drawn0.refl _ | apply Drawn0.step)⟩
      ·rw [if_neg c6] at H
       have c6b0 : decide (300 < (((rd_T102 l0 x5_1).f1).size : Int)) = false := decide_eq_false c6
       have c6b1 : decide (300 < ((rd_T102 l0 x5_1).f1).size) = false := decide_eq_false (by omega)
       clear c6
       have H' := Aside0.mk H
       clear H
       have p5001 : 0 ≤ (x5_1 : Int) := of_decide_eq_true (by assumption)
       have q5001 : x5_1 < (l0.length : Int) := of_decide_eq_true (by assumption)
       obtain ⟨ad5001, e5001, hx5001_0, hx5001_1⟩ := at_T102 HR0.out x5_1 p5001 q5001
       cases e5001
       replace p5001 := eq_true p5001
       replace q5001 := eq_true q5001
       go_wp2
       go_roundg k1
       case measure => have := HK1.out; omega
       case rel => exact ⟨(wrap64 (x5_1 + 1)), (by first | rfl | (simp; done) | (simp [*]; done)), H', ⟨by have := HK1.out; omega⟩, by repeat (first | exact Drawn0.refl _ | apply Drawn0.step)⟩
     ·rw [if_neg c5] at H
      exact absurd H (by simp)
    ·rw [if_neg c4] at H
     have c4b0 : decide (x5_1 < (l0.length : Int)) = false := decide_eq_false c4
     clear c4
     obtain rfl := Option.some.inj H
     go_wp2
     go_ret
     exact ⟨by first | rfl | (simp; done) | (simp [*]; done) | (simp [IntKind.wrap_u8, IntKind.wrap_i64, wrap64]; done), by repeat (first | exact Drawn0.refl _ | apply Drawn0.step)⟩

def attr_Check.l0 : Nat → Int → List (S102) → Int → Int → Option (Int)
 | 0, _, _, _, _ => none
 | k + 1, x3, x9, x10, x11 => if x11 < x10 then (if 0 ≤ x11 then (if x11 < (x9.length : Int) then (if ((rd_T102 x9 x11).f0) ≤ x3 then (some 11) else (if ((rd_T102 x9 x11).f0) > 65535 then (some 11) else (if (((rd_T102 x9 x11).f1).size : Int) > 255 then (some 11) else (attr_Check.l0 k ((rd_T102 x9 x11).f0) x9 x10 (wrap64 (x11 + 1)))))) else (none)) else (none)) else (some 0)
def attr_Check.f (k : Nat) (l0 : List (S102)) : Option (Int) := if (l0.length : Int) > 32 then (some 11) else (attr_Check.l0 k 0 l0 (l0.length : Int) 0)
theorem attr_Check.mono_l : ∀ k, (∀ y1 y2 y3 y4, LeO (attr_Check.l0 k y1 y2 y3 y4) (attr_Check.l0 (k + 1) y1 y2 y3 y4))
 | 0 => fun _ _ _ _ r h => by simp [attr_Check.l0] at h
 | k + 1 => by
  have ih0 := attr_Check.mono_l k
  ·intro y1 y2 y3 y4
   unfold attr_Check.l0
   repeat' first
   | (with_reducible exact ih0 _ _ _ _)
   | (with_reducible exact LeO.refl _)
   | (with_reducible exact LeO.none _)
   | (with_reducible refine LeO.ite ?_ ?_)
   | (with_reducible refine LeO.bind ?_ (fun _ => ?_))
theorem attr_Check.mono : ∀ a0 k, LeO (attr_Check.f k a0) (attr_Check.f (k + 1) a0) := by
 intro a0 k
 have ih0 := attr_Check.mono_l k
 unfold attr_Check.f
 repeat' first
   | (with_reducible exact ih0 _ _ _ _)
   | (with_reducible exact LeO.refl _)
   | (with_reducible exact LeO.none _)
   | (with_reducible refine LeO.ite ?_ ?_)
   | (with_reducible refine LeO.bind ?_ (fun _ => ?_))
set_option maxHeartbeats 8000000 in
set_option maxRecDepth 100000 in
theorem attr_Check.calls (k : Nat) (A0 : Option Addr) (c0 : Nat) (l0 : List (S102)) (r : Int) (w : World) (hr0 : Kd.C k102 w A0 l0.length l0) (hc0 : l0.length ≤ c0) (h : attr_Check.f k l0 = some r) :
  Calls Try.prog 71 #[.slice A0 l0.length c0] w fun e w' => e = .returned (.int .i64 r) ∧ Below w.heap.size w w' := by
 have hu102 := Try.underlying102
 have HR0 := Aside0.mk hr0
 have HC0 := Aside0.mk hc0
 clear hr0 hc0
 have HB := Aside0.mk (Below.refl w.heap.size w)
 have H : (if (l0.length : Int) > 32 then (some 11) else (attr_Check.l0 k 0 l0 (l0.length : Int) 0)) = some r := h
 clear h
 by_cases c2 : (l0.length : Int) > 32
 ·rw [if_pos c2] at H
  have c2b0 : decide (32 < (l0.length : Int)) = true := decide_eq_true c2
  have c2b1 : decide (32 < l0.length) = true := decide_eq_true (by omega)
  clear c2
  obtain rfl := Option.some.inj H
  go_enter Try.func71, Try.ntmps71
  go_wp2
  go_ret
  exact ⟨by first | rfl | (simp [*, errW_none, errW_some] <;> rfl), by repeat first | with_reducible (first | exact HB.out | apply bA | apply bN | apply bD) | exact HB.out⟩
 ·rw [if_neg c2] at H
  have c2b0 : decide (32 < (l0.length : Int)) = false := decide_eq_false c2
  have c2b1 : decide (32 < l0.length) = false := decide_eq_false (by omega)
  clear c2
  have H' := Aside0.mk H
  clear H
  go_enter Try.func71, Try.ntmps71
  go_wp2
  go_loopg [3, 11] k (fun kq v3 v11 w' => ∃ (x3_1 : Int) (x11_1 : Int), v3 = .int .i64 x3_1 ∧ v11 = .int .i64 x11_1 ∧ Aside0 (attr_Check.l0 kq x3_1 l0 (l0.length : Int) x11_1 = some r) ∧ Aside0 (kq ≤ k) ∧ Aside0 (Below w.heap.size w w'))
  case atStart => exact ⟨(0), (0), (by first | rfl | (simp; done) | (simp [*]; done)), (by first | rfl | (simp; done) | (simp [*]; done)), H', ⟨Nat.le_refl _⟩, ⟨by repeat first | with_reducible (first | exact HB.out | apply bA | apply bN | apply bD) | exact HB.out⟩⟩
  case round =>
   clear H'
   try clear c2
   try clear c2b0
   try clear c2b1
   try clear p2
   obtain ⟨x3_1, x11_1, rfl, rfl, HA, HK1, HB⟩ := hrel
   cases gk with
   | zero => exact absurd HA.out (by simp [attr_Check.l0])
   | succ k1 =>
    have H := HA.out
    clear HA
    simp only [attr_Check.l0] at H
    by_cases c3 : x11_1 < (l0.length : Int)
    ·rw [if_pos c3] at H
     have c3b0 : decide (x11_1 < (l0.length : Int)) = true := decide_eq_true c3
     clear c3
     by_cases c4 : 0 ≤ x11_1
     ·rw [if_pos c4] at H
      have c4b0 : decide (0 ≤ x11_1) = true := decide_eq_true c4
      clear c4
      by_cases c5 : x11_1 < (l0.length : Int)
      ·rw [if_pos c5] at H
       have c5b0 : decide (x11_1 < (l0.length : Int)) = true := decide_eq_true c5
       clear c5
       by_cases c6 : ((rd_T102 l0 x11_1).f0) ≤ x3_1
       ·rw [if_pos c6] at H
        have c6b0 : decide (((rd_T102 l0 x11_1).f0) ≤ x3_1) = true := decide_eq_true c6
        clear c6
        obtain rfl := Option.some.inj H
        have p5001 : 0 ≤ (x11_1 : Int) := of_decide_eq_true (by assumption)
        have q5001 : x11_1 < (l0.length : Int) := of_decide_eq_true (by assumption)
        obtain ⟨ad5001, e5001, hx5001_0, hx5001_1⟩ := at_T102 HR0.out x11_1 p5001 q5001
        cases e5001
        replace hx5001_0 := (HB.out.cell (World.block_lt_of_cell? w _ hx5001_0)).trans hx5001_0
        replace hx5001_1 := (HB.out.cell (World.block_lt_of_cell? w _ hx5001_1)).trans hx5001_1
        replace p5001 := eq_true p5001
        replace q5001 := eq_true q5001
        go_wp2_with (first | ((with_reducible refine gate_dst (N := 5) rfl ?_); (try (refine gate_guard (by rfl) ?_; dsimp only)); refine box_event ?hg (N := 5) ?hd (cs := #[.int .i64 0, .string (⟨#[]⟩ : ByteArray)]) (t := 102) ?hr ?_; (case hd => rfl); (case hg => rfl); (case hr => first | (go_simp; done) | (go_simp; rfl)); intro gb305 hg w7 hbox hb; have n0_ := Aside0.mk (below_step (by repeat first | with_reducible (first | exact HB.out | apply bA | apply bN | apply bD) | exact HB.out) hb); have n1_ := Aside0.mk (hbox); have n2_ := Aside0.mk ((by rw [hg]; exact (below_size (by repeat first | with_reducible (first | exact HB.out | apply bA | apply bN | apply bD) | exact HB.out)) : w.heap.size ≤ gb305)); have n3_ := Aside0.mk ((by rw [hg]; exact (below_size (by repeat first | with_reducible (first | exact HB.out | apply bA | apply bN | apply bD) | exact HB.out)) : w.heap.size ≤ gb305)); clear HB; have HB := n0_; have BK305 := n1_; have GW305 := n2_; have GE305 := n3_; clear n0_ n1_ n2_ n3_; clear hb hbox hg; have hcz8_0 : w7.cell? ⟨gb305, 0, none⟩ = some (.int .i64 0) := (blk_cell BK305.out 0).trans rfl; have hcz8_1 : w7.cell? ⟨gb305, 1, none⟩ = some (.string (⟨#[]⟩ : ByteArray)) := (blk_cell BK305.out 1).trans rfl; have hfz8_0 := blk_frozen BK305.out 0; have hfz8_1 := blk_frozen BK305.out 1))
        go_ret
        exact ⟨by first | rfl | (simp [*, errW_none, errW_some] <;> rfl), by repeat (first | (with_reducible first | exact HB.out | apply below_alloc | apply pw_below_drewN | apply below_drew1 | refine below_set ?_ GE305.out) | exact HB.out)⟩
       ·rw [if_neg c6] at H
        have c6b0 : decide (((rd_T102 l0 x11_1).f0) ≤ x3_1) = false := decide_eq_false c6
        clear c6
        by_cases c9 : ((rd_T102 l0 x11_1).f0) > 65535
        ·rw [if_pos c9] at H
         have c9b0 : decide (65535 < ((rd_T102 l0 x11_1).f0)) = true := decide_eq_true c9
         clear c9
         obtain rfl := Option.some.inj H
         have p5001 : 0 ≤ (x11_1 : Int) := of_decide_eq_true (by assumption)
         have q5001 : x11_1 < (l0.length : Int) := of_decide_eq_true (by assumption)
         obtain ⟨ad5001, e5001, hx5001_0, hx5001_1⟩ := at_T102 HR0.out x11_1 p5001 q5001
         cases e5001
         replace hx5001_0 := (HB.out.cell (World.block_lt_of_cell? w _ hx5001_0)).trans hx5001_0
         replace hx5001_1 := (HB.out.cell (World.block_lt_of_cell? w _ hx5001_1)).trans hx5001_1
         replace p5001 := eq_true p5001
         replace q5001 := eq_true q5001
         go_wp2_with (first | ((with_reducible refine gate_dst (N := 5) rfl ?_); (try (refine gate_guard (by rfl) ?_; dsimp only)); refine box_event ?hg (N := 5) ?hd (cs := #[.int .i64 0, .string (⟨#[]⟩ : ByteArray)]) (t := 102) ?hr ?_; (case hd => rfl); (case hg => rfl); (case hr => first | (go_simp; done) | (go_simp; rfl)); intro gb305 hg w10 hbox hb; have n0_ := Aside0.mk (below_step (by repeat first | with_reducible (first | exact HB.out | apply bA | apply bN | apply bD) | exact HB.out) hb); have n1_ := Aside0.mk (hbox); have n2_ := Aside0.mk ((by rw [hg]; exact (below_size (by repeat first | with_reducible (first | exact HB.out | apply bA | apply bN | apply bD) | exact HB.out)) : w.heap.size ≤ gb305)); have n3_ := Aside0.mk ((by rw [hg]; exact (below_size (by repeat first | with_reducible (first | exact HB.out | apply bA | apply bN | apply bD) | exact HB.out)) : w.heap.size ≤ gb305)); clear HB; have HB := n0_; have BK305 := n1_; have GW305 := n2_; have GE305 := n3_; clear n0_ n1_ n2_ n3_; clear hb hbox hg; have hcz11_0 : w10.cell? ⟨gb305, 0, none⟩ = some (.int .i64 0) := (blk_cell BK305.out 0).trans rfl; have hcz11_1 : w10.cell? ⟨gb305, 1, none⟩ = some (.string (⟨#[]⟩ : ByteArray)) := (blk_cell BK305.out 1).trans rfl; have hfz11_0 := blk_frozen BK305.out 0; have hfz11_1 := blk_frozen BK305.out 1))
         go_ret
         exact ⟨by first | rfl | (simp [*, errW_none, errW_some] <;> rfl), by repeat (first | (with_reducible first | exact HB.out | apply below_alloc | apply pw_below_drewN | apply below_drew1 | refine below_set ?_ GE305.out) | exact HB.out)⟩
        ·rw [if_neg c9] at H
         have c9b0 : decide (65535 < ((rd_T102 l0 x11_1).f0)) = false := decide_eq_false c9
         clear c9
         by_cases c12 : (((rd_T102 l0 x11_1).f1).size : Int) > 255
         ·rw [if_pos c12] at H
          have c12b0 : decide (255 < (((rd_T102 l0 x11_1).f1).size : Int)) = true := decide_eq_true c12
          have c12b1 : decide (255 < ((rd_T102 l0 x11_1).f1).size) = true := decide_eq_true (by omega)
          clear c12
          obtain rfl := Option.some.inj H
          have p5001 : 0 ≤ (x11_1 : Int) := of_decide_eq_true (by assumption)
          have q5001 : x11_1 < (l0.length : Int) := of_decide_eq_true (by assumption)
          obtain ⟨ad5001, e5001, hx5001_0, hx5001_1⟩ := at_T102 HR0.out x11_1 p5001 q5001
          cases e5001
          replace hx5001_0 := (HB.out.cell (World.block_lt_of_cell? w _ hx5001_0)).trans hx5001_0
          replace hx5001_1 := (HB.out.cell (World.block_lt_of_cell? w _ hx5001_1)).trans hx5001_1
          replace p5001 := eq_true p5001
          replace q5001 := eq_true q5001
          go_wp2_with (first | ((with_reducible refine gate_dst (N := 5) rfl ?_); (try (refine gate_guard (by rfl) ?_; dsimp only)); refine box_event ?hg (N := 5) ?hd (cs := #[.int .i64 0, .string (⟨#[]⟩ : ByteArray)]) (t := 102) ?hr ?_; (case hd => rfl); (case hg => rfl); (case hr => first | (go_simp; done) | (go_simp; rfl)); intro gb305 hg w13 hbox hb; have n0_ := Aside0.mk (below_step (by repeat first | with_reducible (first | exact HB.out | apply bA | apply bN | apply bD) | exact HB.out) hb); have n1_ := Aside0.mk (hbox); have n2_ := Aside0.mk ((by rw [hg]; exact (below_size (by repeat first | with_reducible (first | exact HB.out | apply bA | apply bN | apply bD) | exact HB.out)) : w.heap.size ≤ gb305)); have n3_ := Aside0.mk ((by rw [hg]; exact (below_size (by repeat first | with_reducible (first | exact HB.out | apply bA | apply bN | apply bD) | exact HB.out)) : w.heap.size ≤ gb305)); clear HB; have HB := n0_; have BK305 := n1_; have GW305 := n2_; have GE305 := n3_; clear n0_ n1_ n2_ n3_; clear hb hbox hg; have hcz14_0 : w13.cell? ⟨gb305, 0, none⟩ = some (.int .i64 0) := (blk_cell BK305.out 0).trans rfl; have hcz14_1 : w13.cell? ⟨gb305, 1, none⟩ = some (.string (⟨#[]⟩ : ByteArray)) := (blk_cell BK305.out 1).trans rfl; have hfz14_0 := blk_frozen BK305.out 0; have hfz14_1 := blk_frozen BK305.out 1))
          go_ret
          exact ⟨by first | rfl | (simp [*, errW_none, errW_some] <;> rfl), by repeat (first | (with_reducible first | exact HB.out | apply below_alloc | apply pw_below_drewN | apply below_drew1 | refine below_set ?_ GE305.out) | exact HB.out)⟩
         ·rw [if_neg c12] at H
          have c12b0 : decide (255 < (((rd_T102 l0 x11_1).f1).size : Int)) = false := decide_eq_false c12
          have c12b1 : decide (255 < ((rd_T102 l0 x11_1).f1).size) = false := decide_eq_false (by omega)
          clear c12
          have H' := Aside0.mk H
          clear H
          have p5001 : 0 ≤ (x11_1 : Int) := of_decide_eq_true (by assumption)
          have q5001 : x11_1 < (l0.length : Int) := of_decide_eq_true (by assumption)
          obtain ⟨ad5001, e5001, hx5001_0, hx5001_1⟩ := at_T102 HR0.out x11_1 p5001 q5001
          cases e5001
          replace hx5001_0 := (HB.out.cell (World.block_lt_of_cell? w _ hx5001_0)).trans hx5001_0
          replace hx5001_1 := (HB.out.cell (World.block_lt_of_cell? w _ hx5001_1)).trans hx5001_1
          replace p5001 := eq_true p5001
          replace q5001 := eq_true q5001
          go_wp2_with (first | ((with_reducible refine gate_dst (N := 5) rfl ?_); (try (refine gate_guard (by rfl) ?_; dsimp only)); refine box_event ?hg (N := 5) ?hd (cs := #[.int .i64 0, .string (⟨#[]⟩ : ByteArray)]) (t := 102) ?hr ?_; (case hd => rfl); (case hg => rfl); (case hr => first | (go_simp; done) | (go_simp; rfl)); intro gb305 hg w15 hbox hb; have n0_ := Aside0.mk (below_step (by repeat first | with_reducible (first | exact HB.out | apply bA | apply bN | apply bD) | exact HB.out) hb); have n1_ := Aside0.mk (hbox); have n2_ := Aside0.mk ((by rw [hg]; exact (below_size (by repeat first | with_reducible (first | exact HB.out | apply bA | apply bN | apply bD) | exact HB.out)) : w.heap.size ≤ gb305)); have n3_ := Aside0.mk ((by rw [hg]; exact (below_size (by repeat first | with_reducible (first | exact HB.out | apply bA | apply bN | apply bD) | exact HB.out)) : w.heap.size ≤ gb305)); clear HB; have HB := n0_; have BK305 := n1_; have GW305 := n2_; have GE305 := n3_; clear n0_ n1_ n2_ n3_; clear hb hbox hg; have hcz16_0 : w15.cell? ⟨gb305, 0, none⟩ = some (.int .i64 0) := (blk_cell BK305.out 0).trans rfl; have hcz16_1 : w15.cell? ⟨gb305, 1, none⟩ = some (.string (⟨#[]⟩ : ByteArray)) := (blk_cell BK305.out 1).trans rfl; have hfz16_0 := blk_frozen BK305.out 0; have hfz16_1 := blk_frozen BK305.out 1))
          go_roundg k1
          case measure => have := HK1.out; omega
          case rel => exact ⟨((rd_T102 l0 x11_1).f0), (wrap64 (x11_1 + 1)), (by first | rfl | (simp; done) | (simp [*]; done)), (by first | rfl | (simp; done) | (simp [*]; done)), H', ⟨by have := HK1.out; omega⟩, ⟨by repeat (first | (with_reducible first | exact HB.out | apply below_alloc | apply pw_below_drewN | apply below_drew1 | refine below_set ?_ GE305.out) | exact HB.out)⟩⟩
      ·rw [if_neg c5] at H
       exact absurd H (by simp)
     ·rw [if_neg c4] at H
      exact absurd H (by simp)
    ·rw [if_neg c3] at H
     have c3b0 : decide (x11_1 < (l0.length : Int)) = false := decide_eq_false c3
     clear c3
     obtain rfl := Option.some.inj H
     go_wp2
     go_ret
     exact ⟨by first | rfl | (simp [*, errW_none, errW_some] <;> rfl), by repeat first | with_reducible (first | exact HB.out | apply bA | apply bN | apply bD) | exact HB.out⟩

def clavigerref24_Check.l0 : Nat → List (S102) → Int → Option (Int)
 | 0, _, _ => none
 | k + 1, x0, x3 => if x3 < (x0.length : Int) then (if 0 ≤ x3 then (if ((rd_T102 x0 x3).f0) < 1 then (some 11) else (if ((rd_T102 x0 x3).f0) > 65535 then (some 11) else (if (((rd_T102 x0 x3).f1).size : Int) > 255 then (some 11) else (if x3 > 0 then (if 0 ≤ (wrap64 (x3 - 1)) then (if (wrap64 (x3 - 1)) < (x0.length : Int) then (if ((rd_T102 x0 (wrap64 (x3 - 1))).f0) ≥ ((rd_T102 x0 x3).f0) then (some 11) else (clavigerref24_Check.l0 k x0 (wrap64 (x3 + 1)))) else (none)) else (none)) else (clavigerref24_Check.l0 k x0 (wrap64 (x3 + 1))))))) else (none)) else (some 0)
def clavigerref24_Check.f (k : Nat) (l0 : List (S102)) : Option (Int) := if (l0.length : Int) > 32 then (some 11) else (clavigerref24_Check.l0 k l0 0)
theorem clavigerref24_Check.mono_l : ∀ k, (∀ y1 y2, LeO (clavigerref24_Check.l0 k y1 y2) (clavigerref24_Check.l0 (k + 1) y1 y2))
 | 0 => fun _ _ r h => by simp [clavigerref24_Check.l0] at h
 | k + 1 => by
  have ih0 := clavigerref24_Check.mono_l k
  ·intro y1 y2
   unfold clavigerref24_Check.l0
   repeat' first
   | (with_reducible exact ih0 _ _)
   | (with_reducible exact LeO.refl _)
   | (with_reducible exact LeO.none _)
   | (with_reducible refine LeO.ite ?_ ?_)
   | (with_reducible refine LeO.bind ?_ (fun _ => ?_))
theorem clavigerref24_Check.mono : ∀ a0 k, LeO (clavigerref24_Check.f k a0) (clavigerref24_Check.f (k + 1) a0) := by
 intro a0 k
 have ih0 := clavigerref24_Check.mono_l k
 unfold clavigerref24_Check.f
 repeat' first
   | (with_reducible exact ih0 _ _)
   | (with_reducible exact LeO.refl _)
   | (with_reducible exact LeO.none _)
   | (with_reducible refine LeO.ite ?_ ?_)
   | (with_reducible refine LeO.bind ?_ (fun _ => ?_))
set_option maxHeartbeats 8000000 in
set_option maxRecDepth 100000 in
theorem clavigerref24_Check.calls (k : Nat) (A0 : Option Addr) (c0 : Nat) (l0 : List (S102)) (r : Int) (w : World) (hr0 : Kd.C k102 w A0 l0.length l0) (hc0 : l0.length ≤ c0) (h : clavigerref24_Check.f k l0 = some r) :
  Calls Try.prog 75 #[.slice A0 l0.length c0] w fun e w' => e = .returned (.int .i64 r) ∧ Drawn0 w w' := by
 have HR0 := Aside0.mk hr0
 have HC0 := Aside0.mk hc0
 clear hr0 hc0
 have H : (if (l0.length : Int) > 32 then (some 11) else (clavigerref24_Check.l0 k l0 0)) = some r := h
 clear h
 by_cases c2 : (l0.length : Int) > 32
 ·rw [if_pos c2] at H
  have c2b0 : decide (32 < (l0.length : Int)) = true := decide_eq_true c2
  have c2b1 : decide (32 < l0.length) = true := decide_eq_true (by omega)
  clear c2
  obtain rfl := Option.some.inj H
  go_enter Try.func75, Try.ntmps75
  go_wp2
  repeat (go_quiet (fail); try go_wp2)
  go_ret
  exact ⟨by first | rfl | (simp; done) | (simp [*]; done) | (simp [IntKind.wrap_u8, IntKind.wrap_i64, wrap64]; done), by repeat (first | exact Drawn0.refl _ | apply Drawn0.step)⟩
 ·rw [if_neg c2] at H
  have c2b0 : decide (32 < (l0.length : Int)) = false := decide_eq_false c2
  have c2b1 : decide (32 < l0.length) = false := decide_eq_false (by omega)
  clear c2
  have H' := Aside0.mk H
  clear H
  go_enter Try.func75, Try.ntmps75
  go_wp2
  repeat (go_quiet (fail); try go_wp2)
  go_loopg [3] k (fun kq v3 w' => ∃ (x3_1 : Int), v3 = .int .i64 x3_1 ∧ Aside0 (clavigerref24_Check.l0 kq l0 x3_1 = some r) ∧ Aside0 (kq ≤ k) ∧ Drawn0 w w')
  case atStart => exact ⟨(0), (by first | rfl | (simp; done) | (simp [*]; done)), H', ⟨Nat.le_refl _⟩, by repeat (first | exact Drawn0.refl _ | apply Drawn0.step)⟩
  case round =>
   clear H'
   try clear c2
   try clear c2b0
   try clear c2b1
   try clear p2
   obtain ⟨x3_1, rfl, HA, HK1, ⟨m1, rfl⟩⟩ := hrel
   cases gk with
   | zero => exact absurd HA.out (by simp [clavigerref24_Check.l0])
   | succ k1 =>
    have H := HA.out
    clear HA
    simp only [clavigerref24_Check.l0] at H
    by_cases c3 : x3_1 < (l0.length : Int)
    ·rw [if_pos c3] at H
     have c3b0 : decide (x3_1 < (l0.length : Int)) = true := decide_eq_true c3
     clear c3
     by_cases c4 : 0 ≤ x3_1
     ·rw [if_pos c4] at H
      have c4b0 : decide (0 ≤ x3_1) = true := decide_eq_true c4
      clear c4
      by_cases c5 : ((rd_T102 l0 x3_1).f0) < 1
      ·rw [if_pos c5] at H
       have c5b0 : decide (((rd_T102 l0 x3_1).f0) < 1) = true := decide_eq_true c5
       clear c5
       obtain rfl := Option.some.inj H
       have p5001 : 0 ≤ (x3_1 : Int) := of_decide_eq_true (by assumption)
       have q5001 : x3_1 < (l0.length : Int) := of_decide_eq_true (by assumption)
       obtain ⟨ad5001, e5001, hx5001_0, hx5001_1⟩ := at_T102 HR0.out x3_1 p5001 q5001
       cases e5001
       replace p5001 := eq_true p5001
       replace q5001 := eq_true q5001
       go_wp2
       repeat (go_quiet (fail); try go_wp2)
       go_ret
       exact ⟨by first | rfl | (simp; done) | (simp [*]; done) | (simp [IntKind.wrap_u8, IntKind.wrap_i64, wrap64]; done), by repeat (first | exact Drawn0.refl _ | apply Drawn0.step)⟩
      ·rw [if_neg c5] at H
       have c5b0 : decide (((rd_T102 l0 x3_1).f0) < 1) = false := decide_eq_false c5
       clear c5
       by_cases c6 : ((rd_T102 l0 x3_1).f0) > 65535
       ·rw [if_pos c6] at H
        have c6b0 : decide (65535 < ((rd_T102 l0 x3_1).f0)) = true := decide_eq_true c6
        clear c6
        obtain rfl := Option.some.inj H
        have p5001 : 0 ≤ (x3_1 : Int) := of_decide_eq_true (by assumption)
        have q5001 : x3_1 < (l0.length : Int) := of_decide_eq_true (by assumption)
        obtain ⟨ad5001, e5001, hx5001_0, hx5001_1⟩ := at_T102 HR0.out x3_1 p5001 q5001
        cases e5001
        replace p5001 := eq_true p5001
        replace q5001 := eq_true q5001
        have p5002 : 0 ≤ (x3_1 : Int) := of_decide_eq_true (by assumption)
        have q5002 : x3_1 < (l0.length : Int) := of_decide_eq_true (by assumption)
        obtain ⟨ad5002, e5002, hx5002_0, hx5002_1⟩ := at_T102 HR0.out x3_1 p5002 q5002
        obtain rfl : ad5001 = ad5002 := (by injection e5002)
        replace p5002 := eq_true p5002
        replace q5002 := eq_true q5002
        go_wp2
        repeat (go_quiet (fail); try go_wp2)
        go_ret
        exact ⟨by first | rfl | (simp; done) | (simp [*]; done) | (simp [IntKind.wrap_u8, IntKind.wrap_i64, wrap64]; done), by repeat (first | exact Drawn0.refl _ | apply Drawn0.step)⟩
       ·rw [if_neg c6] at H
        have c6b0 : decide (65535 < ((rd_T102 l0 x3_1).f0)) = false := decide_eq_false c6
        clear c6
        by_cases c7 : (((rd_T102 l0 x3_1).f1).size : Int) > 255
        ·rw [if_pos c7] at H
         have c7b0 : decide (255 < (((rd_T102 l0 x3_1).f1).size : Int)) = true := decide_eq_true c7
         have c7b1 : decide (255 < ((rd_T102 l0 x3_1).f1).size) = true := decide_eq_true (by omega)
         clear c7
         obtain rfl := Option.some.inj H
         have p5001 : 0 ≤ (x3_1 : Int) := of_decide_eq_true (by assumption)
         have q5001 : x3_1 < (l0.length : Int) := of_decide_eq_true (by assumption)
         obtain ⟨ad5001, e5001, hx5001_0, hx5001_1⟩ := at_T102 HR0.out x3_1 p5001 q5001
         cases e5001
         replace p5001 := eq_true p5001
         replace q5001 := eq_true q5001
         have p5002 : 0 ≤ (x3_1 : Int) := of_decide_eq_true (by assumption)
         have q5002 : x3_1 < (l0.length : Int) := of_decide_eq_true (by assumption)
         obtain ⟨ad5002, e5002, hx5002_0, hx5002_1⟩ := at_T102 HR0.out x3_1 p5002 q5002
         obtain rfl : ad5001 = ad5002 := (by injection e5002)
         replace p5002 := eq_true p5002
         replace q5002 := eq_true q5002
         have p5003 : 0 ≤ (x3_1 : Int) := of_decide_eq_true (by assumption)
         have q5003 : x3_1 < (l0.length : Int) := of_decide_eq_true (by assumption)
         obtain ⟨ad5003, e5003, hx5003_0, hx5003_1⟩ := at_T102 HR0.out x3_1 p5003 q5003
         obtain rfl : ad5001 = ad5003 := (by injection e5003)
         replace p5003 := eq_true p5003
         replace q5003 := eq_true q5003
         go_wp2
         repeat (go_quiet (fail); try go_wp2)
         go_ret
         exact ⟨by first | rfl | (simp; done) | (simp [*]; done) | (simp [IntKind.wrap_u8, IntKind.wrap_i64, wrap64]; done), by repeat (first | exact Drawn0.refl _ | apply Drawn0.step)⟩
        ·rw [if_neg c7] at H
         have c7b0 : decide (255 < (((rd_T102 l0 x3_1).f1).size : Int)) = false := decide_eq_false c7
         have c7b1 : decide (255 < ((rd_T102 l0 x3_1).f1).size) = false := decide_eq_false (by omega)
         clear c7
         by_cases c8 : x3_1 > 0
         ·rw [if_pos c8] at H
          have c8b0 : decide (0 < x3_1) = true := decide_eq_true c8
          clear c8
          obtain ⟨ji9, hji9⟩ : ∃ j_ : Int, (wrap64 (x3_1 - 1)) = j_ := ⟨_, rfl⟩
          replace H : (if 0 ≤ (ji9) then (if (ji9) < (l0.length : Int) then (if ((rd_T102 l0 (ji9)).f0) ≥ ((rd_T102 l0 x3_1).f0) then (some 11) else (clavigerref24_Check.l0 k1 l0 (wrap64 (x3_1 + 1)))) else (none)) else (none)) = some r := by first | (rw [hji9] at H; exact H) | (simp only [hji9] at H ⊢; exact H)
          have hji9w : (IntKind.i64.wrap (x3_1 - 1)) = ji9 := (i64_w _).trans hji9
          by_cases c10 : 0 ≤ (ji9)
          ·rw [if_pos c10] at H
           have c10b0 : decide (0 ≤ (ji9)) = true := decide_eq_true c10
           clear c10
           by_cases c11 : (ji9) < (l0.length : Int)
           ·rw [if_pos c11] at H
            have c11b0 : decide ((ji9) < (l0.length : Int)) = true := decide_eq_true c11
            clear c11
            by_cases c12 : ((rd_T102 l0 (ji9)).f0) ≥ ((rd_T102 l0 x3_1).f0)
            ·rw [if_pos c12] at H
             have c12b0 : decide (((rd_T102 l0 x3_1).f0) ≤ ((rd_T102 l0 (ji9)).f0)) = true := decide_eq_true c12
             clear c12
             obtain rfl := Option.some.inj H
             have p5001 : 0 ≤ (x3_1 : Int) := of_decide_eq_true (by assumption)
             have q5001 : x3_1 < (l0.length : Int) := of_decide_eq_true (by assumption)
             obtain ⟨ad5001, e5001, hx5001_0, hx5001_1⟩ := at_T102 HR0.out x3_1 p5001 q5001
             cases e5001
             replace p5001 := eq_true p5001
             replace q5001 := eq_true q5001
             have p5002 : 0 ≤ (x3_1 : Int) := of_decide_eq_true (by assumption)
             have q5002 : x3_1 < (l0.length : Int) := of_decide_eq_true (by assumption)
             obtain ⟨ad5002, e5002, hx5002_0, hx5002_1⟩ := at_T102 HR0.out x3_1 p5002 q5002
             obtain rfl : ad5001 = ad5002 := (by injection e5002)
             replace p5002 := eq_true p5002
             replace q5002 := eq_true q5002
             have p5003 : 0 ≤ (x3_1 : Int) := of_decide_eq_true (by assumption)
             have q5003 : x3_1 < (l0.length : Int) := of_decide_eq_true (by assumption)
             obtain ⟨ad5003, e5003, hx5003_0, hx5003_1⟩ := at_T102 HR0.out x3_1 p5003 q5003
             obtain rfl : ad5001 = ad5003 := (by injection e5003)
             replace p5003 := eq_true p5003
             replace q5003 := eq_true q5003
             have p5004 : 0 ≤ ((ji9) : Int) := of_decide_eq_true (by assumption)
             have q5004 : (ji9) < (l0.length : Int) := of_decide_eq_true (by assumption)
             obtain ⟨ad5004, e5004, hx5004_0, hx5004_1⟩ := at_T102 HR0.out (ji9) p5004 q5004
             obtain rfl : ad5001 = ad5004 := (by injection e5004)
             replace p5004 := eq_true p5004
             replace q5004 := eq_true q5004
             have p5005 : 0 ≤ (x3_1 : Int) := of_decide_eq_true (by assumption)
             have q5005 : x3_1 < (l0.length : Int) := of_decide_eq_true (by assumption)
             obtain ⟨ad5005, e5005, hx5005_0, hx5005_1⟩ := at_T102 HR0.out x3_1 p5005 q5005
             obtain rfl : ad5001 = ad5005 := (by injection e5005)
             replace p5005 := eq_true p5005
             replace q5005 := eq_true q5005
             go_wp2
             repeat (go_quiet (fail); try go_wp2)
             go_ret
             exact ⟨by first | rfl | (simp; done) | (simp only [← hji9] <;> (first | rfl | (simp; done) | (simp [IntKind.wrap_u8, IntKind.wrap_i64, wrap64]; done))) | (simp [*]; done) | (simp [IntKind.wrap_u8, IntKind.wrap_i64, wrap64]; done), by repeat (first | exact Drawn0.refl _ | apply Drawn0.step)⟩
            ·rw [if_neg c12] at H
             have c12b0 : decide (((rd_T102 l0 x3_1).f0) ≤ ((rd_T102 l0 (ji9)).f0)) = false := decide_eq_false c12
             clear c12
             have H' := Aside0.mk H
             clear H
             have p5001 : 0 ≤ (x3_1 : Int) := of_decide_eq_true (by assumption)
             have q5001 : x3_1 < (l0.length : Int) := of_decide_eq_true (by assumption)
             obtain ⟨ad5001, e5001, hx5001_0, hx5001_1⟩ := at_T102 HR0.out x3_1 p5001 q5001
             cases e5001
             replace p5001 := eq_true p5001
             replace q5001 := eq_true q5001
             have p5002 : 0 ≤ (x3_1 : Int) := of_decide_eq_true (by assumption)
             have q5002 : x3_1 < (l0.length : Int) := of_decide_eq_true (by assumption)
             obtain ⟨ad5002, e5002, hx5002_0, hx5002_1⟩ := at_T102 HR0.out x3_1 p5002 q5002
             obtain rfl : ad5001 = ad5002 := (by injection e5002)
             replace p5002 := eq_true p5002
             replace q5002 := eq_true q5002
             have p5003 : 0 ≤ (x3_1 : Int) := of_decide_eq_true (by assumption)
             have q5003 : x3_1 < (l0.length : Int) := of_decide_eq_true (by assumption)
             obtain ⟨ad5003, e5003, hx5003_0, hx5003_1⟩ := at_T102 HR0.out x3_1 p5003 q5003
             obtain rfl : ad5001 = ad5003 := (by injection e5003)
             replace p5003 := eq_true p5003
             replace q5003 := eq_true q5003
             have p5004 : 0 ≤ ((ji9) : Int) := of_decide_eq_true (by assumption)
             have q5004 : (ji9) < (l0.length : Int) := of_decide_eq_true (by assumption)
             obtain ⟨ad5004, e5004, hx5004_0, hx5004_1⟩ := at_T102 HR0.out (ji9) p5004 q5004
             obtain rfl : ad5001 = ad5004 := (by injection e5004)
             replace p5004 := eq_true p5004
             replace q5004 := eq_true q5004
             have p5005 : 0 ≤ (x3_1 : Int) := of_decide_eq_true (by assumption)
             have q5005 : x3_1 < (l0.length : Int) := of_decide_eq_true (by assumption)
             obtain ⟨ad5005, e5005, hx5005_0, hx5005_1⟩ := at_T102 HR0.out x3_1 p5005 q5005
             obtain rfl : ad5001 = ad5005 := (by injection e5005)
             replace p5005 := eq_true p5005
             replace q5005 := eq_true q5005
             go_wp2
             repeat (go_quiet (fail); try go_wp2)
             go_roundg k1
             case measure => have := HK1.out; omega
             case rel => exact ⟨(wrap64 (x3_1 + 1)), (by first | rfl | (simp; done) | (simp [*]; done)), H', ⟨by have := HK1.out; omega⟩, by repeat (first | exact Drawn0.refl _ | apply Drawn0.step)⟩
           ·rw [if_neg c11] at H
            exact absurd H (by simp)
          ·rw [if_neg c10] at H
           exact absurd H (by simp)
         ·rw [if_neg c8] at H
          have c8b0 : decide (0 < x3_1) = false := decide_eq_false c8
          clear c8
          have H' := Aside0.mk H
          clear H
          have p5001 : 0 ≤ (x3_1 : Int) := of_decide_eq_true (by assumption)
          have q5001 : x3_1 < (l0.length : Int) := of_decide_eq_true (by assumption)
          obtain ⟨ad5001, e5001, hx5001_0, hx5001_1⟩ := at_T102 HR0.out x3_1 p5001 q5001
          cases e5001
          replace p5001 := eq_true p5001
          replace q5001 := eq_true q5001
          have p5002 : 0 ≤ (x3_1 : Int) := of_decide_eq_true (by assumption)
          have q5002 : x3_1 < (l0.length : Int) := of_decide_eq_true (by assumption)
          obtain ⟨ad5002, e5002, hx5002_0, hx5002_1⟩ := at_T102 HR0.out x3_1 p5002 q5002
          obtain rfl : ad5001 = ad5002 := (by injection e5002)
          replace p5002 := eq_true p5002
          replace q5002 := eq_true q5002
          have p5003 : 0 ≤ (x3_1 : Int) := of_decide_eq_true (by assumption)
          have q5003 : x3_1 < (l0.length : Int) := of_decide_eq_true (by assumption)
          obtain ⟨ad5003, e5003, hx5003_0, hx5003_1⟩ := at_T102 HR0.out x3_1 p5003 q5003
          obtain rfl : ad5001 = ad5003 := (by injection e5003)
          replace p5003 := eq_true p5003
          replace q5003 := eq_true q5003
          go_wp2
          repeat (go_quiet (fail); try go_wp2)
          go_roundg k1
          case measure => have := HK1.out; omega
          case rel => exact ⟨(wrap64 (x3_1 + 1)), (by first | rfl | (simp; done) | (simp [*]; done)), H', ⟨by have := HK1.out; omega⟩, by repeat (first | exact Drawn0.refl _ | apply Drawn0.step)⟩
     ·rw [if_neg c4] at H
      exact absurd H (by simp)
    ·rw [if_neg c3] at H
     have c3b0 : decide (x3_1 < (l0.length : Int)) = false := decide_eq_false c3
     clear c3
     obtain rfl := Option.some.inj H
     go_wp2
     repeat (go_quiet (fail); try go_wp2)
     go_ret
     exact ⟨by first | rfl | (simp; done) | (simp [*]; done) | (simp [IntKind.wrap_u8, IntKind.wrap_i64, wrap64]; done), by repeat (first | exact Drawn0.refl _ | apply Drawn0.step)⟩

def clavigerplain_Attrs.l0 : Nat → List (S102) → List (S102) → Int → Option (Bool)
 | 0, _, _, _ => none
 | k + 1, x0, x1, x5 => if x5 < (x0.length : Int) then (if 0 ≤ x5 then (if x5 < (x1.length : Int) then (if (!(((rd_T102 x0 x5).f0) == ((rd_T102 x1 x5).f0)) || (!((((rd_T102 x0 x5).f1).toList) == (((rd_T102 x1 x5).f1).toList)))) = true then (some false) else (clavigerplain_Attrs.l0 k x0 x1 (wrap64 (x5 + 1)))) else (none)) else (none)) else (some true)
def clavigerplain_Attrs.f (k : Nat) (l0 : List (S102)) (l1 : List (S102)) : Option (Bool) := if (l0.length : Int) = (l1.length : Int) then (clavigerplain_Attrs.l0 k l0 l1 0) else (some false)
theorem clavigerplain_Attrs.mono_l : ∀ k, (∀ y1 y2 y3, LeO (clavigerplain_Attrs.l0 k y1 y2 y3) (clavigerplain_Attrs.l0 (k + 1) y1 y2 y3))
 | 0 => fun _ _ _ r h => by simp [clavigerplain_Attrs.l0] at h
 | k + 1 => by
  have ih0 := clavigerplain_Attrs.mono_l k
  ·intro y1 y2 y3
   unfold clavigerplain_Attrs.l0
   repeat' first
   | (with_reducible exact ih0 _ _ _)
   | (with_reducible exact LeO.refl _)
   | (with_reducible exact LeO.none _)
   | (with_reducible refine LeO.ite ?_ ?_)
   | (with_reducible refine LeO.bind ?_ (fun _ => ?_))
theorem clavigerplain_Attrs.mono : ∀ a0 a1 k, LeO (clavigerplain_Attrs.f k a0 a1) (clavigerplain_Attrs.f (k + 1) a0 a1) := by
 intro a0 a1 k
 have ih0 := clavigerplain_Attrs.mono_l k
 unfold clavigerplain_Attrs.f
 repeat' first
   | (with_reducible exact ih0 _ _ _)
   | (with_reducible exact LeO.refl _)
   | (with_reducible exact LeO.none _)
   | (with_reducible refine LeO.ite ?_ ?_)
   | (with_reducible refine LeO.bind ?_ (fun _ => ?_))
set_option maxHeartbeats 8000000 in
set_option maxRecDepth 100000 in
theorem clavigerplain_Attrs.calls (k : Nat) (A0 : Option Addr) (c0 : Nat) (l0 : List (S102)) (A1 : Option Addr) (c1 : Nat) (l1 : List (S102)) (r : Bool) (w : World) (hr0 : Kd.C k102 w A0 l0.length l0) (hc0 : l0.length ≤ c0) (hr1 : Kd.C k102 w A1 l1.length l1) (hc1 : l1.length ≤ c1) (h : clavigerplain_Attrs.f k l0 l1 = some r) :
  Calls Try.prog 53 #[.slice A0 l0.length c0, .slice A1 l1.length c1] w fun e w' => e = .returned (.bool r) ∧ Drawn0 w w' := by
 have hu102 := Try.underlying102
 have HR0 := Aside0.mk hr0
 have HC0 := Aside0.mk hc0
 clear hr0 hc0
 have HR1 := Aside0.mk hr1
 have HC1 := Aside0.mk hc1
 clear hr1 hc1
 have H : (if (l0.length : Int) = (l1.length : Int) then (clavigerplain_Attrs.l0 k l0 l1 0) else (some false)) = some r := h
 clear h
 by_cases c3 : (l0.length : Int) = (l1.length : Int)
 ·rw [if_pos c3] at H
  have c3b0 : ((l0.length : Int) == (l1.length : Int)) = true := beq_iff_eq.mpr c3
  have c3b1 : ((l0.length : Int) != (l1.length : Int)) = false := bne_eq_false_iff_eq.mpr c3
  have c3b2 : (l0.length == l1.length) = true := by first | simpa using c3 | (simp at c3 ⊢; omega)
  clear c3
  have H' := Aside0.mk H
  clear H
  go_enter Try.func53, Try.ntmps53
  go_wp2
  repeat (go_quiet (fail); try go_wp2)
  go_loopg [5] k (fun kq v5 w' => ∃ (x5_1 : Int), v5 = .int .i64 x5_1 ∧ Aside0 (clavigerplain_Attrs.l0 kq l0 l1 x5_1 = some r) ∧ Aside0 (kq ≤ k) ∧ Drawn0 w w')
  case atStart => exact ⟨(0), (by first | rfl | (simp; done) | (simp [*]; done)), H', ⟨Nat.le_refl _⟩, by repeat (first | exact Drawn0.refl _ | apply Drawn0.step)⟩
  case round =>
   clear H'
   try clear c1
   try clear p2
   try clear c3
   try clear c3b0
   try clear c3b1
   try clear c3b2
   obtain ⟨x5_1, rfl, HA, HK1, ⟨m1, rfl⟩⟩ := hrel
   cases gk with
   | zero => exact absurd HA.out (by simp [clavigerplain_Attrs.l0])
   | succ k1 =>
    have H := HA.out
    clear HA
    simp only [clavigerplain_Attrs.l0] at H
    by_cases c4 : x5_1 < (l0.length : Int)
    ·rw [if_pos c4] at H
     have c4b0 : decide (x5_1 < (l0.length : Int)) = true := decide_eq_true c4
     clear c4
     by_cases c5 : 0 ≤ x5_1
     ·rw [if_pos c5] at H
      have c5b0 : decide (0 ≤ x5_1) = true := decide_eq_true c5
      clear c5
      by_cases c6 : x5_1 < (l1.length : Int)
      ·rw [if_pos c6] at H
       have c6b0 : decide (x5_1 < (l1.length : Int)) = true := decide_eq_true c6
       clear c6
       by_cases c7 : (!(((rd_T102 l0 x5_1).f0) == ((rd_T102 l1 x5_1).f0)) || (!((((rd_T102 l0 x5_1).f1).toList) == (((rd_T102 l1 x5_1).f1).toList)))) = true
       ·rw [if_pos c7] at H
        have c7b0 : (!(((rd_T102 l0 x5_1).f0) == ((rd_T102 l1 x5_1).f0)) || (!((((rd_T102 l0 x5_1).f1).toList) == (((rd_T102 l1 x5_1).f1).toList)))) = true := c7
        clear c7
        obtain rfl := Option.some.inj H
        have p5001 : 0 ≤ (x5_1 : Int) := of_decide_eq_true (by assumption)
        have q5001 : x5_1 < (l0.length : Int) := of_decide_eq_true (by assumption)
        obtain ⟨ad5001, e5001, hx5001_0, hx5001_1⟩ := at_T102 HR0.out x5_1 p5001 q5001
        cases e5001
        replace p5001 := eq_true p5001
        replace q5001 := eq_true q5001
        have p5002 : 0 ≤ (x5_1 : Int) := of_decide_eq_true (by assumption)
        have q5002 : x5_1 < (l1.length : Int) := of_decide_eq_true (by assumption)
        obtain ⟨ad5002, e5002, hx5002_0, hx5002_1⟩ := at_T102 HR1.out x5_1 p5002 q5002
        cases e5002
        replace p5002 := eq_true p5002
        replace q5002 := eq_true q5002
        go_wp2
        repeat (go_quiet (fail); try go_wp2)
        go_ret
        exact ⟨by first | rfl | (simp; done) | (simp [*]; done) | (simp [IntKind.wrap_u8, IntKind.wrap_i64, wrap64]; done), by repeat (first | exact Drawn0.refl _ | apply Drawn0.step)⟩
       ·rw [if_neg c7] at H
        have c7b0 : (!(((rd_T102 l0 x5_1).f0) == ((rd_T102 l1 x5_1).f0)) || (!((((rd_T102 l0 x5_1).f1).toList) == (((rd_T102 l1 x5_1).f1).toList)))) = false := by simpa using c7
        clear c7
        have H' := Aside0.mk H
        clear H
        have p5001 : 0 ≤ (x5_1 : Int) := of_decide_eq_true (by assumption)
        have q5001 : x5_1 < (l0.length : Int) := of_decide_eq_true (by assumption)
        obtain ⟨ad5001, e5001, hx5001_0, hx5001_1⟩ := at_T102 HR0.out x5_1 p5001 q5001
        cases e5001
        replace p5001 := eq_true p5001
        replace q5001 := eq_true q5001
        have p5002 : 0 ≤ (x5_1 : Int) := of_decide_eq_true (by assumption)
        have q5002 : x5_1 < (l1.length : Int) := of_decide_eq_true (by assumption)
        obtain ⟨ad5002, e5002, hx5002_0, hx5002_1⟩ := at_T102 HR1.out x5_1 p5002 q5002
        cases e5002
        replace p5002 := eq_true p5002
        replace q5002 := eq_true q5002
        go_wp2
        repeat (go_quiet (fail); try go_wp2)
        go_roundg k1
        case measure => have := HK1.out; omega
        case rel => exact ⟨(wrap64 (x5_1 + 1)), (by first | rfl | (simp; done) | (simp [*]; done)), H', ⟨by have := HK1.out; omega⟩, by repeat (first | exact Drawn0.refl _ | apply Drawn0.step)⟩
      ·rw [if_neg c6] at H
       exact absurd H (by simp)
     ·rw [if_neg c5] at H
      exact absurd H (by simp)
    ·rw [if_neg c4] at H
     have c4b0 : decide (x5_1 < (l0.length : Int)) = false := decide_eq_false c4
     clear c4
     obtain rfl := Option.some.inj H
     go_wp2
     repeat (go_quiet (fail); try go_wp2)
     go_ret
     exact ⟨by first | rfl | (simp; done) | (simp [*]; done) | (simp [IntKind.wrap_u8, IntKind.wrap_i64, wrap64]; done), by repeat (first | exact Drawn0.refl _ | apply Drawn0.step)⟩
 ·rw [if_neg c3] at H
  have c3b0 : ((l0.length : Int) == (l1.length : Int)) = false := beq_eq_false_iff_ne.mpr c3
  have c3b1 : ((l0.length : Int) != (l1.length : Int)) = true := bne_iff_ne.mpr c3
  have c3b2 : (l0.length == l1.length) = false := by first | simpa using c3 | (simp at c3 ⊢; omega)
  obtain rfl := Option.some.inj H
  go_enter Try.func53, Try.ntmps53
  go_wp2
  repeat (go_quiet (fail); try go_wp2)
  go_ret
  exact ⟨by first | rfl | (simp; done) | (simp [*]; done) | (simp [IntKind.wrap_u8, IntKind.wrap_i64, wrap64]; done), by repeat (first | exact Drawn0.refl _ | apply Drawn0.step)⟩

end Go.Proofs.Ytmcpfkgahmdkgaa.Pr
end
section
namespace Go.Proofs.Ytmcpfkgahmdkgaa.M
open Go.RowKit Go.Proofs.Ytmcpfkgahmdkgaa.Pr Go.Proofs.YtmcpfkgahmdkgaaW.PrintWords Go.Proofs.YtmcpfkgahmdkgaaW.PrintLast Go.Proofs.YtmcpfkgahmdkgaaW.PrintMore
set_option linter.unusedSimpArgs false
abbrev At := S102
/-- Attributes behind the label last: they rise, and each may be. -/
def rises : Int → List At → Bool
  | _, [] => true
  | last, a :: r => decide (last < a.f0 ∧ a.f0 ≤ 65535 ∧ a.f1.size ≤ 255) && rises a.f0 r
def checkA (l : List At) : Int := if l.length ≤ 32 ∧ rises 0 l = true then 0 else 11
theorem rd_drop {l r : List At} {a : At} {i : Nat} (h : l.drop i = a :: r) : rd_T102 l (i : Int) = a ∧ i < l.length ∧ l.drop (i + 1) = r := by
  have hi : i < l.length := by
    rcases Nat.lt_or_ge i l.length with g | g
    · exact g
    · rw [List.drop_of_length_le g] at h; cases h
  rw [List.drop_eq_getElem_cons hi] at h
  injection h with h1 h2
  refine ⟨?_, hi, h2⟩
  show l.getD (Int.toNat (i : Int)) _ = a
  rw [Int.toNat_natCast, List.getD_eq_getElem?_getD, List.getElem?_eq_getElem hi]
  exact h1
theorem drop_nil {l : List At} {i : Nat} (h : l.drop i = []) (hi : i ≤ l.length) : i = l.length := by
  have := congrArg List.length h
  rw [List.length_drop] at this
  simp at this
  omega
theorem checkL (l : List At) (hl : l.length ≤ 32) : ∀ (R : List At) (i : Nat) (last : Int), l.drop i = R → i ≤ l.length → Ev (fun k => attr_Check.l0 k last l (l.length : Int) (i : Int)) (if rises last R = true then 0 else 11)
  | [], i, last, h, hi => by
    have := drop_nil h hi
    refine evu ?_
    simp only [attr_Check.l0]
    refine evn (by omega) ?_
    rw [rises, if_pos rfl]
    exact Ev.now _
  | a :: R, i, last, h, hi => by
    obtain ⟨h1, h2, h3⟩ := rd_drop h
    have ih := checkL l hl R (i + 1) a.f0 h3 h2
    refine evu ?_
    simp only [attr_Check.l0]
    rw [h1, rises]
    refine evp (by omega) (evp (by omega) (evp (by omega) ?_))
    by_cases c1 : a.f0 ≤ last
    · refine evp c1 ?_
      rw [decide_eq_false (by omega), Bool.false_and, if_neg (by decide)]
      exact Ev.now _
    · refine evn c1 ?_
      by_cases c2 : a.f0 > 65535
      · refine evp c2 ?_
        rw [decide_eq_false (by omega), Bool.false_and, if_neg (by decide)]
        exact Ev.now _
      · refine evn c2 ?_
        by_cases c3 : (a.f1.size : Int) > 255
        · refine evp c3 ?_
          rw [decide_eq_false (by omega), Bool.false_and, if_neg (by decide)]
          exact Ev.now _
        · refine evn c3 ?_
          rw [decide_eq_true (by omega), Bool.true_and, wrap_id (by omega) (by omega)]
          exact ih
theorem check_c (l : List At) : Ev (fun k => attr_Check.f k l) (checkA l) := by
  unfold attr_Check.f checkA
  by_cases h : (l.length : Int) > 32
  · refine evp h ?_
    rw [if_neg (by omega)]
    exact Ev.now _
  · refine evn h ?_
    have := checkL l (by omega) l 0 0 rfl (by omega)
    by_cases g : rises 0 l = true
    · rw [if_pos g] at this
      rw [if_pos ⟨by omega, g⟩]
      exact this
    · rw [if_neg g] at this
      rw [if_neg (fun e => g e.2)]
      exact this
theorem rcheckL (l : List At) (hl : l.length ≤ 32) : ∀ (R : List At) (i : Nat) (last : Int), l.drop i = R → i ≤ l.length → (i = 0 ∧ last = 0 ∨ 0 < i ∧ 1 ≤ last ∧ (rd_T102 l ((i : Int) - 1)).f0 = last) → Ev (fun k => clavigerref24_Check.l0 k l (i : Int)) (if rises last R = true then 0 else 11)
  | [], i, last, h, hi, _ => by
    have := drop_nil h hi
    refine evu ?_
    simp only [clavigerref24_Check.l0]
    refine evn (by omega) ?_
    rw [rises, if_pos rfl]
    exact Ev.now _
  | a :: R, i, last, h, hi, hp => by
    obtain ⟨h1, h2, h3⟩ := rd_drop h
    refine evu ?_
    simp only [clavigerref24_Check.l0]
    rw [h1, rises]
    refine evp (by omega) (evp (by omega) ?_)
    by_cases c1 : a.f0 < 1
    · refine evp c1 ?_
      rw [decide_eq_false (by omega), Bool.false_and, if_neg (by decide)]
      exact Ev.now _
    · refine evn c1 ?_
      by_cases c2 : a.f0 > 65535
      · refine evp c2 ?_
        rw [decide_eq_false (by omega), Bool.false_and, if_neg (by decide)]
        exact Ev.now _
      · refine evn c2 ?_
        by_cases c3 : (a.f1.size : Int) > 255
        · refine evp c3 ?_
          rw [decide_eq_false (by omega), Bool.false_and, if_neg (by decide)]
          exact Ev.now _
        · refine evn c3 ?_
          have ih := rcheckL l hl R (i + 1) a.f0 h3 h2 (.inr ⟨by omega, by omega, by rw [show (((i + 1 : Nat) : Int) - 1) = (i : Int) by omega, h1]⟩)
          rw [wrap_id (x := (i : Int) + 1) (by omega) (by omega)]
          rcases hp with ⟨rfl, rfl⟩ | ⟨p1, p2, p3⟩
          · refine evn (by decide) ?_
            rw [decide_eq_true (by omega), Bool.true_and]
            exact ih
          · rw [wrap_id (x := (i : Int) - 1) (by omega) (by omega), p3]
            refine evp (by omega) (evp (by omega) (evp (by omega) ?_))
            by_cases c4 : last ≥ a.f0
            · refine evp c4 ?_
              rw [decide_eq_false (by omega), Bool.false_and, if_neg (by decide)]
              exact Ev.now _
            · refine evn c4 ?_
              rw [decide_eq_true (by omega), Bool.true_and]
              exact ih
theorem rcheck_c (l : List At) : Ev (fun k => clavigerref24_Check.f k l) (checkA l) := by
  unfold clavigerref24_Check.f checkA
  by_cases h : (l.length : Int) > 32
  · refine evp h ?_
    rw [if_neg (by omega)]
    exact Ev.now _
  · refine evn h ?_
    have := rcheckL l (by omega) l 0 0 rfl (by omega) (.inl ⟨rfl, rfl⟩)
    by_cases g : rises 0 l = true
    · rw [if_pos g] at this
      rw [if_pos ⟨by omega, g⟩]
      exact this
    · rw [if_neg g] at this
      rw [if_neg (fun e => g e.2)]
      exact this
theorem few_c (l : List At) (n : Int) (hn : n ≤ 1000) : ∃ b, Ev (fun k => clavigerplain_Few.f k l n) b ∧ (b = true → (l.length : Int) ≤ n) := by
  have key : ∀ (R : List At) (i : Nat), l.length ≤ 9000000000 → l.drop i = R → i ≤ l.length → ∃ b, Ev (fun k => clavigerplain_Few.l0 k l (i : Int)) b := by
    intro R
    induction R with
    | nil =>
      intro i hl h hi
      have := drop_nil h hi
      refine ⟨true, evu ?_⟩
      simp only [clavigerplain_Few.l0]
      exact evn (by omega) (Ev.now _)
    | cons a R ih =>
      intro i hl h hi
      obtain ⟨h1, h2, h3⟩ := rd_drop h
      by_cases c : (a.f1.size : Int) > 300
      · refine ⟨false, evu ?_⟩
        simp only [clavigerplain_Few.l0]
        rw [h1]
        exact evp (by omega) (evp (by omega) (evp c (Ev.now _)))
      · obtain ⟨b, hb⟩ := ih (i + 1) hl h3 h2
        refine ⟨b, evu ?_⟩
        simp only [clavigerplain_Few.l0]
        rw [h1, wrap_id (by omega) (by omega)]
        exact evp (by omega) (evp (by omega) (evn c hb))
  by_cases h : (l.length : Int) > n
  · refine ⟨false, ?_, fun h => by cases h⟩
    unfold clavigerplain_Few.f
    exact evp h (Ev.now _)
  · by_cases g : l.length ≤ 9000000000
    · obtain ⟨b, hb⟩ := key l 0 g rfl (by omega)
      refine ⟨b, ?_, fun _ => by omega⟩
      unfold clavigerplain_Few.f
      exact evn h hb
    · exact absurd h (by omega)
theorem attrs_c (l : List At) (hl : l.length ≤ 9000000000) : Ev (fun k => clavigerplain_Attrs.f k l l) true := by
  have key : ∀ (R : List At) (i : Nat), l.drop i = R → i ≤ l.length → Ev (fun k => clavigerplain_Attrs.l0 k l l (i : Int)) true := by
    intro R
    induction R with
    | nil =>
      intro i h hi
      have := drop_nil h hi
      refine evu ?_
      simp only [clavigerplain_Attrs.l0]
      exact evn (by omega) (Ev.now _)
    | cons a R ih =>
      intro i h hi
      obtain ⟨h1, h2, h3⟩ := rd_drop h
      refine evu ?_
      simp only [clavigerplain_Attrs.l0]
      rw [h1, wrap_id (by omega) (by omega)]
      exact evp (by omega) (evp (by omega) (evp (by omega) (evn (by simp) (ih (i + 1) h3 h2))))
  unfold clavigerplain_Attrs.f
  exact evp rfl (key l 0 rfl (by omega))
end Go.Proofs.Ytmcpfkgahmdkgaa.M
end
