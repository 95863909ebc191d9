-- several texts in one (by the session's program shake.py)
import Derived.Test.YtmcpfkgahmdkgaaZScopes
import Derived.Test.YtmcpfkgahmdkgaaZPrg15
import Derived.Test.YtmcpfkgahmdkgaaZPrL15awake
import Derived.Test.YtmcpfkgahmdkgaaZPut
import Derived.Test.YtmcpfkgahmdkgaaZPreq1
import Derived.Test.YtmcpfkgahmdkgaaZPrL15HeadBack
import Derived.Test.YtmcpfkgahmdkgaaRows
import Derived.JoinedOf
import Derived.KernelRfl
import Derived.OpenShut
import Derived.Deep.Slices
import Derived.Lib.SmallJoins
section
namespace Go.Proofs.Ytmcpfkgahmdkgaa.Pr
open Go.RowKit Go.Proofs.YtmcpfkgahmdkgaaW.PrintWords Go.Proofs.YtmcpfkgahmdkgaaW.PrintLast Go.Proofs.YtmcpfkgahmdkgaaW.PrintMore
attribute [local go_sem] max2_int min2_int max_two min_two max_three min_three max_four min_four   -- for this text's walks alone
set_option linter.unusedVariables false
set_option linter.unusedSimpArgs false

def clavigerlaw15_HeadShort.j0 : Nat → Int → ByteArray → Int → Bool → Option (Bool)
 | 0, _, _, _, _ => none
 | k + 1, x1, x5, x6, x20 => if x20 = true then (if x6 = 0 then (some false) else (if x5.toList = ([] : List UInt8) then ((clavigerlaw15_awake.f k).bind fun t1 => (some t1)) else (some false))) else (if (x5.size : Int) = 0 then (none) else (if 0 ≤ (Int.tmod (wrap64 (x1)) (x5.size : Int)) then (if (Int.tmod (wrap64 (x1)) (x5.size : Int)) ≤ (x5.size : Int) then ((head_Decode.f (x5.extract 0 ((Int.tmod (wrap64 (x1)) (x5.size : Int)) : Int).toNat)).bind fun bt2 => (if bt2.2.2.2.2.1 = 0 then (if bt2.2.2.2.2.2 = 5 then ((clavigerlaw15_awake.f k).bind fun t3 => (some t3)) else (some false)) else (some false))) else (none)) else (none)))
def clavigerlaw15_HeadShort.f (k : Nat) (a0_0 : Int) (a0_1 : Int) (a0_2 : Bool) (a0_3 : Int) (a1 : Int) : Option (Bool) := (head_Encode.f k a0_0 a0_1 a0_2 a0_3).bind fun bt4 => (if bt4.2 = 0 then (clavigerlaw15_HeadShort.j0 k a1 bt4.1 bt4.2 (bt4.1.toList == ([] : List UInt8))) else (clavigerlaw15_HeadShort.j0 k a1 bt4.1 bt4.2 true))
theorem clavigerlaw15_HeadShort.mono_l : ∀ k, (∀ y5 y6 y7 y8, LeO (clavigerlaw15_HeadShort.j0 k y5 y6 y7 y8) (clavigerlaw15_HeadShort.j0 (k + 1) y5 y6 y7 y8))
 | 0 => fun _ _ _ _ r h => by simp [clavigerlaw15_HeadShort.j0] at h
 | k + 1 => by
  have ih0 := clavigerlaw15_HeadShort.mono_l k
  ·intro y5 y6 y7 y8
   unfold clavigerlaw15_HeadShort.j0
   repeat' first
   | (with_reducible exact ih0 _ _ _ _)
   | (with_reducible exact clavigerlaw15_awake.mono _)
   | (with_reducible exact head_Encode.mono _ _ _ _ _)
   | (with_reducible exact LeO.refl _)
   | (with_reducible exact LeO.none _)
   | (with_reducible refine LeO.ite ?_ ?_)
   | (with_reducible refine LeO.bind ?_ (fun _ => ?_))
theorem clavigerlaw15_HeadShort.mono : ∀ a0 a1 a2 a3 a4 k, LeO (clavigerlaw15_HeadShort.f k a0 a1 a2 a3 a4) (clavigerlaw15_HeadShort.f (k + 1) a0 a1 a2 a3 a4) := by
 intro a0 a1 a2 a3 a4 k
 have ih0 := clavigerlaw15_HeadShort.mono_l k
 unfold clavigerlaw15_HeadShort.f
 repeat' first
   | (with_reducible exact ih0 _ _ _ _)
   | (with_reducible exact clavigerlaw15_awake.mono _)
   | (with_reducible exact head_Encode.mono _ _ _ _ _)
   | (with_reducible exact LeO.refl _)
   | (with_reducible exact LeO.none _)
   | (with_reducible refine LeO.ite ?_ ?_)
   | (with_reducible refine LeO.bind ?_ (fun _ => ?_))
set_option maxHeartbeats 8000000 in
set_option maxRecDepth 100000 in
theorem clavigerlaw15_HeadShort.calls (k : Nat) (a0_0 : Int) (a0_1 : Int) (a0_2 : Bool) (a0_3 : Int) (a1 : Int) (r : Bool) (w : World) (h : clavigerlaw15_HeadShort.f k a0_0 a0_1 a0_2 a0_3 a1 = some r) :
  Calls Try.prog 9 #[.agg #[.int .i64 a0_0, .int .i64 a0_1, .bool a0_2, .int .i64 a0_3], .int .u8 a1] w fun e w' => e = .returned (.bool r) ∧ Below w.heap.size w w' := by
 have hu51 := Try.underlying51
 have hu55 := Try.underlying55
 have HB := Aside0.mk (Below.refl w.heap.size w)
 have H : ((head_Encode.f k a0_0 a0_1 a0_2 a0_3).bind fun bt4 => (if bt4.2 = 0 then (clavigerlaw15_HeadShort.j0 k a1 bt4.1 bt4.2 (bt4.1.toList == ([] : List UInt8))) else (clavigerlaw15_HeadShort.j0 k a1 bt4.1 bt4.2 true))) = some r := h
 clear h
 replace H := Option.bind_eq_some_iff.mp H
 obtain ⟨⟨t4, t9⟩, A30, H⟩ := H
 try dsimp only at H
 have A3 := Aside0.mk A30
 clear A30
 have HC4 := Aside0.mk H
 clear H
 go_enter Try.func9, Try.ntmps9
 go_upto_region 2 with (first | ((with_reducible refine gate_dst (N := 2) rfl ?_); refine box_event ?hg (N := 2) ?hd (cs := #[.int .i64 a0_0, .int .i64 a0_1, .bool a0_2, .int .i64 a0_3]) (t := 51) ?hr ?_; (case hd => rfl); (case hg => rfl); (case hr => first | (go_simp; done) | (go_simp; rfl)); intro gb221 hg w5 hbox hb; have n0_ := Aside0.mk (below_step (by repeat first | with_reducible (first | exact HB.out | apply bA | apply bN | apply bD) | exact HB.out) hb); have n1_ := Aside0.mk (hbox); have n2_ := Aside0.mk ((by rw [hg]; exact (below_size (by repeat first | with_reducible (first | exact HB.out | apply bA | apply bN | apply bD) | exact HB.out)) : w.heap.size ≤ gb221)); have n3_ := Aside0.mk ((by rw [hg]; exact (below_size (by repeat first | with_reducible (first | exact HB.out | apply bA | apply bN | apply bD) | exact HB.out)) : w.heap.size ≤ gb221)); clear HB; have HB := n0_; have BK221 := n1_; have GW221 := n2_; have GE221 := n3_; clear n0_ n1_ n2_ n3_; clear hb hbox hg; have hcz6_0 : w5.cell? ⟨gb221, 0, none⟩ = some (.int .i64 a0_0) := (blk_cell BK221.out 0).trans rfl; have hcz6_1 : w5.cell? ⟨gb221, 1, none⟩ = some (.int .i64 a0_1) := (blk_cell BK221.out 1).trans rfl; have hcz6_2 : w5.cell? ⟨gb221, 2, none⟩ = some (.bool a0_2) := (blk_cell BK221.out 2).trans rfl; have hcz6_3 : w5.cell? ⟨gb221, 3, none⟩ = some (.int .i64 a0_3) := (blk_cell BK221.out 3).trans rfl; have hfz6_0 := blk_frozen BK221.out 0; have hfz6_1 := blk_frozen BK221.out 1; have hfz6_2 := blk_frozen BK221.out 2; have hfz6_3 := blk_frozen BK221.out 3) | ((with_reducible refine gate_callee (f := 41) rfl ?_); refine goesL_ (some 12) rfl rfl Try.func41 (by kernel_rfl) rfl #[.agg #[.int .i64 a0_0, .int .i64 a0_1, .bool a0_2, .int .i64 a0_3]] rfl (by (try simp only [lT, lC, lN]); first | done | rfl) ?_; (with_reducible refine (head_Encode.calls k a0_0 a0_1 a0_2 a0_3 t4 t9 _ A3.out).mono ?_); rintro e w7 ⟨rfl, hb⟩; refine ⟨_, rfl, ?_⟩; have n0_ := Aside0.mk (blk_below (g := gb221) (o := .cells #[.int .i64 a0_0, .int .i64 a0_1, .bool a0_2, .int .i64 a0_3] 51 (0, 0)) (by (with_reducible repeat (first | refine blk_drewN ?_ _ | refine blk_drew ?_ | refine blk_alloc ?_ _)); exact BK221.out) hb); have n1_ := Aside0.mk (below_step (by repeat (first | (with_reducible first | exact HB.out | apply below_alloc | apply pw_below_drewN | apply below_drew1 | refine below_set ?_ GE221.out) | exact HB.out)) hb); clear BK221; clear HB; have BK221 := n0_; have HB := n1_; clear n0_ n1_; (try clear hb); (try clear hb2); (try clear hk); (try clear hi)))
 (try simp only [Act.put, List.setIfInBounds_toArray, List.set_cons_zero, List.set_cons_succ])
 go_cut [20] (fun v20 wc => ∃ (kq : Nat) (x20_3 : Bool), v20 = .bool x20_3 ∧ Aside0 (clavigerlaw15_HeadShort.j0 kq a1 t4 t9 x20_3 = some r) ∧ Aside0 (kq ≤ k) ∧ Aside0 (wc.heap[gb221]? = some (.cells #[.int .i64 a0_0, .int .i64 a0_1, .bool a0_2, .int .i64 a0_3] 51 (0, 0))) ∧ Aside0 (Below w.heap.size w wc))
 case first =>
  have H := HC4.out
  clear HC4
  by_cases c8 : t9 = 0
  ·rw [if_pos c8] at H
   have c8b0 : (t9 == 0) = true := beq_iff_eq.mpr c8
   have c8b1 : (t9 != 0) = false := bne_eq_false_iff_eq.mpr c8
   clear c8
   (first | rw [c8b0] | (simp only [i64_w, i32_w]; rw [c8b0]) | skip)
   have H' := Aside0.mk H
   clear H
   go_wp2
   go_meet
   case rel => exact ⟨_, ((t4.toList == ([] : List UInt8))), (by first | rfl | (simp; done) | (simp [*]; done)), H', ⟨by first | omega | exact Nat.le_refl _⟩, ⟨by (with_reducible repeat (first | refine blk_drewN ?_ _ | refine blk_drew ?_ | refine blk_alloc ?_ _)); exact BK221.out⟩, ⟨by repeat (first | (with_reducible first | exact HB.out | apply below_alloc | apply pw_below_drewN | apply below_drew1 | refine below_set ?_ GE221.out) | exact HB.out)⟩⟩
  ·rw [if_neg c8] at H
   have c8b0 : (t9 == 0) = false := beq_eq_false_iff_ne.mpr c8
   have c8b1 : (t9 != 0) = true := bne_iff_ne.mpr c8
   (first | rw [c8b0] | (simp only [i64_w, i32_w]; rw [c8b0]) | skip)
   have H' := Aside0.mk H
   clear H
   go_wp2
   go_meet
   case rel => exact ⟨_, (true), (by first | rfl | (simp; done) | (simp [*]; done)), H', ⟨by first | omega | exact Nat.le_refl _⟩, ⟨by (with_reducible repeat (first | refine blk_drewN ?_ _ | refine blk_drew ?_ | refine blk_alloc ?_ _)); exact BK221.out⟩, ⟨by repeat (first | (with_reducible first | exact HB.out | apply below_alloc | apply pw_below_drewN | apply below_drew1 | refine below_set ?_ GE221.out) | exact HB.out)⟩⟩
 case rest =>
  clear HC4
  try clear p2
  try clear c4
  try clear c8
  try clear c8b0
  try clear c8b1
  try clear hcz6_0
  try clear hcz6_1
  try clear hcz6_2
  try clear hcz6_3
  try clear hfz6_0
  try clear hfz6_1
  try clear hfz6_2
  try clear hfz6_3
  obtain ⟨kq, x20_3, rfl, HA, HJ3, BK221, HB⟩ := hcut
  cases kq with
  | zero => exact absurd HA.out (by simp [clavigerlaw15_HeadShort.j0])
  | succ kj3 =>
   have H := HA.out
   clear HA
   simp only [clavigerlaw15_HeadShort.j0] at H
   by_cases c9 : x20_3 = true
   ·subst c9
    have H1 : (if t9 = 0 then (some false) else (if t4.toList = ([] : List UInt8) then ((clavigerlaw15_awake.f kj3).bind fun t1 => (some t1)) else (some false))) = some r := by rw [if_pos rfl] at H; exact H
    clear H
    have H := H1
    clear H1
    by_cases c10 : t9 = 0
    ·rw [if_pos c10] at H
     have c10b0 : (t9 == 0) = true := beq_iff_eq.mpr c10
     have c10b1 : (t9 != 0) = false := bne_eq_false_iff_eq.mpr c10
     clear c10
     obtain rfl := Option.some.inj H
     go_wp2
     go_ret
     exact ⟨by first | rfl | (simp [*, errW_none, errW_some] <;> rfl), by repeat (first | (with_reducible first | exact HB.out | apply below_alloc | apply pw_below_drewN | apply below_drew1 | refine below_set ?_ GE221.out) | exact HB.out)⟩
    ·rw [if_neg c10] at H
     have c10b0 : (t9 == 0) = false := beq_eq_false_iff_ne.mpr c10
     have c10b1 : (t9 != 0) = true := bne_iff_ne.mpr c10
     by_cases c11 : t4.toList = ([] : List UInt8)
     ·rw [if_pos c11] at H
      have c11b0 : (t4.toList == ([] : List UInt8)) = true := beq_iff_eq.mpr c11
      have c11b1 : (t4.toList != ([] : List UInt8)) = false := bne_eq_false_iff_eq.mpr c11
      clear c11
      replace H := Option.bind_eq_some_iff.mp H
      obtain ⟨t1, A120, H⟩ := H
      replace H : (some t1) = some r := H
      have A12 := Aside0.mk A120
      clear A120
      obtain rfl := Option.some.inj H
      go_wp2_with (first | (go_at_call 40; (with_reducible refine (clavigerlaw15_awake.calls kj3  t1 _ A12.out).mono ?_); rintro e w13 ⟨rfl, hb⟩; have n0_ := Aside0.mk (blk_below (g := gb221) (o := .cells #[.int .i64 a0_0, .int .i64 a0_1, .bool a0_2, .int .i64 a0_3] 51 (0, 0)) (by (with_reducible repeat (first | refine blk_drewN ?_ _ | refine blk_drew ?_ | refine blk_alloc ?_ _)); exact BK221.out) hb); have n1_ := Aside0.mk (below_step (by repeat (first | (with_reducible first | exact HB.out | apply below_alloc | apply pw_below_drewN | apply below_drew1 | refine below_set ?_ GE221.out) | exact HB.out)) hb); clear BK221; clear HB; have BK221 := n0_; have HB := n1_; clear n0_ n1_; (try clear hb); (try clear hb2); (try clear hk); (try clear hi)))
      go_ret
      exact ⟨by first | rfl | (simp [*, errW_none, errW_some] <;> rfl), by repeat (first | (with_reducible first | exact HB.out | apply below_alloc | apply pw_below_drewN | apply below_drew1 | refine below_set ?_ GE221.out) | exact HB.out)⟩
     ·rw [if_neg c11] at H
      have c11b0 : (t4.toList == ([] : List UInt8)) = false := beq_eq_false_iff_ne.mpr c11
      have c11b1 : (t4.toList != ([] : List UInt8)) = true := bne_iff_ne.mpr c11
      obtain rfl := Option.some.inj H
      go_wp2
      go_ret
      exact ⟨by first | rfl | (simp [*, errW_none, errW_some] <;> rfl), by repeat (first | (with_reducible first | exact HB.out | apply below_alloc | apply pw_below_drewN | apply below_drew1 | refine below_set ?_ GE221.out) | exact HB.out)⟩
   ·replace c9 := Bool.eq_false_iff.mpr c9
    subst c9
    have H1 : (if (t4.size : Int) = 0 then (none) else (if 0 ≤ (Int.tmod (wrap64 (a1)) (t4.size : Int)) then (if (Int.tmod (wrap64 (a1)) (t4.size : Int)) ≤ (t4.size : Int) then ((head_Decode.f (t4.extract 0 ((Int.tmod (wrap64 (a1)) (t4.size : Int)) : Int).toNat)).bind fun bt2 => (if bt2.2.2.2.2.1 = 0 then (if bt2.2.2.2.2.2 = 5 then ((clavigerlaw15_awake.f kj3).bind fun t3 => (some t3)) else (some false)) else (some false))) else (none)) else (none))) = some r := by rw [if_neg (show ¬ (false = true) by decide)] at H; exact H
    clear H
    have H := H1
    clear H1
    by_cases c14 : (t4.size : Int) = 0
    ·rw [if_pos c14] at H
     exact absurd H (by simp)
    ·rw [if_neg c14] at H
     have c14b0 : ((t4.size : Int) == 0) = false := beq_eq_false_iff_ne.mpr c14
     have c14b1 : ((t4.size : Int) != 0) = true := bne_iff_ne.mpr c14
     obtain ⟨ji15, hji15⟩ : ∃ j_ : Int, (Int.tmod (wrap64 (a1)) (t4.size : Int)) = j_ := ⟨_, rfl⟩
     replace H : (if 0 ≤ (ji15) then (if (ji15) ≤ (t4.size : Int) then ((head_Decode.f (t4.extract 0 ((ji15) : Int).toNat)).bind fun bt2 => (if bt2.2.2.2.2.1 = 0 then (if bt2.2.2.2.2.2 = 5 then ((clavigerlaw15_awake.f kj3).bind fun t3 => (some t3)) else (some false)) else (some false))) else (none)) else (none)) = some r := by first | (rw [hji15] at H; exact H) | (simp only [hji15] at H ⊢; exact H)
     by_cases c16 : 0 ≤ (ji15)
     ·rw [if_pos c16] at H
      have c16b0 := eq_true c16
      have c16b1 : decide (0 ≤ (ji15)) = true := decide_eq_true c16
      clear c16
      by_cases c17 : (ji15) ≤ (t4.size : Int)
      ·rw [if_pos c17] at H
       have c17b0 := eq_true c17
       have c17b1 : decide ((ji15) ≤ (t4.size : Int)) = true := decide_eq_true c17
       clear c17
       replace H := Option.bind_eq_some_iff.mp H
       obtain ⟨⟨t2, t10, t11, t12, t13, t14⟩, A180, H⟩ := H
       try dsimp only at H
       have A18 := Aside0.mk A180
       clear A180
       by_cases c19 : t13 = 0
       ·rw [if_pos c19] at H
        have c19b0 : (t13 == 0) = true := beq_iff_eq.mpr c19
        have c19b1 : (t13 != 0) = false := bne_eq_false_iff_eq.mpr c19
        clear c19
        by_cases c20 : t14 = 5
        ·rw [if_pos c20] at H
         have c20b0 : (t14 == 5) = true := beq_iff_eq.mpr c20
         have c20b1 : (t14 != 5) = false := bne_eq_false_iff_eq.mpr c20
         clear c20
         replace H := Option.bind_eq_some_iff.mp H
         obtain ⟨t3, A210, H⟩ := H
         replace H : (some t3) = some r := H
         have A21 := Aside0.mk A210
         clear A210
         obtain rfl := Option.some.inj H
         go_wp2_with (first | ((with_reducible refine gate_callee (f := 42) rfl ?_); refine goesL_ (some 38) rfl rfl Try.func42 (by kernel_rfl) rfl #[.string (t4.extract 0 ((ji15) : Int).toNat)] rfl (by (try simp only [lT, lC, lN]); first | done | (simp only [hji15]; rfl) | rfl | (simp only [List.length_drop, List.length_take]; rfl)) ?_; (with_reducible refine (head_Decode.calls (t4.extract 0 ((ji15) : Int).toNat) t2 t10 t11 t12 t13 t14 _ A18.out).mono ?_); rintro e w22 ⟨rfl, hb⟩; refine ⟨_, rfl, ?_⟩; have n0_ := Aside0.mk (blk_below (g := gb221) (o := .cells #[.int .i64 a0_0, .int .i64 a0_1, .bool a0_2, .int .i64 a0_3] 51 (0, 0)) (by (with_reducible repeat (first | refine blk_drewN ?_ _ | refine blk_drew ?_ | refine blk_alloc ?_ _)); exact BK221.out) hb); have n1_ := Aside0.mk (below_step (by repeat (first | (with_reducible first | exact HB.out | apply below_alloc | apply pw_below_drewN | apply below_drew1 | refine below_set ?_ GE221.out) | exact HB.out)) hb); clear BK221; clear HB; have BK221 := n0_; have HB := n1_; clear n0_ n1_; (try clear hb); (try clear hb2); (try clear hk); (try clear hi)) | ((with_reducible refine gate_dst (N := 7) rfl ?_); refine box_event ?hg (N := 7) ?hd (cs := #[.int .i64 0, .int .i64 0, .bool false, .int .i64 0]) (t := 55) ?hr ?_; (case hd => rfl); (case hg => rfl); (case hr => first | (go_simp; done) | (go_simp; rfl)); intro gb231 hg w23 hbox hb; have n0_ := Aside0.mk (blk_below (g := gb221) (o := .cells #[.int .i64 a0_0, .int .i64 a0_1, .bool a0_2, .int .i64 a0_3] 51 (0, 0)) (by (with_reducible repeat (first | refine blk_drewN ?_ _ | refine blk_drew ?_ | refine blk_alloc ?_ _)); exact BK221.out) hb); have n1_ := Aside0.mk (below_step (by repeat (first | (with_reducible first | exact HB.out | apply below_alloc | apply pw_below_drewN | apply below_drew1 | refine below_set ?_ GE221.out) | exact HB.out)) hb); have n2_ := Aside0.mk (hbox); have n3_ := Aside0.mk ((by rw [hg]; exact (below_size (by repeat (first | (with_reducible first | exact HB.out | apply below_alloc | apply pw_below_drewN | apply below_drew1 | refine below_set ?_ GE221.out) | exact HB.out))) : w.heap.size ≤ gb231)); have n4_ := Aside0.mk ((by rw [hg]; exact (below_size (by repeat (first | (with_reducible first | exact HB.out | apply below_alloc | apply pw_below_drewN | apply below_drew1 | refine below_set ?_ GE221.out) | exact HB.out))) : w.heap.size ≤ gb231)); have n5_ := Aside0.mk ((by rw [hg]; exact Nat.ne_of_lt (blk_lt (g := gb221) (o := .cells #[.int .i64 a0_0, .int .i64 a0_1, .bool a0_2, .int .i64 a0_3] 51 (0, 0)) (by (with_reducible repeat (first | refine blk_drewN ?_ _ | refine blk_drew ?_ | refine blk_alloc ?_ _)); exact BK221.out)) : gb221 ≠ gb231)); have n6_ := Aside0.mk ((by rw [hg]; exact Nat.ne_of_gt (blk_lt (g := gb221) (o := .cells #[.int .i64 a0_0, .int .i64 a0_1, .bool a0_2, .int .i64 a0_3] 51 (0, 0)) (by (with_reducible repeat (first | refine blk_drewN ?_ _ | refine blk_drew ?_ | refine blk_alloc ?_ _)); exact BK221.out)) : gb231 ≠ gb221)); clear BK221; clear HB; have BK221 := n0_; have HB := n1_; have BK231 := n2_; have GW231 := n3_; have GE231 := n4_; have NB221_231 := n5_; have NB231_221 := n6_; clear n0_ n1_ n2_ n3_ n4_ n5_ n6_; clear hb hbox hg; have hnb24 := NB231_221.out; have hnc24 := NB221_231.out; have hcz25_0 : w23.cell? ⟨gb231, 0, none⟩ = some (.int .i64 0) := (blk_cell BK231.out 0).trans rfl; have hcz25_1 : w23.cell? ⟨gb231, 1, none⟩ = some (.int .i64 0) := (blk_cell BK231.out 1).trans rfl; have hcz25_2 : w23.cell? ⟨gb231, 2, none⟩ = some (.bool false) := (blk_cell BK231.out 2).trans rfl; have hcz25_3 : w23.cell? ⟨gb231, 3, none⟩ = some (.int .i64 0) := (blk_cell BK231.out 3).trans rfl; have hfz25_0 := blk_frozen BK231.out 0; have hfz25_1 := blk_frozen BK231.out 1; have hfz25_2 := blk_frozen BK231.out 2; have hfz25_3 := blk_frozen BK231.out 3) | (go_at_call 40; (with_reducible refine (clavigerlaw15_awake.calls kj3  t3 _ A21.out).mono ?_); rintro e w26 ⟨rfl, hb⟩; have n0_ := Aside0.mk (blk_below (g := gb221) (o := .cells #[.int .i64 a0_0, .int .i64 a0_1, .bool a0_2, .int .i64 a0_3] 51 (0, 0)) (by (with_reducible repeat (first | refine blk_drewN ?_ _ | refine blk_drew ?_ | refine blk_alloc ?_ _)); refine blk_far ?_ NB221_231.out _; (with_reducible repeat (first | refine blk_drewN ?_ _ | refine blk_drew ?_ | refine blk_alloc ?_ _)); refine blk_far ?_ NB221_231.out _; (with_reducible repeat (first | refine blk_drewN ?_ _ | refine blk_drew ?_ | refine blk_alloc ?_ _)); refine blk_far ?_ NB221_231.out _; (with_reducible repeat (first | refine blk_drewN ?_ _ | refine blk_drew ?_ | refine blk_alloc ?_ _)); refine blk_far ?_ NB221_231.out _; (with_reducible repeat (first | refine blk_drewN ?_ _ | refine blk_drew ?_ | refine blk_alloc ?_ _)); exact BK221.out) hb); have n1_ := Aside0.mk (blk_below (g := gb231) (o := .cells #[.int .i64 t2, .int .i64 t10, .bool t11, .int .i64 t12] 55 (0, 0)) (by (with_reducible repeat (first | refine blk_drewN ?_ _ | refine blk_drew ?_ | refine blk_alloc ?_ _)); refine blk_put (cs := #[.int .i64 t2, .int .i64 t10, .bool t11, .int .i64 0]) ?_ 3 _ rfl; (with_reducible repeat (first | refine blk_drewN ?_ _ | refine blk_drew ?_ | refine blk_alloc ?_ _)); refine blk_put (cs := #[.int .i64 t2, .int .i64 t10, .bool false, .int .i64 0]) ?_ 2 _ rfl; (with_reducible repeat (first | refine blk_drewN ?_ _ | refine blk_drew ?_ | refine blk_alloc ?_ _)); refine blk_put (cs := #[.int .i64 t2, .int .i64 0, .bool false, .int .i64 0]) ?_ 1 _ rfl; (with_reducible repeat (first | refine blk_drewN ?_ _ | refine blk_drew ?_ | refine blk_alloc ?_ _)); refine blk_put (cs := #[.int .i64 0, .int .i64 0, .bool false, .int .i64 0]) ?_ 0 _ rfl; (with_reducible repeat (first | refine blk_drewN ?_ _ | refine blk_drew ?_ | refine blk_alloc ?_ _)); exact BK231.out) hb); have n2_ := Aside0.mk (below_step (by repeat (first | (with_reducible first | exact HB.out | apply below_alloc | apply pw_below_drewN | apply below_drew1 | refine below_set ?_ GE221.out | refine below_set ?_ GE231.out) | exact HB.out)) hb); clear BK221; clear BK231; clear HB; have BK221 := n0_; have BK231 := n1_; have HB := n2_; clear n0_ n1_ n2_; (try clear hb); (try clear hb2); (try clear hk); (try clear hi)))
         go_ret
         exact ⟨by first | rfl | (simp [errW_none, errW_some] <;> rfl) | (simp only [← hji15]; first | rfl | (simp [errW_none, errW_some] <;> rfl)) | (simp [*, errW_none, errW_some] <;> rfl), by repeat (first | (with_reducible first | exact HB.out | apply below_alloc | apply pw_below_drewN | apply below_drew1 | refine below_set ?_ GE221.out | refine below_set ?_ GE231.out) | exact HB.out)⟩
        ·rw [if_neg c20] at H
         have c20b0 : (t14 == 5) = false := beq_eq_false_iff_ne.mpr c20
         have c20b1 : (t14 != 5) = true := bne_iff_ne.mpr c20
         obtain rfl := Option.some.inj H
         go_wp2_with (first | ((with_reducible refine gate_callee (f := 42) rfl ?_); refine goesL_ (some 38) rfl rfl Try.func42 (by kernel_rfl) rfl #[.string (t4.extract 0 ((ji15) : Int).toNat)] rfl (by (try simp only [lT, lC, lN]); first | done | (simp only [hji15]; rfl) | rfl | (simp only [List.length_drop, List.length_take]; rfl)) ?_; (with_reducible refine (head_Decode.calls (t4.extract 0 ((ji15) : Int).toNat) t2 t10 t11 t12 t13 t14 _ A18.out).mono ?_); rintro e w27 ⟨rfl, hb⟩; refine ⟨_, rfl, ?_⟩; have n0_ := Aside0.mk (blk_below (g := gb221) (o := .cells #[.int .i64 a0_0, .int .i64 a0_1, .bool a0_2, .int .i64 a0_3] 51 (0, 0)) (by (with_reducible repeat (first | refine blk_drewN ?_ _ | refine blk_drew ?_ | refine blk_alloc ?_ _)); exact BK221.out) hb); have n1_ := Aside0.mk (below_step (by repeat (first | (with_reducible first | exact HB.out | apply below_alloc | apply pw_below_drewN | apply below_drew1 | refine below_set ?_ GE221.out) | exact HB.out)) hb); clear BK221; clear HB; have BK221 := n0_; have HB := n1_; clear n0_ n1_; (try clear hb); (try clear hb2); (try clear hk); (try clear hi)) | ((with_reducible refine gate_dst (N := 7) rfl ?_); refine box_event ?hg (N := 7) ?hd (cs := #[.int .i64 0, .int .i64 0, .bool false, .int .i64 0]) (t := 55) ?hr ?_; (case hd => rfl); (case hg => rfl); (case hr => first | (go_simp; done) | (go_simp; rfl)); intro gb231 hg w28 hbox hb; have n0_ := Aside0.mk (blk_below (g := gb221) (o := .cells #[.int .i64 a0_0, .int .i64 a0_1, .bool a0_2, .int .i64 a0_3] 51 (0, 0)) (by (with_reducible repeat (first | refine blk_drewN ?_ _ | refine blk_drew ?_ | refine blk_alloc ?_ _)); exact BK221.out) hb); have n1_ := Aside0.mk (below_step (by repeat (first | (with_reducible first | exact HB.out | apply below_alloc | apply pw_below_drewN | apply below_drew1 | refine below_set ?_ GE221.out) | exact HB.out)) hb); have n2_ := Aside0.mk (hbox); have n3_ := Aside0.mk ((by rw [hg]; exact (below_size (by repeat (first | (with_reducible first | exact HB.out | apply below_alloc | apply pw_below_drewN | apply below_drew1 | refine below_set ?_ GE221.out) | exact HB.out))) : w.heap.size ≤ gb231)); have n4_ := Aside0.mk ((by rw [hg]; exact (below_size (by repeat (first | (with_reducible first | exact HB.out | apply below_alloc | apply pw_below_drewN | apply below_drew1 | refine below_set ?_ GE221.out) | exact HB.out))) : w.heap.size ≤ gb231)); have n5_ := Aside0.mk ((by rw [hg]; exact Nat.ne_of_lt (blk_lt (g := gb221) (o := .cells #[.int .i64 a0_0, .int .i64 a0_1, .bool a0_2, .int .i64 a0_3] 51 (0, 0)) (by (with_reducible repeat (first | refine blk_drewN ?_ _ | refine blk_drew ?_ | refine blk_alloc ?_ _)); exact BK221.out)) : gb221 ≠ gb231)); have n6_ := Aside0.mk ((by rw [hg]; exact Nat.ne_of_gt (blk_lt (g := gb221) (o := .cells #[.int .i64 a0_0, .int .i64 a0_1, .bool a0_2, .int .i64 a0_3] 51 (0, 0)) (by (with_reducible repeat (first | refine blk_drewN ?_ _ | refine blk_drew ?_ | refine blk_alloc ?_ _)); exact BK221.out)) : gb231 ≠ gb221)); clear BK221; clear HB; have BK221 := n0_; have HB := n1_; have BK231 := n2_; have GW231 := n3_; have GE231 := n4_; have NB221_231 := n5_; have NB231_221 := n6_; clear n0_ n1_ n2_ n3_ n4_ n5_ n6_; clear hb hbox hg; have hnb29 := NB231_221.out; have hnc29 := NB221_231.out; have hcz30_0 : w28.cell? ⟨gb231, 0, none⟩ = some (.int .i64 0) := (blk_cell BK231.out 0).trans rfl; have hcz30_1 : w28.cell? ⟨gb231, 1, none⟩ = some (.int .i64 0) := (blk_cell BK231.out 1).trans rfl; have hcz30_2 : w28.cell? ⟨gb231, 2, none⟩ = some (.bool false) := (blk_cell BK231.out 2).trans rfl; have hcz30_3 : w28.cell? ⟨gb231, 3, none⟩ = some (.int .i64 0) := (blk_cell BK231.out 3).trans rfl; have hfz30_0 := blk_frozen BK231.out 0; have hfz30_1 := blk_frozen BK231.out 1; have hfz30_2 := blk_frozen BK231.out 2; have hfz30_3 := blk_frozen BK231.out 3))
         go_ret
         exact ⟨by first | rfl | (simp [errW_none, errW_some] <;> rfl) | (simp only [← hji15]; first | rfl | (simp [errW_none, errW_some] <;> rfl)) | (simp [*, errW_none, errW_some] <;> rfl), by repeat (first | (with_reducible first | exact HB.out | apply below_alloc | apply pw_below_drewN | apply below_drew1 | refine below_set ?_ GE221.out | refine below_set ?_ GE231.out) | exact HB.out)⟩
       ·rw [if_neg c19] at H
        have c19b0 : (t13 == 0) = false := beq_eq_false_iff_ne.mpr c19
        have c19b1 : (t13 != 0) = true := bne_iff_ne.mpr c19
        obtain rfl := Option.some.inj H
        go_wp2_with (first | ((with_reducible refine gate_callee (f := 42) rfl ?_); refine goesL_ (some 38) rfl rfl Try.func42 (by kernel_rfl) rfl #[.string (t4.extract 0 ((ji15) : Int).toNat)] rfl (by (try simp only [lT, lC, lN]); first | done | (simp only [hji15]; rfl) | rfl | (simp only [List.length_drop, List.length_take]; rfl)) ?_; (with_reducible refine (head_Decode.calls (t4.extract 0 ((ji15) : Int).toNat) t2 t10 t11 t12 t13 t14 _ A18.out).mono ?_); rintro e w31 ⟨rfl, hb⟩; refine ⟨_, rfl, ?_⟩; have n0_ := Aside0.mk (blk_below (g := gb221) (o := .cells #[.int .i64 a0_0, .int .i64 a0_1, .bool a0_2, .int .i64 a0_3] 51 (0, 0)) (by (with_reducible repeat (first | refine blk_drewN ?_ _ | refine blk_drew ?_ | refine blk_alloc ?_ _)); exact BK221.out) hb); have n1_ := Aside0.mk (below_step (by repeat (first | (with_reducible first | exact HB.out | apply below_alloc | apply pw_below_drewN | apply below_drew1 | refine below_set ?_ GE221.out) | exact HB.out)) hb); clear BK221; clear HB; have BK221 := n0_; have HB := n1_; clear n0_ n1_; (try clear hb); (try clear hb2); (try clear hk); (try clear hi)) | ((with_reducible refine gate_dst (N := 7) rfl ?_); refine box_event ?hg (N := 7) ?hd (cs := #[.int .i64 0, .int .i64 0, .bool false, .int .i64 0]) (t := 55) ?hr ?_; (case hd => rfl); (case hg => rfl); (case hr => first | (go_simp; done) | (go_simp; rfl)); intro gb231 hg w32 hbox hb; have n0_ := Aside0.mk (blk_below (g := gb221) (o := .cells #[.int .i64 a0_0, .int .i64 a0_1, .bool a0_2, .int .i64 a0_3] 51 (0, 0)) (by (with_reducible repeat (first | refine blk_drewN ?_ _ | refine blk_drew ?_ | refine blk_alloc ?_ _)); exact BK221.out) hb); have n1_ := Aside0.mk (below_step (by repeat (first | (with_reducible first | exact HB.out | apply below_alloc | apply pw_below_drewN | apply below_drew1 | refine below_set ?_ GE221.out) | exact HB.out)) hb); have n2_ := Aside0.mk (hbox); have n3_ := Aside0.mk ((by rw [hg]; exact (below_size (by repeat (first | (with_reducible first | exact HB.out | apply below_alloc | apply pw_below_drewN | apply below_drew1 | refine below_set ?_ GE221.out) | exact HB.out))) : w.heap.size ≤ gb231)); have n4_ := Aside0.mk ((by rw [hg]; exact (below_size (by repeat (first | (with_reducible first | exact HB.out | apply below_alloc | apply pw_below_drewN | apply below_drew1 | refine below_set ?_ GE221.out) | exact HB.out))) : w.heap.size ≤ gb231)); have n5_ := Aside0.mk ((by rw [hg]; exact Nat.ne_of_lt (blk_lt (g := gb221) (o := .cells #[.int .i64 a0_0, .int .i64 a0_1, .bool a0_2, .int .i64 a0_3] 51 (0, 0)) (by (with_reducible repeat (first | refine blk_drewN ?_ _ | refine blk_drew ?_ | refine blk_alloc ?_ _)); exact BK221.out)) : gb221 ≠ gb231)); have n6_ := Aside0.mk ((by rw [hg]; exact Nat.ne_of_gt (blk_lt (g := gb221) (o := .cells #[.int .i64 a0_0, .int .i64 a0_1, .bool a0_2, .int .i64 a0_3] 51 (0, 0)) (by (with_reducible repeat (first | refine blk_drewN ?_ _ | refine blk_drew ?_ | refine blk_alloc ?_ _)); exact BK221.out)) : gb231 ≠ gb221)); clear BK221; clear HB; have BK221 := n0_; have HB := n1_; have BK231 := n2_; have GW231 := n3_; have GE231 := n4_; have NB221_231 := n5_; have NB231_221 := n6_; clear n0_ n1_ n2_ n3_ n4_ n5_ n6_; clear hb hbox hg; have hnb33 := NB231_221.out; have hnc33 := NB221_231.out; have hcz34_0 : w32.cell? ⟨gb231, 0, none⟩ = some (.int .i64 0) := (blk_cell BK231.out 0).trans rfl; have hcz34_1 : w32.cell? ⟨gb231, 1, none⟩ = some (.int .i64 0) := (blk_cell BK231.out 1).trans rfl; have hcz34_2 : w32.cell? ⟨gb231, 2, none⟩ = some (.bool false) := (blk_cell BK231.out 2).trans rfl; have hcz34_3 : w32.cell? ⟨gb231, 3, none⟩ = some (.int .i64 0) := (blk_cell BK231.out 3).trans rfl; have hfz34_0 := blk_frozen BK231.out 0; have hfz34_1 := blk_frozen BK231.out 1; have hfz34_2 := blk_frozen BK231.out 2; have hfz34_3 := blk_frozen BK231.out 3))
        go_ret
        exact ⟨by first | rfl | (simp [errW_none, errW_some] <;> rfl) | (simp only [← hji15]; first | rfl | (simp [errW_none, errW_some] <;> rfl)) | (simp [*, errW_none, errW_some] <;> rfl), by repeat (first | (with_reducible first | exact HB.out | apply below_alloc | apply pw_below_drewN | apply below_drew1 | refine below_set ?_ GE221.out | refine below_set ?_ GE231.out) | exact HB.out)⟩
      ·rw [if_neg c17] at H
       exact absurd H (by simp)
     ·rw [if_neg c16] at H
      exact absurd H (by simp)

end Go.Proofs.Ytmcpfkgahmdkgaa.Pr
end
section
namespace Go.Proofs.Ytmcpfkgahmdkgaa.M
open Go.RowKit Go.Proofs.Ytmcpfkgahmdkgaa.Pr Go.Proofs.YtmcpfkgahmdkgaaW.PrintWords Go.Proofs.YtmcpfkgahmdkgaaW.PrintLast Go.Proofs.YtmcpfkgahmdkgaaW.PrintMore
set_option linter.unusedSimpArgs false
theorem awake15 : Ev (fun k => clavigerlaw15_awake.f k) true := Ev.of clavigerlaw15_awake.mono (k := 20) (by kernel_rfl)
theorem hdec_c {s : ByteArray} (h : s.size ≤ 140737488351232) : head_Decode.f s = some (outD (decD (nb s))) := by
  unfold head_Decode.f
  rw [if_pos h]
theorem lenD_err {r : List Nat} {e : Int} (h : lenD r = .inr e) : e = 4 ∨ e = 5 := by
  cases r with
  | nil => injection h with h; exact .inr h.symm
  | cons y r =>
    rw [lenD] at h
    split at h
    · injection h with h; exact .inr h.symm
    · split at h
      · injection h with h; exact .inl h.symm
      · split at h
        · cases h
        · split at h
          · match r, h with
            | [], h => injection h with h; exact .inr h.symm
            | z :: r, h =>
              rw [len1] at h
              split at h
              · cases h
              · injection h with h; exact .inr h.symm
          · match r, h with
            | [], h => injection h with h; exact .inr h.symm
            | [_], h => injection h with h; exact .inr h.symm
            | z :: v :: r, h =>
              rw [len2] at h
              split at h
              · cases h
              · injection h with h; exact .inr h.symm
theorem finD_err {x t m : Nat} {r : List Nat} {e : Int} (h : finD x t m r = .inr e) : e = 4 ∨ e = 5 := by
  unfold finD at h
  cases h2 : lenD r with
  | inl q => rw [h2] at h; cases h
  | inr q => rw [h2] at h; injection h with h; rw [← h]; exact lenD_err h2
theorem decD_err {l : List Nat} {e : Int} (h : decD l = .inr e) : e = 4 ∨ e = 5 := by
  cases l with
  | nil => injection h with h; exact .inr h.symm
  | cons x r =>
    rw [decD] at h
    split at h
    · exact finD_err h
    · cases h2 : tagD r with
      | none => rw [h2] at h; injection h with h; exact .inr h.symm
      | some q => rw [h2] at h; exact finD_err h
theorem henc_nat (c t : Nat) (k : Bool) (l : Nat) (hc : c ≤ 3) (ht : t ≤ 2097151) (hl : l ≤ 65535) : Ev (fun n => head_Encode.f n (c : Int) (t : Int) k (l : Int)) (mkB (encL c t k l), 0) := by
  have := henc_c (c : Int) (t : Int) k (l : Int)
  rwa [encT_nat c t k l hc ht hl] at this
theorem nb_append (a b : ByteArray) : nb (a ++ b) = nb a ++ nb b := by
  conv => lhs; rw [← mkB_nb a, ← mkB_nb b, mkB_append]
  rw [nb_mkB (isB_append.2 ⟨isB_nb a, isB_nb b⟩)]
theorem isB_encL (c t : Nat) (k : Bool) (l : Nat) (hc : c ≤ 3) (ht : t ≤ 2097151) (hl : l ≤ 65535) : isB (encL c t k l) := by
  refine isB_append.2 ⟨?_, isB_lenL hl⟩
  have hk : k.toNat ≤ 1 := Bool.toNat_le _
  unfold tagL digL
  intro y hy
  split at hy
  · simp at hy; omega
  · split at hy
    · simp at hy; omega
    · split at hy
      · simp at hy; omega
      · simp at hy; omega
theorem encL_len (c t : Nat) (k : Bool) (l : Nat) : 2 ≤ (encL c t k l).length ∧ (encL c t k l).length ≤ 7 := by
  unfold encL tagL
  rw [List.length_append, lenL_len]
  split
  · rw [List.length_singleton]
    split
    · omega
    · split <;> omega
  · rw [List.length_cons, digL_len]
    split
    · split
      · omega
      · split <;> omega
    · split
      · split
        · omega
        · split <;> omega
      · split
        · omega
        · split <;> omega
theorem back_j1 (s : ByteArray) (hs : s.size ≤ 200) : Ev (fun k => clavigerlaw15_HeadBack.j1 k s) true := by
  refine evu ?_
  simp only [clavigerlaw15_HeadBack.j1]
  refine evs (hdec_c (by omega)) ?_
  cases h : decD (nb s) with
  | inr e =>
    have he := decD_err h
    refine evn (show ¬ e = 0 by omega) (evp rfl (evp rfl (evb awake15 (Ev.now _))))
  | inl q =>
    obtain ⟨c, t, k, l, n⟩ := q
    obtain ⟨h1, h2, h3, h4, h5⟩ := enc_dec (isB_nb s) h
    rw [nb_length] at h4
    refine evp rfl (evb (henc_nat c t k l (by omega) h2 h3) (evp rfl (evp (show (n : Int) ≤ (s.size : Int) by omega) (evp (show 0 ≤ (n : Int) by omega) (evp ?_ (evb awake15 (Ev.now _)))))))
    show (mkB (encL c t k l)).toList = (s.extract 0 (Int.toNat (n : Int))).toList
    rw [extract_nb, Int.toNat_natCast, List.drop_zero, h5]
theorem back_j0 (c t : Int) (k : Bool) (l : Int) (s1 s2 : ByteArray) (h1 : s1.size ≤ 200) (h2 : s2.size ≤ 200) : Ev (fun n => clavigerlaw15_HeadBack.j0 n s1 s2 false c t k l) true := by
  refine evu ?_
  simp only [clavigerlaw15_HeadBack.j0]
  refine evn (by decide) (evb (henc_c c t k l) ?_)
  unfold encT
  by_cases h : mayH c t l
  · rw [if_pos h]
    obtain ⟨c0, c3, t0, t3, l0, l3⟩ := h
    obtain ⟨c, rfl⟩ := Int.eq_ofNat_of_zero_le c0
    obtain ⟨t, rfl⟩ := Int.eq_ofNat_of_zero_le t0
    obtain ⟨l, rfl⟩ := Int.eq_ofNat_of_zero_le l0
    simp only [Int.toNat_natCast]
    have hE := encL_len c t k l
    have hsz : (mkB (encL c t k l)).size = (encL c t k l).length := mkB_size _
    have hsz2 : (mkB (encL c t k l) ++ s2).size = (mkB (encL c t k l)).size + s2.size := ByteArray.size_append ..
    have hd : decD (nb (mkB (encL c t k l) ++ s2)) = .inl (c, t, k, l, (encL c t k l).length) := by
      rw [nb_append, nb_mkB (isB_encL c t k l (by omega) (by omega) (by omega))]
      exact dec_enc c t l k (by omega) (by omega) (by omega) _
    refine evp trivial (evp (by omega) (evs (hdec_c (by omega)) ?_))
    rw [hd]
    refine evp rfl (evp (show (((encL c t k l).length : Nat) : Int) = _ by rw [hsz]) (evn ?_ (back_j1 s1 h1)))
    simp [outD]
  · rw [if_neg h]
    exact evn (by decide) (back_j1 s1 h1)
theorem back_yes (c t : Int) (k : Bool) (l : Int) (s1 s2 : ByteArray) : Ev (fun n => clavigerlaw15_HeadBack.j0 n s1 s2 true c t k l) true := by
  refine evu ?_
  simp only [clavigerlaw15_HeadBack.j0]
  exact evp trivial (evb awake15 (Ev.now _))
theorem back_ev (c t : Int) (k : Bool) (l : Int) (s1 s2 : ByteArray) : Ev (fun n => clavigerlaw15_HeadBack.f n c t k l s1 s2) true := by
  unfold clavigerlaw15_HeadBack.f
  by_cases h1 : (s1.size : Int) > 200
  · exact evp h1 (back_yes c t k l s1 s2)
  · refine evn h1 ?_
    by_cases h2 : (s2.size : Int) > 200
    · rw [decide_eq_true h2]
      exact back_yes c t k l s1 s2
    · rw [decide_eq_false h2]
      exact back_j0 c t k l s1 s2 (by omega) (by omega)
theorem short_ev (c t : Int) (k : Bool) (l : Int) (q : Nat) (hq : q < 256) : Ev (fun n => clavigerlaw15_HeadShort.f n c t k l (q : Int)) true := by
  unfold clavigerlaw15_HeadShort.f
  refine evb (henc_c c t k l) ?_
  unfold encT
  by_cases h : mayH c t l
  · rw [if_pos h]
    obtain ⟨c0, c3, t0, t3, l0, l3⟩ := h
    obtain ⟨c, rfl⟩ := Int.eq_ofNat_of_zero_le c0
    obtain ⟨t, rfl⟩ := Int.eq_ofNat_of_zero_le t0
    obtain ⟨l, rfl⟩ := Int.eq_ofNat_of_zero_le l0
    simp only [Int.toNat_natCast]
    have hE := encL_len c t k l
    have hsz : (mkB (encL c t k l)).size = (encL c t k l).length := mkB_size _
    have hne : ((mkB (encL c t k l)).toList == ([] : List UInt8)) = false := by
      refine beq_eq_false_iff_ne.2 (fun e => ?_)
      have := congrArg List.length e
      rw [tl_eq, Array.length_toList] at this
      have h0 : (mkB (encL c t k l)).size = 0 := this
      omega
    refine evp trivial ?_
    rw [hne]
    refine evu ?_
    simp only [clavigerlaw15_HeadShort.j0]
    have hm : Int.tmod (wrap64 (q : Int)) ((mkB (encL c t k l)).size : Int) = ((q % (mkB (encL c t k l)).size : Nat) : Int) := by
      rw [wrap_id (by omega) (by omega)]
      exact tm
    have hlt : q % (mkB (encL c t k l)).size < (mkB (encL c t k l)).size := Nat.mod_lt _ (by omega)
    rw [hm]
    generalize q % (mkB (encL c t k l)).size = n at *
    have hex : (mkB (encL c t k l)).extract 0 (Int.toNat (n : Int)) = mkB ((encL c t k l).take n) := by
      rw [extract_nb, Int.toNat_natCast, List.drop_zero, nb_mkB (isB_encL c t k l (by omega) (by omega) (by omega))]
    have hex2 : (mkB ((encL c t k l).take n)).size ≤ 7 := by rw [mkB_size, List.length_take]; omega
    rw [hex]
    refine evn (by decide) (evn (by omega) (evp (by omega) (evp (by omega) (evs (hdec_c (by omega)) ?_))))
    rw [nb_mkB (isB_take (isB_encL c t k l (by omega) (by omega) (by omega)) n), dec_short c t l k n (by omega) (by omega)]
    exact evp rfl (evp rfl (evb awake15 (Ev.now _)))
  · rw [if_neg h]
    refine evn (by decide) (evu ?_)
    simp only [clavigerlaw15_HeadShort.j0]
    exact evp trivial (evn (by decide) (evp (by decide +kernel) (evb awake15 (Ev.now _))))
end Go.Proofs.Ytmcpfkgahmdkgaa.M
namespace Go.Proofs.Ytmcpfkgahmdkgaa.Pr
open Go Go.RowKit
theorem headBack_walk (c t : Int) (k : Bool) (l : Int) (s1 s2 : ByteArray) (w : World) : Calls Try.prog 8 #[.agg #[.int .i64 c, .int .i64 t, .bool k, .int .i64 l], .string s1, .string s2] w fun e w' => e = .returned (.bool true) ∧ Below w.heap.size w w' := by
  obtain ⟨n, h⟩ := (M.back_ev c t k l s1 s2).rounds
  exact clavigerlaw15_HeadBack.calls n _ _ _ _ _ _ _ w h
theorem headShort_walk (c t : Int) (k : Bool) (l : Int) (q : Int) (w : World) (hq : (Lit.int .u8 q).wf = true) : Calls Try.prog 9 #[.agg #[.int .i64 c, .int .i64 t, .bool k, .int .i64 l], .int .u8 q] w fun e w' => e = .returned (.bool true) ∧ Below w.heap.size w w' := by
  obtain ⟨q, hq2, rfl⟩ := M.of_byte hq
  obtain ⟨n, h⟩ := (M.short_ev c t k l q hq2).rounds
  exact clavigerlaw15_HeadShort.calls n _ _ _ _ _ _ w h
end Go.Proofs.Ytmcpfkgahmdkgaa.Pr
end
section
namespace Go.Proofs.Ytmcpfkgahmdkgaa.RowAid
set_option maxRecDepth 100000
def c (n : Nat) : Char := Char.ofNat n
def L : List Char := [c 104, c 97, c 114, c 110, c 101, c 115, c 115, c 32, c 52, c 51, c 50, c 56, c 48, c 98, c 101, c 100, c 50, c 51, c 98, c 48, c 100, c 55, c 50, c 52, c 101, c 53, c 56, c 49, c 56, c 53, c 102, c 51, c 102, c 97, c 101, c 51, c 99, c 101, c 98, c 51, c 100, c 49, c 49, c 53, c 99, c 51, c 98, c 57, c 97, c 50, c 102, c 99, c 100, c 56, c 50, c 99, c 97, c 54, c 50, c 57, c 102, c 57, c 97, c 49, c 50, c 56, c 51, c 56, c 99, c 52, c 49, c 97, c 32, c 99, c 117, c 116, c 32, c 97, c 116, c 32, c 99, c 108, c 97, c 118, c 105, c 103, c 101, c 114, c 47, c 99, c 108, c 97, c 118, c 105, c 103, c 101, c 114, c 108, c 97, c 119, c 48, c 51, c 46, c 83, c 112, c 97, c 110, c 84, c 101, c 108, c 108, c 115, c 32, c 99, c 108, c 97, c 118, c 105, c 103, c 101, c 114, c 47, c 99, c 108, c 97, c 118, c 105, c 103, c 101, c 114, c 108, c 97, c 119, c 48, c 51, c 46, c 83, c 112, c 97, c 110, c 80, c 97, c 105, c 114, c 115, c 32, c 99, c 108, c 97, c 118, c 105, c 103, c 101, c 114, c 47, c 99, c 108, c 97, c 118, c 105, c 103, c 101, c 114, c 108, c 97, c 119, c 48, c 51, c 46, c 83, c 112, c 97, c 110, c 66, c 97, c 99, c 107, c 32, c 99, c 108, c 97, c 118, c 105, c 103, c 101, c 114, c 47, c 99, c 108, c 97, c 118, c 105, c 103, c 101, c 114, c 108, c 97, c 119, c 48, c 52, c 46, c 69, c 113, c 117, c 97, c 108, c 84, c 117, c 114, c 110, c 115, c 32, c 99, c 108, c 97, c 118, c 105, c 103, c 101, c 114, c 47, c 99, c 108, c 97, c 118, c 105, c 103, c 101, c 114, c 108, c 97, c 119, c 48, c 52, c 46, c 69, c 113, c 117, c 97, c 108, c 84, c 101, c 108, c 108, c 115, c 32, c 99, c 108, c 97, c 118, c 105, c 103, c 101, c 114, c 47, c 99, c 108, c 97, c 118, c 105, c 103, c 101, c 114, c 108, c 97, c 119, c 49, c 53, c 46, c 72, c 101, c 97, c 100, c 66, c 97, c 99, c 107, c 32, c 99, c 108, c 97, c 118, c 105, c 103, c 101, c 114, c 47, c 99, c 108, c 97, c 118, c 105, c 103, c 101, c 114, c 108, c 97, c 119, c 49, c 53, c 46, c 72, c 101, c 97, c 100, c 83, c 104, c 111, c 114, c 116, c 32, c 99, c 108, c 97, c 118, c 105, c 103, c 101, c 114, c 47, c 99, c 108, c 97, c 118, c 105, c 103, c 101, c 114, c 108, c 97, c 119, c 49, c 53, c 46, c 72, c 101, c 97, c 100, c 84, c 101, c 108, c 108, c 115, c 32, c 99, c 108, c 97, c 118, c 105, c 103, c 101, c 114, c 47, c 99, c 108, c 97, c 118, c 105, c 103, c 101, c 114, c 108, c 97, c 119, c 51, c 51, c 46, c 84, c 101, c 109, c 112, c 108, c 84, c 101, c 108, c 108, c 115, c 32, c 99, c 108, c 97, c 118, c 105, c 103, c 101, c 114, c 47, c 99, c 108, c 97, c 118, c 105, c 103, c 101, c 114, c 108, c 97, c 119, c 51, c 51, c 46, c 84, c 101, c 109, c 112, c 108, c 79, c 112, c 116, c 105, c 111, c 110, c 115, c 32, c 99, c 108, c 97, c 118, c 105, c 103, c 101, c 114, c 47, c 99, c 108, c 97, c 118, c 105, c 103, c 101, c 114, c 108, c 97, c 119, c 51, c 51, c 46, c 84, c 101, c 109, c 112, c 108, c 66, c 97, c 99, c 107]
def WL : List (List Char) := [[c 97, c 116], [c 99, c 108, c 97, c 118, c 105, c 103, c 101, c 114, c 47, c 99, c 108, c 97, c 118, c 105, c 103, c 101, c 114, c 108, c 97, c 119, c 48, c 51, c 46, c 83, c 112, c 97, c 110, c 84, c 101, c 108, c 108, c 115], [c 99, c 108, c 97, c 118, c 105, c 103, c 101, c 114, c 47, c 99, c 108, c 97, c 118, c 105, c 103, c 101, c 114, c 108, c 97, c 119, c 48, c 51, c 46, c 83, c 112, c 97, c 110, c 80, c 97, c 105, c 114, c 115], [c 99, c 108, c 97, c 118, c 105, c 103, c 101, c 114, c 47, c 99, c 108, c 97, c 118, c 105, c 103, c 101, c 114, c 108, c 97, c 119, c 48, c 51, c 46, c 83, c 112, c 97, c 110, c 66, c 97, c 99, c 107], [c 99, c 108, c 97, c 118, c 105, c 103, c 101, c 114, c 47, c 99, c 108, c 97, c 118, c 105, c 103, c 101, c 114, c 108, c 97, c 119, c 48, c 52, c 46, c 69, c 113, c 117, c 97, c 108, c 84, c 117, c 114, c 110, c 115], [c 99, c 108, c 97, c 118, c 105, c 103, c 101, c 114, c 47, c 99, c 108, c 97, c 118, c 105, c 103, c 101, c 114, c 108, c 97, c 119, c 48, c 52, c 46, c 69, c 113, c 117, c 97, c 108, c 84, c 101, c 108, c 108, c 115], [c 99, c 108, c 97, c 118, c 105, c 103, c 101, c 114, c 47, c 99, c 108, c 97, c 118, c 105, c 103, c 101, c 114, c 108, c 97, c 119, c 49, c 53, c 46, c 72, c 101, c 97, c 100, c 66, c 97, c 99, c 107], [c 99, c 108, c 97, c 118, c 105, c 103, c 101, c 114, c 47, c 99, c 108, c 97, c 118, c 105, c 103, c 101, c 114, c 108, c 97, c 119, c 49, c 53, c 46, c 72, c 101, c 97, c 100, c 83, c 104, c 111, c 114, c 116], [c 99, c 108, c 97, c 118, c 105, c 103, c 101, c 114, c 47, c 99, c 108, c 97, c 118, c 105, c 103, c 101, c 114, c 108, c 97, c 119, c 49, c 53, c 46, c 72, c 101, c 97, c 100, c 84, c 101, c 108, c 108, c 115], [c 99, c 108, c 97, c 118, c 105, c 103, c 101, c 114, c 47, c 99, c 108, c 97, c 118, c 105, c 103, c 101, c 114, c 108, c 97, c 119, c 51, c 51, c 46, c 84, c 101, c 109, c 112, c 108, c 84, c 101, c 108, c 108, c 115], [c 99, c 108, c 97, c 118, c 105, c 103, c 101, c 114, c 47, c 99, c 108, c 97, c 118, c 105, c 103, c 101, c 114, c 108, c 97, c 119, c 51, c 51, c 46, c 84, c 101, c 109, c 112, c 108, c 79, c 112, c 116, c 105, c 111, c 110, c 115], [c 99, c 108, c 97, c 118, c 105, c 103, c 101, c 114, c 47, c 99, c 108, c 97, c 118, c 105, c 103, c 101, c 114, c 108, c 97, c 119, c 51, c 51, c 46, c 84, c 101, c 109, c 112, c 108, c 66, c 97, c 99, c 107]]
theorem z0 : Try.prog.initOrder = String.ofList L := by kernel_rfl
theorem z1 : Try.prog.initOrder.toList = L := by rw [z0]; exact String.toList_ofList
theorem z2 : behindMainWord (wordsSigns L) = "cut".toList :: WL := by kernel_rfl
theorem z3 : behindMainWord (wordsSigns Try.prog.initOrder.toList) = "cut".toList :: WL := (congrArg (fun x => behindMainWord (wordsSigns x)) z1).trans z2
theorem strip_cut (r : List (List Char)) : stripLifts liftWords ("cut".toList :: r) = ([], "cut".toList :: r) := by
  unfold liftWords
  simp [stripLifts]
theorem make_cut {P : Program} {r : List (List Char)} (h : behindMainWord (wordsSigns P.initOrder.toList) = "cut".toList :: r) : P.make = some .cut := by
  unfold Program.make
  rw [h]
  simp
theorem lifts_cut {P : Program} {r : List (List Char)} (h : behindMainWord (wordsSigns P.initOrder.toList) = "cut".toList :: r) : P.headLifts = [] := by
  unfold Program.headLifts
  rw [h, strip_cut]
  simp
theorem final_cut {P : Program} {r : List (List Char)} (h : behindMainWord (wordsSigns P.initOrder.toList) = "cut".toList :: r) : P.liftsFinal = false := by
  unfold Program.liftsFinal
  rw [lifts_cut h, h]
  simp
theorem enter_cut {P : Program} {r : List (List Char)} (h : behindMainWord (wordsSigns P.initOrder.toList) = "cut".toList :: r) (h1 : P.laysLater = false) (h2 : P.bearsReflect = false) (h3 : P.doorFits [] = true) : P.mayEnter = true := by
  unfold Program.mayEnter
  rw [h]
  simp only [strip_cut]
  simp [h1, h2, h3]
theorem enter : Try.prog.mayEnter = true := enter_cut z3 (by as_aux_lemma => kernel_rfl) (by as_aux_lemma => kernel_rfl) (by as_aux_lemma => kernel_rfl)
theorem final : Try.prog.liftsFinal = false := final_cut z3
theorem make : Try.prog.make = some .cut := make_cut z3
theorem laid : laidOutB Try.prog = true := by kernel_rfl
theorem rowed : mapsRowed Try.prog = true := by kernel_rfl
theorem heard : Try.prog.stopsHeard = true := by kernel_rfl
theorem plain : Try.prog.plainKeys = true := by kernel_rfl
theorem and_mk {a b : Bool} (h : a = true) (k : b = true) : (a && b) = true := by rw [h, k]; rfl
end Go.Proofs.Ytmcpfkgahmdkgaa.RowAid
end
section
namespace Go.Proofs.Ytmcpfkgahmdkgaa.RowMem
open Go Go.ChangeShapes Go.WideShapes Go.RowKit
set_option linter.unusedVariables false
set_option linter.constructorNameAsVariable false
set_option maxRecDepth 10000
variable {H : Type} {enc : TypeId × Value → H} {W : World} {r : Reach} {b0 base : Nat} {spare : Nat → Bool} {held : Bool} {v : Value} {d : DataW H} {p : List MemPlace}
theorem open_head (hv : Value.okWide Try.prog W r b0 51 v) (h : DataW.Trod enc Try.prog W base spare held 51 v d p) : ∃ (a b : Int) (c : Bool) (e : Int), v = .agg #[.int .i64 a, .int .i64 b, .bool c, .int .i64 e] ∧ (Lit.int .i64 a).wf = true := by
  obtain ⟨v0, v1, v2, v3, y0, y1, y2, y3, n, rfl, -, -, h0, h1, h2, h3⟩ := Go.Joins.open_agg4 Try.underlying51 (by kernel_rfl) (by kernel_rfl) hv h
  obtain ⟨a, ha, _, wa⟩ := DataW.trod_int Try.underlying3 h0
  obtain ⟨b, hb, _, wb⟩ := DataW.trod_int Try.underlying3 h1
  obtain ⟨c, hc, _⟩ := DataW.trod_bool Try.underlying4 h2
  obtain ⟨e, he, _, we⟩ := DataW.trod_int Try.underlying3 h3
  exact ⟨a, b, c, e, by rw [List.singleton_inj.1 ha, List.singleton_inj.1 hb, List.singleton_inj.1 hc, List.singleton_inj.1 he], wa⟩
end Go.Proofs.Ytmcpfkgahmdkgaa.RowMem
end
