-- written by the session's program wip/hp.py over the kit's print; Lean checks it
import Derived.Test.YtmcpfkgahmdkgaaPrx0
import Derived.Test.YtmcpfkgahmdkgaaPrx5
import Derived.Test.YtmcpfkgahmdkgaaEqScan
import Derived.Test.YtmcpfkgahmdkgaaUnl
namespace Go.Proofs.Ytmcpfkgahmdkgaa.Pr
open Go.RowKit Go.Proofs.YtmcpfkgahmdkgaaW.PrintWords Go.Proofs.YtmcpfkgahmdkgaaW.PrintLast Go.Proofs.YtmcpfkgahmdkgaaW.PrintMore
attribute [local go_sem] max2_int min2_int max_two min_two max_three min_three max_four min_four   -- for this text's walks alone
set_option linter.unusedVariables false
set_option linter.unusedSimpArgs false

/-! ### clavigerlaw04_EqualTurns: function 6 -/
mutual
def clavigerlaw04_EqualTurns.j0 : Nat → ByteArray → ByteArray → ByteArray → Bool → Option (Bool)
 | 0, _, _, _, _ => none
 | k + 1, x0, x1, x2, x25 => if x25 = true then ((clavigerlaw04_awake.f k).bind fun t119 => (some t119)) else ((equal_Scan.f x0 x1).bind fun bt120 => ((equal_Scan.f x1 x0).bind fun bt122 => (if (bt120.1 != bt122.1) = true then (clavigerlaw04_EqualTurns.j1 k x0 x1 x2 bt120.2 true) else (if bt120.2 = bt122.2 then (if (bt120.1 != (x0.toList == x1.toList)) = true then (clavigerlaw04_EqualTurns.j1 k x0 x1 x2 bt120.2 true) else ((equal_Unlike.f x0 x1).bind fun t124 => (if (bt120.1 != (t124 == 0)) = true then (clavigerlaw04_EqualTurns.j1 k x0 x1 x2 bt120.2 true) else ((equal_Unlike.f x0 x1).bind fun t125 => ((equal_Unlike.f x1 x0).bind fun t126 => (if t125 = t126 then ((equal_First.f x0 x1).bind fun t127 => ((equal_First.f x1 x0).bind fun t128 => (clavigerlaw04_EqualTurns.j1 k x0 x1 x2 bt120.2 (t127 != t128)))) else (clavigerlaw04_EqualTurns.j1 k x0 x1 x2 bt120.2 true))))))) else (clavigerlaw04_EqualTurns.j1 k x0 x1 x2 bt120.2 true)))))
def clavigerlaw04_EqualTurns.j1 : Nat → ByteArray → ByteArray → ByteArray → Int → Bool → Option (Bool)
 | 0, _, _, _, _, _ => none
 | k + 1, x0, x1, x2, x8, x79 => if x79 = true then (some false) else ((equal_Scan.f x0 x2).bind fun bt129 => (if (x1.size : Int) = (x2.size : Int) then (if bt129.2 = x8 then ((clavigerlaw04_awake.f k).bind fun t131 => (some t131)) else (some false)) else ((clavigerlaw04_awake.f k).bind fun t132 => (some t132))))
end
def clavigerlaw04_EqualTurns.f (k : Nat) (a0 : ByteArray) (a1 : ByteArray) (a2 : ByteArray) : Option (Bool) := if (a0.size : Int) > 500 then (clavigerlaw04_EqualTurns.j0 k a0 a1 a2 true) else (if (a1.size : Int) > 500 then (clavigerlaw04_EqualTurns.j0 k a0 a1 a2 true) else (clavigerlaw04_EqualTurns.j0 k a0 a1 a2 (decide ((a2.size : Int) > 500))))
theorem clavigerlaw04_EqualTurns.mono_l : ∀ k, (∀ y0 y1 y2 y3, LeO (clavigerlaw04_EqualTurns.j0 k y0 y1 y2 y3) (clavigerlaw04_EqualTurns.j0 (k + 1) y0 y1 y2 y3)) ∧ (∀ y0 y1 y2 y3 y4, LeO (clavigerlaw04_EqualTurns.j1 k y0 y1 y2 y3 y4) (clavigerlaw04_EqualTurns.j1 (k + 1) y0 y1 y2 y3 y4))
 | 0 => ⟨fun _ _ _ _ r h => by simp [clavigerlaw04_EqualTurns.j0] at h, fun _ _ _ _ _ r h => by simp [clavigerlaw04_EqualTurns.j1] at h⟩
 | k + 1 => by
  obtain ⟨ih0, ih1⟩ := clavigerlaw04_EqualTurns.mono_l k
  refine ⟨?_, ?_⟩
  ·intro y0 y1 y2 y3
   unfold clavigerlaw04_EqualTurns.j0
   repeat' first
   | (with_reducible exact ih0 _ _ _ _)
   | (with_reducible exact ih1 _ _ _ _ _)
   | (with_reducible exact clavigerlaw04_awake.mono _)
   | (with_reducible exact LeO.refl _)
   | (with_reducible exact LeO.none _)
   | (with_reducible refine LeO.ite ?_ ?_)
   | (with_reducible refine LeO.bind ?_ (fun _ => ?_))
   | exact ih0 _ _ _ _
   | exact ih1 _ _ _ _ _
   | exact clavigerlaw04_awake.mono _
   | exact LeO.none _
   | refine LeO.ite ?_ ?_
   | refine LeO.bind ?_ (fun _ => ?_)
  ·intro y0 y1 y2 y3 y4
   unfold clavigerlaw04_EqualTurns.j1
   repeat' first
   | (with_reducible exact ih0 _ _ _ _)
   | (with_reducible exact ih1 _ _ _ _ _)
   | (with_reducible exact clavigerlaw04_awake.mono _)
   | (with_reducible exact LeO.refl _)
   | (with_reducible exact LeO.none _)
   | (with_reducible refine LeO.ite ?_ ?_)
   | (with_reducible refine LeO.bind ?_ (fun _ => ?_))
   | exact ih0 _ _ _ _
   | exact ih1 _ _ _ _ _
   | exact clavigerlaw04_awake.mono _
   | exact LeO.none _
   | refine LeO.ite ?_ ?_
   | refine LeO.bind ?_ (fun _ => ?_)
theorem clavigerlaw04_EqualTurns.mono : ∀ a0 a1 a2 k, LeO (clavigerlaw04_EqualTurns.f k a0 a1 a2) (clavigerlaw04_EqualTurns.f (k + 1) a0 a1 a2) := by
 intro a0 a1 a2 k
 obtain ⟨ih0, ih1⟩ := clavigerlaw04_EqualTurns.mono_l k
 unfold clavigerlaw04_EqualTurns.f
 repeat' first
   | (with_reducible exact ih0 _ _ _ _)
   | (with_reducible exact ih1 _ _ _ _ _)
   | (with_reducible exact clavigerlaw04_awake.mono _)
   | (with_reducible exact LeO.refl _)
   | (with_reducible exact LeO.none _)
   | (with_reducible refine LeO.ite ?_ ?_)
   | (with_reducible refine LeO.bind ?_ (fun _ => ?_))
   | exact ih0 _ _ _ _
   | exact ih1 _ _ _ _ _
   | exact clavigerlaw04_awake.mono _
   | exact LeO.none _
   | refine LeO.ite ?_ ?_
   | refine LeO.bind ?_ (fun _ => ?_)
set_option maxHeartbeats 8000000 in
set_option maxRecDepth 100000 in
theorem clavigerlaw04_EqualTurns.calls (k : Nat) (a0 : ByteArray) (a1 : ByteArray) (a2 : ByteArray) (r : Bool) (w : World) (h : clavigerlaw04_EqualTurns.f k a0 a1 a2 = some r) :
  Calls Try.prog 6 #[.string a0, .string a1, .string a2] w fun e w' => e = .returned (.bool r) ∧ Below w.heap.size w w' := by
 have HB := Aside0.mk (Below.refl w.heap.size w)
 have H : (if (a0.size : Int) > 500 then (clavigerlaw04_EqualTurns.j0 k a0 a1 a2 true) else (if (a1.size : Int) > 500 then (clavigerlaw04_EqualTurns.j0 k a0 a1 a2 true) else (clavigerlaw04_EqualTurns.j0 k a0 a1 a2 (decide ((a2.size : Int) > 500))))) = some r := h
 clear h
 have HC4 := Aside0.mk H
 clear H
 go_enter Try.func6, Try.ntmps6
 go_upto_region 1 with (fail)
 go_cut [25] (fun v25 wc => ∃ (kq : Nat) (x25_3 : Bool), v25 = .bool x25_3 ∧ Aside0 (clavigerlaw04_EqualTurns.j0 kq a0 a1 a2 x25_3 = some r) ∧ Aside0 (kq ≤ k) ∧ Aside0 (Below w.heap.size w wc))
 case first =>
  have H := HC4.out
  clear HC4
  by_cases c5 : (a0.size : Int) > 500
  ·rw [if_pos c5] at H
   have c5b0 : decide (500 < (a0.size : Int)) = true := decide_eq_true c5
   have c5b1 : decide (500 < a0.size) = true := decide_eq_true (by omega)
   clear c5
   (first | rw [c5b0] | (simp only [i64_w, i32_w]; rw [c5b0]) | skip)
   have H' := Aside0.mk H
   clear H
   go_wp2
   go_meet
   case rel => exact ⟨_, (true), (by first | rfl | (simp; done) | (simp [*]; done)), H', ⟨by first | omega | exact Nat.le_refl _⟩, ⟨by repeat (first | (with_reducible first | exact HB.out | apply below_alloc | apply pw_below_drewN | apply below_drew1) | exact HB.out)⟩⟩
  ·rw [if_neg c5] at H
   have c5b0 : decide (500 < (a0.size : Int)) = false := decide_eq_false c5
   have c5b1 : decide (500 < a0.size) = false := decide_eq_false (by omega)
   clear c5
   (first | rw [c5b0] | (simp only [i64_w, i32_w]; rw [c5b0]) | skip)
   by_cases c6 : (a1.size : Int) > 500
   ·rw [if_pos c6] at H
    have c6b0 : decide (500 < (a1.size : Int)) = true := decide_eq_true c6
    have c6b1 : decide (500 < a1.size) = true := decide_eq_true (by omega)
    clear c6
    have H' := Aside0.mk H
    clear H
    go_wp2
    go_meet
    case rel => exact ⟨_, (true), (by first | rfl | (simp; done) | (simp [*]; done)), H', ⟨by first | omega | exact Nat.le_refl _⟩, ⟨by repeat (first | (with_reducible first | exact HB.out | apply below_alloc | apply pw_below_drewN | apply below_drew1) | exact HB.out)⟩⟩
   ·rw [if_neg c6] at H
    have c6b0 : decide (500 < (a1.size : Int)) = false := decide_eq_false c6
    have c6b1 : decide (500 < a1.size) = false := decide_eq_false (by omega)
    clear c6
    have H' := Aside0.mk H
    clear H
    go_wp2
    go_meet
    case rel => exact ⟨_, (decide ((a2.size : Int) > 500)), (by first | rfl | (simp; done) | (simp [*]; done)), H', ⟨by first | omega | exact Nat.le_refl _⟩, ⟨by repeat (first | (with_reducible first | exact HB.out | apply below_alloc | apply pw_below_drewN | apply below_drew1) | exact HB.out)⟩⟩
 case rest =>
  clear HC4
  try clear p2
  try clear c5
  try clear c5b0
  try clear c5b1
  try clear c6
  try clear c6b0
  try clear c6b1
  obtain ⟨kq, x25_3, rfl, HA, HJ3, HB⟩ := hcut
  cases kq with
  | zero => exact absurd HA.out (by simp [clavigerlaw04_EqualTurns.j0])
  | succ kj3 =>
   have H := HA.out
   clear HA
   simp only [clavigerlaw04_EqualTurns.j0] at H
   by_cases c7 : x25_3 = true
   ·subst c7
    have H1 : ((clavigerlaw04_awake.f kj3).bind fun t119 => (some t119)) = some r := by rw [if_pos rfl] at H; exact H
    clear H
    have H := H1
    clear H1
    replace H := Option.bind_eq_some_iff.mp H
    obtain ⟨t119, A80, H⟩ := H
    replace H : (some t119) = some r := H
    have A8 := Aside0.mk A80
    clear A80
    obtain rfl := Option.some.inj H
    go_wp2_with (first | ((with_reducible refine gate_callee (f := 29) rfl ?_); refine goesL_ (some 26) rfl rfl Try.func29 (by kernel_rfl) rfl #[] rfl (by (try simp only [List.map_toArray, List.map_cons, List.map_nil]); first | done | rfl | (simp only [List.length_drop, List.length_take]; rfl) | (simp only [ByteArray.size_extract, Nat.min_self, Nat.sub_zero, ByteArray.size_append]; first | done | rfl)) ?_; (with_reducible refine (clavigerlaw04_awake.calls kj3  t119 _ A8.out).mono ?_); rintro e w9 ⟨rfl, hb⟩; refine ⟨_, rfl, ?_⟩; have n0_ := Aside0.mk (below_step (by repeat (first | (with_reducible first | exact HB.out | apply below_alloc | apply pw_below_drewN | apply below_drew1) | exact HB.out)) hb); clear HB; have HB := n0_; clear n0_; (try clear hb); (try clear hb2); (try clear hk); (try clear hi)))
    go_ret
    exact ⟨by first | rfl | (simp [errW_none, errW_some] <;> rfl) | (simp [*, errW_none, errW_some] <;> rfl), by repeat (first | (with_reducible first | exact HB.out | apply below_alloc | apply pw_below_drewN | apply below_drew1) | exact HB.out)⟩
   ·replace c7 := Bool.eq_false_iff.mpr c7
    subst c7
    have H1 : ((equal_Scan.f a0 a1).bind fun bt120 => ((equal_Scan.f a1 a0).bind fun bt122 => (if (bt120.1 != bt122.1) = true then (clavigerlaw04_EqualTurns.j1 kj3 a0 a1 a2 bt120.2 true) else (if bt120.2 = bt122.2 then (if (bt120.1 != (a0.toList == a1.toList)) = true then (clavigerlaw04_EqualTurns.j1 kj3 a0 a1 a2 bt120.2 true) else ((equal_Unlike.f a0 a1).bind fun t124 => (if (bt120.1 != (t124 == 0)) = true then (clavigerlaw04_EqualTurns.j1 kj3 a0 a1 a2 bt120.2 true) else ((equal_Unlike.f a0 a1).bind fun t125 => ((equal_Unlike.f a1 a0).bind fun t126 => (if t125 = t126 then ((equal_First.f a0 a1).bind fun t127 => ((equal_First.f a1 a0).bind fun t128 => (clavigerlaw04_EqualTurns.j1 kj3 a0 a1 a2 bt120.2 (t127 != t128)))) else (clavigerlaw04_EqualTurns.j1 kj3 a0 a1 a2 bt120.2 true))))))) else (clavigerlaw04_EqualTurns.j1 kj3 a0 a1 a2 bt120.2 true))))) = some r := by rw [if_neg (show ¬ (false = true) by decide)] at H; exact H
    clear H
    have H := H1
    clear H1
    replace H := Option.bind_eq_some_iff.mp H
    obtain ⟨⟨t120, t121⟩, A100, H⟩ := H
    replace H : ((equal_Scan.f a1 a0).bind fun bt122 => (if (t120 != bt122.1) = true then (clavigerlaw04_EqualTurns.j1 kj3 a0 a1 a2 t121 true) else (if t121 = bt122.2 then (if (t120 != (a0.toList == a1.toList)) = true then (clavigerlaw04_EqualTurns.j1 kj3 a0 a1 a2 t121 true) else ((equal_Unlike.f a0 a1).bind fun t124 => (if (t120 != (t124 == 0)) = true then (clavigerlaw04_EqualTurns.j1 kj3 a0 a1 a2 t121 true) else ((equal_Unlike.f a0 a1).bind fun t125 => ((equal_Unlike.f a1 a0).bind fun t126 => (if t125 = t126 then ((equal_First.f a0 a1).bind fun t127 => ((equal_First.f a1 a0).bind fun t128 => (clavigerlaw04_EqualTurns.j1 kj3 a0 a1 a2 t121 (t127 != t128)))) else (clavigerlaw04_EqualTurns.j1 kj3 a0 a1 a2 t121 true))))))) else (clavigerlaw04_EqualTurns.j1 kj3 a0 a1 a2 t121 true)))) = some r := H
    have A10 := Aside0.mk A100
    clear A100
    replace H := Option.bind_eq_some_iff.mp H
    obtain ⟨⟨t122, t123⟩, A110, H⟩ := H
    replace H : (if (t120 != t122) = true then (clavigerlaw04_EqualTurns.j1 kj3 a0 a1 a2 t121 true) else (if t121 = t123 then (if (t120 != (a0.toList == a1.toList)) = true then (clavigerlaw04_EqualTurns.j1 kj3 a0 a1 a2 t121 true) else ((equal_Unlike.f a0 a1).bind fun t124 => (if (t120 != (t124 == 0)) = true then (clavigerlaw04_EqualTurns.j1 kj3 a0 a1 a2 t121 true) else ((equal_Unlike.f a0 a1).bind fun t125 => ((equal_Unlike.f a1 a0).bind fun t126 => (if t125 = t126 then ((equal_First.f a0 a1).bind fun t127 => ((equal_First.f a1 a0).bind fun t128 => (clavigerlaw04_EqualTurns.j1 kj3 a0 a1 a2 t121 (t127 != t128)))) else (clavigerlaw04_EqualTurns.j1 kj3 a0 a1 a2 t121 true))))))) else (clavigerlaw04_EqualTurns.j1 kj3 a0 a1 a2 t121 true))) = some r := H
    have A11 := Aside0.mk A110
    clear A110
    have HC12 := Aside0.mk H
    clear H
    go_upto_region 5 with (first | ((with_reducible refine gate_callee (f := 30) rfl ?_); refine goesL_ (some 30) rfl rfl Try.func30 (by kernel_rfl) rfl #[.string a0, .string a1] rfl (by (try simp only [List.map_toArray, List.map_cons, List.map_nil]); first | done | rfl | (simp only [List.length_drop, List.length_take]; rfl) | (simp only [ByteArray.size_extract, Nat.min_self, Nat.sub_zero, ByteArray.size_append]; first | done | rfl)) ?_; (with_reducible refine (equal_Scan.calls a0 a1 t120 t121 _ A10.out).mono ?_); rintro e w13 ⟨rfl, hb⟩; refine ⟨_, rfl, ?_⟩; have n0_ := Aside0.mk (below_step (by repeat (first | (with_reducible first | exact HB.out | apply below_alloc | apply pw_below_drewN | apply below_drew1) | exact HB.out)) hb); clear HB; have HB := n0_; clear n0_; (try clear hb); (try clear hb2); (try clear hk); (try clear hi)) | ((with_reducible refine gate_callee (f := 30) rfl ?_); refine goesL_ (some 36) rfl rfl Try.func30 (by kernel_rfl) rfl #[.string a1, .string a0] rfl (by (try simp only [List.map_toArray, List.map_cons, List.map_nil]); first | done | rfl | (simp only [List.length_drop, List.length_take]; rfl) | (simp only [ByteArray.size_extract, Nat.min_self, Nat.sub_zero, ByteArray.size_append]; first | done | rfl)) ?_; (with_reducible refine (equal_Scan.calls a1 a0 t122 t123 _ A11.out).mono ?_); rintro e w14 ⟨rfl, hb⟩; refine ⟨_, rfl, ?_⟩; have n0_ := Aside0.mk (below_step (by repeat (first | (with_reducible first | exact HB.out | apply below_alloc | apply pw_below_drewN | apply below_drew1) | exact HB.out)) hb); clear HB; have HB := n0_; clear n0_; (try clear hb); (try clear hb2); (try clear hk); (try clear hi)))
    (try simp only [Act.put, List.setIfInBounds_toArray, List.set_cons_zero, List.set_cons_succ])
    go_cut [79] (fun v79 wc => ∃ (kq : Nat) (x79_11 : Bool), v79 = .bool x79_11 ∧ Aside0 (clavigerlaw04_EqualTurns.j1 kq a0 a1 a2 t121 x79_11 = some r) ∧ Aside0 (kq ≤ kj3) ∧ Aside0 (Below w.heap.size w wc))
    case first =>
     have H := HC12.out
     clear HC12
     by_cases c15 : (t120 != t122) = true
     ·rw [if_pos c15] at H
      have c15b0 : (t120 != t122) = true := c15
      (try (have c15b1 : decide (t120 = t122) = false := by simpa using c15))
      (try (have c15b2 : (t120 == t122) = false := by simpa using c15))
      (try (have c15b3 : ¬ (t120 = t122) := by simpa using c15))
      clear c15
      (first | rw [c15b0] | (simp only [i64_w, i32_w]; rw [c15b0]) | skip)
      have H' := Aside0.mk H
      clear H
      go_wp2
      go_meet
      case rel => exact ⟨_, (true), (by first | rfl | (simp; done) | (simp [*]; done)), H', ⟨by have := HJ3.out; first | omega | exact Nat.le_refl _⟩, ⟨by repeat (first | (with_reducible first | exact HB.out | apply below_alloc | apply pw_below_drewN | apply below_drew1) | exact HB.out)⟩⟩
     ·rw [if_neg c15] at H
      have c15b0 : (t120 != t122) = false := by simpa using c15
      (try (have c15b1 : decide (t120 = t122) = true := by simpa using c15))
      (try (have c15b2 : (t120 == t122) = true := by simpa using c15))
      clear c15
      (first | rw [c15b0] | (simp only [i64_w, i32_w]; rw [c15b0]) | skip)
      by_cases c16 : t121 = t123
      ·rw [if_pos c16] at H
       have c16b0 : (t121 == t123) = true := beq_iff_eq.mpr c16
       have c16b1 : (t121 != t123) = false := bne_eq_false_iff_eq.mpr c16
       clear c16
       by_cases c17 : (t120 != (a0.toList == a1.toList)) = true
       ·rw [if_pos c17] at H
        have c17b0 : (t120 != (a0.toList == a1.toList)) = true := c17
        (try (have c17b1 : decide (t120 = (a0.toList == a1.toList)) = false := by simpa using c17))
        (try (have c17b2 : (t120 == (a0.toList == a1.toList)) = false := by simpa using c17))
        (try (have c17b3 : ¬ (t120 = (a0.toList == a1.toList)) := by simpa using c17))
        clear c17
        have H' := Aside0.mk H
        clear H
        go_wp2
        go_meet
        case rel => exact ⟨_, (true), (by first | rfl | (simp; done) | (simp [*]; done)), H', ⟨by have := HJ3.out; first | omega | exact Nat.le_refl _⟩, ⟨by repeat (first | (with_reducible first | exact HB.out | apply below_alloc | apply pw_below_drewN | apply below_drew1) | exact HB.out)⟩⟩
       ·rw [if_neg c17] at H
        have c17b0 : (t120 != (a0.toList == a1.toList)) = false := by simpa using c17
        (try (have c17b1 : decide (t120 = (a0.toList == a1.toList)) = true := by simpa using c17))
        (try (have c17b2 : (t120 == (a0.toList == a1.toList)) = true := by simpa using c17))
        clear c17
        replace H := Option.bind_eq_some_iff.mp H
        obtain ⟨t124, A180, H⟩ := H
        replace H : (if (t120 != (t124 == 0)) = true then (clavigerlaw04_EqualTurns.j1 kj3 a0 a1 a2 t121 true) else ((equal_Unlike.f a0 a1).bind fun t125 => ((equal_Unlike.f a1 a0).bind fun t126 => (if t125 = t126 then ((equal_First.f a0 a1).bind fun t127 => ((equal_First.f a1 a0).bind fun t128 => (clavigerlaw04_EqualTurns.j1 kj3 a0 a1 a2 t121 (t127 != t128)))) else (clavigerlaw04_EqualTurns.j1 kj3 a0 a1 a2 t121 true))))) = some r := H
        have A18 := Aside0.mk A180
        clear A180
        by_cases c19 : (t120 != (t124 == 0)) = true
        ·rw [if_pos c19] at H
         have c19b0 : (t120 != (t124 == 0)) = true := c19
         (try (have c19b1 : decide (t120 = (t124 == 0)) = false := by simpa using c19))
         (try (have c19b2 : (t120 == (t124 == 0)) = false := by simpa using c19))
         (try (have c19b3 : ¬ (t120 = (t124 == 0)) := by simpa using c19))
         clear c19
         have H' := Aside0.mk H
         clear H
         go_wp2_with (first | (go_at_call 31; (with_reducible refine (equal_Unlike.calls a0 a1 t124 _ A18.out).mono ?_); rintro e w20 ⟨rfl, hb⟩; have n0_ := Aside0.mk (below_step (by repeat (first | (with_reducible first | exact HB.out | apply below_alloc | apply pw_below_drewN | apply below_drew1) | exact HB.out)) hb); clear HB; have HB := n0_; clear n0_; (try clear hb); (try clear hb2); (try clear hk); (try clear hi)))
         go_meet
         case rel => exact ⟨_, (true), (by first | rfl | (simp; done) | (simp [*]; done)), H', ⟨by have := HJ3.out; first | omega | exact Nat.le_refl _⟩, ⟨by repeat (first | (with_reducible first | exact HB.out | apply below_alloc | apply pw_below_drewN | apply below_drew1) | exact HB.out)⟩⟩
        ·rw [if_neg c19] at H
         have c19b0 : (t120 != (t124 == 0)) = false := by simpa using c19
         (try (have c19b1 : decide (t120 = (t124 == 0)) = true := by simpa using c19))
         (try (have c19b2 : (t120 == (t124 == 0)) = true := by simpa using c19))
         clear c19
         replace H := Option.bind_eq_some_iff.mp H
         obtain ⟨t125, A210, H⟩ := H
         obtain rfl : t124 = t125 := Option.some.inj (A18.out.symm.trans A210)
         replace H : ((equal_Unlike.f a1 a0).bind fun t126 => (if t124 = t126 then ((equal_First.f a0 a1).bind fun t127 => ((equal_First.f a1 a0).bind fun t128 => (clavigerlaw04_EqualTurns.j1 kj3 a0 a1 a2 t121 (t127 != t128)))) else (clavigerlaw04_EqualTurns.j1 kj3 a0 a1 a2 t121 true))) = some r := H
         have A21 := Aside0.mk A210
         clear A210
         replace H := Option.bind_eq_some_iff.mp H
         obtain ⟨t126, A220, H⟩ := H
         replace H : (if t124 = t126 then ((equal_First.f a0 a1).bind fun t127 => ((equal_First.f a1 a0).bind fun t128 => (clavigerlaw04_EqualTurns.j1 kj3 a0 a1 a2 t121 (t127 != t128)))) else (clavigerlaw04_EqualTurns.j1 kj3 a0 a1 a2 t121 true)) = some r := H
         have A22 := Aside0.mk A220
         clear A220
         by_cases c23 : t124 = t126
         ·rw [if_pos c23] at H
          have c23b0 : (t124 == t126) = true := beq_iff_eq.mpr c23
          have c23b1 : (t124 != t126) = false := bne_eq_false_iff_eq.mpr c23
          clear c23
          replace H := Option.bind_eq_some_iff.mp H
          obtain ⟨t127, A240, H⟩ := H
          replace H : ((equal_First.f a1 a0).bind fun t128 => (clavigerlaw04_EqualTurns.j1 kj3 a0 a1 a2 t121 (t127 != t128))) = some r := H
          have A24 := Aside0.mk A240
          clear A240
          replace H := Option.bind_eq_some_iff.mp H
          obtain ⟨t128, A250, H⟩ := H
          replace H : (clavigerlaw04_EqualTurns.j1 kj3 a0 a1 a2 t121 (t127 != t128)) = some r := H
          have A25 := Aside0.mk A250
          clear A250
          have H' := Aside0.mk H
          clear H
          go_wp2_with (first | (go_at_call 31; (with_reducible refine (equal_Unlike.calls a0 a1 t124 _ A18.out).mono ?_); rintro e w26 ⟨rfl, hb⟩; have n0_ := Aside0.mk (below_step (by repeat (first | (with_reducible first | exact HB.out | apply below_alloc | apply pw_below_drewN | apply below_drew1) | exact HB.out)) hb); clear HB; have HB := n0_; clear n0_; (try clear hb); (try clear hb2); (try clear hk); (try clear hi)) | (go_at_call 31; (with_reducible refine (equal_Unlike.calls a0 a1 t124 _ A21.out).mono ?_); rintro e w27 ⟨rfl, hb⟩; have n0_ := Aside0.mk (below_step (by repeat (first | (with_reducible first | exact HB.out | apply below_alloc | apply pw_below_drewN | apply below_drew1) | exact HB.out)) hb); clear HB; have HB := n0_; clear n0_; (try clear hb); (try clear hb2); (try clear hk); (try clear hi)) | (go_at_call 31; (with_reducible refine (equal_Unlike.calls a1 a0 t126 _ A22.out).mono ?_); rintro e w28 ⟨rfl, hb⟩; have n0_ := Aside0.mk (below_step (by repeat (first | (with_reducible first | exact HB.out | apply below_alloc | apply pw_below_drewN | apply below_drew1) | exact HB.out)) hb); clear HB; have HB := n0_; clear n0_; (try clear hb); (try clear hb2); (try clear hk); (try clear hi)) | (go_at_call 32; (with_reducible refine (equal_First.calls a0 a1 t127 _ A24.out).mono ?_); rintro e w29 ⟨rfl, hb⟩; have n0_ := Aside0.mk (below_step (by repeat (first | (with_reducible first | exact HB.out | apply below_alloc | apply pw_below_drewN | apply below_drew1) | exact HB.out)) hb); clear HB; have HB := n0_; clear n0_; (try clear hb); (try clear hb2); (try clear hk); (try clear hi)) | (go_at_call 32; (with_reducible refine (equal_First.calls a1 a0 t128 _ A25.out).mono ?_); rintro e w30 ⟨rfl, hb⟩; have n0_ := Aside0.mk (below_step (by repeat (first | (with_reducible first | exact HB.out | apply below_alloc | apply pw_below_drewN | apply below_drew1) | exact HB.out)) hb); clear HB; have HB := n0_; clear n0_; (try clear hb); (try clear hb2); (try clear hk); (try clear hi)))
          go_meet
          case rel => exact ⟨_, ((t127 != t128)), (by first | rfl | (simp; done) | (simp [*]; done)), H', ⟨by have := HJ3.out; first | omega | exact Nat.le_refl _⟩, ⟨by repeat (first | (with_reducible first | exact HB.out | apply below_alloc | apply pw_below_drewN | apply below_drew1) | exact HB.out)⟩⟩
         ·rw [if_neg c23] at H
          have c23b0 : (t124 == t126) = false := beq_eq_false_iff_ne.mpr c23
          have c23b1 : (t124 != t126) = true := bne_iff_ne.mpr c23
          have H' := Aside0.mk H
          clear H
          go_wp2_with (first | (go_at_call 31; (with_reducible refine (equal_Unlike.calls a0 a1 t124 _ A18.out).mono ?_); rintro e w31 ⟨rfl, hb⟩; have n0_ := Aside0.mk (below_step (by repeat (first | (with_reducible first | exact HB.out | apply below_alloc | apply pw_below_drewN | apply below_drew1) | exact HB.out)) hb); clear HB; have HB := n0_; clear n0_; (try clear hb); (try clear hb2); (try clear hk); (try clear hi)) | (go_at_call 31; (with_reducible refine (equal_Unlike.calls a0 a1 t124 _ A21.out).mono ?_); rintro e w32 ⟨rfl, hb⟩; have n0_ := Aside0.mk (below_step (by repeat (first | (with_reducible first | exact HB.out | apply below_alloc | apply pw_below_drewN | apply below_drew1) | exact HB.out)) hb); clear HB; have HB := n0_; clear n0_; (try clear hb); (try clear hb2); (try clear hk); (try clear hi)) | (go_at_call 31; (with_reducible refine (equal_Unlike.calls a1 a0 t126 _ A22.out).mono ?_); rintro e w33 ⟨rfl, hb⟩; have n0_ := Aside0.mk (below_step (by repeat (first | (with_reducible first | exact HB.out | apply below_alloc | apply pw_below_drewN | apply below_drew1) | exact HB.out)) hb); clear HB; have HB := n0_; clear n0_; (try clear hb); (try clear hb2); (try clear hk); (try clear hi)))
          go_meet
          case rel => exact ⟨_, (true), (by first | rfl | (simp; done) | (simp [*]; done)), H', ⟨by have := HJ3.out; first | omega | exact Nat.le_refl _⟩, ⟨by repeat (first | (with_reducible first | exact HB.out | apply below_alloc | apply pw_below_drewN | apply below_drew1) | exact HB.out)⟩⟩
      ·rw [if_neg c16] at H
       have c16b0 : (t121 == t123) = false := beq_eq_false_iff_ne.mpr c16
       have c16b1 : (t121 != t123) = true := bne_iff_ne.mpr c16
       have H' := Aside0.mk H
       clear H
       go_wp2
       go_meet
       case rel => exact ⟨_, (true), (by first | rfl | (simp; done) | (simp [*]; done)), H', ⟨by have := HJ3.out; first | omega | exact Nat.le_refl _⟩, ⟨by repeat (first | (with_reducible first | exact HB.out | apply below_alloc | apply pw_below_drewN | apply below_drew1) | exact HB.out)⟩⟩
    case rest =>
     clear HC12
     try clear c1
     try clear c2
     try clear p2
     try clear c3
     try clear c5
     try clear c5b0
     try clear c5b1
     try clear c6
     try clear c6b0
     try clear c6b1
     try clear c7
     try clear c15
     try clear c15b0
     try clear c15b1
     try clear c15b2
     try clear c16
     try clear c16b0
     try clear c16b1
     try clear c17
     try clear c17b0
     try clear c17b1
     try clear c17b2
     try clear c19
     try clear c19b0
     try clear c19b1
     try clear c19b2
     try clear c23
     try clear c23b0
     try clear c23b1
     try clear c29
     try clear c30
     try clear p2
     obtain ⟨kq, x79_11, rfl, HA, HJ11, HB⟩ := hcut
     cases kq with
     | zero => exact absurd HA.out (by simp [clavigerlaw04_EqualTurns.j1])
     | succ kj11 =>
      have H := HA.out
      clear HA
      simp only [clavigerlaw04_EqualTurns.j1] at H
      by_cases c34 : x79_11 = true
      ·subst c34
       have H1 : (some false) = some r := by rw [if_pos rfl] at H; exact H
       clear H
       have H := H1
       clear H1
       obtain rfl := Option.some.inj H
       go_wp2
       go_ret
       exact ⟨by first | rfl | (simp [errW_none, errW_some] <;> rfl) | (simp [*, errW_none, errW_some] <;> rfl), by repeat (first | (with_reducible first | exact HB.out | apply below_alloc | apply pw_below_drewN | apply below_drew1) | exact HB.out)⟩
      ·replace c34 := Bool.eq_false_iff.mpr c34
       subst c34
       have H1 : ((equal_Scan.f a0 a2).bind fun bt129 => (if (a1.size : Int) = (a2.size : Int) then (if bt129.2 = t121 then ((clavigerlaw04_awake.f kj11).bind fun t131 => (some t131)) else (some false)) else ((clavigerlaw04_awake.f kj11).bind fun t132 => (some t132)))) = some r := by rw [if_neg (show ¬ (false = true) by decide)] at H; exact H
       clear H
       have H := H1
       clear H1
       replace H := Option.bind_eq_some_iff.mp H
       obtain ⟨⟨t129, t130⟩, A350, H⟩ := H
       replace H : (if (a1.size : Int) = (a2.size : Int) then (if t130 = t121 then ((clavigerlaw04_awake.f kj11).bind fun t131 => (some t131)) else (some false)) else ((clavigerlaw04_awake.f kj11).bind fun t132 => (some t132))) = some r := H
       have A35 := Aside0.mk A350
       clear A350
       by_cases c36 : (a1.size : Int) = (a2.size : Int)
       ·rw [if_pos c36] at H
        have c36b0 : ((a1.size : Int) == (a2.size : Int)) = true := beq_iff_eq.mpr c36
        have c36b1 : ((a1.size : Int) != (a2.size : Int)) = false := bne_eq_false_iff_eq.mpr c36
        have c36b2 : (a1.size == a2.size) = true := by first | simpa using c36 | (simp at c36 ⊢; omega)
        clear c36
        by_cases c37 : t130 = t121
        ·rw [if_pos c37] at H
         have c37b0 : (t130 == t121) = true := beq_iff_eq.mpr c37
         have c37b1 : (t130 != t121) = false := bne_eq_false_iff_eq.mpr c37
         clear c37
         replace H := Option.bind_eq_some_iff.mp H
         obtain ⟨t131, A380, H⟩ := H
         replace H : (some t131) = some r := H
         have A38 := Aside0.mk A380
         clear A380
         obtain rfl := Option.some.inj H
         go_wp2_with (first | ((with_reducible refine gate_callee (f := 30) rfl ?_); refine goesL_ (some 83) rfl rfl Try.func30 (by kernel_rfl) rfl #[.string a0, .string a2] rfl (by (try simp only [List.map_toArray, List.map_cons, List.map_nil]); first | done | rfl | (simp only [List.length_drop, List.length_take]; rfl) | (simp only [ByteArray.size_extract, Nat.min_self, Nat.sub_zero, ByteArray.size_append]; first | done | rfl)) ?_; (with_reducible refine (equal_Scan.calls a0 a2 t129 t130 _ A35.out).mono ?_); rintro e w39 ⟨rfl, hb⟩; refine ⟨_, rfl, ?_⟩; have n0_ := Aside0.mk (below_step (by repeat (first | (with_reducible first | exact HB.out | apply below_alloc | apply pw_below_drewN | apply below_drew1) | exact HB.out)) hb); clear HB; have HB := n0_; clear n0_; (try clear hb); (try clear hb2); (try clear hk); (try clear hi)) | (go_at_call 29; (with_reducible refine (clavigerlaw04_awake.calls kj11  t131 _ A38.out).mono ?_); rintro e w40 ⟨rfl, hb⟩; have n0_ := Aside0.mk (below_step (by repeat (first | (with_reducible first | exact HB.out | apply below_alloc | apply pw_below_drewN | apply below_drew1) | exact HB.out)) hb); clear HB; have HB := n0_; clear n0_; (try clear hb); (try clear hb2); (try clear hk); (try clear hi)))
         go_ret
         exact ⟨by first | rfl | (simp [errW_none, errW_some] <;> rfl) | (simp [*, errW_none, errW_some] <;> rfl), by repeat (first | (with_reducible first | exact HB.out | apply below_alloc | apply pw_below_drewN | apply below_drew1) | exact HB.out)⟩
        ·rw [if_neg c37] at H
         have c37b0 : (t130 == t121) = false := beq_eq_false_iff_ne.mpr c37
         have c37b1 : (t130 != t121) = true := bne_iff_ne.mpr c37
         obtain rfl := Option.some.inj H
         go_wp2_with (first | ((with_reducible refine gate_callee (f := 30) rfl ?_); refine goesL_ (some 83) rfl rfl Try.func30 (by kernel_rfl) rfl #[.string a0, .string a2] rfl (by (try simp only [List.map_toArray, List.map_cons, List.map_nil]); first | done | rfl | (simp only [List.length_drop, List.length_take]; rfl) | (simp only [ByteArray.size_extract, Nat.min_self, Nat.sub_zero, ByteArray.size_append]; first | done | rfl)) ?_; (with_reducible refine (equal_Scan.calls a0 a2 t129 t130 _ A35.out).mono ?_); rintro e w41 ⟨rfl, hb⟩; refine ⟨_, rfl, ?_⟩; have n0_ := Aside0.mk (below_step (by repeat (first | (with_reducible first | exact HB.out | apply below_alloc | apply pw_below_drewN | apply below_drew1) | exact HB.out)) hb); clear HB; have HB := n0_; clear n0_; (try clear hb); (try clear hb2); (try clear hk); (try clear hi)))
         go_ret
         exact ⟨by first | rfl | (simp [errW_none, errW_some] <;> rfl) | (simp [*, errW_none, errW_some] <;> rfl), by repeat (first | (with_reducible first | exact HB.out | apply below_alloc | apply pw_below_drewN | apply below_drew1) | exact HB.out)⟩
       ·rw [if_neg c36] at H
        have c36b0 : ((a1.size : Int) == (a2.size : Int)) = false := beq_eq_false_iff_ne.mpr c36
        have c36b1 : ((a1.size : Int) != (a2.size : Int)) = true := bne_iff_ne.mpr c36
        have c36b2 : (a1.size == a2.size) = false := by first | simpa using c36 | (simp at c36 ⊢; omega)
        replace H := Option.bind_eq_some_iff.mp H
        obtain ⟨t132, A420, H⟩ := H
        replace H : (some t132) = some r := H
        have A42 := Aside0.mk A420
        clear A420
        obtain rfl := Option.some.inj H
        go_wp2_with (first | ((with_reducible refine gate_callee (f := 30) rfl ?_); refine goesL_ (some 83) rfl rfl Try.func30 (by kernel_rfl) rfl #[.string a0, .string a2] rfl (by (try simp only [List.map_toArray, List.map_cons, List.map_nil]); first | done | rfl | (simp only [List.length_drop, List.length_take]; rfl) | (simp only [ByteArray.size_extract, Nat.min_self, Nat.sub_zero, ByteArray.size_append]; first | done | rfl)) ?_; (with_reducible refine (equal_Scan.calls a0 a2 t129 t130 _ A35.out).mono ?_); rintro e w43 ⟨rfl, hb⟩; refine ⟨_, rfl, ?_⟩; have n0_ := Aside0.mk (below_step (by repeat (first | (with_reducible first | exact HB.out | apply below_alloc | apply pw_below_drewN | apply below_drew1) | exact HB.out)) hb); clear HB; have HB := n0_; clear n0_; (try clear hb); (try clear hb2); (try clear hk); (try clear hi)) | (go_at_call 29; (with_reducible refine (clavigerlaw04_awake.calls kj11  t132 _ A42.out).mono ?_); rintro e w44 ⟨rfl, hb⟩; have n0_ := Aside0.mk (below_step (by repeat (first | (with_reducible first | exact HB.out | apply below_alloc | apply pw_below_drewN | apply below_drew1) | exact HB.out)) hb); clear HB; have HB := n0_; clear n0_; (try clear hb); (try clear hb2); (try clear hk); (try clear hi)))
        go_ret
        exact ⟨by first | rfl | (simp [errW_none, errW_some] <;> rfl) | (simp [*, errW_none, errW_some] <;> rfl), by repeat (first | (with_reducible first | exact HB.out | apply below_alloc | apply pw_below_drewN | apply below_drew1) | exact HB.out)⟩

/-- THE ONE PURE STATEMENT of clavigerlaw04_EqualTurns: yours. -/
def clavigerlaw04_EqualTurns.Pure : Prop := ∀ (a0 : ByteArray) (a1 : ByteArray) (a2 : ByteArray), a0.size ≤ 140737488351232 → a1.size ≤ 140737488351232 → a2.size ≤ 140737488351232 → ∃ k, clavigerlaw04_EqualTurns.f k a0 a1 a2 = some true
theorem clavigerlaw04_EqualTurns.walk (P : clavigerlaw04_EqualTurns.Pure) (a0 : ByteArray) (a1 : ByteArray) (a2 : ByteArray) (w : World) (w0 : a0.size ≤ 140737488351232) (w1 : a1.size ≤ 140737488351232) (w2 : a2.size ≤ 140737488351232) :
  Calls Try.prog 6 #[.string a0, .string a1, .string a2] w fun e w' => e = .returned (.bool true) ∧ Below w.heap.size w w' := by
 obtain ⟨k, h⟩ := P a0 a1 a2 w0 w1 w2
 refine (clavigerlaw04_EqualTurns.calls k a0 a1 a2 true w h).mono ?_
 rintro e w' ⟨rfl, hd⟩
 exact ⟨rfl, hd⟩

end Go.Proofs.Ytmcpfkgahmdkgaa.Pr
