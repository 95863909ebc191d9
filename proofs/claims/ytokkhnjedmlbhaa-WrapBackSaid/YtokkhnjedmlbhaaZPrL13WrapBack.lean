-- written by the session's program wip/hp.py over the kit's print; Lean checks it
import Derived.Test.YtokkhnjedmlbhaaZPrg01x
import Derived.Test.YtokkhnjedmlbhaaZWrapL
import Derived.Test.YtokkhnjedmlbhaaZWrapB
namespace Go.Proofs.Ytokkhnjedmlbhaa.Pr
open Go.RowKit Go.Proofs.YtokkhnjedmlbhaaW.PrintWords Go.Proofs.YtokkhnjedmlbhaaW.PrintLast Go.Proofs.YtokkhnjedmlbhaaW.PrintMore
attribute [local go_sem] max2_int min2_int max_two min_two max_three min_three max_four min_four   -- for this text's walks alone
set_option linter.unusedVariables false
set_option linter.unusedSimpArgs false

mutual
def clavigerlaw13_WrapBack.j0 : Nat → ByteArray → ByteArray → ByteArray → Bool → Option (Bool)
 | 0, _, _, _, _ => none
 | k + 1, x0, x1, x2, x28 => if x28 = true then ((clavigerlaw13_awake.f).bind fun t1 => (some t1)) else ((wrap_Raw.f x0 x1 x2).bind fun bt2 => (if bt2.2 = 0 then ((wrap_Unraw.f x0 bt2.1).bind fun bt3 => (if bt3.1.toList = x1.toList then (if bt3.2.1.toList = x2.toList then (if bt3.2.2 = 0 then (if (bt2.1.size : Int) = (wrap64 ((x2.size : Int) + 8)) then (clavigerlaw13_WrapBack.j1 k x0 x2) else (some false)) else (some false)) else (some false)) else (some false))) else (clavigerlaw13_WrapBack.j1 k x0 x2)))
def clavigerlaw13_WrapBack.j1 : Nat → ByteArray → ByteArray → Option (Bool)
 | 0, _, _ => none
 | k + 1, x0, x2 => (wrap_Wrap.f x0 x2).bind fun bt4 => (if bt4.2 = 0 then ((wrap_Unwrap.f x0 bt4.1).bind fun bt5 => (if bt5.1.toList = x2.toList then (if bt5.2 = 0 then ((clavigerlaw13_awake.f).bind fun t6 => (some t6)) else (some false)) else (some false))) else (if bt4.1.toList = ([] : List UInt8) then ((clavigerlaw13_awake.f).bind fun t7 => (some t7)) else (some false)))
end
def clavigerlaw13_WrapBack.f (k : Nat) (a0 : ByteArray) (a1 : ByteArray) (a2 : ByteArray) : Option (Bool) := if (a0.size : Int) > 100 then (clavigerlaw13_WrapBack.j0 k a0 a1 a2 true) else (if (a1.size : Int) > 100 then (clavigerlaw13_WrapBack.j0 k a0 a1 a2 true) else (clavigerlaw13_WrapBack.j0 k a0 a1 a2 (decide ((a2.size : Int) > 96))))
theorem clavigerlaw13_WrapBack.mono_l : ∀ k, (∀ y8 y9 y10 y11, LeO (clavigerlaw13_WrapBack.j0 k y8 y9 y10 y11) (clavigerlaw13_WrapBack.j0 (k + 1) y8 y9 y10 y11)) ∧ (∀ y8 y9, LeO (clavigerlaw13_WrapBack.j1 k y8 y9) (clavigerlaw13_WrapBack.j1 (k + 1) y8 y9))
 | 0 => ⟨fun _ _ _ _ r h => by simp [clavigerlaw13_WrapBack.j0] at h, fun _ _ r h => by simp [clavigerlaw13_WrapBack.j1] at h⟩
 | k + 1 => by
  obtain ⟨ih0, ih1⟩ := clavigerlaw13_WrapBack.mono_l k
  refine ⟨?_, ?_⟩
  ·intro y8 y9 y10 y11
   unfold clavigerlaw13_WrapBack.j0
   repeat' first
   | (with_reducible exact ih0 _ _ _ _)
   | (with_reducible exact ih1 _ _)
   | (with_reducible exact LeO.refl _)
   | (with_reducible exact LeO.none _)
   | (with_reducible refine LeO.ite ?_ ?_)
   | (with_reducible refine LeO.bind ?_ (fun _ => ?_))
  ·intro y8 y9
   unfold clavigerlaw13_WrapBack.j1
   repeat' first
   | (with_reducible exact ih0 _ _ _ _)
   | (with_reducible exact ih1 _ _)
   | (with_reducible exact LeO.refl _)
   | (with_reducible exact LeO.none _)
   | (with_reducible refine LeO.ite ?_ ?_)
   | (with_reducible refine LeO.bind ?_ (fun _ => ?_))
theorem clavigerlaw13_WrapBack.mono : ∀ a0 a1 a2 k, LeO (clavigerlaw13_WrapBack.f k a0 a1 a2) (clavigerlaw13_WrapBack.f (k + 1) a0 a1 a2) := by
 intro a0 a1 a2 k
 obtain ⟨ih0, ih1⟩ := clavigerlaw13_WrapBack.mono_l k
 unfold clavigerlaw13_WrapBack.f
 repeat' first
   | (with_reducible exact ih0 _ _ _ _)
   | (with_reducible exact ih1 _ _)
   | (with_reducible exact LeO.refl _)
   | (with_reducible exact LeO.none _)
   | (with_reducible refine LeO.ite ?_ ?_)
   | (with_reducible refine LeO.bind ?_ (fun _ => ?_))
set_option maxHeartbeats 8000000 in
set_option maxRecDepth 100000 in
theorem clavigerlaw13_WrapBack.calls (k : Nat) (a0 : ByteArray) (a1 : ByteArray) (a2 : ByteArray) (r : Bool) (w : World) (h : clavigerlaw13_WrapBack.f k a0 a1 a2 = some r) :
  Calls Try.prog 34 #[.string a0, .string a1, .string a2] w fun e w' => e = .returned (.bool r) ∧ Below w.heap.size w w' := by
 have HB := Aside0.mk (Below.refl w.heap.size w)
 have H : (if (a0.size : Int) > 100 then (clavigerlaw13_WrapBack.j0 k a0 a1 a2 true) else (if (a1.size : Int) > 100 then (clavigerlaw13_WrapBack.j0 k a0 a1 a2 true) else (clavigerlaw13_WrapBack.j0 k a0 a1 a2 (decide ((a2.size : Int) > 96))))) = some r := h
 clear h
 have HC4 := Aside0.mk H
 clear H
 go_enter Try.func34, Try.ntmps34
 go_upto_region 1 with (fail)
 go_cut [28] (fun v28 wc => ∃ (kq : Nat) (x28_3 : Bool), v28 = .bool x28_3 ∧ Aside0 (clavigerlaw13_WrapBack.j0 kq a0 a1 a2 x28_3 = some r) ∧ Aside0 (kq ≤ k) ∧ Aside0 (Below w.heap.size w wc))
 case first =>
  have H := HC4.out
  clear HC4
  by_cases c5 : (a0.size : Int) > 100
  ·rw [if_pos c5] at H
   have c5b0 : decide (100 < (a0.size : Int)) = true := decide_eq_true c5
   have c5b1 : decide (100 < a0.size) = true := decide_eq_true (by omega)
   clear c5
   (first | rw [c5b0] | (simp only [i64_w, i32_w]; rw [c5b0]) | skip)
   have H' := Aside0.mk H
   clear H
   go_wp2
   go_meet
   case rel => exact ⟨_, (true), (by first | rfl | (simp; done) | (simp [*]; done)), H', ⟨by first | omega | exact Nat.le_refl _⟩, ⟨by repeat first | with_reducible (first | exact HB.out | apply bA | apply bN | apply bD) | exact HB.out⟩⟩
  ·rw [if_neg c5] at H
   have c5b0 : decide (100 < (a0.size : Int)) = false := decide_eq_false c5
   have c5b1 : decide (100 < a0.size) = false := decide_eq_false (by omega)
   clear c5
   (first | rw [c5b0] | (simp only [i64_w, i32_w]; rw [c5b0]) | skip)
   by_cases c6 : (a1.size : Int) > 100
   ·rw [if_pos c6] at H
    have c6b0 : decide (100 < (a1.size : Int)) = true := decide_eq_true c6
    have c6b1 : decide (100 < a1.size) = true := decide_eq_true (by omega)
    clear c6
    have H' := Aside0.mk H
    clear H
    go_wp2
    go_meet
    case rel => exact ⟨_, (true), (by first | rfl | (simp; done) | (simp [*]; done)), H', ⟨by first | omega | exact Nat.le_refl _⟩, ⟨by repeat first | with_reducible (first | exact HB.out | apply bA | apply bN | apply bD) | exact HB.out⟩⟩
   ·rw [if_neg c6] at H
    have c6b0 : decide (100 < (a1.size : Int)) = false := decide_eq_false c6
    have c6b1 : decide (100 < a1.size) = false := decide_eq_false (by omega)
    clear c6
    have H' := Aside0.mk H
    clear H
    go_wp2
    go_meet
    case rel => exact ⟨_, (decide ((a2.size : Int) > 96)), (by first | rfl | (simp; done) | (simp [*]; done)), H', ⟨by first | omega | exact Nat.le_refl _⟩, ⟨by repeat first | with_reducible (first | exact HB.out | apply bA | apply bN | apply bD) | exact HB.out⟩⟩
 case rest =>
  clear HC4
  try clear p2
  try clear c3
  try clear c5
  try clear c5b0
  try clear c5b1
  try clear c6
  try clear c6b0
  try clear c6b1
  obtain ⟨kq, x28_3, rfl, HA, HJ3, HB⟩ := hcut
  cases kq with
  | zero => exact absurd HA.out (by simp [clavigerlaw13_WrapBack.j0])
  | succ kj3 =>
   have H := HA.out
   clear HA
   simp only [clavigerlaw13_WrapBack.j0] at H
   by_cases c7 : x28_3 = true
   ·subst c7
    have H1 : ((clavigerlaw13_awake.f).bind fun t1 => (some t1)) = some r := by rw [if_pos rfl] at H; exact H
    clear H
    have H := H1
    clear H1
    replace H := Option.bind_eq_some_iff.mp H
    obtain ⟨t1, A80, H⟩ := H
    replace H : (some t1) = some r := H
    have A8 := Aside0.mk A80
    clear A80
    obtain rfl := Option.some.inj H
    go_wp2_with (first | ((with_reducible refine gate_callee (f := 153) rfl ?_); refine goesL_ (some 29) rfl rfl Try.func153 (by kernel_rfl) rfl #[] rfl (by (try simp only [lT, lC, lN]); first | done | rfl) ?_; (with_reducible refine (clavigerlaw13_awake.calls  t1 _ A8.out).mono ?_); rintro e w9 ⟨rfl, hb⟩; refine ⟨_, rfl, ?_⟩; have n0_ := Aside0.mk (below_step (by repeat first | with_reducible (first | exact HB.out | apply bA | apply bN | apply bD) | exact HB.out) hb); clear HB; have HB := n0_; clear n0_; (try clear hb); (try clear hb2); (try clear hk); (try clear hi)))
    go_ret
    exact ⟨by first | rfl | (simp [*, errW_none, errW_some] <;> rfl), by repeat first | with_reducible (first | exact HB.out | apply bA | apply bN | apply bD) | exact HB.out⟩
   ·replace c7 := Bool.eq_false_iff.mpr c7
    subst c7
    have H1 : ((wrap_Raw.f a0 a1 a2).bind fun bt2 => (if bt2.2 = 0 then ((wrap_Unraw.f a0 bt2.1).bind fun bt3 => (if bt3.1.toList = a1.toList then (if bt3.2.1.toList = a2.toList then (if bt3.2.2 = 0 then (if (bt2.1.size : Int) = (wrap64 ((a2.size : Int) + 8)) then (clavigerlaw13_WrapBack.j1 kj3 a0 a2) else (some false)) else (some false)) else (some false)) else (some false))) else (clavigerlaw13_WrapBack.j1 kj3 a0 a2))) = some r := by rw [if_neg (show ¬ (false = true) by decide)] at H; exact H
    clear H
    have H := H1
    clear H1
    replace H := Option.bind_eq_some_iff.mp H
    obtain ⟨⟨t2, t12⟩, A100, H⟩ := H
    try dsimp only at H
    have A10 := Aside0.mk A100
    clear A100
    have HC11 := Aside0.mk H
    clear H
    go_upto_if 38 with (first | ((with_reducible refine gate_callee (f := 154) rfl ?_); refine goesL_ (some 34) rfl rfl Try.func154 (by kernel_rfl) rfl #[.string a0, .string a1, .string a2] rfl (by (try simp only [lT, lC, lN]); first | done | rfl) ?_; (with_reducible refine (wrap_Raw.calls a0 a1 a2 t2 t12 _ A10.out).mono ?_); rintro e w12 ⟨rfl, hb⟩; refine ⟨_, rfl, ?_⟩; have n0_ := Aside0.mk (below_step (by repeat first | with_reducible (first | exact HB.out | apply bA | apply bN | apply bD) | exact HB.out) hb); clear HB; have HB := n0_; clear n0_; (try clear hb); (try clear hb2); (try clear hk); (try clear hi)))
    (try simp only [Act.put, List.setIfInBounds_toArray, List.set_cons_zero, List.set_cons_succ])
    go_cut [] (fun wc => ∃ (kq : Nat), Aside0 (clavigerlaw13_WrapBack.j1 kq a0 a2 = some r) ∧ Aside0 (kq ≤ kj3) ∧ Aside0 (Below w.heap.size w wc))
    case first =>
     have H := HC11.out
     clear HC11
     by_cases c13 : t12 = 0
     ·rw [if_pos c13] at H
      have c13b0 : (t12 == 0) = true := beq_iff_eq.mpr c13
      have c13b1 : (t12 != 0) = false := bne_eq_false_iff_eq.mpr c13
      clear c13
      (first | rw [c13b0] | (simp only [i64_w, i32_w]; rw [c13b0]) | skip)
      replace H := Option.bind_eq_some_iff.mp H
      obtain ⟨⟨t3, t13, t14⟩, A140, H⟩ := H
      try dsimp only at H
      have A14 := Aside0.mk A140
      clear A140
      by_cases c15 : t3.toList = a1.toList
      ·rw [if_pos c15] at H
       have c15b0 : (t3.toList == a1.toList) = true := beq_iff_eq.mpr c15
       have c15b1 : (t3.toList != a1.toList) = false := bne_eq_false_iff_eq.mpr c15
       clear c15
       by_cases c16 : t13.toList = a2.toList
       ·rw [if_pos c16] at H
        have c16b0 : (t13.toList == a2.toList) = true := beq_iff_eq.mpr c16
        have c16b1 : (t13.toList != a2.toList) = false := bne_eq_false_iff_eq.mpr c16
        clear c16
        by_cases c17 : t14 = 0
        ·rw [if_pos c17] at H
         have c17b0 : (t14 == 0) = true := beq_iff_eq.mpr c17
         have c17b1 : (t14 != 0) = false := bne_eq_false_iff_eq.mpr c17
         clear c17
         by_cases c18 : (t2.size : Int) = (wrap64 ((a2.size : Int) + 8))
         ·rw [if_pos c18] at H
          have c18b0 : ((t2.size : Int) == (wrap64 ((a2.size : Int) + 8))) = true := beq_iff_eq.mpr c18
          have c18b1 : ((t2.size : Int) != (wrap64 ((a2.size : Int) + 8))) = false := bne_eq_false_iff_eq.mpr c18
          clear c18
          have H' := Aside0.mk H
          clear H
          go_wp2_with (first | ((with_reducible refine gate_callee (f := 156) rfl ?_); refine goesL_ (some 42) rfl rfl Try.func156 (by kernel_rfl) rfl #[.string a0, .string t2] rfl (by (try simp only [lT, lC, lN]); first | done | rfl) ?_; (with_reducible refine (wrap_Unraw.calls a0 t2 t3 t13 t14 _ A14.out).mono ?_); rintro e w19 ⟨rfl, hb⟩; refine ⟨_, rfl, ?_⟩; have n0_ := Aside0.mk (below_step (by repeat first | with_reducible (first | exact HB.out | apply bA | apply bN | apply bD) | exact HB.out) hb); clear HB; have HB := n0_; clear n0_; (try clear hb); (try clear hb2); (try clear hk); (try clear hi)))
          go_meet
          case rel => exact ⟨_, H', ⟨by have := HJ3.out; first | omega | exact Nat.le_refl _⟩, ⟨by repeat first | with_reducible (first | exact HB.out | apply bA | apply bN | apply bD) | exact HB.out⟩⟩
         ·rw [if_neg c18] at H
          have c18b0 : ((t2.size : Int) == (wrap64 ((a2.size : Int) + 8))) = false := beq_eq_false_iff_ne.mpr c18
          have c18b1 : ((t2.size : Int) != (wrap64 ((a2.size : Int) + 8))) = true := bne_iff_ne.mpr c18
          obtain rfl := Option.some.inj H
          go_wp2_with (first | ((with_reducible refine gate_callee (f := 156) rfl ?_); refine goesL_ (some 42) rfl rfl Try.func156 (by kernel_rfl) rfl #[.string a0, .string t2] rfl (by (try simp only [lT, lC, lN]); first | done | rfl) ?_; (with_reducible refine (wrap_Unraw.calls a0 t2 t3 t13 t14 _ A14.out).mono ?_); rintro e w20 ⟨rfl, hb⟩; refine ⟨_, rfl, ?_⟩; have n0_ := Aside0.mk (below_step (by repeat first | with_reducible (first | exact HB.out | apply bA | apply bN | apply bD) | exact HB.out) hb); clear HB; have HB := n0_; clear n0_; (try clear hb); (try clear hb2); (try clear hk); (try clear hi)))
          go_ret
          exact ⟨by first | rfl | (simp [*, errW_none, errW_some] <;> rfl), by repeat first | with_reducible (first | exact HB.out | apply bA | apply bN | apply bD) | exact HB.out⟩
        ·rw [if_neg c17] at H
         have c17b0 : (t14 == 0) = false := beq_eq_false_iff_ne.mpr c17
         have c17b1 : (t14 != 0) = true := bne_iff_ne.mpr c17
         obtain rfl := Option.some.inj H
         go_wp2_with (first | ((with_reducible refine gate_callee (f := 156) rfl ?_); refine goesL_ (some 42) rfl rfl Try.func156 (by kernel_rfl) rfl #[.string a0, .string t2] rfl (by (try simp only [lT, lC, lN]); first | done | rfl) ?_; (with_reducible refine (wrap_Unraw.calls a0 t2 t3 t13 t14 _ A14.out).mono ?_); rintro e w21 ⟨rfl, hb⟩; refine ⟨_, rfl, ?_⟩; have n0_ := Aside0.mk (below_step (by repeat first | with_reducible (first | exact HB.out | apply bA | apply bN | apply bD) | exact HB.out) hb); clear HB; have HB := n0_; clear n0_; (try clear hb); (try clear hb2); (try clear hk); (try clear hi)))
         go_ret
         exact ⟨by first | rfl | (simp [*, errW_none, errW_some] <;> rfl), by repeat first | with_reducible (first | exact HB.out | apply bA | apply bN | apply bD) | exact HB.out⟩
       ·rw [if_neg c16] at H
        have c16b0 : (t13.toList == a2.toList) = false := beq_eq_false_iff_ne.mpr c16
        have c16b1 : (t13.toList != a2.toList) = true := bne_iff_ne.mpr c16
        obtain rfl := Option.some.inj H
        go_wp2_with (first | ((with_reducible refine gate_callee (f := 156) rfl ?_); refine goesL_ (some 42) rfl rfl Try.func156 (by kernel_rfl) rfl #[.string a0, .string t2] rfl (by (try simp only [lT, lC, lN]); first | done | rfl) ?_; (with_reducible refine (wrap_Unraw.calls a0 t2 t3 t13 t14 _ A14.out).mono ?_); rintro e w22 ⟨rfl, hb⟩; refine ⟨_, rfl, ?_⟩; have n0_ := Aside0.mk (below_step (by repeat first | with_reducible (first | exact HB.out | apply bA | apply bN | apply bD) | exact HB.out) hb); clear HB; have HB := n0_; clear n0_; (try clear hb); (try clear hb2); (try clear hk); (try clear hi)))
        go_ret
        exact ⟨by first | rfl | (simp [*, errW_none, errW_some] <;> rfl), by repeat first | with_reducible (first | exact HB.out | apply bA | apply bN | apply bD) | exact HB.out⟩
      ·rw [if_neg c15] at H
       have c15b0 : (t3.toList == a1.toList) = false := beq_eq_false_iff_ne.mpr c15
       have c15b1 : (t3.toList != a1.toList) = true := bne_iff_ne.mpr c15
       obtain rfl := Option.some.inj H
       go_wp2_with (first | ((with_reducible refine gate_callee (f := 156) rfl ?_); refine goesL_ (some 42) rfl rfl Try.func156 (by kernel_rfl) rfl #[.string a0, .string t2] rfl (by (try simp only [lT, lC, lN]); first | done | rfl) ?_; (with_reducible refine (wrap_Unraw.calls a0 t2 t3 t13 t14 _ A14.out).mono ?_); rintro e w23 ⟨rfl, hb⟩; refine ⟨_, rfl, ?_⟩; have n0_ := Aside0.mk (below_step (by repeat first | with_reducible (first | exact HB.out | apply bA | apply bN | apply bD) | exact HB.out) hb); clear HB; have HB := n0_; clear n0_; (try clear hb); (try clear hb2); (try clear hk); (try clear hi)))
       go_ret
       exact ⟨by first | rfl | (simp [*, errW_none, errW_some] <;> rfl), by repeat first | with_reducible (first | exact HB.out | apply bA | apply bN | apply bD) | exact HB.out⟩
     ·rw [if_neg c13] at H
      have c13b0 : (t12 == 0) = false := beq_eq_false_iff_ne.mpr c13
      have c13b1 : (t12 != 0) = true := bne_iff_ne.mpr c13
      (first | rw [c13b0] | (simp only [i64_w, i32_w]; rw [c13b0]) | skip)
      have H' := Aside0.mk H
      clear H
      go_wp2
      go_meet
      case rel => exact ⟨_, H', ⟨by have := HJ3.out; first | omega | exact Nat.le_refl _⟩, ⟨by repeat first | with_reducible (first | exact HB.out | apply bA | apply bN | apply bD) | exact HB.out⟩⟩
    case rest =>
     clear HC11
     try clear c1
     try clear p2
     try clear c3
     try clear c5
     try clear c5b0
     try clear c5b1
     try clear c6
     try clear c6b0
     try clear c6b1
     try clear p6
     try clear c7
     try clear c13
     try clear c13b0
     try clear c13b1
     try clear c15
     try clear c15b0
     try clear c15b1
     try clear c16
     try clear c16b0
     try clear c16b1
     try clear c17
     try clear c17b0
     try clear c17b1
     try clear c18
     try clear c18b0
     try clear c18b1
     try clear p2
     obtain ⟨kq, HA, HJ10, HB⟩ := hcut
     cases kq with
     | zero => exact absurd HA.out (by simp [clavigerlaw13_WrapBack.j1])
     | succ kj10 =>
      have H := HA.out
      clear HA
      simp only [clavigerlaw13_WrapBack.j1] at H
      replace H := Option.bind_eq_some_iff.mp H
      obtain ⟨⟨t4, t15⟩, A240, H⟩ := H
      try dsimp only at H
      have A24 := Aside0.mk A240
      clear A240
      by_cases c25 : t15 = 0
      ·rw [if_pos c25] at H
       have c25b0 : (t15 == 0) = true := beq_iff_eq.mpr c25
       have c25b1 : (t15 != 0) = false := bne_eq_false_iff_eq.mpr c25
       clear c25
       replace H := Option.bind_eq_some_iff.mp H
       obtain ⟨⟨t5, t16⟩, A260, H⟩ := H
       try dsimp only at H
       have A26 := Aside0.mk A260
       clear A260
       by_cases c27 : t5.toList = a2.toList
       ·rw [if_pos c27] at H
        have c27b0 : (t5.toList == a2.toList) = true := beq_iff_eq.mpr c27
        have c27b1 : (t5.toList != a2.toList) = false := bne_eq_false_iff_eq.mpr c27
        clear c27
        by_cases c28 : t16 = 0
        ·rw [if_pos c28] at H
         have c28b0 : (t16 == 0) = true := beq_iff_eq.mpr c28
         have c28b1 : (t16 != 0) = false := bne_eq_false_iff_eq.mpr c28
         clear c28
         replace H := Option.bind_eq_some_iff.mp H
         obtain ⟨t6, A290, H⟩ := H
         replace H : (some t6) = some r := H
         have A29 := Aside0.mk A290
         clear A290
         obtain rfl := Option.some.inj H
         go_wp2_with (first | ((with_reducible refine gate_callee (f := 158) rfl ?_); refine goesL_ (some 69) rfl rfl Try.func158 (by kernel_rfl) rfl #[.string a0, .string a2] rfl (by (try simp only [lT, lC, lN]); first | done | rfl) ?_; (with_reducible refine (wrap_Wrap.calls a0 a2 t4 t15 _ A24.out).mono ?_); rintro e w30 ⟨rfl, hb⟩; refine ⟨_, rfl, ?_⟩; have n0_ := Aside0.mk (below_step (by repeat first | with_reducible (first | exact HB.out | apply bA | apply bN | apply bD) | exact HB.out) hb); clear HB; have HB := n0_; clear n0_; (try clear hb); (try clear hb2); (try clear hk); (try clear hi)) | ((with_reducible refine gate_callee (f := 160) rfl ?_); refine goesL_ (some 82) rfl rfl Try.func160 (by kernel_rfl) rfl #[.string a0, .string t4] rfl (by (try simp only [lT, lC, lN]); first | done | rfl) ?_; (with_reducible refine (wrap_Unwrap.calls a0 t4 t5 t16 _ A26.out).mono ?_); rintro e w31 ⟨rfl, hb⟩; refine ⟨_, rfl, ?_⟩; have n0_ := Aside0.mk (below_step (by repeat first | with_reducible (first | exact HB.out | apply bA | apply bN | apply bD) | exact HB.out) hb); clear HB; have HB := n0_; clear n0_; (try clear hb); (try clear hb2); (try clear hk); (try clear hi)) | (go_at_call 153; (with_reducible refine (clavigerlaw13_awake.calls  t6 _ A29.out).mono ?_); rintro e w32 ⟨rfl, hb⟩; have n0_ := Aside0.mk (below_step (by repeat first | with_reducible (first | exact HB.out | apply bA | apply bN | apply bD) | exact HB.out) hb); clear HB; have HB := n0_; clear n0_; (try clear hb); (try clear hb2); (try clear hk); (try clear hi)))
         go_ret
         exact ⟨by first | rfl | (simp [*, errW_none, errW_some] <;> rfl), by repeat first | with_reducible (first | exact HB.out | apply bA | apply bN | apply bD) | exact HB.out⟩
        ·rw [if_neg c28] at H
         have c28b0 : (t16 == 0) = false := beq_eq_false_iff_ne.mpr c28
         have c28b1 : (t16 != 0) = true := bne_iff_ne.mpr c28
         obtain rfl := Option.some.inj H
         go_wp2_with (first | ((with_reducible refine gate_callee (f := 158) rfl ?_); refine goesL_ (some 69) rfl rfl Try.func158 (by kernel_rfl) rfl #[.string a0, .string a2] rfl (by (try simp only [lT, lC, lN]); first | done | rfl) ?_; (with_reducible refine (wrap_Wrap.calls a0 a2 t4 t15 _ A24.out).mono ?_); rintro e w33 ⟨rfl, hb⟩; refine ⟨_, rfl, ?_⟩; have n0_ := Aside0.mk (below_step (by repeat first | with_reducible (first | exact HB.out | apply bA | apply bN | apply bD) | exact HB.out) hb); clear HB; have HB := n0_; clear n0_; (try clear hb); (try clear hb2); (try clear hk); (try clear hi)) | ((with_reducible refine gate_callee (f := 160) rfl ?_); refine goesL_ (some 82) rfl rfl Try.func160 (by kernel_rfl) rfl #[.string a0, .string t4] rfl (by (try simp only [lT, lC, lN]); first | done | rfl) ?_; (with_reducible refine (wrap_Unwrap.calls a0 t4 t5 t16 _ A26.out).mono ?_); rintro e w34 ⟨rfl, hb⟩; refine ⟨_, rfl, ?_⟩; have n0_ := Aside0.mk (below_step (by repeat first | with_reducible (first | exact HB.out | apply bA | apply bN | apply bD) | exact HB.out) hb); clear HB; have HB := n0_; clear n0_; (try clear hb); (try clear hb2); (try clear hk); (try clear hi)))
         go_ret
         exact ⟨by first | rfl | (simp [*, errW_none, errW_some] <;> rfl), by repeat first | with_reducible (first | exact HB.out | apply bA | apply bN | apply bD) | exact HB.out⟩
       ·rw [if_neg c27] at H
        have c27b0 : (t5.toList == a2.toList) = false := beq_eq_false_iff_ne.mpr c27
        have c27b1 : (t5.toList != a2.toList) = true := bne_iff_ne.mpr c27
        obtain rfl := Option.some.inj H
        go_wp2_with (first | ((with_reducible refine gate_callee (f := 158) rfl ?_); refine goesL_ (some 69) rfl rfl Try.func158 (by kernel_rfl) rfl #[.string a0, .string a2] rfl (by (try simp only [lT, lC, lN]); first | done | rfl) ?_; (with_reducible refine (wrap_Wrap.calls a0 a2 t4 t15 _ A24.out).mono ?_); rintro e w35 ⟨rfl, hb⟩; refine ⟨_, rfl, ?_⟩; have n0_ := Aside0.mk (below_step (by repeat first | with_reducible (first | exact HB.out | apply bA | apply bN | apply bD) | exact HB.out) hb); clear HB; have HB := n0_; clear n0_; (try clear hb); (try clear hb2); (try clear hk); (try clear hi)) | ((with_reducible refine gate_callee (f := 160) rfl ?_); refine goesL_ (some 82) rfl rfl Try.func160 (by kernel_rfl) rfl #[.string a0, .string t4] rfl (by (try simp only [lT, lC, lN]); first | done | rfl) ?_; (with_reducible refine (wrap_Unwrap.calls a0 t4 t5 t16 _ A26.out).mono ?_); rintro e w36 ⟨rfl, hb⟩; refine ⟨_, rfl, ?_⟩; have n0_ := Aside0.mk (below_step (by repeat first | with_reducible (first | exact HB.out | apply bA | apply bN | apply bD) | exact HB.out) hb); clear HB; have HB := n0_; clear n0_; (try clear hb); (try clear hb2); (try clear hk); (try clear hi)))
        go_ret
        exact ⟨by first | rfl | (simp [*, errW_none, errW_some] <;> rfl), by repeat first | with_reducible (first | exact HB.out | apply bA | apply bN | apply bD) | exact HB.out⟩
      ·rw [if_neg c25] at H
       have c25b0 : (t15 == 0) = false := beq_eq_false_iff_ne.mpr c25
       have c25b1 : (t15 != 0) = true := bne_iff_ne.mpr c25
       by_cases c37 : t4.toList = ([] : List UInt8)
       ·rw [if_pos c37] at H
        have c37b0 : (t4.toList == ([] : List UInt8)) = true := beq_iff_eq.mpr c37
        have c37b1 : (t4.toList != ([] : List UInt8)) = false := bne_eq_false_iff_eq.mpr c37
        clear c37
        replace H := Option.bind_eq_some_iff.mp H
        obtain ⟨t7, A380, H⟩ := H
        replace H : (some t7) = some r := H
        have A38 := Aside0.mk A380
        clear A380
        obtain rfl := Option.some.inj H
        go_wp2_with (first | ((with_reducible refine gate_callee (f := 158) rfl ?_); refine goesL_ (some 69) rfl rfl Try.func158 (by kernel_rfl) rfl #[.string a0, .string a2] rfl (by (try simp only [lT, lC, lN]); first | done | rfl) ?_; (with_reducible refine (wrap_Wrap.calls a0 a2 t4 t15 _ A24.out).mono ?_); rintro e w39 ⟨rfl, hb⟩; refine ⟨_, rfl, ?_⟩; have n0_ := Aside0.mk (below_step (by repeat first | with_reducible (first | exact HB.out | apply bA | apply bN | apply bD) | exact HB.out) hb); clear HB; have HB := n0_; clear n0_; (try clear hb); (try clear hb2); (try clear hk); (try clear hi)) | (go_at_call 153; (with_reducible refine (clavigerlaw13_awake.calls  t7 _ A38.out).mono ?_); rintro e w40 ⟨rfl, hb⟩; have n0_ := Aside0.mk (below_step (by repeat first | with_reducible (first | exact HB.out | apply bA | apply bN | apply bD) | exact HB.out) hb); clear HB; have HB := n0_; clear n0_; (try clear hb); (try clear hb2); (try clear hk); (try clear hi)))
        go_ret
        exact ⟨by first | rfl | (simp [*, errW_none, errW_some] <;> rfl), by repeat first | with_reducible (first | exact HB.out | apply bA | apply bN | apply bD) | exact HB.out⟩
       ·rw [if_neg c37] at H
        have c37b0 : (t4.toList == ([] : List UInt8)) = false := beq_eq_false_iff_ne.mpr c37
        have c37b1 : (t4.toList != ([] : List UInt8)) = true := bne_iff_ne.mpr c37
        obtain rfl := Option.some.inj H
        go_wp2_with (first | ((with_reducible refine gate_callee (f := 158) rfl ?_); refine goesL_ (some 69) rfl rfl Try.func158 (by kernel_rfl) rfl #[.string a0, .string a2] rfl (by (try simp only [lT, lC, lN]); first | done | rfl) ?_; (with_reducible refine (wrap_Wrap.calls a0 a2 t4 t15 _ A24.out).mono ?_); rintro e w41 ⟨rfl, hb⟩; refine ⟨_, rfl, ?_⟩; have n0_ := Aside0.mk (below_step (by repeat first | with_reducible (first | exact HB.out | apply bA | apply bN | apply bD) | exact HB.out) hb); clear HB; have HB := n0_; clear n0_; (try clear hb); (try clear hb2); (try clear hk); (try clear hi)))
        go_ret
        exact ⟨by first | rfl | (simp [*, errW_none, errW_some] <;> rfl), by repeat first | with_reducible (first | exact HB.out | apply bA | apply bN | apply bD) | exact HB.out⟩

/-- THE ONE PURE STATEMENT of clavigerlaw13_WrapBack: yours. -/
def clavigerlaw13_WrapBack.Pure : Prop := ∀ (a0 : ByteArray) (a1 : ByteArray) (a2 : ByteArray), a0.size ≤ 140737488351232 → a1.size ≤ 140737488351232 → a2.size ≤ 140737488351232 → ∃ k, clavigerlaw13_WrapBack.f k a0 a1 a2 = some true
theorem clavigerlaw13_WrapBack.walk (P : clavigerlaw13_WrapBack.Pure) (a0 : ByteArray) (a1 : ByteArray) (a2 : ByteArray) (w : World) (w0 : a0.size ≤ 140737488351232) (w1 : a1.size ≤ 140737488351232) (w2 : a2.size ≤ 140737488351232) :
  Calls Try.prog 34 #[.string a0, .string a1, .string a2] w fun e w' => e = .returned (.bool true) ∧ Below w.heap.size w w' := by
 obtain ⟨k, h⟩ := P a0 a1 a2 w0 w1 w2
 refine (clavigerlaw13_WrapBack.calls k a0 a1 a2 true w h).mono ?_
 rintro e w' ⟨rfl, hd⟩
 exact ⟨rfl, hd⟩

end Go.Proofs.Ytokkhnjedmlbhaa.Pr
