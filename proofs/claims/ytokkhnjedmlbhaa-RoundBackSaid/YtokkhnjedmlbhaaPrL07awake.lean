-- written by the session's program wip/hp.py over the kit's print; Lean checks it
import Derived.Test.YtokkhnjedmlbhaaPrk
import Derived.Test.YtokkhnjedmlbhaaPrg07
import Derived.Test.YtokkhnjedmlbhaaRound
namespace Go.Proofs.Ytokkhnjedmlbhaa.Pr
open Go.RowKit Go.Proofs.YtokkhnjedmlbhaaW.PrintWords Go.Proofs.YtokkhnjedmlbhaaW.PrintLast Go.Proofs.YtokkhnjedmlbhaaW.PrintMore
attribute [local go_sem] max2_int min2_int max_two min_two max_three min_three max_four min_four   -- for this text's walks alone
set_option linter.unusedVariables false
set_option linter.unusedSimpArgs false

/-! ### clavigerlaw07_awake: function 52 -/
def clavigerlaw07_awake.f  : Option (Bool) := (round_Mix.f (⟨#[219, 19, 83, 69, 219, 19, 83, 69, 219, 19, 83, 69, 219, 19, 83, 69]⟩ : ByteArray)).bind fun t162 => (if (t162.size : Int) = 16 then (if 0 ≤ 4 then (if 4 ≤ (t162.size : Int) then (if (t162.extract 0 4).toList = ([142, 77, 161, 188] : List UInt8) then ((round_Unmix.f t162).bind fun t163 => (if t163.toList = ([219, 19, 83, 69, 219, 19, 83, 69, 219, 19, 83, 69, 219, 19, 83, 69] : List UInt8) then ((round_Shift.f (⟨#[48, 49, 50, 51, 52, 53, 54, 55, 56, 57, 97, 98, 99, 100, 101, 102]⟩ : ByteArray)).bind fun t164 => (if t164.toList = ([48, 53, 97, 102, 52, 57, 101, 51, 56, 100, 50, 55, 99, 49, 54, 98] : List UInt8) then ((round_Key.f (⟨#[48, 49, 50, 51, 52, 53, 54, 55, 56, 57, 97, 98, 99, 100, 101, 102]⟩ : ByteArray) (⟨#[48, 49, 50, 51, 52, 53, 54, 55, 56, 57, 97, 98, 99, 100, 101, 102]⟩ : ByteArray)).bind fun t165 => (some (t165.toList == ([0, 0, 0, 0, 0, 0, 0, 0, 0, 0, 0, 0, 0, 0, 0, 0] : List UInt8)))) else (some false))) else (some false))) else (some false)) else (none)) else (none)) else (some false))
set_option maxHeartbeats 8000000 in
set_option maxRecDepth 100000 in
theorem clavigerlaw07_awake.calls  (r : Bool) (w : World) (h : clavigerlaw07_awake.f  = some r) :
  Calls Try.prog 52 #[] w fun e w' => e = .returned (.bool r) ∧ Below w.heap.size w w' := by
 have HB := Aside0.mk (Below.refl w.heap.size w)
 have H : ((round_Mix.f (⟨#[219, 19, 83, 69, 219, 19, 83, 69, 219, 19, 83, 69, 219, 19, 83, 69]⟩ : ByteArray)).bind fun t162 => (if (t162.size : Int) = 16 then (if 0 ≤ 4 then (if 4 ≤ (t162.size : Int) then (if (t162.extract 0 4).toList = ([142, 77, 161, 188] : List UInt8) then ((round_Unmix.f t162).bind fun t163 => (if t163.toList = ([219, 19, 83, 69, 219, 19, 83, 69, 219, 19, 83, 69, 219, 19, 83, 69] : List UInt8) then ((round_Shift.f (⟨#[48, 49, 50, 51, 52, 53, 54, 55, 56, 57, 97, 98, 99, 100, 101, 102]⟩ : ByteArray)).bind fun t164 => (if t164.toList = ([48, 53, 97, 102, 52, 57, 101, 51, 56, 100, 50, 55, 99, 49, 54, 98] : List UInt8) then ((round_Key.f (⟨#[48, 49, 50, 51, 52, 53, 54, 55, 56, 57, 97, 98, 99, 100, 101, 102]⟩ : ByteArray) (⟨#[48, 49, 50, 51, 52, 53, 54, 55, 56, 57, 97, 98, 99, 100, 101, 102]⟩ : ByteArray)).bind fun t165 => (some (t165.toList == ([0, 0, 0, 0, 0, 0, 0, 0, 0, 0, 0, 0, 0, 0, 0, 0] : List UInt8)))) else (some false))) else (some false))) else (some false)) else (none)) else (none)) else (some false))) = some r := h
 clear h
 replace H := Option.bind_eq_some_iff.mp H
 obtain ⟨t162, A10, H⟩ := H
 replace H : (if (t162.size : Int) = 16 then (if 0 ≤ 4 then (if 4 ≤ (t162.size : Int) then (if (t162.extract 0 4).toList = ([142, 77, 161, 188] : List UInt8) then ((round_Unmix.f t162).bind fun t163 => (if t163.toList = ([219, 19, 83, 69, 219, 19, 83, 69, 219, 19, 83, 69, 219, 19, 83, 69] : List UInt8) then ((round_Shift.f (⟨#[48, 49, 50, 51, 52, 53, 54, 55, 56, 57, 97, 98, 99, 100, 101, 102]⟩ : ByteArray)).bind fun t164 => (if t164.toList = ([48, 53, 97, 102, 52, 57, 101, 51, 56, 100, 50, 55, 99, 49, 54, 98] : List UInt8) then ((round_Key.f (⟨#[48, 49, 50, 51, 52, 53, 54, 55, 56, 57, 97, 98, 99, 100, 101, 102]⟩ : ByteArray) (⟨#[48, 49, 50, 51, 52, 53, 54, 55, 56, 57, 97, 98, 99, 100, 101, 102]⟩ : ByteArray)).bind fun t165 => (some (t165.toList == ([0, 0, 0, 0, 0, 0, 0, 0, 0, 0, 0, 0, 0, 0, 0, 0] : List UInt8)))) else (some false))) else (some false))) else (some false)) else (none)) else (none)) else (some false)) = some r := H
 have A1 := Aside0.mk A10
 clear A10
 by_cases c2 : (t162.size : Int) = 16
 ·rw [if_pos c2] at H
  have c2b0 : ((t162.size : Int) == 16) = true := beq_iff_eq.mpr c2
  have c2b1 : ((t162.size : Int) != 16) = false := bne_eq_false_iff_eq.mpr c2
  clear c2
  by_cases c3 : 0 ≤ 4
  ·rw [if_pos c3] at H
   have c3b0 := eq_true c3
   have c3b1 : decide (0 ≤ 4) = true := decide_eq_true c3
   clear c3
   by_cases c4 : 4 ≤ (t162.size : Int)
   ·rw [if_pos c4] at H
    have c4b0 := eq_true c4
    have c4b1 : decide (4 ≤ (t162.size : Int)) = true := decide_eq_true c4
    clear c4
    by_cases c5 : (t162.extract 0 4).toList = ([142, 77, 161, 188] : List UInt8)
    ·rw [if_pos c5] at H
     have c5b0 : ((t162.extract 0 4).toList == ([142, 77, 161, 188] : List UInt8)) = true := beq_iff_eq.mpr c5
     have c5b1 : ((t162.extract 0 4).toList != ([142, 77, 161, 188] : List UInt8)) = false := bne_eq_false_iff_eq.mpr c5
     clear c5
     replace H := Option.bind_eq_some_iff.mp H
     obtain ⟨t163, A60, H⟩ := H
     replace H : (if t163.toList = ([219, 19, 83, 69, 219, 19, 83, 69, 219, 19, 83, 69, 219, 19, 83, 69] : List UInt8) then ((round_Shift.f (⟨#[48, 49, 50, 51, 52, 53, 54, 55, 56, 57, 97, 98, 99, 100, 101, 102]⟩ : ByteArray)).bind fun t164 => (if t164.toList = ([48, 53, 97, 102, 52, 57, 101, 51, 56, 100, 50, 55, 99, 49, 54, 98] : List UInt8) then ((round_Key.f (⟨#[48, 49, 50, 51, 52, 53, 54, 55, 56, 57, 97, 98, 99, 100, 101, 102]⟩ : ByteArray) (⟨#[48, 49, 50, 51, 52, 53, 54, 55, 56, 57, 97, 98, 99, 100, 101, 102]⟩ : ByteArray)).bind fun t165 => (some (t165.toList == ([0, 0, 0, 0, 0, 0, 0, 0, 0, 0, 0, 0, 0, 0, 0, 0] : List UInt8)))) else (some false))) else (some false)) = some r := H
     have A6 := Aside0.mk A60
     clear A60
     by_cases c7 : t163.toList = ([219, 19, 83, 69, 219, 19, 83, 69, 219, 19, 83, 69, 219, 19, 83, 69] : List UInt8)
     ·rw [if_pos c7] at H
      have c7b0 : (t163.toList == ([219, 19, 83, 69, 219, 19, 83, 69, 219, 19, 83, 69, 219, 19, 83, 69] : List UInt8)) = true := beq_iff_eq.mpr c7
      have c7b1 : (t163.toList != ([219, 19, 83, 69, 219, 19, 83, 69, 219, 19, 83, 69, 219, 19, 83, 69] : List UInt8)) = false := bne_eq_false_iff_eq.mpr c7
      clear c7
      replace H := Option.bind_eq_some_iff.mp H
      obtain ⟨t164, A80, H⟩ := H
      replace H : (if t164.toList = ([48, 53, 97, 102, 52, 57, 101, 51, 56, 100, 50, 55, 99, 49, 54, 98] : List UInt8) then ((round_Key.f (⟨#[48, 49, 50, 51, 52, 53, 54, 55, 56, 57, 97, 98, 99, 100, 101, 102]⟩ : ByteArray) (⟨#[48, 49, 50, 51, 52, 53, 54, 55, 56, 57, 97, 98, 99, 100, 101, 102]⟩ : ByteArray)).bind fun t165 => (some (t165.toList == ([0, 0, 0, 0, 0, 0, 0, 0, 0, 0, 0, 0, 0, 0, 0, 0] : List UInt8)))) else (some false)) = some r := H
      have A8 := Aside0.mk A80
      clear A80
      by_cases c9 : t164.toList = ([48, 53, 97, 102, 52, 57, 101, 51, 56, 100, 50, 55, 99, 49, 54, 98] : List UInt8)
      ·rw [if_pos c9] at H
       have c9b0 : (t164.toList == ([48, 53, 97, 102, 52, 57, 101, 51, 56, 100, 50, 55, 99, 49, 54, 98] : List UInt8)) = true := beq_iff_eq.mpr c9
       have c9b1 : (t164.toList != ([48, 53, 97, 102, 52, 57, 101, 51, 56, 100, 50, 55, 99, 49, 54, 98] : List UInt8)) = false := bne_eq_false_iff_eq.mpr c9
       clear c9
       replace H := Option.bind_eq_some_iff.mp H
       obtain ⟨t165, A100, H⟩ := H
       replace H : (some (t165.toList == ([0, 0, 0, 0, 0, 0, 0, 0, 0, 0, 0, 0, 0, 0, 0, 0] : List UInt8))) = some r := H
       have A10 := Aside0.mk A100
       clear A100
       obtain rfl := Option.some.inj H
       go_enter Try.func52, Try.ntmps52
       go_wp2_with (first | ((with_reducible refine gate_callee (f := 53) rfl ?_); refine goesL_ (some 4) rfl rfl Try.func53 (by kernel_rfl) rfl #[.string (⟨#[219, 19, 83, 69, 219, 19, 83, 69, 219, 19, 83, 69, 219, 19, 83, 69]⟩ : ByteArray)] rfl (by (try simp only [List.map_toArray, List.map_cons, List.map_nil]); first | done | rfl | (simp only [List.length_drop, List.length_take]; rfl) | (simp only [ByteArray.size_extract, Nat.min_self, Nat.sub_zero, ByteArray.size_append]; first | done | rfl)) ?_; (with_reducible refine (round_Mix.calls (⟨#[219, 19, 83, 69, 219, 19, 83, 69, 219, 19, 83, 69, 219, 19, 83, 69]⟩ : ByteArray) t162 _ A1.out).mono ?_); rintro e w11 ⟨rfl, hb⟩; refine ⟨_, rfl, ?_⟩; have n0_ := Aside0.mk (below_step (by repeat (first | (with_reducible first | exact HB.out | apply below_alloc | apply pw_below_drewN | apply below_drew1) | exact HB.out)) hb); clear HB; have HB := n0_; clear n0_; (try clear hb); (try clear hb2); (try clear hk); (try clear hi)) | (go_at_call 55; (with_reducible refine (round_Unmix.calls t162 t163 _ A6.out).mono ?_); rintro e w12 ⟨rfl, hb⟩; have n0_ := Aside0.mk (below_step (by repeat (first | (with_reducible first | exact HB.out | apply below_alloc | apply pw_below_drewN | apply below_drew1) | exact HB.out)) hb); clear HB; have HB := n0_; clear n0_; (try clear hb); (try clear hb2); (try clear hk); (try clear hi)) | (go_at_call 75; (with_reducible refine (round_Shift.calls (⟨#[48, 49, 50, 51, 52, 53, 54, 55, 56, 57, 97, 98, 99, 100, 101, 102]⟩ : ByteArray) t164 _ A8.out).mono ?_); rintro e w13 ⟨rfl, hb⟩; have n0_ := Aside0.mk (below_step (by repeat (first | (with_reducible first | exact HB.out | apply below_alloc | apply pw_below_drewN | apply below_drew1) | exact HB.out)) hb); clear HB; have HB := n0_; clear n0_; (try clear hb); (try clear hb2); (try clear hk); (try clear hi)) | (go_at_call 54; (with_reducible refine (round_Key.calls (⟨#[48, 49, 50, 51, 52, 53, 54, 55, 56, 57, 97, 98, 99, 100, 101, 102]⟩ : ByteArray) (⟨#[48, 49, 50, 51, 52, 53, 54, 55, 56, 57, 97, 98, 99, 100, 101, 102]⟩ : ByteArray) t165 _ A10.out).mono ?_); rintro e w14 ⟨rfl, hb⟩; have n0_ := Aside0.mk (below_step (by repeat (first | (with_reducible first | exact HB.out | apply below_alloc | apply pw_below_drewN | apply below_drew1) | exact HB.out)) hb); clear HB; have HB := n0_; clear n0_; (try clear hb); (try clear hb2); (try clear hk); (try clear hi)))
       go_ret
       exact ⟨by first | rfl | (simp [errW_none, errW_some] <;> rfl) | (simp [*, errW_none, errW_some] <;> rfl), by repeat (first | (with_reducible first | exact HB.out | apply below_alloc | apply pw_below_drewN | apply below_drew1) | exact HB.out)⟩
      ·rw [if_neg c9] at H
       have c9b0 : (t164.toList == ([48, 53, 97, 102, 52, 57, 101, 51, 56, 100, 50, 55, 99, 49, 54, 98] : List UInt8)) = false := beq_eq_false_iff_ne.mpr c9
       have c9b1 : (t164.toList != ([48, 53, 97, 102, 52, 57, 101, 51, 56, 100, 50, 55, 99, 49, 54, 98] : List UInt8)) = true := bne_iff_ne.mpr c9
       obtain rfl := Option.some.inj H
       go_enter Try.func52, Try.ntmps52
       go_wp2_with (first | ((with_reducible refine gate_callee (f := 53) rfl ?_); refine goesL_ (some 4) rfl rfl Try.func53 (by kernel_rfl) rfl #[.string (⟨#[219, 19, 83, 69, 219, 19, 83, 69, 219, 19, 83, 69, 219, 19, 83, 69]⟩ : ByteArray)] rfl (by (try simp only [List.map_toArray, List.map_cons, List.map_nil]); first | done | rfl | (simp only [List.length_drop, List.length_take]; rfl) | (simp only [ByteArray.size_extract, Nat.min_self, Nat.sub_zero, ByteArray.size_append]; first | done | rfl)) ?_; (with_reducible refine (round_Mix.calls (⟨#[219, 19, 83, 69, 219, 19, 83, 69, 219, 19, 83, 69, 219, 19, 83, 69]⟩ : ByteArray) t162 _ A1.out).mono ?_); rintro e w15 ⟨rfl, hb⟩; refine ⟨_, rfl, ?_⟩; have n0_ := Aside0.mk (below_step (by repeat (first | (with_reducible first | exact HB.out | apply below_alloc | apply pw_below_drewN | apply below_drew1) | exact HB.out)) hb); clear HB; have HB := n0_; clear n0_; (try clear hb); (try clear hb2); (try clear hk); (try clear hi)) | (go_at_call 55; (with_reducible refine (round_Unmix.calls t162 t163 _ A6.out).mono ?_); rintro e w16 ⟨rfl, hb⟩; have n0_ := Aside0.mk (below_step (by repeat (first | (with_reducible first | exact HB.out | apply below_alloc | apply pw_below_drewN | apply below_drew1) | exact HB.out)) hb); clear HB; have HB := n0_; clear n0_; (try clear hb); (try clear hb2); (try clear hk); (try clear hi)) | (go_at_call 75; (with_reducible refine (round_Shift.calls (⟨#[48, 49, 50, 51, 52, 53, 54, 55, 56, 57, 97, 98, 99, 100, 101, 102]⟩ : ByteArray) t164 _ A8.out).mono ?_); rintro e w17 ⟨rfl, hb⟩; have n0_ := Aside0.mk (below_step (by repeat (first | (with_reducible first | exact HB.out | apply below_alloc | apply pw_below_drewN | apply below_drew1) | exact HB.out)) hb); clear HB; have HB := n0_; clear n0_; (try clear hb); (try clear hb2); (try clear hk); (try clear hi)))
       go_ret
       exact ⟨by first | rfl | (simp [errW_none, errW_some] <;> rfl) | (simp [*, errW_none, errW_some] <;> rfl), by repeat (first | (with_reducible first | exact HB.out | apply below_alloc | apply pw_below_drewN | apply below_drew1) | exact HB.out)⟩
     ·rw [if_neg c7] at H
      have c7b0 : (t163.toList == ([219, 19, 83, 69, 219, 19, 83, 69, 219, 19, 83, 69, 219, 19, 83, 69] : List UInt8)) = false := beq_eq_false_iff_ne.mpr c7
      have c7b1 : (t163.toList != ([219, 19, 83, 69, 219, 19, 83, 69, 219, 19, 83, 69, 219, 19, 83, 69] : List UInt8)) = true := bne_iff_ne.mpr c7
      obtain rfl := Option.some.inj H
      go_enter Try.func52, Try.ntmps52
      go_wp2_with (first | ((with_reducible refine gate_callee (f := 53) rfl ?_); refine goesL_ (some 4) rfl rfl Try.func53 (by kernel_rfl) rfl #[.string (⟨#[219, 19, 83, 69, 219, 19, 83, 69, 219, 19, 83, 69, 219, 19, 83, 69]⟩ : ByteArray)] rfl (by (try simp only [List.map_toArray, List.map_cons, List.map_nil]); first | done | rfl | (simp only [List.length_drop, List.length_take]; rfl) | (simp only [ByteArray.size_extract, Nat.min_self, Nat.sub_zero, ByteArray.size_append]; first | done | rfl)) ?_; (with_reducible refine (round_Mix.calls (⟨#[219, 19, 83, 69, 219, 19, 83, 69, 219, 19, 83, 69, 219, 19, 83, 69]⟩ : ByteArray) t162 _ A1.out).mono ?_); rintro e w18 ⟨rfl, hb⟩; refine ⟨_, rfl, ?_⟩; have n0_ := Aside0.mk (below_step (by repeat (first | (with_reducible first | exact HB.out | apply below_alloc | apply pw_below_drewN | apply below_drew1) | exact HB.out)) hb); clear HB; have HB := n0_; clear n0_; (try clear hb); (try clear hb2); (try clear hk); (try clear hi)) | (go_at_call 55; (with_reducible refine (round_Unmix.calls t162 t163 _ A6.out).mono ?_); rintro e w19 ⟨rfl, hb⟩; have n0_ := Aside0.mk (below_step (by repeat (first | (with_reducible first | exact HB.out | apply below_alloc | apply pw_below_drewN | apply below_drew1) | exact HB.out)) hb); clear HB; have HB := n0_; clear n0_; (try clear hb); (try clear hb2); (try clear hk); (try clear hi)))
      go_ret
      exact ⟨by first | rfl | (simp [errW_none, errW_some] <;> rfl) | (simp [*, errW_none, errW_some] <;> rfl), by repeat (first | (with_reducible first | exact HB.out | apply below_alloc | apply pw_below_drewN | apply below_drew1) | exact HB.out)⟩
    ·rw [if_neg c5] at H
     have c5b0 : ((t162.extract 0 4).toList == ([142, 77, 161, 188] : List UInt8)) = false := beq_eq_false_iff_ne.mpr c5
     have c5b1 : ((t162.extract 0 4).toList != ([142, 77, 161, 188] : List UInt8)) = true := bne_iff_ne.mpr c5
     obtain rfl := Option.some.inj H
     go_enter Try.func52, Try.ntmps52
     go_wp2_with (first | ((with_reducible refine gate_callee (f := 53) rfl ?_); refine goesL_ (some 4) rfl rfl Try.func53 (by kernel_rfl) rfl #[.string (⟨#[219, 19, 83, 69, 219, 19, 83, 69, 219, 19, 83, 69, 219, 19, 83, 69]⟩ : ByteArray)] rfl (by (try simp only [List.map_toArray, List.map_cons, List.map_nil]); first | done | rfl | (simp only [List.length_drop, List.length_take]; rfl) | (simp only [ByteArray.size_extract, Nat.min_self, Nat.sub_zero, ByteArray.size_append]; first | done | rfl)) ?_; (with_reducible refine (round_Mix.calls (⟨#[219, 19, 83, 69, 219, 19, 83, 69, 219, 19, 83, 69, 219, 19, 83, 69]⟩ : ByteArray) t162 _ A1.out).mono ?_); rintro e w20 ⟨rfl, hb⟩; refine ⟨_, rfl, ?_⟩; have n0_ := Aside0.mk (below_step (by repeat (first | (with_reducible first | exact HB.out | apply below_alloc | apply pw_below_drewN | apply below_drew1) | exact HB.out)) hb); clear HB; have HB := n0_; clear n0_; (try clear hb); (try clear hb2); (try clear hk); (try clear hi)))
     go_ret
     exact ⟨by first | rfl | (simp [errW_none, errW_some] <;> rfl) | (simp [*, errW_none, errW_some] <;> rfl), by repeat (first | (with_reducible first | exact HB.out | apply below_alloc | apply pw_below_drewN | apply below_drew1) | exact HB.out)⟩
   ·rw [if_neg c4] at H
    exact absurd H (by simp)
  ·rw [if_neg c3] at H
   exact absurd H (by simp)
 ·rw [if_neg c2] at H
  have c2b0 : ((t162.size : Int) == 16) = false := beq_eq_false_iff_ne.mpr c2
  have c2b1 : ((t162.size : Int) != 16) = true := bne_iff_ne.mpr c2
  obtain rfl := Option.some.inj H
  go_enter Try.func52, Try.ntmps52
  go_wp2_with (first | ((with_reducible refine gate_callee (f := 53) rfl ?_); refine goesL_ (some 4) rfl rfl Try.func53 (by kernel_rfl) rfl #[.string (⟨#[219, 19, 83, 69, 219, 19, 83, 69, 219, 19, 83, 69, 219, 19, 83, 69]⟩ : ByteArray)] rfl (by (try simp only [List.map_toArray, List.map_cons, List.map_nil]); first | done | rfl | (simp only [List.length_drop, List.length_take]; rfl) | (simp only [ByteArray.size_extract, Nat.min_self, Nat.sub_zero, ByteArray.size_append]; first | done | rfl)) ?_; (with_reducible refine (round_Mix.calls (⟨#[219, 19, 83, 69, 219, 19, 83, 69, 219, 19, 83, 69, 219, 19, 83, 69]⟩ : ByteArray) t162 _ A1.out).mono ?_); rintro e w21 ⟨rfl, hb⟩; refine ⟨_, rfl, ?_⟩; have n0_ := Aside0.mk (below_step (by repeat (first | (with_reducible first | exact HB.out | apply below_alloc | apply pw_below_drewN | apply below_drew1) | exact HB.out)) hb); clear HB; have HB := n0_; clear n0_; (try clear hb); (try clear hb2); (try clear hk); (try clear hi)))
  go_ret
  exact ⟨by first | rfl | (simp [errW_none, errW_some] <;> rfl) | (simp [*, errW_none, errW_some] <;> rfl), by repeat (first | (with_reducible first | exact HB.out | apply below_alloc | apply pw_below_drewN | apply below_drew1) | exact HB.out)⟩

end Go.Proofs.Ytokkhnjedmlbhaa.Pr
