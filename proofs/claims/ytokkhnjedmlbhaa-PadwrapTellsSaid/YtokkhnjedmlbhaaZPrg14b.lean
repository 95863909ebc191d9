-- several texts in one (by the session's program shake.py)
import Derived.Test.YtokkhnjedmlbhaaZPrg05
import Derived.Test.YtokkhnjedmlbhaaZFieldP
import Derived.Test.YtokkhnjedmlbhaaZPadW
import Derived.Test.YtokkhnjedmlbhaaZPrg09
import Derived.Test.YtokkhnjedmlbhaaZPrg01
import Derived.Test.YtokkhnjedmlbhaaZPrg13
section
namespace Go.Proofs.Ytokkhnjedmlbhaa.Pr
open Go.RowKit Go.Proofs.YtokkhnjedmlbhaaW.PrintWords Go.Proofs.YtokkhnjedmlbhaaW.PrintLast Go.Proofs.YtokkhnjedmlbhaaW.PrintMore
attribute [local go_sem] max2_int min2_int max_two min_two max_three min_three max_four min_four   -- for this text's walks alone
set_option linter.unusedVariables false
set_option linter.unusedSimpArgs false

def clavigerlaw14_awake.f  : Option (Bool) := (padwrap_Wrap.f (⟨#[88, 64, 223, 110, 41, 176, 42, 241, 171, 73, 59, 112, 91, 241, 110, 161, 174, 131, 56, 244, 220, 193, 118, 168]⟩ : ByteArray) (⟨#[70, 111, 114, 80, 97, 115, 105]⟩ : ByteArray)).bind fun bt1 => (if bt1.1.toList = ([175, 190, 176, 240, 125, 251, 245, 65, 146, 0, 242, 204, 181, 11, 178, 79] : List UInt8) then (if bt1.2 = 0 then ((padwrap_Size.f 9).bind fun t2 => (some (t2 == 24))) else (some false)) else (some false))
set_option maxHeartbeats 8000000 in
set_option maxRecDepth 100000 in
theorem clavigerlaw14_awake.calls  (r : Bool) (w : World) (h : clavigerlaw14_awake.f  = some r) :
  Calls Try.prog 136 #[] w fun e w' => e = .returned (.bool r) ∧ Below w.heap.size w w' := by
 have HB := Aside0.mk (Below.refl w.heap.size w)
 have H : ((padwrap_Wrap.f (⟨#[88, 64, 223, 110, 41, 176, 42, 241, 171, 73, 59, 112, 91, 241, 110, 161, 174, 131, 56, 244, 220, 193, 118, 168]⟩ : ByteArray) (⟨#[70, 111, 114, 80, 97, 115, 105]⟩ : ByteArray)).bind fun bt1 => (if bt1.1.toList = ([175, 190, 176, 240, 125, 251, 245, 65, 146, 0, 242, 204, 181, 11, 178, 79] : List UInt8) then (if bt1.2 = 0 then ((padwrap_Size.f 9).bind fun t2 => (some (t2 == 24))) else (some false)) else (some false))) = some r := h
 clear h
 replace H := Option.bind_eq_some_iff.mp H
 obtain ⟨⟨t1, t3⟩, A10, H⟩ := H
 try dsimp only at H
 have A1 := Aside0.mk A10
 clear A10
 by_cases c2 : t1.toList = ([175, 190, 176, 240, 125, 251, 245, 65, 146, 0, 242, 204, 181, 11, 178, 79] : List UInt8)
 ·rw [if_pos c2] at H
  have c2b0 : (t1.toList == ([175, 190, 176, 240, 125, 251, 245, 65, 146, 0, 242, 204, 181, 11, 178, 79] : List UInt8)) = true := beq_iff_eq.mpr c2
  have c2b1 : (t1.toList != ([175, 190, 176, 240, 125, 251, 245, 65, 146, 0, 242, 204, 181, 11, 178, 79] : List UInt8)) = false := bne_eq_false_iff_eq.mpr c2
  clear c2
  by_cases c3 : t3 = 0
  ·rw [if_pos c3] at H
   have c3b0 : (t3 == 0) = true := beq_iff_eq.mpr c3
   have c3b1 : (t3 != 0) = false := bne_eq_false_iff_eq.mpr c3
   clear c3
   replace H := Option.bind_eq_some_iff.mp H
   obtain ⟨t2, A40, H⟩ := H
   replace H : (some (t2 == 24)) = some r := H
   have A4 := Aside0.mk A40
   clear A40
   obtain rfl := Option.some.inj H
   go_enter Try.func136, Try.ntmps136
   go_wp2_with (first | ((with_reducible refine gate_callee (f := 137) rfl ?_); refine goesL_ (some 4) rfl rfl Try.func137 (by kernel_rfl) rfl #[.string (⟨#[88, 64, 223, 110, 41, 176, 42, 241, 171, 73, 59, 112, 91, 241, 110, 161, 174, 131, 56, 244, 220, 193, 118, 168]⟩ : ByteArray), .string (⟨#[70, 111, 114, 80, 97, 115, 105]⟩ : ByteArray)] rfl (by (try simp only [lT, lC, lN]); first | done | rfl) ?_; (with_reducible refine (padwrap_Wrap.calls (⟨#[88, 64, 223, 110, 41, 176, 42, 241, 171, 73, 59, 112, 91, 241, 110, 161, 174, 131, 56, 244, 220, 193, 118, 168]⟩ : ByteArray) (⟨#[70, 111, 114, 80, 97, 115, 105]⟩ : ByteArray) t1 t3 _ A1.out).mono ?_); rintro e w5 ⟨rfl, hb⟩; refine ⟨_, rfl, ?_⟩; have n0_ := Aside0.mk (below_step (by repeat first | with_reducible (first | exact HB.out | apply bA | apply bN | apply bD) | exact HB.out) hb); clear HB; have HB := n0_; clear n0_; (try clear hb); (try clear hb2); (try clear hk); (try clear hi)) | (go_at_call 145; (with_reducible refine (padwrap_Size.calls 9 t2 _ A4.out).mono ?_); rintro e w' ⟨rfl, ⟨nd, rfl⟩⟩))
   go_ret
   exact ⟨by first | rfl | (simp [*, errW_none, errW_some] <;> rfl), by repeat first | with_reducible (first | exact HB.out | apply bA | apply bN | apply bD) | exact HB.out⟩
  ·rw [if_neg c3] at H
   have c3b0 : (t3 == 0) = false := beq_eq_false_iff_ne.mpr c3
   have c3b1 : (t3 != 0) = true := bne_iff_ne.mpr c3
   obtain rfl := Option.some.inj H
   go_enter Try.func136, Try.ntmps136
   go_wp2_with (first | ((with_reducible refine gate_callee (f := 137) rfl ?_); refine goesL_ (some 4) rfl rfl Try.func137 (by kernel_rfl) rfl #[.string (⟨#[88, 64, 223, 110, 41, 176, 42, 241, 171, 73, 59, 112, 91, 241, 110, 161, 174, 131, 56, 244, 220, 193, 118, 168]⟩ : ByteArray), .string (⟨#[70, 111, 114, 80, 97, 115, 105]⟩ : ByteArray)] rfl (by (try simp only [lT, lC, lN]); first | done | rfl) ?_; (with_reducible refine (padwrap_Wrap.calls (⟨#[88, 64, 223, 110, 41, 176, 42, 241, 171, 73, 59, 112, 91, 241, 110, 161, 174, 131, 56, 244, 220, 193, 118, 168]⟩ : ByteArray) (⟨#[70, 111, 114, 80, 97, 115, 105]⟩ : ByteArray) t1 t3 _ A1.out).mono ?_); rintro e w6 ⟨rfl, hb⟩; refine ⟨_, rfl, ?_⟩; have n0_ := Aside0.mk (below_step (by repeat first | with_reducible (first | exact HB.out | apply bA | apply bN | apply bD) | exact HB.out) hb); clear HB; have HB := n0_; clear n0_; (try clear hb); (try clear hb2); (try clear hk); (try clear hi)))
   go_ret
   exact ⟨by first | rfl | (simp [*, errW_none, errW_some] <;> rfl), by repeat first | with_reducible (first | exact HB.out | apply bA | apply bN | apply bD) | exact HB.out⟩
 ·rw [if_neg c2] at H
  have c2b0 : (t1.toList == ([175, 190, 176, 240, 125, 251, 245, 65, 146, 0, 242, 204, 181, 11, 178, 79] : List UInt8)) = false := beq_eq_false_iff_ne.mpr c2
  have c2b1 : (t1.toList != ([175, 190, 176, 240, 125, 251, 245, 65, 146, 0, 242, 204, 181, 11, 178, 79] : List UInt8)) = true := bne_iff_ne.mpr c2
  obtain rfl := Option.some.inj H
  go_enter Try.func136, Try.ntmps136
  go_wp2_with (first | ((with_reducible refine gate_callee (f := 137) rfl ?_); refine goesL_ (some 4) rfl rfl Try.func137 (by kernel_rfl) rfl #[.string (⟨#[88, 64, 223, 110, 41, 176, 42, 241, 171, 73, 59, 112, 91, 241, 110, 161, 174, 131, 56, 244, 220, 193, 118, 168]⟩ : ByteArray), .string (⟨#[70, 111, 114, 80, 97, 115, 105]⟩ : ByteArray)] rfl (by (try simp only [lT, lC, lN]); first | done | rfl) ?_; (with_reducible refine (padwrap_Wrap.calls (⟨#[88, 64, 223, 110, 41, 176, 42, 241, 171, 73, 59, 112, 91, 241, 110, 161, 174, 131, 56, 244, 220, 193, 118, 168]⟩ : ByteArray) (⟨#[70, 111, 114, 80, 97, 115, 105]⟩ : ByteArray) t1 t3 _ A1.out).mono ?_); rintro e w7 ⟨rfl, hb⟩; refine ⟨_, rfl, ?_⟩; have n0_ := Aside0.mk (below_step (by repeat first | with_reducible (first | exact HB.out | apply bA | apply bN | apply bD) | exact HB.out) hb); clear HB; have HB := n0_; clear n0_; (try clear hb); (try clear hb2); (try clear hk); (try clear hi)))
  go_ret
  exact ⟨by first | rfl | (simp [*, errW_none, errW_some] <;> rfl), by repeat first | with_reducible (first | exact HB.out | apply bA | apply bN | apply bD) | exact HB.out⟩

end Go.Proofs.Ytokkhnjedmlbhaa.Pr
end
section
namespace Go.Proofs.Ytokkhnjedmlbhaa.Pr
open Go.RowKit Go.Proofs.YtokkhnjedmlbhaaW.PrintWords Go.Proofs.YtokkhnjedmlbhaaW.PrintLast Go.Proofs.YtokkhnjedmlbhaaW.PrintMore
attribute [local go_sem] max2_int min2_int max_two min_two max_three min_three max_four min_four   -- for this text's walks alone
set_option linter.unusedVariables false
set_option linter.unusedSimpArgs false

def padwrap_Unwrap.f (k : Nat) (a0 : ByteArray) (a1 : ByteArray) : Option (ByteArray × Int) := (padwrap_parted.f a0 a1).bind fun bt1 => (if bt1.2.2 = 0 then ((padwrap_Length.f k bt1.1 (bt1.2.1.size : Int)).bind fun bt2 => (if 0 ≤ bt2.1 then (if bt2.1 ≤ (bt1.2.1.size : Int) then ((equal_Nought.f k (bt1.2.1.extract (bt2.1 : Int).toNat bt1.2.1.size)).bind fun bt3 => (if bt2.2 = true then (if bt3.1 = true then (some (bt1.2.1.extract 0 (bt2.1 : Int).toNat, 0)) else (some ((⟨#[]⟩ : ByteArray), 7))) else (some ((⟨#[]⟩ : ByteArray), 7)))) else (none)) else (none))) else (some ((⟨#[]⟩ : ByteArray), bt1.2.2)))
theorem padwrap_Unwrap.mono : ∀ a0 a1 k, LeO (padwrap_Unwrap.f k a0 a1) (padwrap_Unwrap.f (k + 1) a0 a1) := by
 intro a0 a1 k
 unfold padwrap_Unwrap.f
 repeat' first
   | (with_reducible exact equal_Nought.mono _ _)
   | (with_reducible exact padwrap_Length.mono _ _ _)
   | (with_reducible exact LeO.refl _)
   | (with_reducible exact LeO.none _)
   | (with_reducible refine LeO.ite ?_ ?_)
   | (with_reducible refine LeO.bind ?_ (fun _ => ?_))
set_option maxHeartbeats 8000000 in
set_option maxRecDepth 100000 in
theorem padwrap_Unwrap.calls (k : Nat) (a0 : ByteArray) (a1 : ByteArray) (r1 : ByteArray) (r2 : Int) (w : World) (h : padwrap_Unwrap.f k a0 a1 = some (r1, r2)) :
  Calls Try.prog 139 #[.string a0, .string a1] w fun e w' => e = .returned (.tuple #[.string r1, .int .i64 r2]) ∧ Below w.heap.size w w' := by
 have HB := Aside0.mk (Below.refl w.heap.size w)
 have H : ((padwrap_parted.f a0 a1).bind fun bt1 => (if bt1.2.2 = 0 then ((padwrap_Length.f k bt1.1 (bt1.2.1.size : Int)).bind fun bt2 => (if 0 ≤ bt2.1 then (if bt2.1 ≤ (bt1.2.1.size : Int) then ((equal_Nought.f k (bt1.2.1.extract (bt2.1 : Int).toNat bt1.2.1.size)).bind fun bt3 => (if bt2.2 = true then (if bt3.1 = true then (some (bt1.2.1.extract 0 (bt2.1 : Int).toNat, 0)) else (some ((⟨#[]⟩ : ByteArray), 7))) else (some ((⟨#[]⟩ : ByteArray), 7)))) else (none)) else (none))) else (some ((⟨#[]⟩ : ByteArray), bt1.2.2)))) = some (r1, r2) := h
 clear h
 replace H := Option.bind_eq_some_iff.mp H
 obtain ⟨⟨t1, t4, t5⟩, A30, H⟩ := H
 try dsimp only at H
 have A3 := Aside0.mk A30
 clear A30
 by_cases c4 : t5 = 0
 ·rw [if_pos c4] at H
  have c4b0 : (t5 == 0) = true := beq_iff_eq.mpr c4
  have c4b1 : (t5 != 0) = false := bne_eq_false_iff_eq.mpr c4
  clear c4
  replace H := Option.bind_eq_some_iff.mp H
  obtain ⟨⟨t2, t6⟩, A50, H⟩ := H
  try dsimp only at H
  have A5 := Aside0.mk A50
  clear A50
  by_cases c6 : 0 ≤ t2
  ·rw [if_pos c6] at H
   have c6b0 := eq_true c6
   have c6b1 : decide (0 ≤ t2) = true := decide_eq_true c6
   clear c6
   by_cases c7 : t2 ≤ (t4.size : Int)
   ·rw [if_pos c7] at H
    have c7b0 := eq_true c7
    have c7b1 : decide (t2 ≤ (t4.size : Int)) = true := decide_eq_true c7
    clear c7
    replace H := Option.bind_eq_some_iff.mp H
    obtain ⟨⟨t3, t7⟩, A80, H⟩ := H
    try dsimp only at H
    have A8 := Aside0.mk A80
    clear A80
    by_cases c9 : t6 = true
    ·subst c9
     have H1 : (if t3 = true then (some (t4.extract 0 (t2 : Int).toNat, 0)) else (some ((⟨#[]⟩ : ByteArray), 7))) = some (r1, r2) := by rw [if_pos rfl] at H; exact H
     clear H
     have H := H1
     clear H1
     by_cases c10 : t3 = true
     ·subst c10
      have H1 : (some (t4.extract 0 (t2 : Int).toNat, 0)) = some (r1, r2) := by rw [if_pos rfl] at H; exact H
      clear H
      have H := H1
      clear H1
      have c11b0 := eq_true (of_decide_eq_true (by assumption) : 0 ≤ t2)
      have c12b0 := eq_true (of_decide_eq_true (by assumption) : t2 ≤ (t4.size : Int))
      simp only [Option.some.injEq, Prod.mk.injEq] at H
      obtain ⟨rfl, rfl⟩ := H
      go_enter Try.func139, Try.ntmps139
      go_wp2_with (first | ((with_reducible refine gate_callee (f := 206) rfl ?_); refine goesL_ (some 16) rfl rfl Try.func206 (by kernel_rfl) rfl #[.string a0, .string a1] rfl (by (try simp only [lT, lC, lN]); first | done | rfl) ?_; (with_reducible refine (padwrap_parted.calls a0 a1 t1 t4 t5 _ A3.out).mono ?_); rintro e w13 ⟨rfl, hb⟩; refine ⟨_, rfl, ?_⟩; have n0_ := Aside0.mk (below_step (by repeat first | with_reducible (first | exact HB.out | apply bA | apply bN | apply bD) | exact HB.out) hb); clear HB; have HB := n0_; clear n0_; (try clear hb); (try clear hb2); (try clear hk); (try clear hi)) | ((with_reducible refine gate_callee (f := 141) rfl ?_); refine goesL_ (some 27) rfl rfl Try.func141 (by kernel_rfl) rfl #[.string t1, .int .i64 (t4.size : Int)] rfl (by (try simp only [lT, lC, lN]); first | done | rfl | (simp only [List.length_drop, List.length_take]; rfl) | (simp only [ByteArray.size_extract, Nat.min_self, Nat.sub_zero, ByteArray.size_append]; first | done | rfl)) ?_; (with_reducible refine (padwrap_Length.calls k t1 (t4.size : Int) t2 true _ A5.out).mono ?_); rintro e w14 ⟨rfl, hb⟩; refine ⟨_, rfl, ?_⟩; have n0_ := Aside0.mk (below_step (by repeat first | with_reducible (first | exact HB.out | apply bA | apply bN | apply bD) | exact HB.out) hb); clear HB; have HB := n0_; clear n0_; (try clear hb); (try clear hb2); (try clear hk); (try clear hi)) | ((with_reducible refine gate_callee (f := 207) rfl ?_); refine goesL_ (some 34) rfl rfl Try.func207 (by kernel_rfl) rfl #[.string (t4.extract (t2 : Int).toNat t4.size)] rfl (by (try simp only [lT, lC, lN]); first | done | rfl | (simp only [List.length_drop, List.length_take]; rfl) | (simp only [ByteArray.size_extract, Nat.min_self, Nat.sub_zero, ByteArray.size_append]; first | done | rfl)) ?_; (with_reducible refine (equal_Nought.calls k (t4.extract (t2 : Int).toNat t4.size) true t7 _ A8.out).mono ?_); rintro e w' ⟨rfl, ⟨nd, rfl⟩⟩; refine ⟨_, rfl, ?_⟩))
      go_ret2
      exact ⟨by first | rfl | (simp [*, errW_none, errW_some] <;> rfl), by repeat first | with_reducible (first | exact HB.out | apply bA | apply bN | apply bD) | exact HB.out⟩
     ·replace c10 := Bool.eq_false_iff.mpr c10
      subst c10
      have H1 : (some ((⟨#[]⟩ : ByteArray), 7)) = some (r1, r2) := by rw [if_neg (show ¬ (false = true) by decide)] at H; exact H
      clear H
      have H := H1
      clear H1
      simp only [Option.some.injEq, Prod.mk.injEq] at H
      obtain ⟨rfl, rfl⟩ := H
      go_enter Try.func139, Try.ntmps139
      go_wp2_with (first | ((with_reducible refine gate_callee (f := 206) rfl ?_); refine goesL_ (some 16) rfl rfl Try.func206 (by kernel_rfl) rfl #[.string a0, .string a1] rfl (by (try simp only [lT, lC, lN]); first | done | rfl) ?_; (with_reducible refine (padwrap_parted.calls a0 a1 t1 t4 t5 _ A3.out).mono ?_); rintro e w15 ⟨rfl, hb⟩; refine ⟨_, rfl, ?_⟩; have n0_ := Aside0.mk (below_step (by repeat first | with_reducible (first | exact HB.out | apply bA | apply bN | apply bD) | exact HB.out) hb); clear HB; have HB := n0_; clear n0_; (try clear hb); (try clear hb2); (try clear hk); (try clear hi)) | ((with_reducible refine gate_callee (f := 141) rfl ?_); refine goesL_ (some 27) rfl rfl Try.func141 (by kernel_rfl) rfl #[.string t1, .int .i64 (t4.size : Int)] rfl (by (try simp only [lT, lC, lN]); first | done | rfl | (simp only [List.length_drop, List.length_take]; rfl) | (simp only [ByteArray.size_extract, Nat.min_self, Nat.sub_zero, ByteArray.size_append]; first | done | rfl)) ?_; (with_reducible refine (padwrap_Length.calls k t1 (t4.size : Int) t2 true _ A5.out).mono ?_); rintro e w16 ⟨rfl, hb⟩; refine ⟨_, rfl, ?_⟩; have n0_ := Aside0.mk (below_step (by repeat first | with_reducible (first | exact HB.out | apply bA | apply bN | apply bD) | exact HB.out) hb); clear HB; have HB := n0_; clear n0_; (try clear hb); (try clear hb2); (try clear hk); (try clear hi)) | ((with_reducible refine gate_callee (f := 207) rfl ?_); refine goesL_ (some 34) rfl rfl Try.func207 (by kernel_rfl) rfl #[.string (t4.extract (t2 : Int).toNat t4.size)] rfl (by (try simp only [lT, lC, lN]); first | done | rfl | (simp only [List.length_drop, List.length_take]; rfl) | (simp only [ByteArray.size_extract, Nat.min_self, Nat.sub_zero, ByteArray.size_append]; first | done | rfl)) ?_; (with_reducible refine (equal_Nought.calls k (t4.extract (t2 : Int).toNat t4.size) false t7 _ A8.out).mono ?_); rintro e w' ⟨rfl, ⟨nd, rfl⟩⟩; refine ⟨_, rfl, ?_⟩))
      go_ret2
      exact ⟨by first | rfl | (simp [*, errW_none, errW_some] <;> rfl), by repeat first | with_reducible (first | exact HB.out | apply bA | apply bN | apply bD) | exact HB.out⟩
    ·replace c9 := Bool.eq_false_iff.mpr c9
     subst c9
     have H1 : (some ((⟨#[]⟩ : ByteArray), 7)) = some (r1, r2) := by rw [if_neg (show ¬ (false = true) by decide)] at H; exact H
     clear H
     have H := H1
     clear H1
     simp only [Option.some.injEq, Prod.mk.injEq] at H
     obtain ⟨rfl, rfl⟩ := H
     go_enter Try.func139, Try.ntmps139
     go_wp2_with (first | ((with_reducible refine gate_callee (f := 206) rfl ?_); refine goesL_ (some 16) rfl rfl Try.func206 (by kernel_rfl) rfl #[.string a0, .string a1] rfl (by (try simp only [lT, lC, lN]); first | done | rfl) ?_; (with_reducible refine (padwrap_parted.calls a0 a1 t1 t4 t5 _ A3.out).mono ?_); rintro e w17 ⟨rfl, hb⟩; refine ⟨_, rfl, ?_⟩; have n0_ := Aside0.mk (below_step (by repeat first | with_reducible (first | exact HB.out | apply bA | apply bN | apply bD) | exact HB.out) hb); clear HB; have HB := n0_; clear n0_; (try clear hb); (try clear hb2); (try clear hk); (try clear hi)) | ((with_reducible refine gate_callee (f := 141) rfl ?_); refine goesL_ (some 27) rfl rfl Try.func141 (by kernel_rfl) rfl #[.string t1, .int .i64 (t4.size : Int)] rfl (by (try simp only [lT, lC, lN]); first | done | rfl | (simp only [List.length_drop, List.length_take]; rfl) | (simp only [ByteArray.size_extract, Nat.min_self, Nat.sub_zero, ByteArray.size_append]; first | done | rfl)) ?_; (with_reducible refine (padwrap_Length.calls k t1 (t4.size : Int) t2 false _ A5.out).mono ?_); rintro e w18 ⟨rfl, hb⟩; refine ⟨_, rfl, ?_⟩; have n0_ := Aside0.mk (below_step (by repeat first | with_reducible (first | exact HB.out | apply bA | apply bN | apply bD) | exact HB.out) hb); clear HB; have HB := n0_; clear n0_; (try clear hb); (try clear hb2); (try clear hk); (try clear hi)) | ((with_reducible refine gate_callee (f := 207) rfl ?_); refine goesL_ (some 34) rfl rfl Try.func207 (by kernel_rfl) rfl #[.string (t4.extract (t2 : Int).toNat t4.size)] rfl (by (try simp only [lT, lC, lN]); first | done | rfl | (simp only [List.length_drop, List.length_take]; rfl) | (simp only [ByteArray.size_extract, Nat.min_self, Nat.sub_zero, ByteArray.size_append]; first | done | rfl)) ?_; (with_reducible refine (equal_Nought.calls k (t4.extract (t2 : Int).toNat t4.size) t3 t7 _ A8.out).mono ?_); rintro e w' ⟨rfl, ⟨nd, rfl⟩⟩; refine ⟨_, rfl, ?_⟩))
     go_ret2
     exact ⟨by first | rfl | (simp [*, errW_none, errW_some] <;> rfl), by repeat first | with_reducible (first | exact HB.out | apply bA | apply bN | apply bD) | exact HB.out⟩
   ·rw [if_neg c7] at H
    exact absurd H (by simp)
  ·rw [if_neg c6] at H
   exact absurd H (by simp)
 ·rw [if_neg c4] at H
  have c4b0 : (t5 == 0) = false := beq_eq_false_iff_ne.mpr c4
  have c4b1 : (t5 != 0) = true := bne_iff_ne.mpr c4
  simp only [Option.some.injEq, Prod.mk.injEq] at H
  obtain ⟨rfl, rfl⟩ := H
  go_enter Try.func139, Try.ntmps139
  go_wp2_with (first | ((with_reducible refine gate_callee (f := 206) rfl ?_); refine goesL_ (some 16) rfl rfl Try.func206 (by kernel_rfl) rfl #[.string a0, .string a1] rfl (by (try simp only [lT, lC, lN]); first | done | rfl) ?_; (with_reducible refine (padwrap_parted.calls a0 a1 t1 t4 t5 _ A3.out).mono ?_); rintro e w19 ⟨rfl, hb⟩; refine ⟨_, rfl, ?_⟩; have n0_ := Aside0.mk (below_step (by repeat first | with_reducible (first | exact HB.out | apply bA | apply bN | apply bD) | exact HB.out) hb); clear HB; have HB := n0_; clear n0_; (try clear hb); (try clear hb2); (try clear hk); (try clear hi)))
  go_ret2
  exact ⟨by first | rfl | (simp [*, errW_none, errW_some] <;> rfl), by repeat first | with_reducible (first | exact HB.out | apply bA | apply bN | apply bD) | exact HB.out⟩

mutual
def clavigerref14_Length.l0 : Nat → ByteArray → Int → Int → Option (Int × Bool)
 | 0, _, _, _ => none
 | k + 1, x0, x1, x6 => if x6 ≤ x1 then (clavigerref14_Length.j1 k x0 x1 x6 (decide (x6 > (wrap64 (x1 - 8))))) else (clavigerref14_Length.j1 k x0 x1 x6 false)
def clavigerref14_Length.j1 : Nat → ByteArray → Int → Int → Bool → Option (Int × Bool)
 | 0, _, _, _, _ => none
 | k + 1, x0, x1, x6, x20 => if x20 = true then (if x6 > 0 then (if x6 < 65536 then ((clavigerref14_Value.f k x6).bind fun t1 => (if x0.toList = t1.toList then (some (x6, true)) else (clavigerref14_Length.l0 k x0 x1 (wrap64 (x6 + 1))))) else (clavigerref14_Length.l0 k x0 x1 (wrap64 (x6 + 1)))) else (clavigerref14_Length.l0 k x0 x1 (wrap64 (x6 + 1)))) else (some (0, false))
end
def clavigerref14_Length.f (k : Nat) (a0 : ByteArray) (a1 : Int) : Option (Int × Bool) := if (Int.tmod a1 8) = 0 then (clavigerref14_Length.l0 k a0 a1 (wrap64 (a1 - 7))) else (some (0, false))
theorem clavigerref14_Length.mono_l : ∀ k, (∀ y2 y3 y4, LeO (clavigerref14_Length.l0 k y2 y3 y4) (clavigerref14_Length.l0 (k + 1) y2 y3 y4)) ∧ (∀ y2 y3 y4 y5, LeO (clavigerref14_Length.j1 k y2 y3 y4 y5) (clavigerref14_Length.j1 (k + 1) y2 y3 y4 y5))
 | 0 => ⟨fun _ _ _ r h => by simp [clavigerref14_Length.l0] at h, fun _ _ _ _ r h => by simp [clavigerref14_Length.j1] at h⟩
 | k + 1 => by
  obtain ⟨ih0, ih1⟩ := clavigerref14_Length.mono_l k
  refine ⟨?_, ?_⟩
  ·intro y2 y3 y4
   unfold clavigerref14_Length.l0
   repeat' first
   | (with_reducible exact ih0 _ _ _)
   | (with_reducible exact ih1 _ _ _ _)
   | (with_reducible exact clavigerref14_Value.mono _ _)
   | (with_reducible exact LeO.refl _)
   | (with_reducible exact LeO.none _)
   | (with_reducible refine LeO.ite ?_ ?_)
   | (with_reducible refine LeO.bind ?_ (fun _ => ?_))
  ·intro y2 y3 y4 y5
   unfold clavigerref14_Length.j1
   repeat' first
   | (with_reducible exact ih0 _ _ _)
   | (with_reducible exact ih1 _ _ _ _)
   | (with_reducible exact clavigerref14_Value.mono _ _)
   | (with_reducible exact LeO.refl _)
   | (with_reducible exact LeO.none _)
   | (with_reducible refine LeO.ite ?_ ?_)
   | (with_reducible refine LeO.bind ?_ (fun _ => ?_))
theorem clavigerref14_Length.mono : ∀ a0 a1 k, LeO (clavigerref14_Length.f k a0 a1) (clavigerref14_Length.f (k + 1) a0 a1) := by
 intro a0 a1 k
 obtain ⟨ih0, ih1⟩ := clavigerref14_Length.mono_l k
 unfold clavigerref14_Length.f
 repeat' first
   | (with_reducible exact ih0 _ _ _)
   | (with_reducible exact ih1 _ _ _ _)
   | (with_reducible exact clavigerref14_Value.mono _ _)
   | (with_reducible exact LeO.refl _)
   | (with_reducible exact LeO.none _)
   | (with_reducible refine LeO.ite ?_ ?_)
   | (with_reducible refine LeO.bind ?_ (fun _ => ?_))
set_option maxHeartbeats 8000000 in
set_option maxRecDepth 100000 in
theorem clavigerref14_Length.calls (k : Nat) (a0 : ByteArray) (a1 : Int) (r1 : Int) (r2 : Bool) (w : World) (h : clavigerref14_Length.f k a0 a1 = some (r1, r2)) :
  Calls Try.prog 142 #[.string a0, .int .i64 a1] w fun e w' => e = .returned (.tuple #[.int .i64 r1, .bool r2]) ∧ Below w.heap.size w w' := by
 have HB := Aside0.mk (Below.refl w.heap.size w)
 have H : (if (Int.tmod a1 8) = 0 then (clavigerref14_Length.l0 k a0 a1 (wrap64 (a1 - 7))) else (some (0, false))) = some (r1, r2) := h
 clear h
 by_cases c3 : (Int.tmod a1 8) = 0
 ·rw [if_pos c3] at H
  have c3b0 : ((Int.tmod a1 8) == 0) = true := beq_iff_eq.mpr c3
  have c3b1 : ((Int.tmod a1 8) != 0) = false := bne_eq_false_iff_eq.mpr c3
  clear c3
  have H' := Aside0.mk H
  clear H
  go_enter Try.func142, Try.ntmps142
  go_wp2
  go_loopg [6] k (fun kq v6 w' => ∃ (x6_1 : Int), v6 = .int .i64 x6_1 ∧ Aside0 (clavigerref14_Length.l0 kq a0 a1 x6_1 = some (r1, r2)) ∧ Aside0 (kq ≤ k) ∧ Aside0 (Below w.heap.size w w'))
  case atStart => exact ⟨(wrap64 (a1 - 7)), (by first | rfl | (simp; done) | (simp [*]; done)), H', ⟨Nat.le_refl _⟩, ⟨by repeat first | with_reducible (first | exact HB.out | apply bA | apply bN | apply bD) | exact HB.out⟩⟩
  case round =>
   clear H'
   try clear c1
   try clear p2
   try clear c3
   try clear c3b0
   try clear c3b1
   obtain ⟨x6_1, rfl, HA, HK1, HB⟩ := hrel
   cases gk with
   | zero => exact absurd HA.out (by simp [clavigerref14_Length.l0])
   | succ k1 =>
    have H := HA.out
    clear HA
    simp only [clavigerref14_Length.l0] at H
    have HC4 := Aside0.mk H
    clear H
    go_upto_region 4 with (fail)
    go_cut [20] (fun v20 wc => ∃ (kq : Nat) (x20_3 : Bool), v20 = .bool x20_3 ∧ Aside0 (clavigerref14_Length.j1 kq a0 a1 x6_1 x20_3 = some (r1, r2)) ∧ Aside0 (kq ≤ k1) ∧ Aside0 (Below w.heap.size w wc))
    case first =>
     have H := HC4.out
     clear HC4
     by_cases c5 : x6_1 ≤ a1
     ·rw [if_pos c5] at H
      have c5b0 : decide (x6_1 ≤ a1) = true := decide_eq_true c5
      clear c5
      (first | rw [c5b0] | (simp only [i64_w, i32_w]; rw [c5b0]) | skip)
      have H' := Aside0.mk H
      clear H
      go_wp2
      go_meet
      case rel => exact ⟨_, (decide (x6_1 > (wrap64 (a1 - 8)))), (by first | rfl | (simp; done) | (simp [*]; done)), H', ⟨by have := HK1.out; first | omega | exact Nat.le_refl _⟩, ⟨by repeat first | with_reducible (first | exact HB.out | apply bA | apply bN | apply bD) | exact HB.out⟩⟩
     ·rw [if_neg c5] at H
      have c5b0 : decide (x6_1 ≤ a1) = false := decide_eq_false c5
      clear c5
      (first | rw [c5b0] | (simp only [i64_w, i32_w]; rw [c5b0]) | skip)
      have H' := Aside0.mk H
      clear H
      go_wp2
      go_meet
      case rel => exact ⟨_, (false), (by first | rfl | (simp; done) | (simp [*]; done)), H', ⟨by have := HK1.out; first | omega | exact Nat.le_refl _⟩, ⟨by repeat first | with_reducible (first | exact HB.out | apply bA | apply bN | apply bD) | exact HB.out⟩⟩
    case rest =>
     clear HC4
     try clear c1
     try clear p2
     try clear c3
     try clear c3b0
     try clear c3b1
     try clear c5
     try clear c5b0
     try clear p2
     obtain ⟨kq, x20_3, rfl, HA, HJ3, HB⟩ := hcut
     cases kq with
     | zero => exact absurd HA.out (by simp [clavigerref14_Length.j1])
     | succ kj3 =>
      have H := HA.out
      clear HA
      simp only [clavigerref14_Length.j1] at H
      by_cases c6 : x20_3 = true
      ·subst c6
       have H1 : (if x6_1 > 0 then (if x6_1 < 65536 then ((clavigerref14_Value.f kj3 x6_1).bind fun t1 => (if a0.toList = t1.toList then (some (x6_1, true)) else (clavigerref14_Length.l0 kj3 a0 a1 (wrap64 (x6_1 + 1))))) else (clavigerref14_Length.l0 kj3 a0 a1 (wrap64 (x6_1 + 1)))) else (clavigerref14_Length.l0 kj3 a0 a1 (wrap64 (x6_1 + 1)))) = some (r1, r2) := by rw [if_pos rfl] at H; exact H
       clear H
       have H := H1
       clear H1
       by_cases c7 : x6_1 > 0
       ·rw [if_pos c7] at H
        have c7b0 : decide (0 < x6_1) = true := decide_eq_true c7
        clear c7
        by_cases c8 : x6_1 < 65536
        ·rw [if_pos c8] at H
         have c8b0 : decide (x6_1 < 65536) = true := decide_eq_true c8
         clear c8
         replace H := Option.bind_eq_some_iff.mp H
         obtain ⟨t1, A90, H⟩ := H
         try dsimp only at H
         have A9 := Aside0.mk A90
         clear A90
         by_cases c10 : a0.toList = t1.toList
         ·rw [if_pos c10] at H
          have c10b0 : (a0.toList == t1.toList) = true := beq_iff_eq.mpr c10
          have c10b1 : (a0.toList != t1.toList) = false := bne_eq_false_iff_eq.mpr c10
          clear c10
          simp only [Option.some.injEq, Prod.mk.injEq] at H
          obtain ⟨rfl, rfl⟩ := H
          go_wp2_with (first | (go_at_call 144; (with_reducible refine (clavigerref14_Value.calls kj3 x6_1 t1 _ A9.out).mono ?_); rintro e w11 ⟨rfl, hb⟩; have n0_ := Aside0.mk (below_step (by repeat first | with_reducible (first | exact HB.out | apply bA | apply bN | apply bD) | exact HB.out) hb); clear HB; have HB := n0_; clear n0_; (try clear hb); (try clear hb2); (try clear hk); (try clear hi)))
          go_ret2
          exact ⟨by first | rfl | (simp [*, errW_none, errW_some] <;> rfl), by repeat first | with_reducible (first | exact HB.out | apply bA | apply bN | apply bD) | exact HB.out⟩
         ·rw [if_neg c10] at H
          have c10b0 : (a0.toList == t1.toList) = false := beq_eq_false_iff_ne.mpr c10
          have c10b1 : (a0.toList != t1.toList) = true := bne_iff_ne.mpr c10
          have H' := Aside0.mk H
          clear H
          go_wp2_with (first | (go_at_call 144; (with_reducible refine (clavigerref14_Value.calls kj3 x6_1 t1 _ A9.out).mono ?_); rintro e w12 ⟨rfl, hb⟩; have n0_ := Aside0.mk (below_step (by repeat first | with_reducible (first | exact HB.out | apply bA | apply bN | apply bD) | exact HB.out) hb); clear HB; have HB := n0_; clear n0_; (try clear hb); (try clear hb2); (try clear hk); (try clear hi)))
          go_roundg kj3
          case measure => have := HK1.out; have := HJ3.out; omega
          case rel => exact ⟨(wrap64 (x6_1 + 1)), (by first | rfl | (simp; done) | (simp [*]; done)), H', ⟨by have := HK1.out; have := HJ3.out; omega⟩, ⟨by repeat first | with_reducible (first | exact HB.out | apply bA | apply bN | apply bD) | exact HB.out⟩⟩
        ·rw [if_neg c8] at H
         have c8b0 : decide (x6_1 < 65536) = false := decide_eq_false c8
         clear c8
         have H' := Aside0.mk H
         clear H
         go_wp2
         go_roundg kj3
         case measure => have := HK1.out; have := HJ3.out; omega
         case rel => exact ⟨(wrap64 (x6_1 + 1)), (by first | rfl | (simp; done) | (simp [*]; done)), H', ⟨by have := HK1.out; have := HJ3.out; omega⟩, ⟨by repeat first | with_reducible (first | exact HB.out | apply bA | apply bN | apply bD) | exact HB.out⟩⟩
       ·rw [if_neg c7] at H
        have c7b0 : decide (0 < x6_1) = false := decide_eq_false c7
        clear c7
        have H' := Aside0.mk H
        clear H
        go_wp2
        go_roundg kj3
        case measure => have := HK1.out; have := HJ3.out; omega
        case rel => exact ⟨(wrap64 (x6_1 + 1)), (by first | rfl | (simp; done) | (simp [*]; done)), H', ⟨by have := HK1.out; have := HJ3.out; omega⟩, ⟨by repeat first | with_reducible (first | exact HB.out | apply bA | apply bN | apply bD) | exact HB.out⟩⟩
      ·replace c6 := Bool.eq_false_iff.mpr c6
       subst c6
       have H1 : (some (0, false)) = some (r1, r2) := by rw [if_neg (show ¬ (false = true) by decide)] at H; exact H
       clear H
       have H := H1
       clear H1
       simp only [Option.some.injEq, Prod.mk.injEq] at H
       obtain ⟨rfl, rfl⟩ := H
       go_wp2
       go_ret2
       exact ⟨by first | rfl | (simp [*, errW_none, errW_some] <;> rfl), by repeat first | with_reducible (first | exact HB.out | apply bA | apply bN | apply bD) | exact HB.out⟩
 ·rw [if_neg c3] at H
  have c3b0 : ((Int.tmod a1 8) == 0) = false := beq_eq_false_iff_ne.mpr c3
  have c3b1 : ((Int.tmod a1 8) != 0) = true := bne_iff_ne.mpr c3
  simp only [Option.some.injEq, Prod.mk.injEq] at H
  obtain ⟨rfl, rfl⟩ := H
  go_enter Try.func142, Try.ntmps142
  go_wp2
  go_ret2
  exact ⟨by first | rfl | (simp [*, errW_none, errW_some] <;> rfl), by repeat first | with_reducible (first | exact HB.out | apply bA | apply bN | apply bD) | exact HB.out⟩

mutual
def clavigerref14_Unwrap.j0 : Nat → ByteArray → ByteArray → Bool → Option (ByteArray × Int)
 | 0, _, _, _ => none
 | k + 1, x0, x1, x29 => if x29 = true then (some ((⟨#[]⟩ : ByteArray), 4)) else (if (x1.size : Int) = 16 then ((clavigerref09_Decrypt.f k x0 x1).bind fun bt1 => (if 0 ≤ 8 then (if 8 ≤ (bt1.1.size : Int) then (clavigerref14_Unwrap.j1 k (bt1.1.extract 0 8) (bt1.1.extract 8 bt1.1.size)) else (none)) else (none))) else ((clavigerref13_Unraw.f k x0 x1).bind fun bt2 => (clavigerref14_Unwrap.j1 k bt2.1 bt2.2.1)))
def clavigerref14_Unwrap.j1 : Nat → ByteArray → ByteArray → Option (ByteArray × Int)
 | 0, _, _ => none
 | k + 1, x6, x7 => (clavigerref14_Length.f k x6 (x7.size : Int)).bind fun bt3 => (if bt3.2 = true then (clavigerref14_Unwrap.l0 k x7 bt3.1 bt3.1) else (some ((⟨#[]⟩ : ByteArray), 7)))
def clavigerref14_Unwrap.l0 : Nat → ByteArray → Int → Int → Option (ByteArray × Int)
 | 0, _, _, _ => none
 | k + 1, x7, x10, x12 => if x12 < (x7.size : Int) then (if 0 ≤ x12 then (if (bt x7 x12) = 0 then (clavigerref14_Unwrap.l0 k x7 x10 (wrap64 (x12 + 1))) else (some ((⟨#[]⟩ : ByteArray), 7))) else (none)) else (if 0 ≤ x10 then (if x10 ≤ (x7.size : Int) then (some (x7.extract 0 (x10 : Int).toNat, 0)) else (none)) else (none))
end
def clavigerref14_Unwrap.f (k : Nat) (a0 : ByteArray) (a1 : ByteArray) : Option (ByteArray × Int) := (clavigerref14_key.f a0).bind fun t4 => (if t4 = true then (if ((a1.size : Int) % 8) = 0 then (if (a1.size : Int) < 16 then (clavigerref14_Unwrap.j0 k a0 a1 true) else (clavigerref14_Unwrap.j0 k a0 a1 (decide ((a1.size : Int) > 65544)))) else (clavigerref14_Unwrap.j0 k a0 a1 true)) else (some ((⟨#[]⟩ : ByteArray), 2)))
theorem clavigerref14_Unwrap.mono_l : ∀ k, (∀ y5 y6 y7, LeO (clavigerref14_Unwrap.j0 k y5 y6 y7) (clavigerref14_Unwrap.j0 (k + 1) y5 y6 y7)) ∧ (∀ y5 y6, LeO (clavigerref14_Unwrap.j1 k y5 y6) (clavigerref14_Unwrap.j1 (k + 1) y5 y6)) ∧ (∀ y5 y6 y7, LeO (clavigerref14_Unwrap.l0 k y5 y6 y7) (clavigerref14_Unwrap.l0 (k + 1) y5 y6 y7))
 | 0 => ⟨fun _ _ _ r h => by simp [clavigerref14_Unwrap.j0] at h, fun _ _ r h => by simp [clavigerref14_Unwrap.j1] at h, fun _ _ _ r h => by simp [clavigerref14_Unwrap.l0] at h⟩
 | k + 1 => by
  obtain ⟨ih0, ih1, ih2⟩ := clavigerref14_Unwrap.mono_l k
  refine ⟨?_, ?_, ?_⟩
  ·intro y5 y6 y7
   unfold clavigerref14_Unwrap.j0
   repeat' first
   | (with_reducible exact ih0 _ _ _)
   | (with_reducible exact ih1 _ _)
   | (with_reducible exact ih2 _ _ _)
   | (with_reducible exact clavigerref09_Decrypt.mono _ _ _)
   | (with_reducible exact clavigerref13_Unraw.mono _ _ _)
   | (with_reducible exact clavigerref14_Length.mono _ _ _)
   | (with_reducible exact LeO.refl _)
   | (with_reducible exact LeO.none _)
   | (with_reducible refine LeO.ite ?_ ?_)
   | (with_reducible refine LeO.bind ?_ (fun _ => ?_))
  ·intro y5 y6
   unfold clavigerref14_Unwrap.j1
   repeat' first
   | (with_reducible exact ih0 _ _ _)
   | (with_reducible exact ih1 _ _)
   | (with_reducible exact ih2 _ _ _)
   | (with_reducible exact clavigerref09_Decrypt.mono _ _ _)
   | (with_reducible exact clavigerref13_Unraw.mono _ _ _)
   | (with_reducible exact clavigerref14_Length.mono _ _ _)
   | (with_reducible exact LeO.refl _)
   | (with_reducible exact LeO.none _)
   | (with_reducible refine LeO.ite ?_ ?_)
   | (with_reducible refine LeO.bind ?_ (fun _ => ?_))
  ·intro y5 y6 y7
   unfold clavigerref14_Unwrap.l0
   repeat' first
   | (with_reducible exact ih0 _ _ _)
   | (with_reducible exact ih1 _ _)
   | (with_reducible exact ih2 _ _ _)
   | (with_reducible exact clavigerref09_Decrypt.mono _ _ _)
   | (with_reducible exact clavigerref13_Unraw.mono _ _ _)
   | (with_reducible exact clavigerref14_Length.mono _ _ _)
   | (with_reducible exact LeO.refl _)
   | (with_reducible exact LeO.none _)
   | (with_reducible refine LeO.ite ?_ ?_)
   | (with_reducible refine LeO.bind ?_ (fun _ => ?_))
theorem clavigerref14_Unwrap.mono : ∀ a0 a1 k, LeO (clavigerref14_Unwrap.f k a0 a1) (clavigerref14_Unwrap.f (k + 1) a0 a1) := by
 intro a0 a1 k
 obtain ⟨ih0, ih1, ih2⟩ := clavigerref14_Unwrap.mono_l k
 unfold clavigerref14_Unwrap.f
 repeat' first
   | (with_reducible exact ih0 _ _ _)
   | (with_reducible exact ih1 _ _)
   | (with_reducible exact ih2 _ _ _)
   | (with_reducible exact clavigerref09_Decrypt.mono _ _ _)
   | (with_reducible exact clavigerref13_Unraw.mono _ _ _)
   | (with_reducible exact clavigerref14_Length.mono _ _ _)
   | (with_reducible exact LeO.refl _)
   | (with_reducible exact LeO.none _)
   | (with_reducible refine LeO.ite ?_ ?_)
   | (with_reducible refine LeO.bind ?_ (fun _ => ?_))
set_option maxHeartbeats 8000000 in
set_option maxRecDepth 100000 in
theorem clavigerref14_Unwrap.calls (k : Nat) (a0 : ByteArray) (a1 : ByteArray) (r1 : ByteArray) (r2 : Int) (w : World) (h : clavigerref14_Unwrap.f k a0 a1 = some (r1, r2)) :
  Calls Try.prog 140 #[.string a0, .string a1] w fun e w' => e = .returned (.tuple #[.string r1, .int .i64 r2]) ∧ Below w.heap.size w w' := by
 have HB := Aside0.mk (Below.refl w.heap.size w)
 have H : ((clavigerref14_key.f a0).bind fun t4 => (if t4 = true then (if ((a1.size : Int) % 8) = 0 then (if (a1.size : Int) < 16 then (clavigerref14_Unwrap.j0 k a0 a1 true) else (clavigerref14_Unwrap.j0 k a0 a1 (decide ((a1.size : Int) > 65544)))) else (clavigerref14_Unwrap.j0 k a0 a1 true)) else (some ((⟨#[]⟩ : ByteArray), 2)))) = some (r1, r2) := h
 clear h
 replace H := Option.bind_eq_some_iff.mp H
 obtain ⟨t4, A30, H⟩ := H
 try dsimp only at H
 have A3 := Aside0.mk A30
 clear A30
 by_cases c4 : t4 = true
 ·subst c4
  have H1 : (if ((a1.size : Int) % 8) = 0 then (if (a1.size : Int) < 16 then (clavigerref14_Unwrap.j0 k a0 a1 true) else (clavigerref14_Unwrap.j0 k a0 a1 (decide ((a1.size : Int) > 65544)))) else (clavigerref14_Unwrap.j0 k a0 a1 true)) = some (r1, r2) := by rw [if_pos rfl] at H; exact H
  clear H
  have H := H1
  clear H1
  have HC5 := Aside0.mk H
  clear H
  go_enter Try.func140, Try.ntmps140
  go_upto_region 3 with (first | (go_at_call 205; (with_reducible refine (clavigerref14_key.calls a0 true _ A3.out).mono ?_); rintro e w' ⟨rfl, ⟨nd, rfl⟩⟩; (try first | exact ⟨rfl, _, World.drewN_drewN _ _ _⟩ | exact ⟨rfl, _, Eq.trans (World.drewN_drewN _ _ _) (congrArg (World.drewN _) (Nat.add_assoc _ _ _))⟩)))
  repeat (go_quiet (first | (go_at_call 205; (with_reducible refine (clavigerref14_key.calls a0 true _ A3.out).mono ?_); rintro e w' ⟨rfl, ⟨nd, rfl⟩⟩; (try first | exact ⟨rfl, _, World.drewN_drewN _ _ _⟩ | exact ⟨rfl, _, Eq.trans (World.drewN_drewN _ _ _) (congrArg (World.drewN _) (Nat.add_assoc _ _ _))⟩))); go_upto_region 3 with (first | (go_at_call 205; (with_reducible refine (clavigerref14_key.calls a0 true _ A3.out).mono ?_); rintro e w' ⟨rfl, ⟨nd, rfl⟩⟩; (try first | exact ⟨rfl, _, World.drewN_drewN _ _ _⟩ | exact ⟨rfl, _, Eq.trans (World.drewN_drewN _ _ _) (congrArg (World.drewN _) (Nat.add_assoc _ _ _))⟩))))
  (try simp only [Act.put, List.setIfInBounds_toArray, List.set_cons_zero, List.set_cons_succ])
  go_cut [29] (fun v29 wc => ∃ (kq : Nat) (x29_4 : Bool), v29 = .bool x29_4 ∧ Aside0 (clavigerref14_Unwrap.j0 kq a0 a1 x29_4 = some (r1, r2)) ∧ Aside0 (kq ≤ k) ∧ Aside0 (Below w.heap.size w wc))
  case first =>
   have H := HC5.out
   clear HC5
   by_cases c6 : ((a1.size : Int) % 8) = 0
   ·rw [if_pos c6] at H
    have c6b0 : (((a1.size : Int) % 8) == 0) = true := beq_iff_eq.mpr c6
    have c6b1 : (((a1.size : Int) % 8) != 0) = false := bne_eq_false_iff_eq.mpr c6
    clear c6
    (first | rw [c6b0] | (simp only [i64_w, i32_w]; rw [c6b0]) | skip)
    by_cases c7 : (a1.size : Int) < 16
    ·rw [if_pos c7] at H
     have c7b0 : decide ((a1.size : Int) < 16) = true := decide_eq_true c7
     have c7b1 : decide (a1.size < 16) = true := decide_eq_true (by omega)
     clear c7
     have H' := Aside0.mk H
     clear H
     go_wp2
     repeat (go_quiet (fail); try go_wp2)
     go_meet
     case rel => exact ⟨_, (true), (by first | rfl | (simp; done) | (simp [*]; done)), H', ⟨by first | omega | exact Nat.le_refl _⟩, ⟨by repeat first | with_reducible (first | exact HB.out | apply bA | apply bN | apply bD) | exact HB.out⟩⟩
    ·rw [if_neg c7] at H
     have c7b0 : decide ((a1.size : Int) < 16) = false := decide_eq_false c7
     have c7b1 : decide (a1.size < 16) = false := decide_eq_false (by omega)
     clear c7
     have H' := Aside0.mk H
     clear H
     go_wp2
     repeat (go_quiet (fail); try go_wp2)
     go_meet
     case rel => exact ⟨_, (decide ((a1.size : Int) > 65544)), (by first | rfl | (simp; done) | (simp [*]; done)), H', ⟨by first | omega | exact Nat.le_refl _⟩, ⟨by repeat first | with_reducible (first | exact HB.out | apply bA | apply bN | apply bD) | exact HB.out⟩⟩
   ·rw [if_neg c6] at H
    have c6b0 : (((a1.size : Int) % 8) == 0) = false := beq_eq_false_iff_ne.mpr c6
    have c6b1 : (((a1.size : Int) % 8) != 0) = true := bne_iff_ne.mpr c6
    (first | rw [c6b0] | (simp only [i64_w, i32_w]; rw [c6b0]) | skip)
    have H' := Aside0.mk H
    clear H
    go_wp2
    repeat (go_quiet (fail); try go_wp2)
    go_meet
    case rel => exact ⟨_, (true), (by first | rfl | (simp; done) | (simp [*]; done)), H', ⟨by first | omega | exact Nat.le_refl _⟩, ⟨by repeat first | with_reducible (first | exact HB.out | apply bA | apply bN | apply bD) | exact HB.out⟩⟩
  case rest =>
   clear HC5
   try clear c1
   try clear p2
   try clear c4
   try clear c6
   try clear c6b0
   try clear c6b1
   try clear c7
   try clear c7b0
   try clear c7b1
   obtain ⟨kq, x29_4, rfl, HA, HJ4, HB⟩ := hcut
   cases kq with
   | zero => exact absurd HA.out (by simp [clavigerref14_Unwrap.j0])
   | succ kj4 =>
    have H := HA.out
    clear HA
    simp only [clavigerref14_Unwrap.j0] at H
    by_cases c8 : x29_4 = true
    ·subst c8
     have H1 : (some ((⟨#[]⟩ : ByteArray), 4)) = some (r1, r2) := by rw [if_pos rfl] at H; exact H
     clear H
     have H := H1
     clear H1
     simp only [Option.some.injEq, Prod.mk.injEq] at H
     obtain ⟨rfl, rfl⟩ := H
     go_wp2
     repeat (go_quiet (fail); try go_wp2)
     go_ret2
     exact ⟨by first | rfl | (simp [*, errW_none, errW_some] <;> rfl), by repeat first | with_reducible (first | exact HB.out | apply bA | apply bN | apply bD) | exact HB.out⟩
    ·replace c8 := Bool.eq_false_iff.mpr c8
     subst c8
     have H1 : (if (a1.size : Int) = 16 then ((clavigerref09_Decrypt.f kj4 a0 a1).bind fun bt1 => (if 0 ≤ 8 then (if 8 ≤ (bt1.1.size : Int) then (clavigerref14_Unwrap.j1 kj4 (bt1.1.extract 0 8) (bt1.1.extract 8 bt1.1.size)) else (none)) else (none))) else ((clavigerref13_Unraw.f kj4 a0 a1).bind fun bt2 => (clavigerref14_Unwrap.j1 kj4 bt2.1 bt2.2.1))) = some (r1, r2) := by rw [if_neg (show ¬ (false = true) by decide)] at H; exact H
     clear H
     have H := H1
     clear H1
     have HC9 := Aside0.mk H
     clear H
     go_upto_if 32 with (fail)
     repeat (go_quiet (fail); go_upto_if 32 with (fail))
     go_cut [6, 7] (fun v6 v7 wc => ∃ (kq : Nat) (x6_8 : ByteArray) (x7_8 : ByteArray), v6 = .string x6_8 ∧ v7 = .string x7_8 ∧ Aside0 (clavigerref14_Unwrap.j1 kq x6_8 x7_8 = some (r1, r2)) ∧ Aside0 (kq ≤ kj4) ∧ Aside0 (Below w.heap.size w wc))
     case first =>
      have H := HC9.out
      clear HC9
      by_cases c10 : (a1.size : Int) = 16
      ·rw [if_pos c10] at H
       have c10b0 : ((a1.size : Int) == 16) = true := beq_iff_eq.mpr c10
       have c10b1 : ((a1.size : Int) != 16) = false := bne_eq_false_iff_eq.mpr c10
       clear c10
       (first | rw [c10b0] | (simp only [i64_w, i32_w]; rw [c10b0]) | skip)
       replace H := Option.bind_eq_some_iff.mp H
       obtain ⟨⟨t1, t8⟩, A110, H⟩ := H
       try dsimp only at H
       have A11 := Aside0.mk A110
       clear A110
       by_cases c12 : 0 ≤ 8
       ·rw [if_pos c12] at H
        have c12b0 := eq_true c12
        have c12b1 : decide (0 ≤ 8) = true := decide_eq_true c12
        clear c12
        by_cases c13 : 8 ≤ (t1.size : Int)
        ·rw [if_pos c13] at H
         have c13b0 := eq_true c13
         have c13b1 : decide (8 ≤ (t1.size : Int)) = true := decide_eq_true c13
         clear c13
         have c14b0 := eq_true (of_decide_eq_true (by assumption) : 8 ≤ (t1.size : Int))
         have H' := Aside0.mk H
         clear H
         go_wp2_with (first | (go_at_call 101; (with_reducible refine (clavigerref09_Decrypt.calls kj4 a0 a1 t1 t8 _ A11.out).mono ?_); rintro e w15 ⟨rfl, hb⟩; have n0_ := Aside0.mk (below_step (by repeat first | with_reducible (first | exact HB.out | apply bA | apply bN | apply bD) | exact HB.out) hb); clear HB; have HB := n0_; clear n0_; (try clear hb); (try clear hb2); (try clear hk); (try clear hi)))
         repeat (go_quiet (first | (go_at_call 101; (with_reducible refine (clavigerref09_Decrypt.calls kj4 a0 a1 t1 t8 _ A11.out).mono ?_); rintro e w15 ⟨rfl, hb⟩; have n0_ := Aside0.mk (below_step (by repeat first | with_reducible (first | exact HB.out | apply bA | apply bN | apply bD) | exact HB.out) hb); clear HB; have HB := n0_; clear n0_; (try clear hb); (try clear hb2); (try clear hk); (try clear hi))); try go_wp2_with (first | (go_at_call 101; (with_reducible refine (clavigerref09_Decrypt.calls kj4 a0 a1 t1 t8 _ A11.out).mono ?_); rintro e w15 ⟨rfl, hb⟩; have n0_ := Aside0.mk (below_step (by repeat first | with_reducible (first | exact HB.out | apply bA | apply bN | apply bD) | exact HB.out) hb); clear HB; have HB := n0_; clear n0_; (try clear hb); (try clear hb2); (try clear hk); (try clear hi))))
         go_meet
         case rel => exact ⟨_, (t1.extract 0 8), (t1.extract 8 t1.size), (by first | rfl | (simp; done) | (simp [*]; done)), (by first | rfl | (simp; done) | (simp [*]; done)), H', ⟨by have := HJ4.out; first | omega | exact Nat.le_refl _⟩, ⟨by repeat first | with_reducible (first | exact HB.out | apply bA | apply bN | apply bD) | exact HB.out⟩⟩
        ·rw [if_neg c13] at H
         exact absurd H (by simp)
       ·rw [if_neg c12] at H
        exact absurd H (by simp)
      ·rw [if_neg c10] at H
       have c10b0 : ((a1.size : Int) == 16) = false := beq_eq_false_iff_ne.mpr c10
       have c10b1 : ((a1.size : Int) != 16) = true := bne_iff_ne.mpr c10
       (first | rw [c10b0] | (simp only [i64_w, i32_w]; rw [c10b0]) | skip)
       replace H := Option.bind_eq_some_iff.mp H
       obtain ⟨⟨t2, t9, t10⟩, A160, H⟩ := H
       replace H : (clavigerref14_Unwrap.j1 kj4 t2 t9) = some (r1, r2) := H
       have A16 := Aside0.mk A160
       clear A160
       have H' := Aside0.mk H
       clear H
       go_wp2_with (first | (go_at_call 157; (with_reducible refine (clavigerref13_Unraw.calls kj4 a0 a1 t2 t9 t10 _ A16.out).mono ?_); rintro e w17 ⟨rfl, hb⟩; have n0_ := Aside0.mk (below_step (by repeat first | with_reducible (first | exact HB.out | apply bA | apply bN | apply bD) | exact HB.out) hb); clear HB; have HB := n0_; clear n0_; (try clear hb); (try clear hb2); (try clear hk); (try clear hi)))
       repeat (go_quiet (first | (go_at_call 157; (with_reducible refine (clavigerref13_Unraw.calls kj4 a0 a1 t2 t9 t10 _ A16.out).mono ?_); rintro e w17 ⟨rfl, hb⟩; have n0_ := Aside0.mk (below_step (by repeat first | with_reducible (first | exact HB.out | apply bA | apply bN | apply bD) | exact HB.out) hb); clear HB; have HB := n0_; clear n0_; (try clear hb); (try clear hb2); (try clear hk); (try clear hi))); try go_wp2_with (first | (go_at_call 157; (with_reducible refine (clavigerref13_Unraw.calls kj4 a0 a1 t2 t9 t10 _ A16.out).mono ?_); rintro e w17 ⟨rfl, hb⟩; have n0_ := Aside0.mk (below_step (by repeat first | with_reducible (first | exact HB.out | apply bA | apply bN | apply bD) | exact HB.out) hb); clear HB; have HB := n0_; clear n0_; (try clear hb); (try clear hb2); (try clear hk); (try clear hi))))
       go_meet
       case rel => exact ⟨_, (t2), (t9), (by first | rfl | (simp; done) | (simp [*]; done)), (by first | rfl | (simp; done) | (simp [*]; done)), H', ⟨by have := HJ4.out; first | omega | exact Nat.le_refl _⟩, ⟨by repeat first | with_reducible (first | exact HB.out | apply bA | apply bN | apply bD) | exact HB.out⟩⟩
     case rest =>
      clear HC9
      try clear c1
      try clear p2
      try clear c4
      try clear c6
      try clear c6b0
      try clear c6b1
      try clear c7
      try clear c7b0
      try clear c7b1
      try clear c8
      try clear c10
      try clear c10b0
      try clear c10b1
      try clear c12
      try clear c12b0
      try clear c12b1
      try clear c13
      try clear c13b0
      try clear c13b1
      try clear c14
      try clear c14b0
      try clear p2
      obtain ⟨kq, x6_8, x7_8, rfl, rfl, HA, HJ8, HB⟩ := hcut
      cases kq with
      | zero => exact absurd HA.out (by simp [clavigerref14_Unwrap.j1])
      | succ kj8 =>
       have H := HA.out
       clear HA
       simp only [clavigerref14_Unwrap.j1] at H
       replace H := Option.bind_eq_some_iff.mp H
       obtain ⟨⟨t3, t11⟩, A180, H⟩ := H
       try dsimp only at H
       have A18 := Aside0.mk A180
       clear A180
       by_cases c19 : t11 = true
       ·subst c19
        have H1 : (clavigerref14_Unwrap.l0 kj8 x7_8 t3 t3) = some (r1, r2) := by rw [if_pos rfl] at H; exact H
        clear H
        have H := H1
        clear H1
        have H' := Aside0.mk H
        clear H
        go_wp2_with (first | (go_at_call 142; (with_reducible refine (clavigerref14_Length.calls kj8 x6_8 (x7_8.size : Int) t3 true _ A18.out).mono ?_); rintro e w20 ⟨rfl, hb⟩; have n0_ := Aside0.mk (below_step (by repeat first | with_reducible (first | exact HB.out | apply bA | apply bN | apply bD) | exact HB.out) hb); clear HB; have HB := n0_; clear n0_; (try clear hb); (try clear hb2); (try clear hk); (try clear hi)))
        repeat (go_quiet (first | (go_at_call 142; (with_reducible refine (clavigerref14_Length.calls kj8 x6_8 (x7_8.size : Int) t3 true _ A18.out).mono ?_); rintro e w20 ⟨rfl, hb⟩; have n0_ := Aside0.mk (below_step (by repeat first | with_reducible (first | exact HB.out | apply bA | apply bN | apply bD) | exact HB.out) hb); clear HB; have HB := n0_; clear n0_; (try clear hb); (try clear hb2); (try clear hk); (try clear hi))); try go_wp2_with (first | (go_at_call 142; (with_reducible refine (clavigerref14_Length.calls kj8 x6_8 (x7_8.size : Int) t3 true _ A18.out).mono ?_); rintro e w20 ⟨rfl, hb⟩; have n0_ := Aside0.mk (below_step (by repeat first | with_reducible (first | exact HB.out | apply bA | apply bN | apply bD) | exact HB.out) hb); clear HB; have HB := n0_; clear n0_; (try clear hb); (try clear hb2); (try clear hk); (try clear hi))))
        go_loopg [12] kj8 (fun kq v12 w' => ∃ (x12_3 : Int), v12 = .int .i64 x12_3 ∧ Aside0 (clavigerref14_Unwrap.l0 kq x7_8 t3 x12_3 = some (r1, r2)) ∧ Aside0 (kq ≤ kj8) ∧ Aside0 (Below w.heap.size w w'))
        case atStart => exact ⟨(t3), (by first | rfl | (simp; done) | (simp [*]; done)), H', ⟨Nat.le_refl _⟩, ⟨by repeat first | with_reducible (first | exact HB.out | apply bA | apply bN | apply bD) | exact HB.out⟩⟩
        case round =>
         clear H'
         try clear c1
         try clear p2
         try clear c4
         try clear c6
         try clear c6b0
         try clear c6b1
         try clear c7
         try clear c7b0
         try clear c7b1
         try clear c8
         try clear c10
         try clear c10b0
         try clear c10b1
         try clear c12
         try clear c12b0
         try clear c12b1
         try clear c13
         try clear c13b0
         try clear c13b1
         try clear c14
         try clear c14b0
         try clear c19
         try clear p2
         obtain ⟨x12_3, rfl, HA, HK3, HB⟩ := hrel
         cases gk with
         | zero => exact absurd HA.out (by simp [clavigerref14_Unwrap.l0])
         | succ k3 =>
          have H := HA.out
          clear HA
          simp only [clavigerref14_Unwrap.l0] at H
          by_cases c21 : x12_3 < (x7_8.size : Int)
          ·rw [if_pos c21] at H
           have c21b0 : decide (x12_3 < (x7_8.size : Int)) = true := decide_eq_true c21
           clear c21
           by_cases c22 : 0 ≤ x12_3
           ·rw [if_pos c22] at H
            have c22b0 : decide (0 ≤ x12_3) = true := decide_eq_true c22
            clear c22
            by_cases c24 : (bt x7_8 x12_3) = 0
            ·rw [if_pos c24] at H
             have c24b0 : ((bt x7_8 x12_3) == 0) = true := beq_iff_eq.mpr c24
             have c24b1 : ((bt x7_8 x12_3) != 0) = false := bne_eq_false_iff_eq.mpr c24
             clear c24
             have H' := Aside0.mk H
             clear H
             have p23 : 0 ≤ (x12_3 : Int) := of_decide_eq_true (by assumption)
             have q23 : x12_3 < (x7_8.size : Int) := of_decide_eq_true (by assumption)
             have hx23 := bt_at x7_8 x12_3
             replace p23 := eq_true p23
             replace q23 := eq_true q23
             go_wp2
             repeat (go_quiet (fail); try go_wp2)
             go_roundg k3
             case measure => have := HJ4.out; have := HJ8.out; have := HK3.out; omega
             case rel => exact ⟨(wrap64 (x12_3 + 1)), (by first | rfl | (simp; done) | (simp [*]; done)), H', ⟨by have := HJ4.out; have := HJ8.out; have := HK3.out; omega⟩, ⟨by repeat first | with_reducible (first | exact HB.out | apply bA | apply bN | apply bD) | exact HB.out⟩⟩
            ·rw [if_neg c24] at H
             have c24b0 : ((bt x7_8 x12_3) == 0) = false := beq_eq_false_iff_ne.mpr c24
             have c24b1 : ((bt x7_8 x12_3) != 0) = true := bne_iff_ne.mpr c24
             simp only [Option.some.injEq, Prod.mk.injEq] at H
             obtain ⟨rfl, rfl⟩ := H
             have p23 : 0 ≤ (x12_3 : Int) := of_decide_eq_true (by assumption)
             have q23 : x12_3 < (x7_8.size : Int) := of_decide_eq_true (by assumption)
             have hx23 := bt_at x7_8 x12_3
             replace p23 := eq_true p23
             replace q23 := eq_true q23
             go_wp2
             repeat (go_quiet (fail); try go_wp2)
             go_ret2
             exact ⟨by first | rfl | (simp [*, errW_none, errW_some] <;> rfl), by repeat first | with_reducible (first | exact HB.out | apply bA | apply bN | apply bD) | exact HB.out⟩
           ·rw [if_neg c22] at H
            exact absurd H (by simp)
          ·rw [if_neg c21] at H
           have c21b0 : decide (x12_3 < (x7_8.size : Int)) = false := decide_eq_false c21
           clear c21
           by_cases c25 : 0 ≤ t3
           ·rw [if_pos c25] at H
            have c25b0 := eq_true c25
            have c25b1 : decide (0 ≤ t3) = true := decide_eq_true c25
            clear c25
            by_cases c26 : t3 ≤ (x7_8.size : Int)
            ·rw [if_pos c26] at H
             have c26b0 := eq_true c26
             have c26b1 : decide (t3 ≤ (x7_8.size : Int)) = true := decide_eq_true c26
             clear c26
             simp only [Option.some.injEq, Prod.mk.injEq] at H
             obtain ⟨rfl, rfl⟩ := H
             go_wp2
             repeat (go_quiet (fail); try go_wp2)
             go_ret2
             exact ⟨by first | rfl | (simp [*, errW_none, errW_some] <;> rfl), by repeat first | with_reducible (first | exact HB.out | apply bA | apply bN | apply bD) | exact HB.out⟩
            ·rw [if_neg c26] at H
             exact absurd H (by simp)
           ·rw [if_neg c25] at H
            exact absurd H (by simp)
       ·replace c19 := Bool.eq_false_iff.mpr c19
        subst c19
        have H1 : (some ((⟨#[]⟩ : ByteArray), 7)) = some (r1, r2) := by rw [if_neg (show ¬ (false = true) by decide)] at H; exact H
        clear H
        have H := H1
        clear H1
        simp only [Option.some.injEq, Prod.mk.injEq] at H
        obtain ⟨rfl, rfl⟩ := H
        go_wp2_with (first | (go_at_call 142; (with_reducible refine (clavigerref14_Length.calls kj8 x6_8 (x7_8.size : Int) t3 false _ A18.out).mono ?_); rintro e w27 ⟨rfl, hb⟩; have n0_ := Aside0.mk (below_step (by repeat first | with_reducible (first | exact HB.out | apply bA | apply bN | apply bD) | exact HB.out) hb); clear HB; have HB := n0_; clear n0_; (try clear hb); (try clear hb2); (try clear hk); (try clear hi)))
        repeat (go_quiet (first | (go_at_call 142; (with_reducible refine (clavigerref14_Length.calls kj8 x6_8 (x7_8.size : Int) t3 false _ A18.out).mono ?_); rintro e w27 ⟨rfl, hb⟩; have n0_ := Aside0.mk (below_step (by repeat first | with_reducible (first | exact HB.out | apply bA | apply bN | apply bD) | exact HB.out) hb); clear HB; have HB := n0_; clear n0_; (try clear hb); (try clear hb2); (try clear hk); (try clear hi))); try go_wp2_with (first | (go_at_call 142; (with_reducible refine (clavigerref14_Length.calls kj8 x6_8 (x7_8.size : Int) t3 false _ A18.out).mono ?_); rintro e w27 ⟨rfl, hb⟩; have n0_ := Aside0.mk (below_step (by repeat first | with_reducible (first | exact HB.out | apply bA | apply bN | apply bD) | exact HB.out) hb); clear HB; have HB := n0_; clear n0_; (try clear hb); (try clear hb2); (try clear hk); (try clear hi))))
        go_ret2
        exact ⟨by first | rfl | (simp [*, errW_none, errW_some] <;> rfl), by repeat first | with_reducible (first | exact HB.out | apply bA | apply bN | apply bD) | exact HB.out⟩
 ·replace c4 := Bool.eq_false_iff.mpr c4
  subst c4
  have H1 : (some ((⟨#[]⟩ : ByteArray), 2)) = some (r1, r2) := by rw [if_neg (show ¬ (false = true) by decide)] at H; exact H
  clear H
  have H := H1
  clear H1
  simp only [Option.some.injEq, Prod.mk.injEq] at H
  obtain ⟨rfl, rfl⟩ := H
  go_enter Try.func140, Try.ntmps140
  go_wp2_with (first | (go_at_call 205; (with_reducible refine (clavigerref14_key.calls a0 false _ A3.out).mono ?_); rintro e w' ⟨rfl, ⟨nd, rfl⟩⟩; (try first | exact ⟨rfl, _, World.drewN_drewN _ _ _⟩ | exact ⟨rfl, _, Eq.trans (World.drewN_drewN _ _ _) (congrArg (World.drewN _) (Nat.add_assoc _ _ _))⟩)))
  repeat (go_quiet (first | (go_at_call 205; (with_reducible refine (clavigerref14_key.calls a0 false _ A3.out).mono ?_); rintro e w' ⟨rfl, ⟨nd, rfl⟩⟩; (try first | exact ⟨rfl, _, World.drewN_drewN _ _ _⟩ | exact ⟨rfl, _, Eq.trans (World.drewN_drewN _ _ _) (congrArg (World.drewN _) (Nat.add_assoc _ _ _))⟩))); try go_wp2_with (first | (go_at_call 205; (with_reducible refine (clavigerref14_key.calls a0 false _ A3.out).mono ?_); rintro e w' ⟨rfl, ⟨nd, rfl⟩⟩; (try first | exact ⟨rfl, _, World.drewN_drewN _ _ _⟩ | exact ⟨rfl, _, Eq.trans (World.drewN_drewN _ _ _) (congrArg (World.drewN _) (Nat.add_assoc _ _ _))⟩))))
  go_ret2
  exact ⟨by first | rfl | (simp [*, errW_none, errW_some] <;> rfl), by repeat first | with_reducible (first | exact HB.out | apply bA | apply bN | apply bD) | exact HB.out⟩

end Go.Proofs.Ytokkhnjedmlbhaa.Pr
end
