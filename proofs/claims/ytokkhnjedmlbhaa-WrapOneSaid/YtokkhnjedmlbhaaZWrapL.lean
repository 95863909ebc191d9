-- several texts in one (by the session's program shake.py)
import Derived.Test.YtokkhnjedmlbhaaZPrg01x
import Derived.Test.YtokkhnjedmlbhaaZPrg13
import Derived.Test.YtokkhnjedmlbhaaZSboxR
import Derived.Test.YtokkhnjedmlbhaaZWrapB
import Derived.Test.YtokkhnjedmlbhaaZEqM
section
namespace Go.Proofs.Ytokkhnjedmlbhaa.Pr
open Go.RowKit Go.Proofs.YtokkhnjedmlbhaaW.PrintWords Go.Proofs.YtokkhnjedmlbhaaW.PrintLast Go.Proofs.YtokkhnjedmlbhaaW.PrintMore
attribute [local go_sem] max2_int min2_int max_two min_two max_three min_three max_four min_four   -- for this text's walks alone
set_option linter.unusedVariables false
set_option linter.unusedSimpArgs false

def wrap_Wrap.f (a0 : ByteArray) (a1 : ByteArray) : Option (ByteArray × Int) := (wrap_Value.f).bind fun t1 => ((wrap_Raw.f a0 t1 a1).bind fun bt2 => (some (bt2.1, bt2.2)))
set_option maxHeartbeats 8000000 in
set_option maxRecDepth 100000 in
theorem wrap_Wrap.calls (a0 : ByteArray) (a1 : ByteArray) (r1 : ByteArray) (r2 : Int) (w : World) (h : wrap_Wrap.f a0 a1 = some (r1, r2)) :
  Calls Try.prog 158 #[.string a0, .string a1] w fun e w' => e = .returned (.tuple #[.string r1, .int .i64 r2]) ∧ Below w.heap.size w w' := by
 have HB := Aside0.mk (Below.refl w.heap.size w)
 have H : ((wrap_Value.f).bind fun t1 => ((wrap_Raw.f a0 t1 a1).bind fun bt2 => (some (bt2.1, bt2.2)))) = some (r1, r2) := h
 clear h
 replace H := Option.bind_eq_some_iff.mp H
 obtain ⟨t1, A30, H⟩ := H
 try dsimp only at H
 have A3 := Aside0.mk A30
 clear A30
 replace H := Option.bind_eq_some_iff.mp H
 obtain ⟨⟨t2, t3⟩, A40, H⟩ := H
 replace H : (some (t2, t3)) = some (r1, r2) := H
 have A4 := Aside0.mk A40
 clear A40
 simp only [Option.some.injEq, Prod.mk.injEq] at H
 obtain ⟨rfl, rfl⟩ := H
 go_enter Try.func158, Try.ntmps158
 go_wp2_with (first | ((with_reducible refine gate_callee (f := 164) rfl ?_); refine goesL_ (some 7) rfl rfl Try.func164 (by kernel_rfl) rfl #[] rfl (by (try simp only [lT, lC, lN]); first | done | rfl) ?_; (with_reducible refine (wrap_Value.calls  t1 _ A3.out).mono ?_); rintro e w5 ⟨rfl, hb⟩; refine ⟨_, rfl, ?_⟩; have n0_ := Aside0.mk (below_step (by repeat first | with_reducible (first | exact HB.out | apply bA | apply bN | apply bD) | exact HB.out) hb); clear HB; have HB := n0_; clear n0_; (try clear hb); (try clear hb2); (try clear hk); (try clear hi)) | ((with_reducible refine gate_callee (f := 154) rfl ?_); refine goesL_ (some 9) rfl rfl Try.func154 (by kernel_rfl) rfl #[.string a0, .string t1, .string a1] rfl (by (try simp only [lT, lC, lN]); first | done | rfl) ?_; (with_reducible refine (wrap_Raw.calls a0 t1 a1 t2 t3 _ A4.out).mono ?_); rintro e w6 ⟨rfl, hb⟩; refine ⟨_, rfl, ?_⟩; have n0_ := Aside0.mk (below_step (by repeat first | with_reducible (first | exact HB.out | apply bA | apply bN | apply bD) | exact HB.out) hb); clear HB; have HB := n0_; clear n0_; (try clear hb); (try clear hb2); (try clear hk); (try clear hi)))
 go_ret2
 exact ⟨by first | rfl | (simp [*, errW_none, errW_some] <;> rfl), by repeat first | with_reducible (first | exact HB.out | apply bA | apply bN | apply bD) | exact HB.out⟩

def clavigerref13_Value.f  : Option (ByteArray) := some (⟨#[166, 166, 166, 166, 166, 166, 166, 166]⟩ : ByteArray)
set_option maxHeartbeats 8000000 in
set_option maxRecDepth 100000 in
theorem clavigerref13_Value.calls  (r : ByteArray) (w : World) (h : clavigerref13_Value.f  = some r) :
  Calls Try.prog 165 #[] w fun e w' => e = .returned (.string r) ∧ Drawn0 w w' := by
 have H : (some (⟨#[166, 166, 166, 166, 166, 166, 166, 166]⟩ : ByteArray)) = some r := h
 clear h
 obtain rfl := Option.some.inj H
 go_enter Try.func165, Try.ntmps165
 go_wp2
 go_ret
 exact ⟨by first | rfl | (simp; done) | (simp [*]; done) | (simp [IntKind.wrap_u8, IntKind.wrap_i64, wrap64]; done), by repeat (first | exact Drawn0.refl _ | apply Drawn0.step)⟩

def clavigerref13_Wrap.f (k : Nat) (a0 : ByteArray) (a1 : ByteArray) : Option (ByteArray × Int) := (clavigerref13_Value.f).bind fun t1 => ((clavigerref13_Raw.f k a0 t1 a1).bind fun bt2 => (some (bt2.1, bt2.2)))
theorem clavigerref13_Wrap.mono : ∀ a0 a1 k, LeO (clavigerref13_Wrap.f k a0 a1) (clavigerref13_Wrap.f (k + 1) a0 a1) := by
 intro a0 a1 k
 unfold clavigerref13_Wrap.f
 repeat' first
   | (with_reducible exact clavigerref13_Raw.mono _ _ _ _)
   | (with_reducible exact LeO.refl _)
   | (with_reducible exact LeO.none _)
   | (with_reducible refine LeO.ite ?_ ?_)
   | (with_reducible refine LeO.bind ?_ (fun _ => ?_))
set_option maxHeartbeats 8000000 in
set_option maxRecDepth 100000 in
theorem clavigerref13_Wrap.calls (k : Nat) (a0 : ByteArray) (a1 : ByteArray) (r1 : ByteArray) (r2 : Int) (w : World) (h : clavigerref13_Wrap.f k a0 a1 = some (r1, r2)) :
  Calls Try.prog 159 #[.string a0, .string a1] w fun e w' => e = .returned (.tuple #[.string r1, .int .i64 r2]) ∧ Below w.heap.size w w' := by
 have HB := Aside0.mk (Below.refl w.heap.size w)
 have H : ((clavigerref13_Value.f).bind fun t1 => ((clavigerref13_Raw.f k a0 t1 a1).bind fun bt2 => (some (bt2.1, bt2.2)))) = some (r1, r2) := h
 clear h
 replace H := Option.bind_eq_some_iff.mp H
 obtain ⟨t1, A30, H⟩ := H
 try dsimp only at H
 have A3 := Aside0.mk A30
 clear A30
 replace H := Option.bind_eq_some_iff.mp H
 obtain ⟨⟨t2, t3⟩, A40, H⟩ := H
 replace H : (some (t2, t3)) = some (r1, r2) := H
 have A4 := Aside0.mk A40
 clear A40
 simp only [Option.some.injEq, Prod.mk.injEq] at H
 obtain ⟨rfl, rfl⟩ := H
 go_enter Try.func159, Try.ntmps159
 go_wp2_with (first | ((with_reducible refine gate_callee (f := 165) rfl ?_); refine goesL_ (some 7) rfl rfl Try.func165 (by kernel_rfl) rfl #[] rfl (by (try simp only [lT, lC, lN]); first | done | rfl) ?_; (with_reducible refine (clavigerref13_Value.calls  t1 _ A3.out).mono ?_); rintro e w' ⟨rfl, ⟨nd, rfl⟩⟩; refine ⟨_, rfl, ?_⟩) | ((with_reducible refine gate_callee (f := 155) rfl ?_); refine goesL_ (some 9) rfl rfl Try.func155 (by kernel_rfl) rfl #[.string a0, .string t1, .string a1] rfl (by (try simp only [lT, lC, lN]); first | done | rfl) ?_; (with_reducible refine (clavigerref13_Raw.calls k a0 t1 a1 t2 t3 _ A4.out).mono ?_); rintro e w5 ⟨rfl, hb⟩; refine ⟨_, rfl, ?_⟩; have n0_ := Aside0.mk (below_step (by repeat first | with_reducible (first | exact HB.out | apply bA | apply bN | apply bD) | exact HB.out) hb); clear HB; have HB := n0_; clear n0_; (try clear hb); (try clear hb2); (try clear hk); (try clear hi)))
 go_ret2
 exact ⟨by first | rfl | (simp [*, errW_none, errW_some] <;> rfl), by repeat first | with_reducible (first | exact HB.out | apply bA | apply bN | apply bD) | exact HB.out⟩

def wrap_Unwrap.f (a0 : ByteArray) (a1 : ByteArray) : Option (ByteArray × Int) := (wrap_Unraw.f a0 a1).bind fun bt1 => (if bt1.2.2 = 0 then ((wrap_Value.f).bind fun t2 => ((equal_Scan.f bt1.1 t2).bind fun bt3 => (if bt3.1 = true then (some (bt1.2.1, 0)) else (some ((⟨#[]⟩ : ByteArray), 7))))) else (some ((⟨#[]⟩ : ByteArray), bt1.2.2)))
set_option maxHeartbeats 8000000 in
set_option maxRecDepth 100000 in
theorem wrap_Unwrap.calls (a0 : ByteArray) (a1 : ByteArray) (r1 : ByteArray) (r2 : Int) (w : World) (h : wrap_Unwrap.f a0 a1 = some (r1, r2)) :
  Calls Try.prog 160 #[.string a0, .string a1] w fun e w' => e = .returned (.tuple #[.string r1, .int .i64 r2]) ∧ Below w.heap.size w w' := by
 have HB := Aside0.mk (Below.refl w.heap.size w)
 have H : ((wrap_Unraw.f a0 a1).bind fun bt1 => (if bt1.2.2 = 0 then ((wrap_Value.f).bind fun t2 => ((equal_Scan.f bt1.1 t2).bind fun bt3 => (if bt3.1 = true then (some (bt1.2.1, 0)) else (some ((⟨#[]⟩ : ByteArray), 7))))) else (some ((⟨#[]⟩ : ByteArray), bt1.2.2)))) = some (r1, r2) := h
 clear h
 replace H := Option.bind_eq_some_iff.mp H
 obtain ⟨⟨t1, t4, t5⟩, A30, H⟩ := H
 try dsimp only at H
 have A3 := Aside0.mk A30
 clear A30
 by_cases c4 : t5 = 0
 ·rw [if_pos c4] at H
  have c4b0 : (t5 == 0) = true := beq_iff_eq.mpr c4
  have c4b1 : (t5 != 0) = false := bne_eq_false_iff_eq.mpr c4
  clear c4
  replace H := Option.bind_eq_some_iff.mp H
  obtain ⟨t2, A50, H⟩ := H
  try dsimp only at H
  have A5 := Aside0.mk A50
  clear A50
  replace H := Option.bind_eq_some_iff.mp H
  obtain ⟨⟨t3, t6⟩, A60, H⟩ := H
  try dsimp only at H
  have A6 := Aside0.mk A60
  clear A60
  by_cases c7 : t3 = true
  ·subst c7
   have H1 : (some (t4, 0)) = some (r1, r2) := by rw [if_pos rfl] at H; exact H
   clear H
   have H := H1
   clear H1
   simp only [Option.some.injEq, Prod.mk.injEq] at H
   obtain ⟨rfl, rfl⟩ := H
   go_enter Try.func160, Try.ntmps160
   go_wp2_with (first | ((with_reducible refine gate_callee (f := 156) rfl ?_); refine goesL_ (some 14) rfl rfl Try.func156 (by kernel_rfl) rfl #[.string a0, .string a1] rfl (by (try simp only [lT, lC, lN]); first | done | rfl) ?_; (with_reducible refine (wrap_Unraw.calls a0 a1 t1 t4 t5 _ A3.out).mono ?_); rintro e w8 ⟨rfl, hb⟩; refine ⟨_, rfl, ?_⟩; have n0_ := Aside0.mk (below_step (by repeat first | with_reducible (first | exact HB.out | apply bA | apply bN | apply bD) | exact HB.out) hb); clear HB; have HB := n0_; clear n0_; (try clear hb); (try clear hb2); (try clear hk); (try clear hi)) | ((with_reducible refine gate_callee (f := 164) rfl ?_); refine goesL_ (some 23) rfl rfl Try.func164 (by kernel_rfl) rfl #[] rfl (by (try simp only [lT, lC, lN]); first | done | rfl) ?_; (with_reducible refine (wrap_Value.calls  t2 _ A5.out).mono ?_); rintro e w9 ⟨rfl, hb⟩; refine ⟨_, rfl, ?_⟩; have n0_ := Aside0.mk (below_step (by repeat first | with_reducible (first | exact HB.out | apply bA | apply bN | apply bD) | exact HB.out) hb); clear HB; have HB := n0_; clear n0_; (try clear hb); (try clear hb2); (try clear hk); (try clear hi)) | ((with_reducible refine gate_callee (f := 200) rfl ?_); refine goesL_ (some 24) rfl rfl Try.func200 (by kernel_rfl) rfl #[.string t1, .string t2] rfl (by (try simp only [lT, lC, lN]); first | done | rfl) ?_; (with_reducible refine (equal_Scan.calls t1 t2 true t6 _ A6.out).mono ?_); rintro e w10 ⟨rfl, hb⟩; refine ⟨_, rfl, ?_⟩; have n0_ := Aside0.mk (below_step (by repeat first | with_reducible (first | exact HB.out | apply bA | apply bN | apply bD) | exact HB.out) hb); clear HB; have HB := n0_; clear n0_; (try clear hb); (try clear hb2); (try clear hk); (try clear hi)))
   go_ret2
   exact ⟨by first | rfl | (simp [*, errW_none, errW_some] <;> rfl), by repeat first | with_reducible (first | exact HB.out | apply bA | apply bN | apply bD) | exact HB.out⟩
  ·replace c7 := Bool.eq_false_iff.mpr c7
   subst c7
   have H1 : (some ((⟨#[]⟩ : ByteArray), 7)) = some (r1, r2) := by rw [if_neg (show ¬ (false = true) by decide)] at H; exact H
   clear H
   have H := H1
   clear H1
   simp only [Option.some.injEq, Prod.mk.injEq] at H
   obtain ⟨rfl, rfl⟩ := H
   go_enter Try.func160, Try.ntmps160
   go_wp2_with (first | ((with_reducible refine gate_callee (f := 156) rfl ?_); refine goesL_ (some 14) rfl rfl Try.func156 (by kernel_rfl) rfl #[.string a0, .string a1] rfl (by (try simp only [lT, lC, lN]); first | done | rfl) ?_; (with_reducible refine (wrap_Unraw.calls a0 a1 t1 t4 t5 _ A3.out).mono ?_); rintro e w11 ⟨rfl, hb⟩; refine ⟨_, rfl, ?_⟩; have n0_ := Aside0.mk (below_step (by repeat first | with_reducible (first | exact HB.out | apply bA | apply bN | apply bD) | exact HB.out) hb); clear HB; have HB := n0_; clear n0_; (try clear hb); (try clear hb2); (try clear hk); (try clear hi)) | ((with_reducible refine gate_callee (f := 164) rfl ?_); refine goesL_ (some 23) rfl rfl Try.func164 (by kernel_rfl) rfl #[] rfl (by (try simp only [lT, lC, lN]); first | done | rfl) ?_; (with_reducible refine (wrap_Value.calls  t2 _ A5.out).mono ?_); rintro e w12 ⟨rfl, hb⟩; refine ⟨_, rfl, ?_⟩; have n0_ := Aside0.mk (below_step (by repeat first | with_reducible (first | exact HB.out | apply bA | apply bN | apply bD) | exact HB.out) hb); clear HB; have HB := n0_; clear n0_; (try clear hb); (try clear hb2); (try clear hk); (try clear hi)) | ((with_reducible refine gate_callee (f := 200) rfl ?_); refine goesL_ (some 24) rfl rfl Try.func200 (by kernel_rfl) rfl #[.string t1, .string t2] rfl (by (try simp only [lT, lC, lN]); first | done | rfl) ?_; (with_reducible refine (equal_Scan.calls t1 t2 false t6 _ A6.out).mono ?_); rintro e w13 ⟨rfl, hb⟩; refine ⟨_, rfl, ?_⟩; have n0_ := Aside0.mk (below_step (by repeat first | with_reducible (first | exact HB.out | apply bA | apply bN | apply bD) | exact HB.out) hb); clear HB; have HB := n0_; clear n0_; (try clear hb); (try clear hb2); (try clear hk); (try clear hi)))
   go_ret2
   exact ⟨by first | rfl | (simp [*, errW_none, errW_some] <;> rfl), by repeat first | with_reducible (first | exact HB.out | apply bA | apply bN | apply bD) | exact HB.out⟩
 ·rw [if_neg c4] at H
  have c4b0 : (t5 == 0) = false := beq_eq_false_iff_ne.mpr c4
  have c4b1 : (t5 != 0) = true := bne_iff_ne.mpr c4
  simp only [Option.some.injEq, Prod.mk.injEq] at H
  obtain ⟨rfl, rfl⟩ := H
  go_enter Try.func160, Try.ntmps160
  go_wp2_with (first | ((with_reducible refine gate_callee (f := 156) rfl ?_); refine goesL_ (some 14) rfl rfl Try.func156 (by kernel_rfl) rfl #[.string a0, .string a1] rfl (by (try simp only [lT, lC, lN]); first | done | rfl) ?_; (with_reducible refine (wrap_Unraw.calls a0 a1 t1 t4 t5 _ A3.out).mono ?_); rintro e w14 ⟨rfl, hb⟩; refine ⟨_, rfl, ?_⟩; have n0_ := Aside0.mk (below_step (by repeat first | with_reducible (first | exact HB.out | apply bA | apply bN | apply bD) | exact HB.out) hb); clear HB; have HB := n0_; clear n0_; (try clear hb); (try clear hb2); (try clear hk); (try clear hi)))
  go_ret2
  exact ⟨by first | rfl | (simp [*, errW_none, errW_some] <;> rfl), by repeat first | with_reducible (first | exact HB.out | apply bA | apply bN | apply bD) | exact HB.out⟩

def clavigerref13_Unwrap.f (k : Nat) (a0 : ByteArray) (a1 : ByteArray) : Option (ByteArray × Int) := (clavigerref13_Unraw.f k a0 a1).bind fun bt1 => (if bt1.2.2 = 0 then ((clavigerref13_Value.f).bind fun t2 => (if bt1.1.toList = t2.toList then (some (bt1.2.1, 0)) else (some ((⟨#[]⟩ : ByteArray), 7)))) else (some ((⟨#[]⟩ : ByteArray), bt1.2.2)))
theorem clavigerref13_Unwrap.mono : ∀ a0 a1 k, LeO (clavigerref13_Unwrap.f k a0 a1) (clavigerref13_Unwrap.f (k + 1) a0 a1) := by
 intro a0 a1 k
 unfold clavigerref13_Unwrap.f
 repeat' first
   | (with_reducible exact clavigerref13_Unraw.mono _ _ _)
   | (with_reducible exact LeO.refl _)
   | (with_reducible exact LeO.none _)
   | (with_reducible refine LeO.ite ?_ ?_)
   | (with_reducible refine LeO.bind ?_ (fun _ => ?_))
set_option maxHeartbeats 8000000 in
set_option maxRecDepth 100000 in
theorem clavigerref13_Unwrap.calls (k : Nat) (a0 : ByteArray) (a1 : ByteArray) (r1 : ByteArray) (r2 : Int) (w : World) (h : clavigerref13_Unwrap.f k a0 a1 = some (r1, r2)) :
  Calls Try.prog 161 #[.string a0, .string a1] w fun e w' => e = .returned (.tuple #[.string r1, .int .i64 r2]) ∧ Below w.heap.size w w' := by
 have HB := Aside0.mk (Below.refl w.heap.size w)
 have H : ((clavigerref13_Unraw.f k a0 a1).bind fun bt1 => (if bt1.2.2 = 0 then ((clavigerref13_Value.f).bind fun t2 => (if bt1.1.toList = t2.toList then (some (bt1.2.1, 0)) else (some ((⟨#[]⟩ : ByteArray), 7)))) else (some ((⟨#[]⟩ : ByteArray), bt1.2.2)))) = some (r1, r2) := h
 clear h
 replace H := Option.bind_eq_some_iff.mp H
 obtain ⟨⟨t1, t3, t4⟩, A30, H⟩ := H
 try dsimp only at H
 have A3 := Aside0.mk A30
 clear A30
 by_cases c4 : t4 = 0
 ·rw [if_pos c4] at H
  have c4b0 : (t4 == 0) = true := beq_iff_eq.mpr c4
  have c4b1 : (t4 != 0) = false := bne_eq_false_iff_eq.mpr c4
  clear c4
  replace H := Option.bind_eq_some_iff.mp H
  obtain ⟨t2, A50, H⟩ := H
  try dsimp only at H
  have A5 := Aside0.mk A50
  clear A50
  by_cases c6 : t1.toList = t2.toList
  ·rw [if_pos c6] at H
   have c6b0 : (t1.toList == t2.toList) = true := beq_iff_eq.mpr c6
   have c6b1 : (t1.toList != t2.toList) = false := bne_eq_false_iff_eq.mpr c6
   clear c6
   simp only [Option.some.injEq, Prod.mk.injEq] at H
   obtain ⟨rfl, rfl⟩ := H
   go_enter Try.func161, Try.ntmps161
   go_wp2_with (first | ((with_reducible refine gate_callee (f := 157) rfl ?_); refine goesL_ (some 12) rfl rfl Try.func157 (by kernel_rfl) rfl #[.string a0, .string a1] rfl (by (try simp only [lT, lC, lN]); first | done | rfl) ?_; (with_reducible refine (clavigerref13_Unraw.calls k a0 a1 t1 t3 t4 _ A3.out).mono ?_); rintro e w7 ⟨rfl, hb⟩; refine ⟨_, rfl, ?_⟩; have n0_ := Aside0.mk (below_step (by repeat first | with_reducible (first | exact HB.out | apply bA | apply bN | apply bD) | exact HB.out) hb); clear HB; have HB := n0_; clear n0_; (try clear hb); (try clear hb2); (try clear hk); (try clear hi)) | ((with_reducible refine gate_callee (f := 165) rfl ?_); refine goesL_ (some 20) rfl rfl Try.func165 (by kernel_rfl) rfl #[] rfl (by (try simp only [lT, lC, lN]); first | done | rfl) ?_; (with_reducible refine (clavigerref13_Value.calls  t2 _ A5.out).mono ?_); rintro e w' ⟨rfl, ⟨nd, rfl⟩⟩; refine ⟨_, rfl, ?_⟩))
   go_ret2
   exact ⟨by first | rfl | (simp [*, errW_none, errW_some] <;> rfl), by repeat first | with_reducible (first | exact HB.out | apply bA | apply bN | apply bD) | exact HB.out⟩
  ·rw [if_neg c6] at H
   have c6b0 : (t1.toList == t2.toList) = false := beq_eq_false_iff_ne.mpr c6
   have c6b1 : (t1.toList != t2.toList) = true := bne_iff_ne.mpr c6
   simp only [Option.some.injEq, Prod.mk.injEq] at H
   obtain ⟨rfl, rfl⟩ := H
   go_enter Try.func161, Try.ntmps161
   go_wp2_with (first | ((with_reducible refine gate_callee (f := 157) rfl ?_); refine goesL_ (some 12) rfl rfl Try.func157 (by kernel_rfl) rfl #[.string a0, .string a1] rfl (by (try simp only [lT, lC, lN]); first | done | rfl) ?_; (with_reducible refine (clavigerref13_Unraw.calls k a0 a1 t1 t3 t4 _ A3.out).mono ?_); rintro e w8 ⟨rfl, hb⟩; refine ⟨_, rfl, ?_⟩; have n0_ := Aside0.mk (below_step (by repeat first | with_reducible (first | exact HB.out | apply bA | apply bN | apply bD) | exact HB.out) hb); clear HB; have HB := n0_; clear n0_; (try clear hb); (try clear hb2); (try clear hk); (try clear hi)) | ((with_reducible refine gate_callee (f := 165) rfl ?_); refine goesL_ (some 20) rfl rfl Try.func165 (by kernel_rfl) rfl #[] rfl (by (try simp only [lT, lC, lN]); first | done | rfl) ?_; (with_reducible refine (clavigerref13_Value.calls  t2 _ A5.out).mono ?_); rintro e w' ⟨rfl, ⟨nd, rfl⟩⟩; refine ⟨_, rfl, ?_⟩))
   go_ret2
   exact ⟨by first | rfl | (simp [*, errW_none, errW_some] <;> rfl), by repeat first | with_reducible (first | exact HB.out | apply bA | apply bN | apply bD) | exact HB.out⟩
 ·rw [if_neg c4] at H
  have c4b0 : (t4 == 0) = false := beq_eq_false_iff_ne.mpr c4
  have c4b1 : (t4 != 0) = true := bne_iff_ne.mpr c4
  simp only [Option.some.injEq, Prod.mk.injEq] at H
  obtain ⟨rfl, rfl⟩ := H
  go_enter Try.func161, Try.ntmps161
  go_wp2_with (first | ((with_reducible refine gate_callee (f := 157) rfl ?_); refine goesL_ (some 12) rfl rfl Try.func157 (by kernel_rfl) rfl #[.string a0, .string a1] rfl (by (try simp only [lT, lC, lN]); first | done | rfl) ?_; (with_reducible refine (clavigerref13_Unraw.calls k a0 a1 t1 t3 t4 _ A3.out).mono ?_); rintro e w9 ⟨rfl, hb⟩; refine ⟨_, rfl, ?_⟩; have n0_ := Aside0.mk (below_step (by repeat first | with_reducible (first | exact HB.out | apply bA | apply bN | apply bD) | exact HB.out) hb); clear HB; have HB := n0_; clear n0_; (try clear hb); (try clear hb2); (try clear hk); (try clear hi)))
  go_ret2
  exact ⟨by first | rfl | (simp [*, errW_none, errW_some] <;> rfl), by repeat first | with_reducible (first | exact HB.out | apply bA | apply bN | apply bD) | exact HB.out⟩

end Go.Proofs.Ytokkhnjedmlbhaa.Pr
end
section
namespace Go.Proofs.Ytokkhnjedmlbhaa.Pr
open Go.RowKit Go.Proofs.YtokkhnjedmlbhaaW.PrintWords Go.Proofs.YtokkhnjedmlbhaaW.PrintLast Go.Proofs.YtokkhnjedmlbhaaW.PrintMore
attribute [local go_sem] max2_int min2_int max_two min_two max_three min_three max_four min_four   -- for this text's walks alone
set_option linter.unusedVariables false
set_option linter.unusedSimpArgs false

def clavigerlaw13_awake.f  : Option (Bool) := (wrap_Wrap.f (⟨#[0, 1, 2, 3, 4, 5, 6, 7, 8, 9, 10, 11, 12, 13, 14, 15]⟩ : ByteArray) (⟨#[0, 17, 34, 51, 68, 85, 102, 119, 136, 153, 170, 187, 204, 221, 238, 255]⟩ : ByteArray)).bind fun bt1 => (if bt1.1.toList = ([31, 166, 139, 10, 129, 18, 180, 71, 174, 243, 75, 216, 251, 90, 123, 130, 157, 62, 134, 35, 113, 210, 207, 229] : List UInt8) then (if bt1.2 = 0 then ((wrap_Steps.f 16).bind fun t2 => (some (t2 == 12))) else (some false)) else (some false))
set_option maxHeartbeats 8000000 in
set_option maxRecDepth 100000 in
theorem clavigerlaw13_awake.calls  (r : Bool) (w : World) (h : clavigerlaw13_awake.f  = some r) :
  Calls Try.prog 153 #[] w fun e w' => e = .returned (.bool r) ∧ Below w.heap.size w w' := by
 have HB := Aside0.mk (Below.refl w.heap.size w)
 have H : ((wrap_Wrap.f (⟨#[0, 1, 2, 3, 4, 5, 6, 7, 8, 9, 10, 11, 12, 13, 14, 15]⟩ : ByteArray) (⟨#[0, 17, 34, 51, 68, 85, 102, 119, 136, 153, 170, 187, 204, 221, 238, 255]⟩ : ByteArray)).bind fun bt1 => (if bt1.1.toList = ([31, 166, 139, 10, 129, 18, 180, 71, 174, 243, 75, 216, 251, 90, 123, 130, 157, 62, 134, 35, 113, 210, 207, 229] : List UInt8) then (if bt1.2 = 0 then ((wrap_Steps.f 16).bind fun t2 => (some (t2 == 12))) else (some false)) else (some false))) = some r := h
 clear h
 replace H := Option.bind_eq_some_iff.mp H
 obtain ⟨⟨t1, t3⟩, A10, H⟩ := H
 try dsimp only at H
 have A1 := Aside0.mk A10
 clear A10
 by_cases c2 : t1.toList = ([31, 166, 139, 10, 129, 18, 180, 71, 174, 243, 75, 216, 251, 90, 123, 130, 157, 62, 134, 35, 113, 210, 207, 229] : List UInt8)
 ·rw [if_pos c2] at H
  have c2b0 : (t1.toList == ([31, 166, 139, 10, 129, 18, 180, 71, 174, 243, 75, 216, 251, 90, 123, 130, 157, 62, 134, 35, 113, 210, 207, 229] : List UInt8)) = true := beq_iff_eq.mpr c2
  have c2b1 : (t1.toList != ([31, 166, 139, 10, 129, 18, 180, 71, 174, 243, 75, 216, 251, 90, 123, 130, 157, 62, 134, 35, 113, 210, 207, 229] : List UInt8)) = false := bne_eq_false_iff_eq.mpr c2
  clear c2
  by_cases c3 : t3 = 0
  ·rw [if_pos c3] at H
   have c3b0 : (t3 == 0) = true := beq_iff_eq.mpr c3
   have c3b1 : (t3 != 0) = false := bne_eq_false_iff_eq.mpr c3
   clear c3
   replace H := Option.bind_eq_some_iff.mp H
   obtain ⟨t2, A40, H⟩ := H
   replace H : (some (t2 == 12)) = some r := H
   have A4 := Aside0.mk A40
   clear A40
   obtain rfl := Option.some.inj H
   go_enter Try.func153, Try.ntmps153
   go_wp2_with (first | ((with_reducible refine gate_callee (f := 158) rfl ?_); refine goesL_ (some 4) rfl rfl Try.func158 (by kernel_rfl) rfl #[.string (⟨#[0, 1, 2, 3, 4, 5, 6, 7, 8, 9, 10, 11, 12, 13, 14, 15]⟩ : ByteArray), .string (⟨#[0, 17, 34, 51, 68, 85, 102, 119, 136, 153, 170, 187, 204, 221, 238, 255]⟩ : ByteArray)] rfl (by (try simp only [lT, lC, lN]); first | done | rfl) ?_; (with_reducible refine (wrap_Wrap.calls (⟨#[0, 1, 2, 3, 4, 5, 6, 7, 8, 9, 10, 11, 12, 13, 14, 15]⟩ : ByteArray) (⟨#[0, 17, 34, 51, 68, 85, 102, 119, 136, 153, 170, 187, 204, 221, 238, 255]⟩ : ByteArray) t1 t3 _ A1.out).mono ?_); rintro e w5 ⟨rfl, hb⟩; refine ⟨_, rfl, ?_⟩; have n0_ := Aside0.mk (below_step (by repeat first | with_reducible (first | exact HB.out | apply bA | apply bN | apply bD) | exact HB.out) hb); clear HB; have HB := n0_; clear n0_; (try clear hb); (try clear hb2); (try clear hk); (try clear hi)) | (go_at_call 162; (with_reducible refine (wrap_Steps.calls 16 t2 _ A4.out).mono ?_); rintro e w' ⟨rfl, ⟨nd, rfl⟩⟩))
   go_ret
   exact ⟨by first | rfl | (simp [*, errW_none, errW_some] <;> rfl), by repeat first | with_reducible (first | exact HB.out | apply bA | apply bN | apply bD) | exact HB.out⟩
  ·rw [if_neg c3] at H
   have c3b0 : (t3 == 0) = false := beq_eq_false_iff_ne.mpr c3
   have c3b1 : (t3 != 0) = true := bne_iff_ne.mpr c3
   obtain rfl := Option.some.inj H
   go_enter Try.func153, Try.ntmps153
   go_wp2_with (first | ((with_reducible refine gate_callee (f := 158) rfl ?_); refine goesL_ (some 4) rfl rfl Try.func158 (by kernel_rfl) rfl #[.string (⟨#[0, 1, 2, 3, 4, 5, 6, 7, 8, 9, 10, 11, 12, 13, 14, 15]⟩ : ByteArray), .string (⟨#[0, 17, 34, 51, 68, 85, 102, 119, 136, 153, 170, 187, 204, 221, 238, 255]⟩ : ByteArray)] rfl (by (try simp only [lT, lC, lN]); first | done | rfl) ?_; (with_reducible refine (wrap_Wrap.calls (⟨#[0, 1, 2, 3, 4, 5, 6, 7, 8, 9, 10, 11, 12, 13, 14, 15]⟩ : ByteArray) (⟨#[0, 17, 34, 51, 68, 85, 102, 119, 136, 153, 170, 187, 204, 221, 238, 255]⟩ : ByteArray) t1 t3 _ A1.out).mono ?_); rintro e w6 ⟨rfl, hb⟩; refine ⟨_, rfl, ?_⟩; have n0_ := Aside0.mk (below_step (by repeat first | with_reducible (first | exact HB.out | apply bA | apply bN | apply bD) | exact HB.out) hb); clear HB; have HB := n0_; clear n0_; (try clear hb); (try clear hb2); (try clear hk); (try clear hi)))
   go_ret
   exact ⟨by first | rfl | (simp [*, errW_none, errW_some] <;> rfl), by repeat first | with_reducible (first | exact HB.out | apply bA | apply bN | apply bD) | exact HB.out⟩
 ·rw [if_neg c2] at H
  have c2b0 : (t1.toList == ([31, 166, 139, 10, 129, 18, 180, 71, 174, 243, 75, 216, 251, 90, 123, 130, 157, 62, 134, 35, 113, 210, 207, 229] : List UInt8)) = false := beq_eq_false_iff_ne.mpr c2
  have c2b1 : (t1.toList != ([31, 166, 139, 10, 129, 18, 180, 71, 174, 243, 75, 216, 251, 90, 123, 130, 157, 62, 134, 35, 113, 210, 207, 229] : List UInt8)) = true := bne_iff_ne.mpr c2
  obtain rfl := Option.some.inj H
  go_enter Try.func153, Try.ntmps153
  go_wp2_with (first | ((with_reducible refine gate_callee (f := 158) rfl ?_); refine goesL_ (some 4) rfl rfl Try.func158 (by kernel_rfl) rfl #[.string (⟨#[0, 1, 2, 3, 4, 5, 6, 7, 8, 9, 10, 11, 12, 13, 14, 15]⟩ : ByteArray), .string (⟨#[0, 17, 34, 51, 68, 85, 102, 119, 136, 153, 170, 187, 204, 221, 238, 255]⟩ : ByteArray)] rfl (by (try simp only [lT, lC, lN]); first | done | rfl) ?_; (with_reducible refine (wrap_Wrap.calls (⟨#[0, 1, 2, 3, 4, 5, 6, 7, 8, 9, 10, 11, 12, 13, 14, 15]⟩ : ByteArray) (⟨#[0, 17, 34, 51, 68, 85, 102, 119, 136, 153, 170, 187, 204, 221, 238, 255]⟩ : ByteArray) t1 t3 _ A1.out).mono ?_); rintro e w7 ⟨rfl, hb⟩; refine ⟨_, rfl, ?_⟩; have n0_ := Aside0.mk (below_step (by repeat first | with_reducible (first | exact HB.out | apply bA | apply bN | apply bD) | exact HB.out) hb); clear HB; have HB := n0_; clear n0_; (try clear hb); (try clear hb2); (try clear hk); (try clear hi)))
  go_ret
  exact ⟨by first | rfl | (simp [*, errW_none, errW_some] <;> rfl), by repeat first | with_reducible (first | exact HB.out | apply bA | apply bN | apply bD) | exact HB.out⟩

end Go.Proofs.Ytokkhnjedmlbhaa.Pr
end
section
namespace Go.Proofs.Ytokkhnjedmlbhaa.M
open Go.RowKit Go.Proofs.Ytokkhnjedmlbhaa.Pr Go.Proofs.YtokkhnjedmlbhaaW.PrintWords Go.Proofs.YtokkhnjedmlbhaaW.PrintLast Go.Proofs.YtokkhnjedmlbhaaW.PrintMore Go.Proofs.YtokkhnjedmlbhaaGf
set_option linter.unusedSimpArgs false
theorem evu {α : Type} {g : Nat → Option α} {r : α} (h : Ev (fun k => g (k + 1)) r) : Ev g r := Ev.step (f := fun k => g (k + 1)) (fun _ => rfl) h
theorem u64_id (n : Nat) (h : n < 18446744073709551616) : IntKind.u64.wrap (n : Int) = (n : Int) := by rw [IntKind.wrap_u64]; omega
theorem rsteps_c (n : Int) : clavigerref13_Steps.f n = some ((stpN n : Nat) : Int) := by
  unfold clavigerref13_Steps.f stpN
  by_cases h1 : n < 16
  · rw [if_pos h1, if_neg (by omega)]; rfl
  · rw [if_neg h1]
    by_cases h2 : n > 65536
    · rw [if_pos h2, if_neg (by omega)]; rfl
    · rw [if_neg h2, Int.tmod_eq_emod_of_nonneg (by omega)]
      by_cases h3 : n % 8 = 0
      · have e : wrap64 (n / 8) = n / 8 := wrap_id (by omega) (by omega)
        rw [if_pos h3, if_pos ⟨by omega, by omega, h3⟩, Int.tdiv_eq_ediv_of_nonneg (by omega), e, wrap_id (by omega) (by omega)]
        congr 1
        omega
      · rw [if_neg h3, if_neg (by omega)]; rfl
theorem rkey_c (key : ByteArray) : clavigerref13_key.f key = some (decide (okN key.size)) := by
  unfold clavigerref13_key.f
  by_cases h1 : key.size = 16
  · rw [if_pos (by omega), decide_eq_true (show okN key.size from .inl h1)]
  · rw [if_neg (by omega)]
    by_cases h2 : key.size = 24
    · rw [if_pos (by omega), decide_eq_true (show okN key.size from .inr (.inl h2))]
    · rw [if_neg (by omega)]
      by_cases h3 : key.size = 32
      · rw [decide_eq_true (show okN key.size from .inr (.inr h3)), h3]; rfl
      · rw [decide_eq_false (show ¬ okN key.size by unfold okN; omega)]
        congr 1
        exact beq_eq_false_iff_ne.mpr (by omega)
theorem cat_cons (a : ByteArray) (l : List ByteArray) : catB (a :: l) = a ++ catB l := rfl
theorem sz_app (a b : ByteArray) : (a ++ b).size = a.size + b.size := ByteArray.size_append
theorem left_8 {a b : ByteArray} (h : a.size = 8) : (a ++ b).extract 0 8 = a := by
  have := ext_left a b
  rwa [h] at this
theorem right_8 {a b : ByteArray} (h : a.size = 8) : (a ++ b).extract 8 (a ++ b).size = b := by
  have := ext_right a b
  rwa [h] at this
theorem runW_0 (ks : List ByteArray) (n : Nat) (p : ByteArray × List ByteArray) : runW ks n p 0 = p := rfl
theorem rrawL {key : ByteArray} (ok : okN key.size) (iv s : ByteArray) (hi : iv.size = 8) (m : Nat) (hs : s.size = 8 * m) (h2 : 2 ≤ m) (h3 : m ≤ 8192) (d : Nat) : ∀ t, 6 * m - t = d → t ≤ 6 * m →
    Ev (fun k => clavigerref13_Raw.l0 k key s (runW (ksB key) m (iv, pcs 8 m s) t).1 (catB (rotL m t (runW (ksB key) m (iv, pcs 8 m s) t).2)) ((t + 1 : Nat) : Int)) (rawT (ksB key) iv s m, 0) := by
  have hk := (ks_facts ok).2.1
  have hm : 0 < m := by omega
  have hst : clavigerref13_Steps.f (s.size : Int) = some ((6 * m : Nat) : Int) := by rw [rsteps_c, hs, steps_8 h2 h3]
  induction d with
  | zero =>
    intro t hd ht
    obtain rfl : t = 6 * m := by omega
    have ho := runW_ok hk hm (ok_0 hi hs) (6 * m)
    rw [rot_6]
    refine evu ?_
    simp only [clavigerref13_Raw.l0]
    refine evs hst (evn (by omega) (evp ?_ (Ev.now _)))
    rw [cat_size 8 _ ho.2.2, ho.2.1, ho.1]
    omega
  | succ d ih =>
    intro t hd ht
    have ho := runW_ok hk hm (ok_0 hi hs) t
    have hh := ih (t + 1) (by omega) (by omega)
    have hr : runW (ksB key) m (iv, pcs 8 m s) (t + 1) = stW (ksB key) m t (runW (ksB key) m (iv, pcs 8 m s) t) := rfl
    rw [hr] at hh
    clear hr ih
    generalize runW (ksB key) m (iv, pcs 8 m s) t = p at *
    obtain ⟨h1, hl, ha⟩ := ho
    have hx := getD_8 (t := t) hm hl ha
    have hms := mid_size (t := t) hm hl ha
    rw [rot_at hm hl, cat_cons]
    have hst2 : stW (ksB key) m t p = (cntX ((encT (ksB key) (p.1 ++ p.2.getD (t % m) ⟨#[]⟩)).extract 0 8) (t + 1), p.2.set (t % m) ((encT (ksB key) (p.1 ++ p.2.getD (t % m) ⟨#[]⟩)).extract 8 16)) := rfl
    rw [hst2] at hh
    clear hst2
    generalize p.2.getD (t % m) ⟨#[]⟩ = x at *
    have hax : (p.1 ++ x).size = 16 := by rw [sz_app]; omega
    have hb := enc_size hk hax
    have he := renc_c key (p.1 ++ x)
    rw [encX_ok ok hax] at he
    generalize encT (ksB key) (p.1 ++ x) = b at *
    have hb8 : (b.extract 0 8).size = 8 := by rw [ByteArray.size_extract]; omega
    have hb16 : (b.extract 8 16).size = 8 := by rw [ByteArray.size_extract]; omega
    have hmz : (catB (midL (t % m) p.2)).size ≤ 100000 := by omega
    rw [rot_next hm hl, cat_app, cat_one, ← xor_cnt _ _ hb8, ← low8] at hh
    generalize catB (midL (t % m) p.2) = mid at *
    have hp := rput_c (t + 1) 8 (by omega) (by omega) (by omega)
    have hlz : (mkB (lowL (t + 1) 8)).size = 8 := by rw [mkB_size, lowL_length]
    have hxr := rxor_c (b.extract 0 8) (mkB (lowL (t + 1) 8)) (by omega) (by omega)
    have hxm : (x ++ mid).size = 8 + mid.size := by rw [sz_app, hx]
    refine evu ?_
    simp only [clavigerref13_Raw.l0]
    rw [left_8 hx, right_8 hx, u64_id (t + 1) (by omega), wrap_id (x := (((t + 1 : Nat) : Int) + 1)) (by omega) (by omega), show (((t + 1 : Nat) : Int) + 1) = ((t + 1 + 1 : Nat) : Int) by omega]
    refine evs hst (evp (by omega) (evp (by decide) (evp (by omega) (evp (by omega) (evb he (evp (by show (8 : Int) ≤ ((b.size : Nat) : Int); omega) (evb hp (evb hxr (evp (by show mid.size + (b.extract 8 b.size).size ≤ _; rw [hb]; omega) ?_)))))))))
    show Ev (fun k => clavigerref13_Raw.l0 k key s _ (mid ++ b.extract 8 b.size) _) _
    rw [hb]
    exact hh
theorem rraw_c (key iv s : ByteArray) : Ev (fun k => clavigerref13_Raw.f k key iv s) (rawX key iv s) := by
  unfold clavigerref13_Raw.f rawX
  refine evs (rkey_c key) ?_
  by_cases ok : okN key.size
  · rw [if_pos ok]
    refine evp (decide_eq_true ok) ?_
    by_cases hi : iv.size = 8
    · rw [if_pos hi]
      refine evp (by omega) (evs (rsteps_c _) ?_)
      by_cases hs : stpN (s.size : Int) = 0
      · rw [if_pos hs]
        exact evp (by omega) (Ev.now _)
      · rw [if_neg hs]
        refine evn (by omega) ?_
        have hn := stp_ne hs
        have h := rrawL ok iv s hi (s.size / 8) (by omega) (by omega) (by omega) _ 0 rfl (by omega)
        rw [runW_0, rot_0, pcs_all (by omega)] at h
        exact h
    · rw [if_neg hi]
      exact evn (by omega) (Ev.now _)
  · rw [if_neg ok]
    exact evn (by simp [ok]) (Ev.now _)
theorem bkW_0 (ks : List ByteArray) (n : Nat) (p : ByteArray × List ByteArray) (T : Nat) : bkW ks n p T 0 = p := rfl
theorem runL {key : ByteArray} (ok : okN key.size) (p0 : ByteArray × List ByteArray) (m : Nat) (h0 : okW m p0) (h2 : 2 ≤ m) (h3 : m ≤ 8192) : ∀ t, t ≤ 6 * m →
    Ev (fun k => clavigerref13_Unraw.l0 k key (bkW (ksB key) m p0 (6 * m) (6 * m - t)).1 (catB (rotL m t (bkW (ksB key) m p0 (6 * m) (6 * m - t)).2)) (t : Int)) ((backW (ksB key) m p0 (6 * m)).1, catB (backW (ksB key) m p0 (6 * m)).2, 0) := by
  have hk := (ks_facts ok).2.1
  have hm : 0 < m := by omega
  intro t
  induction t with
  | zero =>
    intro _
    rw [Nat.sub_zero, rot_0, bkW_all]
    refine evu ?_
    simp only [clavigerref13_Unraw.l0]
    exact evn (by omega) (Ev.now _)
  | succ t ih =>
    intro ht
    have hh := ih (by omega)
    have ho := bkW_ok hk hm (6 * m) h0 (6 * m - (t + 1))
    have hr : bkW (ksB key) m p0 (6 * m) (6 * m - t) = unW (ksB key) m t (bkW (ksB key) m p0 (6 * m) (6 * m - (t + 1))) := by
      rw [show 6 * m - t = (6 * m - (t + 1)) + 1 by omega]
      show unW (ksB key) m (6 * m - (6 * m - (t + 1) + 1)) _ = _
      rw [show 6 * m - (6 * m - (t + 1) + 1) = t by omega]
    rw [hr] at hh
    clear hr ih
    generalize bkW (ksB key) m p0 (6 * m) (6 * m - (t + 1)) = p at *
    generalize ((backW (ksB key) m p0 (6 * m)).1, catB (backW (ksB key) m p0 (6 * m)).2, (0 : Int)) = res at *
    obtain ⟨h1, hl, ha⟩ := ho
    have hx := getD_8 (t := t) hm hl ha
    have hms := mid_size (t := t) hm hl ha
    rw [rot_last hm hl, cat_app, cat_one]
    have hun : unW (ksB key) m t p = ((decT (ksB key) (cntX p.1 (t + 1) ++ p.2.getD (t % m) ⟨#[]⟩)).extract 0 8, p.2.set (t % m) ((decT (ksB key) (cntX p.1 (t + 1) ++ p.2.getD (t % m) ⟨#[]⟩)).extract 8 16)) := rfl
    rw [hun] at hh
    clear hun
    generalize p.2.getD (t % m) ⟨#[]⟩ = x at *
    have hcz := cntX_size p.1 (t + 1)
    have hax : (cntX p.1 (t + 1) ++ x).size = 16 := by rw [sz_app]; omega
    have hb := dec_size hk hax
    have he := rdec_c key (cntX p.1 (t + 1) ++ x)
    rw [decX_ok ok hax] at he
    generalize decT (ksB key) (cntX p.1 (t + 1) ++ x) = b at *
    have hb16 : (b.extract 8 16).size = 8 := by rw [ByteArray.size_extract]; omega
    have hmz : (catB (midL (t % m) p.2)).size ≤ 100000 := by omega
    rw [rot_set hm hl, cat_cons] at hh
    generalize catB (midL (t % m) p.2) = mid at *
    have hp := rput_c (t + 1) 8 (by omega) (by omega) (by omega)
    have hlz : (mkB (lowL (t + 1) 8)).size = 8 := by rw [mkB_size, lowL_length]
    have hxr := rxor_c p.1 (mkB (lowL (t + 1) 8)) (by omega) (by omega)
    rw [low8] at hp hxr
    rw [xor_cnt _ _ h1] at hxr
    have hxm : (mid ++ x).size = mid.size + 8 := by rw [sz_app, hx]
    have e1 : wrap64 (((mid ++ x).size : Int) - 8) = (mid.size : Int) := by rw [hxm, wrap_id (by omega) (by omega)]; omega
    have e2 : (mid ++ x).extract mid.size (mid ++ x).size = x := ext_right mid x
    have e3 : (mid ++ x).extract 0 mid.size = mid := ext_left mid x
    refine evu ?_
    simp only [clavigerref13_Unraw.l0]
    rw [e1, Int.toNat_natCast, e2, e3, u64_id (t + 1) (by omega), wrap_id (x := (((t + 1 : Nat) : Int) - 1)) (by omega) (by omega), show (((t + 1 : Nat) : Int) - 1) = (t : Int) by omega]
    refine evp (by omega) (evb hp (evb hxr (evp (by omega) (evp (by omega) (evp (by omega) (evb he (evp (by decide) (evp (by show (8 : Int) ≤ ((b.size : Nat) : Int); omega) (evp (by show (b.extract 8 b.size).size + mid.size ≤ _; rw [hb]; omega) ?_)))))))))
    show Ev (fun k => clavigerref13_Unraw.l0 k key (b.extract 0 8) (b.extract 8 b.size ++ mid) _) _
    rw [hb]
    exact hh
theorem tail_cat {c : ByteArray} {m : Nat} (hs : c.size = 8 * (m + 1)) : catB ((pcs 8 (m + 1) c).drop 1) = c.extract 8 c.size := by
  have h := pcs_all (n := 8) (m := m + 1) (s := c) (by omega)
  rw [pcs_cons, cat_cons] at h
  have hz : (c.extract 0 8).size = 8 := by rw [ByteArray.size_extract]; omega
  have h2 := right_8 (b := catB ((pcs 8 (m + 1) c).drop 1)) hz
  rw [h] at h2
  exact h2.symm
theorem runraw_c (key c : ByteArray) (hc : c.size < 1000000) : Ev (fun k => clavigerref13_Unraw.f k key c) (unX key c) := by
  unfold clavigerref13_Unraw.f unX
  refine evs (rkey_c key) ?_
  by_cases ok : okN key.size
  · rw [if_pos ok]
    refine evp (decide_eq_true ok) ?_
    rw [wrap_id (x := (c.size : Int) - 8) (by omega) (by omega)]
    refine evs (rsteps_c _) ?_
    by_cases hs : stpN ((c.size : Int) - 8) = 0
    · rw [if_pos hs]
      exact evp (by omega) (Ev.now _)
    · rw [if_neg hs]
      refine evn (by omega) (evp (by decide) ?_)
      have hn := stp_ne hs
      obtain ⟨m, hm⟩ : ∃ m, c.size = 8 * (m + 1) := ⟨c.size / 8 - 1, by omega⟩
      have hm1 : c.size / 8 - 1 = m := by omega
      have hz : ((c.extract 8 c.size).size : Int) = ((8 * m : Nat) : Int) := by rw [ByteArray.size_extract]; omega
      have h := runL ok (c.extract 0 8, (pcs 8 (m + 1) c).drop 1) m (ok_1 hm) (by omega) (by omega) (6 * m) (Nat.le_refl _)
      rw [Nat.sub_self, bkW_0, rot_6, tail_cat hm] at h
      rw [hm1]
      refine evp (by omega) (evs (rsteps_c _) ?_)
      rw [hz, steps_8 (by omega) (by omega)]
      exact h
  · rw [if_neg ok]
    exact evn (by simp [ok]) (Ev.now _)
end Go.Proofs.Ytokkhnjedmlbhaa.M
end
section
namespace Go.Proofs.Ytokkhnjedmlbhaa.M
open Go.RowKit Go.Proofs.Ytokkhnjedmlbhaa.Pr Go.Proofs.YtokkhnjedmlbhaaW.PrintWords Go.Proofs.YtokkhnjedmlbhaaW.PrintLast Go.Proofs.YtokkhnjedmlbhaaW.PrintMore Go.Proofs.YtokkhnjedmlbhaaGf
def kekK : List Nat := [0, 1, 2, 3, 4, 5, 6, 7, 8, 9, 10, 11, 12, 13, 14, 15]
theorem st_even {ks : List ByteArray} {t : Nat} {a x y b a' x' : ByteArray} (ht : t % 2 = 0) (h : encT ks (a ++ x) = b) (ha : cntX (b.extract 0 8) (t + 1) = a') (hx : b.extract 8 16 = x') : stW ks 2 t (a, [x, y]) = (a', [x', y]) := by
  subst h ha hx
  unfold stW
  rw [ht]
  rfl
theorem st_odd {ks : List ByteArray} {t : Nat} {a x y b a' y' : ByteArray} (ht : t % 2 = 1) (h : encT ks (a ++ y) = b) (ha : cntX (b.extract 0 8) (t + 1) = a') (hy : b.extract 8 16 = y') : stW ks 2 t (a, [x, y]) = (a', [x, y']) := by
  subst h ha hy
  unfold stW
  rw [ht]
  rfl
theorem run_next {ks : List ByteArray} {n : Nat} {p q r : ByteArray × List ByteArray} {t : Nat} (h : runW ks n p t = q) (hs : stW ks n t q = r) : runW ks n p (t + 1) = r := by
  show stW ks n t (runW ks n p t) = r
  rw [h, hs]
def w0 : ByteArray × List ByteArray := (mkB [166, 166, 166, 166, 166, 166, 166, 166], [mkB [0, 17, 34, 51, 68, 85, 102, 119], mkB [136, 153, 170, 187, 204, 221, 238, 255]])
set_option maxRecDepth 100000 in
theorem wk_0 : encT (ksB (mkB kekK)) (mkB [166, 166, 166, 166, 166, 166, 166, 166, 0, 17, 34, 51, 68, 85, 102, 119]) = mkB [244, 116, 0, 82, 232, 42, 34, 81, 116, 206, 134, 251, 215, 184, 5, 231] := run_enc 4 (by omega) rfl (by decide +kernel) (by decide +kernel) (by decide +kernel) rfl (by decide +kernel)
set_option maxRecDepth 100000 in
theorem wr_1 : runW (ksB (mkB kekK)) 2 w0 1 = (mkB [244, 116, 0, 82, 232, 42, 34, 80], [mkB [116, 206, 134, 251, 215, 184, 5, 231], mkB [136, 153, 170, 187, 204, 221, 238, 255]]) := run_next (t := 0) rfl (st_even (b := mkB [244, 116, 0, 82, 232, 42, 34, 81, 116, 206, 134, 251, 215, 184, 5, 231]) rfl (by rw [mkB_append]; exact wk_0) (by decide +kernel) (by decide +kernel))
set_option maxRecDepth 100000 in
theorem wk_1 : encT (ksB (mkB kekK)) (mkB [244, 116, 0, 82, 232, 42, 34, 80, 136, 153, 170, 187, 204, 221, 238, 255]) = mkB [6, 186, 78, 189, 231, 118, 141, 11, 209, 50, 238, 56, 20, 126, 118, 248] := run_enc 4 (by omega) rfl (by decide +kernel) (by decide +kernel) (by decide +kernel) rfl (by decide +kernel)
set_option maxRecDepth 100000 in
theorem wr_2 : runW (ksB (mkB kekK)) 2 w0 2 = (mkB [6, 186, 78, 189, 231, 118, 141, 9], [mkB [116, 206, 134, 251, 215, 184, 5, 231], mkB [209, 50, 238, 56, 20, 126, 118, 248]]) := run_next (t := 1) wr_1 (st_odd (b := mkB [6, 186, 78, 189, 231, 118, 141, 11, 209, 50, 238, 56, 20, 126, 118, 248]) rfl (by rw [mkB_append]; exact wk_1) (by decide +kernel) (by decide +kernel))
set_option maxRecDepth 100000 in
theorem wk_2 : encT (ksB (mkB kekK)) (mkB [6, 186, 78, 189, 231, 118, 141, 9, 116, 206, 134, 251, 215, 184, 5, 231]) = mkB [252, 150, 118, 39, 190, 147, 114, 8, 254, 110, 141, 103, 156, 93, 52, 96] := run_enc 4 (by omega) rfl (by decide +kernel) (by decide +kernel) (by decide +kernel) rfl (by decide +kernel)
set_option maxRecDepth 100000 in
theorem wr_3 : runW (ksB (mkB kekK)) 2 w0 3 = (mkB [252, 150, 118, 39, 190, 147, 114, 11], [mkB [254, 110, 141, 103, 156, 93, 52, 96], mkB [209, 50, 238, 56, 20, 126, 118, 248]]) := run_next (t := 2) wr_2 (st_even (b := mkB [252, 150, 118, 39, 190, 147, 114, 8, 254, 110, 141, 103, 156, 93, 52, 96]) rfl (by rw [mkB_append]; exact wk_2) (by decide +kernel) (by decide +kernel))
set_option maxRecDepth 100000 in
theorem wk_3 : encT (ksB (mkB kekK)) (mkB [252, 150, 118, 39, 190, 147, 114, 11, 209, 50, 238, 56, 20, 126, 118, 248]) = mkB [88, 150, 234, 144, 40, 238, 32, 59, 7, 178, 189, 151, 62, 54, 166, 252] := run_enc 4 (by omega) rfl (by decide +kernel) (by decide +kernel) (by decide +kernel) rfl (by decide +kernel)
set_option maxRecDepth 100000 in
theorem wr_4 : runW (ksB (mkB kekK)) 2 w0 4 = (mkB [88, 150, 234, 144, 40, 238, 32, 63], [mkB [254, 110, 141, 103, 156, 93, 52, 96], mkB [7, 178, 189, 151, 62, 54, 166, 252]]) := run_next (t := 3) wr_3 (st_odd (b := mkB [88, 150, 234, 144, 40, 238, 32, 59, 7, 178, 189, 151, 62, 54, 166, 252]) rfl (by rw [mkB_append]; exact wk_3) (by decide +kernel) (by decide +kernel))
set_option maxRecDepth 100000 in
theorem wk_4 : encT (ksB (mkB kekK)) (mkB [88, 150, 234, 144, 40, 238, 32, 63, 254, 110, 141, 103, 156, 93, 52, 96]) = mkB [147, 174, 167, 27, 37, 141, 144, 195, 37, 245, 163, 173, 194, 25, 84, 1] := run_enc 4 (by omega) rfl (by decide +kernel) (by decide +kernel) (by decide +kernel) rfl (by decide +kernel)
set_option maxRecDepth 100000 in
theorem wr_5 : runW (ksB (mkB kekK)) 2 w0 5 = (mkB [147, 174, 167, 27, 37, 141, 144, 198], [mkB [37, 245, 163, 173, 194, 25, 84, 1], mkB [7, 178, 189, 151, 62, 54, 166, 252]]) := run_next (t := 4) wr_4 (st_even (b := mkB [147, 174, 167, 27, 37, 141, 144, 195, 37, 245, 163, 173, 194, 25, 84, 1]) rfl (by rw [mkB_append]; exact wk_4) (by decide +kernel) (by decide +kernel))
set_option maxRecDepth 100000 in
theorem wk_5 : encT (ksB (mkB kekK)) (mkB [147, 174, 167, 27, 37, 141, 144, 198, 7, 178, 189, 151, 62, 54, 166, 252]) = mkB [227, 238, 152, 99, 68, 216, 120, 247, 241, 72, 99, 187, 30, 156, 169, 10] := run_enc 4 (by omega) rfl (by decide +kernel) (by decide +kernel) (by decide +kernel) rfl (by decide +kernel)
set_option maxRecDepth 100000 in
theorem wr_6 : runW (ksB (mkB kekK)) 2 w0 6 = (mkB [227, 238, 152, 99, 68, 216, 120, 241], [mkB [37, 245, 163, 173, 194, 25, 84, 1], mkB [241, 72, 99, 187, 30, 156, 169, 10]]) := run_next (t := 5) wr_5 (st_odd (b := mkB [227, 238, 152, 99, 68, 216, 120, 247, 241, 72, 99, 187, 30, 156, 169, 10]) rfl (by rw [mkB_append]; exact wk_5) (by decide +kernel) (by decide +kernel))
set_option maxRecDepth 100000 in
theorem wk_6 : encT (ksB (mkB kekK)) (mkB [227, 238, 152, 99, 68, 216, 120, 241, 37, 245, 163, 173, 194, 25, 84, 1]) = mkB [43, 252, 33, 178, 194, 14, 64, 6, 181, 86, 211, 94, 216, 206, 240, 82] := run_enc 4 (by omega) rfl (by decide +kernel) (by decide +kernel) (by decide +kernel) rfl (by decide +kernel)
set_option maxRecDepth 100000 in
theorem wr_7 : runW (ksB (mkB kekK)) 2 w0 7 = (mkB [43, 252, 33, 178, 194, 14, 64, 1], [mkB [181, 86, 211, 94, 216, 206, 240, 82], mkB [241, 72, 99, 187, 30, 156, 169, 10]]) := run_next (t := 6) wr_6 (st_even (b := mkB [43, 252, 33, 178, 194, 14, 64, 6, 181, 86, 211, 94, 216, 206, 240, 82]) rfl (by rw [mkB_append]; exact wk_6) (by decide +kernel) (by decide +kernel))
set_option maxRecDepth 100000 in
theorem wk_7 : encT (ksB (mkB kekK)) (mkB [43, 252, 33, 178, 194, 14, 64, 1, 241, 72, 99, 187, 30, 156, 169, 10]) = mkB [75, 232, 206, 153, 192, 164, 58, 125, 100, 186, 229, 129, 141, 5, 112, 187] := run_enc 4 (by omega) rfl (by decide +kernel) (by decide +kernel) (by decide +kernel) rfl (by decide +kernel)
set_option maxRecDepth 100000 in
theorem wr_8 : runW (ksB (mkB kekK)) 2 w0 8 = (mkB [75, 232, 206, 153, 192, 164, 58, 117], [mkB [181, 86, 211, 94, 216, 206, 240, 82], mkB [100, 186, 229, 129, 141, 5, 112, 187]]) := run_next (t := 7) wr_7 (st_odd (b := mkB [75, 232, 206, 153, 192, 164, 58, 125, 100, 186, 229, 129, 141, 5, 112, 187]) rfl (by rw [mkB_append]; exact wk_7) (by decide +kernel) (by decide +kernel))
set_option maxRecDepth 100000 in
theorem wk_8 : encT (ksB (mkB kekK)) (mkB [75, 232, 206, 153, 192, 164, 58, 117, 181, 86, 211, 94, 216, 206, 240, 82]) = mkB [235, 225, 206, 145, 6, 112, 36, 243, 190, 17, 75, 52, 62, 176, 9, 129] := run_enc 4 (by omega) rfl (by decide +kernel) (by decide +kernel) (by decide +kernel) rfl (by decide +kernel)
set_option maxRecDepth 100000 in
theorem wr_9 : runW (ksB (mkB kekK)) 2 w0 9 = (mkB [235, 225, 206, 145, 6, 112, 36, 250], [mkB [190, 17, 75, 52, 62, 176, 9, 129], mkB [100, 186, 229, 129, 141, 5, 112, 187]]) := run_next (t := 8) wr_8 (st_even (b := mkB [235, 225, 206, 145, 6, 112, 36, 243, 190, 17, 75, 52, 62, 176, 9, 129]) rfl (by rw [mkB_append]; exact wk_8) (by decide +kernel) (by decide +kernel))
set_option maxRecDepth 100000 in
theorem wk_9 : encT (ksB (mkB kekK)) (mkB [235, 225, 206, 145, 6, 112, 36, 250, 100, 186, 229, 129, 141, 5, 112, 187]) = mkB [90, 156, 123, 31, 91, 28, 59, 70, 79, 211, 210, 183, 215, 79, 187, 66] := run_enc 4 (by omega) rfl (by decide +kernel) (by decide +kernel) (by decide +kernel) rfl (by decide +kernel)
set_option maxRecDepth 100000 in
theorem wr_10 : runW (ksB (mkB kekK)) 2 w0 10 = (mkB [90, 156, 123, 31, 91, 28, 59, 76], [mkB [190, 17, 75, 52, 62, 176, 9, 129], mkB [79, 211, 210, 183, 215, 79, 187, 66]]) := run_next (t := 9) wr_9 (st_odd (b := mkB [90, 156, 123, 31, 91, 28, 59, 70, 79, 211, 210, 183, 215, 79, 187, 66]) rfl (by rw [mkB_append]; exact wk_9) (by decide +kernel) (by decide +kernel))
set_option maxRecDepth 100000 in
theorem wk_10 : encT (ksB (mkB kekK)) (mkB [90, 156, 123, 31, 91, 28, 59, 76, 190, 17, 75, 52, 62, 176, 9, 129]) = mkB [147, 183, 25, 103, 238, 212, 31, 252, 174, 243, 75, 216, 251, 90, 123, 130] := run_enc 4 (by omega) rfl (by decide +kernel) (by decide +kernel) (by decide +kernel) rfl (by decide +kernel)
set_option maxRecDepth 100000 in
theorem wr_11 : runW (ksB (mkB kekK)) 2 w0 11 = (mkB [147, 183, 25, 103, 238, 212, 31, 247], [mkB [174, 243, 75, 216, 251, 90, 123, 130], mkB [79, 211, 210, 183, 215, 79, 187, 66]]) := run_next (t := 10) wr_10 (st_even (b := mkB [147, 183, 25, 103, 238, 212, 31, 252, 174, 243, 75, 216, 251, 90, 123, 130]) rfl (by rw [mkB_append]; exact wk_10) (by decide +kernel) (by decide +kernel))
set_option maxRecDepth 100000 in
theorem wk_11 : encT (ksB (mkB kekK)) (mkB [147, 183, 25, 103, 238, 212, 31, 247, 79, 211, 210, 183, 215, 79, 187, 66]) = mkB [31, 166, 139, 10, 129, 18, 180, 75, 157, 62, 134, 35, 113, 210, 207, 229] := run_enc 4 (by omega) rfl (by decide +kernel) (by decide +kernel) (by decide +kernel) rfl (by decide +kernel)
set_option maxRecDepth 100000 in
theorem wr_12 : runW (ksB (mkB kekK)) 2 w0 12 = (mkB [31, 166, 139, 10, 129, 18, 180, 71], [mkB [174, 243, 75, 216, 251, 90, 123, 130], mkB [157, 62, 134, 35, 113, 210, 207, 229]]) := run_next (t := 11) wr_11 (st_odd (b := mkB [31, 166, 139, 10, 129, 18, 180, 75, 157, 62, 134, 35, 113, 210, 207, 229]) rfl (by rw [mkB_append]; exact wk_11) (by decide +kernel) (by decide +kernel))
end Go.Proofs.Ytokkhnjedmlbhaa.M
end
section
namespace Go.Proofs.Ytokkhnjedmlbhaa.M
open Go.RowKit Go.Proofs.Ytokkhnjedmlbhaa.Pr Go.Proofs.YtokkhnjedmlbhaaW.PrintWords Go.Proofs.YtokkhnjedmlbhaaW.PrintLast Go.Proofs.YtokkhnjedmlbhaaW.PrintMore Go.Proofs.YtokkhnjedmlbhaaGf
set_option linter.unusedSimpArgs false
def a6 : ByteArray := ⟨#[166, 166, 166, 166, 166, 166, 166, 166]⟩
theorem a6_size : a6.size = 8 := rfl
def uwX (key c : ByteArray) : ByteArray × Int := if (unX key c).2.2 = 0 then if (unX key c).1 = a6 then ((unX key c).2.1, 0) else (⟨#[]⟩, 7) else (⟨#[]⟩, (unX key c).2.2)
theorem uw_ok {key c : ByteArray} {m : Nat} (ok : okN key.size) (hc : c.size = 8 * (m + 1)) (h2 : 2 ≤ m) : okW m (uwT (ksB key) c m) := backW_ok (ks_facts ok).2.1 (by omega) _ (ok_1 hc)
theorem un_one {key c : ByteArray} (ok : okN key.size) {m : Nat} (hc : c.size = 8 * (m + 1)) (h2 : 2 ≤ m) (h3 : m ≤ 8192) : unX key c = ((uwT (ksB key) c m).1, catB (uwT (ksB key) c m).2, 0) := by
  unfold unX
  rw [if_pos ok, show ((c.size : Int) - 8) = ((8 * m : Nat) : Int) by omega, steps_8 h2 h3, if_neg (by omega), show c.size / 8 - 1 = m by omega]
/-- What unwrapping a text comes to. -/
theorem un_cases (key c : ByteArray) : (unX key c = (⟨#[]⟩, ⟨#[]⟩, 2) ∧ ¬ okN key.size) ∨ (unX key c = (⟨#[]⟩, ⟨#[]⟩, 4) ∧ okN key.size) ∨ (okN key.size ∧ ∃ m, c.size = 8 * (m + 1) ∧ 2 ≤ m ∧ m ≤ 8192) := by
  by_cases ok : okN key.size
  · by_cases hs : stpN ((c.size : Int) - 8) = 0
    · exact .inr (.inl ⟨by unfold unX; rw [if_pos ok, if_pos hs], ok⟩)
    · have hn := stp_ne hs
      exact .inr (.inr ⟨ok, c.size / 8 - 1, by omega, by omega, by omega⟩)
  · exact .inl ⟨by unfold unX; rw [if_neg ok], ok⟩
theorem raw_cases (key iv s : ByteArray) : (rawX key iv s = (⟨#[]⟩, 2)) ∨ (rawX key iv s = (⟨#[]⟩, 1)) ∨ (rawX key iv s = (⟨#[]⟩, 4)) ∨ (okN key.size ∧ iv.size = 8 ∧ ∃ m, s.size = 8 * m ∧ 2 ≤ m ∧ m ≤ 8192) := by
  unfold rawX
  by_cases ok : okN key.size
  · rw [if_pos ok]
    by_cases hi : iv.size = 8
    · rw [if_pos hi]
      by_cases hs : stpN (s.size : Int) = 0
      · exact .inr (.inr (.inl (if_pos hs)))
      · have hn := stp_ne hs
        exact .inr (.inr (.inr ⟨ok, hi, s.size / 8, by omega, by omega, by omega⟩))
    · exact .inr (.inl (if_neg hi))
  · exact .inl (if_neg ok)
theorem raw_one {key iv s : ByteArray} (ok : okN key.size) (hi : iv.size = 8) {m : Nat} (hs : s.size = 8 * m) (h2 : 2 ≤ m) (h3 : m ≤ 8192) : rawX key iv s = (rawT (ksB key) iv s m, 0) := by
  unfold rawX
  rw [if_pos ok, if_pos hi, hs, steps_8 h2 h3, if_neg (by omega), Nat.mul_div_cancel_left _ (by omega)]
/-- A list of pieces of eight bytes, joined and cut again. -/
theorem pcs_back {l : List ByteArray} (h : allS 8 l) : pcs 8 l.length (catB l) = l := by
  apply List.ext_getElem
  · rw [pcs_length]
  · intro i h1 h2
    have := cat_get 8 l i l[i] h (List.getElem?_eq_getElem h2)
    simp only [pcs, List.getElem_map, List.getElem_range]
    exact this
theorem raw_size {ks : List ByteArray} (hk : all16 ks) {iv s : ByteArray} (hi : iv.size = 8) {m : Nat} (hs : s.size = 8 * m) (h2 : 2 ≤ m) : (rawT ks iv s m).size = 8 * (m + 1) := by
  have ho := runW_ok hk (n := m) (by omega) (ok_0 hi hs) (6 * m)
  unfold rawT
  rw [sz_app, ho.1, cat_size 8 _ ho.2.2, ho.2.1]
  omega
theorem un_raw {ks : List ByteArray} (hk : all16 ks) {iv s : ByteArray} (hi : iv.size = 8) {m : Nat} (hs : s.size = 8 * m) (h2 : 2 ≤ m) (h3 : m ≤ 8192) : uwT ks (rawT ks iv s m) m = (iv, pcs 8 m s) := by
  have h0 := ok_0 hi hs
  have ho := runW_ok hk (n := m) (by omega) h0 (6 * m)
  unfold uwT rawT
  have e1 : ((runW ks m (iv, pcs 8 m s) (6 * m)).1 ++ catB (runW ks m (iv, pcs 8 m s) (6 * m)).2).extract 0 8 = (runW ks m (iv, pcs 8 m s) (6 * m)).1 := left_8 ho.1
  have e2 := pcs_back (l := (runW ks m (iv, pcs 8 m s) (6 * m)).1 :: (runW ks m (iv, pcs 8 m s) (6 * m)).2) (fun x hx => by
    rcases List.mem_cons.1 hx with rfl | hx
    · exact ho.1
    · exact ho.2.2 x hx)
  rw [List.length_cons, ho.2.1, cat_cons] at e2
  rw [e1, e2]
  exact back_run hk (by omega) h0 (6 * m) (by omega)
theorem raw_un {ks : List ByteArray} (hk : all16 ks) {c : ByteArray} {m : Nat} (hc : c.size = 8 * (m + 1)) (h2 : 2 ≤ m) (h3 : m ≤ 8192) : rawT ks (uwT ks c m).1 (catB (uwT ks c m).2) m = c := by
  have ho : okW m (uwT ks c m) := backW_ok hk (by omega) _ (ok_1 hc)
  have e := pcs_back ho.2.2
  rw [ho.2.1] at e
  unfold rawT
  rw [e]
  have hr := run_back hk (n := m) (by omega) (6 * m) (p := (c.extract 0 8, (pcs 8 (m + 1) c).drop 1)) (by omega) (ok_1 hc)
  have hu : uwT ks c m = backW ks m (c.extract 0 8, (pcs 8 (m + 1) c).drop 1) (6 * m) := rfl
  rw [show ((uwT ks c m).1, (uwT ks c m).2) = uwT ks c m from rfl, hu, hr]
  show c.extract 0 8 ++ catB ((pcs 8 (m + 1) c).drop 1) = c
  have h := pcs_all (n := 8) (m := m + 1) (s := c) (by omega)
  rw [pcs_cons, cat_cons] at h
  exact h
theorem wrap_c (key s : ByteArray) : wrap_Wrap.f key s = some (rawX key a6 s) := rfl
theorem un_small (key c : ByteArray) : (unX key c).1.size ≤ 8 := by
  rcases un_cases key c with ⟨h, _⟩ | ⟨h, _⟩ | ⟨ok, m, hc, h2, h3⟩
  · rw [h]; decide
  · rw [h]; decide
  · rw [un_one ok hc h2 h3]
    have := (uw_ok ok hc h2).1
    show (uwT (ksB key) c m).1.size ≤ 8
    omega
theorem uwrap_c (key c : ByteArray) (hc : c.size < 1000000) : wrap_Unwrap.f key c = some (uwX key c) := by
  unfold wrap_Unwrap.f uwX wrap_Unraw.f
  rw [if_pos hc]
  have hsm := un_small key c
  generalize unX key c = u at *
  simp only [Option.bind_some]
  by_cases h : u.2.2 = 0
  · rw [if_pos h, if_pos h]
    show (equal_Scan.f u.1 a6).bind _ = _
    rw [scan_c _ _ (by omega) (by decide)]
    simp only [Option.bind_some]
    by_cases e : u.1 = a6
    · rw [if_pos e, if_pos (decide_eq_true e)]
    · rw [if_neg e, if_neg (by simp [e])]
  · rw [if_neg h, if_neg h]
theorem rwrap_c (key s : ByteArray) : Ev (fun k => clavigerref13_Wrap.f k key s) (rawX key a6 s) := by
  unfold clavigerref13_Wrap.f
  refine evs (a := a6) rfl (evb (rraw_c key a6 s) ?_)
  exact Ev.now _
theorem ruwrap_c (key c : ByteArray) (hc : c.size < 1000000) : Ev (fun k => clavigerref13_Unwrap.f k key c) (uwX key c) := by
  unfold clavigerref13_Unwrap.f
  refine evb (runraw_c key c hc) ?_
  by_cases h : (unX key c).2.2 = 0
  · refine evp h (evs (a := a6) rfl ?_)
    by_cases e : (unX key c).1 = a6
    · rw [show uwX key c = ((unX key c).2.1, 0) by unfold uwX; rw [if_pos h, if_pos e]]
      exact evp (congrArg ByteArray.toList e) (Ev.now _)
    · rw [show uwX key c = (⟨#[]⟩, 7) by unfold uwX; rw [if_pos h, if_neg e]]
      exact evn (fun h => e ((tl_iff _ _).1 h)) (Ev.now _)
  · rw [show uwX key c = (⟨#[]⟩, (unX key c).2.2) by unfold uwX; rw [if_neg h]]
    exact evn h (Ev.now _)
set_option maxRecDepth 100000 in
theorem awake13 : clavigerlaw13_awake.f = some true := by
  unfold clavigerlaw13_awake.f
  have hK : (⟨#[0, 1, 2, 3, 4, 5, 6, 7, 8, 9, 10, 11, 12, 13, 14, 15]⟩ : ByteArray) = mkB kekK := rfl
  have hp : (a6, pcs 8 2 (⟨#[0, 17, 34, 51, 68, 85, 102, 119, 136, 153, 170, 187, 204, 221, 238, 255]⟩ : ByteArray)) = w0 := by
    unfold w0
    rw [show pcs 8 2 (⟨#[0, 17, 34, 51, 68, 85, 102, 119, 136, 153, 170, 187, 204, 221, 238, 255]⟩ : ByteArray) = [mkB [0, 17, 34, 51, 68, 85, 102, 119], mkB [136, 153, 170, 187, 204, 221, 238, 255]] by decide +kernel]
    rfl
  have h : rawX (⟨#[0, 1, 2, 3, 4, 5, 6, 7, 8, 9, 10, 11, 12, 13, 14, 15]⟩ : ByteArray) a6 (⟨#[0, 17, 34, 51, 68, 85, 102, 119, 136, 153, 170, 187, 204, 221, 238, 255]⟩ : ByteArray) = (mkB [31, 166, 139, 10, 129, 18, 180, 71, 174, 243, 75, 216, 251, 90, 123, 130, 157, 62, 134, 35, 113, 210, 207, 229], 0) := by
    rw [raw_one (m := 2) (.inl rfl) rfl rfl (by omega) (by omega), hK]
    unfold rawT
    rw [hp, wr_12]
    congr 1
  rw [wrap_c, h]
  simp only [Option.bind_some]
  rw [if_pos (by decide +kernel), if_pos True.intro]
  decide +kernel
end Go.Proofs.Ytokkhnjedmlbhaa.M
end
