-- written by the session's program wip/hp.py over the kit's print; Lean checks it
import Derived.Test.YtokkhnjedmlbhaaZPrg01x
import Derived.Test.YtokkhnjedmlbhaaZPrg38
import Derived.Test.YtokkhnjedmlbhaaZCmacP
namespace Go.Proofs.Ytokkhnjedmlbhaa.Pr
open Go.RowKit Go.Proofs.YtokkhnjedmlbhaaW.PrintWords Go.Proofs.YtokkhnjedmlbhaaW.PrintLast Go.Proofs.YtokkhnjedmlbhaaW.PrintMore
attribute [local go_sem] max2_int min2_int max_two min_two max_three min_three max_four min_four   -- for this text's walks alone
set_option linter.unusedVariables false
set_option linter.unusedSimpArgs false

def clavigerlaw38_OpenTells.j0 : Nat → ByteArray → ByteArray → ByteArray → ByteArray → Bool → Option (Bool)
 | 0, _, _, _, _, _ => none
 | k + 1, x0, x1, x2, x3, x30 => if x30 = true then ((clavigerlaw38_awake.f k).bind fun t1 => (some t1)) else ((open_Open.f k x0 x1 x2 x3).bind fun bt2 => ((clavigerref38_Open.f k x0 x1 x2 x3).bind fun bt3 => (if bt2.1.toList = bt3.1.toList then (if bt2.2 = bt3.2 then ((open_Right.f k x0 x1 x2 x3).bind fun t4 => (if (t4 == (bt3.2 == 0)) = true then ((clavigerlaw38_awake.f k).bind fun t5 => (some t5)) else (some false))) else (some false)) else (some false))))
def clavigerlaw38_OpenTells.f (k : Nat) (a0 : ByteArray) (a1 : ByteArray) (a2 : ByteArray) (a3 : ByteArray) : Option (Bool) := if (a0.size : Int) > 100 then (clavigerlaw38_OpenTells.j0 k a0 a1 a2 a3 true) else (if (a1.size : Int) > 300 then (clavigerlaw38_OpenTells.j0 k a0 a1 a2 a3 true) else (if (a2.size : Int) > 160 then (clavigerlaw38_OpenTells.j0 k a0 a1 a2 a3 true) else (clavigerlaw38_OpenTells.j0 k a0 a1 a2 a3 (decide ((a3.size : Int) > 100)))))
theorem clavigerlaw38_OpenTells.mono_l : ∀ k, (∀ y6 y7 y8 y9 y10, LeO (clavigerlaw38_OpenTells.j0 k y6 y7 y8 y9 y10) (clavigerlaw38_OpenTells.j0 (k + 1) y6 y7 y8 y9 y10))
 | 0 => fun _ _ _ _ _ r h => by simp [clavigerlaw38_OpenTells.j0] at h
 | k + 1 => by
  have ih0 := clavigerlaw38_OpenTells.mono_l k
  ·intro y6 y7 y8 y9 y10
   unfold clavigerlaw38_OpenTells.j0
   repeat' first
   | (with_reducible exact ih0 _ _ _ _ _)
   | (with_reducible exact clavigerlaw38_awake.mono _)
   | (with_reducible exact clavigerref38_Open.mono _ _ _ _ _)
   | (with_reducible exact open_Open.mono _ _ _ _ _)
   | (with_reducible exact open_Right.mono _ _ _ _ _)
   | (with_reducible exact LeO.refl _)
   | (with_reducible exact LeO.none _)
   | (with_reducible refine LeO.ite ?_ ?_)
   | (with_reducible refine LeO.bind ?_ (fun _ => ?_))
theorem clavigerlaw38_OpenTells.mono : ∀ a0 a1 a2 a3 k, LeO (clavigerlaw38_OpenTells.f k a0 a1 a2 a3) (clavigerlaw38_OpenTells.f (k + 1) a0 a1 a2 a3) := by
 intro a0 a1 a2 a3 k
 have ih0 := clavigerlaw38_OpenTells.mono_l k
 unfold clavigerlaw38_OpenTells.f
 repeat' first
   | (with_reducible exact ih0 _ _ _ _ _)
   | (with_reducible exact clavigerlaw38_awake.mono _)
   | (with_reducible exact clavigerref38_Open.mono _ _ _ _ _)
   | (with_reducible exact open_Open.mono _ _ _ _ _)
   | (with_reducible exact open_Right.mono _ _ _ _ _)
   | (with_reducible exact LeO.refl _)
   | (with_reducible exact LeO.none _)
   | (with_reducible refine LeO.ite ?_ ?_)
   | (with_reducible refine LeO.bind ?_ (fun _ => ?_))
set_option maxHeartbeats 8000000 in
set_option maxRecDepth 100000 in
theorem clavigerlaw38_OpenTells.calls (k : Nat) (a0 : ByteArray) (a1 : ByteArray) (a2 : ByteArray) (a3 : ByteArray) (r : Bool) (w : World) (h : clavigerlaw38_OpenTells.f k a0 a1 a2 a3 = some r) :
  Calls Try.prog 36 #[.string a0, .string a1, .string a2, .string a3] w fun e w' => e = .returned (.bool r) ∧ Below w.heap.size w w' := by
 have HB := Aside0.mk (Below.refl w.heap.size w)
 have H : (if (a0.size : Int) > 100 then (clavigerlaw38_OpenTells.j0 k a0 a1 a2 a3 true) else (if (a1.size : Int) > 300 then (clavigerlaw38_OpenTells.j0 k a0 a1 a2 a3 true) else (if (a2.size : Int) > 160 then (clavigerlaw38_OpenTells.j0 k a0 a1 a2 a3 true) else (clavigerlaw38_OpenTells.j0 k a0 a1 a2 a3 (decide ((a3.size : Int) > 100)))))) = some r := h
 clear h
 have HC5 := Aside0.mk H
 clear H
 go_enter Try.func36, Try.ntmps36
 go_upto_region 1 with (fail)
 go_cut [30] (fun v30 wc => ∃ (kq : Nat) (x30_4 : Bool), v30 = .bool x30_4 ∧ Aside0 (clavigerlaw38_OpenTells.j0 kq a0 a1 a2 a3 x30_4 = some r) ∧ Aside0 (kq ≤ k) ∧ Aside0 (Below w.heap.size w wc))
 case first =>
  have H := HC5.out
  clear HC5
  by_cases c6 : (a0.size : Int) > 100
  ·rw [if_pos c6] at H
   have c6b0 : decide (100 < (a0.size : Int)) = true := decide_eq_true c6
   have c6b1 : decide (100 < a0.size) = true := decide_eq_true (by omega)
   clear c6
   (first | rw [c6b0] | (simp only [i64_w, i32_w]; rw [c6b0]) | skip)
   have H' := Aside0.mk H
   clear H
   go_wp2
   go_meet
   case rel => exact ⟨_, (true), (by first | rfl | (simp; done) | (simp [*]; done)), H', ⟨by first | omega | exact Nat.le_refl _⟩, ⟨by repeat first | with_reducible (first | exact HB.out | apply bA | apply bN | apply bD) | exact HB.out⟩⟩
  ·rw [if_neg c6] at H
   have c6b0 : decide (100 < (a0.size : Int)) = false := decide_eq_false c6
   have c6b1 : decide (100 < a0.size) = false := decide_eq_false (by omega)
   clear c6
   (first | rw [c6b0] | (simp only [i64_w, i32_w]; rw [c6b0]) | skip)
   by_cases c7 : (a1.size : Int) > 300
   ·rw [if_pos c7] at H
    have c7b0 : decide (300 < (a1.size : Int)) = true := decide_eq_true c7
    have c7b1 : decide (300 < a1.size) = true := decide_eq_true (by omega)
    clear c7
    have H' := Aside0.mk H
    clear H
    go_wp2
    go_meet
    case rel => exact ⟨_, (true), (by first | rfl | (simp; done) | (simp [*]; done)), H', ⟨by first | omega | exact Nat.le_refl _⟩, ⟨by repeat first | with_reducible (first | exact HB.out | apply bA | apply bN | apply bD) | exact HB.out⟩⟩
   ·rw [if_neg c7] at H
    have c7b0 : decide (300 < (a1.size : Int)) = false := decide_eq_false c7
    have c7b1 : decide (300 < a1.size) = false := decide_eq_false (by omega)
    clear c7
    by_cases c8 : (a2.size : Int) > 160
    ·rw [if_pos c8] at H
     have c8b0 : decide (160 < (a2.size : Int)) = true := decide_eq_true c8
     have c8b1 : decide (160 < a2.size) = true := decide_eq_true (by omega)
     clear c8
     have H' := Aside0.mk H
     clear H
     go_wp2
     go_meet
     case rel => exact ⟨_, (true), (by first | rfl | (simp; done) | (simp [*]; done)), H', ⟨by first | omega | exact Nat.le_refl _⟩, ⟨by repeat first | with_reducible (first | exact HB.out | apply bA | apply bN | apply bD) | exact HB.out⟩⟩
    ·rw [if_neg c8] at H
     have c8b0 : decide (160 < (a2.size : Int)) = false := decide_eq_false c8
     have c8b1 : decide (160 < a2.size) = false := decide_eq_false (by omega)
     clear c8
     have H' := Aside0.mk H
     clear H
     go_wp2
     go_meet
     case rel => exact ⟨_, (decide ((a3.size : Int) > 100)), (by first | rfl | (simp; done) | (simp [*]; done)), H', ⟨by first | omega | exact Nat.le_refl _⟩, ⟨by repeat first | with_reducible (first | exact HB.out | apply bA | apply bN | apply bD) | exact HB.out⟩⟩
 case rest =>
  clear HC5
  try clear p2
  try clear c3
  try clear c6
  try clear c6b0
  try clear c6b1
  try clear c7
  try clear c7b0
  try clear c7b1
  try clear c8
  try clear c8b0
  try clear c8b1
  obtain ⟨kq, x30_4, rfl, HA, HJ4, HB⟩ := hcut
  cases kq with
  | zero => exact absurd HA.out (by simp [clavigerlaw38_OpenTells.j0])
  | succ kj4 =>
   have H := HA.out
   clear HA
   simp only [clavigerlaw38_OpenTells.j0] at H
   by_cases c9 : x30_4 = true
   ·subst c9
    have H1 : ((clavigerlaw38_awake.f kj4).bind fun t1 => (some t1)) = some r := by rw [if_pos rfl] at H; exact H
    clear H
    have H := H1
    clear H1
    replace H := Option.bind_eq_some_iff.mp H
    obtain ⟨t1, A100, H⟩ := H
    replace H : (some t1) = some r := H
    have A10 := Aside0.mk A100
    clear A100
    obtain rfl := Option.some.inj H
    go_wp2_with (first | ((with_reducible refine gate_callee (f := 59) rfl ?_); refine goesL_ (some 31) rfl rfl Try.func59 (by kernel_rfl) rfl #[] rfl (by (try simp only [lT, lC, lN]); first | done | rfl) ?_; (with_reducible refine (clavigerlaw38_awake.calls kj4  t1 _ A10.out).mono ?_); rintro e w11 ⟨rfl, hb⟩; refine ⟨_, rfl, ?_⟩; have n0_ := Aside0.mk (below_step (by repeat first | with_reducible (first | exact HB.out | apply bA | apply bN | apply bD) | exact HB.out) hb); clear HB; have HB := n0_; clear n0_; (try clear hb); (try clear hb2); (try clear hk); (try clear hi)))
    go_ret
    exact ⟨by first | rfl | (simp [*, errW_none, errW_some] <;> rfl), by repeat first | with_reducible (first | exact HB.out | apply bA | apply bN | apply bD) | exact HB.out⟩
   ·replace c9 := Bool.eq_false_iff.mpr c9
    subst c9
    have H1 : ((open_Open.f kj4 a0 a1 a2 a3).bind fun bt2 => ((clavigerref38_Open.f kj4 a0 a1 a2 a3).bind fun bt3 => (if bt2.1.toList = bt3.1.toList then (if bt2.2 = bt3.2 then ((open_Right.f kj4 a0 a1 a2 a3).bind fun t4 => (if (t4 == (bt3.2 == 0)) = true then ((clavigerlaw38_awake.f kj4).bind fun t5 => (some t5)) else (some false))) else (some false)) else (some false)))) = some r := by rw [if_neg (show ¬ (false = true) by decide)] at H; exact H
    clear H
    have H := H1
    clear H1
    replace H := Option.bind_eq_some_iff.mp H
    obtain ⟨⟨t2, t11⟩, A120, H⟩ := H
    try dsimp only at H
    have A12 := Aside0.mk A120
    clear A120
    replace H := Option.bind_eq_some_iff.mp H
    obtain ⟨⟨t3, t12⟩, A130, H⟩ := H
    try dsimp only at H
    have A13 := Aside0.mk A130
    clear A130
    by_cases c14 : t2.toList = t3.toList
    ·rw [if_pos c14] at H
     have c14b0 : (t2.toList == t3.toList) = true := beq_iff_eq.mpr c14
     have c14b1 : (t2.toList != t3.toList) = false := bne_eq_false_iff_eq.mpr c14
     clear c14
     by_cases c15 : t11 = t12
     ·rw [if_pos c15] at H
      have c15b0 : (t11 == t12) = true := beq_iff_eq.mpr c15
      have c15b1 : (t11 != t12) = false := bne_eq_false_iff_eq.mpr c15
      clear c15
      replace H := Option.bind_eq_some_iff.mp H
      obtain ⟨t4, A160, H⟩ := H
      try dsimp only at H
      have A16 := Aside0.mk A160
      clear A160
      by_cases c17 : (t4 == (t12 == 0)) = true
      ·rw [if_pos c17] at H
       have c17b0 : (t4 == (t12 == 0)) = true := c17
       (try (have c17b1 : decide (t4 = (t12 == 0)) = true := by simpa using c17))
       (try (have c17b2 : (t4 == (t12 == 0)) = true := by simpa using c17))
       clear c17
       replace H := Option.bind_eq_some_iff.mp H
       obtain ⟨t5, A180, H⟩ := H
       replace H : (some t5) = some r := H
       have A18 := Aside0.mk A180
       clear A180
       obtain rfl := Option.some.inj H
       go_wp2_with (first | ((with_reducible refine gate_callee (f := 61) rfl ?_); refine goesL_ (some 37) rfl rfl Try.func61 (by kernel_rfl) rfl #[.string a0, .string a1, .string a2, .string a3] rfl (by (try simp only [lT, lC, lN]); first | done | rfl) ?_; (with_reducible refine (open_Open.calls kj4 a0 a1 a2 a3 t2 t11 _ A12.out).mono ?_); rintro e w19 ⟨rfl, hb⟩; refine ⟨_, rfl, ?_⟩; have n0_ := Aside0.mk (below_step (by repeat first | with_reducible (first | exact HB.out | apply bA | apply bN | apply bD) | exact HB.out) hb); clear HB; have HB := n0_; clear n0_; (try clear hb); (try clear hb2); (try clear hk); (try clear hi)) | ((with_reducible refine gate_callee (f := 166) rfl ?_); refine goesL_ (some 45) rfl rfl Try.func166 (by kernel_rfl) rfl #[.string a0, .string a1, .string a2, .string a3] rfl (by (try simp only [lT, lC, lN]); first | done | rfl) ?_; (with_reducible refine (clavigerref38_Open.calls kj4 a0 a1 a2 a3 t3 t12 _ A13.out).mono ?_); rintro e w20 ⟨rfl, hb⟩; refine ⟨_, rfl, ?_⟩; have n0_ := Aside0.mk (below_step (by repeat first | with_reducible (first | exact HB.out | apply bA | apply bN | apply bD) | exact HB.out) hb); clear HB; have HB := n0_; clear n0_; (try clear hb); (try clear hb2); (try clear hk); (try clear hi)) | (go_at_call 167; (with_reducible refine (open_Right.calls kj4 a0 a1 a2 a3 t4 _ A16.out).mono ?_); rintro e w21 ⟨rfl, hb⟩; have n0_ := Aside0.mk (below_step (by repeat first | with_reducible (first | exact HB.out | apply bA | apply bN | apply bD) | exact HB.out) hb); clear HB; have HB := n0_; clear n0_; (try clear hb); (try clear hb2); (try clear hk); (try clear hi)) | (go_at_call 59; (with_reducible refine (clavigerlaw38_awake.calls kj4  t5 _ A18.out).mono ?_); rintro e w22 ⟨rfl, hb⟩; have n0_ := Aside0.mk (below_step (by repeat first | with_reducible (first | exact HB.out | apply bA | apply bN | apply bD) | exact HB.out) hb); clear HB; have HB := n0_; clear n0_; (try clear hb); (try clear hb2); (try clear hk); (try clear hi)))
       go_ret
       exact ⟨by first | rfl | (simp [*, errW_none, errW_some] <;> rfl), by repeat first | with_reducible (first | exact HB.out | apply bA | apply bN | apply bD) | exact HB.out⟩
      ·rw [if_neg c17] at H
       have c17b0 : (t4 == (t12 == 0)) = false := by simpa using c17
       (try (have c17b1 : decide (t4 = (t12 == 0)) = false := by simpa using c17))
       (try (have c17b2 : (t4 == (t12 == 0)) = false := by simpa using c17))
       (try (have c17b3 : ¬ (t4 = (t12 == 0)) := by simpa using c17))
       clear c17
       obtain rfl := Option.some.inj H
       go_wp2_with (first | ((with_reducible refine gate_callee (f := 61) rfl ?_); refine goesL_ (some 37) rfl rfl Try.func61 (by kernel_rfl) rfl #[.string a0, .string a1, .string a2, .string a3] rfl (by (try simp only [lT, lC, lN]); first | done | rfl) ?_; (with_reducible refine (open_Open.calls kj4 a0 a1 a2 a3 t2 t11 _ A12.out).mono ?_); rintro e w23 ⟨rfl, hb⟩; refine ⟨_, rfl, ?_⟩; have n0_ := Aside0.mk (below_step (by repeat first | with_reducible (first | exact HB.out | apply bA | apply bN | apply bD) | exact HB.out) hb); clear HB; have HB := n0_; clear n0_; (try clear hb); (try clear hb2); (try clear hk); (try clear hi)) | ((with_reducible refine gate_callee (f := 166) rfl ?_); refine goesL_ (some 45) rfl rfl Try.func166 (by kernel_rfl) rfl #[.string a0, .string a1, .string a2, .string a3] rfl (by (try simp only [lT, lC, lN]); first | done | rfl) ?_; (with_reducible refine (clavigerref38_Open.calls kj4 a0 a1 a2 a3 t3 t12 _ A13.out).mono ?_); rintro e w24 ⟨rfl, hb⟩; refine ⟨_, rfl, ?_⟩; have n0_ := Aside0.mk (below_step (by repeat first | with_reducible (first | exact HB.out | apply bA | apply bN | apply bD) | exact HB.out) hb); clear HB; have HB := n0_; clear n0_; (try clear hb); (try clear hb2); (try clear hk); (try clear hi)) | (go_at_call 167; (with_reducible refine (open_Right.calls kj4 a0 a1 a2 a3 t4 _ A16.out).mono ?_); rintro e w25 ⟨rfl, hb⟩; have n0_ := Aside0.mk (below_step (by repeat first | with_reducible (first | exact HB.out | apply bA | apply bN | apply bD) | exact HB.out) hb); clear HB; have HB := n0_; clear n0_; (try clear hb); (try clear hb2); (try clear hk); (try clear hi)))
       go_ret
       exact ⟨by first | rfl | (simp [*, errW_none, errW_some] <;> rfl), by repeat first | with_reducible (first | exact HB.out | apply bA | apply bN | apply bD) | exact HB.out⟩
     ·rw [if_neg c15] at H
      have c15b0 : (t11 == t12) = false := beq_eq_false_iff_ne.mpr c15
      have c15b1 : (t11 != t12) = true := bne_iff_ne.mpr c15
      obtain rfl := Option.some.inj H
      go_wp2_with (first | ((with_reducible refine gate_callee (f := 61) rfl ?_); refine goesL_ (some 37) rfl rfl Try.func61 (by kernel_rfl) rfl #[.string a0, .string a1, .string a2, .string a3] rfl (by (try simp only [lT, lC, lN]); first | done | rfl) ?_; (with_reducible refine (open_Open.calls kj4 a0 a1 a2 a3 t2 t11 _ A12.out).mono ?_); rintro e w26 ⟨rfl, hb⟩; refine ⟨_, rfl, ?_⟩; have n0_ := Aside0.mk (below_step (by repeat first | with_reducible (first | exact HB.out | apply bA | apply bN | apply bD) | exact HB.out) hb); clear HB; have HB := n0_; clear n0_; (try clear hb); (try clear hb2); (try clear hk); (try clear hi)) | ((with_reducible refine gate_callee (f := 166) rfl ?_); refine goesL_ (some 45) rfl rfl Try.func166 (by kernel_rfl) rfl #[.string a0, .string a1, .string a2, .string a3] rfl (by (try simp only [lT, lC, lN]); first | done | rfl) ?_; (with_reducible refine (clavigerref38_Open.calls kj4 a0 a1 a2 a3 t3 t12 _ A13.out).mono ?_); rintro e w27 ⟨rfl, hb⟩; refine ⟨_, rfl, ?_⟩; have n0_ := Aside0.mk (below_step (by repeat first | with_reducible (first | exact HB.out | apply bA | apply bN | apply bD) | exact HB.out) hb); clear HB; have HB := n0_; clear n0_; (try clear hb); (try clear hb2); (try clear hk); (try clear hi)))
      go_ret
      exact ⟨by first | rfl | (simp [*, errW_none, errW_some] <;> rfl), by repeat first | with_reducible (first | exact HB.out | apply bA | apply bN | apply bD) | exact HB.out⟩
    ·rw [if_neg c14] at H
     have c14b0 : (t2.toList == t3.toList) = false := beq_eq_false_iff_ne.mpr c14
     have c14b1 : (t2.toList != t3.toList) = true := bne_iff_ne.mpr c14
     obtain rfl := Option.some.inj H
     go_wp2_with (first | ((with_reducible refine gate_callee (f := 61) rfl ?_); refine goesL_ (some 37) rfl rfl Try.func61 (by kernel_rfl) rfl #[.string a0, .string a1, .string a2, .string a3] rfl (by (try simp only [lT, lC, lN]); first | done | rfl) ?_; (with_reducible refine (open_Open.calls kj4 a0 a1 a2 a3 t2 t11 _ A12.out).mono ?_); rintro e w28 ⟨rfl, hb⟩; refine ⟨_, rfl, ?_⟩; have n0_ := Aside0.mk (below_step (by repeat first | with_reducible (first | exact HB.out | apply bA | apply bN | apply bD) | exact HB.out) hb); clear HB; have HB := n0_; clear n0_; (try clear hb); (try clear hb2); (try clear hk); (try clear hi)) | ((with_reducible refine gate_callee (f := 166) rfl ?_); refine goesL_ (some 45) rfl rfl Try.func166 (by kernel_rfl) rfl #[.string a0, .string a1, .string a2, .string a3] rfl (by (try simp only [lT, lC, lN]); first | done | rfl) ?_; (with_reducible refine (clavigerref38_Open.calls kj4 a0 a1 a2 a3 t3 t12 _ A13.out).mono ?_); rintro e w29 ⟨rfl, hb⟩; refine ⟨_, rfl, ?_⟩; have n0_ := Aside0.mk (below_step (by repeat first | with_reducible (first | exact HB.out | apply bA | apply bN | apply bD) | exact HB.out) hb); clear HB; have HB := n0_; clear n0_; (try clear hb); (try clear hb2); (try clear hk); (try clear hi)))
     go_ret
     exact ⟨by first | rfl | (simp [*, errW_none, errW_some] <;> rfl), by repeat first | with_reducible (first | exact HB.out | apply bA | apply bN | apply bD) | exact HB.out⟩

/-- THE ONE PURE STATEMENT of clavigerlaw38_OpenTells: yours. -/
def clavigerlaw38_OpenTells.Pure : Prop := ∀ (a0 : ByteArray) (a1 : ByteArray) (a2 : ByteArray) (a3 : ByteArray), a0.size ≤ 140737488351232 → a1.size ≤ 140737488351232 → a2.size ≤ 140737488351232 → a3.size ≤ 140737488351232 → ∃ k, clavigerlaw38_OpenTells.f k a0 a1 a2 a3 = some true
theorem clavigerlaw38_OpenTells.walk (P : clavigerlaw38_OpenTells.Pure) (a0 : ByteArray) (a1 : ByteArray) (a2 : ByteArray) (a3 : ByteArray) (w : World) (w0 : a0.size ≤ 140737488351232) (w1 : a1.size ≤ 140737488351232) (w2 : a2.size ≤ 140737488351232) (w3 : a3.size ≤ 140737488351232) :
  Calls Try.prog 36 #[.string a0, .string a1, .string a2, .string a3] w fun e w' => e = .returned (.bool true) ∧ Below w.heap.size w w' := by
 obtain ⟨k, h⟩ := P a0 a1 a2 a3 w0 w1 w2 w3
 refine (clavigerlaw38_OpenTells.calls k a0 a1 a2 a3 true w h).mono ?_
 rintro e w' ⟨rfl, hd⟩
 exact ⟨rfl, hd⟩

end Go.Proofs.Ytokkhnjedmlbhaa.Pr
