-- written by the session's program wip/hp.py over the kit's print; Lean checks it
import Derived.Test.YtokkhnjedmlbhaaPrk
import Derived.Test.YtokkhnjedmlbhaaPrg06
namespace Go.Proofs.Ytokkhnjedmlbhaa.Pr
open Go.RowKit Go.Proofs.YtokkhnjedmlbhaaW.PrintWords Go.Proofs.YtokkhnjedmlbhaaW.PrintLast Go.Proofs.YtokkhnjedmlbhaaW.PrintMore
attribute [local go_sem] max2_int min2_int max_two min_two max_three min_three max_four min_four   -- for this text's walks alone
set_option linter.unusedVariables false
set_option linter.unusedSimpArgs false

/-! ### clavigerref02_Unhex: function 176 -/
def clavigerref02_Unhex.l0 : Nat → ByteArray → ByteArray → Int → Option (ByteArray × Bool)
 | 0, _, _, _ => none
 | k + 1, x0, x4, x5 => if x5 < (x0.size : Int) then (if 0 ≤ x5 then ((clavigerref02_Value.f k (bt x0 x5)).bind fun t349 => (if 0 ≤ (wrap64 (x5 + 1)) then (if (wrap64 (x5 + 1)) < (x0.size : Int) then ((clavigerref02_Value.f k (bt x0 (wrap64 (x5 + 1)))).bind fun t350 => (if t349 < 0 then (some ((⟨#[]⟩ : ByteArray), false)) else (if t350 < 0 then (some ((⟨#[]⟩ : ByteArray), false)) else ((some (([(wrap64 ((wrap64 (16 * t349)) + t350)) % 256] : List Int) : List Int)).bind fun y351 => (if x4.size + (strOfNums y351).size ≤ 9223372036854775807 then (clavigerref02_Unhex.l0 k x0 (x4 ++ (strOfNums y351)) (wrap64 (x5 + 2))) else (none)))))) else (none)) else (none))) else (none)) else (some (x4, true))
def clavigerref02_Unhex.f (k : Nat) (a0 : ByteArray) : Option (ByteArray × Bool) := if ((a0.size : Int) % 2) = 0 then (clavigerref02_Unhex.l0 k a0 (⟨#[]⟩ : ByteArray) 0) else (some ((⟨#[]⟩ : ByteArray), false))
theorem clavigerref02_Unhex.mono_l : ∀ k, (∀ y0 y1 y2, LeO (clavigerref02_Unhex.l0 k y0 y1 y2) (clavigerref02_Unhex.l0 (k + 1) y0 y1 y2))
 | 0 => fun _ _ _ r h => by simp [clavigerref02_Unhex.l0] at h
 | k + 1 => by
  have ih0 := clavigerref02_Unhex.mono_l k
  ·intro y0 y1 y2
   unfold clavigerref02_Unhex.l0
   repeat' first
   | (with_reducible exact ih0 _ _ _)
   | (with_reducible exact clavigerref02_Value.mono _ _)
   | (with_reducible exact LeO.refl _)
   | (with_reducible exact LeO.none _)
   | (with_reducible refine LeO.ite ?_ ?_)
   | (with_reducible refine LeO.bind ?_ (fun _ => ?_))
   | exact ih0 _ _ _
   | exact clavigerref02_Value.mono _ _
   | exact LeO.none _
   | refine LeO.ite ?_ ?_
   | refine LeO.bind ?_ (fun _ => ?_)
theorem clavigerref02_Unhex.mono : ∀ a0 k, LeO (clavigerref02_Unhex.f k a0) (clavigerref02_Unhex.f (k + 1) a0) := by
 intro a0 k
 have ih0 := clavigerref02_Unhex.mono_l k
 unfold clavigerref02_Unhex.f
 repeat' first
   | (with_reducible exact ih0 _ _ _)
   | (with_reducible exact clavigerref02_Value.mono _ _)
   | (with_reducible exact LeO.refl _)
   | (with_reducible exact LeO.none _)
   | (with_reducible refine LeO.ite ?_ ?_)
   | (with_reducible refine LeO.bind ?_ (fun _ => ?_))
   | exact ih0 _ _ _
   | exact clavigerref02_Value.mono _ _
   | exact LeO.none _
   | refine LeO.ite ?_ ?_
   | refine LeO.bind ?_ (fun _ => ?_)
set_option maxHeartbeats 8000000 in
set_option maxRecDepth 100000 in
theorem clavigerref02_Unhex.calls (k : Nat) (a0 : ByteArray) (r1 : ByteArray) (r2 : Bool) (w : World) (h : clavigerref02_Unhex.f k a0 = some (r1, r2)) :
  Calls Try.prog 176 #[.string a0] w fun e w' => e = .returned (.tuple #[.string r1, .bool r2]) ∧ Below w.heap.size w w' := by
 have HB := Aside0.mk (Below.refl w.heap.size w)
 have H : (if ((a0.size : Int) % 2) = 0 then (clavigerref02_Unhex.l0 k a0 (⟨#[]⟩ : ByteArray) 0) else (some ((⟨#[]⟩ : ByteArray), false))) = some (r1, r2) := h
 clear h
 by_cases c2 : ((a0.size : Int) % 2) = 0
 ·rw [if_pos c2] at H
  have c2b0 : (((a0.size : Int) % 2) == 0) = true := beq_iff_eq.mpr c2
  have c2b1 : (((a0.size : Int) % 2) != 0) = false := bne_eq_false_iff_eq.mpr c2
  clear c2
  have H' := Aside0.mk H
  clear H
  go_enter Try.func176, Try.ntmps176
  go_wp2
  repeat (go_quiet (fail); try go_wp2)
  go_loopg [4, 5] k (fun kq v4 v5 w' => ∃ (x4_1 : ByteArray) (x5_1 : Int), v4 = .string x4_1 ∧ v5 = .int .i64 x5_1 ∧ Aside0 (clavigerref02_Unhex.l0 kq a0 x4_1 x5_1 = some (r1, r2)) ∧ Aside0 (kq ≤ k) ∧ Aside0 (Below w.heap.size w w'))
  case atStart => exact ⟨((⟨#[]⟩ : ByteArray)), (0), (by first | rfl | (simp; done) | (simp [*]; done)), (by first | rfl | (simp; done) | (simp [*]; done)), H', ⟨Nat.le_refl _⟩, ⟨by repeat (first | (with_reducible first | exact HB.out | apply below_alloc | apply pw_below_drewN | apply below_drew1) | exact HB.out)⟩⟩
  case round =>
   clear H'
   try clear c1
   try clear c2
   try clear c2b0
   try clear c2b1
   try clear p2
   obtain ⟨x4_1, x5_1, rfl, rfl, HA, HK1, HB⟩ := hrel
   cases gk with
   | zero => exact absurd HA.out (by simp [clavigerref02_Unhex.l0])
   | succ k1 =>
    have H := HA.out
    clear HA
    simp only [clavigerref02_Unhex.l0] at H
    by_cases c3 : x5_1 < (a0.size : Int)
    ·rw [if_pos c3] at H
     have c3b0 : decide (x5_1 < (a0.size : Int)) = true := decide_eq_true c3
     clear c3
     by_cases c4 : 0 ≤ x5_1
     ·rw [if_pos c4] at H
      have c4b0 : decide (0 ≤ x5_1) = true := decide_eq_true c4
      clear c4
      replace H := Option.bind_eq_some_iff.mp H
      obtain ⟨t349, A60, H⟩ := H
      replace H : (if 0 ≤ (wrap64 (x5_1 + 1)) then (if (wrap64 (x5_1 + 1)) < (a0.size : Int) then ((clavigerref02_Value.f k1 (bt a0 (wrap64 (x5_1 + 1)))).bind fun t350 => (if t349 < 0 then (some ((⟨#[]⟩ : ByteArray), false)) else (if t350 < 0 then (some ((⟨#[]⟩ : ByteArray), false)) else ((some (([(wrap64 ((wrap64 (16 * t349)) + t350)) % 256] : List Int) : List Int)).bind fun y351 => (if x4_1.size + (strOfNums y351).size ≤ 9223372036854775807 then (clavigerref02_Unhex.l0 k1 a0 (x4_1 ++ (strOfNums y351)) (wrap64 (x5_1 + 2))) else (none)))))) else (none)) else (none)) = some (r1, r2) := H
      have A6 := Aside0.mk A60
      clear A60
      obtain ⟨ji7, hji7⟩ : ∃ j_ : Int, (wrap64 (x5_1 + 1)) = j_ := ⟨_, rfl⟩
      replace H : (if 0 ≤ (ji7) then (if (ji7) < (a0.size : Int) then ((clavigerref02_Value.f k1 (bt a0 (ji7))).bind fun t350 => (if t349 < 0 then (some ((⟨#[]⟩ : ByteArray), false)) else (if t350 < 0 then (some ((⟨#[]⟩ : ByteArray), false)) else ((some (([(wrap64 ((wrap64 (16 * t349)) + t350)) % 256] : List Int) : List Int)).bind fun y351 => (if x4_1.size + (strOfNums y351).size ≤ 9223372036854775807 then (clavigerref02_Unhex.l0 k1 a0 (x4_1 ++ (strOfNums y351)) (wrap64 (x5_1 + 2))) else (none)))))) else (none)) else (none)) = some (r1, r2) := by first | (rw [hji7] at H; exact H) | (simp only [hji7] at H ⊢; exact H)
      (try rw [hji7] at A6)
      have hji7w : (IntKind.i64.wrap (x5_1 + 1)) = ji7 := (i64_w _).trans hji7
      by_cases c8 : 0 ≤ (ji7)
      ·rw [if_pos c8] at H
       have c8b0 : decide (0 ≤ (ji7)) = true := decide_eq_true c8
       clear c8
       by_cases c9 : (ji7) < (a0.size : Int)
       ·rw [if_pos c9] at H
        have c9b0 : decide ((ji7) < (a0.size : Int)) = true := decide_eq_true c9
        clear c9
        replace H := Option.bind_eq_some_iff.mp H
        obtain ⟨t350, A110, H⟩ := H
        replace H : (if t349 < 0 then (some ((⟨#[]⟩ : ByteArray), false)) else (if t350 < 0 then (some ((⟨#[]⟩ : ByteArray), false)) else ((some (([(wrap64 ((wrap64 (16 * t349)) + t350)) % 256] : List Int) : List Int)).bind fun y351 => (if x4_1.size + (strOfNums y351).size ≤ 9223372036854775807 then (clavigerref02_Unhex.l0 k1 a0 (x4_1 ++ (strOfNums y351)) (wrap64 (x5_1 + 2))) else (none))))) = some (r1, r2) := H
        have A11 := Aside0.mk A110
        clear A110
        by_cases c12 : t349 < 0
        ·rw [if_pos c12] at H
         have c12b0 : decide (t349 < 0) = true := decide_eq_true c12
         clear c12
         simp only [Option.some.injEq, Prod.mk.injEq] at H
         obtain ⟨rfl, rfl⟩ := H
         have p5 : 0 ≤ (x5_1 : Int) := of_decide_eq_true (by first | (with_reducible assumption) | assumption)
         have q5 : x5_1 < (a0.size : Int) := of_decide_eq_true (by first | (with_reducible assumption) | assumption)
         have hx5 := bt_at a0 x5_1
         replace p5 := eq_true p5
         replace q5 := eq_true q5
         go_wp2_with (first | (go_at_call 174; (with_reducible refine (clavigerref02_Value.calls k1 (bt a0 x5_1) t349 _ A6.out).mono ?_); rintro e w' ⟨rfl, ⟨nd, rfl⟩⟩; (try first | exact ⟨rfl, _, World.drewN_drewN _ _ _⟩ | exact ⟨rfl, _, Eq.trans (World.drewN_drewN _ _ _) (congrArg (World.drewN _) (Nat.add_assoc _ _ _))⟩); have p10 : 0 ≤ ((ji7) : Int) := of_decide_eq_true (by first | (with_reducible assumption) | assumption); have q10 : (ji7) < (a0.size : Int) := of_decide_eq_true (by first | (with_reducible assumption) | assumption); have hx10 := bt_at a0 (ji7); replace p10 := eq_true p10; replace q10 := eq_true q10) | (go_at_call 174; (with_reducible refine (clavigerref02_Value.calls k1 (bt a0 (ji7)) t350 _ A11.out).mono ?_); rintro e w' ⟨rfl, ⟨nd, rfl⟩⟩; (try first | exact ⟨rfl, _, World.drewN_drewN _ _ _⟩ | exact ⟨rfl, _, Eq.trans (World.drewN_drewN _ _ _) (congrArg (World.drewN _) (Nat.add_assoc _ _ _))⟩)))
         repeat (go_quiet (first | (go_at_call 174; (with_reducible refine (clavigerref02_Value.calls k1 (bt a0 x5_1) t349 _ A6.out).mono ?_); rintro e w' ⟨rfl, ⟨nd, rfl⟩⟩; (try first | exact ⟨rfl, _, World.drewN_drewN _ _ _⟩ | exact ⟨rfl, _, Eq.trans (World.drewN_drewN _ _ _) (congrArg (World.drewN _) (Nat.add_assoc _ _ _))⟩); have p10 : 0 ≤ ((ji7) : Int) := of_decide_eq_true (by first | (with_reducible assumption) | assumption); have q10 : (ji7) < (a0.size : Int) := of_decide_eq_true (by first | (with_reducible assumption) | assumption); have hx10 := bt_at a0 (ji7); replace p10 := eq_true p10; replace q10 := eq_true q10) | (go_at_call 174; (with_reducible refine (clavigerref02_Value.calls k1 (bt a0 (ji7)) t350 _ A11.out).mono ?_); rintro e w' ⟨rfl, ⟨nd, rfl⟩⟩; (try first | exact ⟨rfl, _, World.drewN_drewN _ _ _⟩ | exact ⟨rfl, _, Eq.trans (World.drewN_drewN _ _ _) (congrArg (World.drewN _) (Nat.add_assoc _ _ _))⟩))); try go_wp2_with (first | (go_at_call 174; (with_reducible refine (clavigerref02_Value.calls k1 (bt a0 x5_1) t349 _ A6.out).mono ?_); rintro e w' ⟨rfl, ⟨nd, rfl⟩⟩; (try first | exact ⟨rfl, _, World.drewN_drewN _ _ _⟩ | exact ⟨rfl, _, Eq.trans (World.drewN_drewN _ _ _) (congrArg (World.drewN _) (Nat.add_assoc _ _ _))⟩); have p10 : 0 ≤ ((ji7) : Int) := of_decide_eq_true (by first | (with_reducible assumption) | assumption); have q10 : (ji7) < (a0.size : Int) := of_decide_eq_true (by first | (with_reducible assumption) | assumption); have hx10 := bt_at a0 (ji7); replace p10 := eq_true p10; replace q10 := eq_true q10) | (go_at_call 174; (with_reducible refine (clavigerref02_Value.calls k1 (bt a0 (ji7)) t350 _ A11.out).mono ?_); rintro e w' ⟨rfl, ⟨nd, rfl⟩⟩; (try first | exact ⟨rfl, _, World.drewN_drewN _ _ _⟩ | exact ⟨rfl, _, Eq.trans (World.drewN_drewN _ _ _) (congrArg (World.drewN _) (Nat.add_assoc _ _ _))⟩))))
         go_ret2
         exact ⟨by first | rfl | (simp [errW_none, errW_some] <;> rfl) | (simp only [← hji7]; first | rfl | (simp [errW_none, errW_some] <;> rfl)) | (simp [*, errW_none, errW_some] <;> rfl), by repeat (first | (with_reducible first | exact HB.out | apply below_alloc | apply pw_below_drewN | apply below_drew1) | exact HB.out)⟩
        ·rw [if_neg c12] at H
         have c12b0 : decide (t349 < 0) = false := decide_eq_false c12
         clear c12
         by_cases c13 : t350 < 0
         ·rw [if_pos c13] at H
          have c13b0 : decide (t350 < 0) = true := decide_eq_true c13
          clear c13
          simp only [Option.some.injEq, Prod.mk.injEq] at H
          obtain ⟨rfl, rfl⟩ := H
          have p5 : 0 ≤ (x5_1 : Int) := of_decide_eq_true (by first | (with_reducible assumption) | assumption)
          have q5 : x5_1 < (a0.size : Int) := of_decide_eq_true (by first | (with_reducible assumption) | assumption)
          have hx5 := bt_at a0 x5_1
          replace p5 := eq_true p5
          replace q5 := eq_true q5
          go_wp2_with (first | (go_at_call 174; (with_reducible refine (clavigerref02_Value.calls k1 (bt a0 x5_1) t349 _ A6.out).mono ?_); rintro e w' ⟨rfl, ⟨nd, rfl⟩⟩; (try first | exact ⟨rfl, _, World.drewN_drewN _ _ _⟩ | exact ⟨rfl, _, Eq.trans (World.drewN_drewN _ _ _) (congrArg (World.drewN _) (Nat.add_assoc _ _ _))⟩); have p10 : 0 ≤ ((ji7) : Int) := of_decide_eq_true (by first | (with_reducible assumption) | assumption); have q10 : (ji7) < (a0.size : Int) := of_decide_eq_true (by first | (with_reducible assumption) | assumption); have hx10 := bt_at a0 (ji7); replace p10 := eq_true p10; replace q10 := eq_true q10) | (go_at_call 174; (with_reducible refine (clavigerref02_Value.calls k1 (bt a0 (ji7)) t350 _ A11.out).mono ?_); rintro e w' ⟨rfl, ⟨nd, rfl⟩⟩; (try first | exact ⟨rfl, _, World.drewN_drewN _ _ _⟩ | exact ⟨rfl, _, Eq.trans (World.drewN_drewN _ _ _) (congrArg (World.drewN _) (Nat.add_assoc _ _ _))⟩)))
          repeat (go_quiet (first | (go_at_call 174; (with_reducible refine (clavigerref02_Value.calls k1 (bt a0 x5_1) t349 _ A6.out).mono ?_); rintro e w' ⟨rfl, ⟨nd, rfl⟩⟩; (try first | exact ⟨rfl, _, World.drewN_drewN _ _ _⟩ | exact ⟨rfl, _, Eq.trans (World.drewN_drewN _ _ _) (congrArg (World.drewN _) (Nat.add_assoc _ _ _))⟩); have p10 : 0 ≤ ((ji7) : Int) := of_decide_eq_true (by first | (with_reducible assumption) | assumption); have q10 : (ji7) < (a0.size : Int) := of_decide_eq_true (by first | (with_reducible assumption) | assumption); have hx10 := bt_at a0 (ji7); replace p10 := eq_true p10; replace q10 := eq_true q10) | (go_at_call 174; (with_reducible refine (clavigerref02_Value.calls k1 (bt a0 (ji7)) t350 _ A11.out).mono ?_); rintro e w' ⟨rfl, ⟨nd, rfl⟩⟩; (try first | exact ⟨rfl, _, World.drewN_drewN _ _ _⟩ | exact ⟨rfl, _, Eq.trans (World.drewN_drewN _ _ _) (congrArg (World.drewN _) (Nat.add_assoc _ _ _))⟩))); try go_wp2_with (first | (go_at_call 174; (with_reducible refine (clavigerref02_Value.calls k1 (bt a0 x5_1) t349 _ A6.out).mono ?_); rintro e w' ⟨rfl, ⟨nd, rfl⟩⟩; (try first | exact ⟨rfl, _, World.drewN_drewN _ _ _⟩ | exact ⟨rfl, _, Eq.trans (World.drewN_drewN _ _ _) (congrArg (World.drewN _) (Nat.add_assoc _ _ _))⟩); have p10 : 0 ≤ ((ji7) : Int) := of_decide_eq_true (by first | (with_reducible assumption) | assumption); have q10 : (ji7) < (a0.size : Int) := of_decide_eq_true (by first | (with_reducible assumption) | assumption); have hx10 := bt_at a0 (ji7); replace p10 := eq_true p10; replace q10 := eq_true q10) | (go_at_call 174; (with_reducible refine (clavigerref02_Value.calls k1 (bt a0 (ji7)) t350 _ A11.out).mono ?_); rintro e w' ⟨rfl, ⟨nd, rfl⟩⟩; (try first | exact ⟨rfl, _, World.drewN_drewN _ _ _⟩ | exact ⟨rfl, _, Eq.trans (World.drewN_drewN _ _ _) (congrArg (World.drewN _) (Nat.add_assoc _ _ _))⟩))))
          go_ret2
          exact ⟨by first | rfl | (simp [errW_none, errW_some] <;> rfl) | (simp only [← hji7]; first | rfl | (simp [errW_none, errW_some] <;> rfl)) | (simp [*, errW_none, errW_some] <;> rfl), by repeat (first | (with_reducible first | exact HB.out | apply below_alloc | apply pw_below_drewN | apply below_drew1) | exact HB.out)⟩
         ·rw [if_neg c13] at H
          have c13b0 : decide (t350 < 0) = false := decide_eq_false c13
          clear c13
          obtain ⟨y351, hy351⟩ : ∃ y_ : List Int, y_ = (([(wrap64 ((wrap64 (16 * t349)) + t350)) % 256] : List Int)) := ⟨_, rfl⟩
          replace H : (if x4_1.size + (strOfNums y351).size ≤ 9223372036854775807 then (clavigerref02_Unhex.l0 k1 a0 (x4_1 ++ (strOfNums y351)) (wrap64 (x5_1 + 2))) else (none)) = some (r1, r2) := by first | (rw [hy351]; with_reducible exact H) | (have H2_ := (Option.bind_some _ _).symm.trans H; rw [hy351]; with_reducible exact H2_) | (have H2_ := (Option.bind_some _ _).symm.trans H; with_reducible exact H2_) | with_reducible exact H | (rw [hy351]; exact H) | exact H
          have Ny351 := Aside0.mk hy351
          clear hy351
          by_cases c14 : x4_1.size + (strOfNums y351).size ≤ 9223372036854775807
          ·rw [if_pos c14] at H
           have c14b0 := eq_true c14
           have c14b1 : decide (x4_1.size + (strOfNums y351).size ≤ 9223372036854775807) = true := decide_eq_true c14
           try have c14b2 : (9223372036854775807 < x4_1.size + (strOfNums y351).size) = False := eq_false (Nat.not_lt.2 c14)
           have H' := Aside0.mk H
           clear H
           have p5 : 0 ≤ (x5_1 : Int) := of_decide_eq_true (by first | (with_reducible assumption) | assumption)
           have q5 : x5_1 < (a0.size : Int) := of_decide_eq_true (by first | (with_reducible assumption) | assumption)
           have hx5 := bt_at a0 x5_1
           replace p5 := eq_true p5
           replace q5 := eq_true q5
           go_wp2_with (first | (go_at_call 174; (with_reducible refine (clavigerref02_Value.calls k1 (bt a0 x5_1) t349 _ A6.out).mono ?_); rintro e w' ⟨rfl, ⟨nd, rfl⟩⟩; (try first | exact ⟨rfl, _, World.drewN_drewN _ _ _⟩ | exact ⟨rfl, _, Eq.trans (World.drewN_drewN _ _ _) (congrArg (World.drewN _) (Nat.add_assoc _ _ _))⟩); have p10 : 0 ≤ ((ji7) : Int) := of_decide_eq_true (by first | (with_reducible assumption) | assumption); have q10 : (ji7) < (a0.size : Int) := of_decide_eq_true (by first | (with_reducible assumption) | assumption); have hx10 := bt_at a0 (ji7); replace p10 := eq_true p10; replace q10 := eq_true q10) | (go_at_call 174; (with_reducible refine (clavigerref02_Value.calls k1 (bt a0 (ji7)) t350 _ A11.out).mono ?_); rintro e w' ⟨rfl, ⟨nd, rfl⟩⟩; (try first | exact ⟨rfl, _, World.drewN_drewN _ _ _⟩ | exact ⟨rfl, _, Eq.trans (World.drewN_drewN _ _ _) (congrArg (World.drewN _) (Nat.add_assoc _ _ _))⟩)) | ((with_reducible refine gate_dst (N := 39) rfl ?_); refine Kd.R_lit (Kd.int .u8) _ 5 ?hg (N := 39) ?hd (xs := ([(wrap64 ((wrap64 (16 * t349)) + t350)) % 256] : List Int)) (inner := [.int .u8 ((wrap64 ((wrap64 (16 * t349)) + t350)) % 256)]) (ok := fun _ => True) (okp := fun _ => True) ?hr ?hp (fun _ hk => hk) trivial (Below.refl _ _) (Nat.le_refl _) (by simp) ?_; (case hd => rfl); (case hg => rfl); (case hr => first | (go_simp; done) | (go_simp; rfl)); (case hp => exact (Reps.one (show Kd.M (Kd.int .u8) _ _ _ ((wrap64 ((wrap64 (16 * t349)) + t350)) % 256) [.int .u8 ((wrap64 ((wrap64 (16 * t349)) + t350)) % 256)] from rfl) (Reps.none _ _))); intro v352 w15 ho16 hb hg_ hnew_; clear hg_ hnew_; (first | rw [← Ny351.out] at ho16 | (simp only [Int.reduceToNat] at ho16; rw [← Ny351.out] at ho16)); have n0_ := Aside0.mk (Kd.R_lower ho16 (below_size (by repeat (first | (with_reducible first | exact HB.out | apply below_alloc | apply pw_below_drewN | apply below_drew1) | exact HB.out)))); have n1_ := Aside0.mk (below_step (by repeat (first | (with_reducible first | exact HB.out | apply below_alloc | apply pw_below_drewN | apply below_drew1) | exact HB.out)) hb); clear HB; have HO353 := n0_; have HB := n1_; clear n0_ n1_; clear hb ho16; have hcv17 := own_string (P := Try.prog) Try.underlying66 Try.underlying5 Try.underlying9 (Kd.own_of_R HO353.out)))
           repeat (go_quiet (first | (go_at_call 174; (with_reducible refine (clavigerref02_Value.calls k1 (bt a0 x5_1) t349 _ A6.out).mono ?_); rintro e w' ⟨rfl, ⟨nd, rfl⟩⟩; (try first | exact ⟨rfl, _, World.drewN_drewN _ _ _⟩ | exact ⟨rfl, _, Eq.trans (World.drewN_drewN _ _ _) (congrArg (World.drewN _) (Nat.add_assoc _ _ _))⟩); have p10 : 0 ≤ ((ji7) : Int) := of_decide_eq_true (by first | (with_reducible assumption) | assumption); have q10 : (ji7) < (a0.size : Int) := of_decide_eq_true (by first | (with_reducible assumption) | assumption); have hx10 := bt_at a0 (ji7); replace p10 := eq_true p10; replace q10 := eq_true q10) | (go_at_call 174; (with_reducible refine (clavigerref02_Value.calls k1 (bt a0 (ji7)) t350 _ A11.out).mono ?_); rintro e w' ⟨rfl, ⟨nd, rfl⟩⟩; (try first | exact ⟨rfl, _, World.drewN_drewN _ _ _⟩ | exact ⟨rfl, _, Eq.trans (World.drewN_drewN _ _ _) (congrArg (World.drewN _) (Nat.add_assoc _ _ _))⟩)) | ((with_reducible refine gate_dst (N := 39) rfl ?_); refine Kd.R_lit (Kd.int .u8) _ 5 ?hg (N := 39) ?hd (xs := ([(wrap64 ((wrap64 (16 * t349)) + t350)) % 256] : List Int)) (inner := [.int .u8 ((wrap64 ((wrap64 (16 * t349)) + t350)) % 256)]) (ok := fun _ => True) (okp := fun _ => True) ?hr ?hp (fun _ hk => hk) trivial (Below.refl _ _) (Nat.le_refl _) (by simp) ?_; (case hd => rfl); (case hg => rfl); (case hr => first | (go_simp; done) | (go_simp; rfl)); (case hp => exact (Reps.one (show Kd.M (Kd.int .u8) _ _ _ ((wrap64 ((wrap64 (16 * t349)) + t350)) % 256) [.int .u8 ((wrap64 ((wrap64 (16 * t349)) + t350)) % 256)] from rfl) (Reps.none _ _))); intro v352 w15 ho16 hb hg_ hnew_; clear hg_ hnew_; (first | rw [← Ny351.out] at ho16 | (simp only [Int.reduceToNat] at ho16; rw [← Ny351.out] at ho16)); have n0_ := Aside0.mk (Kd.R_lower ho16 (below_size (by repeat (first | (with_reducible first | exact HB.out | apply below_alloc | apply pw_below_drewN | apply below_drew1) | exact HB.out)))); have n1_ := Aside0.mk (below_step (by repeat (first | (with_reducible first | exact HB.out | apply below_alloc | apply pw_below_drewN | apply below_drew1) | exact HB.out)) hb); clear HB; have HO353 := n0_; have HB := n1_; clear n0_ n1_; clear hb ho16; have hcv17 := own_string (P := Try.prog) Try.underlying66 Try.underlying5 Try.underlying9 (Kd.own_of_R HO353.out))); try go_wp2_with (first | (go_at_call 174; (with_reducible refine (clavigerref02_Value.calls k1 (bt a0 x5_1) t349 _ A6.out).mono ?_); rintro e w' ⟨rfl, ⟨nd, rfl⟩⟩; (try first | exact ⟨rfl, _, World.drewN_drewN _ _ _⟩ | exact ⟨rfl, _, Eq.trans (World.drewN_drewN _ _ _) (congrArg (World.drewN _) (Nat.add_assoc _ _ _))⟩); have p10 : 0 ≤ ((ji7) : Int) := of_decide_eq_true (by first | (with_reducible assumption) | assumption); have q10 : (ji7) < (a0.size : Int) := of_decide_eq_true (by first | (with_reducible assumption) | assumption); have hx10 := bt_at a0 (ji7); replace p10 := eq_true p10; replace q10 := eq_true q10) | (go_at_call 174; (with_reducible refine (clavigerref02_Value.calls k1 (bt a0 (ji7)) t350 _ A11.out).mono ?_); rintro e w' ⟨rfl, ⟨nd, rfl⟩⟩; (try first | exact ⟨rfl, _, World.drewN_drewN _ _ _⟩ | exact ⟨rfl, _, Eq.trans (World.drewN_drewN _ _ _) (congrArg (World.drewN _) (Nat.add_assoc _ _ _))⟩)) | ((with_reducible refine gate_dst (N := 39) rfl ?_); refine Kd.R_lit (Kd.int .u8) _ 5 ?hg (N := 39) ?hd (xs := ([(wrap64 ((wrap64 (16 * t349)) + t350)) % 256] : List Int)) (inner := [.int .u8 ((wrap64 ((wrap64 (16 * t349)) + t350)) % 256)]) (ok := fun _ => True) (okp := fun _ => True) ?hr ?hp (fun _ hk => hk) trivial (Below.refl _ _) (Nat.le_refl _) (by simp) ?_; (case hd => rfl); (case hg => rfl); (case hr => first | (go_simp; done) | (go_simp; rfl)); (case hp => exact (Reps.one (show Kd.M (Kd.int .u8) _ _ _ ((wrap64 ((wrap64 (16 * t349)) + t350)) % 256) [.int .u8 ((wrap64 ((wrap64 (16 * t349)) + t350)) % 256)] from rfl) (Reps.none _ _))); intro v352 w15 ho16 hb hg_ hnew_; clear hg_ hnew_; (first | rw [← Ny351.out] at ho16 | (simp only [Int.reduceToNat] at ho16; rw [← Ny351.out] at ho16)); have n0_ := Aside0.mk (Kd.R_lower ho16 (below_size (by repeat (first | (with_reducible first | exact HB.out | apply below_alloc | apply pw_below_drewN | apply below_drew1) | exact HB.out)))); have n1_ := Aside0.mk (below_step (by repeat (first | (with_reducible first | exact HB.out | apply below_alloc | apply pw_below_drewN | apply below_drew1) | exact HB.out)) hb); clear HB; have HO353 := n0_; have HB := n1_; clear n0_ n1_; clear hb ho16; have hcv17 := own_string (P := Try.prog) Try.underlying66 Try.underlying5 Try.underlying9 (Kd.own_of_R HO353.out))))
           go_roundg k1
           case measure => have := HK1.out; omega
           case rel => exact ⟨(x4_1 ++ (strOfNums y351)), (wrap64 (x5_1 + 2)), (by first | rfl | (simp; done) | (simp [*]; done)), (by first | rfl | (simp; done) | (simp [*]; done)), H', ⟨by have := HK1.out; omega⟩, ⟨by repeat (first | (with_reducible first | exact HB.out | apply below_alloc | apply pw_below_drewN | apply below_drew1) | exact HB.out)⟩⟩
          ·rw [if_neg c14] at H
           exact absurd H (by simp)
       ·rw [if_neg c9] at H
        exact absurd H (by simp)
      ·rw [if_neg c8] at H
       exact absurd H (by simp)
     ·rw [if_neg c4] at H
      exact absurd H (by simp)
    ·rw [if_neg c3] at H
     have c3b0 : decide (x5_1 < (a0.size : Int)) = false := decide_eq_false c3
     clear c3
     simp only [Option.some.injEq, Prod.mk.injEq] at H
     obtain ⟨rfl, rfl⟩ := H
     go_wp2
     repeat (go_quiet (fail); try go_wp2)
     go_ret2
     exact ⟨by first | rfl | (simp [errW_none, errW_some] <;> rfl) | (simp [*, errW_none, errW_some] <;> rfl), by repeat (first | (with_reducible first | exact HB.out | apply below_alloc | apply pw_below_drewN | apply below_drew1) | exact HB.out)⟩
 ·rw [if_neg c2] at H
  have c2b0 : (((a0.size : Int) % 2) == 0) = false := beq_eq_false_iff_ne.mpr c2
  have c2b1 : (((a0.size : Int) % 2) != 0) = true := bne_iff_ne.mpr c2
  simp only [Option.some.injEq, Prod.mk.injEq] at H
  obtain ⟨rfl, rfl⟩ := H
  go_enter Try.func176, Try.ntmps176
  go_wp2
  repeat (go_quiet (fail); try go_wp2)
  go_ret2
  exact ⟨by first | rfl | (simp [errW_none, errW_some] <;> rfl) | (simp [*, errW_none, errW_some] <;> rfl), by repeat (first | (with_reducible first | exact HB.out | apply below_alloc | apply pw_below_drewN | apply below_drew1) | exact HB.out)⟩

/-! ### clavigerref06_Table: function 71 -/
def clavigerref06_Table.f (k : Nat)  : Option (ByteArray) := (clavigerref02_Unhex.f k (⟨#[54, 51, 55, 67, 55, 55, 55, 66, 70, 50, 54, 66, 54, 70, 67, 53, 51, 48, 48, 49, 54, 55, 50, 66, 70, 69, 68, 55, 65, 66, 55, 54, 67, 65, 56, 50, 67, 57, 55, 68, 70, 65, 53, 57, 52, 55, 70, 48, 65, 68, 68, 52, 65, 50, 65, 70, 57, 67, 65, 52, 55, 50, 67, 48, 66, 55, 70, 68, 57, 51, 50, 54, 51, 54, 51, 70, 70, 55, 67, 67, 51, 52, 65, 53, 69, 53, 70, 49, 55, 49, 68, 56, 51, 49, 49, 53, 48, 52, 67, 55, 50, 51, 67, 51, 49, 56, 57, 54, 48, 53, 57, 65, 48, 55, 49, 50, 56, 48, 69, 50, 69, 66, 50, 55, 66, 50, 55, 53, 48, 57, 56, 51, 50, 67, 49, 65, 49, 66, 54, 69, 53, 65, 65, 48, 53, 50, 51, 66, 68, 54, 66, 51, 50, 57, 69, 51, 50, 70, 56, 52, 53, 51, 68, 49, 48, 48, 69, 68, 50, 48, 70, 67, 66, 49, 53, 66, 54, 65, 67, 66, 66, 69, 51, 57, 52, 65, 52, 67, 53, 56, 67, 70, 68, 48, 69, 70, 65, 65, 70, 66, 52, 51, 52, 68, 51, 51, 56, 53, 52, 53, 70, 57, 48, 50, 55, 70, 53, 48, 51, 67, 57, 70, 65, 56, 53, 49, 65, 51, 52, 48, 56, 70, 57, 50, 57, 68, 51, 56, 70, 53, 66, 67, 66, 54, 68, 65, 50, 49, 49, 48, 70, 70, 70, 51, 68, 50, 67, 68, 48, 67, 49, 51, 69, 67, 53, 70, 57, 55, 52, 52, 49, 55, 67, 52, 65, 55, 55, 69, 51, 68, 54, 52, 53, 68, 49, 57, 55, 51, 54, 48, 56, 49, 52, 70, 68, 67, 50, 50, 50, 65, 57, 48, 56, 56, 52, 54, 69, 69, 66, 56, 49, 52, 68, 69, 53, 69, 48, 66, 68, 66, 69, 48, 51, 50, 51, 65, 48, 65, 52, 57, 48, 54, 50, 52, 53, 67, 67, 50, 68, 51, 65, 67, 54, 50, 57, 49, 57, 53, 69, 52, 55, 57, 69, 55, 67, 56, 51, 55, 54, 68, 56, 68, 68, 53, 52, 69, 65, 57, 54, 67, 53, 54, 70, 52, 69, 65, 54, 53, 55, 65, 65, 69, 48, 56, 66, 65, 55, 56, 50, 53, 50, 69, 49, 67, 65, 54, 66, 52, 67, 54, 69, 56, 68, 68, 55, 52, 49, 70, 52, 66, 66, 68, 56, 66, 56, 65, 55, 48, 51, 69, 66, 53, 54, 54, 52, 56, 48, 51, 70, 54, 48, 69, 54, 49, 51, 53, 53, 55, 66, 57, 56, 54, 67, 49, 49, 68, 57, 69, 69, 49, 70, 56, 57, 56, 49, 49, 54, 57, 68, 57, 56, 69, 57, 52, 57, 66, 49, 69, 56, 55, 69, 57, 67, 69, 53, 53, 50, 56, 68, 70, 56, 67, 65, 49, 56, 57, 48, 68, 66, 70, 69, 54, 52, 50, 54, 56, 52, 49, 57, 57, 50, 68, 48, 70, 66, 48, 53, 52, 66, 66, 49, 54]⟩ : ByteArray)).bind fun bt354 => (some bt354.1)
theorem clavigerref06_Table.mono : ∀ k, LeO (clavigerref06_Table.f k ) (clavigerref06_Table.f (k + 1) ) := by
 intro  k
 unfold clavigerref06_Table.f
 repeat' first
   | (with_reducible exact clavigerref02_Unhex.mono _ _)
   | (with_reducible exact LeO.refl _)
   | (with_reducible exact LeO.none _)
   | (with_reducible refine LeO.ite ?_ ?_)
   | (with_reducible refine LeO.bind ?_ (fun _ => ?_))
   | exact clavigerref02_Unhex.mono _ _
   | exact LeO.none _
   | refine LeO.ite ?_ ?_
   | refine LeO.bind ?_ (fun _ => ?_)
set_option maxHeartbeats 8000000 in
set_option maxRecDepth 100000 in
theorem clavigerref06_Table.calls (k : Nat)  (r : ByteArray) (w : World) (h : clavigerref06_Table.f k  = some r) :
  Calls Try.prog 71 #[] w fun e w' => e = .returned (.string r) ∧ Below w.heap.size w w' := by
 have HB := Aside0.mk (Below.refl w.heap.size w)
 have H : ((clavigerref02_Unhex.f k (⟨#[54, 51, 55, 67, 55, 55, 55, 66, 70, 50, 54, 66, 54, 70, 67, 53, 51, 48, 48, 49, 54, 55, 50, 66, 70, 69, 68, 55, 65, 66, 55, 54, 67, 65, 56, 50, 67, 57, 55, 68, 70, 65, 53, 57, 52, 55, 70, 48, 65, 68, 68, 52, 65, 50, 65, 70, 57, 67, 65, 52, 55, 50, 67, 48, 66, 55, 70, 68, 57, 51, 50, 54, 51, 54, 51, 70, 70, 55, 67, 67, 51, 52, 65, 53, 69, 53, 70, 49, 55, 49, 68, 56, 51, 49, 49, 53, 48, 52, 67, 55, 50, 51, 67, 51, 49, 56, 57, 54, 48, 53, 57, 65, 48, 55, 49, 50, 56, 48, 69, 50, 69, 66, 50, 55, 66, 50, 55, 53, 48, 57, 56, 51, 50, 67, 49, 65, 49, 66, 54, 69, 53, 65, 65, 48, 53, 50, 51, 66, 68, 54, 66, 51, 50, 57, 69, 51, 50, 70, 56, 52, 53, 51, 68, 49, 48, 48, 69, 68, 50, 48, 70, 67, 66, 49, 53, 66, 54, 65, 67, 66, 66, 69, 51, 57, 52, 65, 52, 67, 53, 56, 67, 70, 68, 48, 69, 70, 65, 65, 70, 66, 52, 51, 52, 68, 51, 51, 56, 53, 52, 53, 70, 57, 48, 50, 55, 70, 53, 48, 51, 67, 57, 70, 65, 56, 53, 49, 65, 51, 52, 48, 56, 70, 57, 50, 57, 68, 51, 56, 70, 53, 66, 67, 66, 54, 68, 65, 50, 49, 49, 48, 70, 70, 70, 51, 68, 50, 67, 68, 48, 67, 49, 51, 69, 67, 53, 70, 57, 55, 52, 52, 49, 55, 67, 52, 65, 55, 55, 69, 51, 68, 54, 52, 53, 68, 49, 57, 55, 51, 54, 48, 56, 49, 52, 70, 68, 67, 50, 50, 50, 65, 57, 48, 56, 56, 52, 54, 69, 69, 66, 56, 49, 52, 68, 69, 53, 69, 48, 66, 68, 66, 69, 48, 51, 50, 51, 65, 48, 65, 52, 57, 48, 54, 50, 52, 53, 67, 67, 50, 68, 51, 65, 67, 54, 50, 57, 49, 57, 53, 69, 52, 55, 57, 69, 55, 67, 56, 51, 55, 54, 68, 56, 68, 68, 53, 52, 69, 65, 57, 54, 67, 53, 54, 70, 52, 69, 65, 54, 53, 55, 65, 65, 69, 48, 56, 66, 65, 55, 56, 50, 53, 50, 69, 49, 67, 65, 54, 66, 52, 67, 54, 69, 56, 68, 68, 55, 52, 49, 70, 52, 66, 66, 68, 56, 66, 56, 65, 55, 48, 51, 69, 66, 53, 54, 54, 52, 56, 48, 51, 70, 54, 48, 69, 54, 49, 51, 53, 53, 55, 66, 57, 56, 54, 67, 49, 49, 68, 57, 69, 69, 49, 70, 56, 57, 56, 49, 49, 54, 57, 68, 57, 56, 69, 57, 52, 57, 66, 49, 69, 56, 55, 69, 57, 67, 69, 53, 53, 50, 56, 68, 70, 56, 67, 65, 49, 56, 57, 48, 68, 66, 70, 69, 54, 52, 50, 54, 56, 52, 49, 57, 57, 50, 68, 48, 70, 66, 48, 53, 52, 66, 66, 49, 54]⟩ : ByteArray)).bind fun bt354 => (some bt354.1)) = some r := h
 clear h
 replace H := Option.bind_eq_some_iff.mp H
 obtain ⟨⟨t354, t355⟩, A10, H⟩ := H
 replace H : (some t354) = some r := H
 have A1 := Aside0.mk A10
 clear A10
 obtain rfl := Option.some.inj H
 go_enter Try.func71, Try.ntmps71
 go_wp2_with (first | ((with_reducible refine gate_callee (f := 176) rfl ?_); refine goesL_ (some 4) rfl rfl Try.func176 (by kernel_rfl) rfl #[.string (⟨#[54, 51, 55, 67, 55, 55, 55, 66, 70, 50, 54, 66, 54, 70, 67, 53, 51, 48, 48, 49, 54, 55, 50, 66, 70, 69, 68, 55, 65, 66, 55, 54, 67, 65, 56, 50, 67, 57, 55, 68, 70, 65, 53, 57, 52, 55, 70, 48, 65, 68, 68, 52, 65, 50, 65, 70, 57, 67, 65, 52, 55, 50, 67, 48, 66, 55, 70, 68, 57, 51, 50, 54, 51, 54, 51, 70, 70, 55, 67, 67, 51, 52, 65, 53, 69, 53, 70, 49, 55, 49, 68, 56, 51, 49, 49, 53, 48, 52, 67, 55, 50, 51, 67, 51, 49, 56, 57, 54, 48, 53, 57, 65, 48, 55, 49, 50, 56, 48, 69, 50, 69, 66, 50, 55, 66, 50, 55, 53, 48, 57, 56, 51, 50, 67, 49, 65, 49, 66, 54, 69, 53, 65, 65, 48, 53, 50, 51, 66, 68, 54, 66, 51, 50, 57, 69, 51, 50, 70, 56, 52, 53, 51, 68, 49, 48, 48, 69, 68, 50, 48, 70, 67, 66, 49, 53, 66, 54, 65, 67, 66, 66, 69, 51, 57, 52, 65, 52, 67, 53, 56, 67, 70, 68, 48, 69, 70, 65, 65, 70, 66, 52, 51, 52, 68, 51, 51, 56, 53, 52, 53, 70, 57, 48, 50, 55, 70, 53, 48, 51, 67, 57, 70, 65, 56, 53, 49, 65, 51, 52, 48, 56, 70, 57, 50, 57, 68, 51, 56, 70, 53, 66, 67, 66, 54, 68, 65, 50, 49, 49, 48, 70, 70, 70, 51, 68, 50, 67, 68, 48, 67, 49, 51, 69, 67, 53, 70, 57, 55, 52, 52, 49, 55, 67, 52, 65, 55, 55, 69, 51, 68, 54, 52, 53, 68, 49, 57, 55, 51, 54, 48, 56, 49, 52, 70, 68, 67, 50, 50, 50, 65, 57, 48, 56, 56, 52, 54, 69, 69, 66, 56, 49, 52, 68, 69, 53, 69, 48, 66, 68, 66, 69, 48, 51, 50, 51, 65, 48, 65, 52, 57, 48, 54, 50, 52, 53, 67, 67, 50, 68, 51, 65, 67, 54, 50, 57, 49, 57, 53, 69, 52, 55, 57, 69, 55, 67, 56, 51, 55, 54, 68, 56, 68, 68, 53, 52, 69, 65, 57, 54, 67, 53, 54, 70, 52, 69, 65, 54, 53, 55, 65, 65, 69, 48, 56, 66, 65, 55, 56, 50, 53, 50, 69, 49, 67, 65, 54, 66, 52, 67, 54, 69, 56, 68, 68, 55, 52, 49, 70, 52, 66, 66, 68, 56, 66, 56, 65, 55, 48, 51, 69, 66, 53, 54, 54, 52, 56, 48, 51, 70, 54, 48, 69, 54, 49, 51, 53, 53, 55, 66, 57, 56, 54, 67, 49, 49, 68, 57, 69, 69, 49, 70, 56, 57, 56, 49, 49, 54, 57, 68, 57, 56, 69, 57, 52, 57, 66, 49, 69, 56, 55, 69, 57, 67, 69, 53, 53, 50, 56, 68, 70, 56, 67, 65, 49, 56, 57, 48, 68, 66, 70, 69, 54, 52, 50, 54, 56, 52, 49, 57, 57, 50, 68, 48, 70, 66, 48, 53, 52, 66, 66, 49, 54]⟩ : ByteArray)] rfl (by (try simp only [List.map_toArray, List.map_cons, List.map_nil]); first | done | rfl | (simp only [List.length_drop, List.length_take]; rfl) | (simp only [ByteArray.size_extract, Nat.min_self, Nat.sub_zero, ByteArray.size_append]; first | done | rfl)) ?_; (with_reducible refine (clavigerref02_Unhex.calls k (⟨#[54, 51, 55, 67, 55, 55, 55, 66, 70, 50, 54, 66, 54, 70, 67, 53, 51, 48, 48, 49, 54, 55, 50, 66, 70, 69, 68, 55, 65, 66, 55, 54, 67, 65, 56, 50, 67, 57, 55, 68, 70, 65, 53, 57, 52, 55, 70, 48, 65, 68, 68, 52, 65, 50, 65, 70, 57, 67, 65, 52, 55, 50, 67, 48, 66, 55, 70, 68, 57, 51, 50, 54, 51, 54, 51, 70, 70, 55, 67, 67, 51, 52, 65, 53, 69, 53, 70, 49, 55, 49, 68, 56, 51, 49, 49, 53, 48, 52, 67, 55, 50, 51, 67, 51, 49, 56, 57, 54, 48, 53, 57, 65, 48, 55, 49, 50, 56, 48, 69, 50, 69, 66, 50, 55, 66, 50, 55, 53, 48, 57, 56, 51, 50, 67, 49, 65, 49, 66, 54, 69, 53, 65, 65, 48, 53, 50, 51, 66, 68, 54, 66, 51, 50, 57, 69, 51, 50, 70, 56, 52, 53, 51, 68, 49, 48, 48, 69, 68, 50, 48, 70, 67, 66, 49, 53, 66, 54, 65, 67, 66, 66, 69, 51, 57, 52, 65, 52, 67, 53, 56, 67, 70, 68, 48, 69, 70, 65, 65, 70, 66, 52, 51, 52, 68, 51, 51, 56, 53, 52, 53, 70, 57, 48, 50, 55, 70, 53, 48, 51, 67, 57, 70, 65, 56, 53, 49, 65, 51, 52, 48, 56, 70, 57, 50, 57, 68, 51, 56, 70, 53, 66, 67, 66, 54, 68, 65, 50, 49, 49, 48, 70, 70, 70, 51, 68, 50, 67, 68, 48, 67, 49, 51, 69, 67, 53, 70, 57, 55, 52, 52, 49, 55, 67, 52, 65, 55, 55, 69, 51, 68, 54, 52, 53, 68, 49, 57, 55, 51, 54, 48, 56, 49, 52, 70, 68, 67, 50, 50, 50, 65, 57, 48, 56, 56, 52, 54, 69, 69, 66, 56, 49, 52, 68, 69, 53, 69, 48, 66, 68, 66, 69, 48, 51, 50, 51, 65, 48, 65, 52, 57, 48, 54, 50, 52, 53, 67, 67, 50, 68, 51, 65, 67, 54, 50, 57, 49, 57, 53, 69, 52, 55, 57, 69, 55, 67, 56, 51, 55, 54, 68, 56, 68, 68, 53, 52, 69, 65, 57, 54, 67, 53, 54, 70, 52, 69, 65, 54, 53, 55, 65, 65, 69, 48, 56, 66, 65, 55, 56, 50, 53, 50, 69, 49, 67, 65, 54, 66, 52, 67, 54, 69, 56, 68, 68, 55, 52, 49, 70, 52, 66, 66, 68, 56, 66, 56, 65, 55, 48, 51, 69, 66, 53, 54, 54, 52, 56, 48, 51, 70, 54, 48, 69, 54, 49, 51, 53, 53, 55, 66, 57, 56, 54, 67, 49, 49, 68, 57, 69, 69, 49, 70, 56, 57, 56, 49, 49, 54, 57, 68, 57, 56, 69, 57, 52, 57, 66, 49, 69, 56, 55, 69, 57, 67, 69, 53, 53, 50, 56, 68, 70, 56, 67, 65, 49, 56, 57, 48, 68, 66, 70, 69, 54, 52, 50, 54, 56, 52, 49, 57, 57, 50, 68, 48, 70, 66, 48, 53, 52, 66, 66, 49, 54]⟩ : ByteArray) t354 t355 _ A1.out).mono ?_); rintro e w2 ⟨rfl, hb⟩; refine ⟨_, rfl, ?_⟩; have n0_ := Aside0.mk (below_step (by repeat (first | (with_reducible first | exact HB.out | apply below_alloc | apply pw_below_drewN | apply below_drew1) | exact HB.out)) hb); clear HB; have HB := n0_; clear n0_; (try clear hb); (try clear hb2); (try clear hk); (try clear hi)))
 go_ret
 exact ⟨by first | rfl | (simp [errW_none, errW_some] <;> rfl) | (simp [*, errW_none, errW_some] <;> rfl), by repeat (first | (with_reducible first | exact HB.out | apply below_alloc | apply pw_below_drewN | apply below_drew1) | exact HB.out)⟩

end Go.Proofs.Ytokkhnjedmlbhaa.Pr
