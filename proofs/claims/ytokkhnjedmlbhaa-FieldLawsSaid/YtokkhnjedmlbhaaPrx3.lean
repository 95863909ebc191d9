-- written by the session's program wip/hp.py over the kit's print; Lean checks it
import Derived.Test.YtokkhnjedmlbhaaPrx0
import Derived.Test.YtokkhnjedmlbhaaPrx1
import Derived.Test.YtokkhnjedmlbhaaPrx2
namespace Go.Proofs.Ytokkhnjedmlbhaa.Pr
open Go.RowKit Go.Proofs.YtokkhnjedmlbhaaW.PrintWords Go.Proofs.YtokkhnjedmlbhaaW.PrintLast Go.Proofs.YtokkhnjedmlbhaaW.PrintMore
attribute [local go_sem] max2_int min2_int max_two min_two max_three min_three max_four min_four   -- for this text's walks alone
set_option linter.unusedVariables false
set_option linter.unusedSimpArgs false

/-! ### clavigerlaw05_FieldLaws: function 4 -/
mutual
def clavigerlaw05_FieldLaws.j0 : Nat → Int → Bool → Option (Bool)
  | 0, _, _ => none
  | k + 1, x0, x43 => if x43 = true then (some false) else ((field_Log.f k x0).bind fun bt145 => (if x0 = 0 then (clavigerlaw05_FieldLaws.j1 k x0 bt145.2 false) else ((field_Inv.f k x0).bind fun t147 => ((field_Mul.f k x0 t147).bind fun t148 => (if t148 = 1 then (if bt145.2 = true then (if bt145.1 < 0 then (clavigerlaw05_FieldLaws.j1 k x0 bt145.2 true) else (if bt145.1 > 254 then (clavigerlaw05_FieldLaws.j1 k x0 bt145.2 true) else ((field_Pow.f k 3 bt145.1).bind fun t149 => (clavigerlaw05_FieldLaws.j1 k x0 bt145.2 (t149 != x0))))) else (clavigerlaw05_FieldLaws.j1 k x0 bt145.2 true)) else (clavigerlaw05_FieldLaws.j1 k x0 bt145.2 true))))))
def clavigerlaw05_FieldLaws.j1 : Nat → Int → Bool → Bool → Option (Bool)
  | 0, _, _, _ => none
  | k + 1, x0, x8, x75 => if x75 = true then (some false) else ((field_Mul.f k x0 1).bind fun t150 => (if t150 = x0 then ((field_Mul.f k x0 0).bind fun t151 => (if t151 = 0 then (if x0 = 0 then (if x8 = true then (some false) else ((field_Inv.f k x0).bind fun t152 => (if t152 = 0 then ((clavigerlaw05_awake.f k).bind fun t153 => (some t153)) else (some false)))) else ((clavigerlaw05_awake.f k).bind fun t154 => (some t154))) else (some false))) else (some false)))
end
def clavigerlaw05_FieldLaws.f (k : Nat) (a0 : Int) (a1 : Int) (a2 : Int) : Option (Bool) := (field_Mul.f k a0 a1).bind fun t134 => ((field_Mul.f k a1 a0).bind fun t135 => (if t134 = t135 then ((field_Mul.f k a1 a2).bind fun t136 => ((field_Mul.f k a0 t136).bind fun t137 => ((field_Mul.f k a0 a1).bind fun t138 => ((field_Mul.f k t138 a2).bind fun t139 => (if t137 = t139 then ((field_Add.f a1 a2).bind fun t140 => ((field_Mul.f k a0 t140).bind fun t141 => ((field_Mul.f k a0 a1).bind fun t142 => ((field_Mul.f k a0 a2).bind fun t143 => ((field_Add.f t142 t143).bind fun t144 => (clavigerlaw05_FieldLaws.j0 k a0 (t141 != t144))))))) else (clavigerlaw05_FieldLaws.j0 k a0 true)))))) else (clavigerlaw05_FieldLaws.j0 k a0 true)))
theorem clavigerlaw05_FieldLaws.mono_l : ∀ k, (∀ y0 y1, LeO (clavigerlaw05_FieldLaws.j0 k y0 y1) (clavigerlaw05_FieldLaws.j0 (k + 1) y0 y1)) ∧ (∀ y0 y1 y2, LeO (clavigerlaw05_FieldLaws.j1 k y0 y1 y2) (clavigerlaw05_FieldLaws.j1 (k + 1) y0 y1 y2))
  | 0 => ⟨fun _ _ r h => by simp [clavigerlaw05_FieldLaws.j0] at h, fun _ _ _ r h => by simp [clavigerlaw05_FieldLaws.j1] at h⟩
  | k + 1 => by
    obtain ⟨ih0, ih1⟩ := clavigerlaw05_FieldLaws.mono_l k
    refine ⟨?_, ?_⟩
    · intro y0 y1
      unfold clavigerlaw05_FieldLaws.j0
      repeat' first
      | (with_reducible exact ih0 _ _)
      | (with_reducible exact ih1 _ _ _)
      | (with_reducible exact clavigerlaw05_awake.mono _)
      | (with_reducible exact field_Inv.mono _ _)
      | (with_reducible exact field_Log.mono _ _)
      | (with_reducible exact field_Mul.mono _ _ _)
      | (with_reducible exact field_Pow.mono _ _ _)
      | (with_reducible exact LeO.refl _)
      | (with_reducible exact LeO.none _)
      | (with_reducible refine LeO.ite ?_ ?_)
      | (with_reducible refine LeO.bind ?_ (fun _ => ?_))
      | exact ih0 _ _
      | exact ih1 _ _ _
      | exact clavigerlaw05_awake.mono _
      | exact field_Inv.mono _ _
      | exact field_Log.mono _ _
      | exact field_Mul.mono _ _ _
      | exact field_Pow.mono _ _ _
      | exact LeO.none _
      | refine LeO.ite ?_ ?_
      | refine LeO.bind ?_ (fun _ => ?_)
    · intro y0 y1 y2
      unfold clavigerlaw05_FieldLaws.j1
      repeat' first
      | (with_reducible exact ih0 _ _)
      | (with_reducible exact ih1 _ _ _)
      | (with_reducible exact clavigerlaw05_awake.mono _)
      | (with_reducible exact field_Inv.mono _ _)
      | (with_reducible exact field_Log.mono _ _)
      | (with_reducible exact field_Mul.mono _ _ _)
      | (with_reducible exact field_Pow.mono _ _ _)
      | (with_reducible exact LeO.refl _)
      | (with_reducible exact LeO.none _)
      | (with_reducible refine LeO.ite ?_ ?_)
      | (with_reducible refine LeO.bind ?_ (fun _ => ?_))
      | exact ih0 _ _
      | exact ih1 _ _ _
      | exact clavigerlaw05_awake.mono _
      | exact field_Inv.mono _ _
      | exact field_Log.mono _ _
      | exact field_Mul.mono _ _ _
      | exact field_Pow.mono _ _ _
      | exact LeO.none _
      | refine LeO.ite ?_ ?_
      | refine LeO.bind ?_ (fun _ => ?_)
theorem clavigerlaw05_FieldLaws.mono : ∀ a0 a1 a2 k, LeO (clavigerlaw05_FieldLaws.f k a0 a1 a2) (clavigerlaw05_FieldLaws.f (k + 1) a0 a1 a2) := by
  intro a0 a1 a2 k
  obtain ⟨ih0, ih1⟩ := clavigerlaw05_FieldLaws.mono_l k
  unfold clavigerlaw05_FieldLaws.f
  repeat' first
      | (with_reducible exact ih0 _ _)
      | (with_reducible exact ih1 _ _ _)
      | (with_reducible exact clavigerlaw05_awake.mono _)
      | (with_reducible exact field_Inv.mono _ _)
      | (with_reducible exact field_Log.mono _ _)
      | (with_reducible exact field_Mul.mono _ _ _)
      | (with_reducible exact field_Pow.mono _ _ _)
      | (with_reducible exact LeO.refl _)
      | (with_reducible exact LeO.none _)
      | (with_reducible refine LeO.ite ?_ ?_)
      | (with_reducible refine LeO.bind ?_ (fun _ => ?_))
      | exact ih0 _ _
      | exact ih1 _ _ _
      | exact clavigerlaw05_awake.mono _
      | exact field_Inv.mono _ _
      | exact field_Log.mono _ _
      | exact field_Mul.mono _ _ _
      | exact field_Pow.mono _ _ _
      | exact LeO.none _
      | refine LeO.ite ?_ ?_
      | refine LeO.bind ?_ (fun _ => ?_)
set_option maxHeartbeats 8000000 in
set_option maxRecDepth 100000 in
theorem clavigerlaw05_FieldLaws.calls (k : Nat) (a0 : Int) (a1 : Int) (a2 : Int) (r : Bool) (w : World) (h : clavigerlaw05_FieldLaws.f k a0 a1 a2 = some r) :
    Calls Try.prog 4 #[.int .u8 a0, .int .u8 a1, .int .u8 a2] w fun e w' => e = .returned (.bool r) ∧ Drawn0 w w' := by
  have H : ((field_Mul.f k a0 a1).bind fun t134 => ((field_Mul.f k a1 a0).bind fun t135 => (if t134 = t135 then ((field_Mul.f k a1 a2).bind fun t136 => ((field_Mul.f k a0 t136).bind fun t137 => ((field_Mul.f k a0 a1).bind fun t138 => ((field_Mul.f k t138 a2).bind fun t139 => (if t137 = t139 then ((field_Add.f a1 a2).bind fun t140 => ((field_Mul.f k a0 t140).bind fun t141 => ((field_Mul.f k a0 a1).bind fun t142 => ((field_Mul.f k a0 a2).bind fun t143 => ((field_Add.f t142 t143).bind fun t144 => (clavigerlaw05_FieldLaws.j0 k a0 (t141 != t144))))))) else (clavigerlaw05_FieldLaws.j0 k a0 true)))))) else (clavigerlaw05_FieldLaws.j0 k a0 true)))) = some r := h
  clear h
  have HC4 := Aside0.mk H
  clear H
  go_enter Try.func4, Try.ntmps4
  go_upto_region 1 with (fail)
  go_cut [43] (fun v43 wc => ∃ (kq : Nat) (x43_3 : Bool), v43 = .bool x43_3 ∧ Aside0 (clavigerlaw05_FieldLaws.j0 kq a0 x43_3 = some r) ∧ Aside0 (kq ≤ k) ∧ Drawn0 w wc)
  case first =>
    have H := HC4.out
    clear HC4
    replace H := Option.bind_eq_some_iff.mp H
    obtain ⟨t134, A50, H⟩ := H
    replace H : ((field_Mul.f k a1 a0).bind fun t135 => (if t134 = t135 then ((field_Mul.f k a1 a2).bind fun t136 => ((field_Mul.f k a0 t136).bind fun t137 => ((field_Mul.f k a0 a1).bind fun t138 => ((field_Mul.f k t138 a2).bind fun t139 => (if t137 = t139 then ((field_Add.f a1 a2).bind fun t140 => ((field_Mul.f k a0 t140).bind fun t141 => ((field_Mul.f k a0 a1).bind fun t142 => ((field_Mul.f k a0 a2).bind fun t143 => ((field_Add.f t142 t143).bind fun t144 => (clavigerlaw05_FieldLaws.j0 k a0 (t141 != t144))))))) else (clavigerlaw05_FieldLaws.j0 k a0 true)))))) else (clavigerlaw05_FieldLaws.j0 k a0 true))) = some r := H
    have A5 := Aside0.mk A50
    clear A50
    replace H := Option.bind_eq_some_iff.mp H
    obtain ⟨t135, A60, H⟩ := H
    replace H : (if t134 = t135 then ((field_Mul.f k a1 a2).bind fun t136 => ((field_Mul.f k a0 t136).bind fun t137 => ((field_Mul.f k a0 a1).bind fun t138 => ((field_Mul.f k t138 a2).bind fun t139 => (if t137 = t139 then ((field_Add.f a1 a2).bind fun t140 => ((field_Mul.f k a0 t140).bind fun t141 => ((field_Mul.f k a0 a1).bind fun t142 => ((field_Mul.f k a0 a2).bind fun t143 => ((field_Add.f t142 t143).bind fun t144 => (clavigerlaw05_FieldLaws.j0 k a0 (t141 != t144))))))) else (clavigerlaw05_FieldLaws.j0 k a0 true)))))) else (clavigerlaw05_FieldLaws.j0 k a0 true)) = some r := H
    have A6 := Aside0.mk A60
    clear A60
    by_cases c7 : t134 = t135
    · rw [if_pos c7] at H
      have c7b0 : (t134 == t135) = true := beq_iff_eq.mpr c7
      have c7b1 : (t134 != t135) = false := bne_eq_false_iff_eq.mpr c7
      clear c7
      (first | rw [c7b0] | (simp only [i64_w, i32_w]; rw [c7b0]) | skip)
      replace H := Option.bind_eq_some_iff.mp H
      obtain ⟨t136, A80, H⟩ := H
      replace H : ((field_Mul.f k a0 t136).bind fun t137 => ((field_Mul.f k a0 a1).bind fun t138 => ((field_Mul.f k t138 a2).bind fun t139 => (if t137 = t139 then ((field_Add.f a1 a2).bind fun t140 => ((field_Mul.f k a0 t140).bind fun t141 => ((field_Mul.f k a0 a1).bind fun t142 => ((field_Mul.f k a0 a2).bind fun t143 => ((field_Add.f t142 t143).bind fun t144 => (clavigerlaw05_FieldLaws.j0 k a0 (t141 != t144))))))) else (clavigerlaw05_FieldLaws.j0 k a0 true))))) = some r := H
      have A8 := Aside0.mk A80
      clear A80
      replace H := Option.bind_eq_some_iff.mp H
      obtain ⟨t137, A90, H⟩ := H
      replace H : ((field_Mul.f k a0 a1).bind fun t138 => ((field_Mul.f k t138 a2).bind fun t139 => (if t137 = t139 then ((field_Add.f a1 a2).bind fun t140 => ((field_Mul.f k a0 t140).bind fun t141 => ((field_Mul.f k a0 a1).bind fun t142 => ((field_Mul.f k a0 a2).bind fun t143 => ((field_Add.f t142 t143).bind fun t144 => (clavigerlaw05_FieldLaws.j0 k a0 (t141 != t144))))))) else (clavigerlaw05_FieldLaws.j0 k a0 true)))) = some r := H
      have A9 := Aside0.mk A90
      clear A90
      replace H := Option.bind_eq_some_iff.mp H
      obtain ⟨t138, A100, H⟩ := H
      obtain rfl : t134 = t138 := Option.some.inj (A5.out.symm.trans A100)
      replace H : ((field_Mul.f k t134 a2).bind fun t139 => (if t137 = t139 then ((field_Add.f a1 a2).bind fun t140 => ((field_Mul.f k a0 t140).bind fun t141 => ((field_Mul.f k a0 a1).bind fun t142 => ((field_Mul.f k a0 a2).bind fun t143 => ((field_Add.f t142 t143).bind fun t144 => (clavigerlaw05_FieldLaws.j0 k a0 (t141 != t144))))))) else (clavigerlaw05_FieldLaws.j0 k a0 true))) = some r := H
      have A10 := Aside0.mk A100
      clear A100
      replace H := Option.bind_eq_some_iff.mp H
      obtain ⟨t139, A110, H⟩ := H
      replace H : (if t137 = t139 then ((field_Add.f a1 a2).bind fun t140 => ((field_Mul.f k a0 t140).bind fun t141 => ((field_Mul.f k a0 a1).bind fun t142 => ((field_Mul.f k a0 a2).bind fun t143 => ((field_Add.f t142 t143).bind fun t144 => (clavigerlaw05_FieldLaws.j0 k a0 (t141 != t144))))))) else (clavigerlaw05_FieldLaws.j0 k a0 true)) = some r := H
      have A11 := Aside0.mk A110
      clear A110
      by_cases c12 : t137 = t139
      · rw [if_pos c12] at H
        have c12b0 : (t137 == t139) = true := beq_iff_eq.mpr c12
        have c12b1 : (t137 != t139) = false := bne_eq_false_iff_eq.mpr c12
        clear c12
        replace H := Option.bind_eq_some_iff.mp H
        obtain ⟨t140, A130, H⟩ := H
        replace H : ((field_Mul.f k a0 t140).bind fun t141 => ((field_Mul.f k a0 a1).bind fun t142 => ((field_Mul.f k a0 a2).bind fun t143 => ((field_Add.f t142 t143).bind fun t144 => (clavigerlaw05_FieldLaws.j0 k a0 (t141 != t144)))))) = some r := H
        have A13 := Aside0.mk A130
        clear A130
        replace H := Option.bind_eq_some_iff.mp H
        obtain ⟨t141, A140, H⟩ := H
        replace H : ((field_Mul.f k a0 a1).bind fun t142 => ((field_Mul.f k a0 a2).bind fun t143 => ((field_Add.f t142 t143).bind fun t144 => (clavigerlaw05_FieldLaws.j0 k a0 (t141 != t144))))) = some r := H
        have A14 := Aside0.mk A140
        clear A140
        replace H := Option.bind_eq_some_iff.mp H
        obtain ⟨t142, A150, H⟩ := H
        obtain rfl : t134 = t142 := Option.some.inj (A5.out.symm.trans A150)
        replace H : ((field_Mul.f k a0 a2).bind fun t143 => ((field_Add.f t134 t143).bind fun t144 => (clavigerlaw05_FieldLaws.j0 k a0 (t141 != t144)))) = some r := H
        have A15 := Aside0.mk A150
        clear A150
        replace H := Option.bind_eq_some_iff.mp H
        obtain ⟨t143, A160, H⟩ := H
        replace H : ((field_Add.f t134 t143).bind fun t144 => (clavigerlaw05_FieldLaws.j0 k a0 (t141 != t144))) = some r := H
        have A16 := Aside0.mk A160
        clear A160
        replace H := Option.bind_eq_some_iff.mp H
        obtain ⟨t144, A170, H⟩ := H
        replace H : (clavigerlaw05_FieldLaws.j0 k a0 (t141 != t144)) = some r := H
        have A17 := Aside0.mk A170
        clear A170
        have H' := Aside0.mk H
        clear H
        go_wp2_with (first | ((with_reducible refine gate_callee (f := 43) rfl ?_); refine goesL_ (some 11) rfl rfl Try.func43 (by kernel_rfl) rfl #[.int .u8 a0, .int .u8 a1] rfl (by (try simp only [List.map_toArray, List.map_cons, List.map_nil]); first | done | rfl | (simp only [List.length_drop, List.length_take]; rfl)) ?_; (with_reducible refine (field_Mul.calls k a0 a1 t134 _ A5.out).mono ?_); rintro e w' ⟨rfl, ⟨nd, rfl⟩⟩; refine ⟨_, rfl, ?_⟩) | ((with_reducible refine gate_callee (f := 43) rfl ?_); refine goesL_ (some 14) rfl rfl Try.func43 (by kernel_rfl) rfl #[.int .u8 a1, .int .u8 a0] rfl (by (try simp only [List.map_toArray, List.map_cons, List.map_nil]); first | done | rfl | (simp only [List.length_drop, List.length_take]; rfl)) ?_; (with_reducible refine (field_Mul.calls k a1 a0 t135 _ A6.out).mono ?_); rintro e w' ⟨rfl, ⟨nd, rfl⟩⟩; refine ⟨_, rfl, ?_⟩) | (go_at_call 43; (with_reducible refine (field_Mul.calls k a1 a2 t136 _ A8.out).mono ?_); rintro e w' ⟨rfl, ⟨nd, rfl⟩⟩) | (go_at_call 43; (with_reducible refine (field_Mul.calls k a0 t136 t137 _ A9.out).mono ?_); rintro e w' ⟨rfl, ⟨nd, rfl⟩⟩) | (go_at_call 43; (with_reducible refine (field_Mul.calls k a0 a1 t134 _ A10.out).mono ?_); rintro e w' ⟨rfl, ⟨nd, rfl⟩⟩) | (go_at_call 43; (with_reducible refine (field_Mul.calls k t134 a2 t139 _ A11.out).mono ?_); rintro e w' ⟨rfl, ⟨nd, rfl⟩⟩) | (go_at_call 39; (with_reducible refine (field_Add.calls a1 a2 t140 _ A13.out).mono ?_); rintro e w' ⟨rfl, ⟨nd, rfl⟩⟩) | (go_at_call 43; (with_reducible refine (field_Mul.calls k a0 t140 t141 _ A14.out).mono ?_); rintro e w' ⟨rfl, ⟨nd, rfl⟩⟩) | (go_at_call 43; (with_reducible refine (field_Mul.calls k a0 a1 t134 _ A15.out).mono ?_); rintro e w' ⟨rfl, ⟨nd, rfl⟩⟩) | (go_at_call 43; (with_reducible refine (field_Mul.calls k a0 a2 t143 _ A16.out).mono ?_); rintro e w' ⟨rfl, ⟨nd, rfl⟩⟩) | (go_at_call 39; (with_reducible refine (field_Add.calls t134 t143 t144 _ A17.out).mono ?_); rintro e w' ⟨rfl, ⟨nd, rfl⟩⟩))
        go_meet
        case rel => exact ⟨_, ((t141 != t144)), (by first | rfl | (simp; done) | (simp [*]; done)), H', ⟨by first | omega | exact Nat.le_refl _⟩, by repeat (first | exact Drawn0.refl _ | apply Drawn0.step)⟩
      · rw [if_neg c12] at H
        have c12b0 : (t137 == t139) = false := beq_eq_false_iff_ne.mpr c12
        have c12b1 : (t137 != t139) = true := bne_iff_ne.mpr c12
        have H' := Aside0.mk H
        clear H
        go_wp2_with (first | ((with_reducible refine gate_callee (f := 43) rfl ?_); refine goesL_ (some 11) rfl rfl Try.func43 (by kernel_rfl) rfl #[.int .u8 a0, .int .u8 a1] rfl (by (try simp only [List.map_toArray, List.map_cons, List.map_nil]); first | done | rfl | (simp only [List.length_drop, List.length_take]; rfl)) ?_; (with_reducible refine (field_Mul.calls k a0 a1 t134 _ A5.out).mono ?_); rintro e w' ⟨rfl, ⟨nd, rfl⟩⟩; refine ⟨_, rfl, ?_⟩) | ((with_reducible refine gate_callee (f := 43) rfl ?_); refine goesL_ (some 14) rfl rfl Try.func43 (by kernel_rfl) rfl #[.int .u8 a1, .int .u8 a0] rfl (by (try simp only [List.map_toArray, List.map_cons, List.map_nil]); first | done | rfl | (simp only [List.length_drop, List.length_take]; rfl)) ?_; (with_reducible refine (field_Mul.calls k a1 a0 t135 _ A6.out).mono ?_); rintro e w' ⟨rfl, ⟨nd, rfl⟩⟩; refine ⟨_, rfl, ?_⟩) | (go_at_call 43; (with_reducible refine (field_Mul.calls k a1 a2 t136 _ A8.out).mono ?_); rintro e w' ⟨rfl, ⟨nd, rfl⟩⟩) | (go_at_call 43; (with_reducible refine (field_Mul.calls k a0 t136 t137 _ A9.out).mono ?_); rintro e w' ⟨rfl, ⟨nd, rfl⟩⟩) | (go_at_call 43; (with_reducible refine (field_Mul.calls k a0 a1 t134 _ A10.out).mono ?_); rintro e w' ⟨rfl, ⟨nd, rfl⟩⟩) | (go_at_call 43; (with_reducible refine (field_Mul.calls k t134 a2 t139 _ A11.out).mono ?_); rintro e w' ⟨rfl, ⟨nd, rfl⟩⟩))
        go_meet
        case rel => exact ⟨_, (true), (by first | rfl | (simp; done) | (simp [*]; done)), H', ⟨by first | omega | exact Nat.le_refl _⟩, by repeat (first | exact Drawn0.refl _ | apply Drawn0.step)⟩
    · rw [if_neg c7] at H
      have c7b0 : (t134 == t135) = false := beq_eq_false_iff_ne.mpr c7
      have c7b1 : (t134 != t135) = true := bne_iff_ne.mpr c7
      (first | rw [c7b0] | (simp only [i64_w, i32_w]; rw [c7b0]) | skip)
      have H' := Aside0.mk H
      clear H
      go_wp2_with (first | ((with_reducible refine gate_callee (f := 43) rfl ?_); refine goesL_ (some 11) rfl rfl Try.func43 (by kernel_rfl) rfl #[.int .u8 a0, .int .u8 a1] rfl (by (try simp only [List.map_toArray, List.map_cons, List.map_nil]); first | done | rfl | (simp only [List.length_drop, List.length_take]; rfl)) ?_; (with_reducible refine (field_Mul.calls k a0 a1 t134 _ A5.out).mono ?_); rintro e w' ⟨rfl, ⟨nd, rfl⟩⟩; refine ⟨_, rfl, ?_⟩) | ((with_reducible refine gate_callee (f := 43) rfl ?_); refine goesL_ (some 14) rfl rfl Try.func43 (by kernel_rfl) rfl #[.int .u8 a1, .int .u8 a0] rfl (by (try simp only [List.map_toArray, List.map_cons, List.map_nil]); first | done | rfl | (simp only [List.length_drop, List.length_take]; rfl)) ?_; (with_reducible refine (field_Mul.calls k a1 a0 t135 _ A6.out).mono ?_); rintro e w' ⟨rfl, ⟨nd, rfl⟩⟩; refine ⟨_, rfl, ?_⟩))
      go_meet
      case rel => exact ⟨_, (true), (by first | rfl | (simp; done) | (simp [*]; done)), H', ⟨by first | omega | exact Nat.le_refl _⟩, by repeat (first | exact Drawn0.refl _ | apply Drawn0.step)⟩
  case rest =>
    clear HC4
    try clear c1
    try clear p2
    try clear c4
    try clear c7
    try clear c7b0
    try clear c7b1
    try clear c12
    try clear c12b0
    try clear c12b1
    obtain ⟨kq, x43_3, rfl, HA, HJ3, ⟨mc3, rfl⟩⟩ := hcut
    cases kq with
    | zero => exact absurd HA.out (by simp [clavigerlaw05_FieldLaws.j0])
    | succ kj3 =>
      have H := HA.out
      clear HA
      simp only [clavigerlaw05_FieldLaws.j0] at H
      by_cases c18 : x43_3 = true
      · subst c18
        have H1 : (some false) = some r := by rw [if_pos rfl] at H; exact H
        clear H
        have H := H1
        clear H1
        obtain rfl := Option.some.inj H
        go_wp2
        go_ret
        exact ⟨by first | rfl | (simp; done) | (simp [*]; done) | (simp [IntKind.wrap_u8, IntKind.wrap_i64, wrap64]; done), by repeat (first | exact Drawn0.refl _ | apply Drawn0.step)⟩
      · replace c18 := Bool.eq_false_iff.mpr c18
        subst c18
        have H1 : ((field_Log.f kj3 a0).bind fun bt145 => (if a0 = 0 then (clavigerlaw05_FieldLaws.j1 kj3 a0 bt145.2 false) else ((field_Inv.f kj3 a0).bind fun t147 => ((field_Mul.f kj3 a0 t147).bind fun t148 => (if t148 = 1 then (if bt145.2 = true then (if bt145.1 < 0 then (clavigerlaw05_FieldLaws.j1 kj3 a0 bt145.2 true) else (if bt145.1 > 254 then (clavigerlaw05_FieldLaws.j1 kj3 a0 bt145.2 true) else ((field_Pow.f kj3 3 bt145.1).bind fun t149 => (clavigerlaw05_FieldLaws.j1 kj3 a0 bt145.2 (t149 != a0))))) else (clavigerlaw05_FieldLaws.j1 kj3 a0 bt145.2 true)) else (clavigerlaw05_FieldLaws.j1 kj3 a0 bt145.2 true)))))) = some r := by rw [if_neg (show ¬ (false = true) by decide)] at H; exact H
        clear H
        have H := H1
        clear H1
        replace H := Option.bind_eq_some_iff.mp H
        obtain ⟨⟨t145, t146⟩, A190, H⟩ := H
        replace H : (if a0 = 0 then (clavigerlaw05_FieldLaws.j1 kj3 a0 t146 false) else ((field_Inv.f kj3 a0).bind fun t147 => ((field_Mul.f kj3 a0 t147).bind fun t148 => (if t148 = 1 then (if t146 = true then (if t145 < 0 then (clavigerlaw05_FieldLaws.j1 kj3 a0 t146 true) else (if t145 > 254 then (clavigerlaw05_FieldLaws.j1 kj3 a0 t146 true) else ((field_Pow.f kj3 3 t145).bind fun t149 => (clavigerlaw05_FieldLaws.j1 kj3 a0 t146 (t149 != a0))))) else (clavigerlaw05_FieldLaws.j1 kj3 a0 t146 true)) else (clavigerlaw05_FieldLaws.j1 kj3 a0 t146 true))))) = some r := H
        have A19 := Aside0.mk A190
        clear A190
        have HC20 := Aside0.mk H
        clear H
        go_upto_region 4 with (first | ((with_reducible refine gate_callee (f := 37) rfl ?_); refine goesL_ (some 46) rfl rfl Try.func37 (by kernel_rfl) rfl #[.int .u8 a0] rfl (by (try simp only [List.map_toArray, List.map_cons, List.map_nil]); first | done | rfl | (simp only [List.length_drop, List.length_take]; rfl)) ?_; (with_reducible refine (field_Log.calls kj3 a0 t145 t146 _ A19.out).mono ?_); rintro e w' ⟨rfl, ⟨nd, rfl⟩⟩; refine ⟨_, rfl, ?_⟩))
        (try simp only [Act.put, List.setIfInBounds_toArray, List.set_cons_zero, List.set_cons_succ])
        go_cut [75] (fun v75 wc => ∃ (kq : Nat) (x75_19 : Bool), v75 = .bool x75_19 ∧ Aside0 (clavigerlaw05_FieldLaws.j1 kq a0 t146 x75_19 = some r) ∧ Aside0 (kq ≤ kj3) ∧ Drawn0 w wc)
        case first =>
          have H := HC20.out
          clear HC20
          by_cases c21 : a0 = 0
          · rw [if_pos c21] at H
            have c21b0 : (a0 == 0) = true := beq_iff_eq.mpr c21
            have c21b1 : (a0 != 0) = false := bne_eq_false_iff_eq.mpr c21
            clear c21
            (first | rw [c21b0] | (simp only [i64_w, i32_w]; rw [c21b0]) | skip)
            have H' := Aside0.mk H
            clear H
            go_wp2
            go_meet
            case rel => exact ⟨_, (false), (by first | rfl | (simp; done) | (simp [*]; done)), H', ⟨by have := HJ3.out; first | omega | exact Nat.le_refl _⟩, by repeat (first | exact Drawn0.refl _ | apply Drawn0.step)⟩
          · rw [if_neg c21] at H
            have c21b0 : (a0 == 0) = false := beq_eq_false_iff_ne.mpr c21
            have c21b1 : (a0 != 0) = true := bne_iff_ne.mpr c21
            (first | rw [c21b0] | (simp only [i64_w, i32_w]; rw [c21b0]) | skip)
            replace H := Option.bind_eq_some_iff.mp H
            obtain ⟨t147, A220, H⟩ := H
            replace H : ((field_Mul.f kj3 a0 t147).bind fun t148 => (if t148 = 1 then (if t146 = true then (if t145 < 0 then (clavigerlaw05_FieldLaws.j1 kj3 a0 t146 true) else (if t145 > 254 then (clavigerlaw05_FieldLaws.j1 kj3 a0 t146 true) else ((field_Pow.f kj3 3 t145).bind fun t149 => (clavigerlaw05_FieldLaws.j1 kj3 a0 t146 (t149 != a0))))) else (clavigerlaw05_FieldLaws.j1 kj3 a0 t146 true)) else (clavigerlaw05_FieldLaws.j1 kj3 a0 t146 true))) = some r := H
            have A22 := Aside0.mk A220
            clear A220
            replace H := Option.bind_eq_some_iff.mp H
            obtain ⟨t148, A230, H⟩ := H
            replace H : (if t148 = 1 then (if t146 = true then (if t145 < 0 then (clavigerlaw05_FieldLaws.j1 kj3 a0 t146 true) else (if t145 > 254 then (clavigerlaw05_FieldLaws.j1 kj3 a0 t146 true) else ((field_Pow.f kj3 3 t145).bind fun t149 => (clavigerlaw05_FieldLaws.j1 kj3 a0 t146 (t149 != a0))))) else (clavigerlaw05_FieldLaws.j1 kj3 a0 t146 true)) else (clavigerlaw05_FieldLaws.j1 kj3 a0 t146 true)) = some r := H
            have A23 := Aside0.mk A230
            clear A230
            by_cases c24 : t148 = 1
            · rw [if_pos c24] at H
              have c24b0 : (t148 == 1) = true := beq_iff_eq.mpr c24
              have c24b1 : (t148 != 1) = false := bne_eq_false_iff_eq.mpr c24
              clear c24
              by_cases c25 : t146 = true
              · subst c25
                have H1 : (if t145 < 0 then (clavigerlaw05_FieldLaws.j1 kj3 a0 true true) else (if t145 > 254 then (clavigerlaw05_FieldLaws.j1 kj3 a0 true true) else ((field_Pow.f kj3 3 t145).bind fun t149 => (clavigerlaw05_FieldLaws.j1 kj3 a0 true (t149 != a0))))) = some r := by rw [if_pos rfl] at H; exact H
                clear H
                have H := H1
                clear H1
                by_cases c26 : t145 < 0
                · rw [if_pos c26] at H
                  have c26b0 : decide (t145 < 0) = true := decide_eq_true c26
                  clear c26
                  have H' := Aside0.mk H
                  clear H
                  go_wp2_with (first | (go_at_call 47; (with_reducible refine (field_Inv.calls kj3 a0 t147 _ A22.out).mono ?_); rintro e w' ⟨rfl, ⟨nd, rfl⟩⟩) | (go_at_call 43; (with_reducible refine (field_Mul.calls kj3 a0 t147 t148 _ A23.out).mono ?_); rintro e w' ⟨rfl, ⟨nd, rfl⟩⟩))
                  go_meet
                  case rel => exact ⟨_, (true), (by first | rfl | (simp; done) | (simp [*]; done)), H', ⟨by have := HJ3.out; first | omega | exact Nat.le_refl _⟩, by repeat (first | exact Drawn0.refl _ | apply Drawn0.step)⟩
                · rw [if_neg c26] at H
                  have c26b0 : decide (t145 < 0) = false := decide_eq_false c26
                  clear c26
                  by_cases c27 : t145 > 254
                  · rw [if_pos c27] at H
                    have c27b0 : decide (254 < t145) = true := decide_eq_true c27
                    clear c27
                    have H' := Aside0.mk H
                    clear H
                    go_wp2_with (first | (go_at_call 47; (with_reducible refine (field_Inv.calls kj3 a0 t147 _ A22.out).mono ?_); rintro e w' ⟨rfl, ⟨nd, rfl⟩⟩) | (go_at_call 43; (with_reducible refine (field_Mul.calls kj3 a0 t147 t148 _ A23.out).mono ?_); rintro e w' ⟨rfl, ⟨nd, rfl⟩⟩))
                    go_meet
                    case rel => exact ⟨_, (true), (by first | rfl | (simp; done) | (simp [*]; done)), H', ⟨by have := HJ3.out; first | omega | exact Nat.le_refl _⟩, by repeat (first | exact Drawn0.refl _ | apply Drawn0.step)⟩
                  · rw [if_neg c27] at H
                    have c27b0 : decide (254 < t145) = false := decide_eq_false c27
                    clear c27
                    replace H := Option.bind_eq_some_iff.mp H
                    obtain ⟨t149, A280, H⟩ := H
                    replace H : (clavigerlaw05_FieldLaws.j1 kj3 a0 true (t149 != a0)) = some r := H
                    have A28 := Aside0.mk A280
                    clear A280
                    have H' := Aside0.mk H
                    clear H
                    go_wp2_with (first | (go_at_call 47; (with_reducible refine (field_Inv.calls kj3 a0 t147 _ A22.out).mono ?_); rintro e w' ⟨rfl, ⟨nd, rfl⟩⟩) | (go_at_call 43; (with_reducible refine (field_Mul.calls kj3 a0 t147 t148 _ A23.out).mono ?_); rintro e w' ⟨rfl, ⟨nd, rfl⟩⟩) | (go_at_call 45; (with_reducible refine (field_Pow.calls kj3 3 t145 t149 _ A28.out).mono ?_); rintro e w' ⟨rfl, ⟨nd, rfl⟩⟩))
                    go_meet
                    case rel => exact ⟨_, ((t149 != a0)), (by first | rfl | (simp; done) | (simp [*]; done)), H', ⟨by have := HJ3.out; first | omega | exact Nat.le_refl _⟩, by repeat (first | exact Drawn0.refl _ | apply Drawn0.step)⟩
              · replace c25 := Bool.eq_false_iff.mpr c25
                subst c25
                have H1 : (clavigerlaw05_FieldLaws.j1 kj3 a0 false true) = some r := by rw [if_neg (show ¬ (false = true) by decide)] at H; exact H
                clear H
                have H := H1
                clear H1
                have H' := Aside0.mk H
                clear H
                go_wp2_with (first | (go_at_call 47; (with_reducible refine (field_Inv.calls kj3 a0 t147 _ A22.out).mono ?_); rintro e w' ⟨rfl, ⟨nd, rfl⟩⟩) | (go_at_call 43; (with_reducible refine (field_Mul.calls kj3 a0 t147 t148 _ A23.out).mono ?_); rintro e w' ⟨rfl, ⟨nd, rfl⟩⟩))
                go_meet
                case rel => exact ⟨_, (true), (by first | rfl | (simp; done) | (simp [*]; done)), H', ⟨by have := HJ3.out; first | omega | exact Nat.le_refl _⟩, by repeat (first | exact Drawn0.refl _ | apply Drawn0.step)⟩
            · rw [if_neg c24] at H
              have c24b0 : (t148 == 1) = false := beq_eq_false_iff_ne.mpr c24
              have c24b1 : (t148 != 1) = true := bne_iff_ne.mpr c24
              have H' := Aside0.mk H
              clear H
              go_wp2_with (first | (go_at_call 47; (with_reducible refine (field_Inv.calls kj3 a0 t147 _ A22.out).mono ?_); rintro e w' ⟨rfl, ⟨nd, rfl⟩⟩) | (go_at_call 43; (with_reducible refine (field_Mul.calls kj3 a0 t147 t148 _ A23.out).mono ?_); rintro e w' ⟨rfl, ⟨nd, rfl⟩⟩))
              go_meet
              case rel => exact ⟨_, (true), (by first | rfl | (simp; done) | (simp [*]; done)), H', ⟨by have := HJ3.out; first | omega | exact Nat.le_refl _⟩, by repeat (first | exact Drawn0.refl _ | apply Drawn0.step)⟩
        case rest =>
          clear HC20
          try clear c1
          try clear c2
          try clear p2
          try clear c3
          try clear c4
          try clear c7
          try clear c7b0
          try clear c7b1
          try clear c12
          try clear c12b0
          try clear c12b1
          try clear c18
          try clear c21
          try clear c21b0
          try clear c21b1
          try clear c24
          try clear c24b0
          try clear c24b1
          try clear c25
          try clear c26
          try clear c26b0
          try clear c27
          try clear c27b0
          try clear p2
          obtain ⟨kq, x75_19, rfl, HA, HJ19, ⟨mc19, rfl⟩⟩ := hcut
          cases kq with
          | zero => exact absurd HA.out (by simp [clavigerlaw05_FieldLaws.j1])
          | succ kj19 =>
            have H := HA.out
            clear HA
            simp only [clavigerlaw05_FieldLaws.j1] at H
            by_cases c29 : x75_19 = true
            · subst c29
              have H1 : (some false) = some r := by rw [if_pos rfl] at H; exact H
              clear H
              have H := H1
              clear H1
              obtain rfl := Option.some.inj H
              go_wp2
              go_ret
              exact ⟨by first | rfl | (simp; done) | (simp [*]; done) | (simp [IntKind.wrap_u8, IntKind.wrap_i64, wrap64]; done), by repeat (first | exact Drawn0.refl _ | apply Drawn0.step)⟩
            · replace c29 := Bool.eq_false_iff.mpr c29
              subst c29
              have H1 : ((field_Mul.f kj19 a0 1).bind fun t150 => (if t150 = a0 then ((field_Mul.f kj19 a0 0).bind fun t151 => (if t151 = 0 then (if a0 = 0 then (if t146 = true then (some false) else ((field_Inv.f kj19 a0).bind fun t152 => (if t152 = 0 then ((clavigerlaw05_awake.f kj19).bind fun t153 => (some t153)) else (some false)))) else ((clavigerlaw05_awake.f kj19).bind fun t154 => (some t154))) else (some false))) else (some false))) = some r := by rw [if_neg (show ¬ (false = true) by decide)] at H; exact H
              clear H
              have H := H1
              clear H1
              replace H := Option.bind_eq_some_iff.mp H
              obtain ⟨t150, A300, H⟩ := H
              replace H : (if t150 = a0 then ((field_Mul.f kj19 a0 0).bind fun t151 => (if t151 = 0 then (if a0 = 0 then (if t146 = true then (some false) else ((field_Inv.f kj19 a0).bind fun t152 => (if t152 = 0 then ((clavigerlaw05_awake.f kj19).bind fun t153 => (some t153)) else (some false)))) else ((clavigerlaw05_awake.f kj19).bind fun t154 => (some t154))) else (some false))) else (some false)) = some r := H
              have A30 := Aside0.mk A300
              clear A300
              by_cases c31 : t150 = a0
              · rw [if_pos c31] at H
                have c31b0 : (t150 == a0) = true := beq_iff_eq.mpr c31
                have c31b1 : (t150 != a0) = false := bne_eq_false_iff_eq.mpr c31
                clear c31
                replace H := Option.bind_eq_some_iff.mp H
                obtain ⟨t151, A320, H⟩ := H
                replace H : (if t151 = 0 then (if a0 = 0 then (if t146 = true then (some false) else ((field_Inv.f kj19 a0).bind fun t152 => (if t152 = 0 then ((clavigerlaw05_awake.f kj19).bind fun t153 => (some t153)) else (some false)))) else ((clavigerlaw05_awake.f kj19).bind fun t154 => (some t154))) else (some false)) = some r := H
                have A32 := Aside0.mk A320
                clear A320
                by_cases c33 : t151 = 0
                · rw [if_pos c33] at H
                  have c33b0 : (t151 == 0) = true := beq_iff_eq.mpr c33
                  have c33b1 : (t151 != 0) = false := bne_eq_false_iff_eq.mpr c33
                  clear c33
                  by_cases c34 : a0 = 0
                  · rw [if_pos c34] at H
                    have c34b0 : (a0 == 0) = true := beq_iff_eq.mpr c34
                    have c34b1 : (a0 != 0) = false := bne_eq_false_iff_eq.mpr c34
                    clear c34
                    by_cases c35 : t146 = true
                    · subst c35
                      have H1 : (some false) = some r := by rw [if_pos rfl] at H; exact H
                      clear H
                      have H := H1
                      clear H1
                      obtain rfl := Option.some.inj H
                      go_wp2_with (first | ((with_reducible refine gate_callee (f := 43) rfl ?_); refine goesL_ (some 77) rfl rfl Try.func43 (by kernel_rfl) rfl #[.int .u8 a0, .int .u8 1] rfl (by (try simp only [List.map_toArray, List.map_cons, List.map_nil]); first | done | rfl | (simp only [List.length_drop, List.length_take]; rfl)) ?_; (with_reducible refine (field_Mul.calls kj19 a0 1 t150 _ A30.out).mono ?_); rintro e w' ⟨rfl, ⟨nd, rfl⟩⟩; refine ⟨_, rfl, ?_⟩) | (go_at_call 43; (with_reducible refine (field_Mul.calls kj19 a0 0 t151 _ A32.out).mono ?_); rintro e w' ⟨rfl, ⟨nd, rfl⟩⟩))
                      go_ret
                      exact ⟨by first | rfl | (simp; done) | (simp [*]; done) | (simp [IntKind.wrap_u8, IntKind.wrap_i64, wrap64]; done), by repeat (first | exact Drawn0.refl _ | apply Drawn0.step)⟩
                    · replace c35 := Bool.eq_false_iff.mpr c35
                      subst c35
                      have H1 : ((field_Inv.f kj19 a0).bind fun t152 => (if t152 = 0 then ((clavigerlaw05_awake.f kj19).bind fun t153 => (some t153)) else (some false))) = some r := by rw [if_neg (show ¬ (false = true) by decide)] at H; exact H
                      clear H
                      have H := H1
                      clear H1
                      replace H := Option.bind_eq_some_iff.mp H
                      obtain ⟨t152, A360, H⟩ := H
                      replace H : (if t152 = 0 then ((clavigerlaw05_awake.f kj19).bind fun t153 => (some t153)) else (some false)) = some r := H
                      have A36 := Aside0.mk A360
                      clear A360
                      by_cases c37 : t152 = 0
                      · rw [if_pos c37] at H
                        have c37b0 : (t152 == 0) = true := beq_iff_eq.mpr c37
                        have c37b1 : (t152 != 0) = false := bne_eq_false_iff_eq.mpr c37
                        clear c37
                        replace H := Option.bind_eq_some_iff.mp H
                        obtain ⟨t153, A380, H⟩ := H
                        replace H : (some t153) = some r := H
                        have A38 := Aside0.mk A380
                        clear A380
                        obtain rfl := Option.some.inj H
                        go_wp2_with (first | ((with_reducible refine gate_callee (f := 43) rfl ?_); refine goesL_ (some 77) rfl rfl Try.func43 (by kernel_rfl) rfl #[.int .u8 a0, .int .u8 1] rfl (by (try simp only [List.map_toArray, List.map_cons, List.map_nil]); first | done | rfl | (simp only [List.length_drop, List.length_take]; rfl)) ?_; (with_reducible refine (field_Mul.calls kj19 a0 1 t150 _ A30.out).mono ?_); rintro e w' ⟨rfl, ⟨nd, rfl⟩⟩; refine ⟨_, rfl, ?_⟩) | (go_at_call 43; (with_reducible refine (field_Mul.calls kj19 a0 0 t151 _ A32.out).mono ?_); rintro e w' ⟨rfl, ⟨nd, rfl⟩⟩) | (go_at_call 47; (with_reducible refine (field_Inv.calls kj19 a0 t152 _ A36.out).mono ?_); rintro e w' ⟨rfl, ⟨nd, rfl⟩⟩) | (go_at_call 49; (with_reducible refine (clavigerlaw05_awake.calls kj19  t153 _ A38.out).mono ?_); rintro e w' ⟨rfl, ⟨nd, rfl⟩⟩))
                        go_ret
                        exact ⟨by first | rfl | (simp; done) | (simp [*]; done) | (simp [IntKind.wrap_u8, IntKind.wrap_i64, wrap64]; done), by repeat (first | exact Drawn0.refl _ | apply Drawn0.step)⟩
                      · rw [if_neg c37] at H
                        have c37b0 : (t152 == 0) = false := beq_eq_false_iff_ne.mpr c37
                        have c37b1 : (t152 != 0) = true := bne_iff_ne.mpr c37
                        obtain rfl := Option.some.inj H
                        go_wp2_with (first | ((with_reducible refine gate_callee (f := 43) rfl ?_); refine goesL_ (some 77) rfl rfl Try.func43 (by kernel_rfl) rfl #[.int .u8 a0, .int .u8 1] rfl (by (try simp only [List.map_toArray, List.map_cons, List.map_nil]); first | done | rfl | (simp only [List.length_drop, List.length_take]; rfl)) ?_; (with_reducible refine (field_Mul.calls kj19 a0 1 t150 _ A30.out).mono ?_); rintro e w' ⟨rfl, ⟨nd, rfl⟩⟩; refine ⟨_, rfl, ?_⟩) | (go_at_call 43; (with_reducible refine (field_Mul.calls kj19 a0 0 t151 _ A32.out).mono ?_); rintro e w' ⟨rfl, ⟨nd, rfl⟩⟩) | (go_at_call 47; (with_reducible refine (field_Inv.calls kj19 a0 t152 _ A36.out).mono ?_); rintro e w' ⟨rfl, ⟨nd, rfl⟩⟩))
                        go_ret
                        exact ⟨by first | rfl | (simp; done) | (simp [*]; done) | (simp [IntKind.wrap_u8, IntKind.wrap_i64, wrap64]; done), by repeat (first | exact Drawn0.refl _ | apply Drawn0.step)⟩
                  · rw [if_neg c34] at H
                    have c34b0 : (a0 == 0) = false := beq_eq_false_iff_ne.mpr c34
                    have c34b1 : (a0 != 0) = true := bne_iff_ne.mpr c34
                    replace H := Option.bind_eq_some_iff.mp H
                    obtain ⟨t154, A390, H⟩ := H
                    replace H : (some t154) = some r := H
                    have A39 := Aside0.mk A390
                    clear A390
                    obtain rfl := Option.some.inj H
                    go_wp2_with (first | ((with_reducible refine gate_callee (f := 43) rfl ?_); refine goesL_ (some 77) rfl rfl Try.func43 (by kernel_rfl) rfl #[.int .u8 a0, .int .u8 1] rfl (by (try simp only [List.map_toArray, List.map_cons, List.map_nil]); first | done | rfl | (simp only [List.length_drop, List.length_take]; rfl)) ?_; (with_reducible refine (field_Mul.calls kj19 a0 1 t150 _ A30.out).mono ?_); rintro e w' ⟨rfl, ⟨nd, rfl⟩⟩; refine ⟨_, rfl, ?_⟩) | (go_at_call 43; (with_reducible refine (field_Mul.calls kj19 a0 0 t151 _ A32.out).mono ?_); rintro e w' ⟨rfl, ⟨nd, rfl⟩⟩) | (go_at_call 49; (with_reducible refine (clavigerlaw05_awake.calls kj19  t154 _ A39.out).mono ?_); rintro e w' ⟨rfl, ⟨nd, rfl⟩⟩))
                    go_ret
                    exact ⟨by first | rfl | (simp; done) | (simp [*]; done) | (simp [IntKind.wrap_u8, IntKind.wrap_i64, wrap64]; done), by repeat (first | exact Drawn0.refl _ | apply Drawn0.step)⟩
                · rw [if_neg c33] at H
                  have c33b0 : (t151 == 0) = false := beq_eq_false_iff_ne.mpr c33
                  have c33b1 : (t151 != 0) = true := bne_iff_ne.mpr c33
                  obtain rfl := Option.some.inj H
                  go_wp2_with (first | ((with_reducible refine gate_callee (f := 43) rfl ?_); refine goesL_ (some 77) rfl rfl Try.func43 (by kernel_rfl) rfl #[.int .u8 a0, .int .u8 1] rfl (by (try simp only [List.map_toArray, List.map_cons, List.map_nil]); first | done | rfl | (simp only [List.length_drop, List.length_take]; rfl)) ?_; (with_reducible refine (field_Mul.calls kj19 a0 1 t150 _ A30.out).mono ?_); rintro e w' ⟨rfl, ⟨nd, rfl⟩⟩; refine ⟨_, rfl, ?_⟩) | (go_at_call 43; (with_reducible refine (field_Mul.calls kj19 a0 0 t151 _ A32.out).mono ?_); rintro e w' ⟨rfl, ⟨nd, rfl⟩⟩))
                  go_ret
                  exact ⟨by first | rfl | (simp; done) | (simp [*]; done) | (simp [IntKind.wrap_u8, IntKind.wrap_i64, wrap64]; done), by repeat (first | exact Drawn0.refl _ | apply Drawn0.step)⟩
              · rw [if_neg c31] at H
                have c31b0 : (t150 == a0) = false := beq_eq_false_iff_ne.mpr c31
                have c31b1 : (t150 != a0) = true := bne_iff_ne.mpr c31
                obtain rfl := Option.some.inj H
                go_wp2_with (first | ((with_reducible refine gate_callee (f := 43) rfl ?_); refine goesL_ (some 77) rfl rfl Try.func43 (by kernel_rfl) rfl #[.int .u8 a0, .int .u8 1] rfl (by (try simp only [List.map_toArray, List.map_cons, List.map_nil]); first | done | rfl | (simp only [List.length_drop, List.length_take]; rfl)) ?_; (with_reducible refine (field_Mul.calls kj19 a0 1 t150 _ A30.out).mono ?_); rintro e w' ⟨rfl, ⟨nd, rfl⟩⟩; refine ⟨_, rfl, ?_⟩))
                go_ret
                exact ⟨by first | rfl | (simp; done) | (simp [*]; done) | (simp [IntKind.wrap_u8, IntKind.wrap_i64, wrap64]; done), by repeat (first | exact Drawn0.refl _ | apply Drawn0.step)⟩

/-- THE ONE PURE STATEMENT of clavigerlaw05_FieldLaws: yours. -/
def clavigerlaw05_FieldLaws.Pure : Prop := ∀ (a0 : Int) (a1 : Int) (a2 : Int), (Lit.int .u8 a0).wf = true → (Lit.int .u8 a1).wf = true → (Lit.int .u8 a2).wf = true → ∃ k, clavigerlaw05_FieldLaws.f k a0 a1 a2 = some true
theorem clavigerlaw05_FieldLaws.walk (P : clavigerlaw05_FieldLaws.Pure) (a0 : Int) (a1 : Int) (a2 : Int) (w : World) (w0 : (Lit.int .u8 a0).wf = true) (w1 : (Lit.int .u8 a1).wf = true) (w2 : (Lit.int .u8 a2).wf = true) :
    Calls Try.prog 4 #[.int .u8 a0, .int .u8 a1, .int .u8 a2] w fun e w' => e = .returned (.bool true) ∧ Below w.heap.size w w' := by
  obtain ⟨k, h⟩ := P a0 a1 a2 w0 w1 w2
  refine (clavigerlaw05_FieldLaws.calls k a0 a1 a2 true w h).mono ?_
  rintro e w' ⟨rfl, hd⟩
  exact ⟨rfl, hd.below⟩

/-! ### field_Dot: function 50 -/
def field_Dot.l0 : Nat → ByteArray → ByteArray → Int → Int → Int → Option (Int)
  | 0, _, _, _, _, _ => none
  | k + 1, x0, x1, x5, x11, x12 => if x12 < x11 then (if 0 ≤ x12 then (if x12 < (x0.size : Int) then (if x12 < (x1.size : Int) then ((field_Mul.f k (bt x0 x12) (bt x1 x12)).bind fun t155 => (field_Dot.l0 k x0 x1 (Go.bits .xor .u8 x5 t155) x11 (wrap64 (x12 + 1)))) else (none)) else (none)) else (none)) else (some x5)
def field_Dot.f (k : Nat) (a0 : ByteArray) (a1 : ByteArray) : Option (Int) := field_Dot.l0 k a0 a1 0 (mn (a0.size : Int) (a1.size : Int)) 0
theorem field_Dot.mono_l : ∀ k, (∀ y0 y1 y2 y3 y4, LeO (field_Dot.l0 k y0 y1 y2 y3 y4) (field_Dot.l0 (k + 1) y0 y1 y2 y3 y4))
  | 0 => fun _ _ _ _ _ r h => by simp [field_Dot.l0] at h
  | k + 1 => by
    have ih0 := field_Dot.mono_l k
    · intro y0 y1 y2 y3 y4
      unfold field_Dot.l0
      repeat' first
      | (with_reducible exact ih0 _ _ _ _ _)
      | (with_reducible exact field_Mul.mono _ _ _)
      | (with_reducible exact LeO.refl _)
      | (with_reducible exact LeO.none _)
      | (with_reducible refine LeO.ite ?_ ?_)
      | (with_reducible refine LeO.bind ?_ (fun _ => ?_))
      | exact ih0 _ _ _ _ _
      | exact field_Mul.mono _ _ _
      | exact LeO.none _
      | refine LeO.ite ?_ ?_
      | refine LeO.bind ?_ (fun _ => ?_)
theorem field_Dot.mono : ∀ a0 a1 k, LeO (field_Dot.f k a0 a1) (field_Dot.f (k + 1) a0 a1) := by
  intro a0 a1 k
  have ih0 := field_Dot.mono_l k
  unfold field_Dot.f
  repeat' first
      | (with_reducible exact ih0 _ _ _ _ _)
      | (with_reducible exact field_Mul.mono _ _ _)
      | (with_reducible exact LeO.refl _)
      | (with_reducible exact LeO.none _)
      | (with_reducible refine LeO.ite ?_ ?_)
      | (with_reducible refine LeO.bind ?_ (fun _ => ?_))
      | exact ih0 _ _ _ _ _
      | exact field_Mul.mono _ _ _
      | exact LeO.none _
      | refine LeO.ite ?_ ?_
      | refine LeO.bind ?_ (fun _ => ?_)
set_option maxHeartbeats 8000000 in
set_option maxRecDepth 100000 in
theorem field_Dot.calls (k : Nat) (a0 : ByteArray) (a1 : ByteArray) (r : Int) (w : World) (h : field_Dot.f k a0 a1 = some r) :
    Calls Try.prog 50 #[.string a0, .string a1] w fun e w' => e = .returned (.int .u8 r) ∧ Below w.heap.size w w' := by
  have HB := Aside0.mk (Below.refl w.heap.size w)
  have H : (field_Dot.l0 k a0 a1 0 (mn (a0.size : Int) (a1.size : Int)) 0) = some r := h
  clear h
  obtain ⟨ji3, hji3⟩ : ∃ j_ : Int, (mn (a0.size : Int) (a1.size : Int)) = j_ := ⟨_, rfl⟩
  replace H : (field_Dot.l0 k a0 a1 0 ji3 0) = some r := by first | (rw [hji3] at H; exact H) | (simp only [hji3] at H ⊢; exact H)
  (try (have hji3l : 0 ≤ ji3 := by (rw [← hji3]; unfold mn; (repeat' split) <;> omega)))
  (try (have hji3m : 0 ≤ ji3 := by omega))
  have hji3_ : (if (a1.size : Int) < (a0.size : Int) then (a1.size : Int) else (a0.size : Int)) = ji3 := hji3
  have hji3q : (if a1.size < a0.size then (a1.size : Int) else (a0.size : Int)) = ji3 := by rw [← hji3_]; by_cases h_ : a1.size < a0.size; (· rw [if_pos h_, if_pos (by omega)]); (· rw [if_neg h_, if_neg (by omega)])
  have H' := Aside0.mk H
  clear H
  go_enter Try.func50, Try.ntmps50
  go_wp2
  repeat (go_quiet (fail); try go_wp2)
  go_loopg [5, 12] k (fun kq v5 v12 w' => ∃ (x5_1 : Int) (x12_1 : Int), v5 = .int .u8 x5_1 ∧ v12 = .int .i64 x12_1 ∧ Aside0 (field_Dot.l0 kq a0 a1 x5_1 ji3 x12_1 = some r) ∧ Aside0 (kq ≤ k) ∧ Aside0 (Below w.heap.size w w'))
  case atStart => exact ⟨(0), (0), (by first | rfl | (simp; done) | (simp [*]; done)), (by first | rfl | (simp; done) | (simp [*]; done)), H', ⟨Nat.le_refl _⟩, ⟨by repeat (first | (with_reducible first | exact HB.out | apply below_alloc | apply pw_below_drewN | apply below_drew1) | exact HB.out)⟩⟩
  case round =>
    clear H'
    try clear p2
    obtain ⟨x5_1, x12_1, rfl, rfl, HA, HK1, HB⟩ := hrel
    cases gk with
    | zero => exact absurd HA.out (by simp [field_Dot.l0])
    | succ k1 =>
      have H := HA.out
      clear HA
      simp only [field_Dot.l0] at H
      by_cases c4 : x12_1 < ji3
      · rw [if_pos c4] at H
        have c4b0 : decide (x12_1 < ji3) = true := decide_eq_true c4
        clear c4
        by_cases c5 : 0 ≤ x12_1
        · rw [if_pos c5] at H
          have c5b0 : decide (0 ≤ x12_1) = true := decide_eq_true c5
          clear c5
          by_cases c6 : x12_1 < (a0.size : Int)
          · rw [if_pos c6] at H
            have c6b0 : decide (x12_1 < (a0.size : Int)) = true := decide_eq_true c6
            clear c6
            by_cases c8 : x12_1 < (a1.size : Int)
            · rw [if_pos c8] at H
              have c8b0 : decide (x12_1 < (a1.size : Int)) = true := decide_eq_true c8
              clear c8
              replace H := Option.bind_eq_some_iff.mp H
              obtain ⟨t155, A100, H⟩ := H
              replace H : (field_Dot.l0 k1 a0 a1 (Go.bits .xor .u8 x5_1 t155) ji3 (wrap64 (x12_1 + 1))) = some r := H
              have A10 := Aside0.mk A100
              clear A100
              have H' := Aside0.mk H
              clear H
              have p7 : 0 ≤ (x12_1 : Int) := of_decide_eq_true (by first | (with_reducible assumption) | assumption)
              have q7 : x12_1 < (a0.size : Int) := of_decide_eq_true (by first | (with_reducible assumption) | assumption)
              have hx7 := bt_at a0 x12_1
              replace p7 := eq_true p7
              replace q7 := eq_true q7
              have p9 : 0 ≤ (x12_1 : Int) := of_decide_eq_true (by first | (with_reducible assumption) | assumption)
              have q9 : x12_1 < (a1.size : Int) := of_decide_eq_true (by first | (with_reducible assumption) | assumption)
              have hx9 := bt_at a1 x12_1
              replace p9 := eq_true p9
              replace q9 := eq_true q9
              go_wp2_with (first | (go_at_call 43; (with_reducible refine (field_Mul.calls k1 (bt a0 x12_1) (bt a1 x12_1) t155 _ A10.out).mono ?_); rintro e w' ⟨rfl, ⟨nd, rfl⟩⟩; (try first | exact ⟨rfl, _, World.drewN_drewN _ _ _⟩ | exact ⟨rfl, _, Eq.trans (World.drewN_drewN _ _ _) (congrArg (World.drewN _) (Nat.add_assoc _ _ _))⟩)))
              repeat (go_quiet (first | (go_at_call 43; (with_reducible refine (field_Mul.calls k1 (bt a0 x12_1) (bt a1 x12_1) t155 _ A10.out).mono ?_); rintro e w' ⟨rfl, ⟨nd, rfl⟩⟩; (try first | exact ⟨rfl, _, World.drewN_drewN _ _ _⟩ | exact ⟨rfl, _, Eq.trans (World.drewN_drewN _ _ _) (congrArg (World.drewN _) (Nat.add_assoc _ _ _))⟩))); try go_wp2_with (first | (go_at_call 43; (with_reducible refine (field_Mul.calls k1 (bt a0 x12_1) (bt a1 x12_1) t155 _ A10.out).mono ?_); rintro e w' ⟨rfl, ⟨nd, rfl⟩⟩; (try first | exact ⟨rfl, _, World.drewN_drewN _ _ _⟩ | exact ⟨rfl, _, Eq.trans (World.drewN_drewN _ _ _) (congrArg (World.drewN _) (Nat.add_assoc _ _ _))⟩))))
              go_roundg k1
              case measure => have := HK1.out; omega
              case rel => exact ⟨(Go.bits .xor .u8 x5_1 t155), (wrap64 (x12_1 + 1)), (by first | rfl | (simp; done) | (simp [*]; done)), (by first | rfl | (simp; done) | (simp [*]; done)), H', ⟨by have := HK1.out; omega⟩, ⟨by repeat (first | (with_reducible first | exact HB.out | apply below_alloc | apply pw_below_drewN | apply below_drew1) | exact HB.out)⟩⟩
            · rw [if_neg c8] at H
              exact absurd H (by simp)
          · rw [if_neg c6] at H
            exact absurd H (by simp)
        · rw [if_neg c5] at H
          exact absurd H (by simp)
      · rw [if_neg c4] at H
        have c4b0 : decide (x12_1 < ji3) = false := decide_eq_false c4
        clear c4
        obtain rfl := Option.some.inj H
        go_wp2
        repeat (go_quiet (fail); try go_wp2)
        go_ret
        exact ⟨by first | rfl | (simp [errW_none, errW_some] <;> rfl) | (simp only [← hji3]; first | rfl | (simp [errW_none, errW_some] <;> rfl)) | (simp [*, errW_none, errW_some] <;> rfl), by repeat (first | (with_reducible first | exact HB.out | apply below_alloc | apply pw_below_drewN | apply below_drew1) | exact HB.out)⟩

/-! ### clavigerref05_Dot: function 51 -/
def clavigerref05_Dot.l0 : Nat → ByteArray → ByteArray → Int → Int → Option (Int)
  | 0, _, _, _, _ => none
  | k + 1, x0, x1, x5, x6 => if x6 < (x0.size : Int) then (if x6 < (x1.size : Int) then (if 0 ≤ x6 then ((clavigerref05_Mul.f k (bt x0 x6) (bt x1 x6)).bind fun t156 => (clavigerref05_Dot.l0 k x0 x1 (Go.bits .xor .u8 x5 t156) (wrap64 (x6 + 1)))) else (none)) else (some x5)) else (some x5)
def clavigerref05_Dot.f (k : Nat) (a0 : ByteArray) (a1 : ByteArray) : Option (Int) := clavigerref05_Dot.l0 k a0 a1 0 0
theorem clavigerref05_Dot.mono_l : ∀ k, (∀ y0 y1 y2 y3, LeO (clavigerref05_Dot.l0 k y0 y1 y2 y3) (clavigerref05_Dot.l0 (k + 1) y0 y1 y2 y3))
  | 0 => fun _ _ _ _ r h => by simp [clavigerref05_Dot.l0] at h
  | k + 1 => by
    have ih0 := clavigerref05_Dot.mono_l k
    · intro y0 y1 y2 y3
      unfold clavigerref05_Dot.l0
      repeat' first
      | (with_reducible exact ih0 _ _ _ _)
      | (with_reducible exact clavigerref05_Mul.mono _ _ _)
      | (with_reducible exact LeO.refl _)
      | (with_reducible exact LeO.none _)
      | (with_reducible refine LeO.ite ?_ ?_)
      | (with_reducible refine LeO.bind ?_ (fun _ => ?_))
      | exact ih0 _ _ _ _
      | exact clavigerref05_Mul.mono _ _ _
      | exact LeO.none _
      | refine LeO.ite ?_ ?_
      | refine LeO.bind ?_ (fun _ => ?_)
theorem clavigerref05_Dot.mono : ∀ a0 a1 k, LeO (clavigerref05_Dot.f k a0 a1) (clavigerref05_Dot.f (k + 1) a0 a1) := by
  intro a0 a1 k
  have ih0 := clavigerref05_Dot.mono_l k
  unfold clavigerref05_Dot.f
  repeat' first
      | (with_reducible exact ih0 _ _ _ _)
      | (with_reducible exact clavigerref05_Mul.mono _ _ _)
      | (with_reducible exact LeO.refl _)
      | (with_reducible exact LeO.none _)
      | (with_reducible refine LeO.ite ?_ ?_)
      | (with_reducible refine LeO.bind ?_ (fun _ => ?_))
      | exact ih0 _ _ _ _
      | exact clavigerref05_Mul.mono _ _ _
      | exact LeO.none _
      | refine LeO.ite ?_ ?_
      | refine LeO.bind ?_ (fun _ => ?_)
set_option maxHeartbeats 8000000 in
set_option maxRecDepth 100000 in
theorem clavigerref05_Dot.calls (k : Nat) (a0 : ByteArray) (a1 : ByteArray) (r : Int) (w : World) (h : clavigerref05_Dot.f k a0 a1 = some r) :
    Calls Try.prog 51 #[.string a0, .string a1] w fun e w' => e = .returned (.int .u8 r) ∧ Drawn0 w w' := by
  have H : (clavigerref05_Dot.l0 k a0 a1 0 0) = some r := h
  clear h
  have H' := Aside0.mk H
  clear H
  go_enter Try.func51, Try.ntmps51
  go_wp2
  repeat (go_quiet (fail); try go_wp2)
  go_loopg [5, 6] k (fun kq v5 v6 w' => ∃ (x5_1 : Int) (x6_1 : Int), v5 = .int .u8 x5_1 ∧ v6 = .int .i64 x6_1 ∧ Aside0 (clavigerref05_Dot.l0 kq a0 a1 x5_1 x6_1 = some r) ∧ Aside0 (kq ≤ k) ∧ Drawn0 w w')
  case atStart => exact ⟨(0), (0), (by first | rfl | (simp; done) | (simp [*]; done)), (by first | rfl | (simp; done) | (simp [*]; done)), H', ⟨Nat.le_refl _⟩, by repeat (first | exact Drawn0.refl _ | apply Drawn0.step)⟩
  case round =>
    clear H'
    try clear p2
    obtain ⟨x5_1, x6_1, rfl, rfl, HA, HK1, ⟨m1, rfl⟩⟩ := hrel
    cases gk with
    | zero => exact absurd HA.out (by simp [clavigerref05_Dot.l0])
    | succ k1 =>
      have H := HA.out
      clear HA
      simp only [clavigerref05_Dot.l0] at H
      by_cases c3 : x6_1 < (a0.size : Int)
      · rw [if_pos c3] at H
        have c3b0 : decide (x6_1 < (a0.size : Int)) = true := decide_eq_true c3
        clear c3
        by_cases c4 : x6_1 < (a1.size : Int)
        · rw [if_pos c4] at H
          have c4b0 : decide (x6_1 < (a1.size : Int)) = true := decide_eq_true c4
          clear c4
          by_cases c5 : 0 ≤ x6_1
          · rw [if_pos c5] at H
            have c5b0 : decide (0 ≤ x6_1) = true := decide_eq_true c5
            clear c5
            replace H := Option.bind_eq_some_iff.mp H
            obtain ⟨t156, A80, H⟩ := H
            replace H : (clavigerref05_Dot.l0 k1 a0 a1 (Go.bits .xor .u8 x5_1 t156) (wrap64 (x6_1 + 1))) = some r := H
            have A8 := Aside0.mk A80
            clear A80
            have H' := Aside0.mk H
            clear H
            have p6 : 0 ≤ (x6_1 : Int) := of_decide_eq_true (by first | (with_reducible assumption) | assumption)
            have q6 : x6_1 < (a0.size : Int) := of_decide_eq_true (by first | (with_reducible assumption) | assumption)
            have hx6 := bt_at a0 x6_1
            replace p6 := eq_true p6
            replace q6 := eq_true q6
            have p7 : 0 ≤ (x6_1 : Int) := of_decide_eq_true (by first | (with_reducible assumption) | assumption)
            have q7 : x6_1 < (a1.size : Int) := of_decide_eq_true (by first | (with_reducible assumption) | assumption)
            have hx7 := bt_at a1 x6_1
            replace p7 := eq_true p7
            replace q7 := eq_true q7
            go_wp2_with (first | (go_at_call 44; (with_reducible refine (clavigerref05_Mul.calls k1 (bt a0 x6_1) (bt a1 x6_1) t156 _ A8.out).mono ?_); rintro e w' ⟨rfl, ⟨nd, rfl⟩⟩; (try first | exact ⟨rfl, _, World.drewN_drewN _ _ _⟩ | exact ⟨rfl, _, Eq.trans (World.drewN_drewN _ _ _) (congrArg (World.drewN _) (Nat.add_assoc _ _ _))⟩)))
            repeat (go_quiet (first | (go_at_call 44; (with_reducible refine (clavigerref05_Mul.calls k1 (bt a0 x6_1) (bt a1 x6_1) t156 _ A8.out).mono ?_); rintro e w' ⟨rfl, ⟨nd, rfl⟩⟩; (try first | exact ⟨rfl, _, World.drewN_drewN _ _ _⟩ | exact ⟨rfl, _, Eq.trans (World.drewN_drewN _ _ _) (congrArg (World.drewN _) (Nat.add_assoc _ _ _))⟩))); try go_wp2_with (first | (go_at_call 44; (with_reducible refine (clavigerref05_Mul.calls k1 (bt a0 x6_1) (bt a1 x6_1) t156 _ A8.out).mono ?_); rintro e w' ⟨rfl, ⟨nd, rfl⟩⟩; (try first | exact ⟨rfl, _, World.drewN_drewN _ _ _⟩ | exact ⟨rfl, _, Eq.trans (World.drewN_drewN _ _ _) (congrArg (World.drewN _) (Nat.add_assoc _ _ _))⟩))))
            go_roundg k1
            case measure => have := HK1.out; omega
            case rel => exact ⟨(Go.bits .xor .u8 x5_1 t156), (wrap64 (x6_1 + 1)), (by first | rfl | (simp; done) | (simp [*]; done)), (by first | rfl | (simp; done) | (simp [*]; done)), H', ⟨by have := HK1.out; omega⟩, by repeat (first | exact Drawn0.refl _ | apply Drawn0.step)⟩
          · rw [if_neg c5] at H
            exact absurd H (by simp)
        · rw [if_neg c4] at H
          have c4b0 : decide (x6_1 < (a1.size : Int)) = false := decide_eq_false c4
          clear c4
          obtain rfl := Option.some.inj H
          go_wp2
          repeat (go_quiet (fail); try go_wp2)
          go_ret
          exact ⟨by first | rfl | (simp; done) | (simp [*]; done) | (simp [IntKind.wrap_u8, IntKind.wrap_i64, wrap64]; done), by repeat (first | exact Drawn0.refl _ | apply Drawn0.step)⟩
      · rw [if_neg c3] at H
        have c3b0 : decide (x6_1 < (a0.size : Int)) = false := decide_eq_false c3
        clear c3
        obtain rfl := Option.some.inj H
        go_wp2
        repeat (go_quiet (fail); try go_wp2)
        go_ret
        exact ⟨by first | rfl | (simp; done) | (simp [*]; done) | (simp [IntKind.wrap_u8, IntKind.wrap_i64, wrap64]; done), by repeat (first | exact Drawn0.refl _ | apply Drawn0.step)⟩

/-! ### clavigerlaw05_FieldDots: function 5 -/
def clavigerlaw05_FieldDots.j0 : Nat → ByteArray → ByteArray → Bool → Option (Bool)
  | 0, _, _, _ => none
  | k + 1, x0, x1, x12 => if x12 = true then ((clavigerlaw05_awake.f k).bind fun t157 => (some t157)) else ((field_Dot.f k x0 x1).bind fun t158 => ((clavigerref05_Dot.f k x0 x1).bind fun t159 => (if t158 = t159 then ((clavigerlaw05_awake.f k).bind fun t160 => (some t160)) else (some false))))
def clavigerlaw05_FieldDots.f (k : Nat) (a0 : ByteArray) (a1 : ByteArray) : Option (Bool) := if (a0.size : Int) > 300 then (clavigerlaw05_FieldDots.j0 k a0 a1 true) else (clavigerlaw05_FieldDots.j0 k a0 a1 (decide ((a1.size : Int) > 300)))
theorem clavigerlaw05_FieldDots.mono_l : ∀ k, (∀ y0 y1 y2, LeO (clavigerlaw05_FieldDots.j0 k y0 y1 y2) (clavigerlaw05_FieldDots.j0 (k + 1) y0 y1 y2))
  | 0 => fun _ _ _ r h => by simp [clavigerlaw05_FieldDots.j0] at h
  | k + 1 => by
    have ih0 := clavigerlaw05_FieldDots.mono_l k
    · intro y0 y1 y2
      unfold clavigerlaw05_FieldDots.j0
      repeat' first
      | (with_reducible exact ih0 _ _ _)
      | (with_reducible exact clavigerlaw05_awake.mono _)
      | (with_reducible exact clavigerref05_Dot.mono _ _ _)
      | (with_reducible exact field_Dot.mono _ _ _)
      | (with_reducible exact LeO.refl _)
      | (with_reducible exact LeO.none _)
      | (with_reducible refine LeO.ite ?_ ?_)
      | (with_reducible refine LeO.bind ?_ (fun _ => ?_))
      | exact ih0 _ _ _
      | exact clavigerlaw05_awake.mono _
      | exact clavigerref05_Dot.mono _ _ _
      | exact field_Dot.mono _ _ _
      | exact LeO.none _
      | refine LeO.ite ?_ ?_
      | refine LeO.bind ?_ (fun _ => ?_)
theorem clavigerlaw05_FieldDots.mono : ∀ a0 a1 k, LeO (clavigerlaw05_FieldDots.f k a0 a1) (clavigerlaw05_FieldDots.f (k + 1) a0 a1) := by
  intro a0 a1 k
  have ih0 := clavigerlaw05_FieldDots.mono_l k
  unfold clavigerlaw05_FieldDots.f
  repeat' first
      | (with_reducible exact ih0 _ _ _)
      | (with_reducible exact clavigerlaw05_awake.mono _)
      | (with_reducible exact clavigerref05_Dot.mono _ _ _)
      | (with_reducible exact field_Dot.mono _ _ _)
      | (with_reducible exact LeO.refl _)
      | (with_reducible exact LeO.none _)
      | (with_reducible refine LeO.ite ?_ ?_)
      | (with_reducible refine LeO.bind ?_ (fun _ => ?_))
      | exact ih0 _ _ _
      | exact clavigerlaw05_awake.mono _
      | exact clavigerref05_Dot.mono _ _ _
      | exact field_Dot.mono _ _ _
      | exact LeO.none _
      | refine LeO.ite ?_ ?_
      | refine LeO.bind ?_ (fun _ => ?_)
set_option maxHeartbeats 8000000 in
set_option maxRecDepth 100000 in
theorem clavigerlaw05_FieldDots.calls (k : Nat) (a0 : ByteArray) (a1 : ByteArray) (r : Bool) (w : World) (h : clavigerlaw05_FieldDots.f k a0 a1 = some r) :
    Calls Try.prog 5 #[.string a0, .string a1] w fun e w' => e = .returned (.bool r) ∧ Below w.heap.size w w' := by
  have HB := Aside0.mk (Below.refl w.heap.size w)
  have H : (if (a0.size : Int) > 300 then (clavigerlaw05_FieldDots.j0 k a0 a1 true) else (clavigerlaw05_FieldDots.j0 k a0 a1 (decide ((a1.size : Int) > 300)))) = some r := h
  clear h
  have HC3 := Aside0.mk H
  clear H
  go_enter Try.func5, Try.ntmps5
  go_upto_region 1 with (fail)
  go_cut [12] (fun v12 wc => ∃ (kq : Nat) (x12_2 : Bool), v12 = .bool x12_2 ∧ Aside0 (clavigerlaw05_FieldDots.j0 kq a0 a1 x12_2 = some r) ∧ Aside0 (kq ≤ k) ∧ Aside0 (Below w.heap.size w wc))
  case first =>
    have H := HC3.out
    clear HC3
    by_cases c4 : (a0.size : Int) > 300
    · rw [if_pos c4] at H
      have c4b0 : decide (300 < (a0.size : Int)) = true := decide_eq_true c4
      have c4b1 : decide (300 < a0.size) = true := decide_eq_true (by omega)
      clear c4
      (first | rw [c4b0] | (simp only [i64_w, i32_w]; rw [c4b0]) | skip)
      have H' := Aside0.mk H
      clear H
      go_wp2
      go_meet
      case rel => exact ⟨_, (true), (by first | rfl | (simp; done) | (simp [*]; done)), H', ⟨by first | omega | exact Nat.le_refl _⟩, ⟨by repeat (first | (with_reducible first | exact HB.out | apply below_alloc | apply pw_below_drewN | apply below_drew1) | exact HB.out)⟩⟩
    · rw [if_neg c4] at H
      have c4b0 : decide (300 < (a0.size : Int)) = false := decide_eq_false c4
      have c4b1 : decide (300 < a0.size) = false := decide_eq_false (by omega)
      clear c4
      (first | rw [c4b0] | (simp only [i64_w, i32_w]; rw [c4b0]) | skip)
      have H' := Aside0.mk H
      clear H
      go_wp2
      go_meet
      case rel => exact ⟨_, (decide ((a1.size : Int) > 300)), (by first | rfl | (simp; done) | (simp [*]; done)), H', ⟨by first | omega | exact Nat.le_refl _⟩, ⟨by repeat (first | (with_reducible first | exact HB.out | apply below_alloc | apply pw_below_drewN | apply below_drew1) | exact HB.out)⟩⟩
  case rest =>
    clear HC3
    try clear p2
    try clear c4
    try clear c4b0
    try clear c4b1
    obtain ⟨kq, x12_2, rfl, HA, HJ2, HB⟩ := hcut
    cases kq with
    | zero => exact absurd HA.out (by simp [clavigerlaw05_FieldDots.j0])
    | succ kj2 =>
      have H := HA.out
      clear HA
      simp only [clavigerlaw05_FieldDots.j0] at H
      by_cases c5 : x12_2 = true
      · subst c5
        have H1 : ((clavigerlaw05_awake.f kj2).bind fun t157 => (some t157)) = some r := by rw [if_pos rfl] at H; exact H
        clear H
        have H := H1
        clear H1
        replace H := Option.bind_eq_some_iff.mp H
        obtain ⟨t157, A60, H⟩ := H
        replace H : (some t157) = some r := H
        have A6 := Aside0.mk A60
        clear A60
        obtain rfl := Option.some.inj H
        go_wp2_with (first | ((with_reducible refine gate_callee (f := 49) rfl ?_); refine goesL_ (some 13) rfl rfl Try.func49 (by kernel_rfl) rfl #[] rfl (by (try simp only [List.map_toArray, List.map_cons, List.map_nil]); first | done | rfl | (simp only [List.length_drop, List.length_take]; rfl)) ?_; (with_reducible refine (clavigerlaw05_awake.calls kj2  t157 _ A6.out).mono ?_); rintro e w' ⟨rfl, ⟨nd, rfl⟩⟩; refine ⟨_, rfl, ?_⟩))
        go_ret
        exact ⟨by first | rfl | (simp [errW_none, errW_some] <;> rfl) | (simp [*, errW_none, errW_some] <;> rfl), by repeat (first | (with_reducible first | exact HB.out | apply below_alloc | apply pw_below_drewN | apply below_drew1) | exact HB.out)⟩
      · replace c5 := Bool.eq_false_iff.mpr c5
        subst c5
        have H1 : ((field_Dot.f kj2 a0 a1).bind fun t158 => ((clavigerref05_Dot.f kj2 a0 a1).bind fun t159 => (if t158 = t159 then ((clavigerlaw05_awake.f kj2).bind fun t160 => (some t160)) else (some false)))) = some r := by rw [if_neg (show ¬ (false = true) by decide)] at H; exact H
        clear H
        have H := H1
        clear H1
        replace H := Option.bind_eq_some_iff.mp H
        obtain ⟨t158, A70, H⟩ := H
        replace H : ((clavigerref05_Dot.f kj2 a0 a1).bind fun t159 => (if t158 = t159 then ((clavigerlaw05_awake.f kj2).bind fun t160 => (some t160)) else (some false))) = some r := H
        have A7 := Aside0.mk A70
        clear A70
        replace H := Option.bind_eq_some_iff.mp H
        obtain ⟨t159, A80, H⟩ := H
        replace H : (if t158 = t159 then ((clavigerlaw05_awake.f kj2).bind fun t160 => (some t160)) else (some false)) = some r := H
        have A8 := Aside0.mk A80
        clear A80
        by_cases c9 : t158 = t159
        · rw [if_pos c9] at H
          have c9b0 : (t158 == t159) = true := beq_iff_eq.mpr c9
          have c9b1 : (t158 != t159) = false := bne_eq_false_iff_eq.mpr c9
          clear c9
          replace H := Option.bind_eq_some_iff.mp H
          obtain ⟨t160, A100, H⟩ := H
          replace H : (some t160) = some r := H
          have A10 := Aside0.mk A100
          clear A100
          obtain rfl := Option.some.inj H
          go_wp2_with (first | ((with_reducible refine gate_callee (f := 50) rfl ?_); refine goesL_ (some 16) rfl rfl Try.func50 (by kernel_rfl) rfl #[.string a0, .string a1] rfl (by (try simp only [List.map_toArray, List.map_cons, List.map_nil]); first | done | rfl | (simp only [List.length_drop, List.length_take]; rfl)) ?_; (with_reducible refine (field_Dot.calls kj2 a0 a1 t158 _ A7.out).mono ?_); rintro e w11 ⟨rfl, hb⟩; refine ⟨_, rfl, ?_⟩; have n0_ := Aside0.mk (below_step (by repeat (first | (with_reducible first | exact HB.out | apply below_alloc | apply pw_below_drewN | apply below_drew1) | exact HB.out)) hb); clear HB; have HB := n0_; clear n0_; (try clear hb); (try clear hb2); (try clear hk); (try clear hi)) | ((with_reducible refine gate_callee (f := 51) rfl ?_); refine goesL_ (some 19) rfl rfl Try.func51 (by kernel_rfl) rfl #[.string a0, .string a1] rfl (by (try simp only [List.map_toArray, List.map_cons, List.map_nil]); first | done | rfl | (simp only [List.length_drop, List.length_take]; rfl)) ?_; (with_reducible refine (clavigerref05_Dot.calls kj2 a0 a1 t159 _ A8.out).mono ?_); rintro e w' ⟨rfl, ⟨nd, rfl⟩⟩; refine ⟨_, rfl, ?_⟩) | (go_at_call 49; (with_reducible refine (clavigerlaw05_awake.calls kj2  t160 _ A10.out).mono ?_); rintro e w' ⟨rfl, ⟨nd, rfl⟩⟩))
          go_ret
          exact ⟨by first | rfl | (simp [errW_none, errW_some] <;> rfl) | (simp [*, errW_none, errW_some] <;> rfl), by repeat (first | (with_reducible first | exact HB.out | apply below_alloc | apply pw_below_drewN | apply below_drew1) | exact HB.out)⟩
        · rw [if_neg c9] at H
          have c9b0 : (t158 == t159) = false := beq_eq_false_iff_ne.mpr c9
          have c9b1 : (t158 != t159) = true := bne_iff_ne.mpr c9
          obtain rfl := Option.some.inj H
          go_wp2_with (first | ((with_reducible refine gate_callee (f := 50) rfl ?_); refine goesL_ (some 16) rfl rfl Try.func50 (by kernel_rfl) rfl #[.string a0, .string a1] rfl (by (try simp only [List.map_toArray, List.map_cons, List.map_nil]); first | done | rfl | (simp only [List.length_drop, List.length_take]; rfl)) ?_; (with_reducible refine (field_Dot.calls kj2 a0 a1 t158 _ A7.out).mono ?_); rintro e w12 ⟨rfl, hb⟩; refine ⟨_, rfl, ?_⟩; have n0_ := Aside0.mk (below_step (by repeat (first | (with_reducible first | exact HB.out | apply below_alloc | apply pw_below_drewN | apply below_drew1) | exact HB.out)) hb); clear HB; have HB := n0_; clear n0_; (try clear hb); (try clear hb2); (try clear hk); (try clear hi)) | ((with_reducible refine gate_callee (f := 51) rfl ?_); refine goesL_ (some 19) rfl rfl Try.func51 (by kernel_rfl) rfl #[.string a0, .string a1] rfl (by (try simp only [List.map_toArray, List.map_cons, List.map_nil]); first | done | rfl | (simp only [List.length_drop, List.length_take]; rfl)) ?_; (with_reducible refine (clavigerref05_Dot.calls kj2 a0 a1 t159 _ A8.out).mono ?_); rintro e w' ⟨rfl, ⟨nd, rfl⟩⟩; refine ⟨_, rfl, ?_⟩))
          go_ret
          exact ⟨by first | rfl | (simp [errW_none, errW_some] <;> rfl) | (simp [*, errW_none, errW_some] <;> rfl), by repeat (first | (with_reducible first | exact HB.out | apply below_alloc | apply pw_below_drewN | apply below_drew1) | exact HB.out)⟩

/-- THE ONE PURE STATEMENT of clavigerlaw05_FieldDots: yours. -/
def clavigerlaw05_FieldDots.Pure : Prop := ∀ (a0 : ByteArray) (a1 : ByteArray), a0.size ≤ 140737488351232 → a1.size ≤ 140737488351232 → ∃ k, clavigerlaw05_FieldDots.f k a0 a1 = some true
theorem clavigerlaw05_FieldDots.walk (P : clavigerlaw05_FieldDots.Pure) (a0 : ByteArray) (a1 : ByteArray) (w : World) (w0 : a0.size ≤ 140737488351232) (w1 : a1.size ≤ 140737488351232) :
    Calls Try.prog 5 #[.string a0, .string a1] w fun e w' => e = .returned (.bool true) ∧ Below w.heap.size w w' := by
  obtain ⟨k, h⟩ := P a0 a1 w0 w1
  refine (clavigerlaw05_FieldDots.calls k a0 a1 true w h).mono ?_
  rintro e w' ⟨rfl, hd⟩
  exact ⟨rfl, hd⟩

-- NOT PRINTED: function 212 (round_of)

-- NOT PRINTED: function 213 (round_state_text)

-- NOT PRINTED: function 168 (round_with)

-- NOT PRINTED: function 53 (round_Mix)

-- NOT PRINTED: function 170 (octets_Xor)

-- NOT PRINTED: function 54 (round_Key)

-- NOT PRINTED: function 55 (round_Unmix)

-- NOT PRINTED: function 75 (round_Shift)

-- NOT PRINTED: function 52 (clavigerlaw07_awake)

-- NOT PRINTED: function 6 (clavigerlaw07_RoundAdds)

end Go.Proofs.Ytokkhnjedmlbhaa.Pr
