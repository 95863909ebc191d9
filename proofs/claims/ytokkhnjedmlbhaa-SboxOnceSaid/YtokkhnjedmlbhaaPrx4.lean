-- written by the session's program wip/hp.py over the kit's print; Lean checks it
import Derived.Test.YtokkhnjedmlbhaaPrx0
import Derived.Test.YtokkhnjedmlbhaaPrx1
import Derived.Test.YtokkhnjedmlbhaaPrx2
namespace Go.Proofs.Ytokkhnjedmlbhaa.Pr
open Go.RowKit Go.Proofs.YtokkhnjedmlbhaaW.PrintWords Go.Proofs.YtokkhnjedmlbhaaW.PrintLast Go.Proofs.YtokkhnjedmlbhaaW.PrintMore
attribute [local go_sem] max2_int min2_int max_two min_two max_three min_three max_four min_four   -- for this text's walks alone
set_option linter.unusedVariables false
set_option linter.unusedSimpArgs false

/-! ### clavigerlaw05_FieldLaws: function 4 -/
mutual
def clavigerlaw05_FieldLaws.j0 : Nat → Int → Bool → Option (Bool)
 | 0, _, _ => none
 | k + 1, x0, x43 => if x43 = true then (some false) else ((field_Log.f k x0).bind fun bt145 => (if x0 = 0 then (clavigerlaw05_FieldLaws.j1 k x0 bt145.2 false) else ((field_Inv.f k x0).bind fun t147 => ((field_Mul.f k x0 t147).bind fun t148 => (if t148 = 1 then (if bt145.2 = true then (if bt145.1 < 0 then (clavigerlaw05_FieldLaws.j1 k x0 bt145.2 true) else (if bt145.1 > 254 then (clavigerlaw05_FieldLaws.j1 k x0 bt145.2 true) else ((field_Pow.f k 3 bt145.1).bind fun t149 => (clavigerlaw05_FieldLaws.j1 k x0 bt145.2 (t149 != x0))))) else (clavigerlaw05_FieldLaws.j1 k x0 bt145.2 true)) else (clavigerlaw05_FieldLaws.j1 k x0 bt145.2 true))))))
def clavigerlaw05_FieldLaws.j1 : Nat → Int → Bool → Bool → Option (Bool)
 | 0, _, _, _ => none
 | k + 1, x0, x8, x75 => if x75 = true then (some false) else ((field_Mul.f k x0 1).bind fun t150 => (if t150 = x0 then ((field_Mul.f k x0 0).bind fun t151 => (if t151 = 0 then (if x0 = 0 then (if x8 = true then (some false) else ((field_Inv.f k x0).bind fun t152 => (if t152 = 0 then ((clavigerlaw05_awake.f k).bind fun t153 => (some t153)) else (some false)))) else ((clavigerlaw05_awake.f k).bind fun t154 => (some t154))) else (some false))) else (some false)))
end
def clavigerlaw05_FieldLaws.f (k : Nat) (a0 : Int) (a1 : Int) (a2 : Int) : Option (Bool) := (field_Mul.f k a0 a1).bind fun t134 => ((field_Mul.f k a1 a0).bind fun t135 => (if t134 = t135 then ((field_Mul.f k a1 a2).bind fun t136 => ((field_Mul.f k a0 t136).bind fun t137 => ((field_Mul.f k a0 a1).bind fun t138 => ((field_Mul.f k t138 a2).bind fun t139 => (if t137 = t139 then ((field_Add.f a1 a2).bind fun t140 => ((field_Mul.f k a0 t140).bind fun t141 => ((field_Mul.f k a0 a1).bind fun t142 => ((field_Mul.f k a0 a2).bind fun t143 => ((field_Add.f t142 t143).bind fun t144 => (clavigerlaw05_FieldLaws.j0 k a0 (t141 != t144))))))) else (clavigerlaw05_FieldLaws.j0 k a0 true)))))) else (clavigerlaw05_FieldLaws.j0 k a0 true)))
theorem clavigerlaw05_FieldLaws.mono_l : ∀ k, (∀ y0 y1, LeO (clavigerlaw05_FieldLaws.j0 k y0 y1) (clavigerlaw05_FieldLaws.j0 (k + 1) y0 y1)) ∧ (∀ y0 y1 y2, LeO (clavigerlaw05_FieldLaws.j1 k y0 y1 y2) (clavigerlaw05_FieldLaws.j1 (k + 1) y0 y1 y2))
 | 0 => ⟨fun _ _ r h => by simp [clavigerlaw05_FieldLaws.j0] at h, fun _ _ _ r h => by simp [clavigerlaw05_FieldLaws.j1] at h⟩
 | k + 1 => by
  obtain ⟨ih0, ih1⟩ := clavigerlaw05_FieldLaws.mono_l k
  refine ⟨?_, ?_⟩
  ·intro y0 y1
   unfold clavigerlaw05_FieldLaws.j0
   repeat' first
   | (with_reducible exact ih0 _ _)
   | (with_reducible exact ih1 _ _ _)
   | (with_reducible exact clavigerlaw05_awake.mono _)
   | (with_reducible exact field_Inv.mono _ _)
   | (with_reducible exact field_Log.mono _ _)
   | (with_reducible exact field_Mul.mono _ _ _)
   | (with_reducible exact field_Pow.mono _ _ _)
   | (with_reducible exact LeO.refl _)
   | (with_reducible exact LeO.none _)
   | (with_reducible refine LeO.ite ?_ ?_)
   | (with_reducible refine LeO.bind ?_ (fun _ => ?_))
   | exact ih0 _ _
   | exact ih1 _ _ _
   | exact clavigerlaw05_awake.mono _
   | exact field_Inv.mono _ _
   | exact field_Log.mono _ _
   | exact field_Mul.mono _ _ _
   | exact field_Pow.mono _ _ _
   | exact LeO.none _
   | refine LeO.ite ?_ ?_
   | refine LeO.bind ?_ (fun _ => ?_)
  ·intro y0 y1 y2
   unfold clavigerlaw05_FieldLaws.j1
   repeat' first
   | (with_reducible exact ih0 _ _)
   | (with_reducible exact ih1 _ _ _)
   | (with_reducible exact clavigerlaw05_awake.mono _)
   | (with_reducible exact field_Inv.mono _ _)
   | (with_reducible exact field_Log.mono _ _)
   | (with_reducible exact field_Mul.mono _ _ _)
   | (with_reducible exact field_Pow.mono _ _ _)
   | (with_reducible exact LeO.refl _)
   | (with_reducible exact LeO.none _)
   | (with_reducible refine LeO.ite ?_ ?_)
   | (with_reducible refine LeO.bind ?_ (fun _ => ?_))
   | exact ih0 _ _
   | exact ih1 _ _ _
   | exact clavigerlaw05_awake.mono _
   | exact field_Inv.mono _ _
   | exact field_Log.mono _ _
   | exact field_Mul.mono _ _ _
   | exact field_Pow.mono _ _ _
   | exact LeO.none _
   | refine LeO.ite ?_ ?_
   | refine LeO.bind ?_ (fun _ => ?_)
theorem clavigerlaw05_FieldLaws.mono : ∀ a0 a1 a2 k, LeO (clavigerlaw05_FieldLaws.f k a0 a1 a2) (clavigerlaw05_FieldLaws.f (k + 1) a0 a1 a2) := by
 intro a0 a1 a2 k
 obtain ⟨ih0, ih1⟩ := clavigerlaw05_FieldLaws.mono_l k
 unfold clavigerlaw05_FieldLaws.f
 repeat' first
   | (with_reducible exact ih0 _ _)
   | (with_reducible exact ih1 _ _ _)
   | (with_reducible exact clavigerlaw05_awake.mono _)
   | (with_reducible exact field_Inv.mono _ _)
   | (with_reducible exact field_Log.mono _ _)
   | (with_reducible exact field_Mul.mono _ _ _)
   | (with_reducible exact field_Pow.mono _ _ _)
   | (with_reducible exact LeO.refl _)
   | (with_reducible exact LeO.none _)
   | (with_reducible refine LeO.ite ?_ ?_)
   | (with_reducible refine LeO.bind ?_ (fun _ => ?_))
   | exact ih0 _ _
   | exact ih1 _ _ _
   | exact clavigerlaw05_awake.mono _
   | exact field_Inv.mono _ _
   | exact field_Log.mono _ _
   | exact field_Mul.mono _ _ _
   | exact field_Pow.mono _ _ _
   | exact LeO.none _
   | refine LeO.ite ?_ ?_
   | refine LeO.bind ?_ (fun _ => ?_)
set_option maxHeartbeats 8000000 in
set_option maxRecDepth 100000 in
theorem clavigerlaw05_FieldLaws.calls (k : Nat) (a0 : Int) (a1 : Int) (a2 : Int) (r : Bool) (w : World) (h : clavigerlaw05_FieldLaws.f k a0 a1 a2 = some r) :
  Calls Try.prog 4 #[.int .u8 a0, .int .u8 a1, .int .u8 a2] w fun e w' => e = .returned (.bool r) ∧ Drawn0 w w' := by
 have H : ((field_Mul.f k a0 a1).bind fun t134 => ((field_Mul.f k a1 a0).bind fun t135 => (if t134 = t135 then ((field_Mul.f k a1 a2).bind fun t136 => ((field_Mul.f k a0 t136).bind fun t137 => ((field_Mul.f k a0 a1).bind fun t138 => ((field_Mul.f k t138 a2).bind fun t139 => (if t137 = t139 then ((field_Add.f a1 a2).bind fun t140 => ((field_Mul.f k a0 t140).bind fun t141 => ((field_Mul.f k a0 a1).bind fun t142 => ((field_Mul.f k a0 a2).bind fun t143 => ((field_Add.f t142 t143).bind fun t144 => (clavigerlaw05_FieldLaws.j0 k a0 (t141 != t144))))))) else (clavigerlaw05_FieldLaws.j0 k a0 true)))))) else (clavigerlaw05_FieldLaws.j0 k a0 true)))) = some r := h
 clear h
 have HC4 := Aside0.mk H
 clear H
 go_enter Try.func4, Try.ntmps4
 go_upto_region 1 with (fail)
 go_cut [43] (fun v43 wc => ∃ (kq : Nat) (x43_3 : Bool), v43 = .bool x43_3 ∧ Aside0 (clavigerlaw05_FieldLaws.j0 kq a0 x43_3 = some r) ∧ Aside0 (kq ≤ k) ∧ Drawn0 w wc)
 case first =>
  have H := HC4.out
  clear HC4
  replace H := Option.bind_eq_some_iff.mp H
  obtain ⟨t134, A50, H⟩ := H
  replace H : ((field_Mul.f k a1 a0).bind fun t135 => (if t134 = t135 then ((field_Mul.f k a1 a2).bind fun t136 => ((field_Mul.f k a0 t136).bind fun t137 => ((field_Mul.f k a0 a1).bind fun t138 => ((field_Mul.f k t138 a2).bind fun t139 => (if t137 = t139 then ((field_Add.f a1 a2).bind fun t140 => ((field_Mul.f k a0 t140).bind fun t141 => ((field_Mul.f k a0 a1).bind fun t142 => ((field_Mul.f k a0 a2).bind fun t143 => ((field_Add.f t142 t143).bind fun t144 => (clavigerlaw05_FieldLaws.j0 k a0 (t141 != t144))))))) else (clavigerlaw05_FieldLaws.j0 k a0 true)))))) else (clavigerlaw05_FieldLaws.j0 k a0 true))) = some r := H
  have A5 := Aside0.mk A50
  clear A50
  replace H := Option.bind_eq_some_iff.mp H
  obtain ⟨t135, A60, H⟩ := H
  replace H : (if t134 = t135 then ((field_Mul.f k a1 a2).bind fun t136 => ((field_Mul.f k a0 t136).bind fun t137 => ((field_Mul.f k a0 a1).bind fun t138 => ((field_Mul.f k t138 a2).bind fun t139 => (if t137 = t139 then ((field_Add.f a1 a2).bind fun t140 => ((field_Mul.f k a0 t140).bind fun t141 => ((field_Mul.f k a0 a1).bind fun t142 => ((field_Mul.f k a0 a2).bind fun t143 => ((field_Add.f t142 t143).bind fun t144 => (clavigerlaw05_FieldLaws.j0 k a0 (t141 != t144))))))) else (clavigerlaw05_FieldLaws.j0 k a0 true)))))) else (clavigerlaw05_FieldLaws.j0 k a0 true)) = some r := H
  have A6 := Aside0.mk A60
  clear A60
  by_cases c7 : t134 = t135
  ·rw [if_pos c7] at H
   have c7b0 : (t134 == t135) = true := beq_iff_eq.mpr c7
   have c7b1 : (t134 != t135) = false := bne_eq_false_iff_eq.mpr c7
   clear c7
   (first | rw [c7b0] | (simp only [i64_w, i32_w]; rw [c7b0]) | skip)
   replace H := Option.bind_eq_some_iff.mp H
   obtain ⟨t136, A80, H⟩ := H
   replace H : ((field_Mul.f k a0 t136).bind fun t137 => ((field_Mul.f k a0 a1).bind fun t138 => ((field_Mul.f k t138 a2).bind fun t139 => (if t137 = t139 then ((field_Add.f a1 a2).bind fun t140 => ((field_Mul.f k a0 t140).bind fun t141 => ((field_Mul.f k a0 a1).bind fun t142 => ((field_Mul.f k a0 a2).bind fun t143 => ((field_Add.f t142 t143).bind fun t144 => (clavigerlaw05_FieldLaws.j0 k a0 (t141 != t144))))))) else (clavigerlaw05_FieldLaws.j0 k a0 true))))) = some r := H
   have A8 := Aside0.mk A80
   clear A80
   replace H := Option.bind_eq_some_iff.mp H
   obtain ⟨t137, A90, H⟩ := H
   replace H : ((field_Mul.f k a0 a1).bind fun t138 => ((field_Mul.f k t138 a2).bind fun t139 => (if t137 = t139 then ((field_Add.f a1 a2).bind fun t140 => ((field_Mul.f k a0 t140).bind fun t141 => ((field_Mul.f k a0 a1).bind fun t142 => ((field_Mul.f k a0 a2).bind fun t143 => ((field_Add.f t142 t143).bind fun t144 => (clavigerlaw05_FieldLaws.j0 k a0 (t141 != t144))))))) else (clavigerlaw05_FieldLaws.j0 k a0 true)))) = some r := H
   have A9 := Aside0.mk A90
   clear A90
   replace H := Option.bind_eq_some_iff.mp H
   obtain ⟨t138, A100, H⟩ := H
   obtain rfl : t134 = t138 := Option.some.inj (A5.out.symm.trans A100)
   replace H : ((field_Mul.f k t134 a2).bind fun t139 => (if t137 = t139 then ((field_Add.f a1 a2).bind fun t140 => ((field_Mul.f k a0 t140).bind fun t141 => ((field_Mul.f k a0 a1).bind fun t142 => ((field_Mul.f k a0 a2).bind fun t143 => ((field_Add.f t142 t143).bind fun t144 => (clavigerlaw05_FieldLaws.j0 k a0 (t141 != t144))))))) else (clavigerlaw05_FieldLaws.j0 k a0 true))) = some r := H
   have A10 := Aside0.mk A100
   clear A100
   replace H := Option.bind_eq_some_iff.mp H
   obtain ⟨t139, A110, H⟩ := H
   replace H : (if t137 = t139 then ((field_Add.f a1 a2).bind fun t140 => ((field_Mul.f k a0 t140).bind fun t141 => ((field_Mul.f k a0 a1).bind fun t142 => ((field_Mul.f k a0 a2).bind fun t143 => ((field_Add.f t142 t143).bind fun t144 => (clavigerlaw05_FieldLaws.j0 k a0 (t141 != t144))))))) else (clavigerlaw05_FieldLaws.j0 k a0 true)) = some r := H
   have A11 := Aside0.mk A110
   clear A110
   by_cases c12 : t137 = t139
   ·rw [if_pos c12] at H
    have c12b0 : (t137 == t139) = true := beq_iff_eq.mpr c12
    have c12b1 : (t137 != t139) = false := bne_eq_false_iff_eq.mpr c12
    clear c12
    replace H := Option.bind_eq_some_iff.mp H
    obtain ⟨t140, A130, H⟩ := H
    replace H : ((field_Mul.f k a0 t140).bind fun t141 => ((field_Mul.f k a0 a1).bind fun t142 => ((field_Mul.f k a0 a2).bind fun t143 => ((field_Add.f t142 t143).bind fun t144 => (clavigerlaw05_FieldLaws.j0 k a0 (t141 != t144)))))) = some r := H
    have A13 := Aside0.mk A130
    clear A130
    replace H := Option.bind_eq_some_iff.mp H
    obtain ⟨t141, A140, H⟩ := H
    replace H : ((field_Mul.f k a0 a1).bind fun t142 => ((field_Mul.f k a0 a2).bind fun t143 => ((field_Add.f t142 t143).bind fun t144 => (clavigerlaw05_FieldLaws.j0 k a0 (t141 != t144))))) = some r := H
    have A14 := Aside0.mk A140
    clear A140
    replace H := Option.bind_eq_some_iff.mp H
    obtain ⟨t142, A150, H⟩ := H
    obtain rfl : t134 = t142 := Option.some.inj (A5.out.symm.trans A150)
    replace H : ((field_Mul.f k a0 a2).bind fun t143 => ((field_Add.f t134 t143).bind fun t144 => (clavigerlaw05_FieldLaws.j0 k a0 (t141 != t144)))) = some r := H
    have A15 := Aside0.mk A150
    clear A150
    replace H := Option.bind_eq_some_iff.mp H
    obtain ⟨t143, A160, H⟩ := H
    replace H : ((field_Add.f t134 t143).bind fun t144 => (clavigerlaw05_FieldLaws.j0 k a0 (t141 != t144))) = some r := H
    have A16 := Aside0.mk A160
    clear A160
    replace H := Option.bind_eq_some_iff.mp H
    obtain ⟨t144, A170, H⟩ := H
    replace H : (clavigerlaw05_FieldLaws.j0 k a0 (t141 != t144)) = some r := H
    have A17 := Aside0.mk A170
    clear A170
    have H' := Aside0.mk H
    clear H
    go_wp2_with (first | ((with_reducible refine gate_callee (f := 43) rfl ?_); refine goesL_ (some 11) rfl rfl Try.func43 (by kernel_rfl) rfl #[.int .u8 a0, .int .u8 a1] rfl (by (try simp only [List.map_toArray, List.map_cons, List.map_nil]); first | done | rfl | (simp only [List.length_drop, List.length_take]; rfl) | (simp only [ByteArray.size_extract, Nat.min_self, Nat.sub_zero, ByteArray.size_append]; first | done | rfl)) ?_; (with_reducible refine (field_Mul.calls k a0 a1 t134 _ A5.out).mono ?_); rintro e w' ⟨rfl, ⟨nd, rfl⟩⟩; refine ⟨_, rfl, ?_⟩) | ((with_reducible refine gate_callee (f := 43) rfl ?_); refine goesL_ (some 14) rfl rfl Try.func43 (by kernel_rfl) rfl #[.int .u8 a1, .int .u8 a0] rfl (by (try simp only [List.map_toArray, List.map_cons, List.map_nil]); first | done | rfl | (simp only [List.length_drop, List.length_take]; rfl) | (simp only [ByteArray.size_extract, Nat.min_self, Nat.sub_zero, ByteArray.size_append]; first | done | rfl)) ?_; (with_reducible refine (field_Mul.calls k a1 a0 t135 _ A6.out).mono ?_); rintro e w' ⟨rfl, ⟨nd, rfl⟩⟩; refine ⟨_, rfl, ?_⟩) | (go_at_call 43; (with_reducible refine (field_Mul.calls k a1 a2 t136 _ A8.out).mono ?_); rintro e w' ⟨rfl, ⟨nd, rfl⟩⟩) | (go_at_call 43; (with_reducible refine (field_Mul.calls k a0 t136 t137 _ A9.out).mono ?_); rintro e w' ⟨rfl, ⟨nd, rfl⟩⟩) | (go_at_call 43; (with_reducible refine (field_Mul.calls k a0 a1 t134 _ A10.out).mono ?_); rintro e w' ⟨rfl, ⟨nd, rfl⟩⟩) | (go_at_call 43; (with_reducible refine (field_Mul.calls k t134 a2 t139 _ A11.out).mono ?_); rintro e w' ⟨rfl, ⟨nd, rfl⟩⟩) | (go_at_call 39; (with_reducible refine (field_Add.calls a1 a2 t140 _ A13.out).mono ?_); rintro e w' ⟨rfl, ⟨nd, rfl⟩⟩) | (go_at_call 43; (with_reducible refine (field_Mul.calls k a0 t140 t141 _ A14.out).mono ?_); rintro e w' ⟨rfl, ⟨nd, rfl⟩⟩) | (go_at_call 43; (with_reducible refine (field_Mul.calls k a0 a1 t134 _ A15.out).mono ?_); rintro e w' ⟨rfl, ⟨nd, rfl⟩⟩) | (go_at_call 43; (with_reducible refine (field_Mul.calls k a0 a2 t143 _ A16.out).mono ?_); rintro e w' ⟨rfl, ⟨nd, rfl⟩⟩) | (go_at_call 39; (with_reducible refine (field_Add.calls t134 t143 t144 _ A17.out).mono ?_); rintro e w' ⟨rfl, ⟨nd, rfl⟩⟩))
    go_meet
    case rel => exact ⟨_, ((t141 != t144)), (by first | rfl | (simp; done) | (simp [*]; done)), H', ⟨by first | omega | exact Nat.le_refl _⟩, by repeat (first | exact Drawn0.refl _ | apply Drawn0.step)⟩
   ·rw [if_neg c12] at H
    have c12b0 : (t137 == t139) = false := beq_eq_false_iff_ne.mpr c12
    have c12b1 : (t137 != t139) = true := bne_iff_ne.mpr c12
    have H' := Aside0.mk H
    clear H
    go_wp2_with (first | ((with_reducible refine gate_callee (f := 43) rfl ?_); refine goesL_ (some 11) rfl rfl Try.func43 (by kernel_rfl) rfl #[.int .u8 a0, .int .u8 a1] rfl (by (try simp only [List.map_toArray, List.map_cons, List.map_nil]); first | done | rfl | (simp only [List.length_drop, List.length_take]; rfl) | (simp only [ByteArray.size_extract, Nat.min_self, Nat.sub_zero, ByteArray.size_append]; first | done | rfl)) ?_; (with_reducible refine (field_Mul.calls k a0 a1 t134 _ A5.out).mono ?_); rintro e w' ⟨rfl, ⟨nd, rfl⟩⟩; refine ⟨_, rfl, ?_⟩) | ((with_reducible refine gate_callee (f := 43) rfl ?_); refine goesL_ (some 14) rfl rfl Try.func43 (by kernel_rfl) rfl #[.int .u8 a1, .int .u8 a0] rfl (by (try simp only [List.map_toArray, List.map_cons, List.map_nil]); first | done | rfl | (simp only [List.length_drop, List.length_take]; rfl) | (simp only [ByteArray.size_extract, Nat.min_self, Nat.sub_zero, ByteArray.size_append]; first | done | rfl)) ?_; (with_reducible refine (field_Mul.calls k a1 a0 t135 _ A6.out).mono ?_); rintro e w' ⟨rfl, ⟨nd, rfl⟩⟩; refine ⟨_, rfl, ?_⟩) | (go_at_call 43; (with_reducible refine (field_Mul.calls k a1 a2 t136 _ A8.out).mono ?_); rintro e w' ⟨rfl, ⟨nd, rfl⟩⟩) | (go_at_call 43; (with_reducible refine (field_Mul.calls k a0 t136 t137 _ A9.out).mono ?_); rintro e w' ⟨rfl, ⟨nd, rfl⟩⟩) | (go_at_call 43; (with_reducible refine (field_Mul.calls k a0 a1 t134 _ A10.out).mono ?_); rintro e w' ⟨rfl, ⟨nd, rfl⟩⟩) | (go_at_call 43; (with_reducible refine (field_Mul.calls k t134 a2 t139 _ A11.out).mono ?_); rintro e w' ⟨rfl, ⟨nd, rfl⟩⟩))
    go_meet
    case rel => exact ⟨_, (true), (by first | rfl | (simp; done) | (simp [*]; done)), H', ⟨by first | omega | exact Nat.le_refl _⟩, by repeat (first | exact Drawn0.refl _ | apply Drawn0.step)⟩
  ·rw [if_neg c7] at H
   have c7b0 : (t134 == t135) = false := beq_eq_false_iff_ne.mpr c7
   have c7b1 : (t134 != t135) = true := bne_iff_ne.mpr c7
   (first | rw [c7b0] | (simp only [i64_w, i32_w]; rw [c7b0]) | skip)
   have H' := Aside0.mk H
   clear H
   go_wp2_with (first | ((with_reducible refine gate_callee (f := 43) rfl ?_); refine goesL_ (some 11) rfl rfl Try.func43 (by kernel_rfl) rfl #[.int .u8 a0, .int .u8 a1] rfl (by (try simp only [List.map_toArray, List.map_cons, List.map_nil]); first | done | rfl | (simp only [List.length_drop, List.length_take]; rfl) | (simp only [ByteArray.size_extract, Nat.min_self, Nat.sub_zero, ByteArray.size_append]; first | done | rfl)) ?_; (with_reducible refine (field_Mul.calls k a0 a1 t134 _ A5.out).mono ?_); rintro e w' ⟨rfl, ⟨nd, rfl⟩⟩; refine ⟨_, rfl, ?_⟩) | ((with_reducible refine gate_callee (f := 43) rfl ?_); refine goesL_ (some 14) rfl rfl Try.func43 (by kernel_rfl) rfl #[.int .u8 a1, .int .u8 a0] rfl (by (try simp only [List.map_toArray, List.map_cons, List.map_nil]); first | done | rfl | (simp only [List.length_drop, List.length_take]; rfl) | (simp only [ByteArray.size_extract, Nat.min_self, Nat.sub_zero, ByteArray.size_append]; first | done | rfl)) ?_; (with_reducible refine (field_Mul.calls k a1 a0 t135 _ A6.out).mono ?_); rintro e w' ⟨rfl, ⟨nd, rfl⟩⟩; refine ⟨_, rfl, ?_⟩))
   go_meet
   case rel => exact ⟨_, (true), (by first | rfl | (simp; done) | (simp [*]; done)), H', ⟨by first | omega | exact Nat.le_refl _⟩, by repeat (first | exact Drawn0.refl _ | apply Drawn0.step)⟩
 case rest =>
  clear HC4
  try clear c1
  try clear p2
  try clear c4
  try clear c7
  try clear c7b0
  try clear c7b1
  try clear c12
  try clear c12b0
  try clear c12b1
  obtain ⟨kq, x43_3, rfl, HA, HJ3, ⟨mc3, rfl⟩⟩ := hcut
  cases kq with
  | zero => exact absurd HA.out (by simp [clavigerlaw05_FieldLaws.j0])
  | succ kj3 =>
   have H := HA.out
   clear HA
   simp only [clavigerlaw05_FieldLaws.j0] at H
   by_cases c18 : x43_3 = true
   ·subst c18
    have H1 : (some false) = some r := by rw [if_pos rfl] at H; exact H
    clear H
    have H := H1
    clear H1
    obtain rfl := Option.some.inj H
    go_wp2
    go_ret
    exact ⟨by first | rfl | (simp; done) | (simp [*]; done) | (simp [IntKind.wrap_u8, IntKind.wrap_i64, wrap64]; done), by repeat (first | exact Drawn0.refl _ | apply Drawn0.step)⟩
   ·replace c18 := Bool.eq_false_iff.mpr c18
    subst c18
    have H1 : ((field_Log.f kj3 a0).bind fun bt145 => (if a0 = 0 then (clavigerlaw05_FieldLaws.j1 kj3 a0 bt145.2 false) else ((field_Inv.f kj3 a0).bind fun t147 => ((field_Mul.f kj3 a0 t147).bind fun t148 => (if t148 = 1 then (if bt145.2 = true then (if bt145.1 < 0 then (clavigerlaw05_FieldLaws.j1 kj3 a0 bt145.2 true) else (if bt145.1 > 254 then (clavigerlaw05_FieldLaws.j1 kj3 a0 bt145.2 true) else ((field_Pow.f kj3 3 bt145.1).bind fun t149 => (clavigerlaw05_FieldLaws.j1 kj3 a0 bt145.2 (t149 != a0))))) else (clavigerlaw05_FieldLaws.j1 kj3 a0 bt145.2 true)) else (clavigerlaw05_FieldLaws.j1 kj3 a0 bt145.2 true)))))) = some r := by rw [if_neg (show ¬ (false = true) by decide)] at H; exact H
    clear H
    have H := H1
    clear H1
    replace H := Option.bind_eq_some_iff.mp H
    obtain ⟨⟨t145, t146⟩, A190, H⟩ := H
    replace H : (if a0 = 0 then (clavigerlaw05_FieldLaws.j1 kj3 a0 t146 false) else ((field_Inv.f kj3 a0).bind fun t147 => ((field_Mul.f kj3 a0 t147).bind fun t148 => (if t148 = 1 then (if t146 = true then (if t145 < 0 then (clavigerlaw05_FieldLaws.j1 kj3 a0 t146 true) else (if t145 > 254 then (clavigerlaw05_FieldLaws.j1 kj3 a0 t146 true) else ((field_Pow.f kj3 3 t145).bind fun t149 => (clavigerlaw05_FieldLaws.j1 kj3 a0 t146 (t149 != a0))))) else (clavigerlaw05_FieldLaws.j1 kj3 a0 t146 true)) else (clavigerlaw05_FieldLaws.j1 kj3 a0 t146 true))))) = some r := H
    have A19 := Aside0.mk A190
    clear A190
    have HC20 := Aside0.mk H
    clear H
    go_upto_region 4 with (first | ((with_reducible refine gate_callee (f := 37) rfl ?_); refine goesL_ (some 46) rfl rfl Try.func37 (by kernel_rfl) rfl #[.int .u8 a0] rfl (by (try simp only [List.map_toArray, List.map_cons, List.map_nil]); first | done | rfl | (simp only [List.length_drop, List.length_take]; rfl) | (simp only [ByteArray.size_extract, Nat.min_self, Nat.sub_zero, ByteArray.size_append]; first | done | rfl)) ?_; (with_reducible refine (field_Log.calls kj3 a0 t145 t146 _ A19.out).mono ?_); rintro e w' ⟨rfl, ⟨nd, rfl⟩⟩; refine ⟨_, rfl, ?_⟩))
    (try simp only [Act.put, List.setIfInBounds_toArray, List.set_cons_zero, List.set_cons_succ])
    go_cut [75] (fun v75 wc => ∃ (kq : Nat) (x75_19 : Bool), v75 = .bool x75_19 ∧ Aside0 (clavigerlaw05_FieldLaws.j1 kq a0 t146 x75_19 = some r) ∧ Aside0 (kq ≤ kj3) ∧ Drawn0 w wc)
    case first =>
     have H := HC20.out
     clear HC20
     by_cases c21 : a0 = 0
     ·rw [if_pos c21] at H
      have c21b0 : (a0 == 0) = true := beq_iff_eq.mpr c21
      have c21b1 : (a0 != 0) = false := bne_eq_false_iff_eq.mpr c21
      clear c21
      (first | rw [c21b0] | (simp only [i64_w, i32_w]; rw [c21b0]) | skip)
      have H' := Aside0.mk H
      clear H
      go_wp2
      go_meet
      case rel => exact ⟨_, (false), (by first | rfl | (simp; done) | (simp [*]; done)), H', ⟨by have := HJ3.out; first | omega | exact Nat.le_refl _⟩, by repeat (first | exact Drawn0.refl _ | apply Drawn0.step)⟩
     ·rw [if_neg c21] at H
      have c21b0 : (a0 == 0) = false := beq_eq_false_iff_ne.mpr c21
      have c21b1 : (a0 != 0) = true := bne_iff_ne.mpr c21
      (first | rw [c21b0] | (simp only [i64_w, i32_w]; rw [c21b0]) | skip)
      replace H := Option.bind_eq_some_iff.mp H
      obtain ⟨t147, A220, H⟩ := H
      replace H : ((field_Mul.f kj3 a0 t147).bind fun t148 => (if t148 = 1 then (if t146 = true then (if t145 < 0 then (clavigerlaw05_FieldLaws.j1 kj3 a0 t146 true) else (if t145 > 254 then (clavigerlaw05_FieldLaws.j1 kj3 a0 t146 true) else ((field_Pow.f kj3 3 t145).bind fun t149 => (clavigerlaw05_FieldLaws.j1 kj3 a0 t146 (t149 != a0))))) else (clavigerlaw05_FieldLaws.j1 kj3 a0 t146 true)) else (clavigerlaw05_FieldLaws.j1 kj3 a0 t146 true))) = some r := H
      have A22 := Aside0.mk A220
      clear A220
      replace H := Option.bind_eq_some_iff.mp H
      obtain ⟨t148, A230, H⟩ := H
      replace H : (if t148 = 1 then (if t146 = true then (if t145 < 0 then (clavigerlaw05_FieldLaws.j1 kj3 a0 t146 true) else (if t145 > 254 then (clavigerlaw05_FieldLaws.j1 kj3 a0 t146 true) else ((field_Pow.f kj3 3 t145).bind fun t149 => (clavigerlaw05_FieldLaws.j1 kj3 a0 t146 (t149 != a0))))) else (clavigerlaw05_FieldLaws.j1 kj3 a0 t146 true)) else (clavigerlaw05_FieldLaws.j1 kj3 a0 t146 true)) = some r := H
      have A23 := Aside0.mk A230
      clear A230
      by_cases c24 : t148 = 1
      ·rw [if_pos c24] at H
       have c24b0 : (t148 == 1) = true := beq_iff_eq.mpr c24
       have c24b1 : (t148 != 1) = false := bne_eq_false_iff_eq.mpr c24
       clear c24
       by_cases c25 : t146 = true
       ·subst c25
        have H1 : (if t145 < 0 then (clavigerlaw05_FieldLaws.j1 kj3 a0 true true) else (if t145 > 254 then (clavigerlaw05_FieldLaws.j1 kj3 a0 true true) else ((field_Pow.f kj3 3 t145).bind fun t149 => (clavigerlaw05_FieldLaws.j1 kj3 a0 true (t149 != a0))))) = some r := by rw [if_pos rfl] at H; exact H
        clear H
        have H := H1
        clear H1
        by_cases c26 : t145 < 0
        ·rw [if_pos c26] at H
         have c26b0 : decide (t145 < 0) = true := decide_eq_true c26
         clear c26
         have H' := Aside0.mk H
         clear H
         go_wp2_with (first | (go_at_call 47; (with_reducible refine (field_Inv.calls kj3 a0 t147 _ A22.out).mono ?_); rintro e w' ⟨rfl, ⟨nd, rfl⟩⟩) | (go_at_call 43; (with_reducible refine (field_Mul.calls kj3 a0 t147 t148 _ A23.out).mono ?_); rintro e w' ⟨rfl, ⟨nd, rfl⟩⟩))
         go_meet
         case rel => exact ⟨_, (true), (by first | rfl | (simp; done) | (simp [*]; done)), H', ⟨by have := HJ3.out; first | omega | exact Nat.le_refl _⟩, by repeat (first | exact Drawn0.refl _ | apply Drawn0.step)⟩
        ·rw [if_neg c26] at H
         have c26b0 : decide (t145 < 0) = false := decide_eq_false c26
         clear c26
         by_cases c27 : t145 > 254
         ·rw [if_pos c27] at H
          have c27b0 : decide (254 < t145) = true := decide_eq_true c27
          clear c27
          have H' := Aside0.mk H
          clear H
          go_wp2_with (first | (go_at_call 47; (with_reducible refine (field_Inv.calls kj3 a0 t147 _ A22.out).mono ?_); rintro e w' ⟨rfl, ⟨nd, rfl⟩⟩) | (go_at_call 43; (with_reducible refine (field_Mul.calls kj3 a0 t147 t148 _ A23.out).mono ?_); rintro e w' ⟨rfl, ⟨nd, rfl⟩⟩))
          go_meet
          case rel => exact ⟨_, (true), (by first | rfl | (simp; done) | (simp [*]; done)), H', ⟨by have := HJ3.out; first | omega | exact Nat.le_refl _⟩, by repeat (first | exact Drawn0.refl _ | apply Drawn0.step)⟩
         ·rw [if_neg c27] at H
          have c27b0 : decide (254 < t145) = false := decide_eq_false c27
          clear c27
          replace H := Option.bind_eq_some_iff.mp H
          obtain ⟨t149, A280, H⟩ := H
          replace H : (clavigerlaw05_FieldLaws.j1 kj3 a0 true (t149 != a0)) = some r := H
          have A28 := Aside0.mk A280
          clear A280
          have H' := Aside0.mk H
          clear H
          go_wp2_with (first | (go_at_call 47; (with_reducible refine (field_Inv.calls kj3 a0 t147 _ A22.out).mono ?_); rintro e w' ⟨rfl, ⟨nd, rfl⟩⟩) | (go_at_call 43; (with_reducible refine (field_Mul.calls kj3 a0 t147 t148 _ A23.out).mono ?_); rintro e w' ⟨rfl, ⟨nd, rfl⟩⟩) | (go_at_call 45; (with_reducible refine (field_Pow.calls kj3 3 t145 t149 _ A28.out).mono ?_); rintro e w' ⟨rfl, ⟨nd, rfl⟩⟩))
          go_meet
          case rel => exact ⟨_, ((t149 != a0)), (by first | rfl | (simp; done) | (simp [*]; done)), H', ⟨by have := HJ3.out; first | omega | exact Nat.le_refl _⟩, by repeat (first | exact Drawn0.refl _ | apply Drawn0.step)⟩
       ·replace c25 := Bool.eq_false_iff.mpr c25
        subst c25
        have H1 : (clavigerlaw05_FieldLaws.j1 kj3 a0 false true) = some r := by rw [if_neg (show ¬ (false = true) by decide)] at H; exact H
        clear H
        have H := H1
        clear H1
        have H' := Aside0.mk H
        clear H
        go_wp2_with (first | (go_at_call 47; (with_reducible refine (field_Inv.calls kj3 a0 t147 _ A22.out).mono ?_); rintro e w' ⟨rfl, ⟨nd, rfl⟩⟩) | (go_at_call 43; (with_reducible refine (field_Mul.calls kj3 a0 t147 t148 _ A23.out).mono ?_); rintro e w' ⟨rfl, ⟨nd, rfl⟩⟩))
        go_meet
        case rel => exact ⟨_, (true), (by first | rfl | (simp; done) | (simp [*]; done)), H', ⟨by have := HJ3.out; first | omega | exact Nat.le_refl _⟩, by repeat (first | exact Drawn0.refl _ | apply Drawn0.step)⟩
      ·rw [if_neg c24] at H
       have c24b0 : (t148 == 1) = false := beq_eq_false_iff_ne.mpr c24
       have c24b1 : (t148 != 1) = true := bne_iff_ne.mpr c24
       have H' := Aside0.mk H
       clear H
       go_wp2_with (first | (go_at_call 47; (with_reducible refine (field_Inv.calls kj3 a0 t147 _ A22.out).mono ?_); rintro e w' ⟨rfl, ⟨nd, rfl⟩⟩) | (go_at_call 43; (with_reducible refine (field_Mul.calls kj3 a0 t147 t148 _ A23.out).mono ?_); rintro e w' ⟨rfl, ⟨nd, rfl⟩⟩))
       go_meet
       case rel => exact ⟨_, (true), (by first | rfl | (simp; done) | (simp [*]; done)), H', ⟨by have := HJ3.out; first | omega | exact Nat.le_refl _⟩, by repeat (first | exact Drawn0.refl _ | apply Drawn0.step)⟩
    case rest =>
     clear HC20
     try clear c1
     try clear c2
     try clear p2
     try clear c3
     try clear c4
     try clear c7
     try clear c7b0
     try clear c7b1
     try clear c12
     try clear c12b0
     try clear c12b1
     try clear c18
     try clear c21
     try clear c21b0
     try clear c21b1
     try clear c24
     try clear c24b0
     try clear c24b1
     try clear c25
     try clear c26
     try clear c26b0
     try clear c27
     try clear c27b0
     try clear p2
     obtain ⟨kq, x75_19, rfl, HA, HJ19, ⟨mc19, rfl⟩⟩ := hcut
     cases kq with
     | zero => exact absurd HA.out (by simp [clavigerlaw05_FieldLaws.j1])
     | succ kj19 =>
      have H := HA.out
      clear HA
      simp only [clavigerlaw05_FieldLaws.j1] at H
      by_cases c29 : x75_19 = true
      ·subst c29
       have H1 : (some false) = some r := by rw [if_pos rfl] at H; exact H
       clear H
       have H := H1
       clear H1
       obtain rfl := Option.some.inj H
       go_wp2
       go_ret
       exact ⟨by first | rfl | (simp; done) | (simp [*]; done) | (simp [IntKind.wrap_u8, IntKind.wrap_i64, wrap64]; done), by repeat (first | exact Drawn0.refl _ | apply Drawn0.step)⟩
      ·replace c29 := Bool.eq_false_iff.mpr c29
       subst c29
       have H1 : ((field_Mul.f kj19 a0 1).bind fun t150 => (if t150 = a0 then ((field_Mul.f kj19 a0 0).bind fun t151 => (if t151 = 0 then (if a0 = 0 then (if t146 = true then (some false) else ((field_Inv.f kj19 a0).bind fun t152 => (if t152 = 0 then ((clavigerlaw05_awake.f kj19).bind fun t153 => (some t153)) else (some false)))) else ((clavigerlaw05_awake.f kj19).bind fun t154 => (some t154))) else (some false))) else (some false))) = some r := by rw [if_neg (show ¬ (false = true) by decide)] at H; exact H
       clear H
       have H := H1
       clear H1
       replace H := Option.bind_eq_some_iff.mp H
       obtain ⟨t150, A300, H⟩ := H
       replace H : (if t150 = a0 then ((field_Mul.f kj19 a0 0).bind fun t151 => (if t151 = 0 then (if a0 = 0 then (if t146 = true then (some false) else ((field_Inv.f kj19 a0).bind fun t152 => (if t152 = 0 then ((clavigerlaw05_awake.f kj19).bind fun t153 => (some t153)) else (some false)))) else ((clavigerlaw05_awake.f kj19).bind fun t154 => (some t154))) else (some false))) else (some false)) = some r := H
       have A30 := Aside0.mk A300
       clear A300
       by_cases c31 : t150 = a0
       ·rw [if_pos c31] at H
        have c31b0 : (t150 == a0) = true := beq_iff_eq.mpr c31
        have c31b1 : (t150 != a0) = false := bne_eq_false_iff_eq.mpr c31
        clear c31
        replace H := Option.bind_eq_some_iff.mp H
        obtain ⟨t151, A320, H⟩ := H
        replace H : (if t151 = 0 then (if a0 = 0 then (if t146 = true then (some false) else ((field_Inv.f kj19 a0).bind fun t152 => (if t152 = 0 then ((clavigerlaw05_awake.f kj19).bind fun t153 => (some t153)) else (some false)))) else ((clavigerlaw05_awake.f kj19).bind fun t154 => (some t154))) else (some false)) = some r := H
        have A32 := Aside0.mk A320
        clear A320
        by_cases c33 : t151 = 0
        ·rw [if_pos c33] at H
         have c33b0 : (t151 == 0) = true := beq_iff_eq.mpr c33
         have c33b1 : (t151 != 0) = false := bne_eq_false_iff_eq.mpr c33
         clear c33
         by_cases c34 : a0 = 0
         ·rw [if_pos c34] at H
          have c34b0 : (a0 == 0) = true := beq_iff_eq.mpr c34
          have c34b1 : (a0 != 0) = false := bne_eq_false_iff_eq.mpr c34
          clear c34
          by_cases c35 : t146 = true
          ·subst c35
           have H1 : (some false) = some r := by rw [if_pos rfl] at H; exact H
           clear H
           have H := H1
           clear H1
           obtain rfl := Option.some.inj H
           go_wp2_with (first | ((with_reducible refine gate_callee (f := 43) rfl ?_); refine goesL_ (some 77) rfl rfl Try.func43 (by kernel_rfl) rfl #[.int .u8 a0, .int .u8 1] rfl (by (try simp only [List.map_toArray, List.map_cons, List.map_nil]); first | done | rfl | (simp only [List.length_drop, List.length_take]; rfl) | (simp only [ByteArray.size_extract, Nat.min_self, Nat.sub_zero, ByteArray.size_append]; first | done | rfl)) ?_; (with_reducible refine (field_Mul.calls kj19 a0 1 t150 _ A30.out).mono ?_); rintro e w' ⟨rfl, ⟨nd, rfl⟩⟩; refine ⟨_, rfl, ?_⟩) | (go_at_call 43; (with_reducible refine (field_Mul.calls kj19 a0 0 t151 _ A32.out).mono ?_); rintro e w' ⟨rfl, ⟨nd, rfl⟩⟩))
           go_ret
           exact ⟨by first | rfl | (simp; done) | (simp [*]; done) | (simp [IntKind.wrap_u8, IntKind.wrap_i64, wrap64]; done), by repeat (first | exact Drawn0.refl _ | apply Drawn0.step)⟩
          ·replace c35 := Bool.eq_false_iff.mpr c35
           subst c35
           have H1 : ((field_Inv.f kj19 a0).bind fun t152 => (if t152 = 0 then ((clavigerlaw05_awake.f kj19).bind fun t153 => (some t153)) else (some false))) = some r := by rw [if_neg (show ¬ (false = true) by decide)] at H; exact H
           clear H
           have H := H1
           clear H1
           replace H := Option.bind_eq_some_iff.mp H
           obtain ⟨t152, A360, H⟩ := H
           replace H : (if t152 = 0 then ((clavigerlaw05_awake.f kj19).bind fun t153 => (some t153)) else (some false)) = some r := H
           have A36 := Aside0.mk A360
           clear A360
           by_cases c37 : t152 = 0
           ·rw [if_pos c37] at H
            have c37b0 : (t152 == 0) = true := beq_iff_eq.mpr c37
            have c37b1 : (t152 != 0) = false := bne_eq_false_iff_eq.mpr c37
            clear c37
            replace H := Option.bind_eq_some_iff.mp H
            obtain ⟨t153, A380, H⟩ := H
            replace H : (some t153) = some r := H
            have A38 := Aside0.mk A380
            clear A380
            obtain rfl := Option.some.inj H
            go_wp2_with (first | ((with_reducible refine gate_callee (f := 43) rfl ?_); refine goesL_ (some 77) rfl rfl Try.func43 (by kernel_rfl) rfl #[.int .u8 a0, .int .u8 1] rfl (by (try simp only [List.map_toArray, List.map_cons, List.map_nil]); first | done | rfl | (simp only [List.length_drop, List.length_take]; rfl) | (simp only [ByteArray.size_extract, Nat.min_self, Nat.sub_zero, ByteArray.size_append]; first | done | rfl)) ?_; (with_reducible refine (field_Mul.calls kj19 a0 1 t150 _ A30.out).mono ?_); rintro e w' ⟨rfl, ⟨nd, rfl⟩⟩; refine ⟨_, rfl, ?_⟩) | (go_at_call 43; (with_reducible refine (field_Mul.calls kj19 a0 0 t151 _ A32.out).mono ?_); rintro e w' ⟨rfl, ⟨nd, rfl⟩⟩) | (go_at_call 47; (with_reducible refine (field_Inv.calls kj19 a0 t152 _ A36.out).mono ?_); rintro e w' ⟨rfl, ⟨nd, rfl⟩⟩) | (go_at_call 49; (with_reducible refine (clavigerlaw05_awake.calls kj19  t153 _ A38.out).mono ?_); rintro e w' ⟨rfl, ⟨nd, rfl⟩⟩))
            go_ret
            exact ⟨by first | rfl | (simp; done) | (simp [*]; done) | (simp [IntKind.wrap_u8, IntKind.wrap_i64, wrap64]; done), by repeat (first | exact Drawn0.refl _ | apply Drawn0.step)⟩
           ·rw [if_neg c37] at H
            have c37b0 : (t152 == 0) = false := beq_eq_false_iff_ne.mpr c37
            have c37b1 : (t152 != 0) = true := bne_iff_ne.mpr c37
            obtain rfl := Option.some.inj H
            go_wp2_with (first | ((with_reducible refine gate_callee (f := 43) rfl ?_); refine goesL_ (some 77) rfl rfl Try.func43 (by kernel_rfl) rfl #[.int .u8 a0, .int .u8 1] rfl (by (try simp only [List.map_toArray, List.map_cons, List.map_nil]); first | done | rfl | (simp only [List.length_drop, List.length_take]; rfl) | (simp only [ByteArray.size_extract, Nat.min_self, Nat.sub_zero, ByteArray.size_append]; first | done | rfl)) ?_; (with_reducible refine (field_Mul.calls kj19 a0 1 t150 _ A30.out).mono ?_); rintro e w' ⟨rfl, ⟨nd, rfl⟩⟩; refine ⟨_, rfl, ?_⟩) | (go_at_call 43; (with_reducible refine (field_Mul.calls kj19 a0 0 t151 _ A32.out).mono ?_); rintro e w' ⟨rfl, ⟨nd, rfl⟩⟩) | (go_at_call 47; (with_reducible refine (field_Inv.calls kj19 a0 t152 _ A36.out).mono ?_); rintro e w' ⟨rfl, ⟨nd, rfl⟩⟩))
            go_ret
            exact ⟨by first | rfl | (simp; done) | (simp [*]; done) | (simp [IntKind.wrap_u8, IntKind.wrap_i64, wrap64]; done), by repeat (first | exact Drawn0.refl _ | apply Drawn0.step)⟩
         ·rw [if_neg c34] at H
          have c34b0 : (a0 == 0) = false := beq_eq_false_iff_ne.mpr c34
          have c34b1 : (a0 != 0) = true := bne_iff_ne.mpr c34
          replace H := Option.bind_eq_some_iff.mp H
          obtain ⟨t154, A390, H⟩ := H
          replace H : (some t154) = some r := H
          have A39 := Aside0.mk A390
          clear A390
          obtain rfl := Option.some.inj H
          go_wp2_with (first | ((with_reducible refine gate_callee (f := 43) rfl ?_); refine goesL_ (some 77) rfl rfl Try.func43 (by kernel_rfl) rfl #[.int .u8 a0, .int .u8 1] rfl (by (try simp only [List.map_toArray, List.map_cons, List.map_nil]); first | done | rfl | (simp only [List.length_drop, List.length_take]; rfl) | (simp only [ByteArray.size_extract, Nat.min_self, Nat.sub_zero, ByteArray.size_append]; first | done | rfl)) ?_; (with_reducible refine (field_Mul.calls kj19 a0 1 t150 _ A30.out).mono ?_); rintro e w' ⟨rfl, ⟨nd, rfl⟩⟩; refine ⟨_, rfl, ?_⟩) | (go_at_call 43; (with_reducible refine (field_Mul.calls kj19 a0 0 t151 _ A32.out).mono ?_); rintro e w' ⟨rfl, ⟨nd, rfl⟩⟩) | (go_at_call 49; (with_reducible refine (clavigerlaw05_awake.calls kj19  t154 _ A39.out).mono ?_); rintro e w' ⟨rfl, ⟨nd, rfl⟩⟩))
          go_ret
          exact ⟨by first | rfl | (simp; done) | (simp [*]; done) | (simp [IntKind.wrap_u8, IntKind.wrap_i64, wrap64]; done), by repeat (first | exact Drawn0.refl _ | apply Drawn0.step)⟩
        ·rw [if_neg c33] at H
         have c33b0 : (t151 == 0) = false := beq_eq_false_iff_ne.mpr c33
         have c33b1 : (t151 != 0) = true := bne_iff_ne.mpr c33
         obtain rfl := Option.some.inj H
         go_wp2_with (first | ((with_reducible refine gate_callee (f := 43) rfl ?_); refine goesL_ (some 77) rfl rfl Try.func43 (by kernel_rfl) rfl #[.int .u8 a0, .int .u8 1] rfl (by (try simp only [List.map_toArray, List.map_cons, List.map_nil]); first | done | rfl | (simp only [List.length_drop, List.length_take]; rfl) | (simp only [ByteArray.size_extract, Nat.min_self, Nat.sub_zero, ByteArray.size_append]; first | done | rfl)) ?_; (with_reducible refine (field_Mul.calls kj19 a0 1 t150 _ A30.out).mono ?_); rintro e w' ⟨rfl, ⟨nd, rfl⟩⟩; refine ⟨_, rfl, ?_⟩) | (go_at_call 43; (with_reducible refine (field_Mul.calls kj19 a0 0 t151 _ A32.out).mono ?_); rintro e w' ⟨rfl, ⟨nd, rfl⟩⟩))
         go_ret
         exact ⟨by first | rfl | (simp; done) | (simp [*]; done) | (simp [IntKind.wrap_u8, IntKind.wrap_i64, wrap64]; done), by repeat (first | exact Drawn0.refl _ | apply Drawn0.step)⟩
       ·rw [if_neg c31] at H
        have c31b0 : (t150 == a0) = false := beq_eq_false_iff_ne.mpr c31
        have c31b1 : (t150 != a0) = true := bne_iff_ne.mpr c31
        obtain rfl := Option.some.inj H
        go_wp2_with (first | ((with_reducible refine gate_callee (f := 43) rfl ?_); refine goesL_ (some 77) rfl rfl Try.func43 (by kernel_rfl) rfl #[.int .u8 a0, .int .u8 1] rfl (by (try simp only [List.map_toArray, List.map_cons, List.map_nil]); first | done | rfl | (simp only [List.length_drop, List.length_take]; rfl) | (simp only [ByteArray.size_extract, Nat.min_self, Nat.sub_zero, ByteArray.size_append]; first | done | rfl)) ?_; (with_reducible refine (field_Mul.calls kj19 a0 1 t150 _ A30.out).mono ?_); rintro e w' ⟨rfl, ⟨nd, rfl⟩⟩; refine ⟨_, rfl, ?_⟩))
        go_ret
        exact ⟨by first | rfl | (simp; done) | (simp [*]; done) | (simp [IntKind.wrap_u8, IntKind.wrap_i64, wrap64]; done), by repeat (first | exact Drawn0.refl _ | apply Drawn0.step)⟩

/-- THE ONE PURE STATEMENT of clavigerlaw05_FieldLaws: yours. -/
def clavigerlaw05_FieldLaws.Pure : Prop := ∀ (a0 : Int) (a1 : Int) (a2 : Int), (Lit.int .u8 a0).wf = true → (Lit.int .u8 a1).wf = true → (Lit.int .u8 a2).wf = true → ∃ k, clavigerlaw05_FieldLaws.f k a0 a1 a2 = some true
theorem clavigerlaw05_FieldLaws.walk (P : clavigerlaw05_FieldLaws.Pure) (a0 : Int) (a1 : Int) (a2 : Int) (w : World) (w0 : (Lit.int .u8 a0).wf = true) (w1 : (Lit.int .u8 a1).wf = true) (w2 : (Lit.int .u8 a2).wf = true) :
  Calls Try.prog 4 #[.int .u8 a0, .int .u8 a1, .int .u8 a2] w fun e w' => e = .returned (.bool true) ∧ Below w.heap.size w w' := by
 obtain ⟨k, h⟩ := P a0 a1 a2 w0 w1 w2
 refine (clavigerlaw05_FieldLaws.calls k a0 a1 a2 true w h).mono ?_
 rintro e w' ⟨rfl, hd⟩
 exact ⟨rfl, hd.below⟩

end Go.Proofs.Ytokkhnjedmlbhaa.Pr
