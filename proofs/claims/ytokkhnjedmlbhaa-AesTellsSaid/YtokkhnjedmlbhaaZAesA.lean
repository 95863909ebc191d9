-- several texts in one (by the session's program shake.py)
import Derived.Test.YtokkhnjedmlbhaaZPrg05
import Derived.Test.YtokkhnjedmlbhaaZPrL09awake
import Derived.Test.YtokkhnjedmlbhaaZAesR
section
namespace Go.Proofs.Ytokkhnjedmlbhaa.Pr
open Go.RowKit Go.Proofs.YtokkhnjedmlbhaaW.PrintWords Go.Proofs.YtokkhnjedmlbhaaW.PrintLast Go.Proofs.YtokkhnjedmlbhaaW.PrintMore
attribute [local go_sem] max2_int min2_int max_two min_two max_three min_three max_four min_four   -- for this text's walks alone
set_option linter.unusedVariables false
set_option linter.unusedSimpArgs false

mutual
def clavigerlaw09_AesBack.j0 : Nat → ByteArray → ByteArray → ByteArray → Bool → Option (Bool)
 | 0, _, _, _, _ => none
 | k + 1, x0, x1, x2, x29 => if x29 = true then ((clavigerlaw09_awake.f).bind fun t515 => (some t515)) else ((aes_Encrypt.f x0 x1).bind fun bt516 => ((aes_Decrypt.f x0 x1).bind fun bt518 => (if bt516.2 = 0 then (clavigerlaw09_AesBack.j1 k x0 x1 x2 bt516.1 bt516.2 bt518.1 bt518.2 (bt518.2 != 0)) else (clavigerlaw09_AesBack.j1 k x0 x1 x2 bt516.1 bt516.2 bt518.1 bt518.2 true))))
def clavigerlaw09_AesBack.j1 : Nat → ByteArray → ByteArray → ByteArray → ByteArray → Int → ByteArray → Int → Bool → Option (Bool)
 | 0, _, _, _, _, _, _, _, _ => none
 | k + 1, x0, x1, x2, x7, x8, x9, x10, x48 => if x48 = true then (if x8 = x10 then (if x7.toList = ([] : List UInt8) then (if x9.toList = ([] : List UInt8) then ((clavigerlaw09_awake.f).bind fun t520 => (some t520)) else (some false)) else (some false)) else (some false)) else ((aes_Decrypt.f x0 x7).bind fun bt521 => ((aes_Encrypt.f x0 x9).bind fun bt523 => ((aes_Encrypt.f x0 x2).bind fun bt525 => (if bt521.1.toList = x1.toList then (if bt523.1.toList = x1.toList then (if bt521.2 = 0 then (if bt523.2 = 0 then (if bt525.2 = 0 then (if ((bt525.1.toList == x7.toList) == (x1.toList == x2.toList)) = true then ((clavigerlaw09_awake.f).bind fun t527 => (some t527)) else (some false)) else ((clavigerlaw09_awake.f).bind fun t528 => (some t528))) else (some false)) else (some false)) else (some false)) else (some false)))))
end
def clavigerlaw09_AesBack.f (k : Nat) (a0 : ByteArray) (a1 : ByteArray) (a2 : ByteArray) : Option (Bool) := if (a0.size : Int) > 100 then (clavigerlaw09_AesBack.j0 k a0 a1 a2 true) else (if (a1.size : Int) > 100 then (clavigerlaw09_AesBack.j0 k a0 a1 a2 true) else (clavigerlaw09_AesBack.j0 k a0 a1 a2 (decide ((a2.size : Int) > 100))))
theorem clavigerlaw09_AesBack.mono_l : ∀ k, (∀ y0 y1 y2 y3, LeO (clavigerlaw09_AesBack.j0 k y0 y1 y2 y3) (clavigerlaw09_AesBack.j0 (k + 1) y0 y1 y2 y3)) ∧ (∀ y0 y1 y2 y3 y4 y5 y6 y7, LeO (clavigerlaw09_AesBack.j1 k y0 y1 y2 y3 y4 y5 y6 y7) (clavigerlaw09_AesBack.j1 (k + 1) y0 y1 y2 y3 y4 y5 y6 y7))
 | 0 => ⟨fun _ _ _ _ r h => by simp [clavigerlaw09_AesBack.j0] at h, fun _ _ _ _ _ _ _ _ r h => by simp [clavigerlaw09_AesBack.j1] at h⟩
 | k + 1 => by
  obtain ⟨ih0, ih1⟩ := clavigerlaw09_AesBack.mono_l k
  refine ⟨?_, ?_⟩
  ·intro y0 y1 y2 y3
   unfold clavigerlaw09_AesBack.j0
   repeat' first
   | (with_reducible exact ih0 _ _ _ _)
   | (with_reducible exact ih1 _ _ _ _ _ _ _ _)
   | (with_reducible exact LeO.refl _)
   | (with_reducible exact LeO.none _)
   | (with_reducible refine LeO.ite ?_ ?_)
   | (with_reducible refine LeO.bind ?_ (fun _ => ?_))
   | exact ih0 _ _ _ _
   | exact ih1 _ _ _ _ _ _ _ _
   | exact LeO.none _
   | refine LeO.ite ?_ ?_
   | refine LeO.bind ?_ (fun _ => ?_)
  ·intro y0 y1 y2 y3 y4 y5 y6 y7
   unfold clavigerlaw09_AesBack.j1
   repeat' first
   | (with_reducible exact ih0 _ _ _ _)
   | (with_reducible exact ih1 _ _ _ _ _ _ _ _)
   | (with_reducible exact LeO.refl _)
   | (with_reducible exact LeO.none _)
   | (with_reducible refine LeO.ite ?_ ?_)
   | (with_reducible refine LeO.bind ?_ (fun _ => ?_))
   | exact ih0 _ _ _ _
   | exact ih1 _ _ _ _ _ _ _ _
   | exact LeO.none _
   | refine LeO.ite ?_ ?_
   | refine LeO.bind ?_ (fun _ => ?_)
theorem clavigerlaw09_AesBack.mono : ∀ a0 a1 a2 k, LeO (clavigerlaw09_AesBack.f k a0 a1 a2) (clavigerlaw09_AesBack.f (k + 1) a0 a1 a2) := by
 intro a0 a1 a2 k
 obtain ⟨ih0, ih1⟩ := clavigerlaw09_AesBack.mono_l k
 unfold clavigerlaw09_AesBack.f
 repeat' first
   | (with_reducible exact ih0 _ _ _ _)
   | (with_reducible exact ih1 _ _ _ _ _ _ _ _)
   | (with_reducible exact LeO.refl _)
   | (with_reducible exact LeO.none _)
   | (with_reducible refine LeO.ite ?_ ?_)
   | (with_reducible refine LeO.bind ?_ (fun _ => ?_))
   | exact ih0 _ _ _ _
   | exact ih1 _ _ _ _ _ _ _ _
   | exact LeO.none _
   | refine LeO.ite ?_ ?_
   | refine LeO.bind ?_ (fun _ => ?_)
set_option maxHeartbeats 8000000 in
set_option maxRecDepth 100000 in
theorem clavigerlaw09_AesBack.calls (k : Nat) (a0 : ByteArray) (a1 : ByteArray) (a2 : ByteArray) (r : Bool) (w : World) (h : clavigerlaw09_AesBack.f k a0 a1 a2 = some r) :
  Calls Try.prog 17 #[.string a0, .string a1, .string a2] w fun e w' => e = .returned (.bool r) ∧ Below w.heap.size w w' := by
 have HB := Aside0.mk (Below.refl w.heap.size w)
 have H : (if (a0.size : Int) > 100 then (clavigerlaw09_AesBack.j0 k a0 a1 a2 true) else (if (a1.size : Int) > 100 then (clavigerlaw09_AesBack.j0 k a0 a1 a2 true) else (clavigerlaw09_AesBack.j0 k a0 a1 a2 (decide ((a2.size : Int) > 100))))) = some r := h
 clear h
 have HC4 := Aside0.mk H
 clear H
 go_enter Try.func17, Try.ntmps17
 go_upto_region 1 with (fail)
 go_cut [29] (fun v29 wc => ∃ (kq : Nat) (x29_3 : Bool), v29 = .bool x29_3 ∧ Aside0 (clavigerlaw09_AesBack.j0 kq a0 a1 a2 x29_3 = some r) ∧ Aside0 (kq ≤ k) ∧ Aside0 (Below w.heap.size w wc))
 case first =>
  have H := HC4.out
  clear HC4
  by_cases c5 : (a0.size : Int) > 100
  ·rw [if_pos c5] at H
   have c5b0 : decide (100 < (a0.size : Int)) = true := decide_eq_true c5
   have c5b1 : decide (100 < a0.size) = true := decide_eq_true (by omega)
   clear c5
   (first | rw [c5b0] | (simp only [i64_w, i32_w]; rw [c5b0]) | skip)
   have H' := Aside0.mk H
   clear H
   go_wp2
   go_meet
   case rel => exact ⟨_, (true), (by first | rfl | (simp; done) | (simp [*]; done)), H', ⟨by first | omega | exact Nat.le_refl _⟩, ⟨by repeat (first | (with_reducible first | exact HB.out | apply below_alloc | apply pw_below_drewN | apply below_drew1) | exact HB.out)⟩⟩
  ·rw [if_neg c5] at H
   have c5b0 : decide (100 < (a0.size : Int)) = false := decide_eq_false c5
   have c5b1 : decide (100 < a0.size) = false := decide_eq_false (by omega)
   clear c5
   (first | rw [c5b0] | (simp only [i64_w, i32_w]; rw [c5b0]) | skip)
   by_cases c6 : (a1.size : Int) > 100
   ·rw [if_pos c6] at H
    have c6b0 : decide (100 < (a1.size : Int)) = true := decide_eq_true c6
    have c6b1 : decide (100 < a1.size) = true := decide_eq_true (by omega)
    clear c6
    have H' := Aside0.mk H
    clear H
    go_wp2
    go_meet
    case rel => exact ⟨_, (true), (by first | rfl | (simp; done) | (simp [*]; done)), H', ⟨by first | omega | exact Nat.le_refl _⟩, ⟨by repeat (first | (with_reducible first | exact HB.out | apply below_alloc | apply pw_below_drewN | apply below_drew1) | exact HB.out)⟩⟩
   ·rw [if_neg c6] at H
    have c6b0 : decide (100 < (a1.size : Int)) = false := decide_eq_false c6
    have c6b1 : decide (100 < a1.size) = false := decide_eq_false (by omega)
    clear c6
    have H' := Aside0.mk H
    clear H
    go_wp2
    go_meet
    case rel => exact ⟨_, (decide ((a2.size : Int) > 100)), (by first | rfl | (simp; done) | (simp [*]; done)), H', ⟨by first | omega | exact Nat.le_refl _⟩, ⟨by repeat (first | (with_reducible first | exact HB.out | apply below_alloc | apply pw_below_drewN | apply below_drew1) | exact HB.out)⟩⟩
 case rest =>
  clear HC4
  try clear c1
  try clear p2
  try clear c5
  try clear c5b0
  try clear c5b1
  try clear c6
  try clear c6b0
  try clear c6b1
  obtain ⟨kq, x29_3, rfl, HA, HJ3, HB⟩ := hcut
  cases kq with
  | zero => exact absurd HA.out (by simp [clavigerlaw09_AesBack.j0])
  | succ kj3 =>
   have H := HA.out
   clear HA
   simp only [clavigerlaw09_AesBack.j0] at H
   by_cases c7 : x29_3 = true
   ·subst c7
    have H1 : ((clavigerlaw09_awake.f).bind fun t515 => (some t515)) = some r := by rw [if_pos rfl] at H; exact H
    clear H
    have H := H1
    clear H1
    replace H := Option.bind_eq_some_iff.mp H
    obtain ⟨t515, A80, H⟩ := H
    replace H : (some t515) = some r := H
    have A8 := Aside0.mk A80
    clear A80
    obtain rfl := Option.some.inj H
    go_wp2_with (first | ((with_reducible refine gate_callee (f := 97) rfl ?_); refine goesL_ (some 30) rfl rfl Try.func97 (by kernel_rfl) rfl #[] rfl (by (try simp only [List.map_toArray, List.map_cons, List.map_nil]); first | done | rfl | (simp only [List.length_drop, List.length_take]; rfl) | (simp only [ByteArray.size_extract, Nat.min_self, Nat.sub_zero, ByteArray.size_append]; first | done | rfl)) ?_; (with_reducible refine (clavigerlaw09_awake.calls  t515 _ A8.out).mono ?_); rintro e w9 ⟨rfl, hb⟩; refine ⟨_, rfl, ?_⟩; have n0_ := Aside0.mk (below_step (by repeat (first | (with_reducible first | exact HB.out | apply below_alloc | apply pw_below_drewN | apply below_drew1) | exact HB.out)) hb); clear HB; have HB := n0_; clear n0_; (try clear hb); (try clear hb2); (try clear hk); (try clear hi)))
    go_ret
    exact ⟨by first | rfl | (simp [errW_none, errW_some] <;> rfl) | (simp [*, errW_none, errW_some] <;> rfl), by repeat (first | (with_reducible first | exact HB.out | apply below_alloc | apply pw_below_drewN | apply below_drew1) | exact HB.out)⟩
   ·replace c7 := Bool.eq_false_iff.mpr c7
    subst c7
    have H1 : ((aes_Encrypt.f a0 a1).bind fun bt516 => ((aes_Decrypt.f a0 a1).bind fun bt518 => (if bt516.2 = 0 then (clavigerlaw09_AesBack.j1 kj3 a0 a1 a2 bt516.1 bt516.2 bt518.1 bt518.2 (bt518.2 != 0)) else (clavigerlaw09_AesBack.j1 kj3 a0 a1 a2 bt516.1 bt516.2 bt518.1 bt518.2 true)))) = some r := by rw [if_neg (show ¬ (false = true) by decide)] at H; exact H
    clear H
    have H := H1
    clear H1
    replace H := Option.bind_eq_some_iff.mp H
    obtain ⟨⟨t516, t517⟩, A100, H⟩ := H
    replace H : ((aes_Decrypt.f a0 a1).bind fun bt518 => (if t517 = 0 then (clavigerlaw09_AesBack.j1 kj3 a0 a1 a2 t516 t517 bt518.1 bt518.2 (bt518.2 != 0)) else (clavigerlaw09_AesBack.j1 kj3 a0 a1 a2 t516 t517 bt518.1 bt518.2 true))) = some r := H
    have A10 := Aside0.mk A100
    clear A100
    replace H := Option.bind_eq_some_iff.mp H
    obtain ⟨⟨t518, t519⟩, A110, H⟩ := H
    replace H : (if t517 = 0 then (clavigerlaw09_AesBack.j1 kj3 a0 a1 a2 t516 t517 t518 t519 (t519 != 0)) else (clavigerlaw09_AesBack.j1 kj3 a0 a1 a2 t516 t517 t518 t519 true)) = some r := H
    have A11 := Aside0.mk A110
    clear A110
    have HC12 := Aside0.mk H
    clear H
    go_upto_region 5 with (first | ((with_reducible refine gate_callee (f := 98) rfl ?_); refine goesL_ (some 34) rfl rfl Try.func98 (by kernel_rfl) rfl #[.string a0, .string a1] rfl (by (try simp only [List.map_toArray, List.map_cons, List.map_nil]); first | done | rfl | (simp only [List.length_drop, List.length_take]; rfl) | (simp only [ByteArray.size_extract, Nat.min_self, Nat.sub_zero, ByteArray.size_append]; first | done | rfl)) ?_; (with_reducible refine (aes_Encrypt.calls a0 a1 t516 t517 _ A10.out).mono ?_); rintro e w13 ⟨rfl, hb⟩; refine ⟨_, rfl, ?_⟩; have n0_ := Aside0.mk (below_step (by repeat (first | (with_reducible first | exact HB.out | apply below_alloc | apply pw_below_drewN | apply below_drew1) | exact HB.out)) hb); clear HB; have HB := n0_; clear n0_; (try clear hb); (try clear hb2); (try clear hk); (try clear hi)) | ((with_reducible refine gate_callee (f := 100) rfl ?_); refine goesL_ (some 40) rfl rfl Try.func100 (by kernel_rfl) rfl #[.string a0, .string a1] rfl (by (try simp only [List.map_toArray, List.map_cons, List.map_nil]); first | done | rfl | (simp only [List.length_drop, List.length_take]; rfl) | (simp only [ByteArray.size_extract, Nat.min_self, Nat.sub_zero, ByteArray.size_append]; first | done | rfl)) ?_; (with_reducible refine (aes_Decrypt.calls a0 a1 t518 t519 _ A11.out).mono ?_); rintro e w14 ⟨rfl, hb⟩; refine ⟨_, rfl, ?_⟩; have n0_ := Aside0.mk (below_step (by repeat (first | (with_reducible first | exact HB.out | apply below_alloc | apply pw_below_drewN | apply below_drew1) | exact HB.out)) hb); clear HB; have HB := n0_; clear n0_; (try clear hb); (try clear hb2); (try clear hk); (try clear hi)))
    (try simp only [Act.put, List.setIfInBounds_toArray, List.set_cons_zero, List.set_cons_succ])
    go_cut [48] (fun v48 wc => ∃ (kq : Nat) (x48_11 : Bool), v48 = .bool x48_11 ∧ Aside0 (clavigerlaw09_AesBack.j1 kq a0 a1 a2 t516 t517 t518 t519 x48_11 = some r) ∧ Aside0 (kq ≤ kj3) ∧ Aside0 (Below w.heap.size w wc))
    case first =>
     have H := HC12.out
     clear HC12
     by_cases c15 : t517 = 0
     ·rw [if_pos c15] at H
      have c15b0 : (t517 == 0) = true := beq_iff_eq.mpr c15
      have c15b1 : (t517 != 0) = false := bne_eq_false_iff_eq.mpr c15
      clear c15
      (first | rw [c15b0] | (simp only [i64_w, i32_w]; rw [c15b0]) | skip)
      have H' := Aside0.mk H
      clear H
      go_wp2
      go_meet
      case rel => exact ⟨_, ((t519 != 0)), (by first | rfl | (simp; done) | (simp [*]; done)), H', ⟨by have := HJ3.out; first | omega | exact Nat.le_refl _⟩, ⟨by repeat (first | (with_reducible first | exact HB.out | apply below_alloc | apply pw_below_drewN | apply below_drew1) | exact HB.out)⟩⟩
     ·rw [if_neg c15] at H
      have c15b0 : (t517 == 0) = false := beq_eq_false_iff_ne.mpr c15
      have c15b1 : (t517 != 0) = true := bne_iff_ne.mpr c15
      (first | rw [c15b0] | (simp only [i64_w, i32_w]; rw [c15b0]) | skip)
      have H' := Aside0.mk H
      clear H
      go_wp2
      go_meet
      case rel => exact ⟨_, (true), (by first | rfl | (simp; done) | (simp [*]; done)), H', ⟨by have := HJ3.out; first | omega | exact Nat.le_refl _⟩, ⟨by repeat (first | (with_reducible first | exact HB.out | apply below_alloc | apply pw_below_drewN | apply below_drew1) | exact HB.out)⟩⟩
    case rest =>
     clear HC12
     try clear c1
     try clear p2
     try clear c5
     try clear c5b0
     try clear c5b1
     try clear c6
     try clear c6b0
     try clear c6b1
     try clear c7
     try clear c9
     try clear c10
     try clear c15
     try clear c15b0
     try clear c15b1
     try clear p2
     obtain ⟨kq, x48_11, rfl, HA, HJ11, HB⟩ := hcut
     cases kq with
     | zero => exact absurd HA.out (by simp [clavigerlaw09_AesBack.j1])
     | succ kj11 =>
      have H := HA.out
      clear HA
      simp only [clavigerlaw09_AesBack.j1] at H
      by_cases c16 : x48_11 = true
      ·subst c16
       have H1 : (if t517 = t519 then (if t516.toList = ([] : List UInt8) then (if t518.toList = ([] : List UInt8) then ((clavigerlaw09_awake.f).bind fun t520 => (some t520)) else (some false)) else (some false)) else (some false)) = some r := by rw [if_pos rfl] at H; exact H
       clear H
       have H := H1
       clear H1
       by_cases c17 : t517 = t519
       ·rw [if_pos c17] at H
        have c17b0 : (t517 == t519) = true := beq_iff_eq.mpr c17
        have c17b1 : (t517 != t519) = false := bne_eq_false_iff_eq.mpr c17
        clear c17
        by_cases c18 : t516.toList = ([] : List UInt8)
        ·rw [if_pos c18] at H
         have c18b0 : (t516.toList == ([] : List UInt8)) = true := beq_iff_eq.mpr c18
         have c18b1 : (t516.toList != ([] : List UInt8)) = false := bne_eq_false_iff_eq.mpr c18
         clear c18
         by_cases c19 : t518.toList = ([] : List UInt8)
         ·rw [if_pos c19] at H
          have c19b0 : (t518.toList == ([] : List UInt8)) = true := beq_iff_eq.mpr c19
          have c19b1 : (t518.toList != ([] : List UInt8)) = false := bne_eq_false_iff_eq.mpr c19
          clear c19
          replace H := Option.bind_eq_some_iff.mp H
          obtain ⟨t520, A200, H⟩ := H
          replace H : (some t520) = some r := H
          have A20 := Aside0.mk A200
          clear A200
          obtain rfl := Option.some.inj H
          go_wp2_with (first | (go_at_call 97; (with_reducible refine (clavigerlaw09_awake.calls  t520 _ A20.out).mono ?_); rintro e w21 ⟨rfl, hb⟩; have n0_ := Aside0.mk (below_step (by repeat (first | (with_reducible first | exact HB.out | apply below_alloc | apply pw_below_drewN | apply below_drew1) | exact HB.out)) hb); clear HB; have HB := n0_; clear n0_; (try clear hb); (try clear hb2); (try clear hk); (try clear hi)))
          go_ret
          exact ⟨by first | rfl | (simp [errW_none, errW_some] <;> rfl) | (simp [*, errW_none, errW_some] <;> rfl), by repeat (first | (with_reducible first | exact HB.out | apply below_alloc | apply pw_below_drewN | apply below_drew1) | exact HB.out)⟩
         ·rw [if_neg c19] at H
          have c19b0 : (t518.toList == ([] : List UInt8)) = false := beq_eq_false_iff_ne.mpr c19
          have c19b1 : (t518.toList != ([] : List UInt8)) = true := bne_iff_ne.mpr c19
          obtain rfl := Option.some.inj H
          go_wp2
          go_ret
          exact ⟨by first | rfl | (simp [errW_none, errW_some] <;> rfl) | (simp [*, errW_none, errW_some] <;> rfl), by repeat (first | (with_reducible first | exact HB.out | apply below_alloc | apply pw_below_drewN | apply below_drew1) | exact HB.out)⟩
        ·rw [if_neg c18] at H
         have c18b0 : (t516.toList == ([] : List UInt8)) = false := beq_eq_false_iff_ne.mpr c18
         have c18b1 : (t516.toList != ([] : List UInt8)) = true := bne_iff_ne.mpr c18
         obtain rfl := Option.some.inj H
         go_wp2
         go_ret
         exact ⟨by first | rfl | (simp [errW_none, errW_some] <;> rfl) | (simp [*, errW_none, errW_some] <;> rfl), by repeat (first | (with_reducible first | exact HB.out | apply below_alloc | apply pw_below_drewN | apply below_drew1) | exact HB.out)⟩
       ·rw [if_neg c17] at H
        have c17b0 : (t517 == t519) = false := beq_eq_false_iff_ne.mpr c17
        have c17b1 : (t517 != t519) = true := bne_iff_ne.mpr c17
        obtain rfl := Option.some.inj H
        go_wp2
        go_ret
        exact ⟨by first | rfl | (simp [errW_none, errW_some] <;> rfl) | (simp [*, errW_none, errW_some] <;> rfl), by repeat (first | (with_reducible first | exact HB.out | apply below_alloc | apply pw_below_drewN | apply below_drew1) | exact HB.out)⟩
      ·replace c16 := Bool.eq_false_iff.mpr c16
       subst c16
       have H1 : ((aes_Decrypt.f a0 t516).bind fun bt521 => ((aes_Encrypt.f a0 t518).bind fun bt523 => ((aes_Encrypt.f a0 a2).bind fun bt525 => (if bt521.1.toList = a1.toList then (if bt523.1.toList = a1.toList then (if bt521.2 = 0 then (if bt523.2 = 0 then (if bt525.2 = 0 then (if ((bt525.1.toList == t516.toList) == (a1.toList == a2.toList)) = true then ((clavigerlaw09_awake.f).bind fun t527 => (some t527)) else (some false)) else ((clavigerlaw09_awake.f).bind fun t528 => (some t528))) else (some false)) else (some false)) else (some false)) else (some false))))) = some r := by rw [if_neg (show ¬ (false = true) by decide)] at H; exact H
       clear H
       have H := H1
       clear H1
       replace H := Option.bind_eq_some_iff.mp H
       obtain ⟨⟨t521, t522⟩, A220, H⟩ := H
       replace H : ((aes_Encrypt.f a0 t518).bind fun bt523 => ((aes_Encrypt.f a0 a2).bind fun bt525 => (if t521.toList = a1.toList then (if bt523.1.toList = a1.toList then (if t522 = 0 then (if bt523.2 = 0 then (if bt525.2 = 0 then (if ((bt525.1.toList == t516.toList) == (a1.toList == a2.toList)) = true then ((clavigerlaw09_awake.f).bind fun t527 => (some t527)) else (some false)) else ((clavigerlaw09_awake.f).bind fun t528 => (some t528))) else (some false)) else (some false)) else (some false)) else (some false)))) = some r := H
       have A22 := Aside0.mk A220
       clear A220
       replace H := Option.bind_eq_some_iff.mp H
       obtain ⟨⟨t523, t524⟩, A230, H⟩ := H
       replace H : ((aes_Encrypt.f a0 a2).bind fun bt525 => (if t521.toList = a1.toList then (if t523.toList = a1.toList then (if t522 = 0 then (if t524 = 0 then (if bt525.2 = 0 then (if ((bt525.1.toList == t516.toList) == (a1.toList == a2.toList)) = true then ((clavigerlaw09_awake.f).bind fun t527 => (some t527)) else (some false)) else ((clavigerlaw09_awake.f).bind fun t528 => (some t528))) else (some false)) else (some false)) else (some false)) else (some false))) = some r := H
       have A23 := Aside0.mk A230
       clear A230
       replace H := Option.bind_eq_some_iff.mp H
       obtain ⟨⟨t525, t526⟩, A240, H⟩ := H
       replace H : (if t521.toList = a1.toList then (if t523.toList = a1.toList then (if t522 = 0 then (if t524 = 0 then (if t526 = 0 then (if ((t525.toList == t516.toList) == (a1.toList == a2.toList)) = true then ((clavigerlaw09_awake.f).bind fun t527 => (some t527)) else (some false)) else ((clavigerlaw09_awake.f).bind fun t528 => (some t528))) else (some false)) else (some false)) else (some false)) else (some false)) = some r := H
       have A24 := Aside0.mk A240
       clear A240
       by_cases c25 : t521.toList = a1.toList
       ·rw [if_pos c25] at H
        have c25b0 : (t521.toList == a1.toList) = true := beq_iff_eq.mpr c25
        have c25b1 : (t521.toList != a1.toList) = false := bne_eq_false_iff_eq.mpr c25
        clear c25
        by_cases c26 : t523.toList = a1.toList
        ·rw [if_pos c26] at H
         have c26b0 : (t523.toList == a1.toList) = true := beq_iff_eq.mpr c26
         have c26b1 : (t523.toList != a1.toList) = false := bne_eq_false_iff_eq.mpr c26
         clear c26
         by_cases c27 : t522 = 0
         ·rw [if_pos c27] at H
          have c27b0 : (t522 == 0) = true := beq_iff_eq.mpr c27
          have c27b1 : (t522 != 0) = false := bne_eq_false_iff_eq.mpr c27
          clear c27
          by_cases c28 : t524 = 0
          ·rw [if_pos c28] at H
           have c28b0 : (t524 == 0) = true := beq_iff_eq.mpr c28
           have c28b1 : (t524 != 0) = false := bne_eq_false_iff_eq.mpr c28
           clear c28
           by_cases c29 : t526 = 0
           ·rw [if_pos c29] at H
            have c29b0 : (t526 == 0) = true := beq_iff_eq.mpr c29
            have c29b1 : (t526 != 0) = false := bne_eq_false_iff_eq.mpr c29
            clear c29
            by_cases c30 : ((t525.toList == t516.toList) == (a1.toList == a2.toList)) = true
            ·rw [if_pos c30] at H
             have c30b0 : ((t525.toList == t516.toList) == (a1.toList == a2.toList)) = true := c30
             (try (have c30b1 : decide ((t525.toList == t516.toList) = (a1.toList == a2.toList)) = true := by simpa using c30))
             (try (have c30b2 : ((t525.toList == t516.toList) == (a1.toList == a2.toList)) = true := by simpa using c30))
             clear c30
             replace H := Option.bind_eq_some_iff.mp H
             obtain ⟨t527, A310, H⟩ := H
             replace H : (some t527) = some r := H
             have A31 := Aside0.mk A310
             clear A310
             obtain rfl := Option.some.inj H
             go_wp2_with (first | ((with_reducible refine gate_callee (f := 100) rfl ?_); refine goesL_ (some 66) rfl rfl Try.func100 (by kernel_rfl) rfl #[.string a0, .string t516] rfl (by (try simp only [List.map_toArray, List.map_cons, List.map_nil]); first | done | rfl | (simp only [List.length_drop, List.length_take]; rfl) | (simp only [ByteArray.size_extract, Nat.min_self, Nat.sub_zero, ByteArray.size_append]; first | done | rfl)) ?_; (with_reducible refine (aes_Decrypt.calls a0 t516 t521 t522 _ A22.out).mono ?_); rintro e w32 ⟨rfl, hb⟩; refine ⟨_, rfl, ?_⟩; have n0_ := Aside0.mk (below_step (by repeat (first | (with_reducible first | exact HB.out | apply below_alloc | apply pw_below_drewN | apply below_drew1) | exact HB.out)) hb); clear HB; have HB := n0_; clear n0_; (try clear hb); (try clear hb2); (try clear hk); (try clear hi)) | ((with_reducible refine gate_callee (f := 98) rfl ?_); refine goesL_ (some 72) rfl rfl Try.func98 (by kernel_rfl) rfl #[.string a0, .string t518] rfl (by (try simp only [List.map_toArray, List.map_cons, List.map_nil]); first | done | rfl | (simp only [List.length_drop, List.length_take]; rfl) | (simp only [ByteArray.size_extract, Nat.min_self, Nat.sub_zero, ByteArray.size_append]; first | done | rfl)) ?_; (with_reducible refine (aes_Encrypt.calls a0 t518 t523 t524 _ A23.out).mono ?_); rintro e w33 ⟨rfl, hb⟩; refine ⟨_, rfl, ?_⟩; have n0_ := Aside0.mk (below_step (by repeat (first | (with_reducible first | exact HB.out | apply below_alloc | apply pw_below_drewN | apply below_drew1) | exact HB.out)) hb); clear HB; have HB := n0_; clear n0_; (try clear hb); (try clear hb2); (try clear hk); (try clear hi)) | ((with_reducible refine gate_callee (f := 98) rfl ?_); refine goesL_ (some 78) rfl rfl Try.func98 (by kernel_rfl) rfl #[.string a0, .string a2] rfl (by (try simp only [List.map_toArray, List.map_cons, List.map_nil]); first | done | rfl | (simp only [List.length_drop, List.length_take]; rfl) | (simp only [ByteArray.size_extract, Nat.min_self, Nat.sub_zero, ByteArray.size_append]; first | done | rfl)) ?_; (with_reducible refine (aes_Encrypt.calls a0 a2 t525 t526 _ A24.out).mono ?_); rintro e w34 ⟨rfl, hb⟩; refine ⟨_, rfl, ?_⟩; have n0_ := Aside0.mk (below_step (by repeat (first | (with_reducible first | exact HB.out | apply below_alloc | apply pw_below_drewN | apply below_drew1) | exact HB.out)) hb); clear HB; have HB := n0_; clear n0_; (try clear hb); (try clear hb2); (try clear hk); (try clear hi)) | (go_at_call 97; (with_reducible refine (clavigerlaw09_awake.calls  t527 _ A31.out).mono ?_); rintro e w35 ⟨rfl, hb⟩; have n0_ := Aside0.mk (below_step (by repeat (first | (with_reducible first | exact HB.out | apply below_alloc | apply pw_below_drewN | apply below_drew1) | exact HB.out)) hb); clear HB; have HB := n0_; clear n0_; (try clear hb); (try clear hb2); (try clear hk); (try clear hi)))
             go_ret
             exact ⟨by first | rfl | (simp [errW_none, errW_some] <;> rfl) | (simp [*, errW_none, errW_some] <;> rfl), by repeat (first | (with_reducible first | exact HB.out | apply below_alloc | apply pw_below_drewN | apply below_drew1) | exact HB.out)⟩
            ·rw [if_neg c30] at H
             have c30b0 : ((t525.toList == t516.toList) == (a1.toList == a2.toList)) = false := by simpa using c30
             (try (have c30b1 : decide ((t525.toList == t516.toList) = (a1.toList == a2.toList)) = false := by simpa using c30))
             (try (have c30b2 : ((t525.toList == t516.toList) == (a1.toList == a2.toList)) = false := by simpa using c30))
             (try (have c30b3 : ¬ ((t525.toList == t516.toList) = (a1.toList == a2.toList)) := by simpa using c30))
             clear c30
             obtain rfl := Option.some.inj H
             go_wp2_with (first | ((with_reducible refine gate_callee (f := 100) rfl ?_); refine goesL_ (some 66) rfl rfl Try.func100 (by kernel_rfl) rfl #[.string a0, .string t516] rfl (by (try simp only [List.map_toArray, List.map_cons, List.map_nil]); first | done | rfl | (simp only [List.length_drop, List.length_take]; rfl) | (simp only [ByteArray.size_extract, Nat.min_self, Nat.sub_zero, ByteArray.size_append]; first | done | rfl)) ?_; (with_reducible refine (aes_Decrypt.calls a0 t516 t521 t522 _ A22.out).mono ?_); rintro e w36 ⟨rfl, hb⟩; refine ⟨_, rfl, ?_⟩; have n0_ := Aside0.mk (below_step (by repeat (first | (with_reducible first | exact HB.out | apply below_alloc | apply pw_below_drewN | apply below_drew1) | exact HB.out)) hb); clear HB; have HB := n0_; clear n0_; (try clear hb); (try clear hb2); (try clear hk); (try clear hi)) | ((with_reducible refine gate_callee (f := 98) rfl ?_); refine goesL_ (some 72) rfl rfl Try.func98 (by kernel_rfl) rfl #[.string a0, .string t518] rfl (by (try simp only [List.map_toArray, List.map_cons, List.map_nil]); first | done | rfl | (simp only [List.length_drop, List.length_take]; rfl) | (simp only [ByteArray.size_extract, Nat.min_self, Nat.sub_zero, ByteArray.size_append]; first | done | rfl)) ?_; (with_reducible refine (aes_Encrypt.calls a0 t518 t523 t524 _ A23.out).mono ?_); rintro e w37 ⟨rfl, hb⟩; refine ⟨_, rfl, ?_⟩; have n0_ := Aside0.mk (below_step (by repeat (first | (with_reducible first | exact HB.out | apply below_alloc | apply pw_below_drewN | apply below_drew1) | exact HB.out)) hb); clear HB; have HB := n0_; clear n0_; (try clear hb); (try clear hb2); (try clear hk); (try clear hi)) | ((with_reducible refine gate_callee (f := 98) rfl ?_); refine goesL_ (some 78) rfl rfl Try.func98 (by kernel_rfl) rfl #[.string a0, .string a2] rfl (by (try simp only [List.map_toArray, List.map_cons, List.map_nil]); first | done | rfl | (simp only [List.length_drop, List.length_take]; rfl) | (simp only [ByteArray.size_extract, Nat.min_self, Nat.sub_zero, ByteArray.size_append]; first | done | rfl)) ?_; (with_reducible refine (aes_Encrypt.calls a0 a2 t525 t526 _ A24.out).mono ?_); rintro e w38 ⟨rfl, hb⟩; refine ⟨_, rfl, ?_⟩; have n0_ := Aside0.mk (below_step (by repeat (first | (with_reducible first | exact HB.out | apply below_alloc | apply pw_below_drewN | apply below_drew1) | exact HB.out)) hb); clear HB; have HB := n0_; clear n0_; (try clear hb); (try clear hb2); (try clear hk); (try clear hi)))
             go_ret
             exact ⟨by first | rfl | (simp [errW_none, errW_some] <;> rfl) | (simp [*, errW_none, errW_some] <;> rfl), by repeat (first | (with_reducible first | exact HB.out | apply below_alloc | apply pw_below_drewN | apply below_drew1) | exact HB.out)⟩
           ·rw [if_neg c29] at H
            have c29b0 : (t526 == 0) = false := beq_eq_false_iff_ne.mpr c29
            have c29b1 : (t526 != 0) = true := bne_iff_ne.mpr c29
            replace H := Option.bind_eq_some_iff.mp H
            obtain ⟨t528, A390, H⟩ := H
            replace H : (some t528) = some r := H
            have A39 := Aside0.mk A390
            clear A390
            obtain rfl := Option.some.inj H
            go_wp2_with (first | ((with_reducible refine gate_callee (f := 100) rfl ?_); refine goesL_ (some 66) rfl rfl Try.func100 (by kernel_rfl) rfl #[.string a0, .string t516] rfl (by (try simp only [List.map_toArray, List.map_cons, List.map_nil]); first | done | rfl | (simp only [List.length_drop, List.length_take]; rfl) | (simp only [ByteArray.size_extract, Nat.min_self, Nat.sub_zero, ByteArray.size_append]; first | done | rfl)) ?_; (with_reducible refine (aes_Decrypt.calls a0 t516 t521 t522 _ A22.out).mono ?_); rintro e w40 ⟨rfl, hb⟩; refine ⟨_, rfl, ?_⟩; have n0_ := Aside0.mk (below_step (by repeat (first | (with_reducible first | exact HB.out | apply below_alloc | apply pw_below_drewN | apply below_drew1) | exact HB.out)) hb); clear HB; have HB := n0_; clear n0_; (try clear hb); (try clear hb2); (try clear hk); (try clear hi)) | ((with_reducible refine gate_callee (f := 98) rfl ?_); refine goesL_ (some 72) rfl rfl Try.func98 (by kernel_rfl) rfl #[.string a0, .string t518] rfl (by (try simp only [List.map_toArray, List.map_cons, List.map_nil]); first | done | rfl | (simp only [List.length_drop, List.length_take]; rfl) | (simp only [ByteArray.size_extract, Nat.min_self, Nat.sub_zero, ByteArray.size_append]; first | done | rfl)) ?_; (with_reducible refine (aes_Encrypt.calls a0 t518 t523 t524 _ A23.out).mono ?_); rintro e w41 ⟨rfl, hb⟩; refine ⟨_, rfl, ?_⟩; have n0_ := Aside0.mk (below_step (by repeat (first | (with_reducible first | exact HB.out | apply below_alloc | apply pw_below_drewN | apply below_drew1) | exact HB.out)) hb); clear HB; have HB := n0_; clear n0_; (try clear hb); (try clear hb2); (try clear hk); (try clear hi)) | ((with_reducible refine gate_callee (f := 98) rfl ?_); refine goesL_ (some 78) rfl rfl Try.func98 (by kernel_rfl) rfl #[.string a0, .string a2] rfl (by (try simp only [List.map_toArray, List.map_cons, List.map_nil]); first | done | rfl | (simp only [List.length_drop, List.length_take]; rfl) | (simp only [ByteArray.size_extract, Nat.min_self, Nat.sub_zero, ByteArray.size_append]; first | done | rfl)) ?_; (with_reducible refine (aes_Encrypt.calls a0 a2 t525 t526 _ A24.out).mono ?_); rintro e w42 ⟨rfl, hb⟩; refine ⟨_, rfl, ?_⟩; have n0_ := Aside0.mk (below_step (by repeat (first | (with_reducible first | exact HB.out | apply below_alloc | apply pw_below_drewN | apply below_drew1) | exact HB.out)) hb); clear HB; have HB := n0_; clear n0_; (try clear hb); (try clear hb2); (try clear hk); (try clear hi)) | (go_at_call 97; (with_reducible refine (clavigerlaw09_awake.calls  t528 _ A39.out).mono ?_); rintro e w43 ⟨rfl, hb⟩; have n0_ := Aside0.mk (below_step (by repeat (first | (with_reducible first | exact HB.out | apply below_alloc | apply pw_below_drewN | apply below_drew1) | exact HB.out)) hb); clear HB; have HB := n0_; clear n0_; (try clear hb); (try clear hb2); (try clear hk); (try clear hi)))
            go_ret
            exact ⟨by first | rfl | (simp [errW_none, errW_some] <;> rfl) | (simp [*, errW_none, errW_some] <;> rfl), by repeat (first | (with_reducible first | exact HB.out | apply below_alloc | apply pw_below_drewN | apply below_drew1) | exact HB.out)⟩
          ·rw [if_neg c28] at H
           have c28b0 : (t524 == 0) = false := beq_eq_false_iff_ne.mpr c28
           have c28b1 : (t524 != 0) = true := bne_iff_ne.mpr c28
           obtain rfl := Option.some.inj H
           go_wp2_with (first | ((with_reducible refine gate_callee (f := 100) rfl ?_); refine goesL_ (some 66) rfl rfl Try.func100 (by kernel_rfl) rfl #[.string a0, .string t516] rfl (by (try simp only [List.map_toArray, List.map_cons, List.map_nil]); first | done | rfl | (simp only [List.length_drop, List.length_take]; rfl) | (simp only [ByteArray.size_extract, Nat.min_self, Nat.sub_zero, ByteArray.size_append]; first | done | rfl)) ?_; (with_reducible refine (aes_Decrypt.calls a0 t516 t521 t522 _ A22.out).mono ?_); rintro e w44 ⟨rfl, hb⟩; refine ⟨_, rfl, ?_⟩; have n0_ := Aside0.mk (below_step (by repeat (first | (with_reducible first | exact HB.out | apply below_alloc | apply pw_below_drewN | apply below_drew1) | exact HB.out)) hb); clear HB; have HB := n0_; clear n0_; (try clear hb); (try clear hb2); (try clear hk); (try clear hi)) | ((with_reducible refine gate_callee (f := 98) rfl ?_); refine goesL_ (some 72) rfl rfl Try.func98 (by kernel_rfl) rfl #[.string a0, .string t518] rfl (by (try simp only [List.map_toArray, List.map_cons, List.map_nil]); first | done | rfl | (simp only [List.length_drop, List.length_take]; rfl) | (simp only [ByteArray.size_extract, Nat.min_self, Nat.sub_zero, ByteArray.size_append]; first | done | rfl)) ?_; (with_reducible refine (aes_Encrypt.calls a0 t518 t523 t524 _ A23.out).mono ?_); rintro e w45 ⟨rfl, hb⟩; refine ⟨_, rfl, ?_⟩; have n0_ := Aside0.mk (below_step (by repeat (first | (with_reducible first | exact HB.out | apply below_alloc | apply pw_below_drewN | apply below_drew1) | exact HB.out)) hb); clear HB; have HB := n0_; clear n0_; (try clear hb); (try clear hb2); (try clear hk); (try clear hi)) | ((with_reducible refine gate_callee (f := 98) rfl ?_); refine goesL_ (some 78) rfl rfl Try.func98 (by kernel_rfl) rfl #[.string a0, .string a2] rfl (by (try simp only [List.map_toArray, List.map_cons, List.map_nil]); first | done | rfl | (simp only [List.length_drop, List.length_take]; rfl) | (simp only [ByteArray.size_extract, Nat.min_self, Nat.sub_zero, ByteArray.size_append]; first | done | rfl)) ?_; (with_reducible refine (aes_Encrypt.calls a0 a2 t525 t526 _ A24.out).mono ?_); rintro e w46 ⟨rfl, hb⟩; refine ⟨_, rfl, ?_⟩; have n0_ := Aside0.mk (below_step (by repeat (first | (with_reducible first | exact HB.out | apply below_alloc | apply pw_below_drewN | apply below_drew1) | exact HB.out)) hb); clear HB; have HB := n0_; clear n0_; (try clear hb); (try clear hb2); (try clear hk); (try clear hi)))
           go_ret
           exact ⟨by first | rfl | (simp [errW_none, errW_some] <;> rfl) | (simp [*, errW_none, errW_some] <;> rfl), by repeat (first | (with_reducible first | exact HB.out | apply below_alloc | apply pw_below_drewN | apply below_drew1) | exact HB.out)⟩
         ·rw [if_neg c27] at H
          have c27b0 : (t522 == 0) = false := beq_eq_false_iff_ne.mpr c27
          have c27b1 : (t522 != 0) = true := bne_iff_ne.mpr c27
          obtain rfl := Option.some.inj H
          go_wp2_with (first | ((with_reducible refine gate_callee (f := 100) rfl ?_); refine goesL_ (some 66) rfl rfl Try.func100 (by kernel_rfl) rfl #[.string a0, .string t516] rfl (by (try simp only [List.map_toArray, List.map_cons, List.map_nil]); first | done | rfl | (simp only [List.length_drop, List.length_take]; rfl) | (simp only [ByteArray.size_extract, Nat.min_self, Nat.sub_zero, ByteArray.size_append]; first | done | rfl)) ?_; (with_reducible refine (aes_Decrypt.calls a0 t516 t521 t522 _ A22.out).mono ?_); rintro e w47 ⟨rfl, hb⟩; refine ⟨_, rfl, ?_⟩; have n0_ := Aside0.mk (below_step (by repeat (first | (with_reducible first | exact HB.out | apply below_alloc | apply pw_below_drewN | apply below_drew1) | exact HB.out)) hb); clear HB; have HB := n0_; clear n0_; (try clear hb); (try clear hb2); (try clear hk); (try clear hi)) | ((with_reducible refine gate_callee (f := 98) rfl ?_); refine goesL_ (some 72) rfl rfl Try.func98 (by kernel_rfl) rfl #[.string a0, .string t518] rfl (by (try simp only [List.map_toArray, List.map_cons, List.map_nil]); first | done | rfl | (simp only [List.length_drop, List.length_take]; rfl) | (simp only [ByteArray.size_extract, Nat.min_self, Nat.sub_zero, ByteArray.size_append]; first | done | rfl)) ?_; (with_reducible refine (aes_Encrypt.calls a0 t518 t523 t524 _ A23.out).mono ?_); rintro e w48 ⟨rfl, hb⟩; refine ⟨_, rfl, ?_⟩; have n0_ := Aside0.mk (below_step (by repeat (first | (with_reducible first | exact HB.out | apply below_alloc | apply pw_below_drewN | apply below_drew1) | exact HB.out)) hb); clear HB; have HB := n0_; clear n0_; (try clear hb); (try clear hb2); (try clear hk); (try clear hi)) | ((with_reducible refine gate_callee (f := 98) rfl ?_); refine goesL_ (some 78) rfl rfl Try.func98 (by kernel_rfl) rfl #[.string a0, .string a2] rfl (by (try simp only [List.map_toArray, List.map_cons, List.map_nil]); first | done | rfl | (simp only [List.length_drop, List.length_take]; rfl) | (simp only [ByteArray.size_extract, Nat.min_self, Nat.sub_zero, ByteArray.size_append]; first | done | rfl)) ?_; (with_reducible refine (aes_Encrypt.calls a0 a2 t525 t526 _ A24.out).mono ?_); rintro e w49 ⟨rfl, hb⟩; refine ⟨_, rfl, ?_⟩; have n0_ := Aside0.mk (below_step (by repeat (first | (with_reducible first | exact HB.out | apply below_alloc | apply pw_below_drewN | apply below_drew1) | exact HB.out)) hb); clear HB; have HB := n0_; clear n0_; (try clear hb); (try clear hb2); (try clear hk); (try clear hi)))
          go_ret
          exact ⟨by first | rfl | (simp [errW_none, errW_some] <;> rfl) | (simp [*, errW_none, errW_some] <;> rfl), by repeat (first | (with_reducible first | exact HB.out | apply below_alloc | apply pw_below_drewN | apply below_drew1) | exact HB.out)⟩
        ·rw [if_neg c26] at H
         have c26b0 : (t523.toList == a1.toList) = false := beq_eq_false_iff_ne.mpr c26
         have c26b1 : (t523.toList != a1.toList) = true := bne_iff_ne.mpr c26
         obtain rfl := Option.some.inj H
         go_wp2_with (first | ((with_reducible refine gate_callee (f := 100) rfl ?_); refine goesL_ (some 66) rfl rfl Try.func100 (by kernel_rfl) rfl #[.string a0, .string t516] rfl (by (try simp only [List.map_toArray, List.map_cons, List.map_nil]); first | done | rfl | (simp only [List.length_drop, List.length_take]; rfl) | (simp only [ByteArray.size_extract, Nat.min_self, Nat.sub_zero, ByteArray.size_append]; first | done | rfl)) ?_; (with_reducible refine (aes_Decrypt.calls a0 t516 t521 t522 _ A22.out).mono ?_); rintro e w50 ⟨rfl, hb⟩; refine ⟨_, rfl, ?_⟩; have n0_ := Aside0.mk (below_step (by repeat (first | (with_reducible first | exact HB.out | apply below_alloc | apply pw_below_drewN | apply below_drew1) | exact HB.out)) hb); clear HB; have HB := n0_; clear n0_; (try clear hb); (try clear hb2); (try clear hk); (try clear hi)) | ((with_reducible refine gate_callee (f := 98) rfl ?_); refine goesL_ (some 72) rfl rfl Try.func98 (by kernel_rfl) rfl #[.string a0, .string t518] rfl (by (try simp only [List.map_toArray, List.map_cons, List.map_nil]); first | done | rfl | (simp only [List.length_drop, List.length_take]; rfl) | (simp only [ByteArray.size_extract, Nat.min_self, Nat.sub_zero, ByteArray.size_append]; first | done | rfl)) ?_; (with_reducible refine (aes_Encrypt.calls a0 t518 t523 t524 _ A23.out).mono ?_); rintro e w51 ⟨rfl, hb⟩; refine ⟨_, rfl, ?_⟩; have n0_ := Aside0.mk (below_step (by repeat (first | (with_reducible first | exact HB.out | apply below_alloc | apply pw_below_drewN | apply below_drew1) | exact HB.out)) hb); clear HB; have HB := n0_; clear n0_; (try clear hb); (try clear hb2); (try clear hk); (try clear hi)) | ((with_reducible refine gate_callee (f := 98) rfl ?_); refine goesL_ (some 78) rfl rfl Try.func98 (by kernel_rfl) rfl #[.string a0, .string a2] rfl (by (try simp only [List.map_toArray, List.map_cons, List.map_nil]); first | done | rfl | (simp only [List.length_drop, List.length_take]; rfl) | (simp only [ByteArray.size_extract, Nat.min_self, Nat.sub_zero, ByteArray.size_append]; first | done | rfl)) ?_; (with_reducible refine (aes_Encrypt.calls a0 a2 t525 t526 _ A24.out).mono ?_); rintro e w52 ⟨rfl, hb⟩; refine ⟨_, rfl, ?_⟩; have n0_ := Aside0.mk (below_step (by repeat (first | (with_reducible first | exact HB.out | apply below_alloc | apply pw_below_drewN | apply below_drew1) | exact HB.out)) hb); clear HB; have HB := n0_; clear n0_; (try clear hb); (try clear hb2); (try clear hk); (try clear hi)))
         go_ret
         exact ⟨by first | rfl | (simp [errW_none, errW_some] <;> rfl) | (simp [*, errW_none, errW_some] <;> rfl), by repeat (first | (with_reducible first | exact HB.out | apply below_alloc | apply pw_below_drewN | apply below_drew1) | exact HB.out)⟩
       ·rw [if_neg c25] at H
        have c25b0 : (t521.toList == a1.toList) = false := beq_eq_false_iff_ne.mpr c25
        have c25b1 : (t521.toList != a1.toList) = true := bne_iff_ne.mpr c25
        obtain rfl := Option.some.inj H
        go_wp2_with (first | ((with_reducible refine gate_callee (f := 100) rfl ?_); refine goesL_ (some 66) rfl rfl Try.func100 (by kernel_rfl) rfl #[.string a0, .string t516] rfl (by (try simp only [List.map_toArray, List.map_cons, List.map_nil]); first | done | rfl | (simp only [List.length_drop, List.length_take]; rfl) | (simp only [ByteArray.size_extract, Nat.min_self, Nat.sub_zero, ByteArray.size_append]; first | done | rfl)) ?_; (with_reducible refine (aes_Decrypt.calls a0 t516 t521 t522 _ A22.out).mono ?_); rintro e w53 ⟨rfl, hb⟩; refine ⟨_, rfl, ?_⟩; have n0_ := Aside0.mk (below_step (by repeat (first | (with_reducible first | exact HB.out | apply below_alloc | apply pw_below_drewN | apply below_drew1) | exact HB.out)) hb); clear HB; have HB := n0_; clear n0_; (try clear hb); (try clear hb2); (try clear hk); (try clear hi)) | ((with_reducible refine gate_callee (f := 98) rfl ?_); refine goesL_ (some 72) rfl rfl Try.func98 (by kernel_rfl) rfl #[.string a0, .string t518] rfl (by (try simp only [List.map_toArray, List.map_cons, List.map_nil]); first | done | rfl | (simp only [List.length_drop, List.length_take]; rfl) | (simp only [ByteArray.size_extract, Nat.min_self, Nat.sub_zero, ByteArray.size_append]; first | done | rfl)) ?_; (with_reducible refine (aes_Encrypt.calls a0 t518 t523 t524 _ A23.out).mono ?_); rintro e w54 ⟨rfl, hb⟩; refine ⟨_, rfl, ?_⟩; have n0_ := Aside0.mk (below_step (by repeat (first | (with_reducible first | exact HB.out | apply below_alloc | apply pw_below_drewN | apply below_drew1) | exact HB.out)) hb); clear HB; have HB := n0_; clear n0_; (try clear hb); (try clear hb2); (try clear hk); (try clear hi)) | ((with_reducible refine gate_callee (f := 98) rfl ?_); refine goesL_ (some 78) rfl rfl Try.func98 (by kernel_rfl) rfl #[.string a0, .string a2] rfl (by (try simp only [List.map_toArray, List.map_cons, List.map_nil]); first | done | rfl | (simp only [List.length_drop, List.length_take]; rfl) | (simp only [ByteArray.size_extract, Nat.min_self, Nat.sub_zero, ByteArray.size_append]; first | done | rfl)) ?_; (with_reducible refine (aes_Encrypt.calls a0 a2 t525 t526 _ A24.out).mono ?_); rintro e w55 ⟨rfl, hb⟩; refine ⟨_, rfl, ?_⟩; have n0_ := Aside0.mk (below_step (by repeat (first | (with_reducible first | exact HB.out | apply below_alloc | apply pw_below_drewN | apply below_drew1) | exact HB.out)) hb); clear HB; have HB := n0_; clear n0_; (try clear hb); (try clear hb2); (try clear hk); (try clear hi)))
        go_ret
        exact ⟨by first | rfl | (simp [errW_none, errW_some] <;> rfl) | (simp [*, errW_none, errW_some] <;> rfl), by repeat (first | (with_reducible first | exact HB.out | apply below_alloc | apply pw_below_drewN | apply below_drew1) | exact HB.out)⟩

/-- THE ONE PURE STATEMENT of clavigerlaw09_AesBack: yours. -/
def clavigerlaw09_AesBack.Pure : Prop := ∀ (a0 : ByteArray) (a1 : ByteArray) (a2 : ByteArray), a0.size ≤ 140737488351232 → a1.size ≤ 140737488351232 → a2.size ≤ 140737488351232 → ∃ k, clavigerlaw09_AesBack.f k a0 a1 a2 = some true
theorem clavigerlaw09_AesBack.walk (P : clavigerlaw09_AesBack.Pure) (a0 : ByteArray) (a1 : ByteArray) (a2 : ByteArray) (w : World) (w0 : a0.size ≤ 140737488351232) (w1 : a1.size ≤ 140737488351232) (w2 : a2.size ≤ 140737488351232) :
  Calls Try.prog 17 #[.string a0, .string a1, .string a2] w fun e w' => e = .returned (.bool true) ∧ Below w.heap.size w w' := by
 obtain ⟨k, h⟩ := P a0 a1 a2 w0 w1 w2
 refine (clavigerlaw09_AesBack.calls k a0 a1 a2 true w h).mono ?_
 rintro e w' ⟨rfl, hd⟩
 exact ⟨rfl, hd⟩

end Go.Proofs.Ytokkhnjedmlbhaa.Pr
end
section
namespace Go.Proofs.Ytokkhnjedmlbhaa.M
open Go.RowKit Go.Proofs.Ytokkhnjedmlbhaa.Pr Go.Proofs.YtokkhnjedmlbhaaW.PrintWords Go.Proofs.YtokkhnjedmlbhaaW.PrintLast Go.Proofs.YtokkhnjedmlbhaaW.PrintMore Go.Proofs.YtokkhnjedmlbhaaGf
set_option linter.unusedSimpArgs false
theorem enc_x (key s : ByteArray) : aes_Encrypt.f key s = some (encX key s) := rfl
theorem dec_x (key s : ByteArray) : aes_Decrypt.f key s = some (decX key s) := rfl
theorem encX_ok {key s : ByteArray} (h : okN key.size) (hs : s.size = 16) : encX key s = (encT (ksB key) s, 0) := by unfold encX okX; rw [if_pos h, if_pos hs]
set_option maxRecDepth 100000 in
theorem fips : encT (ksB (mkB [0, 1, 2, 3, 4, 5, 6, 7, 8, 9, 10, 11, 12, 13, 14, 15])) (mkB [0, 17, 34, 51, 68, 85, 102, 119, 136, 153, 170, 187, 204, 221, 238, 255]) = mkB [105, 196, 224, 216, 106, 123, 4, 48, 216, 205, 183, 128, 112, 180, 197, 90] :=
  run_enc 4 (by omega) rfl (by decide +kernel) (by decide +kernel) (by decide +kernel) rfl (by decide +kernel)
set_option maxRecDepth 100000 in
theorem awake09 : clavigerlaw09_awake.f = some true := by
  unfold clavigerlaw09_awake.f
  have h : encX (⟨#[0, 1, 2, 3, 4, 5, 6, 7, 8, 9, 10, 11, 12, 13, 14, 15]⟩ : ByteArray) (⟨#[0, 17, 34, 51, 68, 85, 102, 119, 136, 153, 170, 187, 204, 221, 238, 255]⟩ : ByteArray) = (mkB [105, 196, 224, 216, 106, 123, 4, 48, 216, 205, 183, 128, 112, 180, 197, 90], 0) := by
    rw [encX_ok (.inl rfl) rfl, show (⟨#[0, 1, 2, 3, 4, 5, 6, 7, 8, 9, 10, 11, 12, 13, 14, 15]⟩ : ByteArray) = mkB [0, 1, 2, 3, 4, 5, 6, 7, 8, 9, 10, 11, 12, 13, 14, 15] from rfl, show (⟨#[0, 17, 34, 51, 68, 85, 102, 119, 136, 153, 170, 187, 204, 221, 238, 255]⟩ : ByteArray) = mkB [0, 17, 34, 51, 68, 85, 102, 119, 136, 153, 170, 187, 204, 221, 238, 255] from rfl, fips]
  rw [enc_x, h]
  simp only [Option.bind_some]
  rw [if_pos (by decide +kernel)]
  rfl
theorem AesTells : clavigerlaw09_AesTells.Pure := by
  intro key s _ _
  refine Ev.rounds (?_ : Ev _ true)
  have aw : ∀ b : Bool, b = true → Ev (fun n => clavigerlaw09_AesTells.j0 n key s b) true := fun b hb => by
    subst hb
    exact Ev.step (f := fun _ => (clavigerlaw09_awake.f).bind fun t => some t) (fun n => by simp only [clavigerlaw09_AesTells.j0]; rw [if_pos True.intro]) (evs awake09 (Ev.now _))
  unfold clavigerlaw09_AesTells.f
  by_cases h : (key.size : Int) > 100
  · exact evp h (aw true rfl)
  · refine evn h ?_
    by_cases h' : (s.size : Int) > 100
    · exact aw _ (decide_eq_true h')
    · rw [decide_eq_false h']
      refine Ev.step (f := fun k => (aes_Encrypt.f key s).bind fun bt506 => ((clavigerref09_Encrypt.f k key s).bind fun bt508 => ((aes_Decrypt.f key s).bind fun bt510 => ((clavigerref09_Decrypt.f k key s).bind fun bt512 => (if bt506.1.toList = bt508.1.toList then (if bt506.2 = bt508.2 then (if bt510.1.toList = bt512.1.toList then (if bt510.2 = bt512.2 then ((clavigerlaw09_awake.f).bind fun t514 => (some t514)) else (some false)) else (some false)) else (some false)) else (some false)))))) (fun n => by simp only [clavigerlaw09_AesTells.j0]; rw [if_neg (by simp)]) ?_
      exact evs (enc_x _ _) (evb (renc_c _ _) (evs (dec_x _ _) (evb (rdec_c _ _) (evp rfl (evp rfl (evp rfl (evp rfl (evs awake09 (Ev.now _)))))))))
theorem nil_list : (⟨#[]⟩ : ByteArray).toList = ([] : List UInt8) := by decide +kernel
theorem beq_tl (a b : ByteArray) : (a.toList == b.toList) = decide (a = b) := by
  by_cases h : a = b
  · rw [h, decide_eq_true rfl]; exact beq_self_eq_true _
  · rw [decide_eq_false h]; exact beq_eq_false_iff_ne.mpr (fun e => h ((tl_iff _ _).1 e))
theorem enc_inj {ks : List ByteArray} {a b : ByteArray} (h : all16 ks) (ha : a.size = 16) (hb : b.size = 16) : encT ks a = encT ks b ↔ a = b :=
  ⟨fun e => by rw [← dec_enc h ha, e, dec_enc h hb], fun e => by rw [e]⟩
theorem AesBack : clavigerlaw09_AesBack.Pure := by
  intro key a b _ _ _
  refine Ev.rounds (?_ : Ev _ true)
  have aw : ∀ x : Bool, x = true → Ev (fun n => clavigerlaw09_AesBack.j0 n key a b x) true := fun x hx => by
    subst hx
    exact Ev.step (f := fun _ => (clavigerlaw09_awake.f).bind fun t => some t) (fun n => by simp only [clavigerlaw09_AesBack.j0]; rw [if_pos True.intro]) (evs awake09 (Ev.now _))
  unfold clavigerlaw09_AesBack.f
  by_cases h : (key.size : Int) > 100
  · exact evp h (aw true rfl)
  · refine evn h ?_
    by_cases h' : (a.size : Int) > 100
    · exact evp h' (aw true rfl)
    · refine evn h' ?_
      by_cases h'' : (b.size : Int) > 100
      · exact aw _ (decide_eq_true h'')
      · rw [decide_eq_false h'']
        refine Ev.step (f := fun k => (aes_Encrypt.f key a).bind fun bt516 => ((aes_Decrypt.f key a).bind fun bt518 => (if bt516.2 = 0 then (clavigerlaw09_AesBack.j1 k key a b bt516.1 bt516.2 bt518.1 bt518.2 (bt518.2 != 0)) else (clavigerlaw09_AesBack.j1 k key a b bt516.1 bt516.2 bt518.1 bt518.2 true)))) (fun n => by simp only [clavigerlaw09_AesBack.j0]; rw [if_neg (by simp)]) ?_
        refine evs (enc_x _ _) (evs (dec_x _ _) ?_)
        have bad : ∀ e : Int, e ≠ 0 → encX key a = (⟨#[]⟩, e) → decX key a = (⟨#[]⟩, e) → Ev (fun k => if (encX key a).2 = 0 then (clavigerlaw09_AesBack.j1 k key a b (encX key a).1 (encX key a).2 (decX key a).1 (decX key a).2 ((decX key a).2 != 0)) else (clavigerlaw09_AesBack.j1 k key a b (encX key a).1 (encX key a).2 (decX key a).1 (decX key a).2 true)) true := fun e he h1 h2 => by
          rw [h1, h2]
          refine evn he (Ev.step (f := fun _ => (clavigerlaw09_awake.f).bind fun t => some t) (fun n => ?_) (evs awake09 (Ev.now _)))
          simp only [clavigerlaw09_AesBack.j1]
          rw [if_pos True.intro, if_pos True.intro, if_pos nil_list, if_pos nil_list]
        by_cases ok : okN key.size
        · by_cases hs : a.size = 16
          · have hk := (ks_facts ok).2.1
            have e1 : encX key a = (encT (ksB key) a, 0) := by unfold encX okX; rw [if_pos ok, if_pos hs]
            have e2 : decX key a = (decT (ksB key) a, 0) := by unfold decX okX; rw [if_pos ok, if_pos hs]
            have e3 : decX key (encT (ksB key) a) = (a, 0) := by unfold decX okX; rw [if_pos ok, if_pos (enc_size hk hs), dec_enc hk hs]
            have e4 : encX key (decT (ksB key) a) = (a, 0) := by unfold encX okX; rw [if_pos ok, if_pos (dec_size hk hs), enc_dec hk hs]
            rw [e1, e2]
            refine evp rfl ?_
            refine Ev.step (f := fun _ => (aes_Decrypt.f key (encT (ksB key) a)).bind fun bt521 => ((aes_Encrypt.f key (decT (ksB key) a)).bind fun bt523 => ((aes_Encrypt.f key b).bind fun bt525 => (if bt521.1.toList = a.toList then (if bt523.1.toList = a.toList then (if bt521.2 = 0 then (if bt523.2 = 0 then (if bt525.2 = 0 then (if ((bt525.1.toList == (encT (ksB key) a).toList) == (a.toList == b.toList)) = true then ((clavigerlaw09_awake.f).bind fun t527 => (some t527)) else (some false)) else ((clavigerlaw09_awake.f).bind fun t528 => (some t528))) else (some false)) else (some false)) else (some false)) else (some false))))) (fun n => by simp only [clavigerlaw09_AesBack.j1]; rw [if_neg (by simp)]) ?_
            refine evs ((dec_x _ _).trans (congrArg some e3)) (evs ((enc_x _ _).trans (congrArg some e4)) (evs (enc_x _ _) (evp rfl (evp rfl (evp rfl (evp rfl ?_))))))
            by_cases hb : b.size = 16
            · have e5 : encX key b = (encT (ksB key) b, 0) := by unfold encX okX; rw [if_pos ok, if_pos hb]
              rw [e5]
              refine evp rfl (evp ?_ (evs awake09 (Ev.now _)))
              rw [beq_tl, beq_tl, show decide (encT (ksB key) b = encT (ksB key) a) = decide (a = b) from decide_eq_decide.2 ((enc_inj hk hb hs).trans eq_comm)]
              exact beq_self_eq_true _
            · have e5 : encX key b = (⟨#[]⟩, 4) := by unfold encX okX; rw [if_pos ok, if_neg hb]
              rw [e5]
              exact evn (by decide) (evs awake09 (Ev.now _))
          · exact bad 4 (by decide) (by unfold encX okX; rw [if_pos ok, if_neg hs]) (by unfold decX okX; rw [if_pos ok, if_neg hs])
        · exact bad 2 (by decide) (by unfold encX; rw [if_neg ok]) (by unfold decX; rw [if_neg ok])
end Go.Proofs.Ytokkhnjedmlbhaa.M
end
