-- several texts in one (by the session's program shake.py)
import Derived.Test.YtokkhnjedmlbhaaZPrg01x
import Derived.Test.YtokkhnjedmlbhaaZFieldB
import Derived.Test.YtokkhnjedmlbhaaZPrL10awake
section
namespace Go.Proofs.Ytokkhnjedmlbhaa.Pr
open Go.RowKit Go.Proofs.YtokkhnjedmlbhaaW.PrintWords Go.Proofs.YtokkhnjedmlbhaaW.PrintLast Go.Proofs.YtokkhnjedmlbhaaW.PrintMore
attribute [local go_sem] max2_int min2_int max_two min_two max_three min_three max_four min_four   -- for this text's walks alone
set_option linter.unusedVariables false
set_option linter.unusedSimpArgs false

def clavigerlaw10_CbcTells.j0 : Nat → ByteArray → ByteArray → ByteArray → Bool → Option (Bool)
 | 0, _, _, _, _ => none
 | k + 1, x0, x1, x2, x27 => if x27 = true then ((clavigerlaw10_awake.f k).bind fun t1 => (some t1)) else ((cbc_Encrypt.f x0 x1 x2).bind fun bt2 => ((clavigerref10_Encrypt.f k x0 x1 x2).bind fun bt3 => ((cbc_Decrypt.f x0 x1 x2).bind fun bt4 => ((clavigerref10_Decrypt.f k x0 x1 x2).bind fun bt5 => (if bt2.1.toList = bt3.1.toList then (if bt2.2 = bt3.2 then (if bt4.1.toList = bt5.1.toList then (if bt4.2 = bt5.2 then ((cbc_Last.f x1 x2).bind fun t6 => ((clavigerref10_Last.f x1 x2).bind fun t7 => (if t6.toList = t7.toList then ((clavigerlaw10_awake.f k).bind fun t8 => (some t8)) else (some false)))) else (some false)) else (some false)) else (some false)) else (some false))))))
def clavigerlaw10_CbcTells.f (k : Nat) (a0 : ByteArray) (a1 : ByteArray) (a2 : ByteArray) : Option (Bool) := if (a0.size : Int) > 100 then (clavigerlaw10_CbcTells.j0 k a0 a1 a2 true) else (if (a1.size : Int) > 100 then (clavigerlaw10_CbcTells.j0 k a0 a1 a2 true) else (clavigerlaw10_CbcTells.j0 k a0 a1 a2 (decide ((a2.size : Int) > 128))))
theorem clavigerlaw10_CbcTells.mono_l : ∀ k, (∀ y9 y10 y11 y12, LeO (clavigerlaw10_CbcTells.j0 k y9 y10 y11 y12) (clavigerlaw10_CbcTells.j0 (k + 1) y9 y10 y11 y12))
 | 0 => fun _ _ _ _ r h => by simp [clavigerlaw10_CbcTells.j0] at h
 | k + 1 => by
  have ih0 := clavigerlaw10_CbcTells.mono_l k
  ·intro y9 y10 y11 y12
   unfold clavigerlaw10_CbcTells.j0
   repeat' first
   | (with_reducible exact ih0 _ _ _ _)
   | (with_reducible exact clavigerlaw10_awake.mono _)
   | (with_reducible exact clavigerref10_Decrypt.mono _ _ _ _)
   | (with_reducible exact clavigerref10_Encrypt.mono _ _ _ _)
   | (with_reducible exact LeO.refl _)
   | (with_reducible exact LeO.none _)
   | (with_reducible refine LeO.ite ?_ ?_)
   | (with_reducible refine LeO.bind ?_ (fun _ => ?_))
   | exact ih0 _ _ _ _
   | exact clavigerlaw10_awake.mono _
   | exact clavigerref10_Decrypt.mono _ _ _ _
   | exact clavigerref10_Encrypt.mono _ _ _ _
   | exact LeO.none _
   | refine LeO.ite ?_ ?_
   | refine LeO.bind ?_ (fun _ => ?_)
theorem clavigerlaw10_CbcTells.mono : ∀ a0 a1 a2 k, LeO (clavigerlaw10_CbcTells.f k a0 a1 a2) (clavigerlaw10_CbcTells.f (k + 1) a0 a1 a2) := by
 intro a0 a1 a2 k
 have ih0 := clavigerlaw10_CbcTells.mono_l k
 unfold clavigerlaw10_CbcTells.f
 repeat' first
   | (with_reducible exact ih0 _ _ _ _)
   | (with_reducible exact clavigerlaw10_awake.mono _)
   | (with_reducible exact clavigerref10_Decrypt.mono _ _ _ _)
   | (with_reducible exact clavigerref10_Encrypt.mono _ _ _ _)
   | (with_reducible exact LeO.refl _)
   | (with_reducible exact LeO.none _)
   | (with_reducible refine LeO.ite ?_ ?_)
   | (with_reducible refine LeO.bind ?_ (fun _ => ?_))
   | exact ih0 _ _ _ _
   | exact clavigerlaw10_awake.mono _
   | exact clavigerref10_Decrypt.mono _ _ _ _
   | exact clavigerref10_Encrypt.mono _ _ _ _
   | exact LeO.none _
   | refine LeO.ite ?_ ?_
   | refine LeO.bind ?_ (fun _ => ?_)
set_option maxHeartbeats 8000000 in
set_option maxRecDepth 100000 in
theorem clavigerlaw10_CbcTells.calls (k : Nat) (a0 : ByteArray) (a1 : ByteArray) (a2 : ByteArray) (r : Bool) (w : World) (h : clavigerlaw10_CbcTells.f k a0 a1 a2 = some r) :
  Calls Try.prog 21 #[.string a0, .string a1, .string a2] w fun e w' => e = .returned (.bool r) ∧ Below w.heap.size w w' := by
 have HB := Aside0.mk (Below.refl w.heap.size w)
 have H : (if (a0.size : Int) > 100 then (clavigerlaw10_CbcTells.j0 k a0 a1 a2 true) else (if (a1.size : Int) > 100 then (clavigerlaw10_CbcTells.j0 k a0 a1 a2 true) else (clavigerlaw10_CbcTells.j0 k a0 a1 a2 (decide ((a2.size : Int) > 128))))) = some r := h
 clear h
 have HC4 := Aside0.mk H
 clear H
 go_enter Try.func21, Try.ntmps21
 go_upto_region 1 with (fail)
 go_cut [27] (fun v27 wc => ∃ (kq : Nat) (x27_3 : Bool), v27 = .bool x27_3 ∧ Aside0 (clavigerlaw10_CbcTells.j0 kq a0 a1 a2 x27_3 = some r) ∧ Aside0 (kq ≤ k) ∧ Aside0 (Below w.heap.size w wc))
 case first =>
  have H := HC4.out
  clear HC4
  by_cases c5 : (a0.size : Int) > 100
  ·rw [if_pos c5] at H
   have c5b0 : decide (100 < (a0.size : Int)) = true := decide_eq_true c5
   have c5b1 : decide (100 < a0.size) = true := decide_eq_true (by omega)
   clear c5
   (first | rw [c5b0] | (simp only [i64_w, i32_w]; rw [c5b0]) | skip)
   have H' := Aside0.mk H
   clear H
   go_wp2
   go_meet
   case rel => exact ⟨_, (true), (by first | rfl | (simp; done) | (simp [*]; done)), H', ⟨by first | omega | exact Nat.le_refl _⟩, ⟨by repeat (first | (with_reducible first | exact HB.out | apply below_alloc | apply pw_below_drewN | apply below_drew1) | exact HB.out)⟩⟩
  ·rw [if_neg c5] at H
   have c5b0 : decide (100 < (a0.size : Int)) = false := decide_eq_false c5
   have c5b1 : decide (100 < a0.size) = false := decide_eq_false (by omega)
   clear c5
   (first | rw [c5b0] | (simp only [i64_w, i32_w]; rw [c5b0]) | skip)
   by_cases c6 : (a1.size : Int) > 100
   ·rw [if_pos c6] at H
    have c6b0 : decide (100 < (a1.size : Int)) = true := decide_eq_true c6
    have c6b1 : decide (100 < a1.size) = true := decide_eq_true (by omega)
    clear c6
    have H' := Aside0.mk H
    clear H
    go_wp2
    go_meet
    case rel => exact ⟨_, (true), (by first | rfl | (simp; done) | (simp [*]; done)), H', ⟨by first | omega | exact Nat.le_refl _⟩, ⟨by repeat (first | (with_reducible first | exact HB.out | apply below_alloc | apply pw_below_drewN | apply below_drew1) | exact HB.out)⟩⟩
   ·rw [if_neg c6] at H
    have c6b0 : decide (100 < (a1.size : Int)) = false := decide_eq_false c6
    have c6b1 : decide (100 < a1.size) = false := decide_eq_false (by omega)
    clear c6
    have H' := Aside0.mk H
    clear H
    go_wp2
    go_meet
    case rel => exact ⟨_, (decide ((a2.size : Int) > 128)), (by first | rfl | (simp; done) | (simp [*]; done)), H', ⟨by first | omega | exact Nat.le_refl _⟩, ⟨by repeat (first | (with_reducible first | exact HB.out | apply below_alloc | apply pw_below_drewN | apply below_drew1) | exact HB.out)⟩⟩
 case rest =>
  clear HC4
  try clear c2
  try clear p2
  try clear c5
  try clear c5b0
  try clear c5b1
  try clear c6
  try clear c6b0
  try clear c6b1
  obtain ⟨kq, x27_3, rfl, HA, HJ3, HB⟩ := hcut
  cases kq with
  | zero => exact absurd HA.out (by simp [clavigerlaw10_CbcTells.j0])
  | succ kj3 =>
   have H := HA.out
   clear HA
   simp only [clavigerlaw10_CbcTells.j0] at H
   by_cases c7 : x27_3 = true
   ·subst c7
    have H1 : ((clavigerlaw10_awake.f kj3).bind fun t1 => (some t1)) = some r := by rw [if_pos rfl] at H; exact H
    clear H
    have H := H1
    clear H1
    replace H := Option.bind_eq_some_iff.mp H
    obtain ⟨t1, A80, H⟩ := H
    replace H : (some t1) = some r := H
    have A8 := Aside0.mk A80
    clear A80
    obtain rfl := Option.some.inj H
    go_wp2_with (first | ((with_reducible refine gate_callee (f := 116) rfl ?_); refine goesL_ (some 28) rfl rfl Try.func116 (by kernel_rfl) rfl #[] rfl (by (try simp only [List.map_toArray, List.map_cons, List.map_nil]); first | done | rfl | (simp only [List.length_drop, List.length_take]; rfl) | (simp only [ByteArray.size_extract, Nat.min_self, Nat.sub_zero, ByteArray.size_append]; first | done | rfl)) ?_; (with_reducible refine (clavigerlaw10_awake.calls kj3  t1 _ A8.out).mono ?_); rintro e w9 ⟨rfl, hb⟩; refine ⟨_, rfl, ?_⟩; have n0_ := Aside0.mk (below_step (by repeat (first | (with_reducible first | exact HB.out | apply below_alloc | apply pw_below_drewN | apply below_drew1) | exact HB.out)) hb); clear HB; have HB := n0_; clear n0_; (try clear hb); (try clear hb2); (try clear hk); (try clear hi)))
    go_ret
    exact ⟨by first | rfl | (simp [errW_none, errW_some] <;> rfl) | (simp [*, errW_none, errW_some] <;> rfl), by repeat (first | (with_reducible first | exact HB.out | apply below_alloc | apply pw_below_drewN | apply below_drew1) | exact HB.out)⟩
   ·replace c7 := Bool.eq_false_iff.mpr c7
    subst c7
    have H1 : ((cbc_Encrypt.f a0 a1 a2).bind fun bt2 => ((clavigerref10_Encrypt.f kj3 a0 a1 a2).bind fun bt3 => ((cbc_Decrypt.f a0 a1 a2).bind fun bt4 => ((clavigerref10_Decrypt.f kj3 a0 a1 a2).bind fun bt5 => (if bt2.1.toList = bt3.1.toList then (if bt2.2 = bt3.2 then (if bt4.1.toList = bt5.1.toList then (if bt4.2 = bt5.2 then ((cbc_Last.f a1 a2).bind fun t6 => ((clavigerref10_Last.f a1 a2).bind fun t7 => (if t6.toList = t7.toList then ((clavigerlaw10_awake.f kj3).bind fun t8 => (some t8)) else (some false)))) else (some false)) else (some false)) else (some false)) else (some false)))))) = some r := by rw [if_neg (show ¬ (false = true) by decide)] at H; exact H
    clear H
    have H := H1
    clear H1
    replace H := Option.bind_eq_some_iff.mp H
    obtain ⟨⟨t2, t13⟩, A100, H⟩ := H
    replace H : ((clavigerref10_Encrypt.f kj3 a0 a1 a2).bind fun bt3 => ((cbc_Decrypt.f a0 a1 a2).bind fun bt4 => ((clavigerref10_Decrypt.f kj3 a0 a1 a2).bind fun bt5 => (if t2.toList = bt3.1.toList then (if t13 = bt3.2 then (if bt4.1.toList = bt5.1.toList then (if bt4.2 = bt5.2 then ((cbc_Last.f a1 a2).bind fun t6 => ((clavigerref10_Last.f a1 a2).bind fun t7 => (if t6.toList = t7.toList then ((clavigerlaw10_awake.f kj3).bind fun t8 => (some t8)) else (some false)))) else (some false)) else (some false)) else (some false)) else (some false))))) = some r := H
    have A10 := Aside0.mk A100
    clear A100
    replace H := Option.bind_eq_some_iff.mp H
    obtain ⟨⟨t3, t14⟩, A110, H⟩ := H
    replace H : ((cbc_Decrypt.f a0 a1 a2).bind fun bt4 => ((clavigerref10_Decrypt.f kj3 a0 a1 a2).bind fun bt5 => (if t2.toList = t3.toList then (if t13 = t14 then (if bt4.1.toList = bt5.1.toList then (if bt4.2 = bt5.2 then ((cbc_Last.f a1 a2).bind fun t6 => ((clavigerref10_Last.f a1 a2).bind fun t7 => (if t6.toList = t7.toList then ((clavigerlaw10_awake.f kj3).bind fun t8 => (some t8)) else (some false)))) else (some false)) else (some false)) else (some false)) else (some false)))) = some r := H
    have A11 := Aside0.mk A110
    clear A110
    replace H := Option.bind_eq_some_iff.mp H
    obtain ⟨⟨t4, t15⟩, A120, H⟩ := H
    replace H : ((clavigerref10_Decrypt.f kj3 a0 a1 a2).bind fun bt5 => (if t2.toList = t3.toList then (if t13 = t14 then (if t4.toList = bt5.1.toList then (if t15 = bt5.2 then ((cbc_Last.f a1 a2).bind fun t6 => ((clavigerref10_Last.f a1 a2).bind fun t7 => (if t6.toList = t7.toList then ((clavigerlaw10_awake.f kj3).bind fun t8 => (some t8)) else (some false)))) else (some false)) else (some false)) else (some false)) else (some false))) = some r := H
    have A12 := Aside0.mk A120
    clear A120
    replace H := Option.bind_eq_some_iff.mp H
    obtain ⟨⟨t5, t16⟩, A130, H⟩ := H
    replace H : (if t2.toList = t3.toList then (if t13 = t14 then (if t4.toList = t5.toList then (if t15 = t16 then ((cbc_Last.f a1 a2).bind fun t6 => ((clavigerref10_Last.f a1 a2).bind fun t7 => (if t6.toList = t7.toList then ((clavigerlaw10_awake.f kj3).bind fun t8 => (some t8)) else (some false)))) else (some false)) else (some false)) else (some false)) else (some false)) = some r := H
    have A13 := Aside0.mk A130
    clear A130
    by_cases c14 : t2.toList = t3.toList
    ·rw [if_pos c14] at H
     have c14b0 : (t2.toList == t3.toList) = true := beq_iff_eq.mpr c14
     have c14b1 : (t2.toList != t3.toList) = false := bne_eq_false_iff_eq.mpr c14
     clear c14
     by_cases c15 : t13 = t14
     ·rw [if_pos c15] at H
      have c15b0 : (t13 == t14) = true := beq_iff_eq.mpr c15
      have c15b1 : (t13 != t14) = false := bne_eq_false_iff_eq.mpr c15
      clear c15
      by_cases c16 : t4.toList = t5.toList
      ·rw [if_pos c16] at H
       have c16b0 : (t4.toList == t5.toList) = true := beq_iff_eq.mpr c16
       have c16b1 : (t4.toList != t5.toList) = false := bne_eq_false_iff_eq.mpr c16
       clear c16
       by_cases c17 : t15 = t16
       ·rw [if_pos c17] at H
        have c17b0 : (t15 == t16) = true := beq_iff_eq.mpr c17
        have c17b1 : (t15 != t16) = false := bne_eq_false_iff_eq.mpr c17
        clear c17
        replace H := Option.bind_eq_some_iff.mp H
        obtain ⟨t6, A180, H⟩ := H
        replace H : ((clavigerref10_Last.f a1 a2).bind fun t7 => (if t6.toList = t7.toList then ((clavigerlaw10_awake.f kj3).bind fun t8 => (some t8)) else (some false))) = some r := H
        have A18 := Aside0.mk A180
        clear A180
        replace H := Option.bind_eq_some_iff.mp H
        obtain ⟨t7, A190, H⟩ := H
        replace H : (if t6.toList = t7.toList then ((clavigerlaw10_awake.f kj3).bind fun t8 => (some t8)) else (some false)) = some r := H
        have A19 := Aside0.mk A190
        clear A190
        by_cases c20 : t6.toList = t7.toList
        ·rw [if_pos c20] at H
         have c20b0 : (t6.toList == t7.toList) = true := beq_iff_eq.mpr c20
         have c20b1 : (t6.toList != t7.toList) = false := bne_eq_false_iff_eq.mpr c20
         clear c20
         replace H := Option.bind_eq_some_iff.mp H
         obtain ⟨t8, A210, H⟩ := H
         replace H : (some t8) = some r := H
         have A21 := Aside0.mk A210
         clear A210
         obtain rfl := Option.some.inj H
         go_wp2_with (first | ((with_reducible refine gate_callee (f := 117) rfl ?_); refine goesL_ (some 33) rfl rfl Try.func117 (by kernel_rfl) rfl #[.string a0, .string a1, .string a2] rfl (by (try simp only [List.map_toArray, List.map_cons, List.map_nil]); first | done | rfl | (simp only [List.length_drop, List.length_take]; rfl) | (simp only [ByteArray.size_extract, Nat.min_self, Nat.sub_zero, ByteArray.size_append]; first | done | rfl)) ?_; (with_reducible refine (cbc_Encrypt.calls a0 a1 a2 t2 t13 _ A10.out).mono ?_); rintro e w22 ⟨rfl, hb⟩; refine ⟨_, rfl, ?_⟩; have n0_ := Aside0.mk (below_step (by repeat (first | (with_reducible first | exact HB.out | apply below_alloc | apply pw_below_drewN | apply below_drew1) | exact HB.out)) hb); clear HB; have HB := n0_; clear n0_; (try clear hb); (try clear hb2); (try clear hk); (try clear hi)) | ((with_reducible refine gate_callee (f := 118) rfl ?_); refine goesL_ (some 40) rfl rfl Try.func118 (by kernel_rfl) rfl #[.string a0, .string a1, .string a2] rfl (by (try simp only [List.map_toArray, List.map_cons, List.map_nil]); first | done | rfl | (simp only [List.length_drop, List.length_take]; rfl) | (simp only [ByteArray.size_extract, Nat.min_self, Nat.sub_zero, ByteArray.size_append]; first | done | rfl)) ?_; (with_reducible refine (clavigerref10_Encrypt.calls kj3 a0 a1 a2 t3 t14 _ A11.out).mono ?_); rintro e w23 ⟨rfl, hb⟩; refine ⟨_, rfl, ?_⟩; have n0_ := Aside0.mk (below_step (by repeat (first | (with_reducible first | exact HB.out | apply below_alloc | apply pw_below_drewN | apply below_drew1) | exact HB.out)) hb); clear HB; have HB := n0_; clear n0_; (try clear hb); (try clear hb2); (try clear hk); (try clear hi)) | ((with_reducible refine gate_callee (f := 119) rfl ?_); refine goesL_ (some 47) rfl rfl Try.func119 (by kernel_rfl) rfl #[.string a0, .string a1, .string a2] rfl (by (try simp only [List.map_toArray, List.map_cons, List.map_nil]); first | done | rfl | (simp only [List.length_drop, List.length_take]; rfl) | (simp only [ByteArray.size_extract, Nat.min_self, Nat.sub_zero, ByteArray.size_append]; first | done | rfl)) ?_; (with_reducible refine (cbc_Decrypt.calls a0 a1 a2 t4 t15 _ A12.out).mono ?_); rintro e w24 ⟨rfl, hb⟩; refine ⟨_, rfl, ?_⟩; have n0_ := Aside0.mk (below_step (by repeat (first | (with_reducible first | exact HB.out | apply below_alloc | apply pw_below_drewN | apply below_drew1) | exact HB.out)) hb); clear HB; have HB := n0_; clear n0_; (try clear hb); (try clear hb2); (try clear hk); (try clear hi)) | ((with_reducible refine gate_callee (f := 73) rfl ?_); refine goesL_ (some 54) rfl rfl Try.func73 (by kernel_rfl) rfl #[.string a0, .string a1, .string a2] rfl (by (try simp only [List.map_toArray, List.map_cons, List.map_nil]); first | done | rfl | (simp only [List.length_drop, List.length_take]; rfl) | (simp only [ByteArray.size_extract, Nat.min_self, Nat.sub_zero, ByteArray.size_append]; first | done | rfl)) ?_; (with_reducible refine (clavigerref10_Decrypt.calls kj3 a0 a1 a2 t5 t16 _ A13.out).mono ?_); rintro e w25 ⟨rfl, hb⟩; refine ⟨_, rfl, ?_⟩; have n0_ := Aside0.mk (below_step (by repeat (first | (with_reducible first | exact HB.out | apply below_alloc | apply pw_below_drewN | apply below_drew1) | exact HB.out)) hb); clear HB; have HB := n0_; clear n0_; (try clear hb); (try clear hb2); (try clear hk); (try clear hi)) | (go_at_call 120; (with_reducible refine (cbc_Last.calls a1 a2 t6 _ A18.out).mono ?_); rintro e w' ⟨rfl, ⟨nd, rfl⟩⟩) | (go_at_call 121; (with_reducible refine (clavigerref10_Last.calls a1 a2 t7 _ A19.out).mono ?_); rintro e w' ⟨rfl, ⟨nd, rfl⟩⟩) | (go_at_call 116; (with_reducible refine (clavigerlaw10_awake.calls kj3  t8 _ A21.out).mono ?_); rintro e w26 ⟨rfl, hb⟩; have n0_ := Aside0.mk (below_step (by repeat (first | (with_reducible first | exact HB.out | apply below_alloc | apply pw_below_drewN | apply below_drew1) | exact HB.out)) hb); clear HB; have HB := n0_; clear n0_; (try clear hb); (try clear hb2); (try clear hk); (try clear hi)))
         go_ret
         exact ⟨by first | rfl | (simp [errW_none, errW_some] <;> rfl) | (simp [*, errW_none, errW_some] <;> rfl), by repeat (first | (with_reducible first | exact HB.out | apply below_alloc | apply pw_below_drewN | apply below_drew1) | exact HB.out)⟩
        ·rw [if_neg c20] at H
         have c20b0 : (t6.toList == t7.toList) = false := beq_eq_false_iff_ne.mpr c20
         have c20b1 : (t6.toList != t7.toList) = true := bne_iff_ne.mpr c20
         obtain rfl := Option.some.inj H
         go_wp2_with (first | ((with_reducible refine gate_callee (f := 117) rfl ?_); refine goesL_ (some 33) rfl rfl Try.func117 (by kernel_rfl) rfl #[.string a0, .string a1, .string a2] rfl (by (try simp only [List.map_toArray, List.map_cons, List.map_nil]); first | done | rfl | (simp only [List.length_drop, List.length_take]; rfl) | (simp only [ByteArray.size_extract, Nat.min_self, Nat.sub_zero, ByteArray.size_append]; first | done | rfl)) ?_; (with_reducible refine (cbc_Encrypt.calls a0 a1 a2 t2 t13 _ A10.out).mono ?_); rintro e w27 ⟨rfl, hb⟩; refine ⟨_, rfl, ?_⟩; have n0_ := Aside0.mk (below_step (by repeat (first | (with_reducible first | exact HB.out | apply below_alloc | apply pw_below_drewN | apply below_drew1) | exact HB.out)) hb); clear HB; have HB := n0_; clear n0_; (try clear hb); (try clear hb2); (try clear hk); (try clear hi)) | ((with_reducible refine gate_callee (f := 118) rfl ?_); refine goesL_ (some 40) rfl rfl Try.func118 (by kernel_rfl) rfl #[.string a0, .string a1, .string a2] rfl (by (try simp only [List.map_toArray, List.map_cons, List.map_nil]); first | done | rfl | (simp only [List.length_drop, List.length_take]; rfl) | (simp only [ByteArray.size_extract, Nat.min_self, Nat.sub_zero, ByteArray.size_append]; first | done | rfl)) ?_; (with_reducible refine (clavigerref10_Encrypt.calls kj3 a0 a1 a2 t3 t14 _ A11.out).mono ?_); rintro e w28 ⟨rfl, hb⟩; refine ⟨_, rfl, ?_⟩; have n0_ := Aside0.mk (below_step (by repeat (first | (with_reducible first | exact HB.out | apply below_alloc | apply pw_below_drewN | apply below_drew1) | exact HB.out)) hb); clear HB; have HB := n0_; clear n0_; (try clear hb); (try clear hb2); (try clear hk); (try clear hi)) | ((with_reducible refine gate_callee (f := 119) rfl ?_); refine goesL_ (some 47) rfl rfl Try.func119 (by kernel_rfl) rfl #[.string a0, .string a1, .string a2] rfl (by (try simp only [List.map_toArray, List.map_cons, List.map_nil]); first | done | rfl | (simp only [List.length_drop, List.length_take]; rfl) | (simp only [ByteArray.size_extract, Nat.min_self, Nat.sub_zero, ByteArray.size_append]; first | done | rfl)) ?_; (with_reducible refine (cbc_Decrypt.calls a0 a1 a2 t4 t15 _ A12.out).mono ?_); rintro e w29 ⟨rfl, hb⟩; refine ⟨_, rfl, ?_⟩; have n0_ := Aside0.mk (below_step (by repeat (first | (with_reducible first | exact HB.out | apply below_alloc | apply pw_below_drewN | apply below_drew1) | exact HB.out)) hb); clear HB; have HB := n0_; clear n0_; (try clear hb); (try clear hb2); (try clear hk); (try clear hi)) | ((with_reducible refine gate_callee (f := 73) rfl ?_); refine goesL_ (some 54) rfl rfl Try.func73 (by kernel_rfl) rfl #[.string a0, .string a1, .string a2] rfl (by (try simp only [List.map_toArray, List.map_cons, List.map_nil]); first | done | rfl | (simp only [List.length_drop, List.length_take]; rfl) | (simp only [ByteArray.size_extract, Nat.min_self, Nat.sub_zero, ByteArray.size_append]; first | done | rfl)) ?_; (with_reducible refine (clavigerref10_Decrypt.calls kj3 a0 a1 a2 t5 t16 _ A13.out).mono ?_); rintro e w30 ⟨rfl, hb⟩; refine ⟨_, rfl, ?_⟩; have n0_ := Aside0.mk (below_step (by repeat (first | (with_reducible first | exact HB.out | apply below_alloc | apply pw_below_drewN | apply below_drew1) | exact HB.out)) hb); clear HB; have HB := n0_; clear n0_; (try clear hb); (try clear hb2); (try clear hk); (try clear hi)) | (go_at_call 120; (with_reducible refine (cbc_Last.calls a1 a2 t6 _ A18.out).mono ?_); rintro e w' ⟨rfl, ⟨nd, rfl⟩⟩) | (go_at_call 121; (with_reducible refine (clavigerref10_Last.calls a1 a2 t7 _ A19.out).mono ?_); rintro e w' ⟨rfl, ⟨nd, rfl⟩⟩))
         go_ret
         exact ⟨by first | rfl | (simp [errW_none, errW_some] <;> rfl) | (simp [*, errW_none, errW_some] <;> rfl), by repeat (first | (with_reducible first | exact HB.out | apply below_alloc | apply pw_below_drewN | apply below_drew1) | exact HB.out)⟩
       ·rw [if_neg c17] at H
        have c17b0 : (t15 == t16) = false := beq_eq_false_iff_ne.mpr c17
        have c17b1 : (t15 != t16) = true := bne_iff_ne.mpr c17
        obtain rfl := Option.some.inj H
        go_wp2_with (first | ((with_reducible refine gate_callee (f := 117) rfl ?_); refine goesL_ (some 33) rfl rfl Try.func117 (by kernel_rfl) rfl #[.string a0, .string a1, .string a2] rfl (by (try simp only [List.map_toArray, List.map_cons, List.map_nil]); first | done | rfl | (simp only [List.length_drop, List.length_take]; rfl) | (simp only [ByteArray.size_extract, Nat.min_self, Nat.sub_zero, ByteArray.size_append]; first | done | rfl)) ?_; (with_reducible refine (cbc_Encrypt.calls a0 a1 a2 t2 t13 _ A10.out).mono ?_); rintro e w31 ⟨rfl, hb⟩; refine ⟨_, rfl, ?_⟩; have n0_ := Aside0.mk (below_step (by repeat (first | (with_reducible first | exact HB.out | apply below_alloc | apply pw_below_drewN | apply below_drew1) | exact HB.out)) hb); clear HB; have HB := n0_; clear n0_; (try clear hb); (try clear hb2); (try clear hk); (try clear hi)) | ((with_reducible refine gate_callee (f := 118) rfl ?_); refine goesL_ (some 40) rfl rfl Try.func118 (by kernel_rfl) rfl #[.string a0, .string a1, .string a2] rfl (by (try simp only [List.map_toArray, List.map_cons, List.map_nil]); first | done | rfl | (simp only [List.length_drop, List.length_take]; rfl) | (simp only [ByteArray.size_extract, Nat.min_self, Nat.sub_zero, ByteArray.size_append]; first | done | rfl)) ?_; (with_reducible refine (clavigerref10_Encrypt.calls kj3 a0 a1 a2 t3 t14 _ A11.out).mono ?_); rintro e w32 ⟨rfl, hb⟩; refine ⟨_, rfl, ?_⟩; have n0_ := Aside0.mk (below_step (by repeat (first | (with_reducible first | exact HB.out | apply below_alloc | apply pw_below_drewN | apply below_drew1) | exact HB.out)) hb); clear HB; have HB := n0_; clear n0_; (try clear hb); (try clear hb2); (try clear hk); (try clear hi)) | ((with_reducible refine gate_callee (f := 119) rfl ?_); refine goesL_ (some 47) rfl rfl Try.func119 (by kernel_rfl) rfl #[.string a0, .string a1, .string a2] rfl (by (try simp only [List.map_toArray, List.map_cons, List.map_nil]); first | done | rfl | (simp only [List.length_drop, List.length_take]; rfl) | (simp only [ByteArray.size_extract, Nat.min_self, Nat.sub_zero, ByteArray.size_append]; first | done | rfl)) ?_; (with_reducible refine (cbc_Decrypt.calls a0 a1 a2 t4 t15 _ A12.out).mono ?_); rintro e w33 ⟨rfl, hb⟩; refine ⟨_, rfl, ?_⟩; have n0_ := Aside0.mk (below_step (by repeat (first | (with_reducible first | exact HB.out | apply below_alloc | apply pw_below_drewN | apply below_drew1) | exact HB.out)) hb); clear HB; have HB := n0_; clear n0_; (try clear hb); (try clear hb2); (try clear hk); (try clear hi)) | ((with_reducible refine gate_callee (f := 73) rfl ?_); refine goesL_ (some 54) rfl rfl Try.func73 (by kernel_rfl) rfl #[.string a0, .string a1, .string a2] rfl (by (try simp only [List.map_toArray, List.map_cons, List.map_nil]); first | done | rfl | (simp only [List.length_drop, List.length_take]; rfl) | (simp only [ByteArray.size_extract, Nat.min_self, Nat.sub_zero, ByteArray.size_append]; first | done | rfl)) ?_; (with_reducible refine (clavigerref10_Decrypt.calls kj3 a0 a1 a2 t5 t16 _ A13.out).mono ?_); rintro e w34 ⟨rfl, hb⟩; refine ⟨_, rfl, ?_⟩; have n0_ := Aside0.mk (below_step (by repeat (first | (with_reducible first | exact HB.out | apply below_alloc | apply pw_below_drewN | apply below_drew1) | exact HB.out)) hb); clear HB; have HB := n0_; clear n0_; (try clear hb); (try clear hb2); (try clear hk); (try clear hi)))
        go_ret
        exact ⟨by first | rfl | (simp [errW_none, errW_some] <;> rfl) | (simp [*, errW_none, errW_some] <;> rfl), by repeat (first | (with_reducible first | exact HB.out | apply below_alloc | apply pw_below_drewN | apply below_drew1) | exact HB.out)⟩
      ·rw [if_neg c16] at H
       have c16b0 : (t4.toList == t5.toList) = false := beq_eq_false_iff_ne.mpr c16
       have c16b1 : (t4.toList != t5.toList) = true := bne_iff_ne.mpr c16
       obtain rfl := Option.some.inj H
       go_wp2_with (first | ((with_reducible refine gate_callee (f := 117) rfl ?_); refine goesL_ (some 33) rfl rfl Try.func117 (by kernel_rfl) rfl #[.string a0, .string a1, .string a2] rfl (by (try simp only [List.map_toArray, List.map_cons, List.map_nil]); first | done | rfl | (simp only [List.length_drop, List.length_take]; rfl) | (simp only [ByteArray.size_extract, Nat.min_self, Nat.sub_zero, ByteArray.size_append]; first | done | rfl)) ?_; (with_reducible refine (cbc_Encrypt.calls a0 a1 a2 t2 t13 _ A10.out).mono ?_); rintro e w35 ⟨rfl, hb⟩; refine ⟨_, rfl, ?_⟩; have n0_ := Aside0.mk (below_step (by repeat (first | (with_reducible first | exact HB.out | apply below_alloc | apply pw_below_drewN | apply below_drew1) | exact HB.out)) hb); clear HB; have HB := n0_; clear n0_; (try clear hb); (try clear hb2); (try clear hk); (try clear hi)) | ((with_reducible refine gate_callee (f := 118) rfl ?_); refine goesL_ (some 40) rfl rfl Try.func118 (by kernel_rfl) rfl #[.string a0, .string a1, .string a2] rfl (by (try simp only [List.map_toArray, List.map_cons, List.map_nil]); first | done | rfl | (simp only [List.length_drop, List.length_take]; rfl) | (simp only [ByteArray.size_extract, Nat.min_self, Nat.sub_zero, ByteArray.size_append]; first | done | rfl)) ?_; (with_reducible refine (clavigerref10_Encrypt.calls kj3 a0 a1 a2 t3 t14 _ A11.out).mono ?_); rintro e w36 ⟨rfl, hb⟩; refine ⟨_, rfl, ?_⟩; have n0_ := Aside0.mk (below_step (by repeat (first | (with_reducible first | exact HB.out | apply below_alloc | apply pw_below_drewN | apply below_drew1) | exact HB.out)) hb); clear HB; have HB := n0_; clear n0_; (try clear hb); (try clear hb2); (try clear hk); (try clear hi)) | ((with_reducible refine gate_callee (f := 119) rfl ?_); refine goesL_ (some 47) rfl rfl Try.func119 (by kernel_rfl) rfl #[.string a0, .string a1, .string a2] rfl (by (try simp only [List.map_toArray, List.map_cons, List.map_nil]); first | done | rfl | (simp only [List.length_drop, List.length_take]; rfl) | (simp only [ByteArray.size_extract, Nat.min_self, Nat.sub_zero, ByteArray.size_append]; first | done | rfl)) ?_; (with_reducible refine (cbc_Decrypt.calls a0 a1 a2 t4 t15 _ A12.out).mono ?_); rintro e w37 ⟨rfl, hb⟩; refine ⟨_, rfl, ?_⟩; have n0_ := Aside0.mk (below_step (by repeat (first | (with_reducible first | exact HB.out | apply below_alloc | apply pw_below_drewN | apply below_drew1) | exact HB.out)) hb); clear HB; have HB := n0_; clear n0_; (try clear hb); (try clear hb2); (try clear hk); (try clear hi)) | ((with_reducible refine gate_callee (f := 73) rfl ?_); refine goesL_ (some 54) rfl rfl Try.func73 (by kernel_rfl) rfl #[.string a0, .string a1, .string a2] rfl (by (try simp only [List.map_toArray, List.map_cons, List.map_nil]); first | done | rfl | (simp only [List.length_drop, List.length_take]; rfl) | (simp only [ByteArray.size_extract, Nat.min_self, Nat.sub_zero, ByteArray.size_append]; first | done | rfl)) ?_; (with_reducible refine (clavigerref10_Decrypt.calls kj3 a0 a1 a2 t5 t16 _ A13.out).mono ?_); rintro e w38 ⟨rfl, hb⟩; refine ⟨_, rfl, ?_⟩; have n0_ := Aside0.mk (below_step (by repeat (first | (with_reducible first | exact HB.out | apply below_alloc | apply pw_below_drewN | apply below_drew1) | exact HB.out)) hb); clear HB; have HB := n0_; clear n0_; (try clear hb); (try clear hb2); (try clear hk); (try clear hi)))
       go_ret
       exact ⟨by first | rfl | (simp [errW_none, errW_some] <;> rfl) | (simp [*, errW_none, errW_some] <;> rfl), by repeat (first | (with_reducible first | exact HB.out | apply below_alloc | apply pw_below_drewN | apply below_drew1) | exact HB.out)⟩
     ·rw [if_neg c15] at H
      have c15b0 : (t13 == t14) = false := beq_eq_false_iff_ne.mpr c15
      have c15b1 : (t13 != t14) = true := bne_iff_ne.mpr c15
      obtain rfl := Option.some.inj H
      go_wp2_with (first | ((with_reducible refine gate_callee (f := 117) rfl ?_); refine goesL_ (some 33) rfl rfl Try.func117 (by kernel_rfl) rfl #[.string a0, .string a1, .string a2] rfl (by (try simp only [List.map_toArray, List.map_cons, List.map_nil]); first | done | rfl | (simp only [List.length_drop, List.length_take]; rfl) | (simp only [ByteArray.size_extract, Nat.min_self, Nat.sub_zero, ByteArray.size_append]; first | done | rfl)) ?_; (with_reducible refine (cbc_Encrypt.calls a0 a1 a2 t2 t13 _ A10.out).mono ?_); rintro e w39 ⟨rfl, hb⟩; refine ⟨_, rfl, ?_⟩; have n0_ := Aside0.mk (below_step (by repeat (first | (with_reducible first | exact HB.out | apply below_alloc | apply pw_below_drewN | apply below_drew1) | exact HB.out)) hb); clear HB; have HB := n0_; clear n0_; (try clear hb); (try clear hb2); (try clear hk); (try clear hi)) | ((with_reducible refine gate_callee (f := 118) rfl ?_); refine goesL_ (some 40) rfl rfl Try.func118 (by kernel_rfl) rfl #[.string a0, .string a1, .string a2] rfl (by (try simp only [List.map_toArray, List.map_cons, List.map_nil]); first | done | rfl | (simp only [List.length_drop, List.length_take]; rfl) | (simp only [ByteArray.size_extract, Nat.min_self, Nat.sub_zero, ByteArray.size_append]; first | done | rfl)) ?_; (with_reducible refine (clavigerref10_Encrypt.calls kj3 a0 a1 a2 t3 t14 _ A11.out).mono ?_); rintro e w40 ⟨rfl, hb⟩; refine ⟨_, rfl, ?_⟩; have n0_ := Aside0.mk (below_step (by repeat (first | (with_reducible first | exact HB.out | apply below_alloc | apply pw_below_drewN | apply below_drew1) | exact HB.out)) hb); clear HB; have HB := n0_; clear n0_; (try clear hb); (try clear hb2); (try clear hk); (try clear hi)) | ((with_reducible refine gate_callee (f := 119) rfl ?_); refine goesL_ (some 47) rfl rfl Try.func119 (by kernel_rfl) rfl #[.string a0, .string a1, .string a2] rfl (by (try simp only [List.map_toArray, List.map_cons, List.map_nil]); first | done | rfl | (simp only [List.length_drop, List.length_take]; rfl) | (simp only [ByteArray.size_extract, Nat.min_self, Nat.sub_zero, ByteArray.size_append]; first | done | rfl)) ?_; (with_reducible refine (cbc_Decrypt.calls a0 a1 a2 t4 t15 _ A12.out).mono ?_); rintro e w41 ⟨rfl, hb⟩; refine ⟨_, rfl, ?_⟩; have n0_ := Aside0.mk (below_step (by repeat (first | (with_reducible first | exact HB.out | apply below_alloc | apply pw_below_drewN | apply below_drew1) | exact HB.out)) hb); clear HB; have HB := n0_; clear n0_; (try clear hb); (try clear hb2); (try clear hk); (try clear hi)) | ((with_reducible refine gate_callee (f := 73) rfl ?_); refine goesL_ (some 54) rfl rfl Try.func73 (by kernel_rfl) rfl #[.string a0, .string a1, .string a2] rfl (by (try simp only [List.map_toArray, List.map_cons, List.map_nil]); first | done | rfl | (simp only [List.length_drop, List.length_take]; rfl) | (simp only [ByteArray.size_extract, Nat.min_self, Nat.sub_zero, ByteArray.size_append]; first | done | rfl)) ?_; (with_reducible refine (clavigerref10_Decrypt.calls kj3 a0 a1 a2 t5 t16 _ A13.out).mono ?_); rintro e w42 ⟨rfl, hb⟩; refine ⟨_, rfl, ?_⟩; have n0_ := Aside0.mk (below_step (by repeat (first | (with_reducible first | exact HB.out | apply below_alloc | apply pw_below_drewN | apply below_drew1) | exact HB.out)) hb); clear HB; have HB := n0_; clear n0_; (try clear hb); (try clear hb2); (try clear hk); (try clear hi)))
      go_ret
      exact ⟨by first | rfl | (simp [errW_none, errW_some] <;> rfl) | (simp [*, errW_none, errW_some] <;> rfl), by repeat (first | (with_reducible first | exact HB.out | apply below_alloc | apply pw_below_drewN | apply below_drew1) | exact HB.out)⟩
    ·rw [if_neg c14] at H
     have c14b0 : (t2.toList == t3.toList) = false := beq_eq_false_iff_ne.mpr c14
     have c14b1 : (t2.toList != t3.toList) = true := bne_iff_ne.mpr c14
     obtain rfl := Option.some.inj H
     go_wp2_with (first | ((with_reducible refine gate_callee (f := 117) rfl ?_); refine goesL_ (some 33) rfl rfl Try.func117 (by kernel_rfl) rfl #[.string a0, .string a1, .string a2] rfl (by (try simp only [List.map_toArray, List.map_cons, List.map_nil]); first | done | rfl | (simp only [List.length_drop, List.length_take]; rfl) | (simp only [ByteArray.size_extract, Nat.min_self, Nat.sub_zero, ByteArray.size_append]; first | done | rfl)) ?_; (with_reducible refine (cbc_Encrypt.calls a0 a1 a2 t2 t13 _ A10.out).mono ?_); rintro e w43 ⟨rfl, hb⟩; refine ⟨_, rfl, ?_⟩; have n0_ := Aside0.mk (below_step (by repeat (first | (with_reducible first | exact HB.out | apply below_alloc | apply pw_below_drewN | apply below_drew1) | exact HB.out)) hb); clear HB; have HB := n0_; clear n0_; (try clear hb); (try clear hb2); (try clear hk); (try clear hi)) | ((with_reducible refine gate_callee (f := 118) rfl ?_); refine goesL_ (some 40) rfl rfl Try.func118 (by kernel_rfl) rfl #[.string a0, .string a1, .string a2] rfl (by (try simp only [List.map_toArray, List.map_cons, List.map_nil]); first | done | rfl | (simp only [List.length_drop, List.length_take]; rfl) | (simp only [ByteArray.size_extract, Nat.min_self, Nat.sub_zero, ByteArray.size_append]; first | done | rfl)) ?_; (with_reducible refine (clavigerref10_Encrypt.calls kj3 a0 a1 a2 t3 t14 _ A11.out).mono ?_); rintro e w44 ⟨rfl, hb⟩; refine ⟨_, rfl, ?_⟩; have n0_ := Aside0.mk (below_step (by repeat (first | (with_reducible first | exact HB.out | apply below_alloc | apply pw_below_drewN | apply below_drew1) | exact HB.out)) hb); clear HB; have HB := n0_; clear n0_; (try clear hb); (try clear hb2); (try clear hk); (try clear hi)) | ((with_reducible refine gate_callee (f := 119) rfl ?_); refine goesL_ (some 47) rfl rfl Try.func119 (by kernel_rfl) rfl #[.string a0, .string a1, .string a2] rfl (by (try simp only [List.map_toArray, List.map_cons, List.map_nil]); first | done | rfl | (simp only [List.length_drop, List.length_take]; rfl) | (simp only [ByteArray.size_extract, Nat.min_self, Nat.sub_zero, ByteArray.size_append]; first | done | rfl)) ?_; (with_reducible refine (cbc_Decrypt.calls a0 a1 a2 t4 t15 _ A12.out).mono ?_); rintro e w45 ⟨rfl, hb⟩; refine ⟨_, rfl, ?_⟩; have n0_ := Aside0.mk (below_step (by repeat (first | (with_reducible first | exact HB.out | apply below_alloc | apply pw_below_drewN | apply below_drew1) | exact HB.out)) hb); clear HB; have HB := n0_; clear n0_; (try clear hb); (try clear hb2); (try clear hk); (try clear hi)) | ((with_reducible refine gate_callee (f := 73) rfl ?_); refine goesL_ (some 54) rfl rfl Try.func73 (by kernel_rfl) rfl #[.string a0, .string a1, .string a2] rfl (by (try simp only [List.map_toArray, List.map_cons, List.map_nil]); first | done | rfl | (simp only [List.length_drop, List.length_take]; rfl) | (simp only [ByteArray.size_extract, Nat.min_self, Nat.sub_zero, ByteArray.size_append]; first | done | rfl)) ?_; (with_reducible refine (clavigerref10_Decrypt.calls kj3 a0 a1 a2 t5 t16 _ A13.out).mono ?_); rintro e w46 ⟨rfl, hb⟩; refine ⟨_, rfl, ?_⟩; have n0_ := Aside0.mk (below_step (by repeat (first | (with_reducible first | exact HB.out | apply below_alloc | apply pw_below_drewN | apply below_drew1) | exact HB.out)) hb); clear HB; have HB := n0_; clear n0_; (try clear hb); (try clear hb2); (try clear hk); (try clear hi)))
     go_ret
     exact ⟨by first | rfl | (simp [errW_none, errW_some] <;> rfl) | (simp [*, errW_none, errW_some] <;> rfl), by repeat (first | (with_reducible first | exact HB.out | apply below_alloc | apply pw_below_drewN | apply below_drew1) | exact HB.out)⟩

/-- THE ONE PURE STATEMENT of clavigerlaw10_CbcTells: yours. -/
def clavigerlaw10_CbcTells.Pure : Prop := ∀ (a0 : ByteArray) (a1 : ByteArray) (a2 : ByteArray), a0.size ≤ 140737488351232 → a1.size ≤ 140737488351232 → a2.size ≤ 140737488351232 → ∃ k, clavigerlaw10_CbcTells.f k a0 a1 a2 = some true
theorem clavigerlaw10_CbcTells.walk (P : clavigerlaw10_CbcTells.Pure) (a0 : ByteArray) (a1 : ByteArray) (a2 : ByteArray) (w : World) (w0 : a0.size ≤ 140737488351232) (w1 : a1.size ≤ 140737488351232) (w2 : a2.size ≤ 140737488351232) :
  Calls Try.prog 21 #[.string a0, .string a1, .string a2] w fun e w' => e = .returned (.bool true) ∧ Below w.heap.size w w' := by
 obtain ⟨k, h⟩ := P a0 a1 a2 w0 w1 w2
 refine (clavigerlaw10_CbcTells.calls k a0 a1 a2 true w h).mono ?_
 rintro e w' ⟨rfl, hd⟩
 exact ⟨rfl, hd⟩

end Go.Proofs.Ytokkhnjedmlbhaa.Pr
end
section
namespace Go.Proofs.Ytokkhnjedmlbhaa.M
open Go.RowKit Go.Proofs.Ytokkhnjedmlbhaa.Pr Go.Proofs.YtokkhnjedmlbhaaW.PrintWords Go.Proofs.YtokkhnjedmlbhaaW.PrintLast Go.Proofs.YtokkhnjedmlbhaaW.PrintMore Go.Proofs.YtokkhnjedmlbhaaGf
set_option linter.unusedSimpArgs false
def cbcE (key iv s : ByteArray) : ByteArray × Int := if rdyE key iv s = 0 then (outJ (ksB key) s iv (s.size / 16), 0) else (⟨#[]⟩, rdyE key iv s)
def cbcD (key iv s : ByteArray) : ByteArray × Int := if rdyE key iv s = 0 then (xorT (manyB (ksB key) true (s.size / 16) s) (iv ++ s), 0) else (⟨#[]⟩, rdyE key iv s)
theorem cenc_x (key iv s : ByteArray) (h : s.size < 1000000) : cbc_Encrypt.f key iv s = some (cbcE key iv s) := by
  unfold cbc_Encrypt.f; rw [if_pos h]; rfl
theorem cdec_x (key iv s : ByteArray) (h : s.size < 1000000) : cbc_Decrypt.f key iv s = some (cbcD key iv s) := by
  unfold cbc_Decrypt.f; rw [if_pos h]; rfl
theorem bad_c (key iv s : ByteArray) : Ev (fun k => clavigerref10_bad.f k key iv s) (rdyE key iv s) := by
  have j : ∀ b : Bool, Ev (fun k => clavigerref10_bad.j0 k iv s b) (if b = true then 2 else if iv.size = 16 then if s.size % 16 = 0 then 0 else 4 else 1) := fun b => by
    cases b with
    | true => exact Ev.step (f := fun _ => some 2) (fun k => by simp only [clavigerref10_bad.j0]; rw [if_pos True.intro]) (Ev.now _)
    | false =>
      refine Ev.step (f := fun _ => some (if iv.size = 16 then if s.size % 16 = 0 then 0 else 4 else 1)) (fun k => ?_) (Ev.now _)
      simp only [clavigerref10_bad.j0]
      rw [if_neg (by simp)]
      by_cases h1 : iv.size = 16
      · rw [if_pos (by omega), if_pos h1]
        by_cases h2 : s.size % 16 = 0
        · rw [if_pos (by omega), if_pos h2]
        · rw [if_neg (by omega), if_neg h2]
      · rw [if_neg (by omega), if_neg h1]
  unfold clavigerref10_bad.f rdyE
  by_cases h1 : key.size = 16
  · rw [if_pos (.inl h1)]
    exact evp (by omega) (j false)
  · refine evn (by omega) ?_
    by_cases h2 : key.size = 24
    · rw [if_pos (.inr (.inl h2))]
      exact evp (by omega) (j false)
    · refine evn (by omega) ?_
      by_cases h3 : key.size = 32
      · rw [if_pos (.inr (.inr h3)), show ((key.size : Int) != 32) = false by rw [h3]; rfl]
        exact j false
      · rw [if_neg (by unfold okN; omega), show ((key.size : Int) != 32) = true from bne_iff_ne.mpr (by omega)]
        exact j true
theorem rcencL {key : ByteArray} (ok : okN key.size) (iv s : ByteArray) (hi : iv.size = 16) (m : Nat) (hm : s.size = 16 * m) (hb : m < 100000000) (d : Nat) : ∀ j, m - j = d → j ≤ m →
    Ev (fun k => clavigerref10_Encrypt.l0 k key (ivJ (ksB key) s iv j) s (outJ (ksB key) s iv j) ((16 * j : Nat) : Int)) (outJ (ksB key) s iv m, 0) := by
  have hk := (ks_facts ok).2.1
  induction d with
  | zero =>
    intro j hd hj
    obtain rfl : j = m := by omega
    refine Ev.step (f := fun _ => some (outJ (ksB key) s iv j, 0)) (fun k => ?_) (Ev.now _)
    simp only [clavigerref10_Encrypt.l0]
    rw [if_neg (by omega)]
  | succ d ih =>
    intro j hd hj
    have hh := ih (j + 1) (by omega) (by omega)
    have e : wrap64 (((16 * j : Nat) : Int) + 16) = ((16 * j + 16 : Nat) : Int) := by rw [wrap_id (by omega) (by omega)]; omega
    rw [show ((16 * (j + 1) : Nat) : Int) = ((16 * j + 16 : Nat) : Int) by omega] at hh
    have h1 := ivJ_size hk (s := s) hi j (by omega)
    have hz : (s.extract (16 * j) (16 * j + 16)).size = 16 := by rw [ByteArray.size_extract]; omega
    have hx : (xorT (s.extract (16 * j) (16 * j + 16)) (ivJ (ksB key) s iv j)).size = 16 := by rw [xorT_size, h1, hz]; rfl
    refine Ev.step (f := fun k => (clavigerref01_Xor.f k (s.extract (16 * j) (16 * j + 16)) (ivJ (ksB key) s iv j)).bind fun t322 => ((clavigerref09_Encrypt.f k key t322).bind fun bt323 => (if (outJ (ksB key) s iv j).size + bt323.1.size ≤ 9223372036854775807 then (clavigerref10_Encrypt.l0 k key bt323.1 s (outJ (ksB key) s iv j ++ bt323.1) ((16 * j + 16 : Nat) : Int)) else (none)))) (fun k => ?_) ?_
    · simp only [clavigerref10_Encrypt.l0]
      rw [if_pos (by omega), if_pos (by omega), e, if_pos (by omega), if_pos (by omega), Int.toNat_natCast, Int.toNat_natCast]
    · have he := renc_c key (xorT (s.extract (16 * j) (16 * j + 16)) (ivJ (ksB key) s iv j))
      rw [encX_ok ok hx] at he
      refine evb (rxor_c _ _ (by omega) (by omega)) (evb he (evp ?_ hh))
      show (outJ (ksB key) s iv j).size + (encT (ksB key) _).size ≤ _
      rw [outJ_size hk hi j (by omega), enc_size hk hx]
      omega
theorem rcenc_c (key iv s : ByteArray) (h : s.size < 1000000) : Ev (fun k => clavigerref10_Encrypt.f k key iv s) (cbcE key iv s) := by
  unfold clavigerref10_Encrypt.f cbcE
  refine evb (bad_c key iv s) ?_
  by_cases hr : rdyE key iv s = 0
  · obtain ⟨hk, hi, hs⟩ := rdy_ok hr
    rw [if_pos hr]
    exact evp hr (rcencL hk iv s hi (s.size / 16) (by omega) (by omega) _ 0 rfl (by omega))
  · rw [if_neg hr]
    exact evn hr (Ev.now _)
def blk (s : ByteArray) (j : Nat) : ByteArray := s.extract (16 * j) (16 * j + 16)
def prv (s iv : ByteArray) : Nat → ByteArray
  | 0 => iv
  | j + 1 => blk s j
theorem bb_app (a b : ByteArray) (i : Nat) : bb (a ++ b) i = if i < a.size then bb a i else bb b (i - a.size) := by
  rw [bb_nb, nb_append, List.getD_eq_getElem?_getD]
  by_cases h : i < a.size
  · rw [if_pos h, List.getElem?_append_left (by rw [nb_length]; exact h), bb_nb, List.getD_eq_getElem?_getD]
  · rw [if_neg h, List.getElem?_append_right (by rw [nb_length]; omega), nb_length, bb_nb, List.getD_eq_getElem?_getD]
theorem xor_app {a b : ByteArray} (x y : ByteArray) (h : a.size = b.size) : xorT (a ++ x) (b ++ y) = xorT a b ++ xorT x y := by
  unfold xorT
  rw [mkB_append, ByteArray.size_append, ByteArray.size_append, ← h, show min (a.size + x.size) (a.size + y.size) = a.size + min x.size y.size by omega, Nat.min_self, List.range_add, List.map_append, List.map_map]
  congr 2
  · refine List.map_congr_left (fun i hi => ?_)
    have := List.mem_range.1 hi
    rw [bb_app, bb_app, if_pos this, if_pos (by omega)]
  · refine List.map_congr_left (fun i _ => ?_)
    show bb (a ++ x) (a.size + i) ^^^ bb (b ++ y) (a.size + i) = _
    rw [bb_app, bb_app, if_neg (by omega), if_neg (by omega), show a.size + i - a.size = i by omega, show a.size + i - b.size = i by omega]
theorem xor_empty (y : ByteArray) : xorT ⟨#[]⟩ y = ⟨#[]⟩ := by
  unfold xorT
  rw [show (⟨#[]⟩ : ByteArray).size = 0 from rfl, Nat.zero_min]
  rfl
theorem xor_cat (n : Nat) : ∀ (l m : List ByteArray), allS n l → allS n m → l.length ≤ m.length → xorT (catB l) (catB m) = catB (List.zipWith xorT l m)
  | [], _, _, _, _ => xor_empty _
  | a :: l, [], _, _, h => by simp at h
  | a :: l, b :: m, hl, hm, h => by
    show xorT (a ++ catB l) (b ++ catB m) = xorT a b ++ catB (List.zipWith xorT l m)
    rw [xor_app _ _ ((hl a (by simp)).trans (hm b (by simp)).symm), xor_cat n l m (fun x hx => hl x (by simp [hx])) (fun x hx => hm x (by simp [hx])) (by simpa using h)]
theorem zip_rng (f g : Nat → ByteArray) (m n : Nat) (h : m ≤ n) : List.zipWith xorT ((List.range m).map f) ((List.range n).map g) = (List.range m).map fun j => xorT (f j) (g j) := by
  apply List.ext_getElem
  · simp; omega
  · intro i h1 h2
    simp
theorem rng_cat (f : Nat → ByteArray) (m : Nat) : catB ((List.range (m + 1)).map f) = catB ((List.range m).map f) ++ f m := by
  rw [List.range_succ, List.map_append, cat_app, List.map_singleton, cat_one]
theorem prv_cat (s iv : ByteArray) : ∀ m, catB ((List.range (m + 1)).map (prv s iv)) = iv ++ catB (pcs 16 m s)
  | 0 => by
    show iv ++ (⟨#[]⟩ : ByteArray) = iv ++ (⟨#[]⟩ : ByteArray)
    rfl
  | m + 1 => by
    rw [rng_cat, prv_cat s iv m, pcs_succ, cat_app, cat_one, ByteArray.append_assoc]
    rfl
theorem prv_all {s iv : ByteArray} (hi : iv.size = 16) {m : Nat} (hs : 16 * m ≤ s.size) : allS 16 ((List.range (m + 1)).map (prv s iv)) := by
  intro x hx
  obtain ⟨j, hj, rfl⟩ := List.mem_map.1 hx
  have hj := List.mem_range.1 hj
  cases j with
  | zero => exact hi
  | succ j =>
    show (blk s j).size = 16
    unfold blk
    rw [ByteArray.size_extract]; omega
theorem many_rng (ks : List ByteArray) (back : Bool) (m : Nat) (s : ByteArray) : manyB ks back m s = catB ((List.range m).map fun j => cryT ks back (blk s j)) := by
  unfold manyB pcs
  rw [List.map_map]
  rfl
theorem dec_list {ks : List ByteArray} (hk : all16 ks) {s iv : ByteArray} (hi : iv.size = 16) {m : Nat} (hs : s.size = 16 * m) : xorT (manyB ks true m s) (iv ++ s) = catB ((List.range m).map fun j => xorT (decT ks (blk s j)) (prv s iv j)) := by
  have h1 : iv ++ s = catB ((List.range (m + 1)).map (prv s iv)) := by rw [prv_cat, pcs_all hs]
  rw [h1, many_rng, xor_cat 16 _ _ (fun x hx => ?_) (prv_all hi (by omega)) (by simp), zip_rng _ _ _ _ (by omega)]
  · rfl
  · obtain ⟨j, hj, rfl⟩ := List.mem_map.1 hx
    have hj := List.mem_range.1 hj
    exact cry_size hk true (by unfold blk; rw [ByteArray.size_extract]; omega)
theorem cat_get (n : Nat) : ∀ (l : List ByteArray) (j : Nat) (x : ByteArray), allS n l → l[j]? = some x → (catB l).extract (n * j) (n * j + n) = x
  | [], j, x, _, h => by simp at h
  | a :: l, 0, x, hs, h => by
    have ha := hs a (by simp)
    have : a = x := by simpa using h
    subst this
    show (a ++ catB l).extract (n * 0) (n * 0 + n) = a
    rw [Nat.mul_zero, Nat.zero_add, ← ha]
    exact ext_left a _
  | a :: l, j + 1, x, hs, h => by
    have ha := hs a (by simp)
    have hh := cat_get n l j x (fun y hy => hs y (by simp [hy])) (by simpa using h)
    show (a ++ catB l).extract (n * (j + 1)) (n * (j + 1) + n) = x
    rw [← hh, Nat.mul_succ, extract_nb, extract_nb, nb_append]
    congr 1
    have hl := nb_length a
    rw [show n * j + n + n = (nb a).length + (n * j + n) by omega, show n * j + n = (nb a).length + n * j by omega, List.take_length_add_append, List.drop_length_add_append]
theorem many_blk {ks : List ByteArray} (hk : all16 ks) (back : Bool) {s : ByteArray} {m j : Nat} (hs : 16 * m ≤ s.size) (hj : j < m) : (manyB ks back m s).extract (16 * j) (16 * j + 16) = cryT ks back (blk s j) := by
  refine cat_get 16 _ j _ (many_all hk back hs) ?_
  simp [pcs, hj, blk]
def decL (ks : List ByteArray) (s iv : ByteArray) (j : Nat) : ByteArray := catB ((List.range j).map fun j => xorT (decT ks (blk s j)) (prv s iv j))
theorem decL_size {ks : List ByteArray} (hk : all16 ks) {s iv : ByteArray} (hi : iv.size = 16) (j : Nat) (hj : 16 * j ≤ s.size) : (decL ks s iv j).size = 16 * j := by
  unfold decL
  rw [cat_size 16 _ (fun x hx => ?_), List.length_map, List.length_range]
  obtain ⟨q, hq, rfl⟩ := List.mem_map.1 hx
  have hq := List.mem_range.1 hq
  have := prv_all (s := s) hi (m := q) (by omega) (prv s iv q) (List.mem_map_of_mem (List.mem_range.2 (by omega)))
  rw [xorT_size, this, dec_size hk (by unfold blk; rw [ByteArray.size_extract]; omega)]
  rfl
theorem rcdecL {ks : List ByteArray} (hk : all16 ks) (iv s : ByteArray) (hi : iv.size = 16) (m : Nat) (hm : s.size = 16 * m) (hb : m < 100000000) (d : Nat) : ∀ j, m - j = d → j ≤ m →
    Ev (fun k => clavigerref10_Decrypt.l0 k (prv s iv j) s (decL ks s iv j) (manyB ks true m s) ((16 * j : Nat) : Int)) (decL ks s iv m, 0) := by
  have hD := many_size hk true (m := m) (s := s) (by omega)
  induction d with
  | zero =>
    intro j hd hj
    obtain rfl : j = m := by omega
    refine Ev.step (f := fun _ => some (decL ks s iv j, 0)) (fun k => ?_) (Ev.now _)
    simp only [clavigerref10_Decrypt.l0]
    rw [if_neg (by omega)]
  | succ d ih =>
    intro j hd hj
    have hh := ih (j + 1) (by omega) (by omega)
    have e : wrap64 (((16 * j : Nat) : Int) + 16) = ((16 * j + 16 : Nat) : Int) := by rw [wrap_id (by omega) (by omega)]; omega
    rw [show ((16 * (j + 1) : Nat) : Int) = ((16 * j + 16 : Nat) : Int) by omega] at hh
    have hz := decL_size hk (s := s) hi j (by omega)
    have hp := prv_all (s := s) hi (m := j) (by omega) (prv s iv j) (List.mem_map_of_mem (List.mem_range.2 (by omega)))
    have hd2 : (decT ks (blk s j)).size = 16 := dec_size hk (by unfold blk; rw [ByteArray.size_extract]; omega)
    refine Ev.step (f := fun k => (clavigerref01_Xor.f k (decT ks (blk s j)) (prv s iv j)).bind fun t442 => (if (decL ks s iv j).size + t442.size ≤ 9223372036854775807 then (if ((16 * j + 16 : Nat) : Int) ≤ (s.size : Int) then (clavigerref10_Decrypt.l0 k (s.extract (16 * j) (16 * j + 16)) s (decL ks s iv j ++ t442) (manyB ks true m s) ((16 * j + 16 : Nat) : Int)) else (none)) else (none))) (fun k => ?_) ?_
    · simp only [clavigerref10_Decrypt.l0]
      rw [if_pos (by omega), if_pos (by omega), e, if_pos (by omega), if_pos (by omega), Int.toNat_natCast, Int.toNat_natCast, many_blk hk true (by omega) (show j < m by omega)]
      rfl
    · refine evb (rxor_c _ _ (by omega) (by omega)) (evp (by rw [xorT_size]; omega) (evp (by omega) ?_))
      have : decL ks s iv (j + 1) = decL ks s iv j ++ xorT (decT ks (blk s j)) (prv s iv j) := by unfold decL; rw [rng_cat]
      rw [← this]
      exact hh
theorem rcdec_c (key iv s : ByteArray) (h : s.size < 1000000) : Ev (fun k => clavigerref10_Decrypt.f k key iv s) (cbcD key iv s) := by
  unfold clavigerref10_Decrypt.f cbcD
  refine evb (bad_c key iv s) ?_
  by_cases hr : rdyE key iv s = 0
  · obtain ⟨hk, hi, hs⟩ := rdy_ok hr
    have hm := rmany_c key s true (by omega)
    unfold manyX at hm
    rw [if_pos hk, if_pos hs] at hm
    rw [if_pos hr, dec_list (ks_facts hk).2.1 hi (by omega)]
    exact evp hr (evb hm (rcdecL (ks_facts hk).2.1 iv s hi (s.size / 16) (by omega) (by omega) _ 0 rfl (by omega)))
  · rw [if_neg hr]
    exact evn hr (Ev.now _)
theorem out_rng (ks : List ByteArray) (s iv : ByteArray) : ∀ m, outJ ks s iv m = catB ((List.range m).map fun j => ivJ ks s iv (j + 1))
  | 0 => rfl
  | m + 1 => by rw [rng_cat, ← out_rng ks s iv m]; rfl
theorem out_blk {ks : List ByteArray} (hk : all16 ks) {s iv : ByteArray} (hi : iv.size = 16) {m j : Nat} (hs : 16 * m ≤ s.size) (hj : j < m) : blk (outJ ks s iv m) j = ivJ ks s iv (j + 1) := by
  unfold blk
  rw [out_rng]
  refine cat_get 16 _ j _ (fun x hx => ?_) (by simp [hj])
  obtain ⟨q, hq, rfl⟩ := List.mem_map.1 hx
  have hq := List.mem_range.1 hq
  exact ivJ_size hk hi (q + 1) (by omega)
theorem xor_xor {a b : ByteArray} (h : a.size = b.size) : xorT (xorT a b) b = a := by
  have hs : (xorT a b).size = a.size := by rw [xorT_size, h, Nat.min_self]
  have hb : ∀ i, i < a.size → bb (xorT a b) i = bb a i ^^^ bb b i := fun i hi => by
    unfold xorT
    rw [bb_mkB (isB_rng (fun i => xor_lt (bb_lt a i) (bb_lt b i)) _), h, Nat.min_self]
    simp [show i < b.size by omega]
  conv => rhs; rw [← mkB_nb a]
  have e : xorT (xorT a b) b = mkB ((List.range a.size).map fun i => bb (xorT a b) i ^^^ bb b i) := by
    show mkB ((List.range (min (xorT a b).size b.size)).map _) = _
    rw [hs, h, Nat.min_self]
  rw [e]
  congr 1
  apply List.ext_getElem (by rw [List.length_map, List.length_range, nb_length])
  intro i h1 h2
  have hi : i < a.size := by rw [nb_length] at h2; exact h2
  rw [List.getElem_map, List.getElem_range, hb i hi, Nat.xor_assoc, Nat.xor_self, Nat.xor_zero, bb_nb, List.getD_eq_getElem?_getD, List.getElem?_eq_getElem h2]
  rfl
theorem cbc_back {ks : List ByteArray} (hk : all16 ks) {s iv : ByteArray} (hi : iv.size = 16) {m : Nat} (hs : s.size = 16 * m) : xorT (manyB ks true m (outJ ks s iv m)) (iv ++ outJ ks s iv m) = s := by
  have hz := outJ_size hk (s := s) hi m (by omega)
  rw [dec_list hk hi hz]
  conv => rhs; rw [← pcs_all hs]
  unfold pcs
  congr 1
  refine List.map_congr_left (fun j hj => ?_)
  have hj := List.mem_range.1 hj
  have h1 := ivJ_size hk (s := s) hi j (by omega)
  have h2 : (s.extract (16 * j) (16 * j + 16)).size = 16 := by rw [ByteArray.size_extract]; omega
  have h3 : prv (outJ ks s iv m) iv j = ivJ ks s iv j := by
    cases j with
    | zero => rfl
    | succ j => exact out_blk hk hi (by omega) (by omega)
  rw [out_blk hk hi (by omega) hj, h3]
  show xorT (decT ks (encT ks (xorT (s.extract (16 * j) (16 * j + 16)) (ivJ ks s iv j)))) (ivJ ks s iv j) = _
  rw [dec_enc hk (by rw [xorT_size, h1, h2]; rfl), xor_xor (by omega)]
theorem last_t {ks : List ByteArray} (hk : all16 ks) {s iv : ByteArray} (hi : iv.size = 16) : ∀ t, 16 * t ≤ s.size → s.size < 1000000 → cbc_Last.f iv (outJ ks s iv t) = some (ivJ ks s iv t)
  | 0, _, _ => by unfold cbc_Last.f; rw [if_pos (by show ((0 : Nat) : Int) < 16; omega)]; rfl
  | t + 1, ht, hb => by
    have h1 := outJ_size hk (s := s) hi (t + 1) ht
    have h2 := outJ_size hk (s := s) hi t (by omega)
    unfold cbc_Last.f
    rw [if_neg (by omega), show wrap64 (((outJ ks s iv (t + 1)).size : Int) - 16) = ((16 * t : Nat) : Int) by rw [wrap_id (by omega) (by omega)]; omega, if_pos (by omega), if_pos (by omega), Int.toNat_natCast, ← h2]
    exact congrArg some (ext_right (outJ ks s iv t) _)
theorem ivJ_pre (ks : List ByteArray) (s iv : ByteArray) (n : Nat) (hn : n ≤ s.size) : ∀ j, 16 * j ≤ n → ivJ ks (s.extract 0 n) iv j = ivJ ks s iv j
  | 0, _ => rfl
  | j + 1, hj => by
    have : (s.extract 0 n).extract (16 * j) (16 * j + 16) = s.extract (16 * j) (16 * j + 16) := by
      rw [extract_nb, extract_nb, extract_nb, nb_mkB (isB_drop (isB_take (isB_nb s) _) _), List.drop_zero, List.take_take, Nat.min_eq_left (by omega)]
    simp only [ivJ]
    rw [this, ivJ_pre ks s iv n hn j (by omega)]
theorem ivJ_suf (ks : List ByteArray) (s iv : ByteArray) (t : Nat) : ∀ j, 16 * t + 16 * j ≤ s.size → ivJ ks (s.extract (16 * t) s.size) (ivJ ks s iv t) j = ivJ ks s iv (t + j)
  | 0, _ => rfl
  | j + 1, hj => by
    have : (s.extract (16 * t) s.size).extract (16 * j) (16 * j + 16) = s.extract (16 * (t + j)) (16 * (t + j) + 16) := by
      rw [extract_nb, extract_nb, extract_nb, nb_mkB (isB_drop (isB_take (isB_nb s) _) _), List.take_of_length_le (l := nb s) (by rw [nb_length]; exact Nat.le_refl _)]
      congr 1
      rw [List.drop_take, List.drop_drop, List.drop_take]
      congr 1
      · omega
      · congr 1; omega
    simp only [ivJ]
    rw [this, ivJ_suf ks s iv t j (by omega)]
    rfl
theorem out_two {ks : List ByteArray} {s iv : ByteArray} {m t : Nat} (hs : s.size = 16 * m) (ht : t ≤ m) : outJ ks (s.extract 0 (16 * t)) iv t ++ outJ ks (s.extract (16 * t) s.size) (ivJ ks s iv t) (m - t) = outJ ks s iv m := by
  obtain ⟨d, rfl⟩ : ∃ d, m = t + d := ⟨m - t, by omega⟩
  have e1 : (List.range t).map (fun j => ivJ ks (s.extract 0 (16 * t)) iv (j + 1)) = (List.range t).map fun j => ivJ ks s iv (j + 1) :=
    List.map_congr_left (fun j hj => by have := List.mem_range.1 hj; exact ivJ_pre ks s iv (16 * t) (by omega) (j + 1) (by omega))
  have e2 : (List.range d).map (fun j => ivJ ks (s.extract (16 * t) s.size) (ivJ ks s iv t) (j + 1)) = (List.range d).map fun j => ivJ ks s iv (t + j + 1) :=
    List.map_congr_left (fun j hj => by have := List.mem_range.1 hj; exact ivJ_suf ks s iv t (j + 1) (by omega))
  have e3 : (List.range (t + d)).map (fun j => ivJ ks s iv (j + 1)) = ((List.range t).map fun j => ivJ ks s iv (j + 1)) ++ (List.range d).map fun j => ivJ ks s iv (t + j + 1) := by
    rw [List.range_add, List.map_append, List.map_map]
    rfl
  rw [show t + d - t = d by omega, out_rng, out_rng, out_rng, e1, e2, e3, cat_app]
end Go.Proofs.Ytokkhnjedmlbhaa.M
end
