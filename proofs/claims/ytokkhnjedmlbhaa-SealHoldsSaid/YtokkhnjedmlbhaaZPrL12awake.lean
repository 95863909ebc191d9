-- several texts in one (by the session's program shake.py)
import Derived.Test.YtokkhnjedmlbhaaZPrg01x
import Derived.Test.YtokkhnjedmlbhaaZWordM
import Derived.Test.YtokkhnjedmlbhaaZPrg11b
import Derived.Test.YtokkhnjedmlbhaaZPrg37
import Derived.Test.YtokkhnjedmlbhaaZPrL37awake
import Derived.Test.YtokkhnjedmlbhaaZCmac
import Derived.Test.YtokkhnjedmlbhaaZXor
import Derived.Test.YtokkhnjedmlbhaaZDeriveK
import Derived.Test.YtokkhnjedmlbhaaZPrg01
import Derived.Test.YtokkhnjedmlbhaaZPrg12
section
namespace Go.Proofs.Ytokkhnjedmlbhaa.Pr
open Go.RowKit Go.Proofs.YtokkhnjedmlbhaaW.PrintWords Go.Proofs.YtokkhnjedmlbhaaW.PrintLast Go.Proofs.YtokkhnjedmlbhaaW.PrintMore
attribute [local go_sem] max2_int min2_int max_two min_two max_three min_three max_four min_four   -- for this text's walks alone
set_option linter.unusedVariables false
set_option linter.unusedSimpArgs false

def clavigerlaw37_SealHolds.j0 : Nat → ByteArray → ByteArray → ByteArray → Bool → Option (Bool)
 | 0, _, _, _, _ => none
 | k + 1, x0, x1, x2, x29 => if x29 = true then ((clavigerlaw37_awake.f k).bind fun t1 => (some t1)) else ((seal_Seal.f k x0 x1 x2).bind fun bt2 => (if bt2.2.2 = 0 then ((clavigerref35_Keys.f k x0).bind fun bt3 => ((clavigerref10_Decrypt.f k bt3.1 bt2.2.1 bt2.1).bind fun bt4 => (if x1.size + bt4.1.size ≤ 9223372036854775807 then ((clavigerref11_Tag.f k bt3.2.1 (x1 ++ bt4.1)).bind fun bt5 => (if bt4.1.toList = x2.toList then (if bt4.2 = 0 then (if bt5.1.toList = bt2.2.1.toList then (if bt5.2 = 0 then ((clavigerlaw37_awake.f k).bind fun t6 => (some t6)) else (some false)) else (some false)) else (some false)) else (some false))) else (none)))) else (if bt2.1.toList = ([] : List UInt8) then (if bt2.2.1.toList = ([] : List UInt8) then (if bt2.2.2 = 2 then ((clavigerlaw37_awake.f k).bind fun t7 => (some t7)) else (if bt2.2.2 = 4 then ((clavigerlaw37_awake.f k).bind fun t8 => (some t8)) else (some false))) else (some false)) else (some false))))
def clavigerlaw37_SealHolds.f (k : Nat) (a0 : ByteArray) (a1 : ByteArray) (a2 : ByteArray) : Option (Bool) := if (a0.size : Int) > 100 then (clavigerlaw37_SealHolds.j0 k a0 a1 a2 true) else (if (a1.size : Int) > 300 then (clavigerlaw37_SealHolds.j0 k a0 a1 a2 true) else (clavigerlaw37_SealHolds.j0 k a0 a1 a2 (decide ((a2.size : Int) > 160))))
theorem clavigerlaw37_SealHolds.mono_l : ∀ k, (∀ y9 y10 y11 y12, LeO (clavigerlaw37_SealHolds.j0 k y9 y10 y11 y12) (clavigerlaw37_SealHolds.j0 (k + 1) y9 y10 y11 y12))
 | 0 => fun _ _ _ _ r h => by simp [clavigerlaw37_SealHolds.j0] at h
 | k + 1 => by
  have ih0 := clavigerlaw37_SealHolds.mono_l k
  ·intro y9 y10 y11 y12
   unfold clavigerlaw37_SealHolds.j0
   repeat' first
   | (with_reducible exact ih0 _ _ _ _)
   | (with_reducible exact clavigerlaw37_awake.mono _)
   | (with_reducible exact clavigerref10_Decrypt.mono _ _ _ _)
   | (with_reducible exact clavigerref11_Tag.mono _ _ _)
   | (with_reducible exact clavigerref35_Keys.mono _ _)
   | (with_reducible exact seal_Seal.mono _ _ _ _)
   | (with_reducible exact LeO.refl _)
   | (with_reducible exact LeO.none _)
   | (with_reducible refine LeO.ite ?_ ?_)
   | (with_reducible refine LeO.bind ?_ (fun _ => ?_))
theorem clavigerlaw37_SealHolds.mono : ∀ a0 a1 a2 k, LeO (clavigerlaw37_SealHolds.f k a0 a1 a2) (clavigerlaw37_SealHolds.f (k + 1) a0 a1 a2) := by
 intro a0 a1 a2 k
 have ih0 := clavigerlaw37_SealHolds.mono_l k
 unfold clavigerlaw37_SealHolds.f
 repeat' first
   | (with_reducible exact ih0 _ _ _ _)
   | (with_reducible exact clavigerlaw37_awake.mono _)
   | (with_reducible exact clavigerref10_Decrypt.mono _ _ _ _)
   | (with_reducible exact clavigerref11_Tag.mono _ _ _)
   | (with_reducible exact clavigerref35_Keys.mono _ _)
   | (with_reducible exact seal_Seal.mono _ _ _ _)
   | (with_reducible exact LeO.refl _)
   | (with_reducible exact LeO.none _)
   | (with_reducible refine LeO.ite ?_ ?_)
   | (with_reducible refine LeO.bind ?_ (fun _ => ?_))
set_option maxHeartbeats 8000000 in
set_option maxRecDepth 100000 in
theorem clavigerlaw37_SealHolds.calls (k : Nat) (a0 : ByteArray) (a1 : ByteArray) (a2 : ByteArray) (r : Bool) (w : World) (h : clavigerlaw37_SealHolds.f k a0 a1 a2 = some r) :
  Calls Try.prog 32 #[.string a0, .string a1, .string a2] w fun e w' => e = .returned (.bool r) ∧ Below w.heap.size w w' := by
 have HB := Aside0.mk (Below.refl w.heap.size w)
 have H : (if (a0.size : Int) > 100 then (clavigerlaw37_SealHolds.j0 k a0 a1 a2 true) else (if (a1.size : Int) > 300 then (clavigerlaw37_SealHolds.j0 k a0 a1 a2 true) else (clavigerlaw37_SealHolds.j0 k a0 a1 a2 (decide ((a2.size : Int) > 160))))) = some r := h
 clear h
 have HC4 := Aside0.mk H
 clear H
 go_enter Try.func32, Try.ntmps32
 go_upto_region 1 with (fail)
 go_cut [29] (fun v29 wc => ∃ (kq : Nat) (x29_3 : Bool), v29 = .bool x29_3 ∧ Aside0 (clavigerlaw37_SealHolds.j0 kq a0 a1 a2 x29_3 = some r) ∧ Aside0 (kq ≤ k) ∧ Aside0 (Below w.heap.size w wc))
 case first =>
  have H := HC4.out
  clear HC4
  by_cases c5 : (a0.size : Int) > 100
  ·rw [if_pos c5] at H
   have c5b0 : decide (100 < (a0.size : Int)) = true := decide_eq_true c5
   have c5b1 : decide (100 < a0.size) = true := decide_eq_true (by omega)
   clear c5
   (first | rw [c5b0] | (simp only [i64_w, i32_w]; rw [c5b0]) | skip)
   have H' := Aside0.mk H
   clear H
   go_wp2
   go_meet
   case rel => exact ⟨_, (true), (by first | rfl | (simp; done) | (simp [*]; done)), H', ⟨by first | omega | exact Nat.le_refl _⟩, ⟨by repeat first | with_reducible (first | exact HB.out | apply bA | apply bN | apply bD) | exact HB.out⟩⟩
  ·rw [if_neg c5] at H
   have c5b0 : decide (100 < (a0.size : Int)) = false := decide_eq_false c5
   have c5b1 : decide (100 < a0.size) = false := decide_eq_false (by omega)
   clear c5
   (first | rw [c5b0] | (simp only [i64_w, i32_w]; rw [c5b0]) | skip)
   by_cases c6 : (a1.size : Int) > 300
   ·rw [if_pos c6] at H
    have c6b0 : decide (300 < (a1.size : Int)) = true := decide_eq_true c6
    have c6b1 : decide (300 < a1.size) = true := decide_eq_true (by omega)
    clear c6
    have H' := Aside0.mk H
    clear H
    go_wp2
    go_meet
    case rel => exact ⟨_, (true), (by first | rfl | (simp; done) | (simp [*]; done)), H', ⟨by first | omega | exact Nat.le_refl _⟩, ⟨by repeat first | with_reducible (first | exact HB.out | apply bA | apply bN | apply bD) | exact HB.out⟩⟩
   ·rw [if_neg c6] at H
    have c6b0 : decide (300 < (a1.size : Int)) = false := decide_eq_false c6
    have c6b1 : decide (300 < a1.size) = false := decide_eq_false (by omega)
    clear c6
    have H' := Aside0.mk H
    clear H
    go_wp2
    go_meet
    case rel => exact ⟨_, (decide ((a2.size : Int) > 160)), (by first | rfl | (simp; done) | (simp [*]; done)), H', ⟨by first | omega | exact Nat.le_refl _⟩, ⟨by repeat first | with_reducible (first | exact HB.out | apply bA | apply bN | apply bD) | exact HB.out⟩⟩
 case rest =>
  clear HC4
  try clear p2
  try clear c3
  try clear c5
  try clear c5b0
  try clear c5b1
  try clear c6
  try clear c6b0
  try clear c6b1
  obtain ⟨kq, x29_3, rfl, HA, HJ3, HB⟩ := hcut
  cases kq with
  | zero => exact absurd HA.out (by simp [clavigerlaw37_SealHolds.j0])
  | succ kj3 =>
   have H := HA.out
   clear HA
   simp only [clavigerlaw37_SealHolds.j0] at H
   by_cases c7 : x29_3 = true
   ·subst c7
    have H1 : ((clavigerlaw37_awake.f kj3).bind fun t1 => (some t1)) = some r := by rw [if_pos rfl] at H; exact H
    clear H
    have H := H1
    clear H1
    replace H := Option.bind_eq_some_iff.mp H
    obtain ⟨t1, A80, H⟩ := H
    replace H : (some t1) = some r := H
    have A8 := Aside0.mk A80
    clear A80
    obtain rfl := Option.some.inj H
    go_wp2_with (first | ((with_reducible refine gate_callee (f := 147) rfl ?_); refine goesL_ (some 30) rfl rfl Try.func147 (by kernel_rfl) rfl #[] rfl (by (try simp only [lT, lC, lN]); first | done | rfl) ?_; (with_reducible refine (clavigerlaw37_awake.calls kj3  t1 _ A8.out).mono ?_); rintro e w9 ⟨rfl, hb⟩; refine ⟨_, rfl, ?_⟩; have n0_ := Aside0.mk (below_step (by repeat first | with_reducible (first | exact HB.out | apply bA | apply bN | apply bD) | exact HB.out) hb); clear HB; have HB := n0_; clear n0_; (try clear hb); (try clear hb2); (try clear hk); (try clear hi)))
    go_ret
    exact ⟨by first | rfl | (simp [*, errW_none, errW_some] <;> rfl), by repeat first | with_reducible (first | exact HB.out | apply bA | apply bN | apply bD) | exact HB.out⟩
   ·replace c7 := Bool.eq_false_iff.mpr c7
    subst c7
    have H1 : ((seal_Seal.f kj3 a0 a1 a2).bind fun bt2 => (if bt2.2.2 = 0 then ((clavigerref35_Keys.f kj3 a0).bind fun bt3 => ((clavigerref10_Decrypt.f kj3 bt3.1 bt2.2.1 bt2.1).bind fun bt4 => (if a1.size + bt4.1.size ≤ 9223372036854775807 then ((clavigerref11_Tag.f kj3 bt3.2.1 (a1 ++ bt4.1)).bind fun bt5 => (if bt4.1.toList = a2.toList then (if bt4.2 = 0 then (if bt5.1.toList = bt2.2.1.toList then (if bt5.2 = 0 then ((clavigerlaw37_awake.f kj3).bind fun t6 => (some t6)) else (some false)) else (some false)) else (some false)) else (some false))) else (none)))) else (if bt2.1.toList = ([] : List UInt8) then (if bt2.2.1.toList = ([] : List UInt8) then (if bt2.2.2 = 2 then ((clavigerlaw37_awake.f kj3).bind fun t7 => (some t7)) else (if bt2.2.2 = 4 then ((clavigerlaw37_awake.f kj3).bind fun t8 => (some t8)) else (some false))) else (some false)) else (some false)))) = some r := by rw [if_neg (show ¬ (false = true) by decide)] at H; exact H
    clear H
    have H := H1
    clear H1
    replace H := Option.bind_eq_some_iff.mp H
    obtain ⟨⟨t2, t13, t14⟩, A100, H⟩ := H
    try dsimp only at H
    have A10 := Aside0.mk A100
    clear A100
    by_cases c11 : t14 = 0
    ·rw [if_pos c11] at H
     have c11b0 : (t14 == 0) = true := beq_iff_eq.mpr c11
     have c11b1 : (t14 != 0) = false := bne_eq_false_iff_eq.mpr c11
     clear c11
     replace H := Option.bind_eq_some_iff.mp H
     obtain ⟨⟨t3, t15, t16⟩, A120, H⟩ := H
     try dsimp only at H
     have A12 := Aside0.mk A120
     clear A120
     replace H := Option.bind_eq_some_iff.mp H
     obtain ⟨⟨t4, t17⟩, A130, H⟩ := H
     try dsimp only at H
     have A13 := Aside0.mk A130
     clear A130
     by_cases c14 : a1.size + t4.size ≤ 9223372036854775807
     ·rw [if_pos c14] at H
      have c14b0 := eq_true c14
      have c14b1 : decide (a1.size + t4.size ≤ 9223372036854775807) = true := decide_eq_true c14
      try have c14b2 : (9223372036854775807 < a1.size + t4.size) = False := eq_false (Nat.not_lt.2 c14)
      replace H := Option.bind_eq_some_iff.mp H
      obtain ⟨⟨t5, t18⟩, A150, H⟩ := H
      try dsimp only at H
      have A15 := Aside0.mk A150
      clear A150
      by_cases c16 : t4.toList = a2.toList
      ·rw [if_pos c16] at H
       have c16b0 : (t4.toList == a2.toList) = true := beq_iff_eq.mpr c16
       have c16b1 : (t4.toList != a2.toList) = false := bne_eq_false_iff_eq.mpr c16
       clear c16
       by_cases c17 : t17 = 0
       ·rw [if_pos c17] at H
        have c17b0 : (t17 == 0) = true := beq_iff_eq.mpr c17
        have c17b1 : (t17 != 0) = false := bne_eq_false_iff_eq.mpr c17
        clear c17
        by_cases c18 : t5.toList = t13.toList
        ·rw [if_pos c18] at H
         have c18b0 : (t5.toList == t13.toList) = true := beq_iff_eq.mpr c18
         have c18b1 : (t5.toList != t13.toList) = false := bne_eq_false_iff_eq.mpr c18
         clear c18
         by_cases c19 : t18 = 0
         ·rw [if_pos c19] at H
          have c19b0 : (t18 == 0) = true := beq_iff_eq.mpr c19
          have c19b1 : (t18 != 0) = false := bne_eq_false_iff_eq.mpr c19
          clear c19
          replace H := Option.bind_eq_some_iff.mp H
          obtain ⟨t6, A200, H⟩ := H
          replace H : (some t6) = some r := H
          have A20 := Aside0.mk A200
          clear A200
          obtain rfl := Option.some.inj H
          go_wp2_with (first | ((with_reducible refine gate_callee (f := 148) rfl ?_); refine goesL_ (some 35) rfl rfl Try.func148 (by kernel_rfl) rfl #[.string a0, .string a1, .string a2] rfl (by (try simp only [lT, lC, lN]); first | done | rfl) ?_; (with_reducible refine (seal_Seal.calls kj3 a0 a1 a2 t2 t13 t14 _ A10.out).mono ?_); rintro e w21 ⟨rfl, hb⟩; refine ⟨_, rfl, ?_⟩; have n0_ := Aside0.mk (below_step (by repeat first | with_reducible (first | exact HB.out | apply bA | apply bN | apply bD) | exact HB.out) hb); clear HB; have HB := n0_; clear n0_; (try clear hb); (try clear hb2); (try clear hk); (try clear hi)) | ((with_reducible refine gate_callee (f := 72) rfl ?_); refine goesL_ (some 60) rfl rfl Try.func72 (by kernel_rfl) rfl #[.string a0] rfl (by (try simp only [lT, lC, lN]); first | done | rfl) ?_; (with_reducible refine (clavigerref35_Keys.calls kj3 a0 t3 t15 t16 _ A12.out).mono ?_); rintro e w22 ⟨rfl, hb⟩; refine ⟨_, rfl, ?_⟩; have n0_ := Aside0.mk (below_step (by repeat first | with_reducible (first | exact HB.out | apply bA | apply bN | apply bD) | exact HB.out) hb); clear HB; have HB := n0_; clear n0_; (try clear hb); (try clear hb2); (try clear hk); (try clear hi)) | ((with_reducible refine gate_callee (f := 73) rfl ?_); refine goesL_ (some 68) rfl rfl Try.func73 (by kernel_rfl) rfl #[.string t3, .string t13, .string t2] rfl (by (try simp only [lT, lC, lN]); first | done | rfl) ?_; (with_reducible refine (clavigerref10_Decrypt.calls kj3 t3 t13 t2 t4 t17 _ A13.out).mono ?_); rintro e w23 ⟨rfl, hb⟩; refine ⟨_, rfl, ?_⟩; have n0_ := Aside0.mk (below_step (by repeat first | with_reducible (first | exact HB.out | apply bA | apply bN | apply bD) | exact HB.out) hb); clear HB; have HB := n0_; clear n0_; (try clear hb); (try clear hb2); (try clear hk); (try clear hi)) | ((with_reducible refine gate_callee (f := 74) rfl ?_); refine goesL_ (some 76) rfl rfl Try.func74 (by kernel_rfl) rfl #[.string t15, .string (a1 ++ t4)] rfl (by (try simp only [lT, lC, lN]); first | done | rfl) ?_; (with_reducible refine (clavigerref11_Tag.calls kj3 t15 (a1 ++ t4) t5 t18 _ A15.out).mono ?_); rintro e w24 ⟨rfl, hb⟩; refine ⟨_, rfl, ?_⟩; have n0_ := Aside0.mk (below_step (by repeat first | with_reducible (first | exact HB.out | apply bA | apply bN | apply bD) | exact HB.out) hb); clear HB; have HB := n0_; clear n0_; (try clear hb); (try clear hb2); (try clear hk); (try clear hi)) | (go_at_call 147; (with_reducible refine (clavigerlaw37_awake.calls kj3  t6 _ A20.out).mono ?_); rintro e w25 ⟨rfl, hb⟩; have n0_ := Aside0.mk (below_step (by repeat first | with_reducible (first | exact HB.out | apply bA | apply bN | apply bD) | exact HB.out) hb); clear HB; have HB := n0_; clear n0_; (try clear hb); (try clear hb2); (try clear hk); (try clear hi)))
          go_ret
          exact ⟨by first | rfl | (simp [*, errW_none, errW_some] <;> rfl), by repeat first | with_reducible (first | exact HB.out | apply bA | apply bN | apply bD) | exact HB.out⟩
         ·rw [if_neg c19] at H
          have c19b0 : (t18 == 0) = false := beq_eq_false_iff_ne.mpr c19
          have c19b1 : (t18 != 0) = true := bne_iff_ne.mpr c19
          obtain rfl := Option.some.inj H
          go_wp2_with (first | ((with_reducible refine gate_callee (f := 148) rfl ?_); refine goesL_ (some 35) rfl rfl Try.func148 (by kernel_rfl) rfl #[.string a0, .string a1, .string a2] rfl (by (try simp only [lT, lC, lN]); first | done | rfl) ?_; (with_reducible refine (seal_Seal.calls kj3 a0 a1 a2 t2 t13 t14 _ A10.out).mono ?_); rintro e w26 ⟨rfl, hb⟩; refine ⟨_, rfl, ?_⟩; have n0_ := Aside0.mk (below_step (by repeat first | with_reducible (first | exact HB.out | apply bA | apply bN | apply bD) | exact HB.out) hb); clear HB; have HB := n0_; clear n0_; (try clear hb); (try clear hb2); (try clear hk); (try clear hi)) | ((with_reducible refine gate_callee (f := 72) rfl ?_); refine goesL_ (some 60) rfl rfl Try.func72 (by kernel_rfl) rfl #[.string a0] rfl (by (try simp only [lT, lC, lN]); first | done | rfl) ?_; (with_reducible refine (clavigerref35_Keys.calls kj3 a0 t3 t15 t16 _ A12.out).mono ?_); rintro e w27 ⟨rfl, hb⟩; refine ⟨_, rfl, ?_⟩; have n0_ := Aside0.mk (below_step (by repeat first | with_reducible (first | exact HB.out | apply bA | apply bN | apply bD) | exact HB.out) hb); clear HB; have HB := n0_; clear n0_; (try clear hb); (try clear hb2); (try clear hk); (try clear hi)) | ((with_reducible refine gate_callee (f := 73) rfl ?_); refine goesL_ (some 68) rfl rfl Try.func73 (by kernel_rfl) rfl #[.string t3, .string t13, .string t2] rfl (by (try simp only [lT, lC, lN]); first | done | rfl) ?_; (with_reducible refine (clavigerref10_Decrypt.calls kj3 t3 t13 t2 t4 t17 _ A13.out).mono ?_); rintro e w28 ⟨rfl, hb⟩; refine ⟨_, rfl, ?_⟩; have n0_ := Aside0.mk (below_step (by repeat first | with_reducible (first | exact HB.out | apply bA | apply bN | apply bD) | exact HB.out) hb); clear HB; have HB := n0_; clear n0_; (try clear hb); (try clear hb2); (try clear hk); (try clear hi)) | ((with_reducible refine gate_callee (f := 74) rfl ?_); refine goesL_ (some 76) rfl rfl Try.func74 (by kernel_rfl) rfl #[.string t15, .string (a1 ++ t4)] rfl (by (try simp only [lT, lC, lN]); first | done | rfl) ?_; (with_reducible refine (clavigerref11_Tag.calls kj3 t15 (a1 ++ t4) t5 t18 _ A15.out).mono ?_); rintro e w29 ⟨rfl, hb⟩; refine ⟨_, rfl, ?_⟩; have n0_ := Aside0.mk (below_step (by repeat first | with_reducible (first | exact HB.out | apply bA | apply bN | apply bD) | exact HB.out) hb); clear HB; have HB := n0_; clear n0_; (try clear hb); (try clear hb2); (try clear hk); (try clear hi)))
          go_ret
          exact ⟨by first | rfl | (simp [*, errW_none, errW_some] <;> rfl), by repeat first | with_reducible (first | exact HB.out | apply bA | apply bN | apply bD) | exact HB.out⟩
        ·rw [if_neg c18] at H
         have c18b0 : (t5.toList == t13.toList) = false := beq_eq_false_iff_ne.mpr c18
         have c18b1 : (t5.toList != t13.toList) = true := bne_iff_ne.mpr c18
         obtain rfl := Option.some.inj H
         go_wp2_with (first | ((with_reducible refine gate_callee (f := 148) rfl ?_); refine goesL_ (some 35) rfl rfl Try.func148 (by kernel_rfl) rfl #[.string a0, .string a1, .string a2] rfl (by (try simp only [lT, lC, lN]); first | done | rfl) ?_; (with_reducible refine (seal_Seal.calls kj3 a0 a1 a2 t2 t13 t14 _ A10.out).mono ?_); rintro e w30 ⟨rfl, hb⟩; refine ⟨_, rfl, ?_⟩; have n0_ := Aside0.mk (below_step (by repeat first | with_reducible (first | exact HB.out | apply bA | apply bN | apply bD) | exact HB.out) hb); clear HB; have HB := n0_; clear n0_; (try clear hb); (try clear hb2); (try clear hk); (try clear hi)) | ((with_reducible refine gate_callee (f := 72) rfl ?_); refine goesL_ (some 60) rfl rfl Try.func72 (by kernel_rfl) rfl #[.string a0] rfl (by (try simp only [lT, lC, lN]); first | done | rfl) ?_; (with_reducible refine (clavigerref35_Keys.calls kj3 a0 t3 t15 t16 _ A12.out).mono ?_); rintro e w31 ⟨rfl, hb⟩; refine ⟨_, rfl, ?_⟩; have n0_ := Aside0.mk (below_step (by repeat first | with_reducible (first | exact HB.out | apply bA | apply bN | apply bD) | exact HB.out) hb); clear HB; have HB := n0_; clear n0_; (try clear hb); (try clear hb2); (try clear hk); (try clear hi)) | ((with_reducible refine gate_callee (f := 73) rfl ?_); refine goesL_ (some 68) rfl rfl Try.func73 (by kernel_rfl) rfl #[.string t3, .string t13, .string t2] rfl (by (try simp only [lT, lC, lN]); first | done | rfl) ?_; (with_reducible refine (clavigerref10_Decrypt.calls kj3 t3 t13 t2 t4 t17 _ A13.out).mono ?_); rintro e w32 ⟨rfl, hb⟩; refine ⟨_, rfl, ?_⟩; have n0_ := Aside0.mk (below_step (by repeat first | with_reducible (first | exact HB.out | apply bA | apply bN | apply bD) | exact HB.out) hb); clear HB; have HB := n0_; clear n0_; (try clear hb); (try clear hb2); (try clear hk); (try clear hi)) | ((with_reducible refine gate_callee (f := 74) rfl ?_); refine goesL_ (some 76) rfl rfl Try.func74 (by kernel_rfl) rfl #[.string t15, .string (a1 ++ t4)] rfl (by (try simp only [lT, lC, lN]); first | done | rfl) ?_; (with_reducible refine (clavigerref11_Tag.calls kj3 t15 (a1 ++ t4) t5 t18 _ A15.out).mono ?_); rintro e w33 ⟨rfl, hb⟩; refine ⟨_, rfl, ?_⟩; have n0_ := Aside0.mk (below_step (by repeat first | with_reducible (first | exact HB.out | apply bA | apply bN | apply bD) | exact HB.out) hb); clear HB; have HB := n0_; clear n0_; (try clear hb); (try clear hb2); (try clear hk); (try clear hi)))
         go_ret
         exact ⟨by first | rfl | (simp [*, errW_none, errW_some] <;> rfl), by repeat first | with_reducible (first | exact HB.out | apply bA | apply bN | apply bD) | exact HB.out⟩
       ·rw [if_neg c17] at H
        have c17b0 : (t17 == 0) = false := beq_eq_false_iff_ne.mpr c17
        have c17b1 : (t17 != 0) = true := bne_iff_ne.mpr c17
        obtain rfl := Option.some.inj H
        go_wp2_with (first | ((with_reducible refine gate_callee (f := 148) rfl ?_); refine goesL_ (some 35) rfl rfl Try.func148 (by kernel_rfl) rfl #[.string a0, .string a1, .string a2] rfl (by (try simp only [lT, lC, lN]); first | done | rfl) ?_; (with_reducible refine (seal_Seal.calls kj3 a0 a1 a2 t2 t13 t14 _ A10.out).mono ?_); rintro e w34 ⟨rfl, hb⟩; refine ⟨_, rfl, ?_⟩; have n0_ := Aside0.mk (below_step (by repeat first | with_reducible (first | exact HB.out | apply bA | apply bN | apply bD) | exact HB.out) hb); clear HB; have HB := n0_; clear n0_; (try clear hb); (try clear hb2); (try clear hk); (try clear hi)) | ((with_reducible refine gate_callee (f := 72) rfl ?_); refine goesL_ (some 60) rfl rfl Try.func72 (by kernel_rfl) rfl #[.string a0] rfl (by (try simp only [lT, lC, lN]); first | done | rfl) ?_; (with_reducible refine (clavigerref35_Keys.calls kj3 a0 t3 t15 t16 _ A12.out).mono ?_); rintro e w35 ⟨rfl, hb⟩; refine ⟨_, rfl, ?_⟩; have n0_ := Aside0.mk (below_step (by repeat first | with_reducible (first | exact HB.out | apply bA | apply bN | apply bD) | exact HB.out) hb); clear HB; have HB := n0_; clear n0_; (try clear hb); (try clear hb2); (try clear hk); (try clear hi)) | ((with_reducible refine gate_callee (f := 73) rfl ?_); refine goesL_ (some 68) rfl rfl Try.func73 (by kernel_rfl) rfl #[.string t3, .string t13, .string t2] rfl (by (try simp only [lT, lC, lN]); first | done | rfl) ?_; (with_reducible refine (clavigerref10_Decrypt.calls kj3 t3 t13 t2 t4 t17 _ A13.out).mono ?_); rintro e w36 ⟨rfl, hb⟩; refine ⟨_, rfl, ?_⟩; have n0_ := Aside0.mk (below_step (by repeat first | with_reducible (first | exact HB.out | apply bA | apply bN | apply bD) | exact HB.out) hb); clear HB; have HB := n0_; clear n0_; (try clear hb); (try clear hb2); (try clear hk); (try clear hi)) | ((with_reducible refine gate_callee (f := 74) rfl ?_); refine goesL_ (some 76) rfl rfl Try.func74 (by kernel_rfl) rfl #[.string t15, .string (a1 ++ t4)] rfl (by (try simp only [lT, lC, lN]); first | done | rfl) ?_; (with_reducible refine (clavigerref11_Tag.calls kj3 t15 (a1 ++ t4) t5 t18 _ A15.out).mono ?_); rintro e w37 ⟨rfl, hb⟩; refine ⟨_, rfl, ?_⟩; have n0_ := Aside0.mk (below_step (by repeat first | with_reducible (first | exact HB.out | apply bA | apply bN | apply bD) | exact HB.out) hb); clear HB; have HB := n0_; clear n0_; (try clear hb); (try clear hb2); (try clear hk); (try clear hi)))
        go_ret
        exact ⟨by first | rfl | (simp [*, errW_none, errW_some] <;> rfl), by repeat first | with_reducible (first | exact HB.out | apply bA | apply bN | apply bD) | exact HB.out⟩
      ·rw [if_neg c16] at H
       have c16b0 : (t4.toList == a2.toList) = false := beq_eq_false_iff_ne.mpr c16
       have c16b1 : (t4.toList != a2.toList) = true := bne_iff_ne.mpr c16
       obtain rfl := Option.some.inj H
       go_wp2_with (first | ((with_reducible refine gate_callee (f := 148) rfl ?_); refine goesL_ (some 35) rfl rfl Try.func148 (by kernel_rfl) rfl #[.string a0, .string a1, .string a2] rfl (by (try simp only [lT, lC, lN]); first | done | rfl) ?_; (with_reducible refine (seal_Seal.calls kj3 a0 a1 a2 t2 t13 t14 _ A10.out).mono ?_); rintro e w38 ⟨rfl, hb⟩; refine ⟨_, rfl, ?_⟩; have n0_ := Aside0.mk (below_step (by repeat first | with_reducible (first | exact HB.out | apply bA | apply bN | apply bD) | exact HB.out) hb); clear HB; have HB := n0_; clear n0_; (try clear hb); (try clear hb2); (try clear hk); (try clear hi)) | ((with_reducible refine gate_callee (f := 72) rfl ?_); refine goesL_ (some 60) rfl rfl Try.func72 (by kernel_rfl) rfl #[.string a0] rfl (by (try simp only [lT, lC, lN]); first | done | rfl) ?_; (with_reducible refine (clavigerref35_Keys.calls kj3 a0 t3 t15 t16 _ A12.out).mono ?_); rintro e w39 ⟨rfl, hb⟩; refine ⟨_, rfl, ?_⟩; have n0_ := Aside0.mk (below_step (by repeat first | with_reducible (first | exact HB.out | apply bA | apply bN | apply bD) | exact HB.out) hb); clear HB; have HB := n0_; clear n0_; (try clear hb); (try clear hb2); (try clear hk); (try clear hi)) | ((with_reducible refine gate_callee (f := 73) rfl ?_); refine goesL_ (some 68) rfl rfl Try.func73 (by kernel_rfl) rfl #[.string t3, .string t13, .string t2] rfl (by (try simp only [lT, lC, lN]); first | done | rfl) ?_; (with_reducible refine (clavigerref10_Decrypt.calls kj3 t3 t13 t2 t4 t17 _ A13.out).mono ?_); rintro e w40 ⟨rfl, hb⟩; refine ⟨_, rfl, ?_⟩; have n0_ := Aside0.mk (below_step (by repeat first | with_reducible (first | exact HB.out | apply bA | apply bN | apply bD) | exact HB.out) hb); clear HB; have HB := n0_; clear n0_; (try clear hb); (try clear hb2); (try clear hk); (try clear hi)) | ((with_reducible refine gate_callee (f := 74) rfl ?_); refine goesL_ (some 76) rfl rfl Try.func74 (by kernel_rfl) rfl #[.string t15, .string (a1 ++ t4)] rfl (by (try simp only [lT, lC, lN]); first | done | rfl) ?_; (with_reducible refine (clavigerref11_Tag.calls kj3 t15 (a1 ++ t4) t5 t18 _ A15.out).mono ?_); rintro e w41 ⟨rfl, hb⟩; refine ⟨_, rfl, ?_⟩; have n0_ := Aside0.mk (below_step (by repeat first | with_reducible (first | exact HB.out | apply bA | apply bN | apply bD) | exact HB.out) hb); clear HB; have HB := n0_; clear n0_; (try clear hb); (try clear hb2); (try clear hk); (try clear hi)))
       go_ret
       exact ⟨by first | rfl | (simp [*, errW_none, errW_some] <;> rfl), by repeat first | with_reducible (first | exact HB.out | apply bA | apply bN | apply bD) | exact HB.out⟩
     ·rw [if_neg c14] at H
      exact absurd H (by simp)
    ·rw [if_neg c11] at H
     have c11b0 : (t14 == 0) = false := beq_eq_false_iff_ne.mpr c11
     have c11b1 : (t14 != 0) = true := bne_iff_ne.mpr c11
     by_cases c42 : t2.toList = ([] : List UInt8)
     ·rw [if_pos c42] at H
      have c42b0 : (t2.toList == ([] : List UInt8)) = true := beq_iff_eq.mpr c42
      have c42b1 : (t2.toList != ([] : List UInt8)) = false := bne_eq_false_iff_eq.mpr c42
      clear c42
      by_cases c43 : t13.toList = ([] : List UInt8)
      ·rw [if_pos c43] at H
       have c43b0 : (t13.toList == ([] : List UInt8)) = true := beq_iff_eq.mpr c43
       have c43b1 : (t13.toList != ([] : List UInt8)) = false := bne_eq_false_iff_eq.mpr c43
       clear c43
       by_cases c44 : t14 = 2
       ·rw [if_pos c44] at H
        have c44b0 : (t14 == 2) = true := beq_iff_eq.mpr c44
        have c44b1 : (t14 != 2) = false := bne_eq_false_iff_eq.mpr c44
        clear c44
        replace H := Option.bind_eq_some_iff.mp H
        obtain ⟨t7, A450, H⟩ := H
        replace H : (some t7) = some r := H
        have A45 := Aside0.mk A450
        clear A450
        obtain rfl := Option.some.inj H
        go_wp2_with (first | ((with_reducible refine gate_callee (f := 148) rfl ?_); refine goesL_ (some 35) rfl rfl Try.func148 (by kernel_rfl) rfl #[.string a0, .string a1, .string a2] rfl (by (try simp only [lT, lC, lN]); first | done | rfl) ?_; (with_reducible refine (seal_Seal.calls kj3 a0 a1 a2 t2 t13 t14 _ A10.out).mono ?_); rintro e w46 ⟨rfl, hb⟩; refine ⟨_, rfl, ?_⟩; have n0_ := Aside0.mk (below_step (by repeat first | with_reducible (first | exact HB.out | apply bA | apply bN | apply bD) | exact HB.out) hb); clear HB; have HB := n0_; clear n0_; (try clear hb); (try clear hb2); (try clear hk); (try clear hi)) | (go_at_call 147; (with_reducible refine (clavigerlaw37_awake.calls kj3  t7 _ A45.out).mono ?_); rintro e w47 ⟨rfl, hb⟩; have n0_ := Aside0.mk (below_step (by repeat first | with_reducible (first | exact HB.out | apply bA | apply bN | apply bD) | exact HB.out) hb); clear HB; have HB := n0_; clear n0_; (try clear hb); (try clear hb2); (try clear hk); (try clear hi)))
        go_ret
        exact ⟨by first | rfl | (simp [*, errW_none, errW_some] <;> rfl), by repeat first | with_reducible (first | exact HB.out | apply bA | apply bN | apply bD) | exact HB.out⟩
       ·rw [if_neg c44] at H
        have c44b0 : (t14 == 2) = false := beq_eq_false_iff_ne.mpr c44
        have c44b1 : (t14 != 2) = true := bne_iff_ne.mpr c44
        by_cases c48 : t14 = 4
        ·rw [if_pos c48] at H
         have c48b0 : (t14 == 4) = true := beq_iff_eq.mpr c48
         have c48b1 : (t14 != 4) = false := bne_eq_false_iff_eq.mpr c48
         clear c48
         replace H := Option.bind_eq_some_iff.mp H
         obtain ⟨t8, A490, H⟩ := H
         replace H : (some t8) = some r := H
         have A49 := Aside0.mk A490
         clear A490
         obtain rfl := Option.some.inj H
         go_wp2_with (first | ((with_reducible refine gate_callee (f := 148) rfl ?_); refine goesL_ (some 35) rfl rfl Try.func148 (by kernel_rfl) rfl #[.string a0, .string a1, .string a2] rfl (by (try simp only [lT, lC, lN]); first | done | rfl) ?_; (with_reducible refine (seal_Seal.calls kj3 a0 a1 a2 t2 t13 t14 _ A10.out).mono ?_); rintro e w50 ⟨rfl, hb⟩; refine ⟨_, rfl, ?_⟩; have n0_ := Aside0.mk (below_step (by repeat first | with_reducible (first | exact HB.out | apply bA | apply bN | apply bD) | exact HB.out) hb); clear HB; have HB := n0_; clear n0_; (try clear hb); (try clear hb2); (try clear hk); (try clear hi)) | (go_at_call 147; (with_reducible refine (clavigerlaw37_awake.calls kj3  t8 _ A49.out).mono ?_); rintro e w51 ⟨rfl, hb⟩; have n0_ := Aside0.mk (below_step (by repeat first | with_reducible (first | exact HB.out | apply bA | apply bN | apply bD) | exact HB.out) hb); clear HB; have HB := n0_; clear n0_; (try clear hb); (try clear hb2); (try clear hk); (try clear hi)))
         go_ret
         exact ⟨by first | rfl | (simp [*, errW_none, errW_some] <;> rfl), by repeat first | with_reducible (first | exact HB.out | apply bA | apply bN | apply bD) | exact HB.out⟩
        ·rw [if_neg c48] at H
         have c48b0 : (t14 == 4) = false := beq_eq_false_iff_ne.mpr c48
         have c48b1 : (t14 != 4) = true := bne_iff_ne.mpr c48
         obtain rfl := Option.some.inj H
         go_wp2_with (first | ((with_reducible refine gate_callee (f := 148) rfl ?_); refine goesL_ (some 35) rfl rfl Try.func148 (by kernel_rfl) rfl #[.string a0, .string a1, .string a2] rfl (by (try simp only [lT, lC, lN]); first | done | rfl) ?_; (with_reducible refine (seal_Seal.calls kj3 a0 a1 a2 t2 t13 t14 _ A10.out).mono ?_); rintro e w52 ⟨rfl, hb⟩; refine ⟨_, rfl, ?_⟩; have n0_ := Aside0.mk (below_step (by repeat first | with_reducible (first | exact HB.out | apply bA | apply bN | apply bD) | exact HB.out) hb); clear HB; have HB := n0_; clear n0_; (try clear hb); (try clear hb2); (try clear hk); (try clear hi)))
         go_ret
         exact ⟨by first | rfl | (simp [*, errW_none, errW_some] <;> rfl), by repeat first | with_reducible (first | exact HB.out | apply bA | apply bN | apply bD) | exact HB.out⟩
      ·rw [if_neg c43] at H
       have c43b0 : (t13.toList == ([] : List UInt8)) = false := beq_eq_false_iff_ne.mpr c43
       have c43b1 : (t13.toList != ([] : List UInt8)) = true := bne_iff_ne.mpr c43
       obtain rfl := Option.some.inj H
       go_wp2_with (first | ((with_reducible refine gate_callee (f := 148) rfl ?_); refine goesL_ (some 35) rfl rfl Try.func148 (by kernel_rfl) rfl #[.string a0, .string a1, .string a2] rfl (by (try simp only [lT, lC, lN]); first | done | rfl) ?_; (with_reducible refine (seal_Seal.calls kj3 a0 a1 a2 t2 t13 t14 _ A10.out).mono ?_); rintro e w53 ⟨rfl, hb⟩; refine ⟨_, rfl, ?_⟩; have n0_ := Aside0.mk (below_step (by repeat first | with_reducible (first | exact HB.out | apply bA | apply bN | apply bD) | exact HB.out) hb); clear HB; have HB := n0_; clear n0_; (try clear hb); (try clear hb2); (try clear hk); (try clear hi)))
       go_ret
       exact ⟨by first | rfl | (simp [*, errW_none, errW_some] <;> rfl), by repeat first | with_reducible (first | exact HB.out | apply bA | apply bN | apply bD) | exact HB.out⟩
     ·rw [if_neg c42] at H
      have c42b0 : (t2.toList == ([] : List UInt8)) = false := beq_eq_false_iff_ne.mpr c42
      have c42b1 : (t2.toList != ([] : List UInt8)) = true := bne_iff_ne.mpr c42
      obtain rfl := Option.some.inj H
      go_wp2_with (first | ((with_reducible refine gate_callee (f := 148) rfl ?_); refine goesL_ (some 35) rfl rfl Try.func148 (by kernel_rfl) rfl #[.string a0, .string a1, .string a2] rfl (by (try simp only [lT, lC, lN]); first | done | rfl) ?_; (with_reducible refine (seal_Seal.calls kj3 a0 a1 a2 t2 t13 t14 _ A10.out).mono ?_); rintro e w54 ⟨rfl, hb⟩; refine ⟨_, rfl, ?_⟩; have n0_ := Aside0.mk (below_step (by repeat first | with_reducible (first | exact HB.out | apply bA | apply bN | apply bD) | exact HB.out) hb); clear HB; have HB := n0_; clear n0_; (try clear hb); (try clear hb2); (try clear hk); (try clear hi)))
      go_ret
      exact ⟨by first | rfl | (simp [*, errW_none, errW_some] <;> rfl), by repeat first | with_reducible (first | exact HB.out | apply bA | apply bN | apply bD) | exact HB.out⟩

/-- THE ONE PURE STATEMENT of clavigerlaw37_SealHolds: yours. -/
def clavigerlaw37_SealHolds.Pure : Prop := ∀ (a0 : ByteArray) (a1 : ByteArray) (a2 : ByteArray), a0.size ≤ 140737488351232 → a1.size ≤ 140737488351232 → a2.size ≤ 140737488351232 → ∃ k, clavigerlaw37_SealHolds.f k a0 a1 a2 = some true
theorem clavigerlaw37_SealHolds.walk (P : clavigerlaw37_SealHolds.Pure) (a0 : ByteArray) (a1 : ByteArray) (a2 : ByteArray) (w : World) (w0 : a0.size ≤ 140737488351232) (w1 : a1.size ≤ 140737488351232) (w2 : a2.size ≤ 140737488351232) :
  Calls Try.prog 32 #[.string a0, .string a1, .string a2] w fun e w' => e = .returned (.bool true) ∧ Below w.heap.size w w' := by
 obtain ⟨k, h⟩ := P a0 a1 a2 w0 w1 w2
 refine (clavigerlaw37_SealHolds.calls k a0 a1 a2 true w h).mono ?_
 rintro e w' ⟨rfl, hd⟩
 exact ⟨rfl, hd⟩

end Go.Proofs.Ytokkhnjedmlbhaa.Pr
end
section
namespace Go.Proofs.Ytokkhnjedmlbhaa.M
open Go.RowKit Go.Proofs.Ytokkhnjedmlbhaa.Pr Go.Proofs.YtokkhnjedmlbhaaW.PrintWords Go.Proofs.YtokkhnjedmlbhaaW.PrintLast Go.Proofs.YtokkhnjedmlbhaaW.PrintMore Go.Proofs.YtokkhnjedmlbhaaGf
set_option linter.unusedSimpArgs false
def tagX (key s : ByteArray) : ByteArray × Int := if okN key.size then (tagT (ksB key) s, 0) else (⟨#[]⟩, 2)
def subX (key : ByteArray) : ByteArray × ByteArray × Int := if okN key.size then (k1T (ksB key), k2T (ksB key), 0) else (⟨#[]⟩, ⟨#[]⟩, 2)
theorem ctag_x (key s : ByteArray) (h : s.size < 1000000) : cmac_Tag.f key s = some (tagX key s) := by
  unfold cmac_Tag.f; rw [if_pos h]; rfl
theorem rzeros_c (z : Nat) (hz : z ≤ 65552) : clavigerref01_Zeros.f (z : Int) = some (zeros z) := by
  have := zeros_c z hz
  unfold octets_Zeros.f at this
  exact this
theorem rpadL (s : ByteArray) (n z : Nat) (h1 : 1 ≤ n) (h2 : n ≤ 65535) (hz : z < n) (hs : s.size < 1000000000) (h : (s.size + z) % n = 0) (hn : ∀ i, i < z → (s.size + i) % n ≠ 0) (d : Nat) : ∀ i, z - i = d → i ≤ z → Ev (fun k => clavigerref01_Pad.l0 k s (n : Int) (i : Int)) (s ++ zeros z) := by
  have e (i : Nat) (hi : i ≤ z) : Int.tmod (wrap64 ((s.size : Int) + (i : Int))) (n : Int) = (((s.size + i) % n : Nat) : Int) := by
    rw [wrap_id (by omega) (by omega), Int.tmod_eq_emod_of_nonneg (by omega), ← Int.natCast_add, ← Int.natCast_emod]
  induction d with
  | zero =>
    intro i hd hi
    obtain rfl : i = z := by omega
    refine Ev.step (f := fun _ => some (s ++ zeros i)) (fun k => ?_) (Ev.now _)
    simp only [clavigerref01_Pad.l0]
    rw [if_neg (by omega), e i (Nat.le_refl _), h, if_pos (by omega), rzeros_c _ (by omega)]
    simp only [Option.bind_some]
    rw [if_pos (by rw [zeros_size]; omega)]
  | succ d ih =>
    intro i hd hi
    have hh := ih (i + 1) (by omega) (by omega)
    have := hn i (by omega)
    refine Ev.step (fun k => ?_) hh
    simp only [clavigerref01_Pad.l0]
    rw [if_neg (by omega), e i hi, if_neg (by omega), wrap_id (by omega) (by omega)]
    rfl
theorem rpad16 (s : ByteArray) (hs : s.size < 1000000000) : Ev (fun k => clavigerref01_Pad.f k s 16) (padT s 16) := by
  unfold clavigerref01_Pad.f
  refine evn (by decide) ?_
  refine Ev.step (f := fun k => clavigerref01_Pad.l0 k s ((16 : Nat) : Int) ((0 : Nat) : Int)) (fun k => by simp only [clavigerref01_Pad.j0]; rw [if_neg (by decide)]; rfl) ?_
  exact rpadL s 16 ((16 - s.size % 16) % 16) (by omega) (by omega) (by omega) hs (by omega) (fun i hi => by omega) _ 0 rfl (by omega)
theorem rsub_t (key : ByteArray) : Ev (fun k => clavigerref11_Subkeys.f k key) (subX key) := by
  unfold clavigerref11_Subkeys.f subX
  have h0 := renc_c key (zeros 16)
  refine evs (rzeros_c 16 (by omega)) (evb h0 ?_)
  by_cases ok : okN key.size
  · rw [encX_ok ok (zeros_size 16), if_pos ok]
    exact evp rfl (evs (g := clavigerref11_Double.f (encT (ksB key) (zeros 16))) rfl (evs (g := clavigerref11_Double.f (encT (ksB key) (zeros 16))) rfl (evs rfl (Ev.now _))))
  · have : encX key (zeros 16) = (⟨#[]⟩, 2) := by unfold encX; rw [if_neg ok]
    rw [this, if_neg ok]
    exact evn (by decide) (Ev.now _)
theorem rtagL {key : ByteArray} (ok : okN key.size) (s : ByteArray) (hs : s.size < 1000000) (d : Nat) : ∀ j, endI s.size - j = d → j ≤ endI s.size → Ev (fun k => clavigerref11_Tag.l0 k key (s.extract (16 * j) s.size) (k1T (ksB key)) (k2T (ksB key)) (zJ (ksB key) s j)) (tagT (ksB key) s, 0) := by
  have hk := (ks_facts ok).2.1
  have hE := end_le s.size
  have enc (x : ByteArray) (hx : x.size = 16) : Ev (fun k => clavigerref09_Encrypt.f k key x) (encT (ksB key) x, 0) := by
    have := renc_c key x
    rwa [encX_ok ok hx] at this
  induction d with
  | zero =>
    intro j hd hj
    obtain rfl : j = endI s.size := by omega
    have hz := zJ_size hk s (endI s.size) (by omega)
    have hr : s.extract (16 * endI s.size) (16 * endI s.size + 16) = s.extract (16 * endI s.size) s.size := ext_clip s _ _ hE.2
    have hb : blkT (ksB key) s (endI s.size) = lastX (s.extract (16 * endI s.size) s.size) (k1T (ksB key)) (k2T (ksB key)) := by
      unfold blkT lastT
      rw [if_pos rfl, hr]
    have hbs := blkT_size hk s (endI s.size) (Nat.le_refl _)
    rw [hb] at hbs
    have ht : tagT (ksB key) s = encT (ksB key) (xorT (zJ (ksB key) s (endI s.size)) (lastX (s.extract (16 * endI s.size) s.size) (k1T (ksB key)) (k2T (ksB key)))) := by
      rw [← hb]; rfl
    have hrs : (s.extract (16 * endI s.size) s.size).size ≤ 16 := by rw [ByteArray.size_extract]; omega
    rw [ht]
    clear ht hb hr
    generalize s.extract (16 * endI s.size) s.size = r at *
    generalize zJ (ksB key) s (endI s.size) = x at *
    have k1 := k1_size hk
    have k2 := k2_size hk
    by_cases h : r.size = 16
    · have e : lastX r (k1T (ksB key)) (k2T (ksB key)) = xorT r (k1T (ksB key)) := by unfold lastX; rw [if_pos h]
      rw [e] at hbs ⊢
      refine Ev.step (f := fun k => (clavigerref01_Xor.f k r (k1T (ksB key))).bind fun t3 => ((clavigerref01_Xor.f k x t3).bind fun t4 => ((clavigerref09_Encrypt.f k key t4).bind fun bt5 => (some (bt5.1, 0))))) (fun k => ?_) ?_
      · simp only [clavigerref11_Tag.l0]
        rw [if_neg (by omega), if_pos (by omega)]
      · exact evb (rxor_c _ _ (by omega) (by omega)) (evb (rxor_c _ _ (by omega) (by omega)) (evb (enc _ (by rw [xorT_size, hz, hbs]; rfl)) (Ev.now _)))
    · have e : lastX r (k1T (ksB key)) (k2T (ksB key)) = xorT (padT (r ++ (⟨#[128]⟩ : ByteArray)) 16) (k2T (ksB key)) := by unfold lastX; rw [if_neg h]
      rw [e] at hbs ⊢
      have h1 : (r ++ (⟨#[128]⟩ : ByteArray)).size = r.size + 1 := by rw [ByteArray.size_append]; rfl
      have h2 := padT_size (r ++ (⟨#[128]⟩ : ByteArray)) (by omega) (by omega)
      refine Ev.step (f := fun k => (clavigerref01_Pad.f k (r ++ (⟨#[128]⟩ : ByteArray)) 16).bind fun t6 => ((clavigerref01_Xor.f k t6 (k2T (ksB key))).bind fun t7 => ((clavigerref01_Xor.f k x t7).bind fun t8 => ((clavigerref09_Encrypt.f k key t8).bind fun bt9 => (some (bt9.1, 0)))))) (fun k => ?_) ?_
      · simp only [clavigerref11_Tag.l0]
        rw [if_neg (by omega), if_neg (by omega), if_pos (by omega)]
      · exact evb (rpad16 _ (by omega)) (evb (rxor_c _ _ (by omega) (by omega)) (evb (rxor_c _ _ (by omega) (by omega)) (evb (enc _ (by rw [xorT_size, hz, hbs]; rfl)) (Ev.now _))))
  | succ d ih =>
    intro j hd hj
    have hh := ih (j + 1) (by omega) (by omega)
    have hz := zJ_size hk s j (by omega)
    have hlt : 16 * j + 16 < s.size := by unfold endI at *; omega
    have hb : blkT (ksB key) s j = s.extract (16 * j) (16 * j + 16) := by unfold blkT; rw [if_neg (by omega)]
    have hbs := blkT_size hk s j hj
    have hsz : (s.extract (16 * j) s.size).size = s.size - 16 * j := by rw [ByteArray.size_extract]; omega
    refine Ev.step (f := fun k => (clavigerref01_Xor.f k (zJ (ksB key) s j) (blkT (ksB key) s j)).bind fun t1 => ((clavigerref09_Encrypt.f k key t1).bind fun bt2 => (clavigerref11_Tag.l0 k key (s.extract (16 * j + 16) s.size) (k1T (ksB key)) (k2T (ksB key)) bt2.1))) (fun k => ?_) ?_
    · simp only [clavigerref11_Tag.l0]
      rw [if_pos (by omega), if_pos (by omega), if_pos (by omega), ext_ext, ext_tail, hb]
    · exact evb (rxor_c _ _ (by omega) (by omega)) (evb (enc _ (by rw [xorT_size, hz, hbs]; rfl)) hh)
theorem rtag_c (key s : ByteArray) (hs : s.size < 1000000) : Ev (fun k => clavigerref11_Tag.f k key s) (tagX key s) := by
  unfold clavigerref11_Tag.f tagX
  refine evb (rsub_t key) ?_
  unfold subX
  by_cases ok : okN key.size
  · rw [if_pos ok, if_pos ok]
    have := rtagL ok s hs _ 0 rfl (Nat.zero_le _)
    rw [Nat.mul_zero, ext_all] at this
    exact evp rfl (evs (rzeros_c 16 (by omega)) this)
  · rw [if_neg ok, if_neg ok]
    exact evn (by decide) (Ev.now _)
end Go.Proofs.Ytokkhnjedmlbhaa.M
end
section
namespace Go.Proofs.Ytokkhnjedmlbhaa.M
open Go.RowKit Go.Proofs.Ytokkhnjedmlbhaa.Pr Go.Proofs.YtokkhnjedmlbhaaW.PrintWords Go.Proofs.YtokkhnjedmlbhaaW.PrintLast Go.Proofs.YtokkhnjedmlbhaaW.PrintMore Go.Proofs.YtokkhnjedmlbhaaGf
set_option linter.unusedSimpArgs false
def rndK (n : Int) : Nat := if n < 1 then 0 else if n > 4080 then 0 else (n.toNat + 15) / 16
theorem krnd_c (n : Int) : kdf_Rounds.f n = some ((rndK n : Nat) : Int) := by
  unfold kdf_Rounds.f rndK
  by_cases h1 : n < 1
  · rw [if_pos h1, if_pos h1]; rfl
  · rw [if_neg h1, if_neg h1]
    by_cases h2 : n > 4080
    · rw [if_pos h2, if_pos h2]; rfl
    · rw [if_neg h2, if_neg h2, wrap_id (x := n + 15) (by omega) (by omega), Int.tdiv_eq_ediv_of_nonneg (by omega), wrap_id (by omega) (by omega)]
      congr 1
      omega
theorem rrndL (n : Nat) (hn : 1 ≤ n) (hn2 : n ≤ 4080) (d : Nat) : ∀ i, (n + 15) / 16 - i = d → i ≤ (n + 15) / 16 → Ev (fun k => clavigerref12_Rounds.l0 k (n : Int) (i : Int)) (((n + 15) / 16 : Nat) : Int) := by
  induction d with
  | zero =>
    intro i hd hi
    obtain rfl : i = (n + 15) / 16 := by omega
    refine Ev.step (f := fun _ => some (((n + 15) / 16 : Nat) : Int)) (fun k => ?_) (Ev.now _)
    simp only [clavigerref12_Rounds.l0]
    rw [wrap_id (by omega) (by omega), if_neg (by omega)]
  | succ d ih =>
    intro i hd hi
    have hh := ih (i + 1) (by omega) (by omega)
    refine Ev.step (fun k => ?_) hh
    simp only [clavigerref12_Rounds.l0]
    rw [wrap_id (x := 16 * (i : Int)) (by omega) (by omega), if_pos (by omega), wrap_id (by omega) (by omega)]
    rfl
theorem rrnd_c (n : Int) : Ev (fun k => clavigerref12_Rounds.f k n) ((rndK n : Nat) : Int) := by
  unfold clavigerref12_Rounds.f rndK
  have z : Ev (fun k => clavigerref12_Rounds.j0 k n true) 0 := Ev.step (f := fun _ => some 0) (fun k => by simp only [clavigerref12_Rounds.j0]; rw [if_pos True.intro]) (Ev.now _)
  by_cases h1 : n < 1
  · rw [if_pos h1]
    exact evp h1 z
  · rw [if_neg h1]
    refine evn h1 ?_
    by_cases h2 : n > 4080
    · rw [if_pos h2, decide_eq_true h2]; exact z
    · rw [if_neg h2, decide_eq_false h2]
      obtain ⟨m, rfl⟩ : ∃ m : Nat, n = (m : Int) := ⟨n.toNat, by omega⟩
      rw [Int.toNat_natCast]
      refine Ev.step (f := fun k => clavigerref12_Rounds.l0 k (m : Int) ((0 : Nat) : Int)) (fun k => by simp only [clavigerref12_Rounds.j0]; rw [if_neg (by simp)]; rfl) (rrndL m (by omega) (by omega) _ 0 rfl (by omega))
/-- Tag i of a key's; so many of them, joined. -/
def kT (ks : List ByteArray) (fixed : ByteArray) (i : Nat) : ByteArray := tagT ks (mkB (lowL (i + 1) 1) ++ fixed)
def kTs (ks : List ByteArray) (fixed : ByteArray) (r : Nat) : List ByteArray := (List.range r).map (kT ks fixed)
def ctrX (key fixed : ByteArray) (n : Int) : ByteArray × Int := if okN key.size then if rndK n = 0 then (⟨#[]⟩, 4) else ((catB (kTs (ksB key) fixed (rndK n))).extract 0 n.toNat, 0) else (⟨#[]⟩, 2)
theorem kTs_all {ks : List ByteArray} (h : all16 ks) (fixed : ByteArray) (r : Nat) : allS 16 (kTs ks fixed r) := by
  intro x hx
  obtain ⟨i, _, rfl⟩ := List.mem_map.1 hx
  exact tagT_size h _
theorem kTs_size {ks : List ByteArray} (h : all16 ks) (fixed : ByteArray) (r : Nat) : (catB (kTs ks fixed r)).size = 16 * r := by
  rw [cat_size 16 _ (kTs_all h fixed r)]; simp [kTs]
theorem kTs_succ (ks : List ByteArray) (fixed : ByteArray) (r : Nat) : kTs ks fixed (r + 1) = kTs ks fixed r ++ [kT ks fixed r] := by
  unfold kTs; rw [List.range_succ, List.map_append]; rfl
theorem cut_c (s : ByteArray) (n : Nat) (h1 : 1 ≤ n) (h2 : n ≤ s.size) (hs : s.size < 1000000000) : octets_Cut.f s 0 (n : Int) = some (s.extract 0 n) := by
  have e1 : wrap64 ((s.size : Int) - 0) = (s.size : Int) := by unfold wrap64; omega
  have e2 : mn (n : Int) (s.size : Int) = (n : Int) := by unfold mn; omega
  have e3 : wrap64 (0 + (n : Int)) = (n : Int) := by unfold wrap64; omega
  unfold octets_Cut.f
  rw [if_neg (by decide), if_neg (by omega), if_neg (by omega), if_pos (by decide), e1, e2, e3, if_pos (by omega), if_pos (by omega), Int.toNat_natCast]
  rfl
theorem rnd_facts {n : Int} (h : rndK n ≠ 0) : ∃ m : Nat, n = (m : Int) ∧ 1 ≤ m ∧ m ≤ 4080 ∧ rndK n = (m + 15) / 16 := by
  unfold rndK at h ⊢
  by_cases h1 : n < 1
  · rw [if_pos h1] at h; exact absurd rfl h
  · by_cases h2 : n > 4080
    · rw [if_neg h1, if_pos h2] at h; exact absurd rfl h
    · exact ⟨n.toNat, by omega, by omega, by omega, by rw [if_neg h1, if_neg h2]⟩
theorem low1 (i : Nat) : (mkB (lowL (i + 1) 1)).size = 1 := by rw [mkB_size, lowL_length]
theorem kctrL {key : ByteArray} (ok : okN key.size) (fixed : ByteArray) (hf : fixed.size < 100000) (m r : Nat) (hm : 1 ≤ m) (hm2 : m ≤ 16 * r) (hr : r ≤ 255) (d : Nat) : ∀ i, r - i = d → i ≤ r → Ev (fun k => kdf_Counter.l0 k key fixed (m : Int) (kTs (ksB key) fixed i) (r : Int) (i : Int)) ((catB (kTs (ksB key) fixed r)).extract 0 m, 0) := by
  have hk := (ks_facts ok).2.1
  induction d with
  | zero =>
    intro i hd hi
    obtain rfl : i = r := by omega
    have hz := kTs_size hk fixed i
    refine Ev.step (f := fun _ => (octets_Join.f (kTs (ksB key) fixed i)).bind fun t4 => ((octets_Cut.f t4 0 (m : Int)).bind fun t5 => (some (t5, 0)))) (fun k => ?_) ?_
    · simp only [kdf_Counter.l0]
      rw [if_neg (by omega)]
    · exact evs (join_c _ (by simp [kTs]; omega) (by omega)) (evs (cut_c _ m hm (by omega) (by omega)) (Ev.now _))
  | succ d ih =>
    intro i hd hi
    have hh := ih (i + 1) (by omega) (by omega)
    have e1 : IntKind.u64.wrap (wrap64 ((i : Int) + 1)) = ((i + 1 : Nat) : Int) := by rw [IntKind.wrap_u64, wrap_id (by omega) (by omega)]; omega
    have e2 : wrap64 ((i : Int) + 1) = ((i + 1 : Nat) : Int) := by unfold wrap64; omega
    have l1 := low1 i
    have e3 : catB [mkB (lowL (i + 1) 1), fixed] = mkB (lowL (i + 1) 1) ++ fixed := by show _ ++ (fixed ++ (⟨#[]⟩ : ByteArray)) = _; rw [append_empty]
    have hs : (mkB (lowL (i + 1) 1) ++ fixed).size = 1 + fixed.size := by rw [ByteArray.size_append, l1]
    have ht : cmac_Tag.f key (mkB (lowL (i + 1) 1) ++ fixed) = some (kT (ksB key) fixed i, 0) := by
      rw [ctag_x _ _ (by omega)]; unfold tagX; rw [if_pos ok]; rfl
    rw [kTs_succ] at hh
    refine Ev.step (fun k => ?_) hh
    simp only [kdf_Counter.l0]
    rw [if_pos (by omega), e1, e2, put_1]
    simp only [Option.bind_some]
    rw [join_c _ (by simp) (by rw [e3]; omega), e3]
    simp only [Option.bind_some]
    rw [ht]
    simp only [Option.bind_some]
    rw [if_pos (by simp [kTs]; omega)]
theorem kctr_c (key fixed : ByteArray) (hf : fixed.size < 100000) (n : Int) : Ev (fun k => kdf_Counter.f k key fixed n) (ctrX key fixed n) := by
  unfold kdf_Counter.f ctrX
  refine evs (ctag_x key ⟨#[]⟩ (by decide)) ?_
  unfold tagX
  by_cases ok : okN key.size
  · rw [if_pos ok, if_pos ok]
    refine evp rfl (evs (krnd_c n) ?_)
    by_cases h : rndK n = 0
    · rw [if_pos h, h]
      exact evp rfl (Ev.now _)
    · obtain ⟨m, rfl, h1, h2, h3⟩ := rnd_facts h
      rw [if_neg h]
      refine evn (by omega) ?_
      rw [h3, Int.toNat_natCast]
      exact kctrL ok fixed hf m ((m + 15) / 16) h1 (by omega) (by omega) _ 0 rfl (by omega)
  · rw [if_neg ok, if_neg ok]
    exact evn (by decide) (Ev.now _)
theorem rctrL {key : ByteArray} (ok : okN key.size) (fixed : ByteArray) (hf : fixed.size < 100000) (m r : Nat) (hm : 1 ≤ m) (hm2 : m ≤ 16 * r) (hr : r ≤ 255) (hrr : rndK (m : Int) = r) (d : Nat) : ∀ i, r - i = d → i ≤ r → Ev (fun k => clavigerref12_Counter.l0 k key fixed (m : Int) (catB (kTs (ksB key) fixed i)) ((i + 1 : Nat) : Int)) ((catB (kTs (ksB key) fixed r)).extract 0 m, 0) := by
  have hk := (ks_facts ok).2.1
  have hrc := rrnd_c (m : Int)
  rw [hrr] at hrc
  induction d with
  | zero =>
    intro i hd hi
    obtain rfl : i = r := by omega
    have hz := kTs_size hk fixed i
    refine Ev.step (f := (fun k => (clavigerref12_Rounds.f k (m : Int)).bind fun t2 => (if ((i + 1 : Nat) : Int) ≤ t2 then ((some (([(((i + 1 : Nat) : Int)) % 256] : List Int) : List Int)).bind fun y3 => (if (strOfNums y3).size + fixed.size ≤ 9223372036854775807 then ((clavigerref11_Tag.f k key ((strOfNums y3) ++ fixed)).bind fun bt4 => (if (catB (kTs (ksB key) fixed i)).size + bt4.1.size ≤ 9223372036854775807 then (clavigerref12_Counter.l0 k key fixed (m : Int) (catB (kTs (ksB key) fixed i) ++ bt4.1) (wrap64 (((i + 1 : Nat) : Int) + 1))) else (none))) else (none))) else (if 0 ≤ (m : Int) then (if (m : Int) ≤ ((catB (kTs (ksB key) fixed i)).size : Int) then (some ((catB (kTs (ksB key) fixed i)).extract 0 ((m : Int) : Int).toNat, 0)) else (none)) else (none))))) (fun k => rfl) ?_
    refine evb hrc (evn (by omega) (evp (by omega) (evp (by omega) ?_)))
    rw [Int.toNat_natCast]
    exact Ev.now _
  | succ d ih =>
    intro i hd hi
    have hh := ih (i + 1) (by omega) (by omega)
    have e1 : ((i + 1 : Nat) : Int) % 256 = ((i + 1 : Nat) : Int) := by omega
    have e2 : wrap64 (((i + 1 : Nat) : Int) + 1) = ((i + 1 + 1 : Nat) : Int) := by unfold wrap64; omega
    have e3 : strOfNums [((i + 1 : Nat) : Int)] = mkB (lowL (i + 1) 1) := by
      rw [sNs1]
      show mkB [i + 1] = mkB [(i + 1) / 1 % 256]
      rw [Nat.div_one, Nat.mod_eq_of_lt (by omega)]
    have l1 := low1 i
    have hs : (mkB (lowL (i + 1) 1) ++ fixed).size = 1 + fixed.size := by rw [ByteArray.size_append, l1]
    have ht := rtag_c key (mkB (lowL (i + 1) 1) ++ fixed) (by omega)
    unfold tagX at ht
    rw [if_pos ok] at ht
    have hz := kTs_size hk fixed i
    have hz1 : (kT (ksB key) fixed i).size = 16 := tagT_size hk _
    rw [kTs_succ, cat_app, cat_one] at hh
    refine Ev.step (f := (fun k => (clavigerref12_Rounds.f k (m : Int)).bind fun t2 => (if ((i + 1 : Nat) : Int) ≤ t2 then ((some (([(((i + 1 : Nat) : Int)) % 256] : List Int) : List Int)).bind fun y3 => (if (strOfNums y3).size + fixed.size ≤ 9223372036854775807 then ((clavigerref11_Tag.f k key ((strOfNums y3) ++ fixed)).bind fun bt4 => (if (catB (kTs (ksB key) fixed i)).size + bt4.1.size ≤ 9223372036854775807 then (clavigerref12_Counter.l0 k key fixed (m : Int) (catB (kTs (ksB key) fixed i) ++ bt4.1) (wrap64 (((i + 1 : Nat) : Int) + 1))) else (none))) else (none))) else (if 0 ≤ (m : Int) then (if (m : Int) ≤ ((catB (kTs (ksB key) fixed i)).size : Int) then (some ((catB (kTs (ksB key) fixed i)).extract 0 ((m : Int) : Int).toNat, 0)) else (none)) else (none))))) (fun k => rfl) ?_
    refine evb hrc (evp (by omega) (evs (a := [((i + 1 : Nat) : Int)]) (by rw [e1]) ?_))
    rw [e2, e3]
    exact evp (by omega) (evb ht (evp (by show _ + (kT (ksB key) fixed i).size ≤ _; omega) hh))
theorem rctr_c (key fixed : ByteArray) (hf : fixed.size < 100000) (n : Int) : Ev (fun k => clavigerref12_Counter.f k key fixed n) (ctrX key fixed n) := by
  have go (ok : okN key.size) : Ev (fun k => clavigerref12_Counter.j0 k key fixed n false) (if rndK n = 0 then (⟨#[]⟩, 4) else ((catB (kTs (ksB key) fixed (rndK n))).extract 0 n.toNat, 0)) := by
    refine Ev.step (f := fun k => (clavigerref12_Rounds.f k n).bind fun t1 => (if t1 = 0 then (some ((⟨#[]⟩ : ByteArray), 4)) else (clavigerref12_Counter.l0 k key fixed n (⟨#[]⟩ : ByteArray) 1))) (fun k => by simp only [clavigerref12_Counter.j0]; rw [if_neg (by simp)]) ?_
    refine evb (rrnd_c n) ?_
    by_cases h : rndK n = 0
    · rw [if_pos h, h]
      exact evp rfl (Ev.now _)
    · obtain ⟨m, rfl, h1, h2, h3⟩ := rnd_facts h
      rw [if_neg h]
      refine evn (by omega) ?_
      rw [h3, Int.toNat_natCast]
      exact rctrL ok fixed hf m ((m + 15) / 16) h1 (by omega) (by omega) h3 _ 0 rfl (by omega)
  unfold clavigerref12_Counter.f ctrX
  by_cases h1 : key.size = 16
  · rw [if_pos (.inl h1)]
    exact evp (by omega) (go (.inl h1))
  · refine evn (by omega) ?_
    by_cases h2 : key.size = 24
    · rw [if_pos (.inr (.inl h2))]
      exact evp (by omega) (go (.inr (.inl h2)))
    · refine evn (by omega) ?_
      by_cases h3 : key.size = 32
      · rw [if_pos (.inr (.inr h3)), show ((key.size : Int) != 32) = false by rw [h3]; rfl]
        exact go (.inr (.inr h3))
      · rw [if_neg (by unfold okN; omega), show ((key.size : Int) != 32) = true from bne_iff_ne.mpr (by omega)]
        exact Ev.step (f := fun _ => some ((⟨#[]⟩ : ByteArray), 2)) (fun k => by simp only [clavigerref12_Counter.j0]; rw [if_pos True.intro]) (Ev.now _)
end Go.Proofs.Ytokkhnjedmlbhaa.M
end
section
namespace Go.Proofs.Ytokkhnjedmlbhaa.Pr
open Go.RowKit Go.Proofs.YtokkhnjedmlbhaaW.PrintWords Go.Proofs.YtokkhnjedmlbhaaW.PrintLast Go.Proofs.YtokkhnjedmlbhaaW.PrintMore
attribute [local go_sem] max2_int min2_int max_two min_two max_three min_three max_four min_four   -- for this text's walks alone
set_option linter.unusedVariables false
set_option linter.unusedSimpArgs false

def clavigerlaw12_awake.f (k : Nat)  : Option (Bool) := (kdf_Counter.f k (⟨#[48, 49, 50, 51, 52, 53, 54, 55, 56, 57, 97, 98, 99, 100, 101, 102]⟩ : ByteArray) (⟨#[120]⟩ : ByteArray) 16).bind fun bt1 => ((clavigerref11_Tag.f k (⟨#[48, 49, 50, 51, 52, 53, 54, 55, 56, 57, 97, 98, 99, 100, 101, 102]⟩ : ByteArray) (⟨#[1, 120]⟩ : ByteArray)).bind fun bt2 => (if bt1.1.toList = bt2.1.toList then (if bt1.2 = 0 then ((kdf_Rounds.f 17).bind fun t3 => (if t3 = 2 then ((kdf_Fixed.f (⟨#[97]⟩ : ByteArray) (⟨#[98]⟩ : ByteArray) 128).bind fun t4 => (some (t4.toList == ([97, 0, 98, 0, 0, 0, 128] : List UInt8)))) else (some false))) else (some false)) else (some false)))
theorem clavigerlaw12_awake.mono : ∀ k, LeO (clavigerlaw12_awake.f k ) (clavigerlaw12_awake.f (k + 1) ) := by
 intro  k
 unfold clavigerlaw12_awake.f
 repeat' first
   | (with_reducible exact clavigerref11_Tag.mono _ _ _)
   | (with_reducible exact kdf_Counter.mono _ _ _ _)
   | (with_reducible exact LeO.refl _)
   | (with_reducible exact LeO.none _)
   | (with_reducible refine LeO.ite ?_ ?_)
   | (with_reducible refine LeO.bind ?_ (fun _ => ?_))
end Go.Proofs.Ytokkhnjedmlbhaa.Pr
end
