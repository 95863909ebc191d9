-- written by the session's program wip/hp.py over the kit's print; Lean checks it
import Derived.Test.YtokkhnjedmlbhaaZPrg01x
import Derived.Test.YtokkhnjedmlbhaaZPrg11
import Derived.Test.YtokkhnjedmlbhaaZPrg10
import Derived.Test.YtokkhnjedmlbhaaZCmacP
import Derived.Test.YtokkhnjedmlbhaaZPrg38
namespace Go.Proofs.Ytokkhnjedmlbhaa.Pr
open Go.RowKit Go.Proofs.YtokkhnjedmlbhaaW.PrintWords Go.Proofs.YtokkhnjedmlbhaaW.PrintLast Go.Proofs.YtokkhnjedmlbhaaW.PrintMore
attribute [local go_sem] max2_int min2_int max_two min_two max_three min_three max_four min_four   -- for this text's walks alone
set_option linter.unusedVariables false
set_option linter.unusedSimpArgs false

def clavigerlaw38_OpenBinds.j0 : Nat → ByteArray → ByteArray → ByteArray → ByteArray → ByteArray → Bool → Option (Bool)
 | 0, _, _, _, _, _, _ => none
 | k + 1, x0, x1, x2, x3, x4, x47 => if x47 = true then ((clavigerlaw38_awake.f k).bind fun t1 => (some t1)) else ((clavigerref37_Seal.f k x0 x1 x2).bind fun bt2 => (if bt2.2.2 = 0 then ((open_Open.f k x0 x3 x4 bt2.2.1).bind fun bt3 => (if bt3.2 = 0 then ((clavigerref35_Keys.f k x0).bind fun bt4 => ((clavigerref10_Decrypt.f k bt4.1 bt2.2.1 x4).bind fun bt5 => (if x1.size + x2.size ≤ 9223372036854775807 then ((clavigerref11_Tag.f k bt4.2.1 (x1 ++ x2)).bind fun bt6 => (if x3.size + bt3.1.size ≤ 9223372036854775807 then ((clavigerref11_Tag.f k bt4.2.1 (x3 ++ bt3.1)).bind fun bt7 => (if bt3.1.toList = bt5.1.toList then (if bt6.1.toList = bt2.2.1.toList then (if bt7.1.toList = bt2.2.1.toList then ((clavigerlaw38_awake.f k).bind fun t8 => (some t8)) else (some false)) else (some false)) else (some false))) else (none))) else (none)))) else (if bt3.1.toList = ([] : List UInt8) then (if bt3.2 = 4 then ((clavigerlaw38_awake.f k).bind fun t9 => (some t9)) else (if bt3.2 = 7 then ((clavigerlaw38_awake.f k).bind fun t10 => (some t10)) else (some false))) else (some false)))) else ((clavigerlaw38_awake.f k).bind fun t11 => (some t11))))
def clavigerlaw38_OpenBinds.f (k : Nat) (a0 : ByteArray) (a1 : ByteArray) (a2 : ByteArray) (a3 : ByteArray) (a4 : ByteArray) : Option (Bool) := if (a0.size : Int) > 100 then (clavigerlaw38_OpenBinds.j0 k a0 a1 a2 a3 a4 true) else (if (a1.size : Int) > 300 then (clavigerlaw38_OpenBinds.j0 k a0 a1 a2 a3 a4 true) else (if (a2.size : Int) > 160 then (clavigerlaw38_OpenBinds.j0 k a0 a1 a2 a3 a4 true) else (if (a3.size : Int) > 300 then (clavigerlaw38_OpenBinds.j0 k a0 a1 a2 a3 a4 true) else (clavigerlaw38_OpenBinds.j0 k a0 a1 a2 a3 a4 (decide ((a4.size : Int) > 160))))))
theorem clavigerlaw38_OpenBinds.mono_l : ∀ k, (∀ y12 y13 y14 y15 y16 y17, LeO (clavigerlaw38_OpenBinds.j0 k y12 y13 y14 y15 y16 y17) (clavigerlaw38_OpenBinds.j0 (k + 1) y12 y13 y14 y15 y16 y17))
 | 0 => fun _ _ _ _ _ _ r h => by simp [clavigerlaw38_OpenBinds.j0] at h
 | k + 1 => by
  have ih0 := clavigerlaw38_OpenBinds.mono_l k
  ·intro y12 y13 y14 y15 y16 y17
   unfold clavigerlaw38_OpenBinds.j0
   repeat' first
   | (with_reducible exact ih0 _ _ _ _ _ _)
   | (with_reducible exact clavigerlaw38_awake.mono _)
   | (with_reducible exact clavigerref10_Decrypt.mono _ _ _ _)
   | (with_reducible exact clavigerref11_Tag.mono _ _ _)
   | (with_reducible exact clavigerref35_Keys.mono _ _)
   | (with_reducible exact clavigerref37_Seal.mono _ _ _ _)
   | (with_reducible exact open_Open.mono _ _ _ _ _)
   | (with_reducible exact LeO.refl _)
   | (with_reducible exact LeO.none _)
   | (with_reducible refine LeO.ite ?_ ?_)
   | (with_reducible refine LeO.bind ?_ (fun _ => ?_))
theorem clavigerlaw38_OpenBinds.mono : ∀ a0 a1 a2 a3 a4 k, LeO (clavigerlaw38_OpenBinds.f k a0 a1 a2 a3 a4) (clavigerlaw38_OpenBinds.f (k + 1) a0 a1 a2 a3 a4) := by
 intro a0 a1 a2 a3 a4 k
 have ih0 := clavigerlaw38_OpenBinds.mono_l k
 unfold clavigerlaw38_OpenBinds.f
 repeat' first
   | (with_reducible exact ih0 _ _ _ _ _ _)
   | (with_reducible exact clavigerlaw38_awake.mono _)
   | (with_reducible exact clavigerref10_Decrypt.mono _ _ _ _)
   | (with_reducible exact clavigerref11_Tag.mono _ _ _)
   | (with_reducible exact clavigerref35_Keys.mono _ _)
   | (with_reducible exact clavigerref37_Seal.mono _ _ _ _)
   | (with_reducible exact open_Open.mono _ _ _ _ _)
   | (with_reducible exact LeO.refl _)
   | (with_reducible exact LeO.none _)
   | (with_reducible refine LeO.ite ?_ ?_)
   | (with_reducible refine LeO.bind ?_ (fun _ => ?_))
set_option maxHeartbeats 8000000 in
set_option maxRecDepth 100000 in
theorem clavigerlaw38_OpenBinds.calls (k : Nat) (a0 : ByteArray) (a1 : ByteArray) (a2 : ByteArray) (a3 : ByteArray) (a4 : ByteArray) (r : Bool) (w : World) (h : clavigerlaw38_OpenBinds.f k a0 a1 a2 a3 a4 = some r) :
  Calls Try.prog 11 #[.string a0, .string a1, .string a2, .string a3, .string a4] w fun e w' => e = .returned (.bool r) ∧ Below w.heap.size w w' := by
 have HB := Aside0.mk (Below.refl w.heap.size w)
 have H : (if (a0.size : Int) > 100 then (clavigerlaw38_OpenBinds.j0 k a0 a1 a2 a3 a4 true) else (if (a1.size : Int) > 300 then (clavigerlaw38_OpenBinds.j0 k a0 a1 a2 a3 a4 true) else (if (a2.size : Int) > 160 then (clavigerlaw38_OpenBinds.j0 k a0 a1 a2 a3 a4 true) else (if (a3.size : Int) > 300 then (clavigerlaw38_OpenBinds.j0 k a0 a1 a2 a3 a4 true) else (clavigerlaw38_OpenBinds.j0 k a0 a1 a2 a3 a4 (decide ((a4.size : Int) > 160))))))) = some r := h
 clear h
 have HC6 := Aside0.mk H
 clear H
 go_enter Try.func11, Try.ntmps11
 go_upto_region 1 with (fail)
 go_cut [47] (fun v47 wc => ∃ (kq : Nat) (x47_5 : Bool), v47 = .bool x47_5 ∧ Aside0 (clavigerlaw38_OpenBinds.j0 kq a0 a1 a2 a3 a4 x47_5 = some r) ∧ Aside0 (kq ≤ k) ∧ Aside0 (Below w.heap.size w wc))
 case first =>
  have H := HC6.out
  clear HC6
  by_cases c7 : (a0.size : Int) > 100
  ·rw [if_pos c7] at H
   have c7b0 : decide (100 < (a0.size : Int)) = true := decide_eq_true c7
   have c7b1 : decide (100 < a0.size) = true := decide_eq_true (by omega)
   clear c7
   (first | rw [c7b0] | (simp only [i64_w, i32_w]; rw [c7b0]) | skip)
   have H' := Aside0.mk H
   clear H
   go_wp2
   go_meet
   case rel => exact ⟨_, (true), (by first | rfl | (simp; done) | (simp [*]; done)), H', ⟨by first | omega | exact Nat.le_refl _⟩, ⟨by repeat first | with_reducible (first | exact HB.out | apply bA | apply bN | apply bD) | exact HB.out⟩⟩
  ·rw [if_neg c7] at H
   have c7b0 : decide (100 < (a0.size : Int)) = false := decide_eq_false c7
   have c7b1 : decide (100 < a0.size) = false := decide_eq_false (by omega)
   clear c7
   (first | rw [c7b0] | (simp only [i64_w, i32_w]; rw [c7b0]) | skip)
   by_cases c8 : (a1.size : Int) > 300
   ·rw [if_pos c8] at H
    have c8b0 : decide (300 < (a1.size : Int)) = true := decide_eq_true c8
    have c8b1 : decide (300 < a1.size) = true := decide_eq_true (by omega)
    clear c8
    have H' := Aside0.mk H
    clear H
    go_wp2
    go_meet
    case rel => exact ⟨_, (true), (by first | rfl | (simp; done) | (simp [*]; done)), H', ⟨by first | omega | exact Nat.le_refl _⟩, ⟨by repeat first | with_reducible (first | exact HB.out | apply bA | apply bN | apply bD) | exact HB.out⟩⟩
   ·rw [if_neg c8] at H
    have c8b0 : decide (300 < (a1.size : Int)) = false := decide_eq_false c8
    have c8b1 : decide (300 < a1.size) = false := decide_eq_false (by omega)
    clear c8
    by_cases c9 : (a2.size : Int) > 160
    ·rw [if_pos c9] at H
     have c9b0 : decide (160 < (a2.size : Int)) = true := decide_eq_true c9
     have c9b1 : decide (160 < a2.size) = true := decide_eq_true (by omega)
     clear c9
     have H' := Aside0.mk H
     clear H
     go_wp2
     go_meet
     case rel => exact ⟨_, (true), (by first | rfl | (simp; done) | (simp [*]; done)), H', ⟨by first | omega | exact Nat.le_refl _⟩, ⟨by repeat first | with_reducible (first | exact HB.out | apply bA | apply bN | apply bD) | exact HB.out⟩⟩
    ·rw [if_neg c9] at H
     have c9b0 : decide (160 < (a2.size : Int)) = false := decide_eq_false c9
     have c9b1 : decide (160 < a2.size) = false := decide_eq_false (by omega)
     clear c9
     by_cases c10 : (a3.size : Int) > 300
     ·rw [if_pos c10] at H
      have c10b0 : decide (300 < (a3.size : Int)) = true := decide_eq_true c10
      have c10b1 : decide (300 < a3.size) = true := decide_eq_true (by omega)
      clear c10
      have H' := Aside0.mk H
      clear H
      go_wp2
      go_meet
      case rel => exact ⟨_, (true), (by first | rfl | (simp; done) | (simp [*]; done)), H', ⟨by first | omega | exact Nat.le_refl _⟩, ⟨by repeat first | with_reducible (first | exact HB.out | apply bA | apply bN | apply bD) | exact HB.out⟩⟩
     ·rw [if_neg c10] at H
      have c10b0 : decide (300 < (a3.size : Int)) = false := decide_eq_false c10
      have c10b1 : decide (300 < a3.size) = false := decide_eq_false (by omega)
      clear c10
      have H' := Aside0.mk H
      clear H
      go_wp2
      go_meet
      case rel => exact ⟨_, (decide ((a4.size : Int) > 160)), (by first | rfl | (simp; done) | (simp [*]; done)), H', ⟨by first | omega | exact Nat.le_refl _⟩, ⟨by repeat first | with_reducible (first | exact HB.out | apply bA | apply bN | apply bD) | exact HB.out⟩⟩
 case rest =>
  clear HC6
  try clear c1
  try clear p2
  try clear c7
  try clear c7b0
  try clear c7b1
  try clear c8
  try clear c8b0
  try clear c8b1
  try clear c9
  try clear c9b0
  try clear c9b1
  try clear c10
  try clear c10b0
  try clear c10b1
  obtain ⟨kq, x47_5, rfl, HA, HJ5, HB⟩ := hcut
  cases kq with
  | zero => exact absurd HA.out (by simp [clavigerlaw38_OpenBinds.j0])
  | succ kj5 =>
   have H := HA.out
   clear HA
   simp only [clavigerlaw38_OpenBinds.j0] at H
   by_cases c11 : x47_5 = true
   ·subst c11
    have H1 : ((clavigerlaw38_awake.f kj5).bind fun t1 => (some t1)) = some r := by rw [if_pos rfl] at H; exact H
    clear H
    have H := H1
    clear H1
    replace H := Option.bind_eq_some_iff.mp H
    obtain ⟨t1, A120, H⟩ := H
    replace H : (some t1) = some r := H
    have A12 := Aside0.mk A120
    clear A120
    obtain rfl := Option.some.inj H
    go_wp2_with (first | ((with_reducible refine gate_callee (f := 59) rfl ?_); refine goesL_ (some 48) rfl rfl Try.func59 (by kernel_rfl) rfl #[] rfl (by (try simp only [lT, lC, lN]); first | done | rfl) ?_; (with_reducible refine (clavigerlaw38_awake.calls kj5  t1 _ A12.out).mono ?_); rintro e w13 ⟨rfl, hb⟩; refine ⟨_, rfl, ?_⟩; have n0_ := Aside0.mk (below_step (by repeat first | with_reducible (first | exact HB.out | apply bA | apply bN | apply bD) | exact HB.out) hb); clear HB; have HB := n0_; clear n0_; (try clear hb); (try clear hb2); (try clear hk); (try clear hi)))
    go_ret
    exact ⟨by first | rfl | (simp [*, errW_none, errW_some] <;> rfl), by repeat first | with_reducible (first | exact HB.out | apply bA | apply bN | apply bD) | exact HB.out⟩
   ·replace c11 := Bool.eq_false_iff.mpr c11
    subst c11
    have H1 : ((clavigerref37_Seal.f kj5 a0 a1 a2).bind fun bt2 => (if bt2.2.2 = 0 then ((open_Open.f kj5 a0 a3 a4 bt2.2.1).bind fun bt3 => (if bt3.2 = 0 then ((clavigerref35_Keys.f kj5 a0).bind fun bt4 => ((clavigerref10_Decrypt.f kj5 bt4.1 bt2.2.1 a4).bind fun bt5 => (if a1.size + a2.size ≤ 9223372036854775807 then ((clavigerref11_Tag.f kj5 bt4.2.1 (a1 ++ a2)).bind fun bt6 => (if a3.size + bt3.1.size ≤ 9223372036854775807 then ((clavigerref11_Tag.f kj5 bt4.2.1 (a3 ++ bt3.1)).bind fun bt7 => (if bt3.1.toList = bt5.1.toList then (if bt6.1.toList = bt2.2.1.toList then (if bt7.1.toList = bt2.2.1.toList then ((clavigerlaw38_awake.f kj5).bind fun t8 => (some t8)) else (some false)) else (some false)) else (some false))) else (none))) else (none)))) else (if bt3.1.toList = ([] : List UInt8) then (if bt3.2 = 4 then ((clavigerlaw38_awake.f kj5).bind fun t9 => (some t9)) else (if bt3.2 = 7 then ((clavigerlaw38_awake.f kj5).bind fun t10 => (some t10)) else (some false))) else (some false)))) else ((clavigerlaw38_awake.f kj5).bind fun t11 => (some t11)))) = some r := by rw [if_neg (show ¬ (false = true) by decide)] at H; exact H
    clear H
    have H := H1
    clear H1
    replace H := Option.bind_eq_some_iff.mp H
    obtain ⟨⟨t2, t18, t19⟩, A140, H⟩ := H
    try dsimp only at H
    have A14 := Aside0.mk A140
    clear A140
    by_cases c15 : t19 = 0
    ·rw [if_pos c15] at H
     have c15b0 : (t19 == 0) = true := beq_iff_eq.mpr c15
     have c15b1 : (t19 != 0) = false := bne_eq_false_iff_eq.mpr c15
     clear c15
     replace H := Option.bind_eq_some_iff.mp H
     obtain ⟨⟨t3, t20⟩, A160, H⟩ := H
     try dsimp only at H
     have A16 := Aside0.mk A160
     clear A160
     by_cases c17 : t20 = 0
     ·rw [if_pos c17] at H
      have c17b0 : (t20 == 0) = true := beq_iff_eq.mpr c17
      have c17b1 : (t20 != 0) = false := bne_eq_false_iff_eq.mpr c17
      clear c17
      replace H := Option.bind_eq_some_iff.mp H
      obtain ⟨⟨t4, t21, t22⟩, A180, H⟩ := H
      try dsimp only at H
      have A18 := Aside0.mk A180
      clear A180
      replace H := Option.bind_eq_some_iff.mp H
      obtain ⟨⟨t5, t23⟩, A190, H⟩ := H
      try dsimp only at H
      have A19 := Aside0.mk A190
      clear A190
      by_cases c20 : a1.size + a2.size ≤ 9223372036854775807
      ·rw [if_pos c20] at H
       have c20b0 := eq_true c20
       have c20b1 : decide (a1.size + a2.size ≤ 9223372036854775807) = true := decide_eq_true c20
       try have c20b2 : (9223372036854775807 < a1.size + a2.size) = False := eq_false (Nat.not_lt.2 c20)
       replace H := Option.bind_eq_some_iff.mp H
       obtain ⟨⟨t6, t24⟩, A210, H⟩ := H
       try dsimp only at H
       have A21 := Aside0.mk A210
       clear A210
       by_cases c22 : a3.size + t3.size ≤ 9223372036854775807
       ·rw [if_pos c22] at H
        have c22b0 := eq_true c22
        have c22b1 : decide (a3.size + t3.size ≤ 9223372036854775807) = true := decide_eq_true c22
        try have c22b2 : (9223372036854775807 < a3.size + t3.size) = False := eq_false (Nat.not_lt.2 c22)
        replace H := Option.bind_eq_some_iff.mp H
        obtain ⟨⟨t7, t25⟩, A230, H⟩ := H
        try dsimp only at H
        have A23 := Aside0.mk A230
        clear A230
        by_cases c24 : t3.toList = t5.toList
        ·rw [if_pos c24] at H
         have c24b0 : (t3.toList == t5.toList) = true := beq_iff_eq.mpr c24
         have c24b1 : (t3.toList != t5.toList) = false := bne_eq_false_iff_eq.mpr c24
         clear c24
         by_cases c25 : t6.toList = t18.toList
         ·rw [if_pos c25] at H
          have c25b0 : (t6.toList == t18.toList) = true := beq_iff_eq.mpr c25
          have c25b1 : (t6.toList != t18.toList) = false := bne_eq_false_iff_eq.mpr c25
          clear c25
          by_cases c26 : t7.toList = t18.toList
          ·rw [if_pos c26] at H
           have c26b0 : (t7.toList == t18.toList) = true := beq_iff_eq.mpr c26
           have c26b1 : (t7.toList != t18.toList) = false := bne_eq_false_iff_eq.mpr c26
           clear c26
           replace H := Option.bind_eq_some_iff.mp H
           obtain ⟨t8, A270, H⟩ := H
           replace H : (some t8) = some r := H
           have A27 := Aside0.mk A270
           clear A270
           obtain rfl := Option.some.inj H
           go_wp2_with (first | ((with_reducible refine gate_callee (f := 60) rfl ?_); refine goesL_ (some 53) rfl rfl Try.func60 (by kernel_rfl) rfl #[.string a0, .string a1, .string a2] rfl (by (try simp only [lT, lC, lN]); first | done | rfl) ?_; (with_reducible refine (clavigerref37_Seal.calls kj5 a0 a1 a2 t2 t18 t19 _ A14.out).mono ?_); rintro e w28 ⟨rfl, hb⟩; refine ⟨_, rfl, ?_⟩; have n0_ := Aside0.mk (below_step (by repeat first | with_reducible (first | exact HB.out | apply bA | apply bN | apply bD) | exact HB.out) hb); clear HB; have HB := n0_; clear n0_; (try clear hb); (try clear hb2); (try clear hk); (try clear hi)) | ((with_reducible refine gate_callee (f := 61) rfl ?_); refine goesL_ (some 65) rfl rfl Try.func61 (by kernel_rfl) rfl #[.string a0, .string a3, .string a4, .string t18] rfl (by (try simp only [lT, lC, lN]); first | done | rfl) ?_; (with_reducible refine (open_Open.calls kj5 a0 a3 a4 t18 t3 t20 _ A16.out).mono ?_); rintro e w29 ⟨rfl, hb⟩; refine ⟨_, rfl, ?_⟩; have n0_ := Aside0.mk (below_step (by repeat first | with_reducible (first | exact HB.out | apply bA | apply bN | apply bD) | exact HB.out) hb); clear HB; have HB := n0_; clear n0_; (try clear hb); (try clear hb2); (try clear hk); (try clear hi)) | ((with_reducible refine gate_callee (f := 72) rfl ?_); refine goesL_ (some 85) rfl rfl Try.func72 (by kernel_rfl) rfl #[.string a0] rfl (by (try simp only [lT, lC, lN]); first | done | rfl) ?_; (with_reducible refine (clavigerref35_Keys.calls kj5 a0 t4 t21 t22 _ A18.out).mono ?_); rintro e w30 ⟨rfl, hb⟩; refine ⟨_, rfl, ?_⟩; have n0_ := Aside0.mk (below_step (by repeat first | with_reducible (first | exact HB.out | apply bA | apply bN | apply bD) | exact HB.out) hb); clear HB; have HB := n0_; clear n0_; (try clear hb); (try clear hb2); (try clear hk); (try clear hi)) | ((with_reducible refine gate_callee (f := 73) rfl ?_); refine goesL_ (some 93) rfl rfl Try.func73 (by kernel_rfl) rfl #[.string t4, .string t18, .string a4] rfl (by (try simp only [lT, lC, lN]); first | done | rfl) ?_; (with_reducible refine (clavigerref10_Decrypt.calls kj5 t4 t18 a4 t5 t23 _ A19.out).mono ?_); rintro e w31 ⟨rfl, hb⟩; refine ⟨_, rfl, ?_⟩; have n0_ := Aside0.mk (below_step (by repeat first | with_reducible (first | exact HB.out | apply bA | apply bN | apply bD) | exact HB.out) hb); clear HB; have HB := n0_; clear n0_; (try clear hb); (try clear hb2); (try clear hk); (try clear hi)) | ((with_reducible refine gate_callee (f := 74) rfl ?_); refine goesL_ (some 101) rfl rfl Try.func74 (by kernel_rfl) rfl #[.string t21, .string (a1 ++ a2)] rfl (by (try simp only [lT, lC, lN]); first | done | rfl) ?_; (with_reducible refine (clavigerref11_Tag.calls kj5 t21 (a1 ++ a2) t6 t24 _ A21.out).mono ?_); rintro e w32 ⟨rfl, hb⟩; refine ⟨_, rfl, ?_⟩; have n0_ := Aside0.mk (below_step (by repeat first | with_reducible (first | exact HB.out | apply bA | apply bN | apply bD) | exact HB.out) hb); clear HB; have HB := n0_; clear n0_; (try clear hb); (try clear hb2); (try clear hk); (try clear hi)) | ((with_reducible refine gate_callee (f := 74) rfl ?_); refine goesL_ (some 109) rfl rfl Try.func74 (by kernel_rfl) rfl #[.string t21, .string (a3 ++ t3)] rfl (by (try simp only [lT, lC, lN]); first | done | rfl) ?_; (with_reducible refine (clavigerref11_Tag.calls kj5 t21 (a3 ++ t3) t7 t25 _ A23.out).mono ?_); rintro e w33 ⟨rfl, hb⟩; refine ⟨_, rfl, ?_⟩; have n0_ := Aside0.mk (below_step (by repeat first | with_reducible (first | exact HB.out | apply bA | apply bN | apply bD) | exact HB.out) hb); clear HB; have HB := n0_; clear n0_; (try clear hb); (try clear hb2); (try clear hk); (try clear hi)) | (go_at_call 59; (with_reducible refine (clavigerlaw38_awake.calls kj5  t8 _ A27.out).mono ?_); rintro e w34 ⟨rfl, hb⟩; have n0_ := Aside0.mk (below_step (by repeat first | with_reducible (first | exact HB.out | apply bA | apply bN | apply bD) | exact HB.out) hb); clear HB; have HB := n0_; clear n0_; (try clear hb); (try clear hb2); (try clear hk); (try clear hi)))
           go_ret
           exact ⟨by first | rfl | (simp [*, errW_none, errW_some] <;> rfl), by repeat first | with_reducible (first | exact HB.out | apply bA | apply bN | apply bD) | exact HB.out⟩
          ·rw [if_neg c26] at H
           have c26b0 : (t7.toList == t18.toList) = false := beq_eq_false_iff_ne.mpr c26
           have c26b1 : (t7.toList != t18.toList) = true := bne_iff_ne.mpr c26
           obtain rfl := Option.some.inj H
           go_wp2_with (first | ((with_reducible refine gate_callee (f := 60) rfl ?_); refine goesL_ (some 53) rfl rfl Try.func60 (by kernel_rfl) rfl #[.string a0, .string a1, .string a2] rfl (by (try simp only [lT, lC, lN]); first | done | rfl) ?_; (with_reducible refine (clavigerref37_Seal.calls kj5 a0 a1 a2 t2 t18 t19 _ A14.out).mono ?_); rintro e w35 ⟨rfl, hb⟩; refine ⟨_, rfl, ?_⟩; have n0_ := Aside0.mk (below_step (by repeat first | with_reducible (first | exact HB.out | apply bA | apply bN | apply bD) | exact HB.out) hb); clear HB; have HB := n0_; clear n0_; (try clear hb); (try clear hb2); (try clear hk); (try clear hi)) | ((with_reducible refine gate_callee (f := 61) rfl ?_); refine goesL_ (some 65) rfl rfl Try.func61 (by kernel_rfl) rfl #[.string a0, .string a3, .string a4, .string t18] rfl (by (try simp only [lT, lC, lN]); first | done | rfl) ?_; (with_reducible refine (open_Open.calls kj5 a0 a3 a4 t18 t3 t20 _ A16.out).mono ?_); rintro e w36 ⟨rfl, hb⟩; refine ⟨_, rfl, ?_⟩; have n0_ := Aside0.mk (below_step (by repeat first | with_reducible (first | exact HB.out | apply bA | apply bN | apply bD) | exact HB.out) hb); clear HB; have HB := n0_; clear n0_; (try clear hb); (try clear hb2); (try clear hk); (try clear hi)) | ((with_reducible refine gate_callee (f := 72) rfl ?_); refine goesL_ (some 85) rfl rfl Try.func72 (by kernel_rfl) rfl #[.string a0] rfl (by (try simp only [lT, lC, lN]); first | done | rfl) ?_; (with_reducible refine (clavigerref35_Keys.calls kj5 a0 t4 t21 t22 _ A18.out).mono ?_); rintro e w37 ⟨rfl, hb⟩; refine ⟨_, rfl, ?_⟩; have n0_ := Aside0.mk (below_step (by repeat first | with_reducible (first | exact HB.out | apply bA | apply bN | apply bD) | exact HB.out) hb); clear HB; have HB := n0_; clear n0_; (try clear hb); (try clear hb2); (try clear hk); (try clear hi)) | ((with_reducible refine gate_callee (f := 73) rfl ?_); refine goesL_ (some 93) rfl rfl Try.func73 (by kernel_rfl) rfl #[.string t4, .string t18, .string a4] rfl (by (try simp only [lT, lC, lN]); first | done | rfl) ?_; (with_reducible refine (clavigerref10_Decrypt.calls kj5 t4 t18 a4 t5 t23 _ A19.out).mono ?_); rintro e w38 ⟨rfl, hb⟩; refine ⟨_, rfl, ?_⟩; have n0_ := Aside0.mk (below_step (by repeat first | with_reducible (first | exact HB.out | apply bA | apply bN | apply bD) | exact HB.out) hb); clear HB; have HB := n0_; clear n0_; (try clear hb); (try clear hb2); (try clear hk); (try clear hi)) | ((with_reducible refine gate_callee (f := 74) rfl ?_); refine goesL_ (some 101) rfl rfl Try.func74 (by kernel_rfl) rfl #[.string t21, .string (a1 ++ a2)] rfl (by (try simp only [lT, lC, lN]); first | done | rfl) ?_; (with_reducible refine (clavigerref11_Tag.calls kj5 t21 (a1 ++ a2) t6 t24 _ A21.out).mono ?_); rintro e w39 ⟨rfl, hb⟩; refine ⟨_, rfl, ?_⟩; have n0_ := Aside0.mk (below_step (by repeat first | with_reducible (first | exact HB.out | apply bA | apply bN | apply bD) | exact HB.out) hb); clear HB; have HB := n0_; clear n0_; (try clear hb); (try clear hb2); (try clear hk); (try clear hi)) | ((with_reducible refine gate_callee (f := 74) rfl ?_); refine goesL_ (some 109) rfl rfl Try.func74 (by kernel_rfl) rfl #[.string t21, .string (a3 ++ t3)] rfl (by (try simp only [lT, lC, lN]); first | done | rfl) ?_; (with_reducible refine (clavigerref11_Tag.calls kj5 t21 (a3 ++ t3) t7 t25 _ A23.out).mono ?_); rintro e w40 ⟨rfl, hb⟩; refine ⟨_, rfl, ?_⟩; have n0_ := Aside0.mk (below_step (by repeat first | with_reducible (first | exact HB.out | apply bA | apply bN | apply bD) | exact HB.out) hb); clear HB; have HB := n0_; clear n0_; (try clear hb); (try clear hb2); (try clear hk); (try clear hi)))
           go_ret
           exact ⟨by first | rfl | (simp [*, errW_none, errW_some] <;> rfl), by repeat first | with_reducible (first | exact HB.out | apply bA | apply bN | apply bD) | exact HB.out⟩
         ·rw [if_neg c25] at H
          have c25b0 : (t6.toList == t18.toList) = false := beq_eq_false_iff_ne.mpr c25
          have c25b1 : (t6.toList != t18.toList) = true := bne_iff_ne.mpr c25
          obtain rfl := Option.some.inj H
          go_wp2_with (first | ((with_reducible refine gate_callee (f := 60) rfl ?_); refine goesL_ (some 53) rfl rfl Try.func60 (by kernel_rfl) rfl #[.string a0, .string a1, .string a2] rfl (by (try simp only [lT, lC, lN]); first | done | rfl) ?_; (with_reducible refine (clavigerref37_Seal.calls kj5 a0 a1 a2 t2 t18 t19 _ A14.out).mono ?_); rintro e w41 ⟨rfl, hb⟩; refine ⟨_, rfl, ?_⟩; have n0_ := Aside0.mk (below_step (by repeat first | with_reducible (first | exact HB.out | apply bA | apply bN | apply bD) | exact HB.out) hb); clear HB; have HB := n0_; clear n0_; (try clear hb); (try clear hb2); (try clear hk); (try clear hi)) | ((with_reducible refine gate_callee (f := 61) rfl ?_); refine goesL_ (some 65) rfl rfl Try.func61 (by kernel_rfl) rfl #[.string a0, .string a3, .string a4, .string t18] rfl (by (try simp only [lT, lC, lN]); first | done | rfl) ?_; (with_reducible refine (open_Open.calls kj5 a0 a3 a4 t18 t3 t20 _ A16.out).mono ?_); rintro e w42 ⟨rfl, hb⟩; refine ⟨_, rfl, ?_⟩; have n0_ := Aside0.mk (below_step (by repeat first | with_reducible (first | exact HB.out | apply bA | apply bN | apply bD) | exact HB.out) hb); clear HB; have HB := n0_; clear n0_; (try clear hb); (try clear hb2); (try clear hk); (try clear hi)) | ((with_reducible refine gate_callee (f := 72) rfl ?_); refine goesL_ (some 85) rfl rfl Try.func72 (by kernel_rfl) rfl #[.string a0] rfl (by (try simp only [lT, lC, lN]); first | done | rfl) ?_; (with_reducible refine (clavigerref35_Keys.calls kj5 a0 t4 t21 t22 _ A18.out).mono ?_); rintro e w43 ⟨rfl, hb⟩; refine ⟨_, rfl, ?_⟩; have n0_ := Aside0.mk (below_step (by repeat first | with_reducible (first | exact HB.out | apply bA | apply bN | apply bD) | exact HB.out) hb); clear HB; have HB := n0_; clear n0_; (try clear hb); (try clear hb2); (try clear hk); (try clear hi)) | ((with_reducible refine gate_callee (f := 73) rfl ?_); refine goesL_ (some 93) rfl rfl Try.func73 (by kernel_rfl) rfl #[.string t4, .string t18, .string a4] rfl (by (try simp only [lT, lC, lN]); first | done | rfl) ?_; (with_reducible refine (clavigerref10_Decrypt.calls kj5 t4 t18 a4 t5 t23 _ A19.out).mono ?_); rintro e w44 ⟨rfl, hb⟩; refine ⟨_, rfl, ?_⟩; have n0_ := Aside0.mk (below_step (by repeat first | with_reducible (first | exact HB.out | apply bA | apply bN | apply bD) | exact HB.out) hb); clear HB; have HB := n0_; clear n0_; (try clear hb); (try clear hb2); (try clear hk); (try clear hi)) | ((with_reducible refine gate_callee (f := 74) rfl ?_); refine goesL_ (some 101) rfl rfl Try.func74 (by kernel_rfl) rfl #[.string t21, .string (a1 ++ a2)] rfl (by (try simp only [lT, lC, lN]); first | done | rfl) ?_; (with_reducible refine (clavigerref11_Tag.calls kj5 t21 (a1 ++ a2) t6 t24 _ A21.out).mono ?_); rintro e w45 ⟨rfl, hb⟩; refine ⟨_, rfl, ?_⟩; have n0_ := Aside0.mk (below_step (by repeat first | with_reducible (first | exact HB.out | apply bA | apply bN | apply bD) | exact HB.out) hb); clear HB; have HB := n0_; clear n0_; (try clear hb); (try clear hb2); (try clear hk); (try clear hi)) | ((with_reducible refine gate_callee (f := 74) rfl ?_); refine goesL_ (some 109) rfl rfl Try.func74 (by kernel_rfl) rfl #[.string t21, .string (a3 ++ t3)] rfl (by (try simp only [lT, lC, lN]); first | done | rfl) ?_; (with_reducible refine (clavigerref11_Tag.calls kj5 t21 (a3 ++ t3) t7 t25 _ A23.out).mono ?_); rintro e w46 ⟨rfl, hb⟩; refine ⟨_, rfl, ?_⟩; have n0_ := Aside0.mk (below_step (by repeat first | with_reducible (first | exact HB.out | apply bA | apply bN | apply bD) | exact HB.out) hb); clear HB; have HB := n0_; clear n0_; (try clear hb); (try clear hb2); (try clear hk); (try clear hi)))
          go_ret
          exact ⟨by first | rfl | (simp [*, errW_none, errW_some] <;> rfl), by repeat first | with_reducible (first | exact HB.out | apply bA | apply bN | apply bD) | exact HB.out⟩
        ·rw [if_neg c24] at H
         have c24b0 : (t3.toList == t5.toList) = false := beq_eq_false_iff_ne.mpr c24
         have c24b1 : (t3.toList != t5.toList) = true := bne_iff_ne.mpr c24
         obtain rfl := Option.some.inj H
         go_wp2_with (first | ((with_reducible refine gate_callee (f := 60) rfl ?_); refine goesL_ (some 53) rfl rfl Try.func60 (by kernel_rfl) rfl #[.string a0, .string a1, .string a2] rfl (by (try simp only [lT, lC, lN]); first | done | rfl) ?_; (with_reducible refine (clavigerref37_Seal.calls kj5 a0 a1 a2 t2 t18 t19 _ A14.out).mono ?_); rintro e w47 ⟨rfl, hb⟩; refine ⟨_, rfl, ?_⟩; have n0_ := Aside0.mk (below_step (by repeat first | with_reducible (first | exact HB.out | apply bA | apply bN | apply bD) | exact HB.out) hb); clear HB; have HB := n0_; clear n0_; (try clear hb); (try clear hb2); (try clear hk); (try clear hi)) | ((with_reducible refine gate_callee (f := 61) rfl ?_); refine goesL_ (some 65) rfl rfl Try.func61 (by kernel_rfl) rfl #[.string a0, .string a3, .string a4, .string t18] rfl (by (try simp only [lT, lC, lN]); first | done | rfl) ?_; (with_reducible refine (open_Open.calls kj5 a0 a3 a4 t18 t3 t20 _ A16.out).mono ?_); rintro e w48 ⟨rfl, hb⟩; refine ⟨_, rfl, ?_⟩; have n0_ := Aside0.mk (below_step (by repeat first | with_reducible (first | exact HB.out | apply bA | apply bN | apply bD) | exact HB.out) hb); clear HB; have HB := n0_; clear n0_; (try clear hb); (try clear hb2); (try clear hk); (try clear hi)) | ((with_reducible refine gate_callee (f := 72) rfl ?_); refine goesL_ (some 85) rfl rfl Try.func72 (by kernel_rfl) rfl #[.string a0] rfl (by (try simp only [lT, lC, lN]); first | done | rfl) ?_; (with_reducible refine (clavigerref35_Keys.calls kj5 a0 t4 t21 t22 _ A18.out).mono ?_); rintro e w49 ⟨rfl, hb⟩; refine ⟨_, rfl, ?_⟩; have n0_ := Aside0.mk (below_step (by repeat first | with_reducible (first | exact HB.out | apply bA | apply bN | apply bD) | exact HB.out) hb); clear HB; have HB := n0_; clear n0_; (try clear hb); (try clear hb2); (try clear hk); (try clear hi)) | ((with_reducible refine gate_callee (f := 73) rfl ?_); refine goesL_ (some 93) rfl rfl Try.func73 (by kernel_rfl) rfl #[.string t4, .string t18, .string a4] rfl (by (try simp only [lT, lC, lN]); first | done | rfl) ?_; (with_reducible refine (clavigerref10_Decrypt.calls kj5 t4 t18 a4 t5 t23 _ A19.out).mono ?_); rintro e w50 ⟨rfl, hb⟩; refine ⟨_, rfl, ?_⟩; have n0_ := Aside0.mk (below_step (by repeat first | with_reducible (first | exact HB.out | apply bA | apply bN | apply bD) | exact HB.out) hb); clear HB; have HB := n0_; clear n0_; (try clear hb); (try clear hb2); (try clear hk); (try clear hi)) | ((with_reducible refine gate_callee (f := 74) rfl ?_); refine goesL_ (some 101) rfl rfl Try.func74 (by kernel_rfl) rfl #[.string t21, .string (a1 ++ a2)] rfl (by (try simp only [lT, lC, lN]); first | done | rfl) ?_; (with_reducible refine (clavigerref11_Tag.calls kj5 t21 (a1 ++ a2) t6 t24 _ A21.out).mono ?_); rintro e w51 ⟨rfl, hb⟩; refine ⟨_, rfl, ?_⟩; have n0_ := Aside0.mk (below_step (by repeat first | with_reducible (first | exact HB.out | apply bA | apply bN | apply bD) | exact HB.out) hb); clear HB; have HB := n0_; clear n0_; (try clear hb); (try clear hb2); (try clear hk); (try clear hi)) | ((with_reducible refine gate_callee (f := 74) rfl ?_); refine goesL_ (some 109) rfl rfl Try.func74 (by kernel_rfl) rfl #[.string t21, .string (a3 ++ t3)] rfl (by (try simp only [lT, lC, lN]); first | done | rfl) ?_; (with_reducible refine (clavigerref11_Tag.calls kj5 t21 (a3 ++ t3) t7 t25 _ A23.out).mono ?_); rintro e w52 ⟨rfl, hb⟩; refine ⟨_, rfl, ?_⟩; have n0_ := Aside0.mk (below_step (by repeat first | with_reducible (first | exact HB.out | apply bA | apply bN | apply bD) | exact HB.out) hb); clear HB; have HB := n0_; clear n0_; (try clear hb); (try clear hb2); (try clear hk); (try clear hi)))
         go_ret
         exact ⟨by first | rfl | (simp [*, errW_none, errW_some] <;> rfl), by repeat first | with_reducible (first | exact HB.out | apply bA | apply bN | apply bD) | exact HB.out⟩
       ·rw [if_neg c22] at H
        exact absurd H (by simp)
      ·rw [if_neg c20] at H
       exact absurd H (by simp)
     ·rw [if_neg c17] at H
      have c17b0 : (t20 == 0) = false := beq_eq_false_iff_ne.mpr c17
      have c17b1 : (t20 != 0) = true := bne_iff_ne.mpr c17
      by_cases c53 : t3.toList = ([] : List UInt8)
      ·rw [if_pos c53] at H
       have c53b0 : (t3.toList == ([] : List UInt8)) = true := beq_iff_eq.mpr c53
       have c53b1 : (t3.toList != ([] : List UInt8)) = false := bne_eq_false_iff_eq.mpr c53
       clear c53
       by_cases c54 : t20 = 4
       ·rw [if_pos c54] at H
        have c54b0 : (t20 == 4) = true := beq_iff_eq.mpr c54
        have c54b1 : (t20 != 4) = false := bne_eq_false_iff_eq.mpr c54
        clear c54
        replace H := Option.bind_eq_some_iff.mp H
        obtain ⟨t9, A550, H⟩ := H
        replace H : (some t9) = some r := H
        have A55 := Aside0.mk A550
        clear A550
        obtain rfl := Option.some.inj H
        go_wp2_with (first | ((with_reducible refine gate_callee (f := 60) rfl ?_); refine goesL_ (some 53) rfl rfl Try.func60 (by kernel_rfl) rfl #[.string a0, .string a1, .string a2] rfl (by (try simp only [lT, lC, lN]); first | done | rfl) ?_; (with_reducible refine (clavigerref37_Seal.calls kj5 a0 a1 a2 t2 t18 t19 _ A14.out).mono ?_); rintro e w56 ⟨rfl, hb⟩; refine ⟨_, rfl, ?_⟩; have n0_ := Aside0.mk (below_step (by repeat first | with_reducible (first | exact HB.out | apply bA | apply bN | apply bD) | exact HB.out) hb); clear HB; have HB := n0_; clear n0_; (try clear hb); (try clear hb2); (try clear hk); (try clear hi)) | ((with_reducible refine gate_callee (f := 61) rfl ?_); refine goesL_ (some 65) rfl rfl Try.func61 (by kernel_rfl) rfl #[.string a0, .string a3, .string a4, .string t18] rfl (by (try simp only [lT, lC, lN]); first | done | rfl) ?_; (with_reducible refine (open_Open.calls kj5 a0 a3 a4 t18 t3 t20 _ A16.out).mono ?_); rintro e w57 ⟨rfl, hb⟩; refine ⟨_, rfl, ?_⟩; have n0_ := Aside0.mk (below_step (by repeat first | with_reducible (first | exact HB.out | apply bA | apply bN | apply bD) | exact HB.out) hb); clear HB; have HB := n0_; clear n0_; (try clear hb); (try clear hb2); (try clear hk); (try clear hi)) | (go_at_call 59; (with_reducible refine (clavigerlaw38_awake.calls kj5  t9 _ A55.out).mono ?_); rintro e w58 ⟨rfl, hb⟩; have n0_ := Aside0.mk (below_step (by repeat first | with_reducible (first | exact HB.out | apply bA | apply bN | apply bD) | exact HB.out) hb); clear HB; have HB := n0_; clear n0_; (try clear hb); (try clear hb2); (try clear hk); (try clear hi)))
        go_ret
        exact ⟨by first | rfl | (simp [*, errW_none, errW_some] <;> rfl), by repeat first | with_reducible (first | exact HB.out | apply bA | apply bN | apply bD) | exact HB.out⟩
       ·rw [if_neg c54] at H
        have c54b0 : (t20 == 4) = false := beq_eq_false_iff_ne.mpr c54
        have c54b1 : (t20 != 4) = true := bne_iff_ne.mpr c54
        by_cases c59 : t20 = 7
        ·rw [if_pos c59] at H
         have c59b0 : (t20 == 7) = true := beq_iff_eq.mpr c59
         have c59b1 : (t20 != 7) = false := bne_eq_false_iff_eq.mpr c59
         clear c59
         replace H := Option.bind_eq_some_iff.mp H
         obtain ⟨t10, A600, H⟩ := H
         replace H : (some t10) = some r := H
         have A60 := Aside0.mk A600
         clear A600
         obtain rfl := Option.some.inj H
         go_wp2_with (first | ((with_reducible refine gate_callee (f := 60) rfl ?_); refine goesL_ (some 53) rfl rfl Try.func60 (by kernel_rfl) rfl #[.string a0, .string a1, .string a2] rfl (by (try simp only [lT, lC, lN]); first | done | rfl) ?_; (with_reducible refine (clavigerref37_Seal.calls kj5 a0 a1 a2 t2 t18 t19 _ A14.out).mono ?_); rintro e w61 ⟨rfl, hb⟩; refine ⟨_, rfl, ?_⟩; have n0_ := Aside0.mk (below_step (by repeat first | with_reducible (first | exact HB.out | apply bA | apply bN | apply bD) | exact HB.out) hb); clear HB; have HB := n0_; clear n0_; (try clear hb); (try clear hb2); (try clear hk); (try clear hi)) | ((with_reducible refine gate_callee (f := 61) rfl ?_); refine goesL_ (some 65) rfl rfl Try.func61 (by kernel_rfl) rfl #[.string a0, .string a3, .string a4, .string t18] rfl (by (try simp only [lT, lC, lN]); first | done | rfl) ?_; (with_reducible refine (open_Open.calls kj5 a0 a3 a4 t18 t3 t20 _ A16.out).mono ?_); rintro e w62 ⟨rfl, hb⟩; refine ⟨_, rfl, ?_⟩; have n0_ := Aside0.mk (below_step (by repeat first | with_reducible (first | exact HB.out | apply bA | apply bN | apply bD) | exact HB.out) hb); clear HB; have HB := n0_; clear n0_; (try clear hb); (try clear hb2); (try clear hk); (try clear hi)) | (go_at_call 59; (with_reducible refine (clavigerlaw38_awake.calls kj5  t10 _ A60.out).mono ?_); rintro e w63 ⟨rfl, hb⟩; have n0_ := Aside0.mk (below_step (by repeat first | with_reducible (first | exact HB.out | apply bA | apply bN | apply bD) | exact HB.out) hb); clear HB; have HB := n0_; clear n0_; (try clear hb); (try clear hb2); (try clear hk); (try clear hi)))
         go_ret
         exact ⟨by first | rfl | (simp [*, errW_none, errW_some] <;> rfl), by repeat first | with_reducible (first | exact HB.out | apply bA | apply bN | apply bD) | exact HB.out⟩
        ·rw [if_neg c59] at H
         have c59b0 : (t20 == 7) = false := beq_eq_false_iff_ne.mpr c59
         have c59b1 : (t20 != 7) = true := bne_iff_ne.mpr c59
         obtain rfl := Option.some.inj H
         go_wp2_with (first | ((with_reducible refine gate_callee (f := 60) rfl ?_); refine goesL_ (some 53) rfl rfl Try.func60 (by kernel_rfl) rfl #[.string a0, .string a1, .string a2] rfl (by (try simp only [lT, lC, lN]); first | done | rfl) ?_; (with_reducible refine (clavigerref37_Seal.calls kj5 a0 a1 a2 t2 t18 t19 _ A14.out).mono ?_); rintro e w64 ⟨rfl, hb⟩; refine ⟨_, rfl, ?_⟩; have n0_ := Aside0.mk (below_step (by repeat first | with_reducible (first | exact HB.out | apply bA | apply bN | apply bD) | exact HB.out) hb); clear HB; have HB := n0_; clear n0_; (try clear hb); (try clear hb2); (try clear hk); (try clear hi)) | ((with_reducible refine gate_callee (f := 61) rfl ?_); refine goesL_ (some 65) rfl rfl Try.func61 (by kernel_rfl) rfl #[.string a0, .string a3, .string a4, .string t18] rfl (by (try simp only [lT, lC, lN]); first | done | rfl) ?_; (with_reducible refine (open_Open.calls kj5 a0 a3 a4 t18 t3 t20 _ A16.out).mono ?_); rintro e w65 ⟨rfl, hb⟩; refine ⟨_, rfl, ?_⟩; have n0_ := Aside0.mk (below_step (by repeat first | with_reducible (first | exact HB.out | apply bA | apply bN | apply bD) | exact HB.out) hb); clear HB; have HB := n0_; clear n0_; (try clear hb); (try clear hb2); (try clear hk); (try clear hi)))
         go_ret
         exact ⟨by first | rfl | (simp [*, errW_none, errW_some] <;> rfl), by repeat first | with_reducible (first | exact HB.out | apply bA | apply bN | apply bD) | exact HB.out⟩
      ·rw [if_neg c53] at H
       have c53b0 : (t3.toList == ([] : List UInt8)) = false := beq_eq_false_iff_ne.mpr c53
       have c53b1 : (t3.toList != ([] : List UInt8)) = true := bne_iff_ne.mpr c53
       obtain rfl := Option.some.inj H
       go_wp2_with (first | ((with_reducible refine gate_callee (f := 60) rfl ?_); refine goesL_ (some 53) rfl rfl Try.func60 (by kernel_rfl) rfl #[.string a0, .string a1, .string a2] rfl (by (try simp only [lT, lC, lN]); first | done | rfl) ?_; (with_reducible refine (clavigerref37_Seal.calls kj5 a0 a1 a2 t2 t18 t19 _ A14.out).mono ?_); rintro e w66 ⟨rfl, hb⟩; refine ⟨_, rfl, ?_⟩; have n0_ := Aside0.mk (below_step (by repeat first | with_reducible (first | exact HB.out | apply bA | apply bN | apply bD) | exact HB.out) hb); clear HB; have HB := n0_; clear n0_; (try clear hb); (try clear hb2); (try clear hk); (try clear hi)) | ((with_reducible refine gate_callee (f := 61) rfl ?_); refine goesL_ (some 65) rfl rfl Try.func61 (by kernel_rfl) rfl #[.string a0, .string a3, .string a4, .string t18] rfl (by (try simp only [lT, lC, lN]); first | done | rfl) ?_; (with_reducible refine (open_Open.calls kj5 a0 a3 a4 t18 t3 t20 _ A16.out).mono ?_); rintro e w67 ⟨rfl, hb⟩; refine ⟨_, rfl, ?_⟩; have n0_ := Aside0.mk (below_step (by repeat first | with_reducible (first | exact HB.out | apply bA | apply bN | apply bD) | exact HB.out) hb); clear HB; have HB := n0_; clear n0_; (try clear hb); (try clear hb2); (try clear hk); (try clear hi)))
       go_ret
       exact ⟨by first | rfl | (simp [*, errW_none, errW_some] <;> rfl), by repeat first | with_reducible (first | exact HB.out | apply bA | apply bN | apply bD) | exact HB.out⟩
    ·rw [if_neg c15] at H
     have c15b0 : (t19 == 0) = false := beq_eq_false_iff_ne.mpr c15
     have c15b1 : (t19 != 0) = true := bne_iff_ne.mpr c15
     replace H := Option.bind_eq_some_iff.mp H
     obtain ⟨t11, A680, H⟩ := H
     replace H : (some t11) = some r := H
     have A68 := Aside0.mk A680
     clear A680
     obtain rfl := Option.some.inj H
     go_wp2_with (first | ((with_reducible refine gate_callee (f := 60) rfl ?_); refine goesL_ (some 53) rfl rfl Try.func60 (by kernel_rfl) rfl #[.string a0, .string a1, .string a2] rfl (by (try simp only [lT, lC, lN]); first | done | rfl) ?_; (with_reducible refine (clavigerref37_Seal.calls kj5 a0 a1 a2 t2 t18 t19 _ A14.out).mono ?_); rintro e w69 ⟨rfl, hb⟩; refine ⟨_, rfl, ?_⟩; have n0_ := Aside0.mk (below_step (by repeat first | with_reducible (first | exact HB.out | apply bA | apply bN | apply bD) | exact HB.out) hb); clear HB; have HB := n0_; clear n0_; (try clear hb); (try clear hb2); (try clear hk); (try clear hi)) | ((with_reducible refine gate_callee (f := 59) rfl ?_); refine goesL_ (some 59) rfl rfl Try.func59 (by kernel_rfl) rfl #[] rfl (by (try simp only [lT, lC, lN]); first | done | rfl) ?_; (with_reducible refine (clavigerlaw38_awake.calls kj5  t11 _ A68.out).mono ?_); rintro e w70 ⟨rfl, hb⟩; refine ⟨_, rfl, ?_⟩; have n0_ := Aside0.mk (below_step (by repeat first | with_reducible (first | exact HB.out | apply bA | apply bN | apply bD) | exact HB.out) hb); clear HB; have HB := n0_; clear n0_; (try clear hb); (try clear hb2); (try clear hk); (try clear hi)))
     go_ret
     exact ⟨by first | rfl | (simp [*, errW_none, errW_some] <;> rfl), by repeat first | with_reducible (first | exact HB.out | apply bA | apply bN | apply bD) | exact HB.out⟩

/-- THE ONE PURE STATEMENT of clavigerlaw38_OpenBinds: yours. -/
def clavigerlaw38_OpenBinds.Pure : Prop := ∀ (a0 : ByteArray) (a1 : ByteArray) (a2 : ByteArray) (a3 : ByteArray) (a4 : ByteArray), a0.size ≤ 140737488351232 → a1.size ≤ 140737488351232 → a2.size ≤ 140737488351232 → a3.size ≤ 140737488351232 → a4.size ≤ 140737488351232 → ∃ k, clavigerlaw38_OpenBinds.f k a0 a1 a2 a3 a4 = some true
theorem clavigerlaw38_OpenBinds.walk (P : clavigerlaw38_OpenBinds.Pure) (a0 : ByteArray) (a1 : ByteArray) (a2 : ByteArray) (a3 : ByteArray) (a4 : ByteArray) (w : World) (w0 : a0.size ≤ 140737488351232) (w1 : a1.size ≤ 140737488351232) (w2 : a2.size ≤ 140737488351232) (w3 : a3.size ≤ 140737488351232) (w4 : a4.size ≤ 140737488351232) :
  Calls Try.prog 11 #[.string a0, .string a1, .string a2, .string a3, .string a4] w fun e w' => e = .returned (.bool true) ∧ Below w.heap.size w w' := by
 obtain ⟨k, h⟩ := P a0 a1 a2 a3 a4 w0 w1 w2 w3 w4
 refine (clavigerlaw38_OpenBinds.calls k a0 a1 a2 a3 a4 true w h).mono ?_
 rintro e w' ⟨rfl, hd⟩
 exact ⟨rfl, hd⟩

end Go.Proofs.Ytokkhnjedmlbhaa.Pr
