-- written by the session's program wip/hp.py over the kit's print; Lean checks it
import Derived.Test.YtokkhnjedmlbhaaZPrg01x
import Derived.Test.YtokkhnjedmlbhaaZCmacP
import Derived.Test.YtokkhnjedmlbhaaZPrg38
namespace Go.Proofs.Ytokkhnjedmlbhaa.Pr
open Go.RowKit Go.Proofs.YtokkhnjedmlbhaaW.PrintWords Go.Proofs.YtokkhnjedmlbhaaW.PrintLast Go.Proofs.YtokkhnjedmlbhaaW.PrintMore
attribute [local go_sem] max2_int min2_int max_two min_two max_three min_three max_four min_four   -- for this text's walks alone
set_option linter.unusedVariables false
set_option linter.unusedSimpArgs false

mutual
def clavigerlaw38_OpenBack.j0 : Nat → ByteArray → ByteArray → ByteArray → ByteArray → ByteArray → Bool → Option (Bool)
 | 0, _, _, _, _, _, _ => none
 | k + 1, x0, x1, x2, x3, x4, x43 => if x43 = true then ((clavigerlaw38_awake.f k).bind fun t1 => (some t1)) else ((clavigerref37_Seal.f k x0 x1 x2).bind fun bt2 => (if bt2.2.2 = 0 then ((open_Open.f k x0 x1 bt2.1 bt2.2.1).bind fun bt3 => (if bt3.1.toList = x2.toList then (if bt3.2 = 0 then (clavigerlaw38_OpenBack.j1 k x0 x1 x3 x4) else (some false)) else (some false))) else (clavigerlaw38_OpenBack.j1 k x0 x1 x3 x4)))
def clavigerlaw38_OpenBack.j1 : Nat → ByteArray → ByteArray → ByteArray → ByteArray → Option (Bool)
 | 0, _, _, _, _ => none
 | k + 1, x0, x1, x3, x4 => (open_Open.f k x0 x1 x3 x4).bind fun bt4 => (if bt4.2 = 0 then ((clavigerref37_Seal.f k x0 x1 bt4.1).bind fun bt5 => (if bt5.1.toList = x3.toList then (if bt5.2.1.toList = x4.toList then (if bt5.2.2 = 0 then ((clavigerlaw38_awake.f k).bind fun t6 => (some t6)) else (some false)) else (some false)) else (some false))) else (if bt4.1.toList = ([] : List UInt8) then ((clavigerlaw38_awake.f k).bind fun t7 => (some t7)) else (some false)))
end
def clavigerlaw38_OpenBack.f (k : Nat) (a0 : ByteArray) (a1 : ByteArray) (a2 : ByteArray) (a3 : ByteArray) (a4 : ByteArray) : Option (Bool) := if (a0.size : Int) > 100 then (clavigerlaw38_OpenBack.j0 k a0 a1 a2 a3 a4 true) else (if (a1.size : Int) > 300 then (clavigerlaw38_OpenBack.j0 k a0 a1 a2 a3 a4 true) else (if (a2.size : Int) > 160 then (clavigerlaw38_OpenBack.j0 k a0 a1 a2 a3 a4 true) else (if (a3.size : Int) > 160 then (clavigerlaw38_OpenBack.j0 k a0 a1 a2 a3 a4 true) else (clavigerlaw38_OpenBack.j0 k a0 a1 a2 a3 a4 (decide ((a4.size : Int) > 100))))))
theorem clavigerlaw38_OpenBack.mono_l : ∀ k, (∀ y8 y9 y10 y11 y12 y13, LeO (clavigerlaw38_OpenBack.j0 k y8 y9 y10 y11 y12 y13) (clavigerlaw38_OpenBack.j0 (k + 1) y8 y9 y10 y11 y12 y13)) ∧ (∀ y8 y9 y10 y11, LeO (clavigerlaw38_OpenBack.j1 k y8 y9 y10 y11) (clavigerlaw38_OpenBack.j1 (k + 1) y8 y9 y10 y11))
 | 0 => ⟨fun _ _ _ _ _ _ r h => by simp [clavigerlaw38_OpenBack.j0] at h, fun _ _ _ _ r h => by simp [clavigerlaw38_OpenBack.j1] at h⟩
 | k + 1 => by
  obtain ⟨ih0, ih1⟩ := clavigerlaw38_OpenBack.mono_l k
  refine ⟨?_, ?_⟩
  ·intro y8 y9 y10 y11 y12 y13
   unfold clavigerlaw38_OpenBack.j0
   repeat' first
   | (with_reducible exact ih0 _ _ _ _ _ _)
   | (with_reducible exact ih1 _ _ _ _)
   | (with_reducible exact clavigerlaw38_awake.mono _)
   | (with_reducible exact clavigerref37_Seal.mono _ _ _ _)
   | (with_reducible exact open_Open.mono _ _ _ _ _)
   | (with_reducible exact LeO.refl _)
   | (with_reducible exact LeO.none _)
   | (with_reducible refine LeO.ite ?_ ?_)
   | (with_reducible refine LeO.bind ?_ (fun _ => ?_))
  ·intro y8 y9 y10 y11
   unfold clavigerlaw38_OpenBack.j1
   repeat' first
   | (with_reducible exact ih0 _ _ _ _ _ _)
   | (with_reducible exact ih1 _ _ _ _)
   | (with_reducible exact clavigerlaw38_awake.mono _)
   | (with_reducible exact clavigerref37_Seal.mono _ _ _ _)
   | (with_reducible exact open_Open.mono _ _ _ _ _)
   | (with_reducible exact LeO.refl _)
   | (with_reducible exact LeO.none _)
   | (with_reducible refine LeO.ite ?_ ?_)
   | (with_reducible refine LeO.bind ?_ (fun _ => ?_))
theorem clavigerlaw38_OpenBack.mono : ∀ a0 a1 a2 a3 a4 k, LeO (clavigerlaw38_OpenBack.f k a0 a1 a2 a3 a4) (clavigerlaw38_OpenBack.f (k + 1) a0 a1 a2 a3 a4) := by
 intro a0 a1 a2 a3 a4 k
 obtain ⟨ih0, ih1⟩ := clavigerlaw38_OpenBack.mono_l k
 unfold clavigerlaw38_OpenBack.f
 repeat' first
   | (with_reducible exact ih0 _ _ _ _ _ _)
   | (with_reducible exact ih1 _ _ _ _)
   | (with_reducible exact clavigerlaw38_awake.mono _)
   | (with_reducible exact clavigerref37_Seal.mono _ _ _ _)
   | (with_reducible exact open_Open.mono _ _ _ _ _)
   | (with_reducible exact LeO.refl _)
   | (with_reducible exact LeO.none _)
   | (with_reducible refine LeO.ite ?_ ?_)
   | (with_reducible refine LeO.bind ?_ (fun _ => ?_))
set_option maxHeartbeats 8000000 in
set_option maxRecDepth 100000 in
theorem clavigerlaw38_OpenBack.calls (k : Nat) (a0 : ByteArray) (a1 : ByteArray) (a2 : ByteArray) (a3 : ByteArray) (a4 : ByteArray) (r : Bool) (w : World) (h : clavigerlaw38_OpenBack.f k a0 a1 a2 a3 a4 = some r) :
  Calls Try.prog 8 #[.string a0, .string a1, .string a2, .string a3, .string a4] w fun e w' => e = .returned (.bool r) ∧ Below w.heap.size w w' := by
 have HB := Aside0.mk (Below.refl w.heap.size w)
 have H : (if (a0.size : Int) > 100 then (clavigerlaw38_OpenBack.j0 k a0 a1 a2 a3 a4 true) else (if (a1.size : Int) > 300 then (clavigerlaw38_OpenBack.j0 k a0 a1 a2 a3 a4 true) else (if (a2.size : Int) > 160 then (clavigerlaw38_OpenBack.j0 k a0 a1 a2 a3 a4 true) else (if (a3.size : Int) > 160 then (clavigerlaw38_OpenBack.j0 k a0 a1 a2 a3 a4 true) else (clavigerlaw38_OpenBack.j0 k a0 a1 a2 a3 a4 (decide ((a4.size : Int) > 100))))))) = some r := h
 clear h
 have HC6 := Aside0.mk H
 clear H
 go_enter Try.func8, Try.ntmps8
 go_upto_region 1 with (fail)
 go_cut [43] (fun v43 wc => ∃ (kq : Nat) (x43_5 : Bool), v43 = .bool x43_5 ∧ Aside0 (clavigerlaw38_OpenBack.j0 kq a0 a1 a2 a3 a4 x43_5 = some r) ∧ Aside0 (kq ≤ k) ∧ Aside0 (Below w.heap.size w wc))
 case first =>
  have H := HC6.out
  clear HC6
  by_cases c7 : (a0.size : Int) > 100
  ·rw [if_pos c7] at H
   have c7b0 : decide (100 < (a0.size : Int)) = true := decide_eq_true c7
   have c7b1 : decide (100 < a0.size) = true := decide_eq_true (by omega)
   clear c7
   (first | rw [c7b0] | (simp only [i64_w, i32_w]; rw [c7b0]) | skip)
   have H' := Aside0.mk H
   clear H
   go_wp2
   go_meet
   case rel => exact ⟨_, (true), (by first | rfl | (simp; done) | (simp [*]; done)), H', ⟨by first | omega | exact Nat.le_refl _⟩, ⟨by repeat first | with_reducible (first | exact HB.out | apply bA | apply bN | apply bD) | exact HB.out⟩⟩
  ·rw [if_neg c7] at H
   have c7b0 : decide (100 < (a0.size : Int)) = false := decide_eq_false c7
   have c7b1 : decide (100 < a0.size) = false := decide_eq_false (by omega)
   clear c7
   (first | rw [c7b0] | (simp only [i64_w, i32_w]; rw [c7b0]) | skip)
   by_cases c8 : (a1.size : Int) > 300
   ·rw [if_pos c8] at H
    have c8b0 : decide (300 < (a1.size : Int)) = true := decide_eq_true c8
    have c8b1 : decide (300 < a1.size) = true := decide_eq_true (by omega)
    clear c8
    have H' := Aside0.mk H
    clear H
    go_wp2
    go_meet
    case rel => exact ⟨_, (true), (by first | rfl | (simp; done) | (simp [*]; done)), H', ⟨by first | omega | exact Nat.le_refl _⟩, ⟨by repeat first | with_reducible (first | exact HB.out | apply bA | apply bN | apply bD) | exact HB.out⟩⟩
   ·rw [if_neg c8] at H
    have c8b0 : decide (300 < (a1.size : Int)) = false := decide_eq_false c8
    have c8b1 : decide (300 < a1.size) = false := decide_eq_false (by omega)
    clear c8
    by_cases c9 : (a2.size : Int) > 160
    ·rw [if_pos c9] at H
     have c9b0 : decide (160 < (a2.size : Int)) = true := decide_eq_true c9
     have c9b1 : decide (160 < a2.size) = true := decide_eq_true (by omega)
     clear c9
     have H' := Aside0.mk H
     clear H
     go_wp2
     go_meet
     case rel => exact ⟨_, (true), (by first | rfl | (simp; done) | (simp [*]; done)), H', ⟨by first | omega | exact Nat.le_refl _⟩, ⟨by repeat first | with_reducible (first | exact HB.out | apply bA | apply bN | apply bD) | exact HB.out⟩⟩
    ·rw [if_neg c9] at H
     have c9b0 : decide (160 < (a2.size : Int)) = false := decide_eq_false c9
     have c9b1 : decide (160 < a2.size) = false := decide_eq_false (by omega)
     clear c9
     by_cases c10 : (a3.size : Int) > 160
     ·rw [if_pos c10] at H
      have c10b0 : decide (160 < (a3.size : Int)) = true := decide_eq_true c10
      have c10b1 : decide (160 < a3.size) = true := decide_eq_true (by omega)
      clear c10
      have H' := Aside0.mk H
      clear H
      go_wp2
      go_meet
      case rel => exact ⟨_, (true), (by first | rfl | (simp; done) | (simp [*]; done)), H', ⟨by first | omega | exact Nat.le_refl _⟩, ⟨by repeat first | with_reducible (first | exact HB.out | apply bA | apply bN | apply bD) | exact HB.out⟩⟩
     ·rw [if_neg c10] at H
      have c10b0 : decide (160 < (a3.size : Int)) = false := decide_eq_false c10
      have c10b1 : decide (160 < a3.size) = false := decide_eq_false (by omega)
      clear c10
      have H' := Aside0.mk H
      clear H
      go_wp2
      go_meet
      case rel => exact ⟨_, (decide ((a4.size : Int) > 100)), (by first | rfl | (simp; done) | (simp [*]; done)), H', ⟨by first | omega | exact Nat.le_refl _⟩, ⟨by repeat first | with_reducible (first | exact HB.out | apply bA | apply bN | apply bD) | exact HB.out⟩⟩
 case rest =>
  clear HC6
  try clear c1
  try clear p2
  try clear c7
  try clear c7b0
  try clear c7b1
  try clear c8
  try clear c8b0
  try clear c8b1
  try clear c9
  try clear c9b0
  try clear c9b1
  try clear c10
  try clear c10b0
  try clear c10b1
  obtain ⟨kq, x43_5, rfl, HA, HJ5, HB⟩ := hcut
  cases kq with
  | zero => exact absurd HA.out (by simp [clavigerlaw38_OpenBack.j0])
  | succ kj5 =>
   have H := HA.out
   clear HA
   simp only [clavigerlaw38_OpenBack.j0] at H
   by_cases c11 : x43_5 = true
   ·subst c11
    have H1 : ((clavigerlaw38_awake.f kj5).bind fun t1 => (some t1)) = some r := by rw [if_pos rfl] at H; exact H
    clear H
    have H := H1
    clear H1
    replace H := Option.bind_eq_some_iff.mp H
    obtain ⟨t1, A120, H⟩ := H
    replace H : (some t1) = some r := H
    have A12 := Aside0.mk A120
    clear A120
    obtain rfl := Option.some.inj H
    go_wp2_with (first | ((with_reducible refine gate_callee (f := 59) rfl ?_); refine goesL_ (some 44) rfl rfl Try.func59 (by kernel_rfl) rfl #[] rfl (by (try simp only [lT, lC, lN]); first | done | rfl) ?_; (with_reducible refine (clavigerlaw38_awake.calls kj5  t1 _ A12.out).mono ?_); rintro e w13 ⟨rfl, hb⟩; refine ⟨_, rfl, ?_⟩; have n0_ := Aside0.mk (below_step (by repeat first | with_reducible (first | exact HB.out | apply bA | apply bN | apply bD) | exact HB.out) hb); clear HB; have HB := n0_; clear n0_; (try clear hb); (try clear hb2); (try clear hk); (try clear hi)))
    go_ret
    exact ⟨by first | rfl | (simp [*, errW_none, errW_some] <;> rfl), by repeat first | with_reducible (first | exact HB.out | apply bA | apply bN | apply bD) | exact HB.out⟩
   ·replace c11 := Bool.eq_false_iff.mpr c11
    subst c11
    have H1 : ((clavigerref37_Seal.f kj5 a0 a1 a2).bind fun bt2 => (if bt2.2.2 = 0 then ((open_Open.f kj5 a0 a1 bt2.1 bt2.2.1).bind fun bt3 => (if bt3.1.toList = a2.toList then (if bt3.2 = 0 then (clavigerlaw38_OpenBack.j1 kj5 a0 a1 a3 a4) else (some false)) else (some false))) else (clavigerlaw38_OpenBack.j1 kj5 a0 a1 a3 a4))) = some r := by rw [if_neg (show ¬ (false = true) by decide)] at H; exact H
    clear H
    have H := H1
    clear H1
    replace H := Option.bind_eq_some_iff.mp H
    obtain ⟨⟨t2, t14, t15⟩, A140, H⟩ := H
    try dsimp only at H
    have A14 := Aside0.mk A140
    clear A140
    have HC15 := Aside0.mk H
    clear H
    go_upto_if 54 with (first | ((with_reducible refine gate_callee (f := 60) rfl ?_); refine goesL_ (some 49) rfl rfl Try.func60 (by kernel_rfl) rfl #[.string a0, .string a1, .string a2] rfl (by (try simp only [lT, lC, lN]); first | done | rfl) ?_; (with_reducible refine (clavigerref37_Seal.calls kj5 a0 a1 a2 t2 t14 t15 _ A14.out).mono ?_); rintro e w16 ⟨rfl, hb⟩; refine ⟨_, rfl, ?_⟩; have n0_ := Aside0.mk (below_step (by repeat first | with_reducible (first | exact HB.out | apply bA | apply bN | apply bD) | exact HB.out) hb); clear HB; have HB := n0_; clear n0_; (try clear hb); (try clear hb2); (try clear hk); (try clear hi)))
    (try simp only [Act.put, List.setIfInBounds_toArray, List.set_cons_zero, List.set_cons_succ])
    go_cut [] (fun wc => ∃ (kq : Nat), Aside0 (clavigerlaw38_OpenBack.j1 kq a0 a1 a3 a4 = some r) ∧ Aside0 (kq ≤ kj5) ∧ Aside0 (Below w.heap.size w wc))
    case first =>
     have H := HC15.out
     clear HC15
     by_cases c17 : t15 = 0
     ·rw [if_pos c17] at H
      have c17b0 : (t15 == 0) = true := beq_iff_eq.mpr c17
      have c17b1 : (t15 != 0) = false := bne_eq_false_iff_eq.mpr c17
      clear c17
      (first | rw [c17b0] | (simp only [i64_w, i32_w]; rw [c17b0]) | skip)
      replace H := Option.bind_eq_some_iff.mp H
      obtain ⟨⟨t3, t16⟩, A180, H⟩ := H
      try dsimp only at H
      have A18 := Aside0.mk A180
      clear A180
      by_cases c19 : t3.toList = a2.toList
      ·rw [if_pos c19] at H
       have c19b0 : (t3.toList == a2.toList) = true := beq_iff_eq.mpr c19
       have c19b1 : (t3.toList != a2.toList) = false := bne_eq_false_iff_eq.mpr c19
       clear c19
       by_cases c20 : t16 = 0
       ·rw [if_pos c20] at H
        have c20b0 : (t16 == 0) = true := beq_iff_eq.mpr c20
        have c20b1 : (t16 != 0) = false := bne_eq_false_iff_eq.mpr c20
        clear c20
        have H' := Aside0.mk H
        clear H
        go_wp2_with (first | ((with_reducible refine gate_callee (f := 61) rfl ?_); refine goesL_ (some 60) rfl rfl Try.func61 (by kernel_rfl) rfl #[.string a0, .string a1, .string t2, .string t14] rfl (by (try simp only [lT, lC, lN]); first | done | rfl) ?_; (with_reducible refine (open_Open.calls kj5 a0 a1 t2 t14 t3 t16 _ A18.out).mono ?_); rintro e w21 ⟨rfl, hb⟩; refine ⟨_, rfl, ?_⟩; have n0_ := Aside0.mk (below_step (by repeat first | with_reducible (first | exact HB.out | apply bA | apply bN | apply bD) | exact HB.out) hb); clear HB; have HB := n0_; clear n0_; (try clear hb); (try clear hb2); (try clear hk); (try clear hi)))
        go_meet
        case rel => exact ⟨_, H', ⟨by have := HJ5.out; first | omega | exact Nat.le_refl _⟩, ⟨by repeat first | with_reducible (first | exact HB.out | apply bA | apply bN | apply bD) | exact HB.out⟩⟩
       ·rw [if_neg c20] at H
        have c20b0 : (t16 == 0) = false := beq_eq_false_iff_ne.mpr c20
        have c20b1 : (t16 != 0) = true := bne_iff_ne.mpr c20
        obtain rfl := Option.some.inj H
        go_wp2_with (first | ((with_reducible refine gate_callee (f := 61) rfl ?_); refine goesL_ (some 60) rfl rfl Try.func61 (by kernel_rfl) rfl #[.string a0, .string a1, .string t2, .string t14] rfl (by (try simp only [lT, lC, lN]); first | done | rfl) ?_; (with_reducible refine (open_Open.calls kj5 a0 a1 t2 t14 t3 t16 _ A18.out).mono ?_); rintro e w22 ⟨rfl, hb⟩; refine ⟨_, rfl, ?_⟩; have n0_ := Aside0.mk (below_step (by repeat first | with_reducible (first | exact HB.out | apply bA | apply bN | apply bD) | exact HB.out) hb); clear HB; have HB := n0_; clear n0_; (try clear hb); (try clear hb2); (try clear hk); (try clear hi)))
        go_ret
        exact ⟨by first | rfl | (simp [*, errW_none, errW_some] <;> rfl), by repeat first | with_reducible (first | exact HB.out | apply bA | apply bN | apply bD) | exact HB.out⟩
      ·rw [if_neg c19] at H
       have c19b0 : (t3.toList == a2.toList) = false := beq_eq_false_iff_ne.mpr c19
       have c19b1 : (t3.toList != a2.toList) = true := bne_iff_ne.mpr c19
       obtain rfl := Option.some.inj H
       go_wp2_with (first | ((with_reducible refine gate_callee (f := 61) rfl ?_); refine goesL_ (some 60) rfl rfl Try.func61 (by kernel_rfl) rfl #[.string a0, .string a1, .string t2, .string t14] rfl (by (try simp only [lT, lC, lN]); first | done | rfl) ?_; (with_reducible refine (open_Open.calls kj5 a0 a1 t2 t14 t3 t16 _ A18.out).mono ?_); rintro e w23 ⟨rfl, hb⟩; refine ⟨_, rfl, ?_⟩; have n0_ := Aside0.mk (below_step (by repeat first | with_reducible (first | exact HB.out | apply bA | apply bN | apply bD) | exact HB.out) hb); clear HB; have HB := n0_; clear n0_; (try clear hb); (try clear hb2); (try clear hk); (try clear hi)))
       go_ret
       exact ⟨by first | rfl | (simp [*, errW_none, errW_some] <;> rfl), by repeat first | with_reducible (first | exact HB.out | apply bA | apply bN | apply bD) | exact HB.out⟩
     ·rw [if_neg c17] at H
      have c17b0 : (t15 == 0) = false := beq_eq_false_iff_ne.mpr c17
      have c17b1 : (t15 != 0) = true := bne_iff_ne.mpr c17
      (first | rw [c17b0] | (simp only [i64_w, i32_w]; rw [c17b0]) | skip)
      have H' := Aside0.mk H
      clear H
      go_wp2
      go_meet
      case rel => exact ⟨_, H', ⟨by have := HJ5.out; first | omega | exact Nat.le_refl _⟩, ⟨by repeat first | with_reducible (first | exact HB.out | apply bA | apply bN | apply bD) | exact HB.out⟩⟩
    case rest =>
     clear HC15
     try clear c1
     try clear c2
     try clear p2
     try clear c5
     try clear c6
     try clear c7
     try clear c7b0
     try clear c7b1
     try clear c8
     try clear c8b0
     try clear c8b1
     try clear c9
     try clear c9b0
     try clear c9b1
     try clear c10
     try clear c10b0
     try clear c10b1
     try clear c11
     try clear c17
     try clear c17b0
     try clear c17b1
     try clear c19
     try clear c19b0
     try clear c19b1
     try clear c20
     try clear c20b0
     try clear c20b1
     try clear p2
     obtain ⟨kq, HA, HJ14, HB⟩ := hcut
     cases kq with
     | zero => exact absurd HA.out (by simp [clavigerlaw38_OpenBack.j1])
     | succ kj14 =>
      have H := HA.out
      clear HA
      simp only [clavigerlaw38_OpenBack.j1] at H
      replace H := Option.bind_eq_some_iff.mp H
      obtain ⟨⟨t4, t17⟩, A240, H⟩ := H
      try dsimp only at H
      have A24 := Aside0.mk A240
      clear A240
      by_cases c25 : t17 = 0
      ·rw [if_pos c25] at H
       have c25b0 : (t17 == 0) = true := beq_iff_eq.mpr c25
       have c25b1 : (t17 != 0) = false := bne_eq_false_iff_eq.mpr c25
       clear c25
       replace H := Option.bind_eq_some_iff.mp H
       obtain ⟨⟨t5, t18, t19⟩, A260, H⟩ := H
       try dsimp only at H
       have A26 := Aside0.mk A260
       clear A260
       by_cases c27 : t5.toList = a3.toList
       ·rw [if_pos c27] at H
        have c27b0 : (t5.toList == a3.toList) = true := beq_iff_eq.mpr c27
        have c27b1 : (t5.toList != a3.toList) = false := bne_eq_false_iff_eq.mpr c27
        clear c27
        by_cases c28 : t18.toList = a4.toList
        ·rw [if_pos c28] at H
         have c28b0 : (t18.toList == a4.toList) = true := beq_iff_eq.mpr c28
         have c28b1 : (t18.toList != a4.toList) = false := bne_eq_false_iff_eq.mpr c28
         clear c28
         by_cases c29 : t19 = 0
         ·rw [if_pos c29] at H
          have c29b0 : (t19 == 0) = true := beq_iff_eq.mpr c29
          have c29b1 : (t19 != 0) = false := bne_eq_false_iff_eq.mpr c29
          clear c29
          replace H := Option.bind_eq_some_iff.mp H
          obtain ⟨t6, A300, H⟩ := H
          replace H : (some t6) = some r := H
          have A30 := Aside0.mk A300
          clear A300
          obtain rfl := Option.some.inj H
          go_wp2_with (first | ((with_reducible refine gate_callee (f := 61) rfl ?_); refine goesL_ (some 75) rfl rfl Try.func61 (by kernel_rfl) rfl #[.string a0, .string a1, .string a3, .string a4] rfl (by (try simp only [lT, lC, lN]); first | done | rfl) ?_; (with_reducible refine (open_Open.calls kj14 a0 a1 a3 a4 t4 t17 _ A24.out).mono ?_); rintro e w31 ⟨rfl, hb⟩; refine ⟨_, rfl, ?_⟩; have n0_ := Aside0.mk (below_step (by repeat first | with_reducible (first | exact HB.out | apply bA | apply bN | apply bD) | exact HB.out) hb); clear HB; have HB := n0_; clear n0_; (try clear hb); (try clear hb2); (try clear hk); (try clear hi)) | ((with_reducible refine gate_callee (f := 60) rfl ?_); refine goesL_ (some 89) rfl rfl Try.func60 (by kernel_rfl) rfl #[.string a0, .string a1, .string t4] rfl (by (try simp only [lT, lC, lN]); first | done | rfl) ?_; (with_reducible refine (clavigerref37_Seal.calls kj14 a0 a1 t4 t5 t18 t19 _ A26.out).mono ?_); rintro e w32 ⟨rfl, hb⟩; refine ⟨_, rfl, ?_⟩; have n0_ := Aside0.mk (below_step (by repeat first | with_reducible (first | exact HB.out | apply bA | apply bN | apply bD) | exact HB.out) hb); clear HB; have HB := n0_; clear n0_; (try clear hb); (try clear hb2); (try clear hk); (try clear hi)) | (go_at_call 59; (with_reducible refine (clavigerlaw38_awake.calls kj14  t6 _ A30.out).mono ?_); rintro e w33 ⟨rfl, hb⟩; have n0_ := Aside0.mk (below_step (by repeat first | with_reducible (first | exact HB.out | apply bA | apply bN | apply bD) | exact HB.out) hb); clear HB; have HB := n0_; clear n0_; (try clear hb); (try clear hb2); (try clear hk); (try clear hi)))
          go_ret
          exact ⟨by first | rfl | (simp [*, errW_none, errW_some] <;> rfl), by repeat first | with_reducible (first | exact HB.out | apply bA | apply bN | apply bD) | exact HB.out⟩
         ·rw [if_neg c29] at H
          have c29b0 : (t19 == 0) = false := beq_eq_false_iff_ne.mpr c29
          have c29b1 : (t19 != 0) = true := bne_iff_ne.mpr c29
          obtain rfl := Option.some.inj H
          go_wp2_with (first | ((with_reducible refine gate_callee (f := 61) rfl ?_); refine goesL_ (some 75) rfl rfl Try.func61 (by kernel_rfl) rfl #[.string a0, .string a1, .string a3, .string a4] rfl (by (try simp only [lT, lC, lN]); first | done | rfl) ?_; (with_reducible refine (open_Open.calls kj14 a0 a1 a3 a4 t4 t17 _ A24.out).mono ?_); rintro e w34 ⟨rfl, hb⟩; refine ⟨_, rfl, ?_⟩; have n0_ := Aside0.mk (below_step (by repeat first | with_reducible (first | exact HB.out | apply bA | apply bN | apply bD) | exact HB.out) hb); clear HB; have HB := n0_; clear n0_; (try clear hb); (try clear hb2); (try clear hk); (try clear hi)) | ((with_reducible refine gate_callee (f := 60) rfl ?_); refine goesL_ (some 89) rfl rfl Try.func60 (by kernel_rfl) rfl #[.string a0, .string a1, .string t4] rfl (by (try simp only [lT, lC, lN]); first | done | rfl) ?_; (with_reducible refine (clavigerref37_Seal.calls kj14 a0 a1 t4 t5 t18 t19 _ A26.out).mono ?_); rintro e w35 ⟨rfl, hb⟩; refine ⟨_, rfl, ?_⟩; have n0_ := Aside0.mk (below_step (by repeat first | with_reducible (first | exact HB.out | apply bA | apply bN | apply bD) | exact HB.out) hb); clear HB; have HB := n0_; clear n0_; (try clear hb); (try clear hb2); (try clear hk); (try clear hi)))
          go_ret
          exact ⟨by first | rfl | (simp [*, errW_none, errW_some] <;> rfl), by repeat first | with_reducible (first | exact HB.out | apply bA | apply bN | apply bD) | exact HB.out⟩
        ·rw [if_neg c28] at H
         have c28b0 : (t18.toList == a4.toList) = false := beq_eq_false_iff_ne.mpr c28
         have c28b1 : (t18.toList != a4.toList) = true := bne_iff_ne.mpr c28
         obtain rfl := Option.some.inj H
         go_wp2_with (first | ((with_reducible refine gate_callee (f := 61) rfl ?_); refine goesL_ (some 75) rfl rfl Try.func61 (by kernel_rfl) rfl #[.string a0, .string a1, .string a3, .string a4] rfl (by (try simp only [lT, lC, lN]); first | done | rfl) ?_; (with_reducible refine (open_Open.calls kj14 a0 a1 a3 a4 t4 t17 _ A24.out).mono ?_); rintro e w36 ⟨rfl, hb⟩; refine ⟨_, rfl, ?_⟩; have n0_ := Aside0.mk (below_step (by repeat first | with_reducible (first | exact HB.out | apply bA | apply bN | apply bD) | exact HB.out) hb); clear HB; have HB := n0_; clear n0_; (try clear hb); (try clear hb2); (try clear hk); (try clear hi)) | ((with_reducible refine gate_callee (f := 60) rfl ?_); refine goesL_ (some 89) rfl rfl Try.func60 (by kernel_rfl) rfl #[.string a0, .string a1, .string t4] rfl (by (try simp only [lT, lC, lN]); first | done | rfl) ?_; (with_reducible refine (clavigerref37_Seal.calls kj14 a0 a1 t4 t5 t18 t19 _ A26.out).mono ?_); rintro e w37 ⟨rfl, hb⟩; refine ⟨_, rfl, ?_⟩; have n0_ := Aside0.mk (below_step (by repeat first | with_reducible (first | exact HB.out | apply bA | apply bN | apply bD) | exact HB.out) hb); clear HB; have HB := n0_; clear n0_; (try clear hb); (try clear hb2); (try clear hk); (try clear hi)))
         go_ret
         exact ⟨by first | rfl | (simp [*, errW_none, errW_some] <;> rfl), by repeat first | with_reducible (first | exact HB.out | apply bA | apply bN | apply bD) | exact HB.out⟩
       ·rw [if_neg c27] at H
        have c27b0 : (t5.toList == a3.toList) = false := beq_eq_false_iff_ne.mpr c27
        have c27b1 : (t5.toList != a3.toList) = true := bne_iff_ne.mpr c27
        obtain rfl := Option.some.inj H
        go_wp2_with (first | ((with_reducible refine gate_callee (f := 61) rfl ?_); refine goesL_ (some 75) rfl rfl Try.func61 (by kernel_rfl) rfl #[.string a0, .string a1, .string a3, .string a4] rfl (by (try simp only [lT, lC, lN]); first | done | rfl) ?_; (with_reducible refine (open_Open.calls kj14 a0 a1 a3 a4 t4 t17 _ A24.out).mono ?_); rintro e w38 ⟨rfl, hb⟩; refine ⟨_, rfl, ?_⟩; have n0_ := Aside0.mk (below_step (by repeat first | with_reducible (first | exact HB.out | apply bA | apply bN | apply bD) | exact HB.out) hb); clear HB; have HB := n0_; clear n0_; (try clear hb); (try clear hb2); (try clear hk); (try clear hi)) | ((with_reducible refine gate_callee (f := 60) rfl ?_); refine goesL_ (some 89) rfl rfl Try.func60 (by kernel_rfl) rfl #[.string a0, .string a1, .string t4] rfl (by (try simp only [lT, lC, lN]); first | done | rfl) ?_; (with_reducible refine (clavigerref37_Seal.calls kj14 a0 a1 t4 t5 t18 t19 _ A26.out).mono ?_); rintro e w39 ⟨rfl, hb⟩; refine ⟨_, rfl, ?_⟩; have n0_ := Aside0.mk (below_step (by repeat first | with_reducible (first | exact HB.out | apply bA | apply bN | apply bD) | exact HB.out) hb); clear HB; have HB := n0_; clear n0_; (try clear hb); (try clear hb2); (try clear hk); (try clear hi)))
        go_ret
        exact ⟨by first | rfl | (simp [*, errW_none, errW_some] <;> rfl), by repeat first | with_reducible (first | exact HB.out | apply bA | apply bN | apply bD) | exact HB.out⟩
      ·rw [if_neg c25] at H
       have c25b0 : (t17 == 0) = false := beq_eq_false_iff_ne.mpr c25
       have c25b1 : (t17 != 0) = true := bne_iff_ne.mpr c25
       by_cases c40 : t4.toList = ([] : List UInt8)
       ·rw [if_pos c40] at H
        have c40b0 : (t4.toList == ([] : List UInt8)) = true := beq_iff_eq.mpr c40
        have c40b1 : (t4.toList != ([] : List UInt8)) = false := bne_eq_false_iff_eq.mpr c40
        clear c40
        replace H := Option.bind_eq_some_iff.mp H
        obtain ⟨t7, A410, H⟩ := H
        replace H : (some t7) = some r := H
        have A41 := Aside0.mk A410
        clear A410
        obtain rfl := Option.some.inj H
        go_wp2_with (first | ((with_reducible refine gate_callee (f := 61) rfl ?_); refine goesL_ (some 75) rfl rfl Try.func61 (by kernel_rfl) rfl #[.string a0, .string a1, .string a3, .string a4] rfl (by (try simp only [lT, lC, lN]); first | done | rfl) ?_; (with_reducible refine (open_Open.calls kj14 a0 a1 a3 a4 t4 t17 _ A24.out).mono ?_); rintro e w42 ⟨rfl, hb⟩; refine ⟨_, rfl, ?_⟩; have n0_ := Aside0.mk (below_step (by repeat first | with_reducible (first | exact HB.out | apply bA | apply bN | apply bD) | exact HB.out) hb); clear HB; have HB := n0_; clear n0_; (try clear hb); (try clear hb2); (try clear hk); (try clear hi)) | (go_at_call 59; (with_reducible refine (clavigerlaw38_awake.calls kj14  t7 _ A41.out).mono ?_); rintro e w43 ⟨rfl, hb⟩; have n0_ := Aside0.mk (below_step (by repeat first | with_reducible (first | exact HB.out | apply bA | apply bN | apply bD) | exact HB.out) hb); clear HB; have HB := n0_; clear n0_; (try clear hb); (try clear hb2); (try clear hk); (try clear hi)))
        go_ret
        exact ⟨by first | rfl | (simp [*, errW_none, errW_some] <;> rfl), by repeat first | with_reducible (first | exact HB.out | apply bA | apply bN | apply bD) | exact HB.out⟩
       ·rw [if_neg c40] at H
        have c40b0 : (t4.toList == ([] : List UInt8)) = false := beq_eq_false_iff_ne.mpr c40
        have c40b1 : (t4.toList != ([] : List UInt8)) = true := bne_iff_ne.mpr c40
        obtain rfl := Option.some.inj H
        go_wp2_with (first | ((with_reducible refine gate_callee (f := 61) rfl ?_); refine goesL_ (some 75) rfl rfl Try.func61 (by kernel_rfl) rfl #[.string a0, .string a1, .string a3, .string a4] rfl (by (try simp only [lT, lC, lN]); first | done | rfl) ?_; (with_reducible refine (open_Open.calls kj14 a0 a1 a3 a4 t4 t17 _ A24.out).mono ?_); rintro e w44 ⟨rfl, hb⟩; refine ⟨_, rfl, ?_⟩; have n0_ := Aside0.mk (below_step (by repeat first | with_reducible (first | exact HB.out | apply bA | apply bN | apply bD) | exact HB.out) hb); clear HB; have HB := n0_; clear n0_; (try clear hb); (try clear hb2); (try clear hk); (try clear hi)))
        go_ret
        exact ⟨by first | rfl | (simp [*, errW_none, errW_some] <;> rfl), by repeat first | with_reducible (first | exact HB.out | apply bA | apply bN | apply bD) | exact HB.out⟩

/-- THE ONE PURE STATEMENT of clavigerlaw38_OpenBack: yours. -/
def clavigerlaw38_OpenBack.Pure : Prop := ∀ (a0 : ByteArray) (a1 : ByteArray) (a2 : ByteArray) (a3 : ByteArray) (a4 : ByteArray), a0.size ≤ 140737488351232 → a1.size ≤ 140737488351232 → a2.size ≤ 140737488351232 → a3.size ≤ 140737488351232 → a4.size ≤ 140737488351232 → ∃ k, clavigerlaw38_OpenBack.f k a0 a1 a2 a3 a4 = some true
theorem clavigerlaw38_OpenBack.walk (P : clavigerlaw38_OpenBack.Pure) (a0 : ByteArray) (a1 : ByteArray) (a2 : ByteArray) (a3 : ByteArray) (a4 : ByteArray) (w : World) (w0 : a0.size ≤ 140737488351232) (w1 : a1.size ≤ 140737488351232) (w2 : a2.size ≤ 140737488351232) (w3 : a3.size ≤ 140737488351232) (w4 : a4.size ≤ 140737488351232) :
  Calls Try.prog 8 #[.string a0, .string a1, .string a2, .string a3, .string a4] w fun e w' => e = .returned (.bool true) ∧ Below w.heap.size w w' := by
 obtain ⟨k, h⟩ := P a0 a1 a2 a3 a4 w0 w1 w2 w3 w4
 refine (clavigerlaw38_OpenBack.calls k a0 a1 a2 a3 a4 true w h).mono ?_
 rintro e w' ⟨rfl, hd⟩
 exact ⟨rfl, hd⟩

end Go.Proofs.Ytokkhnjedmlbhaa.Pr
