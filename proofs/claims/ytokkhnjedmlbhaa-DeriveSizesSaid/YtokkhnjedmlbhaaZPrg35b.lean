-- several texts in one (by the session's program shake.py)
import Derived.Test.YtokkhnjedmlbhaaZPrg05
import Derived.Test.YtokkhnjedmlbhaaZPrg08
import Derived.Test.YtokkhnjedmlbhaaZPrg01
import Derived.Test.YtokkhnjedmlbhaaZPrg12
import Derived.Test.YtokkhnjedmlbhaaZRowC
import Derived.Deep.RegionLaw
import Derived.Deep.DeepCutAuto
section
namespace Go.Proofs.Ytokkhnjedmlbhaa.Pr
open Go.RowKit Go.Proofs.YtokkhnjedmlbhaaW.PrintWords Go.Proofs.YtokkhnjedmlbhaaW.PrintLast Go.Proofs.YtokkhnjedmlbhaaW.PrintMore
attribute [local go_sem] max2_int min2_int max_two min_two max_three min_three max_four min_four   -- for this text's walks alone
set_option linter.unusedVariables false
set_option linter.unusedSimpArgs false

def clavigerref35_Input.j0 : Nat → Int → Int → Bool → Option (ByteArray)
 | 0, _, _, _ => none
 | k + 1, x0, x1, x22 => if x22 = true then (some (⟨#[]⟩ : ByteArray)) else ((clavigerref01_Put.f k (IntKind.u64.wrap (x0)) 2).bind fun t1 => (if t1.size + 1 ≤ 9223372036854775807 then ((clavigerref01_Put.f k (IntKind.u64.wrap (wrap64 (Int.tdiv x1 8))) 2).bind fun t2 => (if (t1 ++ (⟨#[0]⟩ : ByteArray)).size + t2.size ≤ 9223372036854775807 then ((clavigerref01_Put.f k (IntKind.u64.wrap (wrap64 (8 * x1))) 2).bind fun t3 => (if ((t1 ++ (⟨#[0]⟩ : ByteArray)) ++ t2).size + t3.size ≤ 9223372036854775807 then (some (((t1 ++ (⟨#[0]⟩ : ByteArray)) ++ t2) ++ t3)) else (none))) else (none))) else (none)))
def clavigerref35_Input.f (k : Nat) (a0 : Int) (a1 : Int) : Option (ByteArray) := if a0 < 0 then (clavigerref35_Input.j0 k a0 a1 true) else (if a0 > 1 then (clavigerref35_Input.j0 k a0 a1 true) else (if a1 = 16 then (clavigerref35_Input.j0 k a0 a1 false) else (if a1 = 24 then (clavigerref35_Input.j0 k a0 a1 false) else (clavigerref35_Input.j0 k a0 a1 (a1 != 32)))))
theorem clavigerref35_Input.mono_l : ∀ k, (∀ y4 y5 y6, LeO (clavigerref35_Input.j0 k y4 y5 y6) (clavigerref35_Input.j0 (k + 1) y4 y5 y6))
 | 0 => fun _ _ _ r h => by simp [clavigerref35_Input.j0] at h
 | k + 1 => by
  have ih0 := clavigerref35_Input.mono_l k
  ·intro y4 y5 y6
   unfold clavigerref35_Input.j0
   repeat' first
   | (with_reducible exact ih0 _ _ _)
   | (with_reducible exact clavigerref01_Put.mono _ _ _)
   | (with_reducible exact LeO.refl _)
   | (with_reducible exact LeO.none _)
   | (with_reducible refine LeO.ite ?_ ?_)
   | (with_reducible refine LeO.bind ?_ (fun _ => ?_))
theorem clavigerref35_Input.mono : ∀ a0 a1 k, LeO (clavigerref35_Input.f k a0 a1) (clavigerref35_Input.f (k + 1) a0 a1) := by
 intro a0 a1 k
 have ih0 := clavigerref35_Input.mono_l k
 unfold clavigerref35_Input.f
 repeat' first
   | (with_reducible exact ih0 _ _ _)
   | (with_reducible exact clavigerref01_Put.mono _ _ _)
   | (with_reducible exact LeO.refl _)
   | (with_reducible exact LeO.none _)
   | (with_reducible refine LeO.ite ?_ ?_)
   | (with_reducible refine LeO.bind ?_ (fun _ => ?_))
set_option maxHeartbeats 8000000 in
set_option maxRecDepth 100000 in
theorem clavigerref35_Input.calls (k : Nat) (a0 : Int) (a1 : Int) (r : ByteArray) (w : World) (h : clavigerref35_Input.f k a0 a1 = some r) :
  Calls Try.prog 135 #[.int .i64 a0, .int .i64 a1] w fun e w' => e = .returned (.string r) ∧ Below w.heap.size w w' := by
 have HB := Aside0.mk (Below.refl w.heap.size w)
 have H : (if a0 < 0 then (clavigerref35_Input.j0 k a0 a1 true) else (if a0 > 1 then (clavigerref35_Input.j0 k a0 a1 true) else (if a1 = 16 then (clavigerref35_Input.j0 k a0 a1 false) else (if a1 = 24 then (clavigerref35_Input.j0 k a0 a1 false) else (clavigerref35_Input.j0 k a0 a1 (a1 != 32)))))) = some r := h
 clear h
 have HC3 := Aside0.mk H
 clear H
 go_enter Try.func135, Try.ntmps135
 go_upto_region 1 with (fail)
 go_cut [22] (fun v22 wc => ∃ (kq : Nat) (x22_2 : Bool), v22 = .bool x22_2 ∧ Aside0 (clavigerref35_Input.j0 kq a0 a1 x22_2 = some r) ∧ Aside0 (kq ≤ k) ∧ Aside0 (Below w.heap.size w wc))
 case first =>
  have H := HC3.out
  clear HC3
  by_cases c4 : a0 < 0
  ·rw [if_pos c4] at H
   have c4b0 : decide (a0 < 0) = true := decide_eq_true c4
   clear c4
   (first | rw [c4b0] | (simp only [i64_w, i32_w]; rw [c4b0]) | skip)
   have H' := Aside0.mk H
   clear H
   go_wp2
   go_meet
   case rel => exact ⟨_, (true), (by first | rfl | (simp; done) | (simp [*]; done)), H', ⟨by first | omega | exact Nat.le_refl _⟩, ⟨by repeat first | with_reducible (first | exact HB.out | apply bA | apply bN | apply bD) | exact HB.out⟩⟩
  ·rw [if_neg c4] at H
   have c4b0 : decide (a0 < 0) = false := decide_eq_false c4
   clear c4
   (first | rw [c4b0] | (simp only [i64_w, i32_w]; rw [c4b0]) | skip)
   by_cases c5 : a0 > 1
   ·rw [if_pos c5] at H
    have c5b0 : decide (1 < a0) = true := decide_eq_true c5
    clear c5
    have H' := Aside0.mk H
    clear H
    go_wp2
    go_meet
    case rel => exact ⟨_, (true), (by first | rfl | (simp; done) | (simp [*]; done)), H', ⟨by first | omega | exact Nat.le_refl _⟩, ⟨by repeat first | with_reducible (first | exact HB.out | apply bA | apply bN | apply bD) | exact HB.out⟩⟩
   ·rw [if_neg c5] at H
    have c5b0 : decide (1 < a0) = false := decide_eq_false c5
    clear c5
    by_cases c6 : a1 = 16
    ·rw [if_pos c6] at H
     have c6b0 : (a1 == 16) = true := beq_iff_eq.mpr c6
     have c6b1 : (a1 != 16) = false := bne_eq_false_iff_eq.mpr c6
     clear c6
     have H' := Aside0.mk H
     clear H
     go_wp2
     go_meet
     case rel => exact ⟨_, (false), (by first | rfl | (simp; done) | (simp [*]; done)), H', ⟨by first | omega | exact Nat.le_refl _⟩, ⟨by repeat first | with_reducible (first | exact HB.out | apply bA | apply bN | apply bD) | exact HB.out⟩⟩
    ·rw [if_neg c6] at H
     have c6b0 : (a1 == 16) = false := beq_eq_false_iff_ne.mpr c6
     have c6b1 : (a1 != 16) = true := bne_iff_ne.mpr c6
     by_cases c7 : a1 = 24
     ·rw [if_pos c7] at H
      have c7b0 : (a1 == 24) = true := beq_iff_eq.mpr c7
      have c7b1 : (a1 != 24) = false := bne_eq_false_iff_eq.mpr c7
      clear c7
      have H' := Aside0.mk H
      clear H
      go_wp2
      go_meet
      case rel => exact ⟨_, (false), (by first | rfl | (simp; done) | (simp [*]; done)), H', ⟨by first | omega | exact Nat.le_refl _⟩, ⟨by repeat first | with_reducible (first | exact HB.out | apply bA | apply bN | apply bD) | exact HB.out⟩⟩
     ·rw [if_neg c7] at H
      have c7b0 : (a1 == 24) = false := beq_eq_false_iff_ne.mpr c7
      have c7b1 : (a1 != 24) = true := bne_iff_ne.mpr c7
      have H' := Aside0.mk H
      clear H
      go_wp2
      go_meet
      case rel => exact ⟨_, ((a1 != 32)), (by first | rfl | (simp; done) | (simp [*]; done)), H', ⟨by first | omega | exact Nat.le_refl _⟩, ⟨by repeat first | with_reducible (first | exact HB.out | apply bA | apply bN | apply bD) | exact HB.out⟩⟩
 case rest =>
  clear HC3
  try clear c1
  try clear p2
  try clear c4
  try clear c4b0
  try clear c5
  try clear c5b0
  try clear c6
  try clear c6b0
  try clear c6b1
  try clear c7
  try clear c7b0
  try clear c7b1
  obtain ⟨kq, x22_2, rfl, HA, HJ2, HB⟩ := hcut
  cases kq with
  | zero => exact absurd HA.out (by simp [clavigerref35_Input.j0])
  | succ kj2 =>
   have H := HA.out
   clear HA
   simp only [clavigerref35_Input.j0] at H
   by_cases c8 : x22_2 = true
   ·subst c8
    have H1 : (some (⟨#[]⟩ : ByteArray)) = some r := by rw [if_pos rfl] at H; exact H
    clear H
    have H := H1
    clear H1
    obtain rfl := Option.some.inj H
    go_wp2
    go_ret
    exact ⟨by first | rfl | (simp [*, errW_none, errW_some] <;> rfl), by repeat first | with_reducible (first | exact HB.out | apply bA | apply bN | apply bD) | exact HB.out⟩
   ·replace c8 := Bool.eq_false_iff.mpr c8
    subst c8
    have H1 : ((clavigerref01_Put.f kj2 (IntKind.u64.wrap (a0)) 2).bind fun t1 => (if t1.size + 1 ≤ 9223372036854775807 then ((clavigerref01_Put.f kj2 (IntKind.u64.wrap (wrap64 (Int.tdiv a1 8))) 2).bind fun t2 => (if (t1 ++ (⟨#[0]⟩ : ByteArray)).size + t2.size ≤ 9223372036854775807 then ((clavigerref01_Put.f kj2 (IntKind.u64.wrap (wrap64 (8 * a1))) 2).bind fun t3 => (if ((t1 ++ (⟨#[0]⟩ : ByteArray)) ++ t2).size + t3.size ≤ 9223372036854775807 then (some (((t1 ++ (⟨#[0]⟩ : ByteArray)) ++ t2) ++ t3)) else (none))) else (none))) else (none))) = some r := by rw [if_neg (show ¬ (false = true) by decide)] at H; exact H
    clear H
    have H := H1
    clear H1
    replace H := Option.bind_eq_some_iff.mp H
    obtain ⟨t1, A90, H⟩ := H
    try dsimp only at H
    have A9 := Aside0.mk A90
    clear A90
    by_cases c10 : t1.size + 1 ≤ 9223372036854775807
    ·rw [if_pos c10] at H
     have c10b0 := eq_true c10
     have c10b1 : decide (t1.size + 1 ≤ 9223372036854775807) = true := decide_eq_true c10
     try have c10b2 : (9223372036854775807 < t1.size + 1) = False := eq_false (Nat.not_lt.2 c10)
     replace H := Option.bind_eq_some_iff.mp H
     obtain ⟨t2, A110, H⟩ := H
     try dsimp only at H
     have A11 := Aside0.mk A110
     clear A110
     by_cases c12 : (t1 ++ (⟨#[0]⟩ : ByteArray)).size + t2.size ≤ 9223372036854775807
     ·rw [if_pos c12] at H
      have c12b0 := eq_true c12
      have c12b1 : decide ((t1 ++ (⟨#[0]⟩ : ByteArray)).size + t2.size ≤ 9223372036854775807) = true := decide_eq_true c12
      try have c12b2 : (9223372036854775807 < (t1 ++ (⟨#[0]⟩ : ByteArray)).size + t2.size) = False := eq_false (Nat.not_lt.2 c12)
      have c12b9 : (9223372036854775807 < t1.size + 1 + t2.size) = False := eq_false (by have h_ := c12; have l0_ : ((⟨#[0]⟩ : ByteArray)).size = 1 := rfl; simp only [ByteArray.size_append, ByteArray.size_extract, Nat.sub_zero] at h_; omega)
      replace H := Option.bind_eq_some_iff.mp H
      obtain ⟨t3, A130, H⟩ := H
      try dsimp only at H
      have A13 := Aside0.mk A130
      clear A130
      by_cases c14 : ((t1 ++ (⟨#[0]⟩ : ByteArray)) ++ t2).size + t3.size ≤ 9223372036854775807
      ·rw [if_pos c14] at H
       have c14b0 := eq_true c14
       have c14b1 : decide (((t1 ++ (⟨#[0]⟩ : ByteArray)) ++ t2).size + t3.size ≤ 9223372036854775807) = true := decide_eq_true c14
       try have c14b2 : (9223372036854775807 < ((t1 ++ (⟨#[0]⟩ : ByteArray)) ++ t2).size + t3.size) = False := eq_false (Nat.not_lt.2 c14)
       have c14b9 : (9223372036854775807 < t1.size + 1 + t2.size + t3.size) = False := eq_false (by have h_ := c14; have l0_ : ((⟨#[0]⟩ : ByteArray)).size = 1 := rfl; simp only [ByteArray.size_append, ByteArray.size_extract, Nat.sub_zero] at h_; omega)
       obtain rfl := Option.some.inj H
       go_wp2_with (first | ((with_reducible refine gate_callee (f := 202) rfl ?_); refine goesL_ (some 25) rfl rfl Try.func202 (by kernel_rfl) rfl #[.int .u64 (IntKind.u64.wrap (a0)), .int .i64 2] rfl (by (try simp only [lT, lC, lN]); first | done | rfl) ?_; (with_reducible refine (clavigerref01_Put.calls kj2 (IntKind.u64.wrap (a0)) 2 t1 _ A9.out).mono ?_); rintro e w15 ⟨rfl, hb⟩; refine ⟨_, rfl, ?_⟩; have n0_ := Aside0.mk (below_step (by repeat first | with_reducible (first | exact HB.out | apply bA | apply bN | apply bD) | exact HB.out) hb); clear HB; have HB := n0_; clear n0_; (try clear hb); (try clear hb2); (try clear hk); (try clear hi)) | ((with_reducible refine gate_callee (f := 202) rfl ?_); refine goesL_ (some 30) rfl rfl Try.func202 (by kernel_rfl) rfl #[.int .u64 (IntKind.u64.wrap (wrap64 (Int.tdiv a1 8))), .int .i64 2] rfl (by (try simp only [lT, lC, lN]); first | done | rfl) ?_; (with_reducible refine (clavigerref01_Put.calls kj2 (IntKind.u64.wrap (wrap64 (Int.tdiv a1 8))) 2 t2 _ A11.out).mono ?_); rintro e w16 ⟨rfl, hb⟩; refine ⟨_, rfl, ?_⟩; have n0_ := Aside0.mk (below_step (by repeat first | with_reducible (first | exact HB.out | apply bA | apply bN | apply bD) | exact HB.out) hb); clear HB; have HB := n0_; clear n0_; (try clear hb); (try clear hb2); (try clear hk); (try clear hi)) | ((with_reducible refine gate_callee (f := 202) rfl ?_); refine goesL_ (some 35) rfl rfl Try.func202 (by kernel_rfl) rfl #[.int .u64 (IntKind.u64.wrap (wrap64 (8 * a1))), .int .i64 2] rfl (by (try simp only [lT, lC, lN]); first | done | rfl) ?_; (with_reducible refine (clavigerref01_Put.calls kj2 (IntKind.u64.wrap (wrap64 (8 * a1))) 2 t3 _ A13.out).mono ?_); rintro e w17 ⟨rfl, hb⟩; refine ⟨_, rfl, ?_⟩; have n0_ := Aside0.mk (below_step (by repeat first | with_reducible (first | exact HB.out | apply bA | apply bN | apply bD) | exact HB.out) hb); clear HB; have HB := n0_; clear n0_; (try clear hb); (try clear hb2); (try clear hk); (try clear hi)))
       go_ret
       exact ⟨by first | rfl | (simp [*, errW_none, errW_some] <;> rfl), by repeat first | with_reducible (first | exact HB.out | apply bA | apply bN | apply bD) | exact HB.out⟩
      ·rw [if_neg c14] at H
       exact absurd H (by simp)
     ·rw [if_neg c12] at H
      exact absurd H (by simp)
    ·rw [if_neg c10] at H
     exact absurd H (by simp)

mutual
def clavigerref35_Key.j0 : Nat → ByteArray → Int → Bool → Option (ByteArray × Int)
 | 0, _, _, _ => none
 | k + 1, x0, x1, x18 => if x18 = true then (some ((⟨#[]⟩ : ByteArray), 2)) else (if x1 < 0 then (clavigerref35_Key.j1 k x0 x1 true) else (clavigerref35_Key.j1 k x0 x1 (decide (x1 > 1))))
def clavigerref35_Key.j1 : Nat → ByteArray → Int → Bool → Option (ByteArray × Int)
 | 0, _, _, _ => none
 | k + 1, x0, x1, x24 => if x24 = true then (some ((⟨#[]⟩ : ByteArray), 1)) else ((clavigerref35_Input.f k x1 (x0.size : Int)).bind fun t1 => ((clavigerref12_Counter.f k x0 t1 (x0.size : Int)).bind fun bt2 => (some (bt2.1, bt2.2))))
end
def clavigerref35_Key.f (k : Nat) (a0 : ByteArray) (a1 : Int) : Option (ByteArray × Int) := if (a0.size : Int) = 16 then (clavigerref35_Key.j0 k a0 a1 false) else (if (a0.size : Int) = 24 then (clavigerref35_Key.j0 k a0 a1 false) else (clavigerref35_Key.j0 k a0 a1 ((a0.size : Int) != 32)))
theorem clavigerref35_Key.mono_l : ∀ k, (∀ y3 y4 y5, LeO (clavigerref35_Key.j0 k y3 y4 y5) (clavigerref35_Key.j0 (k + 1) y3 y4 y5)) ∧ (∀ y3 y4 y5, LeO (clavigerref35_Key.j1 k y3 y4 y5) (clavigerref35_Key.j1 (k + 1) y3 y4 y5))
 | 0 => ⟨fun _ _ _ r h => by simp [clavigerref35_Key.j0] at h, fun _ _ _ r h => by simp [clavigerref35_Key.j1] at h⟩
 | k + 1 => by
  obtain ⟨ih0, ih1⟩ := clavigerref35_Key.mono_l k
  refine ⟨?_, ?_⟩
  ·intro y3 y4 y5
   unfold clavigerref35_Key.j0
   repeat' first
   | (with_reducible exact ih0 _ _ _)
   | (with_reducible exact ih1 _ _ _)
   | (with_reducible exact clavigerref12_Counter.mono _ _ _ _)
   | (with_reducible exact clavigerref35_Input.mono _ _ _)
   | (with_reducible exact LeO.refl _)
   | (with_reducible exact LeO.none _)
   | (with_reducible refine LeO.ite ?_ ?_)
   | (with_reducible refine LeO.bind ?_ (fun _ => ?_))
  ·intro y3 y4 y5
   unfold clavigerref35_Key.j1
   repeat' first
   | (with_reducible exact ih0 _ _ _)
   | (with_reducible exact ih1 _ _ _)
   | (with_reducible exact clavigerref12_Counter.mono _ _ _ _)
   | (with_reducible exact clavigerref35_Input.mono _ _ _)
   | (with_reducible exact LeO.refl _)
   | (with_reducible exact LeO.none _)
   | (with_reducible refine LeO.ite ?_ ?_)
   | (with_reducible refine LeO.bind ?_ (fun _ => ?_))
theorem clavigerref35_Key.mono : ∀ a0 a1 k, LeO (clavigerref35_Key.f k a0 a1) (clavigerref35_Key.f (k + 1) a0 a1) := by
 intro a0 a1 k
 obtain ⟨ih0, ih1⟩ := clavigerref35_Key.mono_l k
 unfold clavigerref35_Key.f
 repeat' first
   | (with_reducible exact ih0 _ _ _)
   | (with_reducible exact ih1 _ _ _)
   | (with_reducible exact clavigerref12_Counter.mono _ _ _ _)
   | (with_reducible exact clavigerref35_Input.mono _ _ _)
   | (with_reducible exact LeO.refl _)
   | (with_reducible exact LeO.none _)
   | (with_reducible refine LeO.ite ?_ ?_)
   | (with_reducible refine LeO.bind ?_ (fun _ => ?_))
set_option maxHeartbeats 8000000 in
set_option maxRecDepth 100000 in
theorem clavigerref35_Key.calls (k : Nat) (a0 : ByteArray) (a1 : Int) (r1 : ByteArray) (r2 : Int) (w : World) (h : clavigerref35_Key.f k a0 a1 = some (r1, r2)) :
  Calls Try.prog 133 #[.string a0, .int .i64 a1] w fun e w' => e = .returned (.tuple #[.string r1, .int .i64 r2]) ∧ Below w.heap.size w w' := by
 have HB := Aside0.mk (Below.refl w.heap.size w)
 have H : (if (a0.size : Int) = 16 then (clavigerref35_Key.j0 k a0 a1 false) else (if (a0.size : Int) = 24 then (clavigerref35_Key.j0 k a0 a1 false) else (clavigerref35_Key.j0 k a0 a1 ((a0.size : Int) != 32)))) = some (r1, r2) := h
 clear h
 have HC3 := Aside0.mk H
 clear H
 go_enter Try.func133, Try.ntmps133
 go_upto_region 1 with (fail)
 go_cut [18] (fun v18 wc => ∃ (kq : Nat) (x18_2 : Bool), v18 = .bool x18_2 ∧ Aside0 (clavigerref35_Key.j0 kq a0 a1 x18_2 = some (r1, r2)) ∧ Aside0 (kq ≤ k) ∧ Aside0 (Below w.heap.size w wc))
 case first =>
  have H := HC3.out
  clear HC3
  by_cases c4 : (a0.size : Int) = 16
  ·rw [if_pos c4] at H
   have c4b0 : ((a0.size : Int) == 16) = true := beq_iff_eq.mpr c4
   have c4b1 : ((a0.size : Int) != 16) = false := bne_eq_false_iff_eq.mpr c4
   clear c4
   (first | rw [c4b0] | (simp only [i64_w, i32_w]; rw [c4b0]) | skip)
   have H' := Aside0.mk H
   clear H
   go_wp2
   go_meet
   case rel => exact ⟨_, (false), (by first | rfl | (simp; done) | (simp [*]; done)), H', ⟨by first | omega | exact Nat.le_refl _⟩, ⟨by repeat first | with_reducible (first | exact HB.out | apply bA | apply bN | apply bD) | exact HB.out⟩⟩
  ·rw [if_neg c4] at H
   have c4b0 : ((a0.size : Int) == 16) = false := beq_eq_false_iff_ne.mpr c4
   have c4b1 : ((a0.size : Int) != 16) = true := bne_iff_ne.mpr c4
   (first | rw [c4b0] | (simp only [i64_w, i32_w]; rw [c4b0]) | skip)
   by_cases c5 : (a0.size : Int) = 24
   ·rw [if_pos c5] at H
    have c5b0 : ((a0.size : Int) == 24) = true := beq_iff_eq.mpr c5
    have c5b1 : ((a0.size : Int) != 24) = false := bne_eq_false_iff_eq.mpr c5
    clear c5
    have H' := Aside0.mk H
    clear H
    go_wp2
    go_meet
    case rel => exact ⟨_, (false), (by first | rfl | (simp; done) | (simp [*]; done)), H', ⟨by first | omega | exact Nat.le_refl _⟩, ⟨by repeat first | with_reducible (first | exact HB.out | apply bA | apply bN | apply bD) | exact HB.out⟩⟩
   ·rw [if_neg c5] at H
    have c5b0 : ((a0.size : Int) == 24) = false := beq_eq_false_iff_ne.mpr c5
    have c5b1 : ((a0.size : Int) != 24) = true := bne_iff_ne.mpr c5
    have H' := Aside0.mk H
    clear H
    go_wp2
    go_meet
    case rel => exact ⟨_, (((a0.size : Int) != 32)), (by first | rfl | (simp; done) | (simp [*]; done)), H', ⟨by first | omega | exact Nat.le_refl _⟩, ⟨by repeat first | with_reducible (first | exact HB.out | apply bA | apply bN | apply bD) | exact HB.out⟩⟩
 case rest =>
  clear HC3
  try clear c1
  try clear p2
  try clear c4
  try clear c4b0
  try clear c4b1
  try clear c5
  try clear c5b0
  try clear c5b1
  obtain ⟨kq, x18_2, rfl, HA, HJ2, HB⟩ := hcut
  cases kq with
  | zero => exact absurd HA.out (by simp [clavigerref35_Key.j0])
  | succ kj2 =>
   have H := HA.out
   clear HA
   simp only [clavigerref35_Key.j0] at H
   by_cases c6 : x18_2 = true
   ·subst c6
    have H1 : (some ((⟨#[]⟩ : ByteArray), 2)) = some (r1, r2) := by rw [if_pos rfl] at H; exact H
    clear H
    have H := H1
    clear H1
    simp only [Option.some.injEq, Prod.mk.injEq] at H
    obtain ⟨rfl, rfl⟩ := H
    go_wp2
    go_ret2
    exact ⟨by first | rfl | (simp [*, errW_none, errW_some] <;> rfl), by repeat first | with_reducible (first | exact HB.out | apply bA | apply bN | apply bD) | exact HB.out⟩
   ·replace c6 := Bool.eq_false_iff.mpr c6
    subst c6
    have H1 : (if a1 < 0 then (clavigerref35_Key.j1 kj2 a0 a1 true) else (clavigerref35_Key.j1 kj2 a0 a1 (decide (a1 > 1)))) = some (r1, r2) := by rw [if_neg (show ¬ (false = true) by decide)] at H; exact H
    clear H
    have H := H1
    clear H1
    have HC7 := Aside0.mk H
    clear H
    go_upto_region 3 with (fail)
    go_cut [24] (fun v24 wc => ∃ (kq : Nat) (x24_6 : Bool), v24 = .bool x24_6 ∧ Aside0 (clavigerref35_Key.j1 kq a0 a1 x24_6 = some (r1, r2)) ∧ Aside0 (kq ≤ kj2) ∧ Aside0 (Below w.heap.size w wc))
    case first =>
     have H := HC7.out
     clear HC7
     by_cases c8 : a1 < 0
     ·rw [if_pos c8] at H
      have c8b0 : decide (a1 < 0) = true := decide_eq_true c8
      clear c8
      (first | rw [c8b0] | (simp only [i64_w, i32_w]; rw [c8b0]) | skip)
      have H' := Aside0.mk H
      clear H
      go_wp2
      go_meet
      case rel => exact ⟨_, (true), (by first | rfl | (simp; done) | (simp [*]; done)), H', ⟨by have := HJ2.out; first | omega | exact Nat.le_refl _⟩, ⟨by repeat first | with_reducible (first | exact HB.out | apply bA | apply bN | apply bD) | exact HB.out⟩⟩
     ·rw [if_neg c8] at H
      have c8b0 : decide (a1 < 0) = false := decide_eq_false c8
      clear c8
      (first | rw [c8b0] | (simp only [i64_w, i32_w]; rw [c8b0]) | skip)
      have H' := Aside0.mk H
      clear H
      go_wp2
      go_meet
      case rel => exact ⟨_, (decide (a1 > 1)), (by first | rfl | (simp; done) | (simp [*]; done)), H', ⟨by have := HJ2.out; first | omega | exact Nat.le_refl _⟩, ⟨by repeat first | with_reducible (first | exact HB.out | apply bA | apply bN | apply bD) | exact HB.out⟩⟩
    case rest =>
     clear HC7
     try clear c1
     try clear p2
     try clear c4
     try clear c4b0
     try clear c4b1
     try clear c5
     try clear c5b0
     try clear c5b1
     try clear c6
     try clear c8
     try clear c8b0
     try clear p2
     obtain ⟨kq, x24_6, rfl, HA, HJ6, HB⟩ := hcut
     cases kq with
     | zero => exact absurd HA.out (by simp [clavigerref35_Key.j1])
     | succ kj6 =>
      have H := HA.out
      clear HA
      simp only [clavigerref35_Key.j1] at H
      by_cases c9 : x24_6 = true
      ·subst c9
       have H1 : (some ((⟨#[]⟩ : ByteArray), 1)) = some (r1, r2) := by rw [if_pos rfl] at H; exact H
       clear H
       have H := H1
       clear H1
       simp only [Option.some.injEq, Prod.mk.injEq] at H
       obtain ⟨rfl, rfl⟩ := H
       go_wp2
       go_ret2
       exact ⟨by first | rfl | (simp [*, errW_none, errW_some] <;> rfl), by repeat first | with_reducible (first | exact HB.out | apply bA | apply bN | apply bD) | exact HB.out⟩
      ·replace c9 := Bool.eq_false_iff.mpr c9
       subst c9
       have H1 : ((clavigerref35_Input.f kj6 a1 (a0.size : Int)).bind fun t1 => ((clavigerref12_Counter.f kj6 a0 t1 (a0.size : Int)).bind fun bt2 => (some (bt2.1, bt2.2)))) = some (r1, r2) := by rw [if_neg (show ¬ (false = true) by decide)] at H; exact H
       clear H
       have H := H1
       clear H1
       replace H := Option.bind_eq_some_iff.mp H
       obtain ⟨t1, A100, H⟩ := H
       try dsimp only at H
       have A10 := Aside0.mk A100
       clear A100
       replace H := Option.bind_eq_some_iff.mp H
       obtain ⟨⟨t2, t6⟩, A110, H⟩ := H
       replace H : (some (t2, t6)) = some (r1, r2) := H
       have A11 := Aside0.mk A110
       clear A110
       simp only [Option.some.injEq, Prod.mk.injEq] at H
       obtain ⟨rfl, rfl⟩ := H
       go_wp2_with (first | ((with_reducible refine gate_callee (f := 135) rfl ?_); refine goesL_ (some 29) rfl rfl Try.func135 (by kernel_rfl) rfl #[.int .i64 a1, .int .i64 (a0.size : Int)] rfl (by (try simp only [lT, lC, lN]); first | done | rfl | (simp only [List.length_drop, List.length_take]; rfl) | (simp only [ByteArray.size_extract, Nat.min_self, Nat.sub_zero, ByteArray.size_append]; first | done | rfl)) ?_; (with_reducible refine (clavigerref35_Input.calls kj6 a1 (a0.size : Int) t1 _ A10.out).mono ?_); rintro e w12 ⟨rfl, hb⟩; refine ⟨_, rfl, ?_⟩; have n0_ := Aside0.mk (below_step (by repeat first | with_reducible (first | exact HB.out | apply bA | apply bN | apply bD) | exact HB.out) hb); clear HB; have HB := n0_; clear n0_; (try clear hb); (try clear hb2); (try clear hk); (try clear hi)) | ((with_reducible refine gate_callee (f := 127) rfl ?_); refine goesL_ (some 32) rfl rfl Try.func127 (by kernel_rfl) rfl #[.string a0, .string t1, .int .i64 (a0.size : Int)] rfl (by (try simp only [lT, lC, lN]); first | done | rfl | (simp only [List.length_drop, List.length_take]; rfl) | (simp only [ByteArray.size_extract, Nat.min_self, Nat.sub_zero, ByteArray.size_append]; first | done | rfl)) ?_; (with_reducible refine (clavigerref12_Counter.calls kj6 a0 t1 (a0.size : Int) t2 t6 _ A11.out).mono ?_); rintro e w13 ⟨rfl, hb⟩; refine ⟨_, rfl, ?_⟩; have n0_ := Aside0.mk (below_step (by repeat first | with_reducible (first | exact HB.out | apply bA | apply bN | apply bD) | exact HB.out) hb); clear HB; have HB := n0_; clear n0_; (try clear hb); (try clear hb2); (try clear hk); (try clear hi)))
       go_ret2
       exact ⟨by first | rfl | (simp [*, errW_none, errW_some] <;> rfl), by repeat first | with_reducible (first | exact HB.out | apply bA | apply bN | apply bD) | exact HB.out⟩

def clavigerref35_Keys.f (k : Nat) (a0 : ByteArray) : Option (ByteArray × ByteArray × Int) := (clavigerref35_Key.f k a0 0).bind fun bt1 => ((clavigerref35_Key.f k a0 1).bind fun bt2 => (some (bt1.1, bt2.1, bt1.2)))
theorem clavigerref35_Keys.mono : ∀ a0 k, LeO (clavigerref35_Keys.f k a0) (clavigerref35_Keys.f (k + 1) a0) := by
 intro a0 k
 unfold clavigerref35_Keys.f
 repeat' first
   | (with_reducible exact clavigerref35_Key.mono _ _ _)
   | (with_reducible exact LeO.refl _)
   | (with_reducible exact LeO.none _)
   | (with_reducible refine LeO.ite ?_ ?_)
   | (with_reducible refine LeO.bind ?_ (fun _ => ?_))
set_option maxHeartbeats 8000000 in
set_option maxRecDepth 100000 in
theorem clavigerref35_Keys.calls (k : Nat) (a0 : ByteArray) (r1 : ByteArray) (r2 : ByteArray) (r3 : Int) (w : World) (h : clavigerref35_Keys.f k a0 = some (r1, r2, r3)) :
  Calls Try.prog 72 #[.string a0] w fun e w' => e = .returned (.tuple #[.string r1, .string r2, .int .i64 r3]) ∧ Below w.heap.size w w' := by
 have HB := Aside0.mk (Below.refl w.heap.size w)
 have H : ((clavigerref35_Key.f k a0 0).bind fun bt1 => ((clavigerref35_Key.f k a0 1).bind fun bt2 => (some (bt1.1, bt2.1, bt1.2)))) = some (r1, r2, r3) := h
 clear h
 replace H := Option.bind_eq_some_iff.mp H
 obtain ⟨⟨t1, t3⟩, A20, H⟩ := H
 try dsimp only at H
 have A2 := Aside0.mk A20
 clear A20
 replace H := Option.bind_eq_some_iff.mp H
 obtain ⟨⟨t2, t4⟩, A30, H⟩ := H
 replace H : (some (t1, t2, t3)) = some (r1, r2, r3) := H
 have A3 := Aside0.mk A30
 clear A30
 simp only [Option.some.injEq, Prod.mk.injEq] at H
 obtain ⟨rfl, rfl, rfl⟩ := H
 go_enter Try.func72, Try.ntmps72
 go_wp2_with (first | ((with_reducible refine gate_callee (f := 133) rfl ?_); refine goesL_ (some 11) rfl rfl Try.func133 (by kernel_rfl) rfl #[.string a0, .int .i64 0] rfl (by (try simp only [lT, lC, lN]); first | done | rfl) ?_; (with_reducible refine (clavigerref35_Key.calls k a0 0 t1 t3 _ A2.out).mono ?_); rintro e w4 ⟨rfl, hb⟩; refine ⟨_, rfl, ?_⟩; have n0_ := Aside0.mk (below_step (by repeat first | with_reducible (first | exact HB.out | apply bA | apply bN | apply bD) | exact HB.out) hb); clear HB; have HB := n0_; clear n0_; (try clear hb); (try clear hb2); (try clear hk); (try clear hi)) | ((with_reducible refine gate_callee (f := 133) rfl ?_); refine goesL_ (some 16) rfl rfl Try.func133 (by kernel_rfl) rfl #[.string a0, .int .i64 1] rfl (by (try simp only [lT, lC, lN]); first | done | rfl) ?_; (with_reducible refine (clavigerref35_Key.calls k a0 1 t2 t4 _ A3.out).mono ?_); rintro e w5 ⟨rfl, hb⟩; refine ⟨_, rfl, ?_⟩; have n0_ := Aside0.mk (below_step (by repeat first | with_reducible (first | exact HB.out | apply bA | apply bN | apply bD) | exact HB.out) hb); clear HB; have HB := n0_; clear n0_; (try clear hb); (try clear hb2); (try clear hk); (try clear hi)))
 go_ret3
 exact ⟨by first | rfl | (simp [*, errW_none, errW_some] <;> rfl), by repeat first | with_reducible (first | exact HB.out | apply bA | apply bN | apply bD) | exact HB.out⟩

def derive_algorithm.f (a0 : Int) : Option (Int) := (sched_Rounds.f a0).bind fun t1 => (some (wrap64 ((wrap64 (Int.tdiv t1 2)) - 3)))
set_option maxHeartbeats 8000000 in
set_option maxRecDepth 100000 in
theorem derive_algorithm.calls (a0 : Int) (r : Int) (w : World) (h : derive_algorithm.f a0 = some r) :
  Calls Try.prog 203 #[.int .i64 a0] w fun e w' => e = .returned (.int .i64 r) ∧ Drawn0 w w' := by
 have H : ((sched_Rounds.f a0).bind fun t1 => (some (wrap64 ((wrap64 (Int.tdiv t1 2)) - 3)))) = some r := h
 clear h
 replace H := Option.bind_eq_some_iff.mp H
 obtain ⟨t1, A20, H⟩ := H
 try dsimp only at H
 have A2 := Aside0.mk A20
 clear A20
 obtain rfl := Option.some.inj H
 go_enter Try.func203, Try.ntmps203
 go_wp2_with (first | ((with_reducible refine gate_callee (f := 88) rfl ?_); refine goesL_ (some 4) rfl rfl Try.func88 (by kernel_rfl) rfl #[.int .i64 a0] rfl (by (try simp only [lT, lC, lN]); first | done | rfl) ?_; (with_reducible refine (sched_Rounds.calls a0 t1 _ A2.out).mono ?_); rintro e w' ⟨rfl, ⟨nd, rfl⟩⟩; refine ⟨_, rfl, ?_⟩))
 go_ret
 exact ⟨by first | rfl | (simp; done) | (simp [*]; done) | (simp [IntKind.wrap_u8, IntKind.wrap_i64, wrap64]; done), by repeat (first | exact Drawn0.refl _ | apply Drawn0.step)⟩

end Go.Proofs.Ytokkhnjedmlbhaa.Pr
end
section
namespace Go.Proofs.Ytokkhnjedmlbhaa.M
open Go.RowKit Go.Proofs.Ytokkhnjedmlbhaa.Pr Go.Proofs.YtokkhnjedmlbhaaW.PrintWords Go.Proofs.YtokkhnjedmlbhaaW.PrintLast Go.Proofs.YtokkhnjedmlbhaaW.PrintMore Go.Proofs.YtokkhnjedmlbhaaGf
set_option linter.unusedSimpArgs false
/-- The lowest bytes of a number, the greatest first. -/
def lowL (u : Nat) : Nat → List Nat
  | 0 => []
  | i + 1 => u / 256 ^ i % 256 :: lowL u i
theorem lowL_length (u : Nat) : ∀ i, (lowL u i).length = i
  | 0 => rfl
  | i + 1 => by simp [lowL, lowL_length u i]
theorem put_1 (u : Nat) : octets_Put.f (u : Int) 1 = some (mkB (lowL u 1)) := by
  unfold octets_Put.f
  rw [if_neg (by decide), if_neg (by decide)]
  show some (strOfNums [(u : Int) % 256]) = some (mkB [u / 1 % 256])
  rw [Nat.div_one, ← strOfNums_cast]
  rfl
theorem rputL (u wd : Nat) (hu : u < 18446744073709551616) (hw : wd ≤ 8) (d : Nat) : ∀ i, wd - i = d → i ≤ wd → Ev (fun k => clavigerref01_Put.l0 k ((u / 256 ^ i : Nat) : Int) (wd : Int) (mkB (lowL u i)) (i : Int)) (mkB (lowL u wd)) := by
  induction d with
  | zero =>
    intro i hd hi
    obtain rfl : i = wd := by omega
    refine Ev.step (f := fun _ => some (mkB (lowL u i))) (fun k => ?_) (Ev.now _)
    simp only [clavigerref01_Put.l0]
    rw [if_neg (by omega)]
  | succ d ih =>
    intro i hd hi
    have hh := ih (i + 1) (by omega) (by omega)
    have hq : u / 256 ^ i ≤ u := Nat.div_le_self _ _
    have e1 : u / 256 ^ (i + 1) = u / 256 ^ i / 256 := by rw [Nat.pow_succ, Nat.div_div_eq_div_mul]
    have e2 : lowL u (i + 1) = u / 256 ^ i % 256 :: lowL u i := rfl
    rw [e1, e2] at hh
    generalize u / 256 ^ i = q at *
    have e3 : (Int.tmod (q : Int) 256) % 256 = ((q % 256 : Nat) : Int) := by rw [Int.tmod_eq_emod_of_nonneg (by omega)]; omega
    have e4 : IntKind.u64.wrap (Int.tdiv (q : Int) 256) = ((q / 256 : Nat) : Int) := by rw [Int.tdiv_eq_ediv_of_nonneg (by omega), IntKind.wrap_u64]; omega
    refine Ev.step (fun k => ?_) hh
    simp only [clavigerref01_Put.l0, e3, e4, Option.bind_some]
    rw [if_pos (by omega), sNs1, mkB_append, if_pos (by rw [mkB_size, mkB_size, lowL_length]; show 1 + i ≤ _; omega), wrap_id (by omega) (by omega)]
    rfl
theorem rput_c (u wd : Nat) (hu : u < 18446744073709551616) (hw : 1 ≤ wd) (hw2 : wd ≤ 8) : Ev (fun k => clavigerref01_Put.f k (u : Int) (wd : Int)) (mkB (lowL u wd)) := by
  unfold clavigerref01_Put.f
  refine evn (by omega) ?_
  have hh := rputL u wd hu hw2 _ 0 rfl (by omega)
  rw [Nat.pow_zero, Nat.div_one] at hh
  refine Ev.step (fun k => ?_) hh
  simp only [clavigerref01_Put.j0]
  rw [if_neg (by simp; omega)]
  rfl
end Go.Proofs.Ytokkhnjedmlbhaa.M
end
section
namespace Go.Proofs.Ytokkhnjedmlbhaa.Pr
open Go.RowKit Go.Proofs.YtokkhnjedmlbhaaW.PrintWords Go.Proofs.YtokkhnjedmlbhaaW.PrintLast Go.Proofs.YtokkhnjedmlbhaaW.PrintMore Go.Proofs.YtokkhnjedmlbhaaHw Go.Proofs.YtokkhnjedmlbhaaGf
/-- xs, with ys laid over it from place k on. -/
def overL (xs : List Int) (k : Nat) (ys : List Int) : List Int := xs.take k ++ (ys ++ xs.drop (k + ys.length))
theorem run_copy_at {P : Program} (w : World) (dT sT ty elem : TypeId) (g off dLen dCap : Nat) (s : ByteArray) (xs : List Int) (t : TypeId)
    (hu : P.underlying dT = some (.slice elem)) (hs : (P.info? elem).map (·.size) = some 1) (hg : BY w g t xs) (hle : s.size ≤ dLen) (hfit : off + s.size ≤ xs.length) :
    (Builtin.copy_ #[dT, sT] ty #[.slice (some ⟨g, off, none⟩) dLen dCap, .string s]).run P w =
      .ok (goInt s.size) (w.setRow g (((overL xs off (bytesOf s)).map (Value.int .u8)).toArray)) := by
  have hl0 : (Lib.byteCells s.data.toList).length = s.size := by rw [Lib.byteCells_length, ← Lib.size_eq]
  have hst := run_storeCells_at P g off t (Lib.byteCells s.data.toList) 0 ((xs.map (Value.int .u8)).toArray) w hg (by rw [hl0]; simpa using hfit) (fun v hv => Lib.byteCells_one _ v hv)
  have hmin : Nat.min s.size dLen = s.size := Nat.min_eq_left hle
  have htk : List.take s.size (List.map (fun b : UInt8 => Value.int IntKind.u8 (b.toNat : Int)) s.data.toList) = Lib.byteCells s.data.toList := by
    rw [List.take_of_length_le (by rw [List.length_map, ← Lib.size_eq]; exact Nat.le_refl _)]; rfl
  rw [hl0] at hst
  simp only [Nat.add_zero] at hst
  cases hq : P.info? elem with
  | none => simp [hq] at hs
  | some i =>
    simp [Builtin.copy_, run_underlying hu, Builtin.lenOf, Builtin.firstCells, sizeOf, typeInfo, hq, hmin]
    rw [htk, hst]
    simp [Result.andThen, overL, bytesOf, Lib.byteCells]
    rfl
theorem step_copy_at {P : Program} {ops : Array Oper} {o : Oper} {a : Act} {w : World} {K : Act → World → Prop} {Q : Exit → Act → World → Prop} {E : Prop} (hgd : o.guard = none) (d s : Operand) (dT sT : TypeId)
    (ho : o.op = .call { callee := .builtin .copy, args := #[d, s], argTypes := #[dT, sT] }) (elem : TypeId) (hu : P.underlying dT = some (.slice elem)) (hsz : (P.info? elem).map (·.size) = some 1)
    (g off dLen dCap : Nat) (x : ByteArray) (hd : a.eval d = .slice (some ⟨g, off, none⟩) dLen dCap) (hs : a.eval s = .string x) (xs : List Int) (t : TypeId) (hg : BY w g t xs) (hle : x.size ≤ dLen) (hfit : off + x.size ≤ xs.length)
    (w0 : World) (hb : Below w0.heap.size w0 w) (hBg : w0.heap.size ≤ g)
    (h : ∀ w', Aside0 (BY w' g t (overL xs off (bytesOf x))) → Aside0 (Below w0.heap.size w0 w') → K (a.put o.dst (goInt x.size)) w') :
    if Region.wanted o (yielded ops a.tmps) = true then Oper.wp P o a w K Q else E := by
  have hw : Region.wanted o (yielded ops a.tmps) = true := by simp [Region.wanted, hgd]
  rw [if_pos hw]
  have hrun := run_copy_at (P := P) w dT sT o.type elem g off dLen dCap x xs t hu hsz hg hle hfit
  unfold Oper.wp
  simp [execOp, ho, resolve, invoke, builtin, hd, hs, hrun, Result.andThen]
  exact h _ ⟨setRow_heap _ _ _ _ _ _ hg⟩ ⟨below_setRow hb hBg _⟩
set_option maxHeartbeats 4000000 in
set_option maxRecDepth 100000 in
theorem input_g (p n r al : Int) (x1 x2 x3 : ByteArray) (w : World) (e1 : decide (p < 0) = false) (e2 : decide (p ≥ 2) = false) (e3 : (r == 0) = false) (hR : sched_Rounds.f n = some r) (hA : derive_algorithm.f n = some al)
    (h1 : octets_Put.f (IntKind.u64.wrap p) 2 = some x1) (h2 : octets_Put.f (IntKind.u64.wrap al) 2 = some x2) (h3 : octets_Put.f (IntKind.u64.wrap (IntKind.u64.wrap n * 8)) 2 = some x3) (s1 : x1.size = 2) (s2 : x2.size = 2) (s3 : x3.size = 2) :
    Calls Try.prog 134 #[.int .i64 p, .int .i64 n] w fun e w' => e = .returned (.string (strOfNums (overL (overL (overL [0, 0, 0, 0, 0, 0, 0] 0 (bytesOf x1)) 3 (bytesOf x2)) 5 (bytesOf x3)))) ∧ Below w.heap.size w w' := by
  have HR := Aside0.mk hR
  have HA := Aside0.mk hA
  have H1 := Aside0.mk h1
  have H2 := Aside0.mk h2
  have H3 := Aside0.mk h3
  have S1 := Aside0.mk s1
  have S2 := Aside0.mk s2
  have S3 := Aside0.mk s3
  have e2b : decide (2 ≤ p) = false := e2
  have HI : Aside0 ((Try.prog.info? 5).map (·.size) = some 1) := ⟨by kernel_rfl⟩
  have over_len : ∀ (xs : List Int) (k : Nat) (x : ByteArray), x.size = 2 → k + 2 ≤ 7 → xs.length = 7 → (overL xs k (bytesOf x)).length = 7 := fun xs k x hx hk hl => by
    unfold overL; simp [bytesOf_length, hx, hl]; omega
  have L1 := Aside0.mk (over_len [0, 0, 0, 0, 0, 0, 0] 0 x1 s1 (by omega) rfl)
  have L2 := Aside0.mk (over_len _ 3 x2 s2 (by omega) L1.out)
  have L3 := Aside0.mk (over_len _ 5 x3 s3 (by omega) L2.out)
  clear hR hA h1 h2 h3 s1 s2 s3 over_len
  go_enter Try.func134, Try.ntmps134
  go_upto_region 4 with (go_at_call 88; (with_reducible refine (sched_Rounds.calls n r _ HR.out).mono ?_); rintro e w1 ⟨rfl, hd⟩; obtain ⟨n1, rfl⟩ := hd.out; clear hd)
  have hy : BY ((w.drewN n1).alloc (.cells #[.int .u8 0, .int .u8 0, .int .u8 0, .int .u8 0, .int .u8 0, .int .u8 0, .int .u8 0] 124)).drew w.heap.size 124 [0, 0, 0, 0, 0, 0, 0] := heap_alloc_new (w.drewN n1) _
  have hb : Below w.heap.size w ((w.drewN n1).alloc (.cells #[.int .u8 0, .int .u8 0, .int .u8 0, .int .u8 0, .int .u8 0, .int .u8 0, .int .u8 0] 124)).drew := below_drew1 (below_alloc (pw_below_drewN (Below.refl _ _) n1) _)
  generalize (w.drewN n1).alloc (.cells #[.int .u8 0, .int .u8 0, .int .u8 0, .int .u8 0, .int .u8 0, .int .u8 0, .int .u8 0] 124) = w1 at *
  have HY := Aside0.mk hy
  have HB := Aside0.mk hb
  clear hy hb
  go_cut [] (fun wc => Aside0 (BY wc w.heap.size 124 (overL [0, 0, 0, 0, 0, 0, 0] 0 (bytesOf x1))) ∧ Aside0 (Below w.heap.size w wc))
  case first =>
    go_region_law (first | (refine step_copy_at rfl (.tmp 17) (.tmp 20) 66 9 rfl 5 Try.underlying66 HI.out w.heap.size 0 7 7 x1 (by simp [Act.eval]) (by simp [Act.eval]) _ 124 HY2.out (by rw [S1.out]; decide) (by rw [S1.out]; decide) w HB2.out (Nat.le_refl _) ?_; intro w4 hg4 hb4) | (go_simp; go_at_call 189; (with_reducible refine (octets_Put.calls _ _ _ _ H1.out).mono ?_); rintro e w2 ⟨rfl, hb2⟩; have HY2 := Aside0.mk (HY.out.below hb2); have HB2 := Aside0.mk (below_then HB.out HB.out.size hb2); clear hb2))
    all_goals
      go_wp2_with fail
      go_meet
      exact ⟨hg4, hb4⟩
  case rest =>
    clear HY HB
    obtain ⟨hy, hb⟩ := hcut
    have HY := Aside0.mk hy.out.drew
    have HB := Aside0.mk (below_drew1 hb.out)
    have HB0 := Aside0.mk hb.out
    clear hy hb
    go_upto_region 5 with (fail)
    have HYA : Aside0 (∀ m, BY (wc.drewN m) w.heap.size 124 (overL [0, 0, 0, 0, 0, 0, 0] 0 (bytesOf x1))) := ⟨fun _ => HY.out⟩
    have HBA : Aside0 (∀ m, Below w.heap.size w (wc.drewN m)) := ⟨fun m => pw_below_drewN HB0.out m⟩
    go_cut [] (fun wc => Aside0 (BY wc w.heap.size 124 (overL (overL [0, 0, 0, 0, 0, 0, 0] 0 (bytesOf x1)) 3 (bytesOf x2))) ∧ Aside0 (Below w.heap.size w wc))
    case first =>
      go_region_law (first | (refine step_copy_at rfl (.tmp 22) (.tmp 26) 66 9 rfl 5 Try.underlying66 HI.out w.heap.size 3 4 4 x2 (by simp [Act.eval]) (by simp [Act.eval]) _ 124 HY2.out (by rw [S2.out]; decide) (by rw [S2.out, L1.out]; decide) w HB2.out (Nat.le_refl _) ?_; intro w4 hg4 hb4) | (go_simp; go_at_call 189; (with_reducible refine (octets_Put.calls _ _ _ _ H2.out).mono ?_); rintro e w2 ⟨rfl, hb2⟩; have HY2 := Aside0.mk ((HYA.out _).below hb2); have HB2 := Aside0.mk (below_then (HBA.out _) (HBA.out _).size hb2); clear hb2) | (go_simp; go_at_call 203; (with_reducible refine (derive_algorithm.calls n al _ HA.out).mono ?_); rintro e w3 ⟨rfl, hd⟩; obtain ⟨n3, rfl⟩ := hd.out; clear hd))
      all_goals
        go_wp2_with fail
        go_meet
        exact ⟨hg4, hb4⟩
    case rest =>
      clear HY HB
      obtain ⟨hy, hb⟩ := hcut
      have HY := Aside0.mk hy.out.drew
      have HB := Aside0.mk (below_drew1 hb.out)
      have HB0 := Aside0.mk hb.out
      clear hy hb
      go_upto_region 6 with (fail)
      go_cut [] (fun wc => Aside0 (BY wc w.heap.size 124 (overL (overL (overL [0, 0, 0, 0, 0, 0, 0] 0 (bytesOf x1)) 3 (bytesOf x2)) 5 (bytesOf x3))) ∧ Aside0 (Below w.heap.size w wc))
      case first =>
        go_region_law (first | (refine step_copy_at rfl (.tmp 28) (.tmp 32) 66 9 rfl 5 Try.underlying66 HI.out w.heap.size 5 2 2 x3 (by simp [Act.eval]) (by simp [Act.eval]) _ 124 HY2.out (by rw [S3.out]; decide) (by rw [S3.out, L2.out]; decide) w HB2.out (Nat.le_refl _) ?_; intro w4 hg4 hb4) | (go_simp; go_at_call 189; (with_reducible refine (octets_Put.calls _ _ _ _ H3.out).mono ?_); rintro e w2 ⟨rfl, hb2⟩; have HY2 := Aside0.mk (HY.out.below hb2); have HB2 := Aside0.mk (below_then HB.out HB.out.size hb2); clear hb2))
        all_goals
          go_wp2_with fail
          go_meet
          exact ⟨hg4, hb4⟩
      case rest =>
        clear HY HB
        obtain ⟨hy, hb⟩ := hcut
        have HY := Aside0.mk hy.out.drew
        have HB := Aside0.mk (below_drew1 hb.out)
        have HB0 := Aside0.mk hb.out
        clear hy hb
        have hcv := run_convert_bytes_arg (P := Try.prog) wc 66 5 Try.underlying66 Try.underlying5 w.heap.size 0 7 7 _ L3.out (fun i hi => by rw [Nat.zero_add]; exact BY.cell (w := wc) HY.out i (by rw [L3.out]; exact hi)) 9 Try.underlying9
        go_wp2
        go_ret
        exact ⟨rfl, HB0.out⟩
end Go.Proofs.Ytokkhnjedmlbhaa.Pr
namespace Go.Proofs.Ytokkhnjedmlbhaa.M
open Go.RowKit Go.Proofs.YtokkhnjedmlbhaaW.PrintWords
/-- What is derived from. -/
def inX (p n : Int) : ByteArray := if (p = 0 ∨ p = 1) ∧ (n = 16 ∨ n = 24 ∨ n = 32) then mkB [0, p.toNat, 0, 0, n.toNat / 8, n.toNat / 32, 8 * n.toNat % 256] else ⟨#[]⟩
end Go.Proofs.Ytokkhnjedmlbhaa.M
namespace Go.Proofs.Ytokkhnjedmlbhaa.Pr
open Go.RowKit Go.Proofs.YtokkhnjedmlbhaaW.PrintWords Go.Proofs.YtokkhnjedmlbhaaW.PrintLast Go.Proofs.YtokkhnjedmlbhaaW.PrintMore Go.Proofs.YtokkhnjedmlbhaaHw Go.Proofs.YtokkhnjedmlbhaaGf
theorem input_ok (p n : Int) (w : World) (hp : p = 0 ∨ p = 1) (hn : n = 16 ∨ n = 24 ∨ n = 32) :
    Calls Try.prog 134 #[.int .i64 p, .int .i64 n] w fun e w' => e = .returned (.string (M.inX p n)) ∧ Below w.heap.size w w' := by
  rcases hp with rfl | rfl <;> rcases hn with rfl | rfl | rfl
  · have h := input_g 0 16 10 2 ⟨#[0, 0]⟩ ⟨#[0, 2]⟩ ⟨#[0, 128]⟩ w rfl rfl rfl (by decide +kernel) (by decide +kernel) (by decide +kernel) (by decide +kernel) (by decide +kernel) rfl rfl rfl
    rwa [show strOfNums (overL (overL (overL [0, 0, 0, 0, 0, 0, 0] 0 (bytesOf ⟨#[0, 0]⟩)) 3 (bytesOf ⟨#[0, 2]⟩)) 5 (bytesOf ⟨#[0, 128]⟩)) = M.inX 0 16 by decide +kernel] at h
  · have h := input_g 0 24 12 3 ⟨#[0, 0]⟩ ⟨#[0, 3]⟩ ⟨#[0, 192]⟩ w rfl rfl rfl (by decide +kernel) (by decide +kernel) (by decide +kernel) (by decide +kernel) (by decide +kernel) rfl rfl rfl
    rwa [show strOfNums (overL (overL (overL [0, 0, 0, 0, 0, 0, 0] 0 (bytesOf ⟨#[0, 0]⟩)) 3 (bytesOf ⟨#[0, 3]⟩)) 5 (bytesOf ⟨#[0, 192]⟩)) = M.inX 0 24 by decide +kernel] at h
  · have h := input_g 0 32 14 4 ⟨#[0, 0]⟩ ⟨#[0, 4]⟩ ⟨#[1, 0]⟩ w rfl rfl rfl (by decide +kernel) (by decide +kernel) (by decide +kernel) (by decide +kernel) (by decide +kernel) rfl rfl rfl
    rwa [show strOfNums (overL (overL (overL [0, 0, 0, 0, 0, 0, 0] 0 (bytesOf ⟨#[0, 0]⟩)) 3 (bytesOf ⟨#[0, 4]⟩)) 5 (bytesOf ⟨#[1, 0]⟩)) = M.inX 0 32 by decide +kernel] at h
  · have h := input_g 1 16 10 2 ⟨#[0, 1]⟩ ⟨#[0, 2]⟩ ⟨#[0, 128]⟩ w rfl rfl rfl (by decide +kernel) (by decide +kernel) (by decide +kernel) (by decide +kernel) (by decide +kernel) rfl rfl rfl
    rwa [show strOfNums (overL (overL (overL [0, 0, 0, 0, 0, 0, 0] 0 (bytesOf ⟨#[0, 1]⟩)) 3 (bytesOf ⟨#[0, 2]⟩)) 5 (bytesOf ⟨#[0, 128]⟩)) = M.inX 1 16 by decide +kernel] at h
  · have h := input_g 1 24 12 3 ⟨#[0, 1]⟩ ⟨#[0, 3]⟩ ⟨#[0, 192]⟩ w rfl rfl rfl (by decide +kernel) (by decide +kernel) (by decide +kernel) (by decide +kernel) (by decide +kernel) rfl rfl rfl
    rwa [show strOfNums (overL (overL (overL [0, 0, 0, 0, 0, 0, 0] 0 (bytesOf ⟨#[0, 1]⟩)) 3 (bytesOf ⟨#[0, 3]⟩)) 5 (bytesOf ⟨#[0, 192]⟩)) = M.inX 1 24 by decide +kernel] at h
  · have h := input_g 1 32 14 4 ⟨#[0, 1]⟩ ⟨#[0, 4]⟩ ⟨#[1, 0]⟩ w rfl rfl rfl (by decide +kernel) (by decide +kernel) (by decide +kernel) (by decide +kernel) (by decide +kernel) rfl rfl rfl
    rwa [show strOfNums (overL (overL (overL [0, 0, 0, 0, 0, 0, 0] 0 (bytesOf ⟨#[0, 1]⟩)) 3 (bytesOf ⟨#[0, 4]⟩)) 5 (bytesOf ⟨#[1, 0]⟩)) = M.inX 1 32 by decide +kernel] at h
def derive_Input.f (p n : Int) : Option ByteArray := some (M.inX p n)
theorem derive_Input.calls (p n : Int) (r : ByteArray) (w : World) (h : derive_Input.f p n = some r) :
    Calls Try.prog 134 #[.int .i64 p, .int .i64 n] w fun e w' => e = .returned (.string r) ∧ Below w.heap.size w w' := by
  obtain rfl := Option.some.inj h
  clear h
  by_cases hp : p = 0 ∨ p = 1
  · by_cases hn : n = 16 ∨ n = 24 ∨ n = 32
    · exact input_ok p n w hp hn
    · have hr : sched_Rounds.f n = some 0 := by unfold sched_Rounds.f; rw [if_neg (by omega), if_neg (by omega), if_neg (by omega)]
      have HR := Aside0.mk hr
      have e : M.inX p n = ⟨#[]⟩ := by unfold M.inX; rw [if_neg (fun h => hn h.2)]
      have e1 : decide (p < 0) = false := decide_eq_false (by omega)
      have e2 : decide (p ≥ 2) = false := decide_eq_false (by omega)
      have e2b : decide (2 ≤ p) = false := e2
      rw [e]
      clear e hp hn hr
      go_enter Try.func134, Try.ntmps134
      go_wp2_with (go_at_call 88; (with_reducible refine (sched_Rounds.calls n 0 _ HR.out).mono ?_); rintro e w1 ⟨rfl, hd⟩; obtain ⟨n1, rfl⟩ := hd.out; clear hd)
      go_ret
      exact ⟨rfl, pw_below_drewN (Below.refl _ _) _⟩
  · have e : M.inX p n = ⟨#[]⟩ := by unfold M.inX; rw [if_neg (fun h => hp h.1)]
    rw [e]
    by_cases h0 : p < 0
    · have e1 : decide (p < 0) = true := decide_eq_true h0
      clear e hp h0
      go_enter Try.func134, Try.ntmps134
      go_wp2
      go_ret
      exact ⟨rfl, Below.refl _ _⟩
    · have e1 : decide (p < 0) = false := decide_eq_false h0
      have e2 : decide (p ≥ 2) = true := decide_eq_true (by omega)
      have e2b : decide (2 ≤ p) = true := e2
      clear e hp h0
      go_enter Try.func134, Try.ntmps134
      go_wp2
      go_ret
      exact ⟨rfl, Below.refl _ _⟩
end Go.Proofs.Ytokkhnjedmlbhaa.Pr
end
section
namespace Go.Proofs.Ytokkhnjedmlbhaa.Pr
open Go.RowKit Go.Proofs.YtokkhnjedmlbhaaW.PrintWords Go.Proofs.YtokkhnjedmlbhaaW.PrintLast Go.Proofs.YtokkhnjedmlbhaaW.PrintMore
attribute [local go_sem] max2_int min2_int max_two min_two max_three min_three max_four min_four   -- for this text's walks alone
set_option linter.unusedVariables false
set_option linter.unusedSimpArgs false

def derive_Key.f (k : Nat) (a0 : ByteArray) (a1 : Int) : Option (ByteArray × Int) := (sched_Rounds.f (a0.size : Int)).bind fun t1 => (if t1 = 0 then (some ((⟨#[]⟩ : ByteArray), 2)) else ((derive_Input.f a1 (a0.size : Int)).bind fun t2 => (if t2.toList = ([] : List UInt8) then (some ((⟨#[]⟩ : ByteArray), 1)) else ((kdf_Counter.f k a0 t2 (a0.size : Int)).bind fun bt3 => (some (bt3.1, bt3.2))))))
theorem derive_Key.mono : ∀ a0 a1 k, LeO (derive_Key.f k a0 a1) (derive_Key.f (k + 1) a0 a1) := by
 intro a0 a1 k
 unfold derive_Key.f
 repeat' first
   | (with_reducible exact kdf_Counter.mono _ _ _ _)
   | (with_reducible exact LeO.refl _)
   | (with_reducible exact LeO.none _)
   | (with_reducible refine LeO.ite ?_ ?_)
   | (with_reducible refine LeO.bind ?_ (fun _ => ?_))
set_option maxHeartbeats 8000000 in
set_option maxRecDepth 100000 in
theorem derive_Key.calls (k : Nat) (a0 : ByteArray) (a1 : Int) (r1 : ByteArray) (r2 : Int) (w : World) (h : derive_Key.f k a0 a1 = some (r1, r2)) :
  Calls Try.prog 132 #[.string a0, .int .i64 a1] w fun e w' => e = .returned (.tuple #[.string r1, .int .i64 r2]) ∧ Below w.heap.size w w' := by
 have HB := Aside0.mk (Below.refl w.heap.size w)
 have H : ((sched_Rounds.f (a0.size : Int)).bind fun t1 => (if t1 = 0 then (some ((⟨#[]⟩ : ByteArray), 2)) else ((derive_Input.f a1 (a0.size : Int)).bind fun t2 => (if t2.toList = ([] : List UInt8) then (some ((⟨#[]⟩ : ByteArray), 1)) else ((kdf_Counter.f k a0 t2 (a0.size : Int)).bind fun bt3 => (some (bt3.1, bt3.2))))))) = some (r1, r2) := h
 clear h
 replace H := Option.bind_eq_some_iff.mp H
 obtain ⟨t1, A30, H⟩ := H
 try dsimp only at H
 have A3 := Aside0.mk A30
 clear A30
 by_cases c4 : t1 = 0
 ·rw [if_pos c4] at H
  have c4b0 : (t1 == 0) = true := beq_iff_eq.mpr c4
  have c4b1 : (t1 != 0) = false := bne_eq_false_iff_eq.mpr c4
  clear c4
  simp only [Option.some.injEq, Prod.mk.injEq] at H
  obtain ⟨rfl, rfl⟩ := H
  go_enter Try.func132, Try.ntmps132
  go_wp2_with (first | ((with_reducible refine gate_callee (f := 88) rfl ?_); refine goesL_ (some 9) rfl rfl Try.func88 (by kernel_rfl) rfl #[.int .i64 (a0.size : Int)] rfl (by (try simp only [lT, lC, lN]); first | done | rfl | (simp only [List.length_drop, List.length_take]; rfl) | (simp only [ByteArray.size_extract, Nat.min_self, Nat.sub_zero, ByteArray.size_append]; first | done | rfl)) ?_; (with_reducible refine (sched_Rounds.calls (a0.size : Int) t1 _ A3.out).mono ?_); rintro e w' ⟨rfl, ⟨nd, rfl⟩⟩; refine ⟨_, rfl, ?_⟩))
  go_ret2
  exact ⟨by first | rfl | (simp [*, errW_none, errW_some] <;> rfl), by repeat first | with_reducible (first | exact HB.out | apply bA | apply bN | apply bD) | exact HB.out⟩
 ·rw [if_neg c4] at H
  have c4b0 : (t1 == 0) = false := beq_eq_false_iff_ne.mpr c4
  have c4b1 : (t1 != 0) = true := bne_iff_ne.mpr c4
  replace H := Option.bind_eq_some_iff.mp H
  obtain ⟨t2, A50, H⟩ := H
  try dsimp only at H
  have A5 := Aside0.mk A50
  clear A50
  by_cases c6 : t2.toList = ([] : List UInt8)
  ·rw [if_pos c6] at H
   have c6b0 : (t2.toList == ([] : List UInt8)) = true := beq_iff_eq.mpr c6
   have c6b1 : (t2.toList != ([] : List UInt8)) = false := bne_eq_false_iff_eq.mpr c6
   clear c6
   simp only [Option.some.injEq, Prod.mk.injEq] at H
   obtain ⟨rfl, rfl⟩ := H
   go_enter Try.func132, Try.ntmps132
   go_wp2_with (first | ((with_reducible refine gate_callee (f := 88) rfl ?_); refine goesL_ (some 9) rfl rfl Try.func88 (by kernel_rfl) rfl #[.int .i64 (a0.size : Int)] rfl (by (try simp only [lT, lC, lN]); first | done | rfl | (simp only [List.length_drop, List.length_take]; rfl) | (simp only [ByteArray.size_extract, Nat.min_self, Nat.sub_zero, ByteArray.size_append]; first | done | rfl)) ?_; (with_reducible refine (sched_Rounds.calls (a0.size : Int) t1 _ A3.out).mono ?_); rintro e w' ⟨rfl, ⟨nd, rfl⟩⟩; refine ⟨_, rfl, ?_⟩) | ((with_reducible refine gate_callee (f := 134) rfl ?_); refine goesL_ (some 14) rfl rfl Try.func134 (by kernel_rfl) rfl #[.int .i64 a1, .int .i64 (a0.size : Int)] rfl (by (try simp only [lT, lC, lN]); first | done | rfl | (simp only [List.length_drop, List.length_take]; rfl) | (simp only [ByteArray.size_extract, Nat.min_self, Nat.sub_zero, ByteArray.size_append]; first | done | rfl)) ?_; (with_reducible refine (derive_Input.calls a1 (a0.size : Int) t2 _ A5.out).mono ?_); rintro e w7 ⟨rfl, hb⟩; refine ⟨_, rfl, ?_⟩; have n0_ := Aside0.mk (below_step (by repeat first | with_reducible (first | exact HB.out | apply bA | apply bN | apply bD) | exact HB.out) hb); clear HB; have HB := n0_; clear n0_; (try clear hb); (try clear hb2); (try clear hk); (try clear hi)))
   go_ret2
   exact ⟨by first | rfl | (simp [*, errW_none, errW_some] <;> rfl), by repeat first | with_reducible (first | exact HB.out | apply bA | apply bN | apply bD) | exact HB.out⟩
  ·rw [if_neg c6] at H
   have c6b0 : (t2.toList == ([] : List UInt8)) = false := beq_eq_false_iff_ne.mpr c6
   have c6b1 : (t2.toList != ([] : List UInt8)) = true := bne_iff_ne.mpr c6
   replace H := Option.bind_eq_some_iff.mp H
   obtain ⟨⟨t3, t4⟩, A80, H⟩ := H
   replace H : (some (t3, t4)) = some (r1, r2) := H
   have A8 := Aside0.mk A80
   clear A80
   simp only [Option.some.injEq, Prod.mk.injEq] at H
   obtain ⟨rfl, rfl⟩ := H
   go_enter Try.func132, Try.ntmps132
   go_wp2_with (first | ((with_reducible refine gate_callee (f := 88) rfl ?_); refine goesL_ (some 9) rfl rfl Try.func88 (by kernel_rfl) rfl #[.int .i64 (a0.size : Int)] rfl (by (try simp only [lT, lC, lN]); first | done | rfl | (simp only [List.length_drop, List.length_take]; rfl) | (simp only [ByteArray.size_extract, Nat.min_self, Nat.sub_zero, ByteArray.size_append]; first | done | rfl)) ?_; (with_reducible refine (sched_Rounds.calls (a0.size : Int) t1 _ A3.out).mono ?_); rintro e w' ⟨rfl, ⟨nd, rfl⟩⟩; refine ⟨_, rfl, ?_⟩) | ((with_reducible refine gate_callee (f := 134) rfl ?_); refine goesL_ (some 14) rfl rfl Try.func134 (by kernel_rfl) rfl #[.int .i64 a1, .int .i64 (a0.size : Int)] rfl (by (try simp only [lT, lC, lN]); first | done | rfl | (simp only [List.length_drop, List.length_take]; rfl) | (simp only [ByteArray.size_extract, Nat.min_self, Nat.sub_zero, ByteArray.size_append]; first | done | rfl)) ?_; (with_reducible refine (derive_Input.calls a1 (a0.size : Int) t2 _ A5.out).mono ?_); rintro e w9 ⟨rfl, hb⟩; refine ⟨_, rfl, ?_⟩; have n0_ := Aside0.mk (below_step (by repeat first | with_reducible (first | exact HB.out | apply bA | apply bN | apply bD) | exact HB.out) hb); clear HB; have HB := n0_; clear n0_; (try clear hb); (try clear hb2); (try clear hk); (try clear hi)) | ((with_reducible refine gate_callee (f := 126) rfl ?_); refine goesL_ (some 21) rfl rfl Try.func126 (by kernel_rfl) rfl #[.string a0, .string t2, .int .i64 (a0.size : Int)] rfl (by (try simp only [lT, lC, lN]); first | done | rfl | (simp only [List.length_drop, List.length_take]; rfl) | (simp only [ByteArray.size_extract, Nat.min_self, Nat.sub_zero, ByteArray.size_append]; first | done | rfl)) ?_; (with_reducible refine (kdf_Counter.calls k a0 t2 (a0.size : Int) t3 t4 _ A8.out).mono ?_); rintro e w10 ⟨rfl, hb⟩; refine ⟨_, rfl, ?_⟩; have n0_ := Aside0.mk (below_step (by repeat first | with_reducible (first | exact HB.out | apply bA | apply bN | apply bD) | exact HB.out) hb); clear HB; have HB := n0_; clear n0_; (try clear hb); (try clear hb2); (try clear hk); (try clear hi)))
   go_ret2
   exact ⟨by first | rfl | (simp [*, errW_none, errW_some] <;> rfl), by repeat first | with_reducible (first | exact HB.out | apply bA | apply bN | apply bD) | exact HB.out⟩

end Go.Proofs.Ytokkhnjedmlbhaa.Pr
end
