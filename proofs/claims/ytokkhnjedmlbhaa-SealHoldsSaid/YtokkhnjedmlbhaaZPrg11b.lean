-- several texts in one (by the session's program shake.py)
import Derived.Test.YtokkhnjedmlbhaaZPrg01x
import Derived.Test.YtokkhnjedmlbhaaZPrg08
import Derived.Test.YtokkhnjedmlbhaaZPrg01
import Derived.Test.YtokkhnjedmlbhaaZPrg12
import Derived.Test.YtokkhnjedmlbhaaZPrg09
import Derived.Test.YtokkhnjedmlbhaaZCmac
section
namespace Go.Proofs.Ytokkhnjedmlbhaa.Pr
open Go.RowKit Go.Proofs.YtokkhnjedmlbhaaW.PrintWords Go.Proofs.YtokkhnjedmlbhaaW.PrintLast Go.Proofs.YtokkhnjedmlbhaaW.PrintMore
attribute [local go_sem] max2_int min2_int max_two min_two max_three min_three max_four min_four   -- for this text's walks alone
set_option linter.unusedVariables false
set_option linter.unusedSimpArgs false

def clavigerref35_Input.j0 : Nat → Int → Int → Bool → Option (ByteArray)
 | 0, _, _, _ => none
 | k + 1, x0, x1, x22 => if x22 = true then (some (⟨#[]⟩ : ByteArray)) else ((clavigerref01_Put.f k (IntKind.u64.wrap (x0)) 2).bind fun t1 => (if t1.size + 1 ≤ 9223372036854775807 then ((clavigerref01_Put.f k (IntKind.u64.wrap (wrap64 (Int.tdiv x1 8))) 2).bind fun t2 => (if (t1 ++ (⟨#[0]⟩ : ByteArray)).size + t2.size ≤ 9223372036854775807 then ((clavigerref01_Put.f k (IntKind.u64.wrap (wrap64 (8 * x1))) 2).bind fun t3 => (if ((t1 ++ (⟨#[0]⟩ : ByteArray)) ++ t2).size + t3.size ≤ 9223372036854775807 then (some (((t1 ++ (⟨#[0]⟩ : ByteArray)) ++ t2) ++ t3)) else (none))) else (none))) else (none)))
def clavigerref35_Input.f (k : Nat) (a0 : Int) (a1 : Int) : Option (ByteArray) := if a0 < 0 then (clavigerref35_Input.j0 k a0 a1 true) else (if a0 > 1 then (clavigerref35_Input.j0 k a0 a1 true) else (if a1 = 16 then (clavigerref35_Input.j0 k a0 a1 false) else (if a1 = 24 then (clavigerref35_Input.j0 k a0 a1 false) else (clavigerref35_Input.j0 k a0 a1 (a1 != 32)))))
theorem clavigerref35_Input.mono_l : ∀ k, (∀ y4 y5 y6, LeO (clavigerref35_Input.j0 k y4 y5 y6) (clavigerref35_Input.j0 (k + 1) y4 y5 y6))
 | 0 => fun _ _ _ r h => by simp [clavigerref35_Input.j0] at h
 | k + 1 => by
  have ih0 := clavigerref35_Input.mono_l k
  ·intro y4 y5 y6
   unfold clavigerref35_Input.j0
   repeat' first
   | (with_reducible exact ih0 _ _ _)
   | (with_reducible exact clavigerref01_Put.mono _ _ _)
   | (with_reducible exact LeO.refl _)
   | (with_reducible exact LeO.none _)
   | (with_reducible refine LeO.ite ?_ ?_)
   | (with_reducible refine LeO.bind ?_ (fun _ => ?_))
theorem clavigerref35_Input.mono : ∀ a0 a1 k, LeO (clavigerref35_Input.f k a0 a1) (clavigerref35_Input.f (k + 1) a0 a1) := by
 intro a0 a1 k
 have ih0 := clavigerref35_Input.mono_l k
 unfold clavigerref35_Input.f
 repeat' first
   | (with_reducible exact ih0 _ _ _)
   | (with_reducible exact clavigerref01_Put.mono _ _ _)
   | (with_reducible exact LeO.refl _)
   | (with_reducible exact LeO.none _)
   | (with_reducible refine LeO.ite ?_ ?_)
   | (with_reducible refine LeO.bind ?_ (fun _ => ?_))
set_option maxHeartbeats 8000000 in
set_option maxRecDepth 100000 in
theorem clavigerref35_Input.calls (k : Nat) (a0 : Int) (a1 : Int) (r : ByteArray) (w : World) (h : clavigerref35_Input.f k a0 a1 = some r) :
  Calls Try.prog 135 #[.int .i64 a0, .int .i64 a1] w fun e w' => e = .returned (.string r) ∧ Below w.heap.size w w' := by
 have HB := Aside0.mk (Below.refl w.heap.size w)
 have H : (if a0 < 0 then (clavigerref35_Input.j0 k a0 a1 true) else (if a0 > 1 then (clavigerref35_Input.j0 k a0 a1 true) else (if a1 = 16 then (clavigerref35_Input.j0 k a0 a1 false) else (if a1 = 24 then (clavigerref35_Input.j0 k a0 a1 false) else (clavigerref35_Input.j0 k a0 a1 (a1 != 32)))))) = some r := h
 clear h
 have HC3 := Aside0.mk H
 clear H
 go_enter Try.func135, Try.ntmps135
 go_upto_region 1 with (fail)
 go_cut [22] (fun v22 wc => ∃ (kq : Nat) (x22_2 : Bool), v22 = .bool x22_2 ∧ Aside0 (clavigerref35_Input.j0 kq a0 a1 x22_2 = some r) ∧ Aside0 (kq ≤ k) ∧ Aside0 (Below w.heap.size w wc))
 case first =>
  have H := HC3.out
  clear HC3
  by_cases c4 : a0 < 0
  ·rw [if_pos c4] at H
   have c4b0 : decide (a0 < 0) = true := decide_eq_true c4
   clear c4
   (first | rw [c4b0] | (simp only [i64_w, i32_w]; rw [c4b0]) | skip)
   have H' := Aside0.mk H
   clear H
   go_wp2
   go_meet
   case rel => exact ⟨_, (true), (by first | rfl | (simp; done) | (simp [*]; done)), H', ⟨by first | omega | exact Nat.le_refl _⟩, ⟨by repeat first | with_reducible (first | exact HB.out | apply bA | apply bN | apply bD) | exact HB.out⟩⟩
  ·rw [if_neg c4] at H
   have c4b0 : decide (a0 < 0) = false := decide_eq_false c4
   clear c4
   (first | rw [c4b0] | (simp only [i64_w, i32_w]; rw [c4b0]) | skip)
   by_cases c5 : a0 > 1
   ·rw [if_pos c5] at H
    have c5b0 : decide (1 < a0) = true := decide_eq_true c5
    clear c5
    have H' := Aside0.mk H
    clear H
    go_wp2
    go_meet
    case rel => exact ⟨_, (true), (by first | rfl | (simp; done) | (simp [*]; done)), H', ⟨by first | omega | exact Nat.le_refl _⟩, ⟨by repeat first | with_reducible (first | exact HB.out | apply bA | apply bN | apply bD) | exact HB.out⟩⟩
   ·rw [if_neg c5] at H
    have c5b0 : decide (1 < a0) = false := decide_eq_false c5
    clear c5
    by_cases c6 : a1 = 16
    ·rw [if_pos c6] at H
     have c6b0 : (a1 == 16) = true := beq_iff_eq.mpr c6
     have c6b1 : (a1 != 16) = false := bne_eq_false_iff_eq.mpr c6
     clear c6
     have H' := Aside0.mk H
     clear H
     go_wp2
     go_meet
     case rel => exact ⟨_, (false), (by first | rfl | (simp; done) | (simp [*]; done)), H', ⟨by first | omega | exact Nat.le_refl _⟩, ⟨by repeat first | with_reducible (first | exact HB.out | apply bA | apply bN | apply bD) | exact HB.out⟩⟩
    ·rw [if_neg c6] at H
     have c6b0 : (a1 == 16) = false := beq_eq_false_iff_ne.mpr c6
     have c6b1 : (a1 != 16) = true := bne_iff_ne.mpr c6
     by_cases c7 : a1 = 24
     ·rw [if_pos c7] at H
      have c7b0 : (a1 == 24) = true := beq_iff_eq.mpr c7
      have c7b1 : (a1 != 24) = false := bne_eq_false_iff_eq.mpr c7
      clear c7
      have H' := Aside0.mk H
      clear H
      go_wp2
      go_meet
      case rel => exact ⟨_, (false), (by first | rfl | (simp; done) | (simp [*]; done)), H', ⟨by first | omega | exact Nat.le_refl _⟩, ⟨by repeat first | with_reducible (first | exact HB.out | apply bA | apply bN | apply bD) | exact HB.out⟩⟩
     ·rw [if_neg c7] at H
      have c7b0 : (a1 == 24) = false := beq_eq_false_iff_ne.mpr c7
      have c7b1 : (a1 != 24) = true := bne_iff_ne.mpr c7
      have H' := Aside0.mk H
      clear H
      go_wp2
      go_meet
      case rel => exact ⟨_, ((a1 != 32)), (by first | rfl | (simp; done) | (simp [*]; done)), H', ⟨by first | omega | exact Nat.le_refl _⟩, ⟨by repeat first | with_reducible (first | exact HB.out | apply bA | apply bN | apply bD) | exact HB.out⟩⟩
 case rest =>
  clear HC3
  try clear c1
  try clear p2
  try clear c4
  try clear c4b0
  try clear c5
  try clear c5b0
  try clear c6
  try clear c6b0
  try clear c6b1
  try clear c7
  try clear c7b0
  try clear c7b1
  obtain ⟨kq, x22_2, rfl, HA, HJ2, HB⟩ := hcut
  cases kq with
  | zero => exact absurd HA.out (by simp [clavigerref35_Input.j0])
  | succ kj2 =>
   have H := HA.out
   clear HA
   simp only [clavigerref35_Input.j0] at H
   by_cases c8 : x22_2 = true
   ·subst c8
    have H1 : (some (⟨#[]⟩ : ByteArray)) = some r := by rw [if_pos rfl] at H; exact H
    clear H
    have H := H1
    clear H1
    obtain rfl := Option.some.inj H
    go_wp2
    go_ret
    exact ⟨by first | rfl | (simp [*, errW_none, errW_some] <;> rfl), by repeat first | with_reducible (first | exact HB.out | apply bA | apply bN | apply bD) | exact HB.out⟩
   ·replace c8 := Bool.eq_false_iff.mpr c8
    subst c8
    have H1 : ((clavigerref01_Put.f kj2 (IntKind.u64.wrap (a0)) 2).bind fun t1 => (if t1.size + 1 ≤ 9223372036854775807 then ((clavigerref01_Put.f kj2 (IntKind.u64.wrap (wrap64 (Int.tdiv a1 8))) 2).bind fun t2 => (if (t1 ++ (⟨#[0]⟩ : ByteArray)).size + t2.size ≤ 9223372036854775807 then ((clavigerref01_Put.f kj2 (IntKind.u64.wrap (wrap64 (8 * a1))) 2).bind fun t3 => (if ((t1 ++ (⟨#[0]⟩ : ByteArray)) ++ t2).size + t3.size ≤ 9223372036854775807 then (some (((t1 ++ (⟨#[0]⟩ : ByteArray)) ++ t2) ++ t3)) else (none))) else (none))) else (none))) = some r := by rw [if_neg (show ¬ (false = true) by decide)] at H; exact H
    clear H
    have H := H1
    clear H1
    replace H := Option.bind_eq_some_iff.mp H
    obtain ⟨t1, A90, H⟩ := H
    try dsimp only at H
    have A9 := Aside0.mk A90
    clear A90
    by_cases c10 : t1.size + 1 ≤ 9223372036854775807
    ·rw [if_pos c10] at H
     have c10b0 := eq_true c10
     have c10b1 : decide (t1.size + 1 ≤ 9223372036854775807) = true := decide_eq_true c10
     try have c10b2 : (9223372036854775807 < t1.size + 1) = False := eq_false (Nat.not_lt.2 c10)
     replace H := Option.bind_eq_some_iff.mp H
     obtain ⟨t2, A110, H⟩ := H
     try dsimp only at H
     have A11 := Aside0.mk A110
     clear A110
     by_cases c12 : (t1 ++ (⟨#[0]⟩ : ByteArray)).size + t2.size ≤ 9223372036854775807
     ·rw [if_pos c12] at H
      have c12b0 := eq_true c12
      have c12b1 : decide ((t1 ++ (⟨#[0]⟩ : ByteArray)).size + t2.size ≤ 9223372036854775807) = true := decide_eq_true c12
      try have c12b2 : (9223372036854775807 < (t1 ++ (⟨#[0]⟩ : ByteArray)).size + t2.size) = False := eq_false (Nat.not_lt.2 c12)
      have c12b9 : (9223372036854775807 < t1.size + 1 + t2.size) = False := eq_false (by have h_ := c12; have l0_ : ((⟨#[0]⟩ : ByteArray)).size = 1 := rfl; simp only [ByteArray.size_append, ByteArray.size_extract, Nat.sub_zero] at h_; omega)
      replace H := Option.bind_eq_some_iff.mp H
      obtain ⟨t3, A130, H⟩ := H
      try dsimp only at H
      have A13 := Aside0.mk A130
      clear A130
      by_cases c14 : ((t1 ++ (⟨#[0]⟩ : ByteArray)) ++ t2).size + t3.size ≤ 9223372036854775807
      ·rw [if_pos c14] at H
       have c14b0 := eq_true c14
       have c14b1 : decide (((t1 ++ (⟨#[0]⟩ : ByteArray)) ++ t2).size + t3.size ≤ 9223372036854775807) = true := decide_eq_true c14
       try have c14b2 : (9223372036854775807 < ((t1 ++ (⟨#[0]⟩ : ByteArray)) ++ t2).size + t3.size) = False := eq_false (Nat.not_lt.2 c14)
       have c14b9 : (9223372036854775807 < t1.size + 1 + t2.size + t3.size) = False := eq_false (by have h_ := c14; have l0_ : ((⟨#[0]⟩ : ByteArray)).size = 1 := rfl; simp only [ByteArray.size_append, ByteArray.size_extract, Nat.sub_zero] at h_; omega)
       obtain rfl := Option.some.inj H
       go_wp2_with (first | ((with_reducible refine gate_callee (f := 202) rfl ?_); refine goesL_ (some 25) rfl rfl Try.func202 (by kernel_rfl) rfl #[.int .u64 (IntKind.u64.wrap (a0)), .int .i64 2] rfl (by (try simp only [lT, lC, lN]); first | done | rfl) ?_; (with_reducible refine (clavigerref01_Put.calls kj2 (IntKind.u64.wrap (a0)) 2 t1 _ A9.out).mono ?_); rintro e w15 ⟨rfl, hb⟩; refine ⟨_, rfl, ?_⟩; have n0_ := Aside0.mk (below_step (by repeat first | with_reducible (first | exact HB.out | apply bA | apply bN | apply bD) | exact HB.out) hb); clear HB; have HB := n0_; clear n0_; (try clear hb); (try clear hb2); (try clear hk); (try clear hi)) | ((with_reducible refine gate_callee (f := 202) rfl ?_); refine goesL_ (some 30) rfl rfl Try.func202 (by kernel_rfl) rfl #[.int .u64 (IntKind.u64.wrap (wrap64 (Int.tdiv a1 8))), .int .i64 2] rfl (by (try simp only [lT, lC, lN]); first | done | rfl) ?_; (with_reducible refine (clavigerref01_Put.calls kj2 (IntKind.u64.wrap (wrap64 (Int.tdiv a1 8))) 2 t2 _ A11.out).mono ?_); rintro e w16 ⟨rfl, hb⟩; refine ⟨_, rfl, ?_⟩; have n0_ := Aside0.mk (below_step (by repeat first | with_reducible (first | exact HB.out | apply bA | apply bN | apply bD) | exact HB.out) hb); clear HB; have HB := n0_; clear n0_; (try clear hb); (try clear hb2); (try clear hk); (try clear hi)) | ((with_reducible refine gate_callee (f := 202) rfl ?_); refine goesL_ (some 35) rfl rfl Try.func202 (by kernel_rfl) rfl #[.int .u64 (IntKind.u64.wrap (wrap64 (8 * a1))), .int .i64 2] rfl (by (try simp only [lT, lC, lN]); first | done | rfl) ?_; (with_reducible refine (clavigerref01_Put.calls kj2 (IntKind.u64.wrap (wrap64 (8 * a1))) 2 t3 _ A13.out).mono ?_); rintro e w17 ⟨rfl, hb⟩; refine ⟨_, rfl, ?_⟩; have n0_ := Aside0.mk (below_step (by repeat first | with_reducible (first | exact HB.out | apply bA | apply bN | apply bD) | exact HB.out) hb); clear HB; have HB := n0_; clear n0_; (try clear hb); (try clear hb2); (try clear hk); (try clear hi)))
       go_ret
       exact ⟨by first | rfl | (simp [*, errW_none, errW_some] <;> rfl), by repeat first | with_reducible (first | exact HB.out | apply bA | apply bN | apply bD) | exact HB.out⟩
      ·rw [if_neg c14] at H
       exact absurd H (by simp)
     ·rw [if_neg c12] at H
      exact absurd H (by simp)
    ·rw [if_neg c10] at H
     exact absurd H (by simp)

mutual
def clavigerref35_Key.j0 : Nat → ByteArray → Int → Bool → Option (ByteArray × Int)
 | 0, _, _, _ => none
 | k + 1, x0, x1, x18 => if x18 = true then (some ((⟨#[]⟩ : ByteArray), 2)) else (if x1 < 0 then (clavigerref35_Key.j1 k x0 x1 true) else (clavigerref35_Key.j1 k x0 x1 (decide (x1 > 1))))
def clavigerref35_Key.j1 : Nat → ByteArray → Int → Bool → Option (ByteArray × Int)
 | 0, _, _, _ => none
 | k + 1, x0, x1, x24 => if x24 = true then (some ((⟨#[]⟩ : ByteArray), 1)) else ((clavigerref35_Input.f k x1 (x0.size : Int)).bind fun t1 => ((clavigerref12_Counter.f k x0 t1 (x0.size : Int)).bind fun bt2 => (some (bt2.1, bt2.2))))
end
def clavigerref35_Key.f (k : Nat) (a0 : ByteArray) (a1 : Int) : Option (ByteArray × Int) := if (a0.size : Int) = 16 then (clavigerref35_Key.j0 k a0 a1 false) else (if (a0.size : Int) = 24 then (clavigerref35_Key.j0 k a0 a1 false) else (clavigerref35_Key.j0 k a0 a1 ((a0.size : Int) != 32)))
theorem clavigerref35_Key.mono_l : ∀ k, (∀ y3 y4 y5, LeO (clavigerref35_Key.j0 k y3 y4 y5) (clavigerref35_Key.j0 (k + 1) y3 y4 y5)) ∧ (∀ y3 y4 y5, LeO (clavigerref35_Key.j1 k y3 y4 y5) (clavigerref35_Key.j1 (k + 1) y3 y4 y5))
 | 0 => ⟨fun _ _ _ r h => by simp [clavigerref35_Key.j0] at h, fun _ _ _ r h => by simp [clavigerref35_Key.j1] at h⟩
 | k + 1 => by
  obtain ⟨ih0, ih1⟩ := clavigerref35_Key.mono_l k
  refine ⟨?_, ?_⟩
  ·intro y3 y4 y5
   unfold clavigerref35_Key.j0
   repeat' first
   | (with_reducible exact ih0 _ _ _)
   | (with_reducible exact ih1 _ _ _)
   | (with_reducible exact clavigerref12_Counter.mono _ _ _ _)
   | (with_reducible exact clavigerref35_Input.mono _ _ _)
   | (with_reducible exact LeO.refl _)
   | (with_reducible exact LeO.none _)
   | (with_reducible refine LeO.ite ?_ ?_)
   | (with_reducible refine LeO.bind ?_ (fun _ => ?_))
  ·intro y3 y4 y5
   unfold clavigerref35_Key.j1
   repeat' first
   | (with_reducible exact ih0 _ _ _)
   | (with_reducible exact ih1 _ _ _)
   | (with_reducible exact clavigerref12_Counter.mono _ _ _ _)
   | (with_reducible exact clavigerref35_Input.mono _ _ _)
   | (with_reducible exact LeO.refl _)
   | (with_reducible exact LeO.none _)
   | (with_reducible refine LeO.ite ?_ ?_)
   | (with_reducible refine LeO.bind ?_ (fun _ => ?_))
theorem clavigerref35_Key.mono : ∀ a0 a1 k, LeO (clavigerref35_Key.f k a0 a1) (clavigerref35_Key.f (k + 1) a0 a1) := by
 intro a0 a1 k
 obtain ⟨ih0, ih1⟩ := clavigerref35_Key.mono_l k
 unfold clavigerref35_Key.f
 repeat' first
   | (with_reducible exact ih0 _ _ _)
   | (with_reducible exact ih1 _ _ _)
   | (with_reducible exact clavigerref12_Counter.mono _ _ _ _)
   | (with_reducible exact clavigerref35_Input.mono _ _ _)
   | (with_reducible exact LeO.refl _)
   | (with_reducible exact LeO.none _)
   | (with_reducible refine LeO.ite ?_ ?_)
   | (with_reducible refine LeO.bind ?_ (fun _ => ?_))
set_option maxHeartbeats 8000000 in
set_option maxRecDepth 100000 in
theorem clavigerref35_Key.calls (k : Nat) (a0 : ByteArray) (a1 : Int) (r1 : ByteArray) (r2 : Int) (w : World) (h : clavigerref35_Key.f k a0 a1 = some (r1, r2)) :
  Calls Try.prog 133 #[.string a0, .int .i64 a1] w fun e w' => e = .returned (.tuple #[.string r1, .int .i64 r2]) ∧ Below w.heap.size w w' := by
 have HB := Aside0.mk (Below.refl w.heap.size w)
 have H : (if (a0.size : Int) = 16 then (clavigerref35_Key.j0 k a0 a1 false) else (if (a0.size : Int) = 24 then (clavigerref35_Key.j0 k a0 a1 false) else (clavigerref35_Key.j0 k a0 a1 ((a0.size : Int) != 32)))) = some (r1, r2) := h
 clear h
 have HC3 := Aside0.mk H
 clear H
 go_enter Try.func133, Try.ntmps133
 go_upto_region 1 with (fail)
 go_cut [18] (fun v18 wc => ∃ (kq : Nat) (x18_2 : Bool), v18 = .bool x18_2 ∧ Aside0 (clavigerref35_Key.j0 kq a0 a1 x18_2 = some (r1, r2)) ∧ Aside0 (kq ≤ k) ∧ Aside0 (Below w.heap.size w wc))
 case first =>
  have H := HC3.out
  clear HC3
  by_cases c4 : (a0.size : Int) = 16
  ·rw [if_pos c4] at H
   have c4b0 : ((a0.size : Int) == 16) = true := beq_iff_eq.mpr c4
   have c4b1 : ((a0.size : Int) != 16) = false := bne_eq_false_iff_eq.mpr c4
   clear c4
   (first | rw [c4b0] | (simp only [i64_w, i32_w]; rw [c4b0]) | skip)
   have H' := Aside0.mk H
   clear H
   go_wp2
   go_meet
   case rel => exact ⟨_, (false), (by first | rfl | (simp; done) | (simp [*]; done)), H', ⟨by first | omega | exact Nat.le_refl _⟩, ⟨by repeat first | with_reducible (first | exact HB.out | apply bA | apply bN | apply bD) | exact HB.out⟩⟩
  ·rw [if_neg c4] at H
   have c4b0 : ((a0.size : Int) == 16) = false := beq_eq_false_iff_ne.mpr c4
   have c4b1 : ((a0.size : Int) != 16) = true := bne_iff_ne.mpr c4
   (first | rw [c4b0] | (simp only [i64_w, i32_w]; rw [c4b0]) | skip)
   by_cases c5 : (a0.size : Int) = 24
   ·rw [if_pos c5] at H
    have c5b0 : ((a0.size : Int) == 24) = true := beq_iff_eq.mpr c5
    have c5b1 : ((a0.size : Int) != 24) = false := bne_eq_false_iff_eq.mpr c5
    clear c5
    have H' := Aside0.mk H
    clear H
    go_wp2
    go_meet
    case rel => exact ⟨_, (false), (by first | rfl | (simp; done) | (simp [*]; done)), H', ⟨by first | omega | exact Nat.le_refl _⟩, ⟨by repeat first | with_reducible (first | exact HB.out | apply bA | apply bN | apply bD) | exact HB.out⟩⟩
   ·rw [if_neg c5] at H
    have c5b0 : ((a0.size : Int) == 24) = false := beq_eq_false_iff_ne.mpr c5
    have c5b1 : ((a0.size : Int) != 24) = true := bne_iff_ne.mpr c5
    have H' := Aside0.mk H
    clear H
    go_wp2
    go_meet
    case rel => exact ⟨_, (((a0.size : Int) != 32)), (by first | rfl | (simp; done) | (simp [*]; done)), H', ⟨by first | omega | exact Nat.le_refl _⟩, ⟨by repeat first | with_reducible (first | exact HB.out | apply bA | apply bN | apply bD) | exact HB.out⟩⟩
 case rest =>
  clear HC3
  try clear c1
  try clear p2
  try clear c4
  try clear c4b0
  try clear c4b1
  try clear c5
  try clear c5b0
  try clear c5b1
  obtain ⟨kq, x18_2, rfl, HA, HJ2, HB⟩ := hcut
  cases kq with
  | zero => exact absurd HA.out (by simp [clavigerref35_Key.j0])
  | succ kj2 =>
   have H := HA.out
   clear HA
   simp only [clavigerref35_Key.j0] at H
   by_cases c6 : x18_2 = true
   ·subst c6
    have H1 : (some ((⟨#[]⟩ : ByteArray), 2)) = some (r1, r2) := by rw [if_pos rfl] at H; exact H
    clear H
    have H := H1
    clear H1
    simp only [Option.some.injEq, Prod.mk.injEq] at H
    obtain ⟨rfl, rfl⟩ := H
    go_wp2
    go_ret2
    exact ⟨by first | rfl | (simp [*, errW_none, errW_some] <;> rfl), by repeat first | with_reducible (first | exact HB.out | apply bA | apply bN | apply bD) | exact HB.out⟩
   ·replace c6 := Bool.eq_false_iff.mpr c6
    subst c6
    have H1 : (if a1 < 0 then (clavigerref35_Key.j1 kj2 a0 a1 true) else (clavigerref35_Key.j1 kj2 a0 a1 (decide (a1 > 1)))) = some (r1, r2) := by rw [if_neg (show ¬ (false = true) by decide)] at H; exact H
    clear H
    have H := H1
    clear H1
    have HC7 := Aside0.mk H
    clear H
    go_upto_region 3 with (fail)
    go_cut [24] (fun v24 wc => ∃ (kq : Nat) (x24_6 : Bool), v24 = .bool x24_6 ∧ Aside0 (clavigerref35_Key.j1 kq a0 a1 x24_6 = some (r1, r2)) ∧ Aside0 (kq ≤ kj2) ∧ Aside0 (Below w.heap.size w wc))
    case first =>
     have H := HC7.out
     clear HC7
     by_cases c8 : a1 < 0
     ·rw [if_pos c8] at H
      have c8b0 : decide (a1 < 0) = true := decide_eq_true c8
      clear c8
      (first | rw [c8b0] | (simp only [i64_w, i32_w]; rw [c8b0]) | skip)
      have H' := Aside0.mk H
      clear H
      go_wp2
      go_meet
      case rel => exact ⟨_, (true), (by first | rfl | (simp; done) | (simp [*]; done)), H', ⟨by have := HJ2.out; first | omega | exact Nat.le_refl _⟩, ⟨by repeat first | with_reducible (first | exact HB.out | apply bA | apply bN | apply bD) | exact HB.out⟩⟩
     ·rw [if_neg c8] at H
      have c8b0 : decide (a1 < 0) = false := decide_eq_false c8
      clear c8
      (first | rw [c8b0] | (simp only [i64_w, i32_w]; rw [c8b0]) | skip)
      have H' := Aside0.mk H
      clear H
      go_wp2
      go_meet
      case rel => exact ⟨_, (decide (a1 > 1)), (by first | rfl | (simp; done) | (simp [*]; done)), H', ⟨by have := HJ2.out; first | omega | exact Nat.le_refl _⟩, ⟨by repeat first | with_reducible (first | exact HB.out | apply bA | apply bN | apply bD) | exact HB.out⟩⟩
    case rest =>
     clear HC7
     try clear c1
     try clear p2
     try clear c4
     try clear c4b0
     try clear c4b1
     try clear c5
     try clear c5b0
     try clear c5b1
     try clear c6
     try clear c8
     try clear c8b0
     try clear p2
     obtain ⟨kq, x24_6, rfl, HA, HJ6, HB⟩ := hcut
     cases kq with
     | zero => exact absurd HA.out (by simp [clavigerref35_Key.j1])
     | succ kj6 =>
      have H := HA.out
      clear HA
      simp only [clavigerref35_Key.j1] at H
      by_cases c9 : x24_6 = true
      ·subst c9
       have H1 : (some ((⟨#[]⟩ : ByteArray), 1)) = some (r1, r2) := by rw [if_pos rfl] at H; exact H
       clear H
       have H := H1
       clear H1
       simp only [Option.some.injEq, Prod.mk.injEq] at H
       obtain ⟨rfl, rfl⟩ := H
       go_wp2
       go_ret2
       exact ⟨by first | rfl | (simp [*, errW_none, errW_some] <;> rfl), by repeat first | with_reducible (first | exact HB.out | apply bA | apply bN | apply bD) | exact HB.out⟩
      ·replace c9 := Bool.eq_false_iff.mpr c9
       subst c9
       have H1 : ((clavigerref35_Input.f kj6 a1 (a0.size : Int)).bind fun t1 => ((clavigerref12_Counter.f kj6 a0 t1 (a0.size : Int)).bind fun bt2 => (some (bt2.1, bt2.2)))) = some (r1, r2) := by rw [if_neg (show ¬ (false = true) by decide)] at H; exact H
       clear H
       have H := H1
       clear H1
       replace H := Option.bind_eq_some_iff.mp H
       obtain ⟨t1, A100, H⟩ := H
       try dsimp only at H
       have A10 := Aside0.mk A100
       clear A100
       replace H := Option.bind_eq_some_iff.mp H
       obtain ⟨⟨t2, t6⟩, A110, H⟩ := H
       replace H : (some (t2, t6)) = some (r1, r2) := H
       have A11 := Aside0.mk A110
       clear A110
       simp only [Option.some.injEq, Prod.mk.injEq] at H
       obtain ⟨rfl, rfl⟩ := H
       go_wp2_with (first | ((with_reducible refine gate_callee (f := 135) rfl ?_); refine goesL_ (some 29) rfl rfl Try.func135 (by kernel_rfl) rfl #[.int .i64 a1, .int .i64 (a0.size : Int)] rfl (by (try simp only [lT, lC, lN]); first | done | rfl | (simp only [List.length_drop, List.length_take]; rfl) | (simp only [ByteArray.size_extract, Nat.min_self, Nat.sub_zero, ByteArray.size_append]; first | done | rfl)) ?_; (with_reducible refine (clavigerref35_Input.calls kj6 a1 (a0.size : Int) t1 _ A10.out).mono ?_); rintro e w12 ⟨rfl, hb⟩; refine ⟨_, rfl, ?_⟩; have n0_ := Aside0.mk (below_step (by repeat first | with_reducible (first | exact HB.out | apply bA | apply bN | apply bD) | exact HB.out) hb); clear HB; have HB := n0_; clear n0_; (try clear hb); (try clear hb2); (try clear hk); (try clear hi)) | ((with_reducible refine gate_callee (f := 127) rfl ?_); refine goesL_ (some 32) rfl rfl Try.func127 (by kernel_rfl) rfl #[.string a0, .string t1, .int .i64 (a0.size : Int)] rfl (by (try simp only [lT, lC, lN]); first | done | rfl | (simp only [List.length_drop, List.length_take]; rfl) | (simp only [ByteArray.size_extract, Nat.min_self, Nat.sub_zero, ByteArray.size_append]; first | done | rfl)) ?_; (with_reducible refine (clavigerref12_Counter.calls kj6 a0 t1 (a0.size : Int) t2 t6 _ A11.out).mono ?_); rintro e w13 ⟨rfl, hb⟩; refine ⟨_, rfl, ?_⟩; have n0_ := Aside0.mk (below_step (by repeat first | with_reducible (first | exact HB.out | apply bA | apply bN | apply bD) | exact HB.out) hb); clear HB; have HB := n0_; clear n0_; (try clear hb); (try clear hb2); (try clear hk); (try clear hi)))
       go_ret2
       exact ⟨by first | rfl | (simp [*, errW_none, errW_some] <;> rfl), by repeat first | with_reducible (first | exact HB.out | apply bA | apply bN | apply bD) | exact HB.out⟩

def clavigerref35_Keys.f (k : Nat) (a0 : ByteArray) : Option (ByteArray × ByteArray × Int) := (clavigerref35_Key.f k a0 0).bind fun bt1 => ((clavigerref35_Key.f k a0 1).bind fun bt2 => (some (bt1.1, bt2.1, bt1.2)))
theorem clavigerref35_Keys.mono : ∀ a0 k, LeO (clavigerref35_Keys.f k a0) (clavigerref35_Keys.f (k + 1) a0) := by
 intro a0 k
 unfold clavigerref35_Keys.f
 repeat' first
   | (with_reducible exact clavigerref35_Key.mono _ _ _)
   | (with_reducible exact LeO.refl _)
   | (with_reducible exact LeO.none _)
   | (with_reducible refine LeO.ite ?_ ?_)
   | (with_reducible refine LeO.bind ?_ (fun _ => ?_))
set_option maxHeartbeats 8000000 in
set_option maxRecDepth 100000 in
theorem clavigerref35_Keys.calls (k : Nat) (a0 : ByteArray) (r1 : ByteArray) (r2 : ByteArray) (r3 : Int) (w : World) (h : clavigerref35_Keys.f k a0 = some (r1, r2, r3)) :
  Calls Try.prog 72 #[.string a0] w fun e w' => e = .returned (.tuple #[.string r1, .string r2, .int .i64 r3]) ∧ Below w.heap.size w w' := by
 have HB := Aside0.mk (Below.refl w.heap.size w)
 have H : ((clavigerref35_Key.f k a0 0).bind fun bt1 => ((clavigerref35_Key.f k a0 1).bind fun bt2 => (some (bt1.1, bt2.1, bt1.2)))) = some (r1, r2, r3) := h
 clear h
 replace H := Option.bind_eq_some_iff.mp H
 obtain ⟨⟨t1, t3⟩, A20, H⟩ := H
 try dsimp only at H
 have A2 := Aside0.mk A20
 clear A20
 replace H := Option.bind_eq_some_iff.mp H
 obtain ⟨⟨t2, t4⟩, A30, H⟩ := H
 replace H : (some (t1, t2, t3)) = some (r1, r2, r3) := H
 have A3 := Aside0.mk A30
 clear A30
 simp only [Option.some.injEq, Prod.mk.injEq] at H
 obtain ⟨rfl, rfl, rfl⟩ := H
 go_enter Try.func72, Try.ntmps72
 go_wp2_with (first | ((with_reducible refine gate_callee (f := 133) rfl ?_); refine goesL_ (some 11) rfl rfl Try.func133 (by kernel_rfl) rfl #[.string a0, .int .i64 0] rfl (by (try simp only [lT, lC, lN]); first | done | rfl) ?_; (with_reducible refine (clavigerref35_Key.calls k a0 0 t1 t3 _ A2.out).mono ?_); rintro e w4 ⟨rfl, hb⟩; refine ⟨_, rfl, ?_⟩; have n0_ := Aside0.mk (below_step (by repeat first | with_reducible (first | exact HB.out | apply bA | apply bN | apply bD) | exact HB.out) hb); clear HB; have HB := n0_; clear n0_; (try clear hb); (try clear hb2); (try clear hk); (try clear hi)) | ((with_reducible refine gate_callee (f := 133) rfl ?_); refine goesL_ (some 16) rfl rfl Try.func133 (by kernel_rfl) rfl #[.string a0, .int .i64 1] rfl (by (try simp only [lT, lC, lN]); first | done | rfl) ?_; (with_reducible refine (clavigerref35_Key.calls k a0 1 t2 t4 _ A3.out).mono ?_); rintro e w5 ⟨rfl, hb⟩; refine ⟨_, rfl, ?_⟩; have n0_ := Aside0.mk (below_step (by repeat first | with_reducible (first | exact HB.out | apply bA | apply bN | apply bD) | exact HB.out) hb); clear HB; have HB := n0_; clear n0_; (try clear hb); (try clear hb2); (try clear hk); (try clear hi)))
 go_ret3
 exact ⟨by first | rfl | (simp [*, errW_none, errW_some] <;> rfl), by repeat first | with_reducible (first | exact HB.out | apply bA | apply bN | apply bD) | exact HB.out⟩

def derive_algorithm.f (a0 : Int) : Option (Int) := (sched_Rounds.f a0).bind fun t1 => (some (wrap64 ((wrap64 (Int.tdiv t1 2)) - 3)))
set_option maxHeartbeats 8000000 in
set_option maxRecDepth 100000 in
theorem derive_algorithm.calls (a0 : Int) (r : Int) (w : World) (h : derive_algorithm.f a0 = some r) :
  Calls Try.prog 203 #[.int .i64 a0] w fun e w' => e = .returned (.int .i64 r) ∧ Drawn0 w w' := by
 have H : ((sched_Rounds.f a0).bind fun t1 => (some (wrap64 ((wrap64 (Int.tdiv t1 2)) - 3)))) = some r := h
 clear h
 replace H := Option.bind_eq_some_iff.mp H
 obtain ⟨t1, A20, H⟩ := H
 try dsimp only at H
 have A2 := Aside0.mk A20
 clear A20
 obtain rfl := Option.some.inj H
 go_enter Try.func203, Try.ntmps203
 go_wp2_with (first | ((with_reducible refine gate_callee (f := 88) rfl ?_); refine goesL_ (some 4) rfl rfl Try.func88 (by kernel_rfl) rfl #[.int .i64 a0] rfl (by (try simp only [lT, lC, lN]); first | done | rfl) ?_; (with_reducible refine (sched_Rounds.calls a0 t1 _ A2.out).mono ?_); rintro e w' ⟨rfl, ⟨nd, rfl⟩⟩; refine ⟨_, rfl, ?_⟩))
 go_ret
 exact ⟨by first | rfl | (simp; done) | (simp [*]; done) | (simp [IntKind.wrap_u8, IntKind.wrap_i64, wrap64]; done), by repeat (first | exact Drawn0.refl _ | apply Drawn0.step)⟩

end Go.Proofs.Ytokkhnjedmlbhaa.Pr
end
section
namespace Go.Proofs.Ytokkhnjedmlbhaa.Pr
open Go.RowKit Go.Proofs.YtokkhnjedmlbhaaW.PrintWords Go.Proofs.YtokkhnjedmlbhaaW.PrintLast Go.Proofs.YtokkhnjedmlbhaaW.PrintMore
attribute [local go_sem] max2_int min2_int max_two min_two max_three min_three max_four min_four   -- for this text's walks alone
set_option linter.unusedVariables false
set_option linter.unusedSimpArgs false

def clavigerref10_bad.j0 : Nat → ByteArray → ByteArray → Bool → Option (Int)
 | 0, _, _, _ => none
 | k + 1, x1, x2, x19 => if x19 = true then (some 2) else (if (x1.size : Int) = 16 then (if ((x2.size : Int) % 16) = 0 then (some 0) else (some 4)) else (some 1))
def clavigerref10_bad.f (k : Nat) (a0 : ByteArray) (a1 : ByteArray) (a2 : ByteArray) : Option (Int) := if (a0.size : Int) = 16 then (clavigerref10_bad.j0 k a1 a2 false) else (if (a0.size : Int) = 24 then (clavigerref10_bad.j0 k a1 a2 false) else (clavigerref10_bad.j0 k a1 a2 ((a0.size : Int) != 32)))
theorem clavigerref10_bad.mono_l : ∀ k, (∀ y1 y2 y3, LeO (clavigerref10_bad.j0 k y1 y2 y3) (clavigerref10_bad.j0 (k + 1) y1 y2 y3))
 | 0 => fun _ _ _ r h => by simp [clavigerref10_bad.j0] at h
 | k + 1 => by
  have ih0 := clavigerref10_bad.mono_l k
  ·intro y1 y2 y3
   unfold clavigerref10_bad.j0
   repeat' first
   | (with_reducible exact ih0 _ _ _)
   | (with_reducible exact LeO.refl _)
   | (with_reducible exact LeO.none _)
   | (with_reducible refine LeO.ite ?_ ?_)
   | (with_reducible refine LeO.bind ?_ (fun _ => ?_))
theorem clavigerref10_bad.mono : ∀ a0 a1 a2 k, LeO (clavigerref10_bad.f k a0 a1 a2) (clavigerref10_bad.f (k + 1) a0 a1 a2) := by
 intro a0 a1 a2 k
 have ih0 := clavigerref10_bad.mono_l k
 unfold clavigerref10_bad.f
 repeat' first
   | (with_reducible exact ih0 _ _ _)
   | (with_reducible exact LeO.refl _)
   | (with_reducible exact LeO.none _)
   | (with_reducible refine LeO.ite ?_ ?_)
   | (with_reducible refine LeO.bind ?_ (fun _ => ?_))
set_option maxHeartbeats 8000000 in
set_option maxRecDepth 100000 in
theorem clavigerref10_bad.calls (k : Nat) (a0 : ByteArray) (a1 : ByteArray) (a2 : ByteArray) (r : Int) (w : World) (h : clavigerref10_bad.f k a0 a1 a2 = some r) :
  Calls Try.prog 177 #[.string a0, .string a1, .string a2] w fun e w' => e = .returned (.int .i64 r) ∧ Drawn0 w w' := by
 have H : (if (a0.size : Int) = 16 then (clavigerref10_bad.j0 k a1 a2 false) else (if (a0.size : Int) = 24 then (clavigerref10_bad.j0 k a1 a2 false) else (clavigerref10_bad.j0 k a1 a2 ((a0.size : Int) != 32)))) = some r := h
 clear h
 have HC4 := Aside0.mk H
 clear H
 go_enter Try.func177, Try.ntmps177
 go_upto_region 1 with (fail)
 go_cut [19] (fun v19 wc => ∃ (kq : Nat) (x19_3 : Bool), v19 = .bool x19_3 ∧ Aside0 (clavigerref10_bad.j0 kq a1 a2 x19_3 = some r) ∧ Aside0 (kq ≤ k) ∧ Drawn0 w wc)
 case first =>
  have H := HC4.out
  clear HC4
  by_cases c5 : (a0.size : Int) = 16
  ·rw [if_pos c5] at H
   have c5b0 : ((a0.size : Int) == 16) = true := beq_iff_eq.mpr c5
   have c5b1 : ((a0.size : Int) != 16) = false := bne_eq_false_iff_eq.mpr c5
   clear c5
   (first | rw [c5b0] | (simp only [i64_w, i32_w]; rw [c5b0]) | skip)
   have H' := Aside0.mk H
   clear H
   go_wp2
   go_meet
   case rel => exact ⟨_, (false), (by first | rfl | (simp; done) | (simp [*]; done)), H', ⟨by first | omega | exact Nat.le_refl _⟩, by repeat (first | exact Drawn0.refl _ | apply Drawn0.step)⟩
  ·rw [if_neg c5] at H
   have c5b0 : ((a0.size : Int) == 16) = false := beq_eq_false_iff_ne.mpr c5
   have c5b1 : ((a0.size : Int) != 16) = true := bne_iff_ne.mpr c5
   (first | rw [c5b0] | (simp only [i64_w, i32_w]; rw [c5b0]) | skip)
   by_cases c6 : (a0.size : Int) = 24
   ·rw [if_pos c6] at H
    have c6b0 : ((a0.size : Int) == 24) = true := beq_iff_eq.mpr c6
    have c6b1 : ((a0.size : Int) != 24) = false := bne_eq_false_iff_eq.mpr c6
    clear c6
    have H' := Aside0.mk H
    clear H
    go_wp2
    go_meet
    case rel => exact ⟨_, (false), (by first | rfl | (simp; done) | (simp [*]; done)), H', ⟨by first | omega | exact Nat.le_refl _⟩, by repeat (first | exact Drawn0.refl _ | apply Drawn0.step)⟩
   ·rw [if_neg c6] at H
    have c6b0 : ((a0.size : Int) == 24) = false := beq_eq_false_iff_ne.mpr c6
    have c6b1 : ((a0.size : Int) != 24) = true := bne_iff_ne.mpr c6
    have H' := Aside0.mk H
    clear H
    go_wp2
    go_meet
    case rel => exact ⟨_, (((a0.size : Int) != 32)), (by first | rfl | (simp; done) | (simp [*]; done)), H', ⟨by first | omega | exact Nat.le_refl _⟩, by repeat (first | exact Drawn0.refl _ | apply Drawn0.step)⟩
 case rest =>
  clear HC4
  try clear c1
  try clear p2
  try clear c5
  try clear c5b0
  try clear c5b1
  try clear c6
  try clear c6b0
  try clear c6b1
  obtain ⟨kq, x19_3, rfl, HA, HJ3, ⟨mc3, rfl⟩⟩ := hcut
  cases kq with
  | zero => exact absurd HA.out (by simp [clavigerref10_bad.j0])
  | succ kj3 =>
   have H := HA.out
   clear HA
   simp only [clavigerref10_bad.j0] at H
   by_cases c7 : x19_3 = true
   ·subst c7
    have H1 : (some 2) = some r := by rw [if_pos rfl] at H; exact H
    clear H
    have H := H1
    clear H1
    obtain rfl := Option.some.inj H
    go_wp2
    go_ret
    exact ⟨by first | rfl | (simp; done) | (simp [*]; done) | (simp [IntKind.wrap_u8, IntKind.wrap_i64, wrap64]; done), by repeat (first | exact Drawn0.refl _ | apply Drawn0.step)⟩
   ·replace c7 := Bool.eq_false_iff.mpr c7
    subst c7
    have H1 : (if (a1.size : Int) = 16 then (if ((a2.size : Int) % 16) = 0 then (some 0) else (some 4)) else (some 1)) = some r := by rw [if_neg (show ¬ (false = true) by decide)] at H; exact H
    clear H
    have H := H1
    clear H1
    by_cases c8 : (a1.size : Int) = 16
    ·rw [if_pos c8] at H
     have c8b0 : ((a1.size : Int) == 16) = true := beq_iff_eq.mpr c8
     have c8b1 : ((a1.size : Int) != 16) = false := bne_eq_false_iff_eq.mpr c8
     clear c8
     by_cases c9 : ((a2.size : Int) % 16) = 0
     ·rw [if_pos c9] at H
      have c9b0 : (((a2.size : Int) % 16) == 0) = true := beq_iff_eq.mpr c9
      have c9b1 : (((a2.size : Int) % 16) != 0) = false := bne_eq_false_iff_eq.mpr c9
      clear c9
      obtain rfl := Option.some.inj H
      go_wp2
      go_ret
      exact ⟨by first | rfl | (simp; done) | (simp [*]; done) | (simp [IntKind.wrap_u8, IntKind.wrap_i64, wrap64]; done), by repeat (first | exact Drawn0.refl _ | apply Drawn0.step)⟩
     ·rw [if_neg c9] at H
      have c9b0 : (((a2.size : Int) % 16) == 0) = false := beq_eq_false_iff_ne.mpr c9
      have c9b1 : (((a2.size : Int) % 16) != 0) = true := bne_iff_ne.mpr c9
      obtain rfl := Option.some.inj H
      go_wp2
      go_ret
      exact ⟨by first | rfl | (simp; done) | (simp [*]; done) | (simp [IntKind.wrap_u8, IntKind.wrap_i64, wrap64]; done), by repeat (first | exact Drawn0.refl _ | apply Drawn0.step)⟩
    ·rw [if_neg c8] at H
     have c8b0 : ((a1.size : Int) == 16) = false := beq_eq_false_iff_ne.mpr c8
     have c8b1 : ((a1.size : Int) != 16) = true := bne_iff_ne.mpr c8
     obtain rfl := Option.some.inj H
     go_wp2
     go_ret
     exact ⟨by first | rfl | (simp; done) | (simp [*]; done) | (simp [IntKind.wrap_u8, IntKind.wrap_i64, wrap64]; done), by repeat (first | exact Drawn0.refl _ | apply Drawn0.step)⟩

def clavigerref10_Encrypt.l0 : Nat → ByteArray → ByteArray → ByteArray → ByteArray → Int → Option (ByteArray × Int)
 | 0, _, _, _, _, _ => none
 | k + 1, x0, x1, x2, x9, x10 => if x10 < (x2.size : Int) then (if 0 ≤ x10 then (if x10 ≤ (wrap64 (x10 + 16)) then (if (wrap64 (x10 + 16)) ≤ (x2.size : Int) then ((clavigerref01_Xor.f k (x2.extract (x10 : Int).toNat ((wrap64 (x10 + 16)) : Int).toNat) x1).bind fun t1 => ((clavigerref09_Encrypt.f k x0 t1).bind fun bt2 => (if x9.size + bt2.1.size ≤ 9223372036854775807 then (clavigerref10_Encrypt.l0 k x0 bt2.1 x2 (x9 ++ bt2.1) (wrap64 (x10 + 16))) else (none)))) else (none)) else (none)) else (none)) else (some (x9, 0))
def clavigerref10_Encrypt.f (k : Nat) (a0 : ByteArray) (a1 : ByteArray) (a2 : ByteArray) : Option (ByteArray × Int) := (clavigerref10_bad.f k a0 a1 a2).bind fun t3 => (if t3 = 0 then (clavigerref10_Encrypt.l0 k a0 a1 a2 (⟨#[]⟩ : ByteArray) 0) else (some ((⟨#[]⟩ : ByteArray), t3)))
theorem clavigerref10_Encrypt.mono_l : ∀ k, (∀ y4 y5 y6 y7 y8, LeO (clavigerref10_Encrypt.l0 k y4 y5 y6 y7 y8) (clavigerref10_Encrypt.l0 (k + 1) y4 y5 y6 y7 y8))
 | 0 => fun _ _ _ _ _ r h => by simp [clavigerref10_Encrypt.l0] at h
 | k + 1 => by
  have ih0 := clavigerref10_Encrypt.mono_l k
  ·intro y4 y5 y6 y7 y8
   unfold clavigerref10_Encrypt.l0
   repeat' first
   | (with_reducible exact ih0 _ _ _ _ _)
   | (with_reducible exact clavigerref01_Xor.mono _ _ _)
   | (with_reducible exact clavigerref09_Encrypt.mono _ _ _)
   | (with_reducible exact clavigerref10_bad.mono _ _ _ _)
   | (with_reducible exact LeO.refl _)
   | (with_reducible exact LeO.none _)
   | (with_reducible refine LeO.ite ?_ ?_)
   | (with_reducible refine LeO.bind ?_ (fun _ => ?_))
theorem clavigerref10_Encrypt.mono : ∀ a0 a1 a2 k, LeO (clavigerref10_Encrypt.f k a0 a1 a2) (clavigerref10_Encrypt.f (k + 1) a0 a1 a2) := by
 intro a0 a1 a2 k
 have ih0 := clavigerref10_Encrypt.mono_l k
 unfold clavigerref10_Encrypt.f
 repeat' first
   | (with_reducible exact ih0 _ _ _ _ _)
   | (with_reducible exact clavigerref01_Xor.mono _ _ _)
   | (with_reducible exact clavigerref09_Encrypt.mono _ _ _)
   | (with_reducible exact clavigerref10_bad.mono _ _ _ _)
   | (with_reducible exact LeO.refl _)
   | (with_reducible exact LeO.none _)
   | (with_reducible refine LeO.ite ?_ ?_)
   | (with_reducible refine LeO.bind ?_ (fun _ => ?_))
def clavigerref10_Decrypt.l0 : Nat → ByteArray → ByteArray → ByteArray → ByteArray → Int → Option (ByteArray × Int)
 | 0, _, _, _, _, _ => none
 | k + 1, x1, x2, x9, x10, x12 => if x12 < (x2.size : Int) then (if 0 ≤ x12 then (if x12 ≤ (wrap64 (x12 + 16)) then (if (wrap64 (x12 + 16)) ≤ (x10.size : Int) then ((clavigerref01_Xor.f k (x10.extract (x12 : Int).toNat ((wrap64 (x12 + 16)) : Int).toNat) x1).bind fun t1 => (if x9.size + t1.size ≤ 9223372036854775807 then (if (wrap64 (x12 + 16)) ≤ (x2.size : Int) then (clavigerref10_Decrypt.l0 k (x2.extract (x12 : Int).toNat ((wrap64 (x12 + 16)) : Int).toNat) x2 (x9 ++ t1) x10 (wrap64 (x12 + 16))) else (none)) else (none))) else (none)) else (none)) else (none)) else (some (x9, 0))
def clavigerref10_Decrypt.f (k : Nat) (a0 : ByteArray) (a1 : ByteArray) (a2 : ByteArray) : Option (ByteArray × Int) := (clavigerref10_bad.f k a0 a1 a2).bind fun t2 => (if t2 = 0 then ((clavigerref09_Many.f k a0 a2 true).bind fun bt3 => (clavigerref10_Decrypt.l0 k a1 a2 (⟨#[]⟩ : ByteArray) bt3.1 0)) else (some ((⟨#[]⟩ : ByteArray), t2)))
theorem clavigerref10_Decrypt.mono_l : ∀ k, (∀ y4 y5 y6 y7 y8, LeO (clavigerref10_Decrypt.l0 k y4 y5 y6 y7 y8) (clavigerref10_Decrypt.l0 (k + 1) y4 y5 y6 y7 y8))
 | 0 => fun _ _ _ _ _ r h => by simp [clavigerref10_Decrypt.l0] at h
 | k + 1 => by
  have ih0 := clavigerref10_Decrypt.mono_l k
  ·intro y4 y5 y6 y7 y8
   unfold clavigerref10_Decrypt.l0
   repeat' first
   | (with_reducible exact ih0 _ _ _ _ _)
   | (with_reducible exact clavigerref01_Xor.mono _ _ _)
   | (with_reducible exact clavigerref09_Many.mono _ _ _ _)
   | (with_reducible exact clavigerref10_bad.mono _ _ _ _)
   | (with_reducible exact LeO.refl _)
   | (with_reducible exact LeO.none _)
   | (with_reducible refine LeO.ite ?_ ?_)
   | (with_reducible refine LeO.bind ?_ (fun _ => ?_))
theorem clavigerref10_Decrypt.mono : ∀ a0 a1 a2 k, LeO (clavigerref10_Decrypt.f k a0 a1 a2) (clavigerref10_Decrypt.f (k + 1) a0 a1 a2) := by
 intro a0 a1 a2 k
 have ih0 := clavigerref10_Decrypt.mono_l k
 unfold clavigerref10_Decrypt.f
 repeat' first
   | (with_reducible exact ih0 _ _ _ _ _)
   | (with_reducible exact clavigerref01_Xor.mono _ _ _)
   | (with_reducible exact clavigerref09_Many.mono _ _ _ _)
   | (with_reducible exact clavigerref10_bad.mono _ _ _ _)
   | (with_reducible exact LeO.refl _)
   | (with_reducible exact LeO.none _)
   | (with_reducible refine LeO.ite ?_ ?_)
   | (with_reducible refine LeO.bind ?_ (fun _ => ?_))
set_option maxHeartbeats 8000000 in
set_option maxRecDepth 100000 in
theorem clavigerref10_Decrypt.calls (k : Nat) (a0 : ByteArray) (a1 : ByteArray) (a2 : ByteArray) (r1 : ByteArray) (r2 : Int) (w : World) (h : clavigerref10_Decrypt.f k a0 a1 a2 = some (r1, r2)) :
  Calls Try.prog 73 #[.string a0, .string a1, .string a2] w fun e w' => e = .returned (.tuple #[.string r1, .int .i64 r2]) ∧ Below w.heap.size w w' := by
 have HB := Aside0.mk (Below.refl w.heap.size w)
 have H : ((clavigerref10_bad.f k a0 a1 a2).bind fun t2 => (if t2 = 0 then ((clavigerref09_Many.f k a0 a2 true).bind fun bt3 => (clavigerref10_Decrypt.l0 k a1 a2 (⟨#[]⟩ : ByteArray) bt3.1 0)) else (some ((⟨#[]⟩ : ByteArray), t2)))) = some (r1, r2) := h
 clear h
 replace H := Option.bind_eq_some_iff.mp H
 obtain ⟨t2, A40, H⟩ := H
 try dsimp only at H
 have A4 := Aside0.mk A40
 clear A40
 by_cases c5 : t2 = 0
 ·rw [if_pos c5] at H
  have c5b0 : (t2 == 0) = true := beq_iff_eq.mpr c5
  have c5b1 : (t2 != 0) = false := bne_eq_false_iff_eq.mpr c5
  clear c5
  replace H := Option.bind_eq_some_iff.mp H
  obtain ⟨⟨t3, t9⟩, A60, H⟩ := H
  try dsimp only at H
  have A6 := Aside0.mk A60
  clear A60
  have H' := Aside0.mk H
  clear H
  go_enter Try.func73, Try.ntmps73
  go_wp2_with (first | ((with_reducible refine gate_callee (f := 177) rfl ?_); refine goesL_ (some 16) rfl rfl Try.func177 (by kernel_rfl) rfl #[.string a0, .string a1, .string a2] rfl (by (try simp only [lT, lC, lN]); first | done | rfl) ?_; (with_reducible refine (clavigerref10_bad.calls k a0 a1 a2 t2 _ A4.out).mono ?_); rintro e w' ⟨rfl, ⟨nd, rfl⟩⟩; refine ⟨_, rfl, ?_⟩) | ((with_reducible refine gate_callee (f := 103) rfl ?_); refine goesL_ (some 23) rfl rfl Try.func103 (by kernel_rfl) rfl #[.string a0, .string a2, .bool true] rfl (by (try simp only [lT, lC, lN]); first | done | rfl) ?_; (with_reducible refine (clavigerref09_Many.calls k a0 a2 true t3 t9 _ A6.out).mono ?_); rintro e w7 ⟨rfl, hb⟩; refine ⟨_, rfl, ?_⟩; have n0_ := Aside0.mk (below_step (by repeat first | with_reducible (first | exact HB.out | apply bA | apply bN | apply bD) | exact HB.out) hb); clear HB; have HB := n0_; clear n0_; (try clear hb); (try clear hb2); (try clear hk); (try clear hi)))
  go_loopg [1, 9, 12] k (fun kq v1 v9 v12 w' => ∃ (x1_1 : ByteArray) (x9_1 : ByteArray) (x12_1 : Int), v1 = .string x1_1 ∧ v9 = .string x9_1 ∧ v12 = .int .i64 x12_1 ∧ Aside0 (clavigerref10_Decrypt.l0 kq x1_1 a2 x9_1 t3 x12_1 = some (r1, r2)) ∧ Aside0 (kq ≤ k) ∧ Aside0 (Below w.heap.size w w'))
  case atStart => exact ⟨(a1), ((⟨#[]⟩ : ByteArray)), (0), (by first | rfl | (simp; done) | (simp [*]; done)), (by first | rfl | (simp; done) | (simp [*]; done)), (by first | rfl | (simp; done) | (simp [*]; done)), H', ⟨Nat.le_refl _⟩, ⟨by repeat first | with_reducible (first | exact HB.out | apply bA | apply bN | apply bD) | exact HB.out⟩⟩
  case round =>
   clear H'
   try clear c1
   try clear p2
   try clear c5
   try clear c5b0
   try clear c5b1
   try clear c7
   obtain ⟨x1_1, x9_1, x12_1, rfl, rfl, rfl, HA, HK1, HB⟩ := hrel
   cases gk with
   | zero => exact absurd HA.out (by simp [clavigerref10_Decrypt.l0])
   | succ k1 =>
    have H := HA.out
    clear HA
    simp only [clavigerref10_Decrypt.l0] at H
    by_cases c8 : x12_1 < (a2.size : Int)
    ·rw [if_pos c8] at H
     have c8b0 : decide (x12_1 < (a2.size : Int)) = true := decide_eq_true c8
     clear c8
     by_cases c9 : 0 ≤ x12_1
     ·rw [if_pos c9] at H
      have c9b0 := eq_true c9
      have c9b1 : decide (0 ≤ x12_1) = true := decide_eq_true c9
      clear c9
      by_cases c10 : x12_1 ≤ (wrap64 (x12_1 + 16))
      ·rw [if_pos c10] at H
       have c10b0 := eq_true c10
       have c10b1 : decide (x12_1 ≤ (wrap64 (x12_1 + 16))) = true := decide_eq_true c10
       by_cases c11 : (wrap64 (x12_1 + 16)) ≤ (t3.size : Int)
       ·rw [if_pos c11] at H
        have c11b0 := eq_true c11
        have c11b1 : decide ((wrap64 (x12_1 + 16)) ≤ (t3.size : Int)) = true := decide_eq_true c11
        replace H := Option.bind_eq_some_iff.mp H
        obtain ⟨t1, A120, H⟩ := H
        try dsimp only at H
        have A12 := Aside0.mk A120
        clear A120
        by_cases c13 : x9_1.size + t1.size ≤ 9223372036854775807
        ·rw [if_pos c13] at H
         have c13b0 := eq_true c13
         have c13b1 : decide (x9_1.size + t1.size ≤ 9223372036854775807) = true := decide_eq_true c13
         try have c13b2 : (9223372036854775807 < x9_1.size + t1.size) = False := eq_false (Nat.not_lt.2 c13)
         have c14b0 := eq_true (of_decide_eq_true (by assumption) : 0 ≤ x12_1)
         have c15b0 := eq_true (of_decide_eq_true (by assumption) : x12_1 ≤ (wrap64 (x12_1 + 16)))
         by_cases c16 : (wrap64 (x12_1 + 16)) ≤ (a2.size : Int)
         ·rw [if_pos c16] at H
          have c16b0 := eq_true c16
          have c16b1 : decide ((wrap64 (x12_1 + 16)) ≤ (a2.size : Int)) = true := decide_eq_true c16
          have H' := Aside0.mk H
          clear H
          go_wp2_with (first | ((with_reducible refine gate_callee (f := 178) rfl ?_); refine goesL_ (some 39) rfl rfl Try.func178 (by kernel_rfl) rfl #[.string (t3.extract (x12_1 : Int).toNat ((wrap64 (x12_1 + 16)) : Int).toNat), .string x1_1] rfl (by (try simp only [lT, lC, lN]); first | done | rfl | (simp only [List.length_drop, List.length_take]; rfl) | (simp only [ByteArray.size_extract, Nat.min_self, Nat.sub_zero, ByteArray.size_append]; first | done | rfl)) ?_; (with_reducible refine (clavigerref01_Xor.calls k1 (t3.extract (x12_1 : Int).toNat ((wrap64 (x12_1 + 16)) : Int).toNat) x1_1 t1 _ A12.out).mono ?_); rintro e w17 ⟨rfl, hb⟩; refine ⟨_, rfl, ?_⟩; have n0_ := Aside0.mk (below_step (by repeat first | with_reducible (first | exact HB.out | apply bA | apply bN | apply bD) | exact HB.out) hb); clear HB; have HB := n0_; clear n0_; (try clear hb); (try clear hb2); (try clear hk); (try clear hi)))
          go_roundg k1
          case measure => have := HK1.out; omega
          case rel => exact ⟨(a2.extract (x12_1 : Int).toNat ((wrap64 (x12_1 + 16)) : Int).toNat), (x9_1 ++ t1), (wrap64 (x12_1 + 16)), (by first | rfl | (simp; done) | (simp [*]; done)), (by first | rfl | (simp; done) | (simp [*]; done)), (by first | rfl | (simp; done) | (simp [*]; done)), H', ⟨by have := HK1.out; omega⟩, ⟨by repeat first | with_reducible (first | exact HB.out | apply bA | apply bN | apply bD) | exact HB.out⟩⟩
         ·rw [if_neg c16] at H
          exact absurd H (by simp)
        ·rw [if_neg c13] at H
         exact absurd H (by simp)
       ·rw [if_neg c11] at H
        exact absurd H (by simp)
      ·rw [if_neg c10] at H
       exact absurd H (by simp)
     ·rw [if_neg c9] at H
      exact absurd H (by simp)
    ·rw [if_neg c8] at H
     have c8b0 : decide (x12_1 < (a2.size : Int)) = false := decide_eq_false c8
     clear c8
     simp only [Option.some.injEq, Prod.mk.injEq] at H
     obtain ⟨rfl, rfl⟩ := H
     go_wp2
     go_ret2
     exact ⟨by first | rfl | (simp [*, errW_none, errW_some] <;> rfl), by repeat first | with_reducible (first | exact HB.out | apply bA | apply bN | apply bD) | exact HB.out⟩
 ·rw [if_neg c5] at H
  have c5b0 : (t2 == 0) = false := beq_eq_false_iff_ne.mpr c5
  have c5b1 : (t2 != 0) = true := bne_iff_ne.mpr c5
  simp only [Option.some.injEq, Prod.mk.injEq] at H
  obtain ⟨rfl, rfl⟩ := H
  go_enter Try.func73, Try.ntmps73
  go_wp2_with (first | ((with_reducible refine gate_callee (f := 177) rfl ?_); refine goesL_ (some 16) rfl rfl Try.func177 (by kernel_rfl) rfl #[.string a0, .string a1, .string a2] rfl (by (try simp only [lT, lC, lN]); first | done | rfl) ?_; (with_reducible refine (clavigerref10_bad.calls k a0 a1 a2 t2 _ A4.out).mono ?_); rintro e w' ⟨rfl, ⟨nd, rfl⟩⟩; refine ⟨_, rfl, ?_⟩))
  go_ret2
  exact ⟨by first | rfl | (simp [*, errW_none, errW_some] <;> rfl), by repeat first | with_reducible (first | exact HB.out | apply bA | apply bN | apply bD) | exact HB.out⟩

def cbc_Last.f (a0 : ByteArray) (a1 : ByteArray) : Option (ByteArray) := if (a1.size : Int) < 16 then (some a0) else (if 0 ≤ (wrap64 ((a1.size : Int) - 16)) then (if (wrap64 ((a1.size : Int) - 16)) ≤ (a1.size : Int) then (some (a1.extract ((wrap64 ((a1.size : Int) - 16)) : Int).toNat a1.size)) else (none)) else (none))
def clavigerref10_Last.f (a0 : ByteArray) (a1 : ByteArray) : Option (ByteArray) := if (a1.size : Int) < 16 then (some a0) else (if 0 ≤ (wrap64 ((a1.size : Int) - 16)) then (if (wrap64 ((a1.size : Int) - 16)) ≤ (a1.size : Int) then (some (a1.extract ((wrap64 ((a1.size : Int) - 16)) : Int).toNat a1.size)) else (none)) else (none))
end Go.Proofs.Ytokkhnjedmlbhaa.Pr
end
section
namespace Go.Proofs.Ytokkhnjedmlbhaa.Pr
open Go.RowKit Go.Proofs.YtokkhnjedmlbhaaW.PrintWords Go.Proofs.YtokkhnjedmlbhaaW.PrintLast Go.Proofs.YtokkhnjedmlbhaaW.PrintMore
def at0 (s : ByteArray) (i : Int) : Int := if i < (s.size : Int) then bt s i else 0
def at1 (s : ByteArray) (i : Int) : Int := if i < (s.size : Int) then 1 else 0
end Go.Proofs.Ytokkhnjedmlbhaa.Pr
end
section
namespace Go.Proofs.Ytokkhnjedmlbhaa.Pr
open Go.RowKit Go.Proofs.YtokkhnjedmlbhaaW.PrintWords Go.Proofs.YtokkhnjedmlbhaaW.PrintLast Go.Proofs.YtokkhnjedmlbhaaW.PrintMore
attribute [local go_sem] max2_int min2_int max_two min_two max_three min_three max_four min_four
def scanTo (a b : ByteArray) : Nat → Int
  | 0 => 0
  | k + 1 => Go.bits .or .u8 (scanTo a b k) (Go.bits .or .u8 (Go.bits .xor .u8 (at0 a k) (at0 b k)) (Go.bits .xor .u8 (at1 a k) (at1 b k)))
def equal_Scan.f (a b : ByteArray) : Option (Bool × Int) := if a.size ≤ 9223372036854775807 then if b.size ≤ 9223372036854775807 then some (scanTo a b (max a.size b.size) == 0, mx (a.size : Int) (b.size : Int)) else none else none
end Go.Proofs.Ytokkhnjedmlbhaa.Pr
end
section
namespace Go.Proofs.Ytokkhnjedmlbhaa.Pr
open Go.RowKit Go.Proofs.YtokkhnjedmlbhaaW.PrintWords Go.Proofs.YtokkhnjedmlbhaaW.PrintLast Go.Proofs.YtokkhnjedmlbhaaW.PrintMore
attribute [local go_sem] max2_int min2_int max_two min_two max_three min_three max_four min_four   -- for this text's walks alone
set_option linter.unusedVariables false
set_option linter.unusedSimpArgs false

def cmac_Check.f (a0 : ByteArray) (a1 : ByteArray) (a2 : ByteArray) : Option (Bool × Int) := (cmac_Tag.f a0 a1).bind fun bt1 => (if bt1.2 = 0 then ((equal_Scan.f bt1.1 a2).bind fun bt2 => (some (bt2.1, 0))) else (some (false, bt1.2)))
def cmac_Blocks.f (a0 : Int) : Option (Int) := if a0 < 0 then (some 0) else (some (mx 1 (wrap64 ((wrap64 (Int.tdiv a0 16)) + (mn 1 (Int.tmod a0 16))))))
set_option maxHeartbeats 8000000 in
set_option maxRecDepth 100000 in
theorem cmac_Blocks.calls (a0 : Int) (r : Int) (w : World) (h : cmac_Blocks.f a0 = some r) :
  Calls Try.prog 114 #[.int .i64 a0] w fun e w' => e = .returned (.int .i64 r) ∧ Below w.heap.size w w' := by
 have HB := Aside0.mk (Below.refl w.heap.size w)
 have H : (if a0 < 0 then (some 0) else (some (mx 1 (wrap64 ((wrap64 (Int.tdiv a0 16)) + (mn 1 (Int.tmod a0 16))))))) = some r := h
 clear h
 by_cases c2 : a0 < 0
 ·rw [if_pos c2] at H
  have c2b0 : decide (a0 < 0) = true := decide_eq_true c2
  clear c2
  obtain rfl := Option.some.inj H
  go_enter Try.func114, Try.ntmps114
  go_wp2
  go_ret
  exact ⟨by first | rfl | (simp [*, errW_none, errW_some] <;> rfl), by repeat first | with_reducible (first | exact HB.out | apply bA | apply bN | apply bD) | exact HB.out⟩
 ·rw [if_neg c2] at H
  have c2b0 : decide (a0 < 0) = false := decide_eq_false c2
  clear c2
  obtain ⟨ji3, hji3⟩ : ∃ j_ : Int, (mn 1 (Int.tmod a0 16)) = j_ := ⟨_, rfl⟩
  replace H : (some (mx 1 (wrap64 ((wrap64 (Int.tdiv a0 16)) + (ji3))))) = some r := by first | (rw [hji3] at H; exact H) | (simp only [hji3] at H ⊢; exact H)
  (try (have hji3h : ji3 ≤ 1 := by (rw [← hji3]; unfold mn; (repeat' split) <;> omega)))
  (try (have hji3g : ji3 ≤ 64 := by omega))
  have hji3_ : (if (Int.tmod a0 16) < 1 then (Int.tmod a0 16) else 1) = ji3 := hji3
  obtain ⟨ji4, hji4⟩ : ∃ j_ : Int, (mx 1 (wrap64 ((wrap64 (Int.tdiv a0 16)) + (ji3)))) = j_ := ⟨_, rfl⟩
  replace H : (some ji4) = some r := by first | (rw [hji4] at H; exact H) | (simp only [hji4] at H ⊢; exact H)
  have hji4_ : (if 1 < (wrap64 ((wrap64 (Int.tdiv a0 16)) + (ji3))) then (wrap64 ((wrap64 (Int.tdiv a0 16)) + (ji3))) else 1) = ji4 := hji4
  obtain rfl := Option.some.inj H
  go_enter Try.func114, Try.ntmps114
  go_wp2
  go_ret
  exact ⟨by first | rfl | (simp [errW_none, errW_some] <;> rfl) | (simp only [← hji3, ← hji4]; first | rfl | (simp [errW_none, errW_some] <;> rfl)) | (simp [*, errW_none, errW_some] <;> rfl), by repeat first | with_reducible (first | exact HB.out | apply bA | apply bN | apply bD) | exact HB.out⟩

def clavigerref11_Blocks.f (a0 : Int) : Option (Int) := if a0 < 0 then (some 0) else (if a0 = 0 then (some 1) else (some (wrap64 ((wrap64 (Int.tdiv (wrap64 (a0 - 1)) 16)) + 1))))
end Go.Proofs.Ytokkhnjedmlbhaa.Pr
end
