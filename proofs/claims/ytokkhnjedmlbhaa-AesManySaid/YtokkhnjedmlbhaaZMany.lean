-- several texts in one (by the session's program shake.py)
import Derived.Test.YtokkhnjedmlbhaaZFieldP
import Derived.Test.YtokkhnjedmlbhaaZPrg08
import Derived.Test.YtokkhnjedmlbhaaZPrg07r
import Derived.Test.YtokkhnjedmlbhaaZRun
import Derived.Test.YtokkhnjedmlbhaaZPrg01x
section
namespace Go.Proofs.Ytokkhnjedmlbhaa.Pr
open Go.RowKit Go.Proofs.YtokkhnjedmlbhaaW.PrintWords Go.Proofs.YtokkhnjedmlbhaaW.PrintLast Go.Proofs.YtokkhnjedmlbhaaW.PrintMore
attribute [local go_sem] max2_int min2_int max_two min_two max_three min_three max_four min_four   -- for this text's walks alone
set_option linter.unusedVariables false
set_option linter.unusedSimpArgs false

def clavigerref09_forward.l0 : Nat → List ByteArray → ByteArray → Int → Option (ByteArray)
 | 0, _, _, _ => none
 | k + 1, x0, x1, x5 => if x5 < (x0.length : Int) then (if 0 ≤ x5 then ((clavigerref07_Do.f k x1 (rdOf ByteArray.empty x0 x5) (x5 == (wrap64 ((x0.length : Int) - 1)))).bind fun t1 => (clavigerref09_forward.l0 k x0 t1 (wrap64 (x5 + 1)))) else (none)) else (some x1)
def clavigerref09_forward.f (k : Nat) (l0 : List ByteArray) (a1 : ByteArray) : Option (ByteArray) := if 0 < (l0.length : Int) then ((clavigerref07_Key.f k a1 (rdOf ByteArray.empty l0 0)).bind fun t2 => (clavigerref09_forward.l0 k l0 t2 1)) else (none)
theorem clavigerref09_forward.mono_l : ∀ k, (∀ y3 y4 y5, LeO (clavigerref09_forward.l0 k y3 y4 y5) (clavigerref09_forward.l0 (k + 1) y3 y4 y5))
 | 0 => fun _ _ _ r h => by simp [clavigerref09_forward.l0] at h
 | k + 1 => by
  have ih0 := clavigerref09_forward.mono_l k
  ·intro y3 y4 y5
   unfold clavigerref09_forward.l0
   repeat' first
   | (with_reducible exact ih0 _ _ _)
   | (with_reducible exact clavigerref07_Do.mono _ _ _ _)
   | (with_reducible exact clavigerref07_Key.mono _ _ _)
   | (with_reducible exact LeO.refl _)
   | (with_reducible exact LeO.none _)
   | (with_reducible refine LeO.ite ?_ ?_)
   | (with_reducible refine LeO.bind ?_ (fun _ => ?_))
theorem clavigerref09_forward.mono : ∀ a0 a1 k, LeO (clavigerref09_forward.f k a0 a1) (clavigerref09_forward.f (k + 1) a0 a1) := by
 intro a0 a1 k
 have ih0 := clavigerref09_forward.mono_l k
 unfold clavigerref09_forward.f
 repeat' first
   | (with_reducible exact ih0 _ _ _)
   | (with_reducible exact clavigerref07_Do.mono _ _ _ _)
   | (with_reducible exact clavigerref07_Key.mono _ _ _)
   | (with_reducible exact LeO.refl _)
   | (with_reducible exact LeO.none _)
   | (with_reducible refine LeO.ite ?_ ?_)
   | (with_reducible refine LeO.bind ?_ (fun _ => ?_))
set_option maxHeartbeats 8000000 in
set_option maxRecDepth 100000 in
theorem clavigerref09_forward.calls (k : Nat) (A0 : Option Addr) (c0 : Nat) (l0 : List ByteArray) (a1 : ByteArray) (r : ByteArray) (w : World) (hr0 : Kd.C Kd.string w A0 l0.length l0) (hc0 : l0.length ≤ c0) (h : clavigerref09_forward.f k l0 a1 = some r) :
  Calls Try.prog 190 #[.slice A0 l0.length c0, .string a1] w fun e w' => e = .returned (.string r) ∧ Below w.heap.size w w' := by
 have HR0 := Aside0.mk hr0
 have HC0 := Aside0.mk hc0
 clear hr0 hc0
 have HB := Aside0.mk (Below.refl w.heap.size w)
 have H : (if 0 < (l0.length : Int) then ((clavigerref07_Key.f k a1 (rdOf ByteArray.empty l0 0)).bind fun t2 => (clavigerref09_forward.l0 k l0 t2 1)) else (none)) = some r := h
 clear h
 by_cases c3 : 0 < (l0.length : Int)
 ·rw [if_pos c3] at H
  have c3b0 : decide (0 < (l0.length : Int)) = true := decide_eq_true c3
  have c3b1 : decide (0 < l0.length) = true := decide_eq_true (by omega)
  clear c3
  replace H := Option.bind_eq_some_iff.mp H
  obtain ⟨t2, A40, H⟩ := H
  replace H : (clavigerref09_forward.l0 k l0 t2 1) = some r := H
  have A4 := Aside0.mk A40
  clear A40
  have H' := Aside0.mk H
  clear H
  have p5001 : 0 ≤ (0 : Int) := (by omega)
  have q5001 : 0 < (l0.length : Int) := of_decide_eq_true (by assumption)
  obtain ⟨ad5001, e5001, hx5001_0⟩ := Kd.at_string HR0.out 0 p5001 q5001
  cases e5001
  have qi266 : (0 < l0.length) = True := eq_true (by omega)
  (try rw [show ((0 : Int)).toNat = 0 from rfl] at hx5001_0)
  (try rw [Addr.add_zero'] at hx5001_0)
  replace p5001 := eq_true p5001
  replace q5001 := eq_true q5001
  go_enter Try.func190, Try.ntmps190
  go_wp2_with (first | ((with_reducible refine gate_callee (f := 81) rfl ?_); refine goesL_ (some 10) rfl rfl Try.func81 (by kernel_rfl) rfl #[.string a1, .string (rdOf ByteArray.empty l0 0)] rfl (by (try simp only [lT, lC, lN]); first | done | rfl) ?_; (with_reducible refine (clavigerref07_Key.calls k a1 (rdOf ByteArray.empty l0 0) t2 _ A4.out).mono ?_); rintro e w5 ⟨rfl, hb⟩; refine ⟨_, rfl, ?_⟩; have n0_ := Aside0.mk (below_step (by repeat first | with_reducible (first | exact HB.out | apply bA | apply bN | apply bD) | exact HB.out) hb); clear HB; have HB := n0_; clear n0_; (try clear hb); (try clear hb2); (try clear hk); (try clear hi)))
  go_loopg [1, 5] k (fun kq v1 v5 w' => ∃ (x1_1 : ByteArray) (x5_1 : Int), v1 = .string x1_1 ∧ v5 = .int .i64 x5_1 ∧ Aside0 (clavigerref09_forward.l0 kq l0 x1_1 x5_1 = some r) ∧ Aside0 (kq ≤ k) ∧ Aside0 (Below w.heap.size w w'))
  case atStart => exact ⟨(t2), (1), (by first | rfl | (simp; done) | (simp [*]; done)), (by first | rfl | (simp; done) | (simp [*]; done)), H', ⟨Nat.le_refl _⟩, ⟨by repeat first | with_reducible (first | exact HB.out | apply bA | apply bN | apply bD) | exact HB.out⟩⟩
  case round =>
   clear H'
   try clear c1
   try clear p2
   try clear q2
   try clear hx2
   try clear qi2
   try clear c3
   try clear c3b0
   try clear c3b1
   try clear hx5001_0
   try clear p5001
   try clear q5001
   obtain ⟨x1_1, x5_1, rfl, rfl, HA, HK1, HB⟩ := hrel
   cases gk with
   | zero => exact absurd HA.out (by simp [clavigerref09_forward.l0])
   | succ k1 =>
    have H := HA.out
    clear HA
    simp only [clavigerref09_forward.l0] at H
    by_cases c6 : x5_1 < (l0.length : Int)
    ·rw [if_pos c6] at H
     have c6b0 : decide (x5_1 < (l0.length : Int)) = true := decide_eq_true c6
     clear c6
     by_cases c7 : 0 ≤ x5_1
     ·rw [if_pos c7] at H
      have c7b0 : decide (0 ≤ x5_1) = true := decide_eq_true c7
      clear c7
      replace H := Option.bind_eq_some_iff.mp H
      obtain ⟨t1, A80, H⟩ := H
      try dsimp only at H
      have A8 := Aside0.mk A80
      clear A80
      have H' := Aside0.mk H
      clear H
      have p5002 : 0 ≤ (x5_1 : Int) := of_decide_eq_true (by assumption)
      have q5002 : x5_1 < (l0.length : Int) := of_decide_eq_true (by assumption)
      obtain ⟨ad5002, e5002, hx5002_0⟩ := Kd.at_string HR0.out x5_1 p5002 q5002
      obtain rfl : ad5001 = ad5002 := (by injection e5002)
      replace hx5002_0 := (HB.out.cell (World.block_lt_of_cell? w _ hx5002_0)).trans hx5002_0
      replace p5002 := eq_true p5002
      replace q5002 := eq_true q5002
      go_wp2_with (first | ((with_reducible refine gate_callee (f := 83) rfl ?_); refine goesL_ (some 27) rfl rfl Try.func83 (by kernel_rfl) rfl #[.string x1_1, .string (rdOf ByteArray.empty l0 x5_1), .bool (x5_1 == (wrap64 ((l0.length : Int) - 1)))] rfl (by (try simp only [lT, lC, lN]); first | done | rfl | (simp only [List.length_drop, List.length_take]; rfl) | (simp only [ByteArray.size_extract, Nat.min_self, Nat.sub_zero, ByteArray.size_append]; first | done | rfl)) ?_; (with_reducible refine (clavigerref07_Do.calls k1 x1_1 (rdOf ByteArray.empty l0 x5_1) (x5_1 == (wrap64 ((l0.length : Int) - 1))) t1 _ A8.out).mono ?_); rintro e w9 ⟨rfl, hb⟩; refine ⟨_, rfl, ?_⟩; have n0_ := Aside0.mk (below_step (by repeat first | with_reducible (first | exact HB.out | apply bA | apply bN | apply bD) | exact HB.out) hb); clear HB; have HB := n0_; clear n0_; (try clear hb); (try clear hb2); (try clear hk); (try clear hi)))
      go_roundg k1
      case measure => have := HK1.out; omega
      case rel => exact ⟨(t1), (wrap64 (x5_1 + 1)), (by first | rfl | (simp; done) | (simp [*]; done)), (by first | rfl | (simp; done) | (simp [*]; done)), H', ⟨by have := HK1.out; omega⟩, ⟨by repeat first | with_reducible (first | exact HB.out | apply bA | apply bN | apply bD) | exact HB.out⟩⟩
     ·rw [if_neg c7] at H
      exact absurd H (by simp)
    ·rw [if_neg c6] at H
     have c6b0 : decide (x5_1 < (l0.length : Int)) = false := decide_eq_false c6
     clear c6
     obtain rfl := Option.some.inj H
     go_wp2
     go_ret
     exact ⟨by first | rfl | (simp [*, errW_none, errW_some] <;> rfl), by repeat first | with_reducible (first | exact HB.out | apply bA | apply bN | apply bD) | exact HB.out⟩
 ·rw [if_neg c3] at H
  exact absurd H (by simp)

def clavigerref09_Encrypt.f (k : Nat) (a0 : ByteArray) (a1 : ByteArray) : Option (ByteArray × Int) := (clavigerref08_Keys.f k a0).bind fun bt1 => (if bt1.2 = 0 then (if (a1.size : Int) = 16 then ((clavigerref09_forward.f k bt1.1 a1).bind fun t2 => (some (t2, 0))) else (some ((⟨#[]⟩ : ByteArray), 4))) else (some ((⟨#[]⟩ : ByteArray), bt1.2)))
theorem clavigerref09_Encrypt.mono : ∀ a0 a1 k, LeO (clavigerref09_Encrypt.f k a0 a1) (clavigerref09_Encrypt.f (k + 1) a0 a1) := by
 intro a0 a1 k
 unfold clavigerref09_Encrypt.f
 repeat' first
   | (with_reducible exact clavigerref08_Keys.mono _ _)
   | (with_reducible exact clavigerref09_forward.mono _ _ _)
   | (with_reducible exact LeO.refl _)
   | (with_reducible exact LeO.none _)
   | (with_reducible refine LeO.ite ?_ ?_)
   | (with_reducible refine LeO.bind ?_ (fun _ => ?_))
def clavigerref09_backward.l0 : Nat → List ByteArray → ByteArray → Int → Option (ByteArray)
 | 0, _, _, _ => none
 | k + 1, x0, x1, x5 => if x5 > 0 then (if 0 ≤ x5 then (if x5 < (x0.length : Int) then ((clavigerref07_Undo.f k x1 (rdOf ByteArray.empty x0 x5) (x5 == (wrap64 ((x0.length : Int) - 1)))).bind fun t1 => (clavigerref09_backward.l0 k x0 t1 (wrap64 (x5 - 1)))) else (none)) else (none)) else (if 0 < (x0.length : Int) then ((clavigerref07_Key.f k x1 (rdOf ByteArray.empty x0 0)).bind fun t2 => (some t2)) else (none))
def clavigerref09_backward.f (k : Nat) (l0 : List ByteArray) (a1 : ByteArray) : Option (ByteArray) := clavigerref09_backward.l0 k l0 a1 (wrap64 ((l0.length : Int) - 1))
theorem clavigerref09_backward.mono_l : ∀ k, (∀ y3 y4 y5, LeO (clavigerref09_backward.l0 k y3 y4 y5) (clavigerref09_backward.l0 (k + 1) y3 y4 y5))
 | 0 => fun _ _ _ r h => by simp [clavigerref09_backward.l0] at h
 | k + 1 => by
  have ih0 := clavigerref09_backward.mono_l k
  ·intro y3 y4 y5
   unfold clavigerref09_backward.l0
   repeat' first
   | (with_reducible exact ih0 _ _ _)
   | (with_reducible exact clavigerref07_Key.mono _ _ _)
   | (with_reducible exact clavigerref07_Undo.mono _ _ _ _)
   | (with_reducible exact LeO.refl _)
   | (with_reducible exact LeO.none _)
   | (with_reducible refine LeO.ite ?_ ?_)
   | (with_reducible refine LeO.bind ?_ (fun _ => ?_))
theorem clavigerref09_backward.mono : ∀ a0 a1 k, LeO (clavigerref09_backward.f k a0 a1) (clavigerref09_backward.f (k + 1) a0 a1) := by
 intro a0 a1 k
 have ih0 := clavigerref09_backward.mono_l k
 unfold clavigerref09_backward.f
 repeat' first
   | (with_reducible exact ih0 _ _ _)
   | (with_reducible exact clavigerref07_Key.mono _ _ _)
   | (with_reducible exact clavigerref07_Undo.mono _ _ _ _)
   | (with_reducible exact LeO.refl _)
   | (with_reducible exact LeO.none _)
   | (with_reducible refine LeO.ite ?_ ?_)
   | (with_reducible refine LeO.bind ?_ (fun _ => ?_))
set_option maxHeartbeats 8000000 in
set_option maxRecDepth 100000 in
theorem clavigerref09_backward.calls (k : Nat) (A0 : Option Addr) (c0 : Nat) (l0 : List ByteArray) (a1 : ByteArray) (r : ByteArray) (w : World) (hr0 : Kd.C Kd.string w A0 l0.length l0) (hc0 : l0.length ≤ c0) (h : clavigerref09_backward.f k l0 a1 = some r) :
  Calls Try.prog 191 #[.slice A0 l0.length c0, .string a1] w fun e w' => e = .returned (.string r) ∧ Below w.heap.size w w' := by
 have HR0 := Aside0.mk hr0
 have HC0 := Aside0.mk hc0
 clear hr0 hc0
 have HB := Aside0.mk (Below.refl w.heap.size w)
 have H : (clavigerref09_backward.l0 k l0 a1 (wrap64 ((l0.length : Int) - 1))) = some r := h
 clear h
 have H' := Aside0.mk H
 clear H
 go_enter Try.func191, Try.ntmps191
 go_wp2
 go_loopg [1, 5] k (fun kq v1 v5 w' => ∃ (x1_1 : ByteArray) (x5_1 : Int), v1 = .string x1_1 ∧ v5 = .int .i64 x5_1 ∧ Aside0 (clavigerref09_backward.l0 kq l0 x1_1 x5_1 = some r) ∧ Aside0 (kq ≤ k) ∧ Aside0 (Below w.heap.size w w'))
 case atStart => exact ⟨(a1), (wrap64 ((l0.length : Int) - 1)), (by first | rfl | (simp; done) | (simp [*]; done)), (by first | rfl | (simp; done) | (simp [*]; done)), H', ⟨Nat.le_refl _⟩, ⟨by repeat first | with_reducible (first | exact HB.out | apply bA | apply bN | apply bD) | exact HB.out⟩⟩
 case round =>
  clear H'
  try clear c1
  try clear p2
  obtain ⟨x1_1, x5_1, rfl, rfl, HA, HK1, HB⟩ := hrel
  cases gk with
  | zero => exact absurd HA.out (by simp [clavigerref09_backward.l0])
  | succ k1 =>
   have H := HA.out
   clear HA
   simp only [clavigerref09_backward.l0] at H
   by_cases c3 : x5_1 > 0
   ·rw [if_pos c3] at H
    have c3b0 : decide (0 < x5_1) = true := decide_eq_true c3
    clear c3
    by_cases c4 : 0 ≤ x5_1
    ·rw [if_pos c4] at H
     have c4b0 : decide (0 ≤ x5_1) = true := decide_eq_true c4
     clear c4
     by_cases c5 : x5_1 < (l0.length : Int)
     ·rw [if_pos c5] at H
      have c5b0 : decide (x5_1 < (l0.length : Int)) = true := decide_eq_true c5
      clear c5
      replace H := Option.bind_eq_some_iff.mp H
      obtain ⟨t1, A60, H⟩ := H
      try dsimp only at H
      have A6 := Aside0.mk A60
      clear A60
      have H' := Aside0.mk H
      clear H
      have p5001 : 0 ≤ (x5_1 : Int) := of_decide_eq_true (by assumption)
      have q5001 : x5_1 < (l0.length : Int) := of_decide_eq_true (by assumption)
      obtain ⟨ad5001, e5001, hx5001_0⟩ := Kd.at_string HR0.out x5_1 p5001 q5001
      cases e5001
      replace hx5001_0 := (HB.out.cell (World.block_lt_of_cell? w _ hx5001_0)).trans hx5001_0
      replace p5001 := eq_true p5001
      replace q5001 := eq_true q5001
      go_wp2_with (first | ((with_reducible refine gate_callee (f := 85) rfl ?_); refine goesL_ (some 23) rfl rfl Try.func85 (by kernel_rfl) rfl #[.string x1_1, .string (rdOf ByteArray.empty l0 x5_1), .bool (x5_1 == (wrap64 ((l0.length : Int) - 1)))] rfl (by (try simp only [lT, lC, lN]); first | done | rfl | (simp only [List.length_drop, List.length_take]; rfl) | (simp only [ByteArray.size_extract, Nat.min_self, Nat.sub_zero, ByteArray.size_append]; first | done | rfl)) ?_; (with_reducible refine (clavigerref07_Undo.calls k1 x1_1 (rdOf ByteArray.empty l0 x5_1) (x5_1 == (wrap64 ((l0.length : Int) - 1))) t1 _ A6.out).mono ?_); rintro e w7 ⟨rfl, hb⟩; refine ⟨_, rfl, ?_⟩; have n0_ := Aside0.mk (below_step (by repeat first | with_reducible (first | exact HB.out | apply bA | apply bN | apply bD) | exact HB.out) hb); clear HB; have HB := n0_; clear n0_; (try clear hb); (try clear hb2); (try clear hk); (try clear hi)))
      go_roundg k1
      case measure => have := HK1.out; omega
      case rel => exact ⟨(t1), (wrap64 (x5_1 - 1)), (by first | rfl | (simp; done) | (simp [*]; done)), (by first | rfl | (simp; done) | (simp [*]; done)), H', ⟨by have := HK1.out; omega⟩, ⟨by repeat first | with_reducible (first | exact HB.out | apply bA | apply bN | apply bD) | exact HB.out⟩⟩
     ·rw [if_neg c5] at H
      exact absurd H (by simp)
    ·rw [if_neg c4] at H
     exact absurd H (by simp)
   ·rw [if_neg c3] at H
    have c3b0 : decide (0 < x5_1) = false := decide_eq_false c3
    clear c3
    by_cases c8 : 0 < (l0.length : Int)
    ·rw [if_pos c8] at H
     have c8b0 : decide (0 < (l0.length : Int)) = true := decide_eq_true c8
     have c8b1 : decide (0 < l0.length) = true := decide_eq_true (by omega)
     clear c8
     replace H := Option.bind_eq_some_iff.mp H
     obtain ⟨t2, A90, H⟩ := H
     replace H : (some t2) = some r := H
     have A9 := Aside0.mk A90
     clear A90
     obtain rfl := Option.some.inj H
     have p5002 : 0 ≤ (0 : Int) := (by omega)
     have q5002 : 0 < (l0.length : Int) := of_decide_eq_true (by assumption)
     obtain ⟨ad5002, e5002, hx5002_0⟩ := Kd.at_string HR0.out 0 p5002 q5002
     cases e5002
     have qi472 : (0 < l0.length) = True := eq_true (by omega)
     (try rw [show ((0 : Int)).toNat = 0 from rfl] at hx5002_0)
     (try rw [Addr.add_zero'] at hx5002_0)
     replace hx5002_0 := (HB.out.cell (World.block_lt_of_cell? w _ hx5002_0)).trans hx5002_0
     replace p5002 := eq_true p5002
     replace q5002 := eq_true q5002
     go_wp2_with (first | ((with_reducible refine gate_callee (f := 81) rfl ?_); refine goesL_ (some 28) rfl rfl Try.func81 (by kernel_rfl) rfl #[.string x1_1, .string (rdOf ByteArray.empty l0 0)] rfl (by (try simp only [lT, lC, lN]); first | done | rfl) ?_; (with_reducible refine (clavigerref07_Key.calls k1 x1_1 (rdOf ByteArray.empty l0 0) t2 _ A9.out).mono ?_); rintro e w10 ⟨rfl, hb⟩; refine ⟨_, rfl, ?_⟩; have n0_ := Aside0.mk (below_step (by repeat first | with_reducible (first | exact HB.out | apply bA | apply bN | apply bD) | exact HB.out) hb); clear HB; have HB := n0_; clear n0_; (try clear hb); (try clear hb2); (try clear hk); (try clear hi)))
     go_ret
     exact ⟨by first | rfl | (simp [*, errW_none, errW_some] <;> rfl), by repeat first | with_reducible (first | exact HB.out | apply bA | apply bN | apply bD) | exact HB.out⟩
    ·rw [if_neg c8] at H
     exact absurd H (by simp)

def clavigerref09_Many.l0 : Nat → ByteArray → Bool → List ByteArray → ByteArray → Int → Option (ByteArray × Int)
 | 0, _, _, _, _, _ => none
 | k + 1, x1, x2, x8, x10, x11 => if x11 < (x1.size : Int) then (if x2 = true then (if 0 ≤ x11 then (if x11 ≤ (wrap64 (x11 + 16)) then (if (wrap64 (x11 + 16)) ≤ (x1.size : Int) then ((clavigerref09_backward.f k x8 (x1.extract (x11 : Int).toNat ((wrap64 (x11 + 16)) : Int).toNat)).bind fun t1 => (if x10.size + t1.size ≤ 9223372036854775807 then (clavigerref09_Many.l0 k x1 x2 x8 (x10 ++ t1) (wrap64 (x11 + 16))) else (none))) else (none)) else (none)) else (none)) else (if 0 ≤ x11 then (if x11 ≤ (wrap64 (x11 + 16)) then (if (wrap64 (x11 + 16)) ≤ (x1.size : Int) then ((clavigerref09_forward.f k x8 (x1.extract (x11 : Int).toNat ((wrap64 (x11 + 16)) : Int).toNat)).bind fun t2 => (if x10.size + t2.size ≤ 9223372036854775807 then (clavigerref09_Many.l0 k x1 x2 x8 (x10 ++ t2) (wrap64 (x11 + 16))) else (none))) else (none)) else (none)) else (none))) else (some (x10, 0))
def clavigerref09_Many.f (k : Nat) (a0 : ByteArray) (a1 : ByteArray) (a2 : Bool) : Option (ByteArray × Int) := (clavigerref08_Keys.f k a0).bind fun bt3 => (if bt3.2 = 0 then (if ((a1.size : Int) % 16) = 0 then (clavigerref09_Many.l0 k a1 a2 bt3.1 (⟨#[]⟩ : ByteArray) 0) else (some ((⟨#[]⟩ : ByteArray), 4))) else (some ((⟨#[]⟩ : ByteArray), bt3.2)))
theorem clavigerref09_Many.mono_l : ∀ k, (∀ y4 y5 y6 y7 y8, LeO (clavigerref09_Many.l0 k y4 y5 y6 y7 y8) (clavigerref09_Many.l0 (k + 1) y4 y5 y6 y7 y8))
 | 0 => fun _ _ _ _ _ r h => by simp [clavigerref09_Many.l0] at h
 | k + 1 => by
  have ih0 := clavigerref09_Many.mono_l k
  ·intro y4 y5 y6 y7 y8
   unfold clavigerref09_Many.l0
   repeat' first
   | (with_reducible exact ih0 _ _ _ _ _)
   | (with_reducible exact clavigerref08_Keys.mono _ _)
   | (with_reducible exact clavigerref09_backward.mono _ _ _)
   | (with_reducible exact clavigerref09_forward.mono _ _ _)
   | (with_reducible exact LeO.refl _)
   | (with_reducible exact LeO.none _)
   | (with_reducible refine LeO.ite ?_ ?_)
   | (with_reducible refine LeO.bind ?_ (fun _ => ?_))
theorem clavigerref09_Many.mono : ∀ a0 a1 a2 k, LeO (clavigerref09_Many.f k a0 a1 a2) (clavigerref09_Many.f (k + 1) a0 a1 a2) := by
 intro a0 a1 a2 k
 have ih0 := clavigerref09_Many.mono_l k
 unfold clavigerref09_Many.f
 repeat' first
   | (with_reducible exact ih0 _ _ _ _ _)
   | (with_reducible exact clavigerref08_Keys.mono _ _)
   | (with_reducible exact clavigerref09_backward.mono _ _ _)
   | (with_reducible exact clavigerref09_forward.mono _ _ _)
   | (with_reducible exact LeO.refl _)
   | (with_reducible exact LeO.none _)
   | (with_reducible refine LeO.ite ?_ ?_)
   | (with_reducible refine LeO.bind ?_ (fun _ => ?_))
set_option maxHeartbeats 8000000 in
set_option maxRecDepth 100000 in
theorem clavigerref09_Many.calls (k : Nat) (a0 : ByteArray) (a1 : ByteArray) (a2 : Bool) (r1 : ByteArray) (r2 : Int) (w : World) (h : clavigerref09_Many.f k a0 a1 a2 = some (r1, r2)) :
  Calls Try.prog 103 #[.string a0, .string a1, .bool a2] w fun e w' => e = .returned (.tuple #[.string r1, .int .i64 r2]) ∧ Below w.heap.size w w' := by
 have HB := Aside0.mk (Below.refl w.heap.size w)
 have H : ((clavigerref08_Keys.f k a0).bind fun bt3 => (if bt3.2 = 0 then (if ((a1.size : Int) % 16) = 0 then (clavigerref09_Many.l0 k a1 a2 bt3.1 (⟨#[]⟩ : ByteArray) 0) else (some ((⟨#[]⟩ : ByteArray), 4))) else (some ((⟨#[]⟩ : ByteArray), bt3.2)))) = some (r1, r2) := h
 clear h
 replace H := Option.bind_eq_some_iff.mp H
 obtain ⟨⟨t3, t9⟩, A40, H⟩ := H
 try dsimp only at H
 have A4 := Aside0.mk A40
 clear A40
 by_cases c5 : t9 = 0
 ·rw [if_pos c5] at H
  have c5b0 : (t9 == 0) = true := beq_iff_eq.mpr c5
  have c5b1 : (t9 != 0) = false := bne_eq_false_iff_eq.mpr c5
  clear c5
  by_cases c6 : ((a1.size : Int) % 16) = 0
  ·rw [if_pos c6] at H
   have c6b0 : (((a1.size : Int) % 16) == 0) = true := beq_iff_eq.mpr c6
   have c6b1 : (((a1.size : Int) % 16) != 0) = false := bne_eq_false_iff_eq.mpr c6
   clear c6
   have H' := Aside0.mk H
   clear H
   go_enter Try.func103, Try.ntmps103
   go_wp2_with (first | ((with_reducible refine gate_callee (f := 91) rfl ?_); refine goesL_ (some 14) rfl rfl Try.func91 (by kernel_rfl) rfl #[.string a0] rfl (by (try simp only [lT, lC, lN]); first | done | rfl) ?_; (with_reducible refine (clavigerref08_Keys.calls k a0 t3 t9 _ A4.out).mono ?_); rintro e w7 ⟨v476, rfl, ho0, hb⟩; refine ⟨_, rfl, ?_⟩; have n0_ := Aside0.mk (Kd.R_lower ho0 (below_size (by repeat first | with_reducible (first | exact HB.out | apply bA | apply bN | apply bD) | exact HB.out))); have n1_ := Aside0.mk (below_step (by repeat first | with_reducible (first | exact HB.out | apply bA | apply bN | apply bD) | exact HB.out) hb); clear HB; have HO477 := n0_; have HB := n1_; clear n0_ n1_; (try clear hb); (try clear hb2); (try clear hk); (try clear hi); (try clear ho0)))
   go_loopg [10, 11] k (fun kq v10 v11 w' => ∃ (x10_1 : ByteArray) (x11_1 : Int), v10 = .string x10_1 ∧ v11 = .int .i64 x11_1 ∧ Aside0 (clavigerref09_Many.l0 kq a1 a2 t3 x10_1 x11_1 = some (r1, r2)) ∧ Aside0 (kq ≤ k) ∧ Aside0 (Kd.R Kd.string 9 w' w.heap.size (fun _ => True) v476 t3) ∧ Aside0 (Below w.heap.size w w'))
   case atStart => exact ⟨((⟨#[]⟩ : ByteArray)), (0), (by first | rfl | (simp; done) | (simp [*]; done)), (by first | rfl | (simp; done) | (simp [*]; done)), H', ⟨Nat.le_refl _⟩, ⟨by (with_reducible repeat (first | apply Kd.R_alloc | apply Kd.R_drewN | apply Kd.R_drew)); exact HO477.out⟩, ⟨by repeat first | with_reducible (first | exact HB.out | apply bA | apply bN | apply bD) | exact HB.out⟩⟩
   case round =>
    clear H'
    try clear c1
    try clear p2
    try clear c5
    try clear c5b0
    try clear c5b1
    try clear c6
    try clear c6b0
    try clear c6b1
    obtain ⟨x10_1, x11_1, rfl, rfl, HA, HK1, HO_8, HB⟩ := hrel
    cases gk with
    | zero => exact absurd HA.out (by simp [clavigerref09_Many.l0])
    | succ k1 =>
     have H := HA.out
     clear HA
     simp only [clavigerref09_Many.l0] at H
     by_cases c8 : x11_1 < (a1.size : Int)
     ·rw [if_pos c8] at H
      have c8b0 : decide (x11_1 < (a1.size : Int)) = true := decide_eq_true c8
      clear c8
      by_cases c9 : a2 = true
      ·subst c9
       have H1 : (if 0 ≤ x11_1 then (if x11_1 ≤ (wrap64 (x11_1 + 16)) then (if (wrap64 (x11_1 + 16)) ≤ (a1.size : Int) then ((clavigerref09_backward.f k1 t3 (a1.extract (x11_1 : Int).toNat ((wrap64 (x11_1 + 16)) : Int).toNat)).bind fun t1 => (if x10_1.size + t1.size ≤ 9223372036854775807 then (clavigerref09_Many.l0 k1 a1 true t3 (x10_1 ++ t1) (wrap64 (x11_1 + 16))) else (none))) else (none)) else (none)) else (none)) = some (r1, r2) := by rw [if_pos rfl] at H; exact H
       clear H
       have H := H1
       clear H1
       by_cases c10 : 0 ≤ x11_1
       ·rw [if_pos c10] at H
        have c10b0 := eq_true c10
        have c10b1 : decide (0 ≤ x11_1) = true := decide_eq_true c10
        clear c10
        by_cases c11 : x11_1 ≤ (wrap64 (x11_1 + 16))
        ·rw [if_pos c11] at H
         have c11b0 := eq_true c11
         have c11b1 : decide (x11_1 ≤ (wrap64 (x11_1 + 16))) = true := decide_eq_true c11
         by_cases c12 : (wrap64 (x11_1 + 16)) ≤ (a1.size : Int)
         ·rw [if_pos c12] at H
          have c12b0 := eq_true c12
          have c12b1 : decide ((wrap64 (x11_1 + 16)) ≤ (a1.size : Int)) = true := decide_eq_true c12
          replace H := Option.bind_eq_some_iff.mp H
          obtain ⟨t1, A130, H⟩ := H
          try dsimp only at H
          have A13 := Aside0.mk A130
          clear A130
          by_cases c14 : x10_1.size + t1.size ≤ 9223372036854775807
          ·rw [if_pos c14] at H
           have c14b0 := eq_true c14
           have c14b1 : decide (x10_1.size + t1.size ≤ 9223372036854775807) = true := decide_eq_true c14
           try have c14b2 : (9223372036854775807 < x10_1.size + t1.size) = False := eq_false (Nat.not_lt.2 c14)
           have H' := Aside0.mk H
           clear H
           obtain ⟨Ao15, co15, eo15⟩ := Kd.R_slice HO_8.out
           subst eo15
           go_wp2_with (first | ((with_reducible refine gate_callee (f := 191) rfl ?_); refine goesL_ (some 38) rfl rfl Try.func191 (by kernel_rfl) rfl #[.slice Ao15 t3.length co15, .string (a1.extract (x11_1 : Int).toNat ((wrap64 (x11_1 + 16)) : Int).toNat)] rfl (by (try simp only [lT, lC, lN]); first | done | rfl | (simp only [List.length_drop, List.length_take]; rfl) | (simp only [ByteArray.size_extract, Nat.min_self, Nat.sub_zero, ByteArray.size_append]; first | done | rfl)) ?_; (with_reducible refine (clavigerref09_backward.calls k1 _ _ t3 (a1.extract (x11_1 : Int).toNat ((wrap64 (x11_1 + 16)) : Int).toNat) t1 _ ?side1 ?side2 A13.out).mono ?_); (case side1 => repeat (first | exact (Kd.R_reads' HO_8.out).2.2 | (with_reducible refine Kd.C_alloc ?_ _) | (with_reducible refine Kd.C_drewN ?_ _) | (with_reducible refine Kd.C_drew ?_))); (case side2 => exact (Kd.R_reads' HO_8.out).2.1); rintro e w16 ⟨rfl, hb⟩; refine ⟨_, rfl, ?_⟩; have n0_ := Aside0.mk (Kd.R_below (by (with_reducible repeat (first | apply Kd.R_alloc | apply Kd.R_drewN | apply Kd.R_drew)); exact HO_8.out) hb); have n1_ := Aside0.mk (below_step (by repeat first | with_reducible (first | exact HB.out | apply bA | apply bN | apply bD) | exact HB.out) hb); clear HO_8; clear HB; have HO_8 := n0_; have HB := n1_; clear n0_ n1_; (try clear hb); (try clear hb2); (try clear hk); (try clear hi)))
           go_roundg k1
           case measure => have := HK1.out; omega
           case rel => exact ⟨(x10_1 ++ t1), (wrap64 (x11_1 + 16)), (by first | rfl | (simp; done) | (simp [*]; done)), (by first | rfl | (simp; done) | (simp [*]; done)), H', ⟨by have := HK1.out; omega⟩, ⟨by (with_reducible repeat (first | apply Kd.R_alloc | apply Kd.R_drewN | apply Kd.R_drew)); exact HO_8.out⟩, ⟨by repeat first | with_reducible (first | exact HB.out | apply bA | apply bN | apply bD) | exact HB.out⟩⟩
          ·rw [if_neg c14] at H
           exact absurd H (by simp)
         ·rw [if_neg c12] at H
          exact absurd H (by simp)
        ·rw [if_neg c11] at H
         exact absurd H (by simp)
       ·rw [if_neg c10] at H
        exact absurd H (by simp)
      ·replace c9 := Bool.eq_false_iff.mpr c9
       subst c9
       have H1 : (if 0 ≤ x11_1 then (if x11_1 ≤ (wrap64 (x11_1 + 16)) then (if (wrap64 (x11_1 + 16)) ≤ (a1.size : Int) then ((clavigerref09_forward.f k1 t3 (a1.extract (x11_1 : Int).toNat ((wrap64 (x11_1 + 16)) : Int).toNat)).bind fun t2 => (if x10_1.size + t2.size ≤ 9223372036854775807 then (clavigerref09_Many.l0 k1 a1 false t3 (x10_1 ++ t2) (wrap64 (x11_1 + 16))) else (none))) else (none)) else (none)) else (none)) = some (r1, r2) := by rw [if_neg (show ¬ (false = true) by decide)] at H; exact H
       clear H
       have H := H1
       clear H1
       by_cases c17 : 0 ≤ x11_1
       ·rw [if_pos c17] at H
        have c17b0 := eq_true c17
        have c17b1 : decide (0 ≤ x11_1) = true := decide_eq_true c17
        clear c17
        by_cases c18 : x11_1 ≤ (wrap64 (x11_1 + 16))
        ·rw [if_pos c18] at H
         have c18b0 := eq_true c18
         have c18b1 : decide (x11_1 ≤ (wrap64 (x11_1 + 16))) = true := decide_eq_true c18
         by_cases c19 : (wrap64 (x11_1 + 16)) ≤ (a1.size : Int)
         ·rw [if_pos c19] at H
          have c19b0 := eq_true c19
          have c19b1 : decide ((wrap64 (x11_1 + 16)) ≤ (a1.size : Int)) = true := decide_eq_true c19
          replace H := Option.bind_eq_some_iff.mp H
          obtain ⟨t2, A200, H⟩ := H
          try dsimp only at H
          have A20 := Aside0.mk A200
          clear A200
          by_cases c21 : x10_1.size + t2.size ≤ 9223372036854775807
          ·rw [if_pos c21] at H
           have c21b0 := eq_true c21
           have c21b1 : decide (x10_1.size + t2.size ≤ 9223372036854775807) = true := decide_eq_true c21
           try have c21b2 : (9223372036854775807 < x10_1.size + t2.size) = False := eq_false (Nat.not_lt.2 c21)
           have H' := Aside0.mk H
           clear H
           obtain ⟨Ao22, co22, eo22⟩ := Kd.R_slice HO_8.out
           subst eo22
           go_wp2_with (first | ((with_reducible refine gate_callee (f := 190) rfl ?_); refine goesL_ (some 47) rfl rfl Try.func190 (by kernel_rfl) rfl #[.slice Ao22 t3.length co22, .string (a1.extract (x11_1 : Int).toNat ((wrap64 (x11_1 + 16)) : Int).toNat)] rfl (by (try simp only [lT, lC, lN]); first | done | rfl | (simp only [List.length_drop, List.length_take]; rfl) | (simp only [ByteArray.size_extract, Nat.min_self, Nat.sub_zero, ByteArray.size_append]; first | done | rfl)) ?_; (with_reducible refine (clavigerref09_forward.calls k1 _ _ t3 (a1.extract (x11_1 : Int).toNat ((wrap64 (x11_1 + 16)) : Int).toNat) t2 _ ?side1 ?side2 A20.out).mono ?_); (case side1 => repeat (first | exact (Kd.R_reads' HO_8.out).2.2 | (with_reducible refine Kd.C_alloc ?_ _) | (with_reducible refine Kd.C_drewN ?_ _) | (with_reducible refine Kd.C_drew ?_))); (case side2 => exact (Kd.R_reads' HO_8.out).2.1); rintro e w23 ⟨rfl, hb⟩; refine ⟨_, rfl, ?_⟩; have n0_ := Aside0.mk (Kd.R_below (by (with_reducible repeat (first | apply Kd.R_alloc | apply Kd.R_drewN | apply Kd.R_drew)); exact HO_8.out) hb); have n1_ := Aside0.mk (below_step (by repeat first | with_reducible (first | exact HB.out | apply bA | apply bN | apply bD) | exact HB.out) hb); clear HO_8; clear HB; have HO_8 := n0_; have HB := n1_; clear n0_ n1_; (try clear hb); (try clear hb2); (try clear hk); (try clear hi)))
           go_roundg k1
           case measure => have := HK1.out; omega
           case rel => exact ⟨(x10_1 ++ t2), (wrap64 (x11_1 + 16)), (by first | rfl | (simp; done) | (simp [*]; done)), (by first | rfl | (simp; done) | (simp [*]; done)), H', ⟨by have := HK1.out; omega⟩, ⟨by (with_reducible repeat (first | apply Kd.R_alloc | apply Kd.R_drewN | apply Kd.R_drew)); exact HO_8.out⟩, ⟨by repeat first | with_reducible (first | exact HB.out | apply bA | apply bN | apply bD) | exact HB.out⟩⟩
          ·rw [if_neg c21] at H
           exact absurd H (by simp)
         ·rw [if_neg c19] at H
          exact absurd H (by simp)
        ·rw [if_neg c18] at H
         exact absurd H (by simp)
       ·rw [if_neg c17] at H
        exact absurd H (by simp)
     ·rw [if_neg c8] at H
      have c8b0 : decide (x11_1 < (a1.size : Int)) = false := decide_eq_false c8
      clear c8
      simp only [Option.some.injEq, Prod.mk.injEq] at H
      obtain ⟨rfl, rfl⟩ := H
      go_wp2
      go_ret2
      exact ⟨by first | rfl | (simp [*, errW_none, errW_some] <;> rfl), by repeat first | with_reducible (first | exact HB.out | apply bA | apply bN | apply bD) | exact HB.out⟩
  ·rw [if_neg c6] at H
   have c6b0 : (((a1.size : Int) % 16) == 0) = false := beq_eq_false_iff_ne.mpr c6
   have c6b1 : (((a1.size : Int) % 16) != 0) = true := bne_iff_ne.mpr c6
   simp only [Option.some.injEq, Prod.mk.injEq] at H
   obtain ⟨rfl, rfl⟩ := H
   go_enter Try.func103, Try.ntmps103
   go_wp2_with (first | ((with_reducible refine gate_callee (f := 91) rfl ?_); refine goesL_ (some 14) rfl rfl Try.func91 (by kernel_rfl) rfl #[.string a0] rfl (by (try simp only [lT, lC, lN]); first | done | rfl) ?_; (with_reducible refine (clavigerref08_Keys.calls k a0 t3 t9 _ A4.out).mono ?_); rintro e w24 ⟨v476, rfl, ho0, hb⟩; refine ⟨_, rfl, ?_⟩; have n0_ := Aside0.mk (Kd.R_lower ho0 (below_size (by repeat first | with_reducible (first | exact HB.out | apply bA | apply bN | apply bD) | exact HB.out))); have n1_ := Aside0.mk (below_step (by repeat first | with_reducible (first | exact HB.out | apply bA | apply bN | apply bD) | exact HB.out) hb); clear HB; have HO477 := n0_; have HB := n1_; clear n0_ n1_; (try clear hb); (try clear hb2); (try clear hk); (try clear hi); (try clear ho0)))
   go_ret2
   exact ⟨by first | rfl | (simp [*, errW_none, errW_some] <;> rfl), by repeat first | with_reducible (first | exact HB.out | apply bA | apply bN | apply bD) | exact HB.out⟩
 ·rw [if_neg c5] at H
  have c5b0 : (t9 == 0) = false := beq_eq_false_iff_ne.mpr c5
  have c5b1 : (t9 != 0) = true := bne_iff_ne.mpr c5
  simp only [Option.some.injEq, Prod.mk.injEq] at H
  obtain ⟨rfl, rfl⟩ := H
  go_enter Try.func103, Try.ntmps103
  go_wp2_with (first | ((with_reducible refine gate_callee (f := 91) rfl ?_); refine goesL_ (some 14) rfl rfl Try.func91 (by kernel_rfl) rfl #[.string a0] rfl (by (try simp only [lT, lC, lN]); first | done | rfl) ?_; (with_reducible refine (clavigerref08_Keys.calls k a0 t3 t9 _ A4.out).mono ?_); rintro e w25 ⟨v476, rfl, ho0, hb⟩; refine ⟨_, rfl, ?_⟩; have n0_ := Aside0.mk (Kd.R_lower ho0 (below_size (by repeat first | with_reducible (first | exact HB.out | apply bA | apply bN | apply bD) | exact HB.out))); have n1_ := Aside0.mk (below_step (by repeat first | with_reducible (first | exact HB.out | apply bA | apply bN | apply bD) | exact HB.out) hb); clear HB; have HO477 := n0_; have HB := n1_; clear n0_ n1_; (try clear hb); (try clear hb2); (try clear hk); (try clear hi); (try clear ho0)))
  go_ret2
  exact ⟨by first | rfl | (simp [*, errW_none, errW_some] <;> rfl), by repeat first | with_reducible (first | exact HB.out | apply bA | apply bN | apply bD) | exact HB.out⟩

def clavigerref09_Decrypt.f (k : Nat) (a0 : ByteArray) (a1 : ByteArray) : Option (ByteArray × Int) := (clavigerref08_Keys.f k a0).bind fun bt1 => (if bt1.2 = 0 then (if (a1.size : Int) = 16 then ((clavigerref09_backward.f k bt1.1 a1).bind fun t2 => (some (t2, 0))) else (some ((⟨#[]⟩ : ByteArray), 4))) else (some ((⟨#[]⟩ : ByteArray), bt1.2)))
theorem clavigerref09_Decrypt.mono : ∀ a0 a1 k, LeO (clavigerref09_Decrypt.f k a0 a1) (clavigerref09_Decrypt.f (k + 1) a0 a1) := by
 intro a0 a1 k
 unfold clavigerref09_Decrypt.f
 repeat' first
   | (with_reducible exact clavigerref08_Keys.mono _ _)
   | (with_reducible exact clavigerref09_backward.mono _ _ _)
   | (with_reducible exact LeO.refl _)
   | (with_reducible exact LeO.none _)
   | (with_reducible refine LeO.ite ?_ ?_)
   | (with_reducible refine LeO.bind ?_ (fun _ => ?_))
end Go.Proofs.Ytokkhnjedmlbhaa.Pr
end
section
namespace Go.Proofs.Ytokkhnjedmlbhaa.M
open Go.RowKit Go.Proofs.Ytokkhnjedmlbhaa.Pr Go.Proofs.YtokkhnjedmlbhaaW.PrintWords Go.Proofs.YtokkhnjedmlbhaaW.PrintLast Go.Proofs.YtokkhnjedmlbhaaW.PrintMore Go.Proofs.YtokkhnjedmlbhaaGf
set_option linter.unusedSimpArgs false
def okX (f : ByteArray → ByteArray) (s : ByteArray) : ByteArray × Int := if s.size = 16 then (f s, 0) else (⟨#[]⟩, 4)
/-- A block, encrypted; decrypted; or why not. -/
def encX (key s : ByteArray) : ByteArray × Int := if okN key.size then okX (encT (ksB key)) s else (⟨#[]⟩, 2)
theorem dropB {ks : List ByteArray} {i : Nat} (h : i < ks.length) : ks.drop i = ks.getD i ByteArray.empty :: ks.drop (i + 1) := by
  rw [List.drop_eq_getElem_cons h]
  simp [List.getD_eq_getElem?_getD, h]
theorem last_i (ks : List ByteArray) (i : Nat) (h : i < ks.length) (hb : ks.length ≤ 100) : (((i : Nat) : Int) == wrap64 ((ks.length : Int) - 1)) = (ks.drop (i + 1)).isEmpty := by
  rw [wrap_id (by omega) (by omega)]
  by_cases e : i + 1 = ks.length
  · rw [List.drop_of_length_le (by omega)]
    exact beq_iff_eq.mpr (by omega)
  · rw [dropB (show i + 1 < ks.length by omega)]
    exact beq_eq_false_iff_ne.mpr (by omega)
theorem rfwdL (ks : List ByteArray) (hb : ks.length ≤ 100) (d : Nat) : ∀ (i : Nat) (s : ByteArray), ks.length - i = d → i ≤ ks.length → Ev (fun k => clavigerref09_forward.l0 k ks s (i : Int)) (fwd (ks.drop i) s) := by
  induction d with
  | zero =>
    intro i s hd hi
    rw [List.drop_of_length_le (by omega)]
    refine Ev.step (f := fun _ => some s) (fun k => ?_) (Ev.now _)
    simp only [clavigerref09_forward.l0]
    rw [if_neg (by omega)]
  | succ d ih =>
    intro i s hd hi
    rw [dropB (show i < ks.length by omega)]
    refine Ev.step (f := fun k => (clavigerref07_Do.f k s (ks.getD i ByteArray.empty) ((ks.drop (i + 1)).isEmpty)).bind fun t269 => clavigerref09_forward.l0 k ks t269 ((i + 1 : Nat) : Int)) (fun k => ?_) ?_
    · simp only [clavigerref09_forward.l0]
      rw [if_pos (by omega), if_pos (by omega), last_i ks i (by omega) hb, rdO, wrap_id (by omega) (by omega)]
      rfl
    · exact evb (rdo_t _ _ _) (ih (i + 1) _ (by omega) (by omega))
theorem rfwd_c (ks : List ByteArray) (s : ByteArray) (h0 : 0 < ks.length) (hb : ks.length ≤ 100) : Ev (fun k => clavigerref09_forward.f k ks s) (encT ks s) := by
  unfold clavigerref09_forward.f
  refine evp (by omega) (evb (rkey_t _ _) ?_)
  have := rfwdL ks hb _ 1 (kyT s (rdOf ByteArray.empty ks 0)) rfl (by omega)
  cases ks with
  | nil => simp at h0
  | cons k ks => exact this
theorem rbwdL (ks : List ByteArray) (s : ByteArray) (hb : ks.length ≤ 100) : ∀ (i : Nat), i < ks.length → Ev (fun k => clavigerref09_backward.l0 k ks (bwd (ks.drop (i + 1)) s) (i : Int)) (decT ks s)
  | 0, hi => by
    refine Ev.step (f := fun k => (clavigerref07_Key.f k (bwd (ks.drop 1) s) (ks.getD 0 ByteArray.empty)).bind fun t390 => some t390) (fun k => ?_) ?_
    · simp only [clavigerref09_backward.l0]
      rw [if_neg (by omega), if_pos (by omega)]
      rfl
    · refine evb (rkey_t _ _) ?_
      cases ks with
      | nil => simp at hi
      | cons k ks => exact Ev.now _
  | i + 1, hi => by
    refine Ev.step (f := fun k => (clavigerref07_Undo.f k (bwd (ks.drop (i + 1 + 1)) s) (ks.getD (i + 1) ByteArray.empty) ((ks.drop (i + 1 + 1)).isEmpty)).bind fun t388 => clavigerref09_backward.l0 k ks t388 (i : Int)) (fun k => ?_) ?_
    · simp only [clavigerref09_backward.l0]
      rw [if_pos (by omega), if_pos (by omega), if_pos (by omega), last_i ks (i + 1) (by omega) hb, rdO, show wrap64 (((i + 1 : Nat) : Int) - 1) = (i : Int) by rw [wrap_id (by omega) (by omega)]; omega]
    · refine evb (run_t _ _ _) ?_
      have := rbwdL ks s hb i (by omega)
      rw [dropB (show i + 1 < ks.length by omega)] at this
      exact this
theorem rbwd_c (ks : List ByteArray) (s : ByteArray) (h0 : 0 < ks.length) (hb : ks.length ≤ 100) : Ev (fun k => clavigerref09_backward.f k ks s) (decT ks s) := by
  unfold clavigerref09_backward.f
  rw [show wrap64 ((ks.length : Int) - 1) = ((ks.length - 1 : Nat) : Int) by rw [wrap_id (by omega) (by omega)]; omega]
  have := rbwdL ks s hb (ks.length - 1) (by omega)
  rw [List.drop_of_length_le (by omega)] at this
  exact this
theorem encX_ok {key s : ByteArray} (h : okN key.size) (hs : s.size = 16) : encX key s = (encT (ksB key) s, 0) := by unfold encX okX; rw [if_pos h, if_pos hs]
def cryT (ks : List ByteArray) (back : Bool) (s : ByteArray) : ByteArray := if back then decT ks s else encT ks s
def manyB (ks : List ByteArray) (back : Bool) (m : Nat) (s : ByteArray) : ByteArray := catB ((pcs 16 m s).map (cryT ks back))
def manyX (key s : ByteArray) (back : Bool) : ByteArray × Int := if okN key.size then if s.size % 16 = 0 then (manyB (ksB key) back (s.size / 16) s, 0) else (⟨#[]⟩, 4) else (⟨#[]⟩, 2)
theorem pcs_succ (n m : Nat) (s : ByteArray) : pcs n (m + 1) s = pcs n m s ++ [s.extract (n * m) (n * m + n)] := by
  unfold pcs; rw [List.range_succ, List.map_append]; rfl
theorem many_succ (ks : List ByteArray) (back : Bool) (m : Nat) (s : ByteArray) : manyB ks back (m + 1) s = manyB ks back m s ++ cryT ks back (s.extract (16 * m) (16 * m + 16)) := by
  unfold manyB
  rw [pcs_succ, List.map_append, cat_app, List.map_singleton, cat_one]
theorem cry_size {ks : List ByteArray} (h : all16 ks) (back : Bool) {s : ByteArray} (hs : s.size = 16) : (cryT ks back s).size = 16 := by
  unfold cryT
  cases back
  · exact enc_size h hs
  · exact dec_size h hs
theorem many_all {ks : List ByteArray} (h : all16 ks) (back : Bool) {m : Nat} {s : ByteArray} (hs : 16 * m ≤ s.size) : allS 16 ((pcs 16 m s).map (cryT ks back)) := by
  intro x hx
  obtain ⟨y, hy, rfl⟩ := List.mem_map.1 hx
  exact cry_size h back (pcs_size hs y hy)
theorem many_size {ks : List ByteArray} (h : all16 ks) (back : Bool) {m : Nat} {s : ByteArray} (hs : 16 * m ≤ s.size) : (manyB ks back m s).size = 16 * m := by
  unfold manyB
  rw [cat_size 16 _ (many_all h back hs), List.length_map, pcs_length]
theorem rmanyL {ks : List ByteArray} (hk : all16 ks) (h0 : 0 < ks.length) (hb : ks.length ≤ 100) (back : Bool) (s : ByteArray) (n : Nat) (hs : s.size = 16 * n) (hn : n < 1000000000) (d : Nat) : ∀ m, n - m = d → m ≤ n →
    Ev (fun k => clavigerref09_Many.l0 k s back ks (manyB ks back m s) ((16 * m : Nat) : Int)) (manyB ks back n s, 0) := by
  induction d with
  | zero =>
    intro m hd hm
    obtain rfl : m = n := by omega
    refine Ev.step (f := fun _ => some (manyB ks back m s, 0)) (fun k => ?_) (Ev.now _)
    simp only [clavigerref09_Many.l0]
    rw [if_neg (by omega)]
  | succ d ih =>
    intro m hd hm
    have hh := ih (m + 1) (by omega) (by omega)
    rw [many_succ] at hh
    have e : wrap64 (((16 * m : Nat) : Int) + 16) = ((16 * m + 16 : Nat) : Int) := by rw [wrap_id (by omega) (by omega)]; omega
    have e2 : ((16 * (m + 1) : Nat) : Int) = ((16 * m + 16 : Nat) : Int) := by omega
    rw [e2] at hh
    have hz : (s.extract (16 * m) (16 * m + 16)).size = 16 := by rw [ByteArray.size_extract]; omega
    have hc := cry_size hk back hz
    have hmz := many_size hk back (m := m) (s := s) (by omega)
    cases back with
    | true =>
      refine Ev.step (f := fun k => (clavigerref09_backward.f k ks (s.extract (16 * m) (16 * m + 16))).bind fun t395 => if (manyB ks true m s).size + t395.size ≤ 9223372036854775807 then clavigerref09_Many.l0 k s true ks (manyB ks true m s ++ t395) ((16 * m + 16 : Nat) : Int) else none) (fun k => ?_) ?_
      · simp only [clavigerref09_Many.l0]
        rw [if_pos (by omega), if_pos True.intro, if_pos (by omega), e, if_pos (by omega), if_pos (by omega), Int.toNat_natCast, Int.toNat_natCast]
      · refine evb (rbwd_c _ _ h0 hb) (evp ?_ hh)
        have : (decT ks (s.extract (16 * m) (16 * m + 16))).size = 16 := hc
        omega
    | false =>
      refine Ev.step (f := fun k => (clavigerref09_forward.f k ks (s.extract (16 * m) (16 * m + 16))).bind fun t395 => if (manyB ks false m s).size + t395.size ≤ 9223372036854775807 then clavigerref09_Many.l0 k s false ks (manyB ks false m s ++ t395) ((16 * m + 16 : Nat) : Int) else none) (fun k => ?_) ?_
      · simp only [clavigerref09_Many.l0]
        rw [if_pos (by omega), if_neg (by simp), if_pos (by omega), e, if_pos (by omega), if_pos (by omega), Int.toNat_natCast, Int.toNat_natCast]
      · refine evb (rfwd_c _ _ h0 hb) (evp ?_ hh)
        have : (encT ks (s.extract (16 * m) (16 * m + 16))).size = 16 := hc
        omega
theorem rmany_c (key s : ByteArray) (back : Bool) (hb : s.size < 1000000000) : Ev (fun k => clavigerref09_Many.f k key s back) (manyX key s back) := by
  unfold clavigerref09_Many.f manyX
  by_cases h : okN key.size
  · rw [if_pos h]
    have hl := ks_len h
    refine evb (rkeys_c h) (evp rfl ?_)
    by_cases hs : s.size % 16 = 0
    · rw [if_pos hs]
      exact evp (by omega) (rmanyL (ks_facts h).2.1 (by omega) hl.2 back s (s.size / 16) (by omega) (by omega) _ 0 rfl (by omega))
    · rw [if_neg hs]
      exact evn (by omega) (Ev.now _)
  · rw [if_neg h]
    exact evb (rkeys_n h) (evn (by decide) (Ev.now _))
theorem run_enc (n : Nat) (hn : n = 4 ∨ n = 6 ∨ n = 8) {key l r : List Nat} (hkl : key.length = 4 * n) (hf : (fourL key).map mkB = pcs 4 n (mkB key)) (hf2 : (fourL key).all (fun v => v.all fun x => Nat.blt x 256) = true) (hl : l.all (fun x => Nat.blt x 256) = true) (hl2 : l.length = 16) (h : keysF n key (fun ks => encF ks l id) = r) :
    encT (ksB (mkB key)) (mkB l) = mkB r := by
  have lt_of : ∀ v : List Nat, v.all (fun x => Nat.blt x 256) = true → isB v := fun v hv x hx => by
    have := List.all_eq_true.1 hv x hx
    simpa using this
  obtain ⟨ks, h1, h2, h3⟩ := keysF_eq n hn key hkl hf (fun v hv => lt_of v (List.all_eq_true.1 hf2 v hv)) (fun ks => encF ks l id)
  rw [h1, encF_eq ks l id h3 ⟨lt_of l hl, hl2⟩, h2] at h
  rw [← h]
  exact (mkB_nb _).symm
end Go.Proofs.Ytokkhnjedmlbhaa.M
end
section
namespace Go.Proofs.Ytokkhnjedmlbhaa.M
/-- What comes ahead of block j of a chain; the chain up to there. -/
def ivJ (ks : List ByteArray) (s iv : ByteArray) : Nat → ByteArray
  | 0 => iv
  | j + 1 => encT ks (xorT (s.extract (16 * j) (16 * j + 16)) (ivJ ks s iv j))
def outJ (ks : List ByteArray) (s iv : ByteArray) : Nat → ByteArray
  | 0 => ⟨#[]⟩
  | j + 1 => outJ ks s iv j ++ ivJ ks s iv (j + 1)
/-- Why there is no chain, or 0. -/
def rdyE (key iv s : ByteArray) : Int := if okN key.size then if iv.size = 16 then if s.size % 16 = 0 then 0 else 4 else 1 else 2
theorem pcs_get (n m : Nat) (s : ByteArray) (j : Nat) (hj : j < m) : (pcs n m s)[j]? = some (s.extract (n * j) (n * j + n)) := by simp [pcs, hj]
end Go.Proofs.Ytokkhnjedmlbhaa.M
namespace Go.Proofs.Ytokkhnjedmlbhaa.Pr
open Go.RowKit Go.Proofs.YtokkhnjedmlbhaaW.PrintWords Go.Proofs.YtokkhnjedmlbhaaW.PrintLast Go.Proofs.YtokkhnjedmlbhaaW.PrintMore Go.Proofs.YtokkhnjedmlbhaaHw Go.Proofs.YtokkhnjedmlbhaaGf
def cbc_Encrypt.f (a0 a1 a2 : ByteArray) : Option (ByteArray × Int) := if a2.size < 1000000 then some (if M.rdyE a0 a1 a2 = 0 then (M.outJ (M.ksB a0) a2 a1 (a2.size / 16), 0) else (⟨#[]⟩, M.rdyE a0 a1 a2)) else none
def cbc_Decrypt.f (a0 a1 a2 : ByteArray) : Option (ByteArray × Int) := if a2.size < 1000000 then some (if M.rdyE a0 a1 a2 = 0 then (M.xorT (M.manyB (M.ksB a0) true (a2.size / 16) a2) (a1 ++ a2), 0) else (⟨#[]⟩, M.rdyE a0 a1 a2)) else none
end Go.Proofs.Ytokkhnjedmlbhaa.Pr
end
section
namespace Go.Proofs.Ytokkhnjedmlbhaa.Pr
open Go.RowKit Go.Proofs.YtokkhnjedmlbhaaW.PrintWords Go.Proofs.YtokkhnjedmlbhaaW.PrintLast Go.Proofs.YtokkhnjedmlbhaaW.PrintMore Go.Proofs.YtokkhnjedmlbhaaHw Go.Proofs.YtokkhnjedmlbhaaGf
theorem many_bad (key s : ByteArray) (back : Bool) (w : World) (hk : ¬ M.okN key.size) :
    Calls Try.prog 102 #[.string key, .string s, .bool back] w fun e w' => e = .returned (.tuple #[.string ⟨#[]⟩, .int .i64 2]) ∧ Below w.heap.size w w' := by
  have HK := Aside0.mk hk
  clear hk
  go_enter Try.func102, Try.ntmps102
  go_wp2_with (go_at_call 104; (with_reducible refine (new_bad _ _ HK.out).mono ?_); rintro e w1 ⟨rfl, hb1⟩; have HB := Aside0.mk hb1; clear hb1)
  go_ret2
  exact ⟨rfl, HB.out⟩
theorem many_size (key s : ByteArray) (back : Bool) (w : World) (hk : M.okN key.size) (hs : ¬ s.size % 16 = 0) :
    Calls Try.prog 102 #[.string key, .string s, .bool back] w fun e w' => e = .returned (.tuple #[.string ⟨#[]⟩, .int .i64 4]) ∧ Below w.heap.size w w' := by
  have HK := Aside0.mk hk
  have e1 : ((s.size : Int) % 16 != 0) = true := bne_iff_ne.mpr (by omega)
  clear hk hs
  go_enter Try.func102, Try.ntmps102
  go_wp2_with (go_at_call 104; (with_reducible refine (new_ok _ _ HK.out).mono ?_); rintro e w1 ⟨g, rfl, hC, hb1⟩; have HB := Aside0.mk hb1; clear hb1 hC)
  go_ret2
  exact ⟨rfl, HB.out⟩
set_option maxHeartbeats 2000000 in
set_option maxRecDepth 100000 in
theorem many_false (key s : ByteArray) (w : World) (hk : M.okN key.size) (hs : s.size % 16 = 0) (hb : s.size < 1000000) :
    Calls Try.prog 102 #[.string key, .string s, .bool false] w fun e w' => e = .returned (.tuple #[.string (M.manyB (M.ksB key) false (s.size / 16) s), .int .i64 0]) ∧ Below w.heap.size w w' := by
  have hm : s.size = 16 * (s.size / 16) := by omega
  have hm2 : s.size / 16 < 100000 := by omega
  have e1 : ((s.size : Int) % 16 != 0) = false := bne_eq_false_iff_eq.mpr (by omega)
  generalize s.size / 16 = m at *
  obtain ⟨kp, hp⟩ := Ev.rounds (M.pieces_m (n := 16) (by omega) (by omega) (by omega) hm)
  have HP : Aside0 (octets_Pieces.f kp s 16 = some (M.pcs 16 m s)) := ⟨hp⟩
  have hpl := M.pcs_length 16 m s
  have HK := Aside0.mk hk
  have HM := Aside0.mk hm
  have HA := Aside0.mk (M.ks_facts hk).2.1
  have hmk := make8 s.size (by omega)
  have HG : Aside0 (∀ j, j < m → (M.pcs 16 m s)[j]? = some (s.extract (16 * j) (16 * j + 16))) := ⟨fun j hj => M.pcs_get 16 m s j hj⟩
  clear hp hk hs hm
  go_enter Try.func102, Try.ntmps102
  go_wp2_with (go_at_call 104; (with_reducible refine (new_ok _ _ HK.out).mono ?_); rintro e w1 ⟨g, rfl, hC, hb1⟩; have HC := Aside0.mk hC; have HB1 := Aside0.mk hb1; clear hC hb1)
  have ho3 := OB.made w1 w1 s.size (by omega) (Nat.le_refl _)
  have hb3 : Below w1.heap.size w1 (w1.alloc (.cells (madeCells #[.int .u8 0] s.size) 5)) := below_alloc (Below.refl _ _) _
  generalize w1.alloc (.cells (madeCells #[.int .u8 0] s.size) 5) = w3 at *
  have HO3 := Aside0.mk ho3
  have HB3 := Aside0.mk hb3
  clear ho3 hb3 hmk e1
  go_wp2_with (go_at_call 186; (with_reducible refine (octets_Pieces.calls kp s 16 _ _ HP.out).mono ?_); rintro e w4 ⟨v0, rfl, hR, hb4⟩; obtain ⟨A, c, rfl, hS⟩ := SR.of_R hR; have HO4 := Aside0.mk (HO3.out.below hb4); have HS4 := Aside0.mk hS; have HB4 := Aside0.mk (below_then HB3.out HB3.out.size hb4); clear hR hb4 hS)
  clear HO3 HB3 HP
  go_loopw [11, 39] (fun v i wr => ∃ (j : Nat), j ≤ m ∧ i = .int .i64 j ∧ Aside0 (OB w1 wr v (M.manyB (M.ksB key) false j s)) ∧ Aside0 (SR wr A (M.pcs 16 m s)) ∧ Aside0 (Below w1.heap.size w1 wr)) (fun _ i _ => m - (intOf i).toNat)
  case atStart => exact ⟨0, Nat.zero_le _, rfl, HO4, HS4, HB4⟩
  case round =>
    clear HO4 HS4 HB4
    obtain ⟨j, hj, rfl, HO, HS, HB⟩ := hrel
    by_cases hlt : j < m
    · obtain ⟨gp, rfl, hS⟩ := HS.out (by rw [hpl]; omega)
      have hcell := hS.cell j _ (HG.out j hlt)
      have HE : Aside0 (M.encR key (s.extract (16 * j) (16 * j + 16)) = (M.cryT (M.ksB key) false (s.extract (16 * j) (16 * j + 16)), 0)) := ⟨by unfold M.encR; rw [if_pos (by rw [ByteArray.size_extract]; have := HM.out; omega)]; rfl⟩
      have HL : Aside0 ((M.manyB (M.ksB key) false j s).size + (M.cryT (M.ksB key) false (s.extract (16 * j) (16 * j + 16))).size ≤ 140737488355328) := ⟨by have := HM.out; rw [M.many_size HA.out false (by omega), M.cry_size HA.out false (by rw [ByteArray.size_extract]; omega)]; omega⟩
      go_wp2_with (first | (go_at_call 106; (with_reducible refine (enc_any g key _ _ (HC.out.below HB.out) HK.out).mono ?_); rintro e w6 ⟨rfl, hb6⟩; rw [HE.out]; have HB6 := Aside0.mk (below_then HB.out HB.out.size hb6); have HO6 := Aside0.mk (HO.out.below hb6); have HS6 := Aside0.mk (HS.out.below hb6); clear hb6) | (at_builtin; refine OB.append (w0 := w1) rfl _ _ rfl _ _ _ rfl rfl HO6.out HB6.out HL.out ?_))
      intro v1 w7 ho7 hb7 hg7
      have HO7 : Aside0 (OB w1 w7 v1 (M.manyB (M.ksB key) false (j + 1) s)) := ⟨by rw [M.many_succ]; exact ho7⟩
      have HS7 := Aside0.mk (HS6.out.grown8 HO6.out hg7)
      have HB7 := Aside0.mk hb7
      clear ho7 hb7 hg7 HO6 HS6 HB6 HO HS HB
      go_wp2
      exact ⟨⟨j + 1, hlt, by go_num, HO7, HS7, HB7⟩, by simp [intOf]; omega⟩
    · obtain rfl : j = m := by omega
      have hcv := HO.out.text
      go_wp2
      go_ret2
      exact ⟨rfl, HB1.out.trans (HB.out.mono HB1.out.size)⟩
set_option maxHeartbeats 2000000 in
set_option maxRecDepth 100000 in
theorem many_true (key s : ByteArray) (w : World) (hk : M.okN key.size) (hs : s.size % 16 = 0) (hb : s.size < 1000000) :
    Calls Try.prog 102 #[.string key, .string s, .bool true] w fun e w' => e = .returned (.tuple #[.string (M.manyB (M.ksB key) true (s.size / 16) s), .int .i64 0]) ∧ Below w.heap.size w w' := by
  have hm : s.size = 16 * (s.size / 16) := by omega
  have hm2 : s.size / 16 < 100000 := by omega
  have e1 : ((s.size : Int) % 16 != 0) = false := bne_eq_false_iff_eq.mpr (by omega)
  generalize s.size / 16 = m at *
  obtain ⟨kp, hp⟩ := Ev.rounds (M.pieces_m (n := 16) (by omega) (by omega) (by omega) hm)
  have HP : Aside0 (octets_Pieces.f kp s 16 = some (M.pcs 16 m s)) := ⟨hp⟩
  have hpl := M.pcs_length 16 m s
  have HK := Aside0.mk hk
  have HM := Aside0.mk hm
  have HA := Aside0.mk (M.ks_facts hk).2.1
  have hmk := make8 s.size (by omega)
  have HG : Aside0 (∀ j, j < m → (M.pcs 16 m s)[j]? = some (s.extract (16 * j) (16 * j + 16))) := ⟨fun j hj => M.pcs_get 16 m s j hj⟩
  clear hp hk hs hm
  go_enter Try.func102, Try.ntmps102
  go_wp2_with (go_at_call 104; (with_reducible refine (new_ok _ _ HK.out).mono ?_); rintro e w1 ⟨g, rfl, hC, hb1⟩; have HC := Aside0.mk hC; have HB1 := Aside0.mk hb1; clear hC hb1)
  have ho3 := OB.made w1 w1 s.size (by omega) (Nat.le_refl _)
  have hb3 : Below w1.heap.size w1 (w1.alloc (.cells (madeCells #[.int .u8 0] s.size) 5)) := below_alloc (Below.refl _ _) _
  generalize w1.alloc (.cells (madeCells #[.int .u8 0] s.size) 5) = w3 at *
  have HO3 := Aside0.mk ho3
  have HB3 := Aside0.mk hb3
  clear ho3 hb3 hmk e1
  go_wp2_with (go_at_call 186; (with_reducible refine (octets_Pieces.calls kp s 16 _ _ HP.out).mono ?_); rintro e w4 ⟨v0, rfl, hR, hb4⟩; obtain ⟨A, c, rfl, hS⟩ := SR.of_R hR; have HO4 := Aside0.mk (HO3.out.below hb4); have HS4 := Aside0.mk hS; have HB4 := Aside0.mk (below_then HB3.out HB3.out.size hb4); clear hR hb4 hS)
  clear HO3 HB3 HP
  go_loopw [11, 39] (fun v i wr => ∃ (j : Nat), j ≤ m ∧ i = .int .i64 j ∧ Aside0 (OB w1 wr v (M.manyB (M.ksB key) true j s)) ∧ Aside0 (SR wr A (M.pcs 16 m s)) ∧ Aside0 (Below w1.heap.size w1 wr)) (fun _ i _ => m - (intOf i).toNat)
  case atStart => exact ⟨0, Nat.zero_le _, rfl, HO4, HS4, HB4⟩
  case round =>
    clear HO4 HS4 HB4
    obtain ⟨j, hj, rfl, HO, HS, HB⟩ := hrel
    by_cases hlt : j < m
    · obtain ⟨gp, rfl, hS⟩ := HS.out (by rw [hpl]; omega)
      have hcell := hS.cell j _ (HG.out j hlt)
      have HE : Aside0 (M.decR key (s.extract (16 * j) (16 * j + 16)) = (M.cryT (M.ksB key) true (s.extract (16 * j) (16 * j + 16)), 0)) := ⟨by unfold M.decR; rw [if_pos (by rw [ByteArray.size_extract]; have := HM.out; omega)]; rfl⟩
      have HL : Aside0 ((M.manyB (M.ksB key) true j s).size + (M.cryT (M.ksB key) true (s.extract (16 * j) (16 * j + 16))).size ≤ 140737488355328) := ⟨by have := HM.out; rw [M.many_size HA.out true (by omega), M.cry_size HA.out true (by rw [ByteArray.size_extract]; omega)]; omega⟩
      go_wp2_with (first | (go_at_call 107; (with_reducible refine (dec_any g key _ _ (HC.out.below HB.out) HK.out).mono ?_); rintro e w6 ⟨rfl, hb6⟩; rw [HE.out]; have HB6 := Aside0.mk (below_then HB.out HB.out.size hb6); have HO6 := Aside0.mk (HO.out.below hb6); have HS6 := Aside0.mk (HS.out.below hb6); clear hb6) | (at_builtin; refine OB.append (w0 := w1) rfl _ _ rfl _ _ _ rfl rfl HO6.out HB6.out HL.out ?_))
      intro v1 w7 ho7 hb7 hg7
      have HO7 : Aside0 (OB w1 w7 v1 (M.manyB (M.ksB key) true (j + 1) s)) := ⟨by rw [M.many_succ]; exact ho7⟩
      have HS7 := Aside0.mk (HS6.out.grown8 HO6.out hg7)
      have HB7 := Aside0.mk hb7
      clear ho7 hb7 hg7 HO6 HS6 HB6 HO HS HB
      go_wp2
      exact ⟨⟨j + 1, hlt, by go_num, HO7, HS7, HB7⟩, by simp [intOf]; omega⟩
    · obtain rfl : j = m := by omega
      have hcv := HO.out.text
      go_wp2
      go_ret2
      exact ⟨rfl, HB1.out.trans (HB.out.mono HB1.out.size)⟩
def aes_Many.f (a0 a1 : ByteArray) (a2 : Bool) : Option (ByteArray × Int) := if a1.size < 1000000 then some (M.manyX a0 a1 a2) else none
theorem aes_Many.calls (a0 a1 : ByteArray) (a2 : Bool) (r0 : ByteArray) (r1 : Int) (w : World) (h : aes_Many.f a0 a1 a2 = some (r0, r1)) :
    Calls Try.prog 102 #[.string a0, .string a1, .bool a2] w fun e w' => e = .returned (.tuple #[.string r0, .int .i64 r1]) ∧ Below w.heap.size w w' := by
  unfold aes_Many.f at h
  split at h
  case isFalse => cases h
  case isTrue hb =>
  unfold M.manyX at h
  by_cases hk : M.okN a0.size
  · rw [if_pos hk] at h
    by_cases hs : a1.size % 16 = 0
    · rw [if_pos hs] at h
      obtain ⟨rfl, rfl⟩ := Prod.mk.inj (Option.some.inj h)
      cases a2
      · exact many_false a0 a1 w hk hs hb
      · exact many_true a0 a1 w hk hs hb
    · rw [if_neg hs] at h
      obtain ⟨rfl, rfl⟩ := Prod.mk.inj (Option.some.inj h)
      exact many_size a0 a1 a2 w hk hs
  · rw [if_neg hk] at h
    obtain ⟨rfl, rfl⟩ := Prod.mk.inj (Option.some.inj h)
    exact many_bad a0 a1 a2 w hk
end Go.Proofs.Ytokkhnjedmlbhaa.Pr
end
