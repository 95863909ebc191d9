-- several texts in one (by the session's program shake.py)
import Derived.Test.YtmcpfkgahmdkgaaZPlain
import Derived.Test.YtmcpfkgahmdkgaaRows
import Derived.JoinedOf
import Derived.KernelRfl
section
namespace Go.Proofs.Ytmcpfkgahmdkgaa.Pr
open Go.RowKit Go.Proofs.YtmcpfkgahmdkgaaW.PrintWords Go.Proofs.YtmcpfkgahmdkgaaW.PrintLast Go.Proofs.YtmcpfkgahmdkgaaW.PrintMore
attribute [local go_sem] max2_int min2_int max_two min_two max_three min_three max_four min_four   -- for this text's walks alone
set_option linter.unusedVariables false
set_option linter.unusedSimpArgs false

def clavigerref03_May.f (a0 : Int) (a1 : Int) : Option (Bool) := if a0 ≥ 0 then (if a0 ≤ a1 then (some (decide (a1 ≤ 65552))) else (some false)) else (some false)
set_option maxHeartbeats 8000000 in
set_option maxRecDepth 100000 in
theorem clavigerref03_May.calls (a0 : Int) (a1 : Int) (r : Bool) (w : World) (h : clavigerref03_May.f a0 a1 = some r) :
  Calls Try.prog 16 #[.int .i64 a0, .int .i64 a1] w fun e w' => e = .returned (.bool r) ∧ Drawn0 w w' := by
 have H : (if a0 ≥ 0 then (if a0 ≤ a1 then (some (decide (a1 ≤ 65552))) else (some false)) else (some false)) = some r := h
 clear h
 by_cases c3 : a0 ≥ 0
 ·rw [if_pos c3] at H
  have c3b0 : decide (0 ≤ a0) = true := decide_eq_true c3
  clear c3
  by_cases c4 : a0 ≤ a1
  ·rw [if_pos c4] at H
   have c4b0 : decide (a0 ≤ a1) = true := decide_eq_true c4
   clear c4
   obtain rfl := Option.some.inj H
   go_enter Try.func16, Try.ntmps16
   go_wp2
   go_ret
   exact ⟨by first | rfl | (simp; done) | (simp [*]; done) | (simp [IntKind.wrap_u8, IntKind.wrap_i64, wrap64]; done), by repeat (first | exact Drawn0.refl _ | apply Drawn0.step)⟩
  ·rw [if_neg c4] at H
   have c4b0 : decide (a0 ≤ a1) = false := decide_eq_false c4
   clear c4
   obtain rfl := Option.some.inj H
   go_enter Try.func16, Try.ntmps16
   go_wp2
   go_ret
   exact ⟨by first | rfl | (simp; done) | (simp [*]; done) | (simp [IntKind.wrap_u8, IntKind.wrap_i64, wrap64]; done), by repeat (first | exact Drawn0.refl _ | apply Drawn0.step)⟩
 ·rw [if_neg c3] at H
  have c3b0 : decide (0 ≤ a0) = false := decide_eq_false c3
  clear c3
  obtain rfl := Option.some.inj H
  go_enter Try.func16, Try.ntmps16
  go_wp2
  go_ret
  exact ⟨by first | rfl | (simp; done) | (simp [*]; done) | (simp [IntKind.wrap_u8, IntKind.wrap_i64, wrap64]; done), by repeat (first | exact Drawn0.refl _ | apply Drawn0.step)⟩

def clavigerref03_Shift.f (a0 : Int) (a1 : Int) (a2 : Int) : Option (Int × Int × Bool) := (clavigerref03_May.f a0 a1).bind fun t1 => (if t1 = true then (if a2 < (-65552) then (some (0, 0, false)) else (if a2 > 65552 then (some (0, 0, false)) else ((clavigerref03_May.f (wrap64 (a0 + a2)) (wrap64 (a1 + a2))).bind fun t2 => (if t2 = true then (some (wrap64 (a0 + a2), wrap64 (a1 + a2), true)) else (some (0, 0, false)))))) else (some (0, 0, false)))
set_option maxHeartbeats 8000000 in
set_option maxRecDepth 100000 in
theorem clavigerref03_Shift.calls (a0 : Int) (a1 : Int) (a2 : Int) (r1 : Int) (r2 : Int) (r3 : Bool) (w : World) (h : clavigerref03_Shift.f a0 a1 a2 = some (r1, r2, r3)) :
  Calls Try.prog 17 #[.int .i64 a0, .int .i64 a1, .int .i64 a2] w fun e w' => e = .returned (.tuple #[.int .i64 r1, .int .i64 r2, .bool r3]) ∧ Drawn0 w w' := by
 have H : ((clavigerref03_May.f a0 a1).bind fun t1 => (if t1 = true then (if a2 < (-65552) then (some (0, 0, false)) else (if a2 > 65552 then (some (0, 0, false)) else ((clavigerref03_May.f (wrap64 (a0 + a2)) (wrap64 (a1 + a2))).bind fun t2 => (if t2 = true then (some (wrap64 (a0 + a2), wrap64 (a1 + a2), true)) else (some (0, 0, false)))))) else (some (0, 0, false)))) = some (r1, r2, r3) := h
 clear h
 replace H := Option.bind_eq_some_iff.mp H
 obtain ⟨t1, A40, H⟩ := H
 try dsimp only at H
 have A4 := Aside0.mk A40
 clear A40
 by_cases c5 : t1 = true
 ·subst c5
  have H1 : (if a2 < (-65552) then (some (0, 0, false)) else (if a2 > 65552 then (some (0, 0, false)) else ((clavigerref03_May.f (wrap64 (a0 + a2)) (wrap64 (a1 + a2))).bind fun t2 => (if t2 = true then (some (wrap64 (a0 + a2), wrap64 (a1 + a2), true)) else (some (0, 0, false)))))) = some (r1, r2, r3) := by rw [if_pos rfl] at H; exact H
  clear H
  have H := H1
  clear H1
  by_cases c6 : a2 < (-65552)
  ·rw [if_pos c6] at H
   have c6b0 : decide (a2 < (-65552)) = true := decide_eq_true c6
   clear c6
   simp only [Option.some.injEq, Prod.mk.injEq] at H
   obtain ⟨rfl, rfl, rfl⟩ := H
   go_enter Try.func17, Try.ntmps17
   go_wp2_with (first | ((with_reducible refine gate_callee (f := 16) rfl ?_); refine goesL_ (some 11) rfl rfl Try.func16 (by kernel_rfl) rfl #[.int .i64 a0, .int .i64 a1] rfl (by (try simp only [lT, lC, lN]); first | done | rfl) ?_; (with_reducible refine (clavigerref03_May.calls a0 a1 true _ A4.out).mono ?_); rintro e w' ⟨rfl, ⟨nd, rfl⟩⟩; refine ⟨_, rfl, ?_⟩))
   go_ret3
   exact ⟨by first | rfl | (simp; done) | (simp [*]; done) | (simp [IntKind.wrap_u8, IntKind.wrap_i64, wrap64]; done), by repeat (first | exact Drawn0.refl _ | apply Drawn0.step)⟩
  ·rw [if_neg c6] at H
   have c6b0 : decide (a2 < (-65552)) = false := decide_eq_false c6
   clear c6
   by_cases c7 : a2 > 65552
   ·rw [if_pos c7] at H
    have c7b0 : decide (65552 < a2) = true := decide_eq_true c7
    clear c7
    simp only [Option.some.injEq, Prod.mk.injEq] at H
    obtain ⟨rfl, rfl, rfl⟩ := H
    go_enter Try.func17, Try.ntmps17
    go_wp2_with (first | ((with_reducible refine gate_callee (f := 16) rfl ?_); refine goesL_ (some 11) rfl rfl Try.func16 (by kernel_rfl) rfl #[.int .i64 a0, .int .i64 a1] rfl (by (try simp only [lT, lC, lN]); first | done | rfl) ?_; (with_reducible refine (clavigerref03_May.calls a0 a1 true _ A4.out).mono ?_); rintro e w' ⟨rfl, ⟨nd, rfl⟩⟩; refine ⟨_, rfl, ?_⟩))
    go_ret3
    exact ⟨by first | rfl | (simp; done) | (simp [*]; done) | (simp [IntKind.wrap_u8, IntKind.wrap_i64, wrap64]; done), by repeat (first | exact Drawn0.refl _ | apply Drawn0.step)⟩
   ·rw [if_neg c7] at H
    have c7b0 : decide (65552 < a2) = false := decide_eq_false c7
    clear c7
    replace H := Option.bind_eq_some_iff.mp H
    obtain ⟨t2, A80, H⟩ := H
    try dsimp only at H
    have A8 := Aside0.mk A80
    clear A80
    by_cases c9 : t2 = true
    ·subst c9
     have H1 : (some (wrap64 (a0 + a2), wrap64 (a1 + a2), true)) = some (r1, r2, r3) := by rw [if_pos rfl] at H; exact H
     clear H
     have H := H1
     clear H1
     simp only [Option.some.injEq, Prod.mk.injEq] at H
     obtain ⟨rfl, rfl, rfl⟩ := H
     go_enter Try.func17, Try.ntmps17
     go_wp2_with (first | ((with_reducible refine gate_callee (f := 16) rfl ?_); refine goesL_ (some 11) rfl rfl Try.func16 (by kernel_rfl) rfl #[.int .i64 a0, .int .i64 a1] rfl (by (try simp only [lT, lC, lN]); first | done | rfl) ?_; (with_reducible refine (clavigerref03_May.calls a0 a1 true _ A4.out).mono ?_); rintro e w' ⟨rfl, ⟨nd, rfl⟩⟩; refine ⟨_, rfl, ?_⟩) | (go_at_call 16; (with_reducible refine (clavigerref03_May.calls (wrap64 (a0 + a2)) (wrap64 (a1 + a2)) true _ A8.out).mono ?_); rintro e w' ⟨rfl, ⟨nd, rfl⟩⟩))
     go_ret3
     exact ⟨by first | rfl | (simp; done) | (simp [*]; done) | (simp [IntKind.wrap_u8, IntKind.wrap_i64, wrap64]; done), by repeat (first | exact Drawn0.refl _ | apply Drawn0.step)⟩
    ·replace c9 := Bool.eq_false_iff.mpr c9
     subst c9
     have H1 : (some (0, 0, false)) = some (r1, r2, r3) := by rw [if_neg (show ¬ (false = true) by decide)] at H; exact H
     clear H
     have H := H1
     clear H1
     simp only [Option.some.injEq, Prod.mk.injEq] at H
     obtain ⟨rfl, rfl, rfl⟩ := H
     go_enter Try.func17, Try.ntmps17
     go_wp2_with (first | ((with_reducible refine gate_callee (f := 16) rfl ?_); refine goesL_ (some 11) rfl rfl Try.func16 (by kernel_rfl) rfl #[.int .i64 a0, .int .i64 a1] rfl (by (try simp only [lT, lC, lN]); first | done | rfl) ?_; (with_reducible refine (clavigerref03_May.calls a0 a1 true _ A4.out).mono ?_); rintro e w' ⟨rfl, ⟨nd, rfl⟩⟩; refine ⟨_, rfl, ?_⟩) | (go_at_call 16; (with_reducible refine (clavigerref03_May.calls (wrap64 (a0 + a2)) (wrap64 (a1 + a2)) false _ A8.out).mono ?_); rintro e w' ⟨rfl, ⟨nd, rfl⟩⟩))
     go_ret3
     exact ⟨by first | rfl | (simp; done) | (simp [*]; done) | (simp [IntKind.wrap_u8, IntKind.wrap_i64, wrap64]; done), by repeat (first | exact Drawn0.refl _ | apply Drawn0.step)⟩
 ·replace c5 := Bool.eq_false_iff.mpr c5
  subst c5
  have H1 : (some (0, 0, false)) = some (r1, r2, r3) := by rw [if_neg (show ¬ (false = true) by decide)] at H; exact H
  clear H
  have H := H1
  clear H1
  simp only [Option.some.injEq, Prod.mk.injEq] at H
  obtain ⟨rfl, rfl, rfl⟩ := H
  go_enter Try.func17, Try.ntmps17
  go_wp2_with (first | ((with_reducible refine gate_callee (f := 16) rfl ?_); refine goesL_ (some 11) rfl rfl Try.func16 (by kernel_rfl) rfl #[.int .i64 a0, .int .i64 a1] rfl (by (try simp only [lT, lC, lN]); first | done | rfl) ?_; (with_reducible refine (clavigerref03_May.calls a0 a1 false _ A4.out).mono ?_); rintro e w' ⟨rfl, ⟨nd, rfl⟩⟩; refine ⟨_, rfl, ?_⟩))
  go_ret3
  exact ⟨by first | rfl | (simp; done) | (simp [*]; done) | (simp [IntKind.wrap_u8, IntKind.wrap_i64, wrap64]; done), by repeat (first | exact Drawn0.refl _ | apply Drawn0.step)⟩

mutual
def clavigerref03_Cut.j0 : Nat → ByteArray → Int → Int → ByteArray → Bool → Option (ByteArray)
 | 0, _, _, _, _, _ => none
 | k + 1, x0, x1, x2, x7, x18 => if x18 = true then (some x7) else (clavigerref03_Cut.l0 k x0 x2 x7 x1)
def clavigerref03_Cut.l0 : Nat → ByteArray → Int → ByteArray → Int → Option (ByteArray)
 | 0, _, _, _, _ => none
 | k + 1, x0, x2, x7, x8 => if x8 < x2 then (if 0 ≤ x8 then (if x8 ≤ (wrap64 (x8 + 1)) then (if (wrap64 (x8 + 1)) ≤ (x0.size : Int) then (if x7.size + (x0.extract (x8 : Int).toNat ((wrap64 (x8 + 1)) : Int).toNat).size ≤ 9223372036854775807 then (clavigerref03_Cut.l0 k x0 x2 (x7 ++ (x0.extract (x8 : Int).toNat ((wrap64 (x8 + 1)) : Int).toNat)) (wrap64 (x8 + 1))) else (none)) else (none)) else (none)) else (none)) else (some x7)
end
def clavigerref03_Cut.f (k : Nat) (a0 : ByteArray) (a1 : Int) (a2 : Int) : Option (ByteArray) := (clavigerref03_May.f a1 a2).bind fun t1 => (if t1 = true then (clavigerref03_Cut.j0 k a0 a1 a2 (⟨#[]⟩ : ByteArray) (decide (a2 > (a0.size : Int)))) else (clavigerref03_Cut.j0 k a0 a1 a2 (⟨#[]⟩ : ByteArray) true))
theorem clavigerref03_Cut.mono_l : ∀ k, (∀ y2 y3 y4 y5 y6, LeO (clavigerref03_Cut.j0 k y2 y3 y4 y5 y6) (clavigerref03_Cut.j0 (k + 1) y2 y3 y4 y5 y6)) ∧ (∀ y2 y3 y4 y5, LeO (clavigerref03_Cut.l0 k y2 y3 y4 y5) (clavigerref03_Cut.l0 (k + 1) y2 y3 y4 y5))
 | 0 => ⟨fun _ _ _ _ _ r h => by simp [clavigerref03_Cut.j0] at h, fun _ _ _ _ r h => by simp [clavigerref03_Cut.l0] at h⟩
 | k + 1 => by
  obtain ⟨ih0, ih1⟩ := clavigerref03_Cut.mono_l k
  refine ⟨?_, ?_⟩
  ·intro y2 y3 y4 y5 y6
   unfold clavigerref03_Cut.j0
   repeat' first
   | (with_reducible exact ih0 _ _ _ _ _)
   | (with_reducible exact ih1 _ _ _ _)
   | (with_reducible exact LeO.refl _)
   | (with_reducible exact LeO.none _)
   | (with_reducible refine LeO.ite ?_ ?_)
   | (with_reducible refine LeO.bind ?_ (fun _ => ?_))
  ·intro y2 y3 y4 y5
   unfold clavigerref03_Cut.l0
   repeat' first
   | (with_reducible exact ih0 _ _ _ _ _)
   | (with_reducible exact ih1 _ _ _ _)
   | (with_reducible exact LeO.refl _)
   | (with_reducible exact LeO.none _)
   | (with_reducible refine LeO.ite ?_ ?_)
   | (with_reducible refine LeO.bind ?_ (fun _ => ?_))
theorem clavigerref03_Cut.mono : ∀ a0 a1 a2 k, LeO (clavigerref03_Cut.f k a0 a1 a2) (clavigerref03_Cut.f (k + 1) a0 a1 a2) := by
 intro a0 a1 a2 k
 obtain ⟨ih0, ih1⟩ := clavigerref03_Cut.mono_l k
 unfold clavigerref03_Cut.f
 repeat' first
   | (with_reducible exact ih0 _ _ _ _ _)
   | (with_reducible exact ih1 _ _ _ _)
   | (with_reducible exact LeO.refl _)
   | (with_reducible exact LeO.none _)
   | (with_reducible refine LeO.ite ?_ ?_)
   | (with_reducible refine LeO.bind ?_ (fun _ => ?_))
set_option maxHeartbeats 8000000 in
set_option maxRecDepth 100000 in
theorem clavigerref03_Cut.calls (k : Nat) (a0 : ByteArray) (a1 : Int) (a2 : Int) (r : ByteArray) (w : World) (h : clavigerref03_Cut.f k a0 a1 a2 = some r) :
  Calls Try.prog 23 #[.string a0, .int .i64 a1, .int .i64 a2] w fun e w' => e = .returned (.string r) ∧ Drawn0 w w' := by
 have H : ((clavigerref03_May.f a1 a2).bind fun t1 => (if t1 = true then (clavigerref03_Cut.j0 k a0 a1 a2 (⟨#[]⟩ : ByteArray) (decide (a2 > (a0.size : Int)))) else (clavigerref03_Cut.j0 k a0 a1 a2 (⟨#[]⟩ : ByteArray) true))) = some r := h
 clear h
 have HC4 := Aside0.mk H
 clear H
 go_enter Try.func23, Try.ntmps23
 go_upto_region 2 with (fail)
 go_cut [18] (fun v18 wc => ∃ (kq : Nat) (x18_3 : Bool), v18 = .bool x18_3 ∧ Aside0 (clavigerref03_Cut.j0 kq a0 a1 a2 (⟨#[]⟩ : ByteArray) x18_3 = some r) ∧ Aside0 (kq ≤ k) ∧ Drawn0 w wc)
 case first =>
  have H := HC4.out
  clear HC4
  replace H := Option.bind_eq_some_iff.mp H
  obtain ⟨t1, A50, H⟩ := H
  try dsimp only at H
  have A5 := Aside0.mk A50
  clear A50
  by_cases c6 : t1 = true
  ·subst c6
   have H1 : (clavigerref03_Cut.j0 k a0 a1 a2 (⟨#[]⟩ : ByteArray) (decide (a2 > (a0.size : Int)))) = some r := by rw [if_pos rfl] at H; exact H
   clear H
   have H := H1
   clear H1
   have H' := Aside0.mk H
   clear H
   go_wp2_with (first | ((with_reducible refine gate_callee (f := 16) rfl ?_); refine goesL_ (some 11) rfl rfl Try.func16 (by kernel_rfl) rfl #[.int .i64 a1, .int .i64 a2] rfl (by (try simp only [lT, lC, lN]); first | done | rfl) ?_; (with_reducible refine (clavigerref03_May.calls a1 a2 true _ A5.out).mono ?_); rintro e w' ⟨rfl, ⟨nd, rfl⟩⟩; refine ⟨_, rfl, ?_⟩))
   go_meet
   case rel => exact ⟨_, (decide (a2 > (a0.size : Int))), (by first | rfl | (simp; done) | (simp [*]; done)), H', ⟨by first | omega | exact Nat.le_refl _⟩, by repeat (first | exact Drawn0.refl _ | apply Drawn0.step)⟩
  ·replace c6 := Bool.eq_false_iff.mpr c6
   subst c6
   have H1 : (clavigerref03_Cut.j0 k a0 a1 a2 (⟨#[]⟩ : ByteArray) true) = some r := by rw [if_neg (show ¬ (false = true) by decide)] at H; exact H
   clear H
   have H := H1
   clear H1
   have H' := Aside0.mk H
   clear H
   go_wp2_with (first | ((with_reducible refine gate_callee (f := 16) rfl ?_); refine goesL_ (some 11) rfl rfl Try.func16 (by kernel_rfl) rfl #[.int .i64 a1, .int .i64 a2] rfl (by (try simp only [lT, lC, lN]); first | done | rfl) ?_; (with_reducible refine (clavigerref03_May.calls a1 a2 false _ A5.out).mono ?_); rintro e w' ⟨rfl, ⟨nd, rfl⟩⟩; refine ⟨_, rfl, ?_⟩))
   go_meet
   case rel => exact ⟨_, (true), (by first | rfl | (simp; done) | (simp [*]; done)), H', ⟨by first | omega | exact Nat.le_refl _⟩, by repeat (first | exact Drawn0.refl _ | apply Drawn0.step)⟩
 case rest =>
  clear HC4
  try clear c1
  try clear c2
  try clear p2
  try clear c6
  obtain ⟨kq, x18_3, rfl, HA, HJ3, ⟨mc3, rfl⟩⟩ := hcut
  cases kq with
  | zero => exact absurd HA.out (by simp [clavigerref03_Cut.j0])
  | succ kj3 =>
   have H := HA.out
   clear HA
   simp only [clavigerref03_Cut.j0] at H
   by_cases c7 : x18_3 = true
   ·subst c7
    have H1 : (some (⟨#[]⟩ : ByteArray)) = some r := by rw [if_pos rfl] at H; exact H
    clear H
    have H := H1
    clear H1
    obtain rfl := Option.some.inj H
    go_wp2
    go_ret
    exact ⟨by first | rfl | (simp; done) | (simp [*]; done) | (simp [IntKind.wrap_u8, IntKind.wrap_i64, wrap64]; done), by repeat (first | exact Drawn0.refl _ | apply Drawn0.step)⟩
   ·replace c7 := Bool.eq_false_iff.mpr c7
    subst c7
    have H1 : (clavigerref03_Cut.l0 kj3 a0 a2 (⟨#[]⟩ : ByteArray) a1) = some r := by rw [if_neg (show ¬ (false = true) by decide)] at H; exact H
    clear H
    have H := H1
    clear H1
    have H' := Aside0.mk H
    clear H
    go_wp2
    go_loopg [7, 8] kj3 (fun kq v7 v8 w' => ∃ (x7_2 : ByteArray) (x8_2 : Int), v7 = .string x7_2 ∧ v8 = .int .i64 x8_2 ∧ Aside0 (clavigerref03_Cut.l0 kq a0 a2 x7_2 x8_2 = some r) ∧ Aside0 (kq ≤ kj3) ∧ Drawn0 w w')
    case atStart => exact ⟨((⟨#[]⟩ : ByteArray)), (a1), (by first | rfl | (simp; done) | (simp [*]; done)), (by first | rfl | (simp; done) | (simp [*]; done)), H', ⟨Nat.le_refl _⟩, by repeat (first | exact Drawn0.refl _ | apply Drawn0.step)⟩
    case round =>
     clear H'
     try clear c1
     try clear c2
     try clear p2
     try clear c3
     try clear c6
     try clear c7
     try clear p2
     obtain ⟨x7_2, x8_2, rfl, rfl, HA, HK2, ⟨m2, rfl⟩⟩ := hrel
     cases gk with
     | zero => exact absurd HA.out (by simp [clavigerref03_Cut.l0])
     | succ k2 =>
      have H := HA.out
      clear HA
      simp only [clavigerref03_Cut.l0] at H
      by_cases c8 : x8_2 < a2
      ·rw [if_pos c8] at H
       have c8b0 : decide (x8_2 < a2) = true := decide_eq_true c8
       clear c8
       by_cases c9 : 0 ≤ x8_2
       ·rw [if_pos c9] at H
        have c9b0 := eq_true c9
        have c9b1 : decide (0 ≤ x8_2) = true := decide_eq_true c9
        clear c9
        by_cases c10 : x8_2 ≤ (wrap64 (x8_2 + 1))
        ·rw [if_pos c10] at H
         have c10b0 := eq_true c10
         have c10b1 : decide (x8_2 ≤ (wrap64 (x8_2 + 1))) = true := decide_eq_true c10
         by_cases c11 : (wrap64 (x8_2 + 1)) ≤ (a0.size : Int)
         ·rw [if_pos c11] at H
          have c11b0 := eq_true c11
          have c11b1 : decide ((wrap64 (x8_2 + 1)) ≤ (a0.size : Int)) = true := decide_eq_true c11
          by_cases c12 : x7_2.size + (a0.extract (x8_2 : Int).toNat ((wrap64 (x8_2 + 1)) : Int).toNat).size ≤ 9223372036854775807
          ·rw [if_pos c12] at H
           have c12b0 := eq_true c12
           have c12b1 : decide (x7_2.size + (a0.extract (x8_2 : Int).toNat ((wrap64 (x8_2 + 1)) : Int).toNat).size ≤ 9223372036854775807) = true := decide_eq_true c12
           try have c12b2 : (9223372036854775807 < x7_2.size + (a0.extract (x8_2 : Int).toNat ((wrap64 (x8_2 + 1)) : Int).toNat).size) = False := eq_false (Nat.not_lt.2 c12)
           have c12b9 : (9223372036854775807 < x7_2.size + (min ((wrap64 (x8_2 + 1)) : Int).toNat a0.size - (x8_2 : Int).toNat)) = False := eq_false (by have h_ := c12; simp only [ByteArray.size_append, ByteArray.size_extract, Nat.sub_zero] at h_; omega)
           have H' := Aside0.mk H
           clear H
           go_wp2
           go_roundg k2
           case measure => have := HJ3.out; have := HK2.out; omega
           case rel => exact ⟨(x7_2 ++ (a0.extract (x8_2 : Int).toNat ((wrap64 (x8_2 + 1)) : Int).toNat)), (wrap64 (x8_2 + 1)), (by first | rfl | (simp; done) | (simp [*]; done)), (by first | rfl | (simp; done) | (simp [*]; done)), H', ⟨by have := HJ3.out; have := HK2.out; omega⟩, by repeat (first | exact Drawn0.refl _ | apply Drawn0.step)⟩
          ·rw [if_neg c12] at H
           exact absurd H (by simp)
         ·rw [if_neg c11] at H
          exact absurd H (by simp)
        ·rw [if_neg c10] at H
         exact absurd H (by simp)
       ·rw [if_neg c9] at H
        exact absurd H (by simp)
      ·rw [if_neg c8] at H
       have c8b0 : decide (x8_2 < a2) = false := decide_eq_false c8
       clear c8
       obtain rfl := Option.some.inj H
       go_wp2
       go_ret
       exact ⟨by first | rfl | (simp; done) | (simp [*]; done) | (simp [IntKind.wrap_u8, IntKind.wrap_i64, wrap64]; done), by repeat (first | exact Drawn0.refl _ | apply Drawn0.step)⟩

def clavigerref03_Inside.f (a0 : Int) (a1 : Int) (a2 : Int) (a3 : Int) : Option (Bool) := (clavigerref03_May.f a0 a1).bind fun t1 => (if t1 = true then ((clavigerref03_May.f a2 a3).bind fun t2 => (if t2 = true then (if a0 ≥ a2 then (some (decide (a1 ≤ a3))) else (some false)) else (some false))) else (some false))
def clavigerref03_Apart.f (a0 : Int) (a1 : Int) (a2 : Int) (a3 : Int) : Option (Bool) := (clavigerref03_May.f a0 a1).bind fun t1 => (if t1 = true then ((clavigerref03_May.f a2 a3).bind fun t2 => (if t2 = true then (if a1 ≤ a2 then (some true) else (some (decide (a3 ≤ a0)))) else (some false))) else (some false))
end Go.Proofs.Ytmcpfkgahmdkgaa.Pr
end
section
namespace Go.Proofs.Ytmcpfkgahmdkgaa.M
open Go Go.RowKit Go.Proofs.Ytmcpfkgahmdkgaa.Pr Go.Proofs.YtmcpfkgahmdkgaaW.PrintWords Go.Proofs.YtmcpfkgahmdkgaaW.PrintLast Go.Proofs.YtmcpfkgahmdkgaaW.PrintMore
theorem evu {α : Type} {g : Nat → Option α} {r : α} (h : Ev (fun k => g (k + 1)) r) : Ev g r := Ev.step (f := fun k => g (k + 1)) (fun _ => rfl) h
/-- The bytes of a span. -/
def cutS (s : ByteArray) (a b : Int) : ByteArray := if b > (s.size : Int) then ⟨#[]⟩ else s.extract a.toNat b.toNat
theorem ext_none (s : ByteArray) (i j : Nat) (h : j ≤ i) : s.extract i j = ⟨#[]⟩ := by
  apply ByteArray.ext
  rw [ByteArray.data_extract, Array.extract_empty_of_stop_le_start h]
theorem ext_join (s : ByteArray) (a i j : Nat) (h1 : a ≤ i) (h2 : i ≤ j) (h3 : j ≤ s.size) : s.extract a i ++ s.extract i j = s.extract a j := by
  rw [extract_nb, extract_nb, extract_nb, mkB_append]
  congr 1
  have hl : (nb s).length = s.size := nb_length s
  have e : ((nb s).take j).drop a = (((nb s).take j).take i ++ ((nb s).take j).drop i).drop a := by rw [List.take_append_drop]
  rw [e, List.take_take, Nat.min_eq_left h2, List.drop_append_of_le_length (by rw [List.length_take]; omega)]
theorem ocut_c (s : ByteArray) (a b : Int) (h : mayP a b) (hs : s.size < 1000000) (hb : b ≤ (s.size : Int)) : octets_Cut.f s a (b - a) = some (s.extract a.toNat b.toNat) := by
  obtain ⟨h0, h1, h2⟩ := h
  unfold octets_Cut.f
  rw [if_neg (by omega)]
  by_cases c1 : a ≥ (s.size : Int)
  · rw [if_pos c1, ext_none _ _ _ (by omega)]
  · rw [if_neg c1]
    by_cases c2 : b - a < 1
    · rw [if_pos c2, ext_none _ _ _ (by omega)]
    · have e1 : mn (b - a) (wrap64 ((s.size : Int) - a)) = b - a := by
        rw [wrap_id (by omega) (by omega)]
        unfold mn
        rw [if_neg (by omega)]
      have e2 : wrap64 (a + (b - a)) = b := by rw [wrap_id (by omega) (by omega)]; omega
      rw [if_neg c2, e1, e2, if_pos h0, if_pos h1, if_pos hb]
theorem rcutL (s : ByteArray) (a b : Nat) (hb : b ≤ s.size) (hs : s.size < 1000000) (d : Nat) : ∀ i, b - i = d → a ≤ i → i ≤ b → Ev (fun k => clavigerref03_Cut.l0 k s (b : Int) (s.extract a i) (i : Int)) (s.extract a b) := by
  induction d with
  | zero =>
    intro i hd h1 h2
    obtain rfl : i = b := by omega
    refine evu ?_
    simp only [clavigerref03_Cut.l0]
    exact evn (by omega) (Ev.now _)
  | succ d ih =>
    intro i hd h1 h2
    have hh := ih (i + 1) (by omega) (by omega) (by omega)
    have e : wrap64 ((i : Int) + 1) = ((i + 1 : Nat) : Int) := by rw [wrap_id (by omega) (by omega)]; omega
    refine evu ?_
    simp only [clavigerref03_Cut.l0]
    rw [e, Int.toNat_natCast, Int.toNat_natCast, ext_join s a i (i + 1) h1 (by omega) (by omega)]
    exact evp (by omega) (evp (by omega) (evp (by omega) (evp (by omega) (evp (by rw [ByteArray.size_extract, ByteArray.size_extract]; omega) hh))))
theorem rmay_c (a b : Int) : clavigerref03_May.f a b = some (decide (mayP a b)) := by
  unfold clavigerref03_May.f
  by_cases h0 : a ≥ 0
  · rw [if_pos h0]
    by_cases h1 : a ≤ b
    · rw [if_pos h1]
      congr 1
      exact decide_eq_decide.2 ⟨fun h => ⟨h0, h1, h⟩, fun h => h.2.2⟩
    · rw [if_neg h1, decide_eq_false (fun h => h1 h.2.1)]
  · rw [if_neg h0, decide_eq_false (fun h => h0 h.1)]
theorem rcut_c (s : ByteArray) (a b : Int) (h : mayP a b) (hs : s.size < 1000000) : Ev (fun k => clavigerref03_Cut.f k s a b) (cutS s a b) := by
  unfold clavigerref03_Cut.f cutS
  refine evs (rmay_c a b) (evp (decide_eq_true h) ?_)
  obtain ⟨h0, h1, h2⟩ := h
  by_cases c : b > (s.size : Int)
  · rw [if_pos c, decide_eq_true c]
    refine evu ?_
    simp only [clavigerref03_Cut.j0]
    exact evp True.intro (Ev.now _)
  · rw [if_neg c, decide_eq_false c]
    refine evu ?_
    simp only [clavigerref03_Cut.j0]
    refine evn (by decide) ?_
    have hh := rcutL s a.toNat b.toNat (by omega) hs _ a.toNat rfl (Nat.le_refl _) (by omega)
    rw [ext_none s a.toNat a.toNat (Nat.le_refl _), show ((a.toNat : Nat) : Int) = a by omega, show ((b.toNat : Nat) : Int) = b by omega] at hh
    exact hh
/-- Moved: the span, or none. -/
def shP (a b n : Int) : Prop := -65552 ≤ n ∧ n ≤ 65552 ∧ mayP (a + n) (b + n)
instance (a b n : Int) : Decidable (shP a b n) := by unfold shP; exact inferInstance
theorem rshift_c (a b n : Int) (h : mayP a b) (_hn : -9223372036854775808 ≤ n ∧ n ≤ 9223372036854775807) : clavigerref03_Shift.f a b n = some (if shP a b n then (a + n, b + n, true) else (0, 0, false)) := by
  have hm := h
  obtain ⟨h0, h1, h2⟩ := h
  unfold clavigerref03_Shift.f
  rw [rmay_c, decide_eq_true hm]
  simp only [Option.bind_some]
  rw [if_pos True.intro]
  by_cases c1 : n < -65552
  · rw [if_pos c1, if_neg (fun h => absurd h.1 (by omega))]
  · rw [if_neg c1]
    by_cases c2 : n > 65552
    · rw [if_pos c2, if_neg (fun h => absurd h.2.1 (by omega))]
    · rw [if_neg c2, wrap_id (x := a + n) (by omega) (by omega), wrap_id (x := b + n) (by omega) (by omega), rmay_c]
      simp only [Option.bind_some]
      by_cases c3 : mayP (a + n) (b + n)
      · rw [if_pos (decide_eq_true c3), if_pos ⟨by omega, by omega, c3⟩]
      · rw [if_neg (by simp [c3]), if_neg (fun h => c3 h.2.2)]
/-- Spans' sizes, added. -/
def sumL : List (Int × Int) → Int
  | [] => 0
  | p :: l => sumL l + (p.2 - p.1)
theorem sumL_range : ∀ l : List (Int × Int), (∀ p ∈ l, mayP p.1 p.2) → 0 ≤ sumL l ∧ sumL l ≤ 65552 * l.length
  | [], _ => ⟨Int.le_refl _, by show (0 : Int) ≤ _; omega⟩
  | p :: l, h => by
    obtain ⟨a, b⟩ := sumL_range l (fun q hq => h q (by simp [hq]))
    obtain ⟨h0, h1, h2⟩ := h p (by simp)
    have e : ((p :: l).length : Int) = l.length + 1 := by rw [List.length_cons]; omega
    rw [e]
    show 0 ≤ sumL l + (p.2 - p.1) ∧ sumL l + (p.2 - p.1) ≤ _
    omega
theorem sumL_snoc (p : Int × Int) : ∀ l : List (Int × Int), sumL (l ++ [p]) = sumL l + (p.2 - p.1)
  | [] => rfl
  | q :: l => by
    show sumL (l ++ [p]) + (q.2 - q.1) = sumL l + (q.2 - q.1) + (p.2 - p.1)
    rw [sumL_snoc p l]
    omega
end Go.Proofs.Ytmcpfkgahmdkgaa.M
namespace Go.Proofs.Ytmcpfkgahmdkgaa.Pr
open Go.RowKit Go.Proofs.YtmcpfkgahmdkgaaW.PrintWords Go.Proofs.YtmcpfkgahmdkgaaW.PrintLast Go.Proofs.YtmcpfkgahmdkgaaW.PrintMore
theorem scut_c (s : ByteArray) {a b : Int} (h : M.mayP a b) (hs : s.size < 1000000) (w : World) : Calls Try.prog 22 #[.string s, .complex .f64 (M.fl a) (M.fl b)] w fun e w' => e = .returned (.string (M.cutS s a b)) ∧ Below w.heap.size w w' := by
  have H0 := Aside0.mk (may_t h)
  have H1 := Aside0.mk (to_c h)
  have H2 := Aside0.mk (from_c h)
  unfold M.cutS
  by_cases c : b > (s.size : Int)
  · rw [if_pos c]
    have e1 : decide ((s.size : Int) < b) = true := decide_eq_true c
    clear h hs c H2
    go_enter Try.func22, Try.ntmps22
    go_wp2_with (first
      | (go_at_call 21; (with_reducible refine (H0.out _).mono ?_); rintro e w' ⟨rfl, hw'⟩; have hw2 := hw'.symm; subst hw2)
      | (go_at_call 20; (with_reducible refine (H1.out _).mono ?_); rintro e w' ⟨rfl, hw'⟩; have hw2 := hw'.symm; subst hw2))
    go_ret
    exact ⟨rfl, Below.refl _ _⟩
  · rw [if_neg c]
    have e1 : decide ((s.size : Int) < b) = false := decide_eq_false c
    have HC := Aside0.mk (M.ocut_c s a b h hs (by omega))
    have e2 : wrap64 (b - a) = b - a := M.wrap_id (by have := h.1; have := h.2.1; have := h.2.2; omega) (by have := h.1; have := h.2.1; have := h.2.2; omega)
    clear h hs c
    go_enter Try.func22, Try.ntmps22
    go_wp2_with (first
      | (go_at_call 21; (with_reducible refine (H0.out _).mono ?_); rintro e w' ⟨rfl, hw'⟩; have hw2 := hw'.symm; subst hw2)
      | (go_at_call 20; (with_reducible refine (H1.out _).mono ?_); rintro e w' ⟨rfl, hw'⟩; have hw2 := hw'.symm; subst hw2)
      | (go_at_call 19; (with_reducible refine (H2.out _).mono ?_); rintro e w' ⟨rfl, hw'⟩; have hw2 := hw'.symm; subst hw2)
      | (go_at_call 60; (with_reducible refine (octets_Cut.calls _ _ _ _ _ HC.out).mono ?_); rintro e w3 ⟨rfl, hb3⟩; have HB3 := Aside0.mk hb3; clear hb3))
    go_ret
    exact ⟨rfl, HB3.out⟩
/-- A row of spans in memory. -/
def SpanRow (w : World) (A : Option Addr) (l : List (Int × Int)) : Prop := 0 < l.length → ∃ ad, A = some ad ∧ ∀ (j : Nat) p, l[j]? = some p → w.cell? (ad.add j) = some (.complex .f64 (M.fl p.1) (M.fl p.2))
set_option maxHeartbeats 1000000 in
theorem count_c (A : Option Addr) (c : Nat) (l : List (Int × Int)) (w : World) (hA : SpanRow w A l) (hm : ∀ p ∈ l, M.mayP p.1 p.2) (hl : l.length ≤ 1000000) :
    Calls Try.prog 28 #[.slice A l.length c] w fun e w' => e = .returned (.complex .f64 (M.fl l.length) (M.fl (M.sumL l))) ∧ w' = w := by
  have HA := Aside0.mk hA
  have HM := Aside0.mk hm
  generalize hn : l.length = n at *
  have HN := Aside0.mk hn
  clear hA hm hn
  go_enter Try.func28, Try.ntmps28
  go_wp2
  go_loopw [3, 8] (fun v i wr => ∃ j : Nat, j ≤ n ∧ v = .complex .f64 (M.fl (j : Int)) (M.fl (M.sumL (l.take j))) ∧ i = .int .i64 (j : Int) ∧ wr = w) (fun _ i _ => n - (intOf i).toNat)
  case atStart => exact ⟨0, Nat.zero_le _, by rw [List.take_zero]; show _ = Value.complex .f64 (M.fl 0) (M.fl 0); rw [M.fl0], rfl, rfl⟩
  case round =>
    obtain ⟨j, hj, rfl, rfl, rfl⟩ := hrel
    by_cases hlt : j < n
    · obtain ⟨ad, rfl, hcells⟩ := HA.out (by rw [HN.out]; omega)
      have hjl : j < l.length := by rw [HN.out]; exact hlt
      have hp := List.getElem?_eq_getElem hjl
      have hmp := HM.out _ (List.getElem_mem hjl)
      have ht : l.take (j + 1) = l.take j ++ [l[j]] := (List.take_append_getElem hjl).symm
      generalize l[j] = p at *
      have hcell := hcells j p hp
      have H0 := Aside0.mk (may_t hmp)
      have hs := M.sumL_range (l.take j) (fun q hq => HM.out q (List.mem_of_mem_take hq))
      have hlen : ((l.take j).length : Int) ≤ 1000000 := by rw [List.length_take]; omega
      have hs2 : M.sumL (l.take (j + 1)) = M.sumL (l.take j) + (p.2 - p.1) := by rw [ht, M.sumL_snoc]
      obtain ⟨h0, h1, h2⟩ := hmp
      have g1 := M.fl_sub (a := p.2) (b := p.1) (by omega) (by omega) (by omega)
      have g2 := M.fl_add (a := (j : Int)) (b := 1) (by omega) (by omega) (by omega)
      have g3 := M.fl_add (a := M.sumL (l.take j)) (b := p.2 - p.1) (by omega) (by omega) (by omega)
      rw [M.fl1] at g2
      rw [← hs2] at g3
      have k1 := fun w => run_float_arith (P := Try.prog) w .sub 40 .f64 _ _ _ g1
      have k2 := fun w => run_complex_sum (P := Try.prog) w .add (.inl rfl) 23 .f64 (M.fl (j : Int)) (M.fl (M.sumL (l.take j))) 4607182418800017408 (M.fl (p.2 - p.1)) _ _ (by unfold cSumBits; rw [g2, g3]; rfl)
      clear hs hlen hs2 g1 g2 g3 ht hp hcells h0 h1 h2
      go_wp2_with (go_at_call 21; (with_reducible refine (H0.out _).mono ?_); rintro e w' ⟨rfl, hw'⟩; have hw2 := hw'.symm; subst hw2)
      exact ⟨⟨j + 1, hlt, rfl, by go_num, by first | rfl | trivial⟩, by simp [intOf]; omega⟩
    · obtain rfl : j = n := by omega
      go_wp2
      go_ret
      exact ⟨by rw [List.take_of_length_le (by rw [HN.out]; exact Nat.le_refl _)]; rfl, rfl⟩
end Go.Proofs.Ytmcpfkgahmdkgaa.Pr
end
section
namespace Go.Proofs.Ytmcpfkgahmdkgaa.M
open Go
theorem fl2 : fl 2 = 4611686018427387904 := by decide +kernel
theorem fl4 : fl 4 = 4616189618054758400 := by decide +kernel
theorem fl5 : fl 5 = 4617315517961601024 := by decide +kernel
theorem same_fl (n : Int) (h : n.natAbs < 9007199254740992) : (FloatKind.f64.format.order (fl n) (fl n) == some .eq) = true := by rw [eq_fl h h]; exact decide_eq_true rfl
end Go.Proofs.Ytmcpfkgahmdkgaa.M
namespace Go.Proofs.Ytmcpfkgahmdkgaa.Pr
open Go.RowKit Go.Proofs.YtmcpfkgahmdkgaaW.PrintWords Go.Proofs.YtmcpfkgahmdkgaaW.PrintLast Go.Proofs.YtmcpfkgahmdkgaaW.PrintMore
theorem count_2 (w : World) : Calls Try.prog 28 #[.slice (some ⟨w.heap.size, 0, none⟩) 2 2] (w.alloc (.cells #[.complex .f64 4611686018427387904 4617315517961601024, .complex .f64 0 4607182418800017408] 23)) fun e w' => e = .returned (.complex .f64 4611686018427387904 4616189618054758400) ∧ w' = w.alloc (.cells #[.complex .f64 4611686018427387904 4617315517961601024, .complex .f64 0 4607182418800017408] 23) := by
  have h := count_c (some ⟨w.heap.size, 0, none⟩) 2 [(2, 5), (0, 1)] (w.alloc (.cells #[.complex .f64 4611686018427387904 4617315517961601024, .complex .f64 0 4607182418800017408] 23)) (fun _ => ⟨_, rfl, fun j p hj => ?_⟩) (by intro p hp; simp only [List.mem_cons, List.not_mem_nil, or_false] at hp; rcases hp with rfl | rfl <;> decide) (by decide)
  · have e1 : M.fl (([((2 : Int), (5 : Int)), (0, 1)] : List (Int × Int)).length : Int) = 4611686018427387904 := M.fl2
    have e2 : M.fl (M.sumL [(2, 5), (0, 1)]) = 4616189618054758400 := M.fl4
    rw [e1, e2] at h
    exact h
  · have hb := heap_alloc_new w (.cells #[.complex .f64 4611686018427387904 4617315517961601024, .complex .f64 0 4607182418800017408] 23)
    match j, hj with
    | 0, hj =>
      obtain rfl := Option.some.inj hj
      show World.cell? _ ⟨w.heap.size, 0 + 0, none⟩ = _
      rw [blk_cell hb]
      show some (Value.complex .f64 4611686018427387904 4617315517961601024) = some (Value.complex .f64 (M.fl 2) (M.fl 5))
      rw [M.fl2, M.fl5]
    | 1, hj =>
      obtain rfl := Option.some.inj hj
      show World.cell? _ ⟨w.heap.size, 0 + 1, none⟩ = _
      rw [blk_cell hb]
      show some (Value.complex .f64 0 4607182418800017408) = some (Value.complex .f64 (M.fl 0) (M.fl 1))
      rw [M.fl0, M.fl1]
set_option maxHeartbeats 2000000 in
set_option maxRecDepth 100000 in
theorem awake03 (w : World) : Calls Try.prog 14 #[] w fun e w' => e = .returned (.bool true) ∧ Below w.heap.size w w' := by
  have h25 : M.mayP 2 5 := by decide
  have hO := of_t h25
  have hF := from_c h25
  have hT := to_c h25
  have hC := scut_c ⟨#[97, 98, 99, 100, 101, 102]⟩ h25 (by decide)
  have hS := shift_t (a := 1) (b := 2) (n := 3) (by decide) (by decide) (by decide)
  rw [show (1 : Int) + 3 = 4 from rfl, show (2 : Int) + 3 = 5 from rfl] at hS
  rw [show M.cutS ⟨#[97, 98, 99, 100, 101, 102]⟩ 2 5 = ⟨#[99, 100, 101]⟩ by decide +kernel] at hC
  rw [M.fl2, M.fl5] at hO hF hT hC
  rw [M.fl1, M.fl2, M.fl4, M.fl5] at hS
  have q2 := M.same_fl 2 (by decide)
  have q4 := M.same_fl 4 (by decide)
  have q5 := M.same_fl 5 (by decide)
  rw [M.fl2] at q2
  rw [M.fl4] at q4
  rw [M.fl5] at q5
  have HO := Aside0.mk hO
  have HF := Aside0.mk hF
  have HT := Aside0.mk hT
  have HC := Aside0.mk hC
  have HS := Aside0.mk hS
  clear hO hF hT hC hS h25
  go_enter Try.func14, Try.ntmps14
  go_wp2_with (first
    | (go_at_call 15; (with_reducible refine (HO.out _).mono ?_); rintro e w' ⟨rfl, hw'⟩; have hw2 := hw'.symm; subst hw2)
    | (go_at_call 19; (with_reducible refine (HF.out _).mono ?_); rintro e w' ⟨rfl, hw'⟩; have hw2 := hw'.symm; subst hw2)
    | (go_at_call 20; (with_reducible refine (HT.out _).mono ?_); rintro e w' ⟨rfl, hw'⟩; have hw2 := hw'.symm; subst hw2)
    | (go_at_call 18; (with_reducible refine (HS.out _).mono ?_); rintro e w' ⟨rfl, hw'⟩; have hw2 := hw'.symm; subst hw2)
    | (go_at_call 22; (with_reducible refine (HC.out _).mono ?_); rintro e w3 ⟨rfl, hb3⟩; have HB3 := Aside0.mk hb3; clear hb3)
    | (go_at_call 28; (with_reducible refine (count_2 _).mono ?_); rintro e w' ⟨rfl, hw'⟩; have hw2 := hw'.symm; subst hw2))
  go_ret
  exact ⟨rfl, by repeat (first | exact HB3.out | apply below_alloc)⟩
end Go.Proofs.Ytmcpfkgahmdkgaa.Pr
end
section
namespace Go.Proofs.Ytmcpfkgahmdkgaa.Pr
open Go.RowKit Go.Proofs.YtmcpfkgahmdkgaaW.PrintWords Go.Proofs.YtmcpfkgahmdkgaaW.PrintLast Go.Proofs.YtmcpfkgahmdkgaaW.PrintMore
theorem zero_eq : (FloatKind.f64.format.order 0 0 == some .eq) = true := by
  have := M.same_fl 0 (by decide)
  rwa [M.fl0] at this
theorem spanT_a (s : ByteArray) (a b n : Int) (w : World) (h : s.size > 500) : Calls Try.prog 3 #[.string s, .int .i64 a, .int .i64 b, .int .i64 n] w fun e w' => e = .returned (.bool true) ∧ Below w.heap.size w w' := by
  have e1 : decide (500 < (s.size : Int)) = true := decide_eq_true (by omega)
  clear h
  go_enter Try.func3, Try.ntmps3
  go_wp2_with (go_at_call 14; (with_reducible refine (awake03 _).mono ?_); rintro e w3 ⟨rfl, hb3⟩; have HB3 := Aside0.mk hb3; clear hb3)
  go_ret
  exact ⟨rfl, HB3.out⟩
theorem spanT_b (s : ByteArray) (a b n : Int) (w : World) (h : s.size ≤ 500) (hm : ¬ M.mayP a b) : Calls Try.prog 3 #[.string s, .int .i64 a, .int .i64 b, .int .i64 n] w fun e w' => e = .returned (.bool true) ∧ Below w.heap.size w w' := by
  have e1 : decide (500 < (s.size : Int)) = false := decide_eq_false (by omega)
  have HO := Aside0.mk (of_f hm)
  have hr := M.rmay_c a b
  rw [decide_eq_false hm] at hr
  have HR := Aside0.mk hr
  have q0 := zero_eq
  clear h hm hr
  go_enter Try.func3, Try.ntmps3
  go_wp2_with (first
    | (go_at_call 15; (with_reducible refine (HO.out _).mono ?_); rintro e w' ⟨rfl, hw'⟩; have hw2 := hw'.symm; subst hw2)
    | (go_at_call 16; (with_reducible refine (clavigerref03_May.calls _ _ _ _ HR.out).mono ?_); rintro e w2 ⟨rfl, hd⟩; obtain ⟨n1, rfl⟩ := hd.out; clear hd)
    | (go_at_call 14; (with_reducible refine (awake03 _).mono ?_); rintro e w3 ⟨rfl, hb3⟩; have HB3 := Aside0.mk (below_then (pw_below_drewN (Below.refl _ _) n1) (Nat.le_refl _) hb3); clear hb3))
  go_ret
  exact ⟨rfl, HB3.out⟩
set_option maxHeartbeats 2000000 in
set_option maxRecDepth 100000 in
theorem spanT_c (k : Nat) (s : ByteArray) (a b n : Int) (w : World) (h : s.size ≤ 500) (hm : M.mayP a b) (hn : -9223372036854775808 ≤ n ∧ n ≤ 9223372036854775807) (hs : M.shP a b n) (hc : clavigerref03_Cut.f k s a b = some (M.cutS s a b)) : Calls Try.prog 3 #[.string s, .int .i64 a, .int .i64 b, .int .i64 n] w fun e w' => e = .returned (.bool true) ∧ Below w.heap.size w w' := by
  have e1 : decide (500 < (s.size : Int)) = false := decide_eq_false (by omega)
  have HO := Aside0.mk (of_t hm)
  have hr := M.rmay_c a b
  rw [decide_eq_true hm] at hr
  have HR := Aside0.mk hr
  have hsh := M.rshift_c a b n hm hn
  rw [if_pos hs] at hsh
  have HH := Aside0.mk hsh
  have HM := Aside0.mk (may_t hm)
  have HF := Aside0.mk (from_c hm)
  have HT := Aside0.mk (to_c hm)
  have HX := Aside0.mk (scut_c s hm (by omega))
  have HC := Aside0.mk hc
  have HS := Aside0.mk (shift_t hm ⟨hs.1, hs.2.1⟩ hs.2.2)
  have HF2 := Aside0.mk (from_c hs.2.2)
  have HT2 := Aside0.mk (to_c hs.2.2)
  have q1 : (a + n != a + n) = false := bne_self_eq_false _
  have q2 : (b + n != b + n) = false := bne_self_eq_false _
  have q3 : (a == a) = true := beq_self_eq_true _
  have q4 : (b == b) = true := beq_self_eq_true _
  have q5 : ((M.cutS s a b).toList == (M.cutS s a b).toList) = true := beq_self_eq_true _
  clear h hm hr hs hsh hn hc
  go_enter Try.func3, Try.ntmps3
  go_wp2_with (first
    | (go_at_call 15; (with_reducible refine (HO.out _).mono ?_); rintro e w' ⟨rfl, hw'⟩; have hw2 := hw'.symm; subst hw2)
    | (go_at_call 18; (with_reducible refine (HS.out _).mono ?_); rintro e w' ⟨rfl, hw'⟩; have hw2 := hw'.symm; subst hw2)
    | (go_at_call 21; (with_reducible refine (HM.out _).mono ?_); rintro e w' ⟨rfl, hw'⟩; have hw2 := hw'.symm; subst hw2)
    | (go_at_call 19; (with_reducible refine (HF.out _).mono ?_); rintro e w' ⟨rfl, hw'⟩; have hw2 := hw'.symm; subst hw2)
    | (go_at_call 20; (with_reducible refine (HT.out _).mono ?_); rintro e w' ⟨rfl, hw'⟩; have hw2 := hw'.symm; subst hw2)
    | (go_at_call 19; (with_reducible refine (HF2.out _).mono ?_); rintro e w' ⟨rfl, hw'⟩; have hw2 := hw'.symm; subst hw2)
    | (go_at_call 20; (with_reducible refine (HT2.out _).mono ?_); rintro e w' ⟨rfl, hw'⟩; have hw2 := hw'.symm; subst hw2)
    | (go_at_call 16; (with_reducible refine (clavigerref03_May.calls _ _ _ _ HR.out).mono ?_); rintro e w2 ⟨rfl, hd⟩; obtain ⟨n1, rfl⟩ := hd.out; clear hd)
    | (go_at_call 17; (with_reducible refine (clavigerref03_Shift.calls _ _ _ _ _ _ _ HH.out).mono ?_); rintro e w2 ⟨rfl, hd⟩; obtain ⟨n2, rfl⟩ := hd.out; clear hd)
    | (go_at_call 22; (with_reducible refine (HX.out _).mono ?_); rintro e w4 ⟨rfl, hb4⟩; have HB4 := Aside0.mk (below_then (pw_below_drewN (Below.refl _ _) (n1 + n2)) (Nat.le_refl _) hb4); clear hb4)
    | (go_at_call 23; (with_reducible refine (clavigerref03_Cut.calls k _ _ _ _ _ HC.out).mono ?_); rintro e w2 ⟨rfl, hd⟩; obtain ⟨n3, rfl⟩ := hd.out; clear hd)
    | (go_at_call 14; (with_reducible refine (awake03 _).mono ?_); rintro e w3 ⟨rfl, hb3⟩; have HB3 := Aside0.mk (below_then (pw_below_drewN HB4.out n3) (pw_below_drewN HB4.out n3).size hb3); clear hb3))
  go_ret
  exact ⟨rfl, HB3.out⟩
set_option maxHeartbeats 2000000 in
set_option maxRecDepth 100000 in
theorem spanT_d (k : Nat) (s : ByteArray) (a b n : Int) (w : World) (h : s.size ≤ 500) (hm : M.mayP a b) (hn : -9223372036854775808 ≤ n ∧ n ≤ 9223372036854775807) (hs : ¬ M.shP a b n) (hc : clavigerref03_Cut.f k s a b = some (M.cutS s a b)) : Calls Try.prog 3 #[.string s, .int .i64 a, .int .i64 b, .int .i64 n] w fun e w' => e = .returned (.bool true) ∧ Below w.heap.size w w' := by
  have e1 : decide (500 < (s.size : Int)) = false := decide_eq_false (by omega)
  have HO := Aside0.mk (of_t hm)
  have hr := M.rmay_c a b
  rw [decide_eq_true hm] at hr
  have HR := Aside0.mk hr
  have hsh := M.rshift_c a b n hm hn
  rw [if_neg hs] at hsh
  have HH := Aside0.mk hsh
  have HM := Aside0.mk (may_t hm)
  have HF := Aside0.mk (from_c hm)
  have HT := Aside0.mk (to_c hm)
  have HX := Aside0.mk (scut_c s hm (by omega))
  have HC := Aside0.mk hc
  have HS := Aside0.mk (shift_f hm hs)
  have q0 := zero_eq
  have q3 : (a == a) = true := beq_self_eq_true _
  have q4 : (b == b) = true := beq_self_eq_true _
  have q5 : ((M.cutS s a b).toList == (M.cutS s a b).toList) = true := beq_self_eq_true _
  clear h hm hr hs hsh hn hc
  go_enter Try.func3, Try.ntmps3
  go_wp2_with (first
    | (go_at_call 15; (with_reducible refine (HO.out _).mono ?_); rintro e w' ⟨rfl, hw'⟩; have hw2 := hw'.symm; subst hw2)
    | (go_at_call 18; (with_reducible refine (HS.out _).mono ?_); rintro e w' ⟨rfl, hw'⟩; have hw2 := hw'.symm; subst hw2)
    | (go_at_call 21; (with_reducible refine (HM.out _).mono ?_); rintro e w' ⟨rfl, hw'⟩; have hw2 := hw'.symm; subst hw2)
    | (go_at_call 19; (with_reducible refine (HF.out _).mono ?_); rintro e w' ⟨rfl, hw'⟩; have hw2 := hw'.symm; subst hw2)
    | (go_at_call 20; (with_reducible refine (HT.out _).mono ?_); rintro e w' ⟨rfl, hw'⟩; have hw2 := hw'.symm; subst hw2)
    | (go_at_call 16; (with_reducible refine (clavigerref03_May.calls _ _ _ _ HR.out).mono ?_); rintro e w2 ⟨rfl, hd⟩; obtain ⟨n1, rfl⟩ := hd.out; clear hd)
    | (go_at_call 17; (with_reducible refine (clavigerref03_Shift.calls _ _ _ _ _ _ _ HH.out).mono ?_); rintro e w2 ⟨rfl, hd⟩; obtain ⟨n2, rfl⟩ := hd.out; clear hd)
    | (go_at_call 22; (with_reducible refine (HX.out _).mono ?_); rintro e w4 ⟨rfl, hb4⟩; have HB4 := Aside0.mk (below_then (pw_below_drewN (Below.refl _ _) (n1 + n2)) (Nat.le_refl _) hb4); clear hb4)
    | (go_at_call 23; (with_reducible refine (clavigerref03_Cut.calls k _ _ _ _ _ HC.out).mono ?_); rintro e w2 ⟨rfl, hd⟩; obtain ⟨n3, rfl⟩ := hd.out; clear hd)
    | (go_at_call 14; (with_reducible refine (awake03 _).mono ?_); rintro e w3 ⟨rfl, hb3⟩; have HB3 := Aside0.mk (below_then (pw_below_drewN HB4.out n3) (pw_below_drewN HB4.out n3).size hb3); clear hb3))
  go_ret
  exact ⟨rfl, HB3.out⟩
theorem spanT_walk (s : ByteArray) (a b n : Int) (w : World) (hn : (Lit.int .i64 n).wf = true) : Calls Try.prog 3 #[.string s, .int .i64 a, .int .i64 b, .int .i64 n] w fun e w' => e = .returned (.bool true) ∧ Below w.heap.size w w' := by
  by_cases h : s.size > 500
  · exact spanT_a s a b n w h
  · by_cases hm : M.mayP a b
    · obtain ⟨k, hk⟩ := Ev.rounds (M.rcut_c s a b hm (by omega))
      by_cases hs : M.shP a b n
      · exact spanT_c k s a b n w (by omega) hm (M.of_i64 hn) hs hk
      · exact spanT_d k s a b n w (by omega) hm (M.of_i64 hn) hs hk
    · exact spanT_b s a b n w (by omega) hm
end Go.Proofs.Ytmcpfkgahmdkgaa.Pr
end
section
namespace Go.Proofs.Ytmcpfkgahmdkgaa.RowAid
set_option maxRecDepth 100000
def c (n : Nat) : Char := Char.ofNat n
def L : List Char := [c 104, c 97, c 114, c 110, c 101, c 115, c 115, c 32, c 52, c 51, c 50, c 56, c 48, c 98, c 101, c 100, c 50, c 51, c 98, c 48, c 100, c 55, c 50, c 52, c 101, c 53, c 56, c 49, c 56, c 53, c 102, c 51, c 102, c 97, c 101, c 51, c 99, c 101, c 98, c 51, c 100, c 49, c 49, c 53, c 99, c 51, c 98, c 57, c 97, c 50, c 102, c 99, c 100, c 56, c 50, c 99, c 97, c 54, c 50, c 57, c 102, c 57, c 97, c 49, c 50, c 56, c 51, c 56, c 99, c 52, c 49, c 97, c 32, c 99, c 117, c 116, c 32, c 97, c 116, c 32, c 99, c 108, c 97, c 118, c 105, c 103, c 101, c 114, c 47, c 99, c 108, c 97, c 118, c 105, c 103, c 101, c 114, c 108, c 97, c 119, c 48, c 51, c 46, c 83, c 112, c 97, c 110, c 84, c 101, c 108, c 108, c 115, c 32, c 99, c 108, c 97, c 118, c 105, c 103, c 101, c 114, c 47, c 99, c 108, c 97, c 118, c 105, c 103, c 101, c 114, c 108, c 97, c 119, c 48, c 51, c 46, c 83, c 112, c 97, c 110, c 80, c 97, c 105, c 114, c 115, c 32, c 99, c 108, c 97, c 118, c 105, c 103, c 101, c 114, c 47, c 99, c 108, c 97, c 118, c 105, c 103, c 101, c 114, c 108, c 97, c 119, c 48, c 51, c 46, c 83, c 112, c 97, c 110, c 66, c 97, c 99, c 107, c 32, c 99, c 108, c 97, c 118, c 105, c 103, c 101, c 114, c 47, c 99, c 108, c 97, c 118, c 105, c 103, c 101, c 114, c 108, c 97, c 119, c 48, c 52, c 46, c 69, c 113, c 117, c 97, c 108, c 84, c 117, c 114, c 110, c 115, c 32, c 99, c 108, c 97, c 118, c 105, c 103, c 101, c 114, c 47, c 99, c 108, c 97, c 118, c 105, c 103, c 101, c 114, c 108, c 97, c 119, c 48, c 52, c 46, c 69, c 113, c 117, c 97, c 108, c 84, c 101, c 108, c 108, c 115, c 32, c 99, c 108, c 97, c 118, c 105, c 103, c 101, c 114, c 47, c 99, c 108, c 97, c 118, c 105, c 103, c 101, c 114, c 108, c 97, c 119, c 49, c 53, c 46, c 72, c 101, c 97, c 100, c 66, c 97, c 99, c 107, c 32, c 99, c 108, c 97, c 118, c 105, c 103, c 101, c 114, c 47, c 99, c 108, c 97, c 118, c 105, c 103, c 101, c 114, c 108, c 97, c 119, c 49, c 53, c 46, c 72, c 101, c 97, c 100, c 83, c 104, c 111, c 114, c 116, c 32, c 99, c 108, c 97, c 118, c 105, c 103, c 101, c 114, c 47, c 99, c 108, c 97, c 118, c 105, c 103, c 101, c 114, c 108, c 97, c 119, c 49, c 53, c 46, c 72, c 101, c 97, c 100, c 84, c 101, c 108, c 108, c 115, c 32, c 99, c 108, c 97, c 118, c 105, c 103, c 101, c 114, c 47, c 99, c 108, c 97, c 118, c 105, c 103, c 101, c 114, c 108, c 97, c 119, c 51, c 51, c 46, c 84, c 101, c 109, c 112, c 108, c 84, c 101, c 108, c 108, c 115, c 32, c 99, c 108, c 97, c 118, c 105, c 103, c 101, c 114, c 47, c 99, c 108, c 97, c 118, c 105, c 103, c 101, c 114, c 108, c 97, c 119, c 51, c 51, c 46, c 84, c 101, c 109, c 112, c 108, c 79, c 112, c 116, c 105, c 111, c 110, c 115, c 32, c 99, c 108, c 97, c 118, c 105, c 103, c 101, c 114, c 47, c 99, c 108, c 97, c 118, c 105, c 103, c 101, c 114, c 108, c 97, c 119, c 51, c 51, c 46, c 84, c 101, c 109, c 112, c 108, c 66, c 97, c 99, c 107]
def WL : List (List Char) := [[c 97, c 116], [c 99, c 108, c 97, c 118, c 105, c 103, c 101, c 114, c 47, c 99, c 108, c 97, c 118, c 105, c 103, c 101, c 114, c 108, c 97, c 119, c 48, c 51, c 46, c 83, c 112, c 97, c 110, c 84, c 101, c 108, c 108, c 115], [c 99, c 108, c 97, c 118, c 105, c 103, c 101, c 114, c 47, c 99, c 108, c 97, c 118, c 105, c 103, c 101, c 114, c 108, c 97, c 119, c 48, c 51, c 46, c 83, c 112, c 97, c 110, c 80, c 97, c 105, c 114, c 115], [c 99, c 108, c 97, c 118, c 105, c 103, c 101, c 114, c 47, c 99, c 108, c 97, c 118, c 105, c 103, c 101, c 114, c 108, c 97, c 119, c 48, c 51, c 46, c 83, c 112, c 97, c 110, c 66, c 97, c 99, c 107], [c 99, c 108, c 97, c 118, c 105, c 103, c 101, c 114, c 47, c 99, c 108, c 97, c 118, c 105, c 103, c 101, c 114, c 108, c 97, c 119, c 48, c 52, c 46, c 69, c 113, c 117, c 97, c 108, c 84, c 117, c 114, c 110, c 115], [c 99, c 108, c 97, c 118, c 105, c 103, c 101, c 114, c 47, c 99, c 108, c 97, c 118, c 105, c 103, c 101, c 114, c 108, c 97, c 119, c 48, c 52, c 46, c 69, c 113, c 117, c 97, c 108, c 84, c 101, c 108, c 108, c 115], [c 99, c 108, c 97, c 118, c 105, c 103, c 101, c 114, c 47, c 99, c 108, c 97, c 118, c 105, c 103, c 101, c 114, c 108, c 97, c 119, c 49, c 53, c 46, c 72, c 101, c 97, c 100, c 66, c 97, c 99, c 107], [c 99, c 108, c 97, c 118, c 105, c 103, c 101, c 114, c 47, c 99, c 108, c 97, c 118, c 105, c 103, c 101, c 114, c 108, c 97, c 119, c 49, c 53, c 46, c 72, c 101, c 97, c 100, c 83, c 104, c 111, c 114, c 116], [c 99, c 108, c 97, c 118, c 105, c 103, c 101, c 114, c 47, c 99, c 108, c 97, c 118, c 105, c 103, c 101, c 114, c 108, c 97, c 119, c 49, c 53, c 46, c 72, c 101, c 97, c 100, c 84, c 101, c 108, c 108, c 115], [c 99, c 108, c 97, c 118, c 105, c 103, c 101, c 114, c 47, c 99, c 108, c 97, c 118, c 105, c 103, c 101, c 114, c 108, c 97, c 119, c 51, c 51, c 46, c 84, c 101, c 109, c 112, c 108, c 84, c 101, c 108, c 108, c 115], [c 99, c 108, c 97, c 118, c 105, c 103, c 101, c 114, c 47, c 99, c 108, c 97, c 118, c 105, c 103, c 101, c 114, c 108, c 97, c 119, c 51, c 51, c 46, c 84, c 101, c 109, c 112, c 108, c 79, c 112, c 116, c 105, c 111, c 110, c 115], [c 99, c 108, c 97, c 118, c 105, c 103, c 101, c 114, c 47, c 99, c 108, c 97, c 118, c 105, c 103, c 101, c 114, c 108, c 97, c 119, c 51, c 51, c 46, c 84, c 101, c 109, c 112, c 108, c 66, c 97, c 99, c 107]]
theorem z0 : Try.prog.initOrder = String.ofList L := by kernel_rfl
theorem z1 : Try.prog.initOrder.toList = L := by rw [z0]; exact String.toList_ofList
theorem z2 : behindMainWord (wordsSigns L) = "cut".toList :: WL := by kernel_rfl
theorem z3 : behindMainWord (wordsSigns Try.prog.initOrder.toList) = "cut".toList :: WL := (congrArg (fun x => behindMainWord (wordsSigns x)) z1).trans z2
theorem strip_cut (r : List (List Char)) : stripLifts liftWords ("cut".toList :: r) = ([], "cut".toList :: r) := by
  unfold liftWords
  simp [stripLifts]
theorem make_cut {P : Program} {r : List (List Char)} (h : behindMainWord (wordsSigns P.initOrder.toList) = "cut".toList :: r) : P.make = some .cut := by
  unfold Program.make
  rw [h]
  simp
theorem lifts_cut {P : Program} {r : List (List Char)} (h : behindMainWord (wordsSigns P.initOrder.toList) = "cut".toList :: r) : P.headLifts = [] := by
  unfold Program.headLifts
  rw [h, strip_cut]
  simp
theorem final_cut {P : Program} {r : List (List Char)} (h : behindMainWord (wordsSigns P.initOrder.toList) = "cut".toList :: r) : P.liftsFinal = false := by
  unfold Program.liftsFinal
  rw [lifts_cut h, h]
  simp
theorem enter_cut {P : Program} {r : List (List Char)} (h : behindMainWord (wordsSigns P.initOrder.toList) = "cut".toList :: r) (h1 : P.laysLater = false) (h2 : P.bearsReflect = false) (h3 : P.doorFits [] = true) : P.mayEnter = true := by
  unfold Program.mayEnter
  rw [h]
  simp only [strip_cut]
  simp [h1, h2, h3]
theorem enter : Try.prog.mayEnter = true := enter_cut z3 (by as_aux_lemma => kernel_rfl) (by as_aux_lemma => kernel_rfl) (by as_aux_lemma => kernel_rfl)
theorem final : Try.prog.liftsFinal = false := final_cut z3
theorem make : Try.prog.make = some .cut := make_cut z3
theorem laid : laidOutB Try.prog = true := by kernel_rfl
theorem rowed : mapsRowed Try.prog = true := by kernel_rfl
theorem heard : Try.prog.stopsHeard = true := by kernel_rfl
theorem plain : Try.prog.plainKeys = true := by kernel_rfl
theorem and_mk {a b : Bool} (h : a = true) (k : b = true) : (a && b) = true := by rw [h, k]; rfl
end Go.Proofs.Ytmcpfkgahmdkgaa.RowAid
end
