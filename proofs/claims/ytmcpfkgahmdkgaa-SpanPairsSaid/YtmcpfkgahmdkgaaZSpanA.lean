-- several texts in one (by the session's program shake.py)
import Derived.Test.YtmcpfkgahmdkgaaZPlain
section
namespace Go.Proofs.Ytmcpfkgahmdkgaa.Pr
open Go.RowKit Go.Proofs.YtmcpfkgahmdkgaaW.PrintWords Go.Proofs.YtmcpfkgahmdkgaaW.PrintLast Go.Proofs.YtmcpfkgahmdkgaaW.PrintMore
attribute [local go_sem] max2_int min2_int max_two min_two max_three min_three max_four min_four   -- for this text's walks alone
set_option linter.unusedVariables false
set_option linter.unusedSimpArgs false

def clavigerref03_May.f (a0 : Int) (a1 : Int) : Option (Bool) := if a0 ≥ 0 then (if a0 ≤ a1 then (some (decide (a1 ≤ 65552))) else (some false)) else (some false)
set_option maxHeartbeats 8000000 in
set_option maxRecDepth 100000 in
theorem clavigerref03_May.calls (a0 : Int) (a1 : Int) (r : Bool) (w : World) (h : clavigerref03_May.f a0 a1 = some r) :
  Calls Try.prog 16 #[.int .i64 a0, .int .i64 a1] w fun e w' => e = .returned (.bool r) ∧ Drawn0 w w' := by
 have H : (if a0 ≥ 0 then (if a0 ≤ a1 then (some (decide (a1 ≤ 65552))) else (some false)) else (some false)) = some r := h
 clear h
 by_cases c3 : a0 ≥ 0
 ·rw [if_pos c3] at H
  have c3b0 : decide (0 ≤ a0) = true := decide_eq_true c3
  clear c3
  by_cases c4 : a0 ≤ a1
  ·rw [if_pos c4] at H
   have c4b0 : decide (a0 ≤ a1) = true := decide_eq_true c4
   clear c4
   obtain rfl := Option.some.inj H
   go_enter Try.func16, Try.ntmps16
   go_wp2
   go_ret
   exact ⟨by first | rfl | (simp; done) | (simp [*]; done) | (simp [IntKind.wrap_u8, IntKind.wrap_i64, wrap64]; done), by repeat (first | exact Drawn0.refl _ | apply Drawn0.step)⟩
  ·rw [if_neg c4] at H
   have c4b0 : decide (a0 ≤ a1) = false := decide_eq_false c4
   clear c4
   obtain rfl := Option.some.inj H
   go_enter Try.func16, Try.ntmps16
   go_wp2
   go_ret
   exact ⟨by first | rfl | (simp; done) | (simp [*]; done) | (simp [IntKind.wrap_u8, IntKind.wrap_i64, wrap64]; done), by repeat (first | exact Drawn0.refl _ | apply Drawn0.step)⟩
 ·rw [if_neg c3] at H
  have c3b0 : decide (0 ≤ a0) = false := decide_eq_false c3
  clear c3
  obtain rfl := Option.some.inj H
  go_enter Try.func16, Try.ntmps16
  go_wp2
  go_ret
  exact ⟨by first | rfl | (simp; done) | (simp [*]; done) | (simp [IntKind.wrap_u8, IntKind.wrap_i64, wrap64]; done), by repeat (first | exact Drawn0.refl _ | apply Drawn0.step)⟩

def clavigerref03_Shift.f (a0 : Int) (a1 : Int) (a2 : Int) : Option (Int × Int × Bool) := (clavigerref03_May.f a0 a1).bind fun t1 => (if t1 = true then (if a2 < (-65552) then (some (0, 0, false)) else (if a2 > 65552 then (some (0, 0, false)) else ((clavigerref03_May.f (wrap64 (a0 + a2)) (wrap64 (a1 + a2))).bind fun t2 => (if t2 = true then (some (wrap64 (a0 + a2), wrap64 (a1 + a2), true)) else (some (0, 0, false)))))) else (some (0, 0, false)))
mutual
def clavigerref03_Cut.j0 : Nat → ByteArray → Int → Int → ByteArray → Bool → Option (ByteArray)
 | 0, _, _, _, _, _ => none
 | k + 1, x0, x1, x2, x7, x18 => if x18 = true then (some x7) else (clavigerref03_Cut.l0 k x0 x2 x7 x1)
def clavigerref03_Cut.l0 : Nat → ByteArray → Int → ByteArray → Int → Option (ByteArray)
 | 0, _, _, _, _ => none
 | k + 1, x0, x2, x7, x8 => if x8 < x2 then (if 0 ≤ x8 then (if x8 ≤ (wrap64 (x8 + 1)) then (if (wrap64 (x8 + 1)) ≤ (x0.size : Int) then (if x7.size + (x0.extract (x8 : Int).toNat ((wrap64 (x8 + 1)) : Int).toNat).size ≤ 9223372036854775807 then (clavigerref03_Cut.l0 k x0 x2 (x7 ++ (x0.extract (x8 : Int).toNat ((wrap64 (x8 + 1)) : Int).toNat)) (wrap64 (x8 + 1))) else (none)) else (none)) else (none)) else (none)) else (some x7)
end
def clavigerref03_Cut.f (k : Nat) (a0 : ByteArray) (a1 : Int) (a2 : Int) : Option (ByteArray) := (clavigerref03_May.f a1 a2).bind fun t1 => (if t1 = true then (clavigerref03_Cut.j0 k a0 a1 a2 (⟨#[]⟩ : ByteArray) (decide (a2 > (a0.size : Int)))) else (clavigerref03_Cut.j0 k a0 a1 a2 (⟨#[]⟩ : ByteArray) true))
theorem clavigerref03_Cut.mono_l : ∀ k, (∀ y2 y3 y4 y5 y6, LeO (clavigerref03_Cut.j0 k y2 y3 y4 y5 y6) (clavigerref03_Cut.j0 (k + 1) y2 y3 y4 y5 y6)) ∧ (∀ y2 y3 y4 y5, LeO (clavigerref03_Cut.l0 k y2 y3 y4 y5) (clavigerref03_Cut.l0 (k + 1) y2 y3 y4 y5))
 | 0 => ⟨fun _ _ _ _ _ r h => by simp [clavigerref03_Cut.j0] at h, fun _ _ _ _ r h => by simp [clavigerref03_Cut.l0] at h⟩
 | k + 1 => by
  obtain ⟨ih0, ih1⟩ := clavigerref03_Cut.mono_l k
  refine ⟨?_, ?_⟩
  ·intro y2 y3 y4 y5 y6
   unfold clavigerref03_Cut.j0
   repeat' first
   | (with_reducible exact ih0 _ _ _ _ _)
   | (with_reducible exact ih1 _ _ _ _)
   | (with_reducible exact LeO.refl _)
   | (with_reducible exact LeO.none _)
   | (with_reducible refine LeO.ite ?_ ?_)
   | (with_reducible refine LeO.bind ?_ (fun _ => ?_))
  ·intro y2 y3 y4 y5
   unfold clavigerref03_Cut.l0
   repeat' first
   | (with_reducible exact ih0 _ _ _ _ _)
   | (with_reducible exact ih1 _ _ _ _)
   | (with_reducible exact LeO.refl _)
   | (with_reducible exact LeO.none _)
   | (with_reducible refine LeO.ite ?_ ?_)
   | (with_reducible refine LeO.bind ?_ (fun _ => ?_))
theorem clavigerref03_Cut.mono : ∀ a0 a1 a2 k, LeO (clavigerref03_Cut.f k a0 a1 a2) (clavigerref03_Cut.f (k + 1) a0 a1 a2) := by
 intro a0 a1 a2 k
 obtain ⟨ih0, ih1⟩ := clavigerref03_Cut.mono_l k
 unfold clavigerref03_Cut.f
 repeat' first
   | (with_reducible exact ih0 _ _ _ _ _)
   | (with_reducible exact ih1 _ _ _ _)
   | (with_reducible exact LeO.refl _)
   | (with_reducible exact LeO.none _)
   | (with_reducible refine LeO.ite ?_ ?_)
   | (with_reducible refine LeO.bind ?_ (fun _ => ?_))
def clavigerref03_Inside.f (a0 : Int) (a1 : Int) (a2 : Int) (a3 : Int) : Option (Bool) := (clavigerref03_May.f a0 a1).bind fun t1 => (if t1 = true then ((clavigerref03_May.f a2 a3).bind fun t2 => (if t2 = true then (if a0 ≥ a2 then (some (decide (a1 ≤ a3))) else (some false)) else (some false))) else (some false))
set_option maxHeartbeats 8000000 in
set_option maxRecDepth 100000 in
theorem clavigerref03_Inside.calls (a0 : Int) (a1 : Int) (a2 : Int) (a3 : Int) (r : Bool) (w : World) (h : clavigerref03_Inside.f a0 a1 a2 a3 = some r) :
  Calls Try.prog 25 #[.int .i64 a0, .int .i64 a1, .int .i64 a2, .int .i64 a3] w fun e w' => e = .returned (.bool r) ∧ Drawn0 w w' := by
 have H : ((clavigerref03_May.f a0 a1).bind fun t1 => (if t1 = true then ((clavigerref03_May.f a2 a3).bind fun t2 => (if t2 = true then (if a0 ≥ a2 then (some (decide (a1 ≤ a3))) else (some false)) else (some false))) else (some false))) = some r := h
 clear h
 replace H := Option.bind_eq_some_iff.mp H
 obtain ⟨t1, A50, H⟩ := H
 try dsimp only at H
 have A5 := Aside0.mk A50
 clear A50
 by_cases c6 : t1 = true
 ·subst c6
  have H1 : ((clavigerref03_May.f a2 a3).bind fun t2 => (if t2 = true then (if a0 ≥ a2 then (some (decide (a1 ≤ a3))) else (some false)) else (some false))) = some r := by rw [if_pos rfl] at H; exact H
  clear H
  have H := H1
  clear H1
  replace H := Option.bind_eq_some_iff.mp H
  obtain ⟨t2, A70, H⟩ := H
  try dsimp only at H
  have A7 := Aside0.mk A70
  clear A70
  by_cases c8 : t2 = true
  ·subst c8
   have H1 : (if a0 ≥ a2 then (some (decide (a1 ≤ a3))) else (some false)) = some r := by rw [if_pos rfl] at H; exact H
   clear H
   have H := H1
   clear H1
   by_cases c9 : a0 ≥ a2
   ·rw [if_pos c9] at H
    have c9b0 : decide (a2 ≤ a0) = true := decide_eq_true c9
    clear c9
    obtain rfl := Option.some.inj H
    go_enter Try.func25, Try.ntmps25
    go_wp2_with (first | ((with_reducible refine gate_callee (f := 16) rfl ?_); refine goesL_ (some 11) rfl rfl Try.func16 (by kernel_rfl) rfl #[.int .i64 a0, .int .i64 a1] rfl (by (try simp only [lT, lC, lN]); first | done | rfl) ?_; (with_reducible refine (clavigerref03_May.calls a0 a1 true _ A5.out).mono ?_); rintro e w' ⟨rfl, ⟨nd, rfl⟩⟩; refine ⟨_, rfl, ?_⟩) | (go_at_call 16; (with_reducible refine (clavigerref03_May.calls a2 a3 true _ A7.out).mono ?_); rintro e w' ⟨rfl, ⟨nd, rfl⟩⟩))
    go_ret
    exact ⟨by first | rfl | (simp; done) | (simp [*]; done) | (simp [IntKind.wrap_u8, IntKind.wrap_i64, wrap64]; done), by repeat (first | exact Drawn0.refl _ | apply Drawn0.step)⟩
   ·rw [if_neg c9] at H
    have c9b0 : decide (a2 ≤ a0) = false := decide_eq_false c9
    clear c9
    obtain rfl := Option.some.inj H
    go_enter Try.func25, Try.ntmps25
    go_wp2_with (first | ((with_reducible refine gate_callee (f := 16) rfl ?_); refine goesL_ (some 11) rfl rfl Try.func16 (by kernel_rfl) rfl #[.int .i64 a0, .int .i64 a1] rfl (by (try simp only [lT, lC, lN]); first | done | rfl) ?_; (with_reducible refine (clavigerref03_May.calls a0 a1 true _ A5.out).mono ?_); rintro e w' ⟨rfl, ⟨nd, rfl⟩⟩; refine ⟨_, rfl, ?_⟩) | (go_at_call 16; (with_reducible refine (clavigerref03_May.calls a2 a3 true _ A7.out).mono ?_); rintro e w' ⟨rfl, ⟨nd, rfl⟩⟩))
    go_ret
    exact ⟨by first | rfl | (simp; done) | (simp [*]; done) | (simp [IntKind.wrap_u8, IntKind.wrap_i64, wrap64]; done), by repeat (first | exact Drawn0.refl _ | apply Drawn0.step)⟩
  ·replace c8 := Bool.eq_false_iff.mpr c8
   subst c8
   have H1 : (some false) = some r := by rw [if_neg (show ¬ (false = true) by decide)] at H; exact H
   clear H
   have H := H1
   clear H1
   obtain rfl := Option.some.inj H
   go_enter Try.func25, Try.ntmps25
   go_wp2_with (first | ((with_reducible refine gate_callee (f := 16) rfl ?_); refine goesL_ (some 11) rfl rfl Try.func16 (by kernel_rfl) rfl #[.int .i64 a0, .int .i64 a1] rfl (by (try simp only [lT, lC, lN]); first | done | rfl) ?_; (with_reducible refine (clavigerref03_May.calls a0 a1 true _ A5.out).mono ?_); rintro e w' ⟨rfl, ⟨nd, rfl⟩⟩; refine ⟨_, rfl, ?_⟩) | (go_at_call 16; (with_reducible refine (clavigerref03_May.calls a2 a3 false _ A7.out).mono ?_); rintro e w' ⟨rfl, ⟨nd, rfl⟩⟩))
   go_ret
   exact ⟨by first | rfl | (simp; done) | (simp [*]; done) | (simp [IntKind.wrap_u8, IntKind.wrap_i64, wrap64]; done), by repeat (first | exact Drawn0.refl _ | apply Drawn0.step)⟩
 ·replace c6 := Bool.eq_false_iff.mpr c6
  subst c6
  have H1 : (some false) = some r := by rw [if_neg (show ¬ (false = true) by decide)] at H; exact H
  clear H
  have H := H1
  clear H1
  obtain rfl := Option.some.inj H
  go_enter Try.func25, Try.ntmps25
  go_wp2_with (first | ((with_reducible refine gate_callee (f := 16) rfl ?_); refine goesL_ (some 11) rfl rfl Try.func16 (by kernel_rfl) rfl #[.int .i64 a0, .int .i64 a1] rfl (by (try simp only [lT, lC, lN]); first | done | rfl) ?_; (with_reducible refine (clavigerref03_May.calls a0 a1 false _ A5.out).mono ?_); rintro e w' ⟨rfl, ⟨nd, rfl⟩⟩; refine ⟨_, rfl, ?_⟩))
  go_ret
  exact ⟨by first | rfl | (simp; done) | (simp [*]; done) | (simp [IntKind.wrap_u8, IntKind.wrap_i64, wrap64]; done), by repeat (first | exact Drawn0.refl _ | apply Drawn0.step)⟩

def clavigerref03_Apart.f (a0 : Int) (a1 : Int) (a2 : Int) (a3 : Int) : Option (Bool) := (clavigerref03_May.f a0 a1).bind fun t1 => (if t1 = true then ((clavigerref03_May.f a2 a3).bind fun t2 => (if t2 = true then (if a1 ≤ a2 then (some true) else (some (decide (a3 ≤ a0)))) else (some false))) else (some false))
set_option maxHeartbeats 8000000 in
set_option maxRecDepth 100000 in
theorem clavigerref03_Apart.calls (a0 : Int) (a1 : Int) (a2 : Int) (a3 : Int) (r : Bool) (w : World) (h : clavigerref03_Apart.f a0 a1 a2 a3 = some r) :
  Calls Try.prog 27 #[.int .i64 a0, .int .i64 a1, .int .i64 a2, .int .i64 a3] w fun e w' => e = .returned (.bool r) ∧ Drawn0 w w' := by
 have H : ((clavigerref03_May.f a0 a1).bind fun t1 => (if t1 = true then ((clavigerref03_May.f a2 a3).bind fun t2 => (if t2 = true then (if a1 ≤ a2 then (some true) else (some (decide (a3 ≤ a0)))) else (some false))) else (some false))) = some r := h
 clear h
 replace H := Option.bind_eq_some_iff.mp H
 obtain ⟨t1, A50, H⟩ := H
 try dsimp only at H
 have A5 := Aside0.mk A50
 clear A50
 by_cases c6 : t1 = true
 ·subst c6
  have H1 : ((clavigerref03_May.f a2 a3).bind fun t2 => (if t2 = true then (if a1 ≤ a2 then (some true) else (some (decide (a3 ≤ a0)))) else (some false))) = some r := by rw [if_pos rfl] at H; exact H
  clear H
  have H := H1
  clear H1
  replace H := Option.bind_eq_some_iff.mp H
  obtain ⟨t2, A70, H⟩ := H
  try dsimp only at H
  have A7 := Aside0.mk A70
  clear A70
  by_cases c8 : t2 = true
  ·subst c8
   have H1 : (if a1 ≤ a2 then (some true) else (some (decide (a3 ≤ a0)))) = some r := by rw [if_pos rfl] at H; exact H
   clear H
   have H := H1
   clear H1
   by_cases c9 : a1 ≤ a2
   ·rw [if_pos c9] at H
    have c9b0 : decide (a1 ≤ a2) = true := decide_eq_true c9
    clear c9
    obtain rfl := Option.some.inj H
    go_enter Try.func27, Try.ntmps27
    go_wp2_with (first | ((with_reducible refine gate_callee (f := 16) rfl ?_); refine goesL_ (some 11) rfl rfl Try.func16 (by kernel_rfl) rfl #[.int .i64 a0, .int .i64 a1] rfl (by (try simp only [lT, lC, lN]); first | done | rfl) ?_; (with_reducible refine (clavigerref03_May.calls a0 a1 true _ A5.out).mono ?_); rintro e w' ⟨rfl, ⟨nd, rfl⟩⟩; refine ⟨_, rfl, ?_⟩) | (go_at_call 16; (with_reducible refine (clavigerref03_May.calls a2 a3 true _ A7.out).mono ?_); rintro e w' ⟨rfl, ⟨nd, rfl⟩⟩))
    go_ret
    exact ⟨by first | rfl | (simp; done) | (simp [*]; done) | (simp [IntKind.wrap_u8, IntKind.wrap_i64, wrap64]; done), by repeat (first | exact Drawn0.refl _ | apply Drawn0.step)⟩
   ·rw [if_neg c9] at H
    have c9b0 : decide (a1 ≤ a2) = false := decide_eq_false c9
    clear c9
    obtain rfl := Option.some.inj H
    go_enter Try.func27, Try.ntmps27
    go_wp2_with (first | ((with_reducible refine gate_callee (f := 16) rfl ?_); refine goesL_ (some 11) rfl rfl Try.func16 (by kernel_rfl) rfl #[.int .i64 a0, .int .i64 a1] rfl (by (try simp only [lT, lC, lN]); first | done | rfl) ?_; (with_reducible refine (clavigerref03_May.calls a0 a1 true _ A5.out).mono ?_); rintro e w' ⟨rfl, ⟨nd, rfl⟩⟩; refine ⟨_, rfl, ?_⟩) | (go_at_call 16; (with_reducible refine (clavigerref03_May.calls a2 a3 true _ A7.out).mono ?_); rintro e w' ⟨rfl, ⟨nd, rfl⟩⟩))
    go_ret
    exact ⟨by first | rfl | (simp; done) | (simp [*]; done) | (simp [IntKind.wrap_u8, IntKind.wrap_i64, wrap64]; done), by repeat (first | exact Drawn0.refl _ | apply Drawn0.step)⟩
  ·replace c8 := Bool.eq_false_iff.mpr c8
   subst c8
   have H1 : (some false) = some r := by rw [if_neg (show ¬ (false = true) by decide)] at H; exact H
   clear H
   have H := H1
   clear H1
   obtain rfl := Option.some.inj H
   go_enter Try.func27, Try.ntmps27
   go_wp2_with (first | ((with_reducible refine gate_callee (f := 16) rfl ?_); refine goesL_ (some 11) rfl rfl Try.func16 (by kernel_rfl) rfl #[.int .i64 a0, .int .i64 a1] rfl (by (try simp only [lT, lC, lN]); first | done | rfl) ?_; (with_reducible refine (clavigerref03_May.calls a0 a1 true _ A5.out).mono ?_); rintro e w' ⟨rfl, ⟨nd, rfl⟩⟩; refine ⟨_, rfl, ?_⟩) | (go_at_call 16; (with_reducible refine (clavigerref03_May.calls a2 a3 false _ A7.out).mono ?_); rintro e w' ⟨rfl, ⟨nd, rfl⟩⟩))
   go_ret
   exact ⟨by first | rfl | (simp; done) | (simp [*]; done) | (simp [IntKind.wrap_u8, IntKind.wrap_i64, wrap64]; done), by repeat (first | exact Drawn0.refl _ | apply Drawn0.step)⟩
 ·replace c6 := Bool.eq_false_iff.mpr c6
  subst c6
  have H1 : (some false) = some r := by rw [if_neg (show ¬ (false = true) by decide)] at H; exact H
  clear H
  have H := H1
  clear H1
  obtain rfl := Option.some.inj H
  go_enter Try.func27, Try.ntmps27
  go_wp2_with (first | ((with_reducible refine gate_callee (f := 16) rfl ?_); refine goesL_ (some 11) rfl rfl Try.func16 (by kernel_rfl) rfl #[.int .i64 a0, .int .i64 a1] rfl (by (try simp only [lT, lC, lN]); first | done | rfl) ?_; (with_reducible refine (clavigerref03_May.calls a0 a1 false _ A5.out).mono ?_); rintro e w' ⟨rfl, ⟨nd, rfl⟩⟩; refine ⟨_, rfl, ?_⟩))
  go_ret
  exact ⟨by first | rfl | (simp; done) | (simp [*]; done) | (simp [IntKind.wrap_u8, IntKind.wrap_i64, wrap64]; done), by repeat (first | exact Drawn0.refl _ | apply Drawn0.step)⟩

end Go.Proofs.Ytmcpfkgahmdkgaa.Pr
end
section
namespace Go.Proofs.Ytmcpfkgahmdkgaa.M
open Go Go.RowKit Go.Proofs.Ytmcpfkgahmdkgaa.Pr Go.Proofs.YtmcpfkgahmdkgaaW.PrintWords Go.Proofs.YtmcpfkgahmdkgaaW.PrintLast Go.Proofs.YtmcpfkgahmdkgaaW.PrintMore
/-- The bytes of a span. -/
def cutS (s : ByteArray) (a b : Int) : ByteArray := if b > (s.size : Int) then ⟨#[]⟩ else s.extract a.toNat b.toNat
theorem ext_none (s : ByteArray) (i j : Nat) (h : j ≤ i) : s.extract i j = ⟨#[]⟩ := by
  apply ByteArray.ext
  rw [ByteArray.data_extract, Array.extract_empty_of_stop_le_start h]
theorem ocut_c (s : ByteArray) (a b : Int) (h : mayP a b) (hs : s.size < 1000000) (hb : b ≤ (s.size : Int)) : octets_Cut.f s a (b - a) = some (s.extract a.toNat b.toNat) := by
  obtain ⟨h0, h1, h2⟩ := h
  unfold octets_Cut.f
  rw [if_neg (by omega)]
  by_cases c1 : a ≥ (s.size : Int)
  · rw [if_pos c1, ext_none _ _ _ (by omega)]
  · rw [if_neg c1]
    by_cases c2 : b - a < 1
    · rw [if_pos c2, ext_none _ _ _ (by omega)]
    · have e1 : mn (b - a) (wrap64 ((s.size : Int) - a)) = b - a := by
        rw [wrap_id (by omega) (by omega)]
        unfold mn
        rw [if_neg (by omega)]
      have e2 : wrap64 (a + (b - a)) = b := by rw [wrap_id (by omega) (by omega)]; omega
      rw [if_neg c2, e1, e2, if_pos h0, if_pos h1, if_pos hb]
theorem rmay_c (a b : Int) : clavigerref03_May.f a b = some (decide (mayP a b)) := by
  unfold clavigerref03_May.f
  by_cases h0 : a ≥ 0
  · rw [if_pos h0]
    by_cases h1 : a ≤ b
    · rw [if_pos h1]
      congr 1
      exact decide_eq_decide.2 ⟨fun h => ⟨h0, h1, h⟩, fun h => h.2.2⟩
    · rw [if_neg h1, decide_eq_false (fun h => h1 h.2.1)]
  · rw [if_neg h0, decide_eq_false (fun h => h0 h.1)]
/-- Moved: the span, or none. -/
def shP (a b n : Int) : Prop := -65552 ≤ n ∧ n ≤ 65552 ∧ mayP (a + n) (b + n)
instance (a b n : Int) : Decidable (shP a b n) := by unfold shP; exact inferInstance
theorem rinside_c {a b c d : Int} (h : mayP a b) (h' : mayP c d) : clavigerref03_Inside.f a b c d = some (decide (c ≤ a ∧ b ≤ d)) := by
  unfold clavigerref03_Inside.f
  rw [rmay_c, rmay_c, decide_eq_true h, decide_eq_true h']
  simp only [Option.bind_some, if_true]
  by_cases c1 : a ≥ c
  · rw [if_pos c1]
    congr 1
    exact decide_eq_decide.2 ⟨fun h => ⟨c1, h⟩, fun h => h.2⟩
  · rw [if_neg c1, decide_eq_false (fun h => c1 h.1)]
theorem rapart_c {a b c d : Int} (h : mayP a b) (h' : mayP c d) : clavigerref03_Apart.f a b c d = some (decide (b ≤ c ∨ d ≤ a)) := by
  unfold clavigerref03_Apart.f
  rw [rmay_c, rmay_c, decide_eq_true h, decide_eq_true h']
  simp only [Option.bind_some, if_true]
  by_cases c1 : b ≤ c
  · rw [if_pos c1, decide_eq_true (.inl c1)]
  · rw [if_neg c1]
    congr 1
    exact decide_eq_decide.2 ⟨fun h => .inr h, fun h => h.resolve_left c1⟩
/-- Spans' sizes, added. -/
def sumL : List (Int × Int) → Int
  | [] => 0
  | p :: l => sumL l + (p.2 - p.1)
theorem sumL_range : ∀ l : List (Int × Int), (∀ p ∈ l, mayP p.1 p.2) → 0 ≤ sumL l ∧ sumL l ≤ 65552 * l.length
  | [], _ => ⟨Int.le_refl _, by show (0 : Int) ≤ _; omega⟩
  | p :: l, h => by
    obtain ⟨a, b⟩ := sumL_range l (fun q hq => h q (by simp [hq]))
    obtain ⟨h0, h1, h2⟩ := h p (by simp)
    have e : ((p :: l).length : Int) = l.length + 1 := by rw [List.length_cons]; omega
    rw [e]
    show 0 ≤ sumL l + (p.2 - p.1) ∧ sumL l + (p.2 - p.1) ≤ _
    omega
theorem sumL_snoc (p : Int × Int) : ∀ l : List (Int × Int), sumL (l ++ [p]) = sumL l + (p.2 - p.1)
  | [] => rfl
  | q :: l => by
    show sumL (l ++ [p]) + (q.2 - q.1) = sumL l + (q.2 - q.1) + (p.2 - p.1)
    rw [sumL_snoc p l]
    omega
end Go.Proofs.Ytmcpfkgahmdkgaa.M
namespace Go.Proofs.Ytmcpfkgahmdkgaa.Pr
open Go.RowKit Go.Proofs.YtmcpfkgahmdkgaaW.PrintWords Go.Proofs.YtmcpfkgahmdkgaaW.PrintLast Go.Proofs.YtmcpfkgahmdkgaaW.PrintMore
theorem scut_c (s : ByteArray) {a b : Int} (h : M.mayP a b) (hs : s.size < 1000000) (w : World) : Calls Try.prog 22 #[.string s, .complex .f64 (M.fl a) (M.fl b)] w fun e w' => e = .returned (.string (M.cutS s a b)) ∧ Below w.heap.size w w' := by
  have H0 := Aside0.mk (may_t h)
  have H1 := Aside0.mk (to_c h)
  have H2 := Aside0.mk (from_c h)
  unfold M.cutS
  by_cases c : b > (s.size : Int)
  · rw [if_pos c]
    have e1 : decide ((s.size : Int) < b) = true := decide_eq_true c
    clear h hs c H2
    go_enter Try.func22, Try.ntmps22
    go_wp2_with (first
      | (go_at_call 21; (with_reducible refine (H0.out _).mono ?_); rintro e w' ⟨rfl, hw'⟩; have hw2 := hw'.symm; subst hw2)
      | (go_at_call 20; (with_reducible refine (H1.out _).mono ?_); rintro e w' ⟨rfl, hw'⟩; have hw2 := hw'.symm; subst hw2))
    go_ret
    exact ⟨rfl, Below.refl _ _⟩
  · rw [if_neg c]
    have e1 : decide ((s.size : Int) < b) = false := decide_eq_false c
    have HC := Aside0.mk (M.ocut_c s a b h hs (by omega))
    have e2 : wrap64 (b - a) = b - a := M.wrap_id (by have := h.1; have := h.2.1; have := h.2.2; omega) (by have := h.1; have := h.2.1; have := h.2.2; omega)
    clear h hs c
    go_enter Try.func22, Try.ntmps22
    go_wp2_with (first
      | (go_at_call 21; (with_reducible refine (H0.out _).mono ?_); rintro e w' ⟨rfl, hw'⟩; have hw2 := hw'.symm; subst hw2)
      | (go_at_call 20; (with_reducible refine (H1.out _).mono ?_); rintro e w' ⟨rfl, hw'⟩; have hw2 := hw'.symm; subst hw2)
      | (go_at_call 19; (with_reducible refine (H2.out _).mono ?_); rintro e w' ⟨rfl, hw'⟩; have hw2 := hw'.symm; subst hw2)
      | (go_at_call 60; (with_reducible refine (octets_Cut.calls _ _ _ _ _ HC.out).mono ?_); rintro e w3 ⟨rfl, hb3⟩; have HB3 := Aside0.mk hb3; clear hb3))
    go_ret
    exact ⟨rfl, HB3.out⟩
/-- A row of spans in memory. -/
def SpanRow (w : World) (A : Option Addr) (l : List (Int × Int)) : Prop := 0 < l.length → ∃ ad, A = some ad ∧ ∀ (j : Nat) p, l[j]? = some p → w.cell? (ad.add j) = some (.complex .f64 (M.fl p.1) (M.fl p.2))
set_option maxHeartbeats 1000000 in
theorem count_c (A : Option Addr) (c : Nat) (l : List (Int × Int)) (w : World) (hA : SpanRow w A l) (hm : ∀ p ∈ l, M.mayP p.1 p.2) (hl : l.length ≤ 1000000) :
    Calls Try.prog 28 #[.slice A l.length c] w fun e w' => e = .returned (.complex .f64 (M.fl l.length) (M.fl (M.sumL l))) ∧ w' = w := by
  have HA := Aside0.mk hA
  have HM := Aside0.mk hm
  generalize hn : l.length = n at *
  have HN := Aside0.mk hn
  clear hA hm hn
  go_enter Try.func28, Try.ntmps28
  go_wp2
  go_loopw [3, 8] (fun v i wr => ∃ j : Nat, j ≤ n ∧ v = .complex .f64 (M.fl (j : Int)) (M.fl (M.sumL (l.take j))) ∧ i = .int .i64 (j : Int) ∧ wr = w) (fun _ i _ => n - (intOf i).toNat)
  case atStart => exact ⟨0, Nat.zero_le _, by rw [List.take_zero]; show _ = Value.complex .f64 (M.fl 0) (M.fl 0); rw [M.fl0], rfl, rfl⟩
  case round =>
    obtain ⟨j, hj, rfl, rfl, rfl⟩ := hrel
    by_cases hlt : j < n
    · obtain ⟨ad, rfl, hcells⟩ := HA.out (by rw [HN.out]; omega)
      have hjl : j < l.length := by rw [HN.out]; exact hlt
      have hp := List.getElem?_eq_getElem hjl
      have hmp := HM.out _ (List.getElem_mem hjl)
      have ht : l.take (j + 1) = l.take j ++ [l[j]] := (List.take_append_getElem hjl).symm
      generalize l[j] = p at *
      have hcell := hcells j p hp
      have H0 := Aside0.mk (may_t hmp)
      have hs := M.sumL_range (l.take j) (fun q hq => HM.out q (List.mem_of_mem_take hq))
      have hlen : ((l.take j).length : Int) ≤ 1000000 := by rw [List.length_take]; omega
      have hs2 : M.sumL (l.take (j + 1)) = M.sumL (l.take j) + (p.2 - p.1) := by rw [ht, M.sumL_snoc]
      obtain ⟨h0, h1, h2⟩ := hmp
      have g1 := M.fl_sub (a := p.2) (b := p.1) (by omega) (by omega) (by omega)
      have g2 := M.fl_add (a := (j : Int)) (b := 1) (by omega) (by omega) (by omega)
      have g3 := M.fl_add (a := M.sumL (l.take j)) (b := p.2 - p.1) (by omega) (by omega) (by omega)
      rw [M.fl1] at g2
      rw [← hs2] at g3
      have k1 := fun w => run_float_arith (P := Try.prog) w .sub 40 .f64 _ _ _ g1
      have k2 := fun w => run_complex_sum (P := Try.prog) w .add (.inl rfl) 23 .f64 (M.fl (j : Int)) (M.fl (M.sumL (l.take j))) 4607182418800017408 (M.fl (p.2 - p.1)) _ _ (by unfold cSumBits; rw [g2, g3]; rfl)
      clear hs hlen hs2 g1 g2 g3 ht hp hcells h0 h1 h2
      go_wp2_with (go_at_call 21; (with_reducible refine (H0.out _).mono ?_); rintro e w' ⟨rfl, hw'⟩; have hw2 := hw'.symm; subst hw2)
      exact ⟨⟨j + 1, hlt, rfl, by go_num, by first | rfl | trivial⟩, by simp [intOf]; omega⟩
    · obtain rfl : j = n := by omega
      go_wp2
      go_ret
      exact ⟨by rw [List.take_of_length_le (by rw [HN.out]; exact Nat.le_refl _)]; rfl, rfl⟩
end Go.Proofs.Ytmcpfkgahmdkgaa.Pr
end
section
namespace Go.Proofs.Ytmcpfkgahmdkgaa.M
open Go
theorem fl2 : fl 2 = 4611686018427387904 := by decide +kernel
theorem fl4 : fl 4 = 4616189618054758400 := by decide +kernel
theorem fl5 : fl 5 = 4617315517961601024 := by decide +kernel
theorem same_fl (n : Int) (h : n.natAbs < 9007199254740992) : (FloatKind.f64.format.order (fl n) (fl n) == some .eq) = true := by rw [eq_fl h h]; exact decide_eq_true rfl
end Go.Proofs.Ytmcpfkgahmdkgaa.M
namespace Go.Proofs.Ytmcpfkgahmdkgaa.Pr
open Go.RowKit Go.Proofs.YtmcpfkgahmdkgaaW.PrintWords Go.Proofs.YtmcpfkgahmdkgaaW.PrintLast Go.Proofs.YtmcpfkgahmdkgaaW.PrintMore
theorem count_2 (w : World) : Calls Try.prog 28 #[.slice (some ⟨w.heap.size, 0, none⟩) 2 2] (w.alloc (.cells #[.complex .f64 4611686018427387904 4617315517961601024, .complex .f64 0 4607182418800017408] 23)) fun e w' => e = .returned (.complex .f64 4611686018427387904 4616189618054758400) ∧ w' = w.alloc (.cells #[.complex .f64 4611686018427387904 4617315517961601024, .complex .f64 0 4607182418800017408] 23) := by
  have h := count_c (some ⟨w.heap.size, 0, none⟩) 2 [(2, 5), (0, 1)] (w.alloc (.cells #[.complex .f64 4611686018427387904 4617315517961601024, .complex .f64 0 4607182418800017408] 23)) (fun _ => ⟨_, rfl, fun j p hj => ?_⟩) (by intro p hp; simp only [List.mem_cons, List.not_mem_nil, or_false] at hp; rcases hp with rfl | rfl <;> decide) (by decide)
  · have e1 : M.fl (([((2 : Int), (5 : Int)), (0, 1)] : List (Int × Int)).length : Int) = 4611686018427387904 := M.fl2
    have e2 : M.fl (M.sumL [(2, 5), (0, 1)]) = 4616189618054758400 := M.fl4
    rw [e1, e2] at h
    exact h
  · have hb := heap_alloc_new w (.cells #[.complex .f64 4611686018427387904 4617315517961601024, .complex .f64 0 4607182418800017408] 23)
    match j, hj with
    | 0, hj =>
      obtain rfl := Option.some.inj hj
      show World.cell? _ ⟨w.heap.size, 0 + 0, none⟩ = _
      rw [blk_cell hb]
      show some (Value.complex .f64 4611686018427387904 4617315517961601024) = some (Value.complex .f64 (M.fl 2) (M.fl 5))
      rw [M.fl2, M.fl5]
    | 1, hj =>
      obtain rfl := Option.some.inj hj
      show World.cell? _ ⟨w.heap.size, 0 + 1, none⟩ = _
      rw [blk_cell hb]
      show some (Value.complex .f64 0 4607182418800017408) = some (Value.complex .f64 (M.fl 0) (M.fl 1))
      rw [M.fl0, M.fl1]
set_option maxHeartbeats 2000000 in
set_option maxRecDepth 100000 in
theorem awake03 (w : World) : Calls Try.prog 14 #[] w fun e w' => e = .returned (.bool true) ∧ Below w.heap.size w w' := by
  have h25 : M.mayP 2 5 := by decide
  have hO := of_t h25
  have hF := from_c h25
  have hT := to_c h25
  have hC := scut_c ⟨#[97, 98, 99, 100, 101, 102]⟩ h25 (by decide)
  have hS := shift_t (a := 1) (b := 2) (n := 3) (by decide) (by decide) (by decide)
  rw [show (1 : Int) + 3 = 4 from rfl, show (2 : Int) + 3 = 5 from rfl] at hS
  rw [show M.cutS ⟨#[97, 98, 99, 100, 101, 102]⟩ 2 5 = ⟨#[99, 100, 101]⟩ by decide +kernel] at hC
  rw [M.fl2, M.fl5] at hO hF hT hC
  rw [M.fl1, M.fl2, M.fl4, M.fl5] at hS
  have q2 := M.same_fl 2 (by decide)
  have q4 := M.same_fl 4 (by decide)
  have q5 := M.same_fl 5 (by decide)
  rw [M.fl2] at q2
  rw [M.fl4] at q4
  rw [M.fl5] at q5
  have HO := Aside0.mk hO
  have HF := Aside0.mk hF
  have HT := Aside0.mk hT
  have HC := Aside0.mk hC
  have HS := Aside0.mk hS
  clear hO hF hT hC hS h25
  go_enter Try.func14, Try.ntmps14
  go_wp2_with (first
    | (go_at_call 15; (with_reducible refine (HO.out _).mono ?_); rintro e w' ⟨rfl, hw'⟩; have hw2 := hw'.symm; subst hw2)
    | (go_at_call 19; (with_reducible refine (HF.out _).mono ?_); rintro e w' ⟨rfl, hw'⟩; have hw2 := hw'.symm; subst hw2)
    | (go_at_call 20; (with_reducible refine (HT.out _).mono ?_); rintro e w' ⟨rfl, hw'⟩; have hw2 := hw'.symm; subst hw2)
    | (go_at_call 18; (with_reducible refine (HS.out _).mono ?_); rintro e w' ⟨rfl, hw'⟩; have hw2 := hw'.symm; subst hw2)
    | (go_at_call 22; (with_reducible refine (HC.out _).mono ?_); rintro e w3 ⟨rfl, hb3⟩; have HB3 := Aside0.mk hb3; clear hb3)
    | (go_at_call 28; (with_reducible refine (count_2 _).mono ?_); rintro e w' ⟨rfl, hw'⟩; have hw2 := hw'.symm; subst hw2))
  go_ret
  exact ⟨rfl, by repeat (first | exact HB3.out | apply below_alloc)⟩
end Go.Proofs.Ytmcpfkgahmdkgaa.Pr
end
