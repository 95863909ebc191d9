-- several texts in one (by the session's program shake.py)
import Derived.Test.YtokkhnjedmlbhaaZShelf
import Derived.Lib.Strings
import Derived.Lib.Slices
import Derived.Lib.Walk
import Derived.Lib.Builder
import Derived.Lib.AppendStr
import Derived.Lib.UnsafeStr
import Derived.Lib.MakeNoZero
import Derived.Laws.Externs
import Derived.Lib.BufferWrite
import Derived.RegionTactic
import Derived.ChangeAlike
import Derived.StillTailTactics
import Derived.Laws.Rows
import Derived.Laws.CopyOwn
section
namespace Go.Proofs.Ytokkhnjedmlbhaa.Pr
open Go.RowKit Go.Proofs.YtokkhnjedmlbhaaW.PrintWords Go.Proofs.YtokkhnjedmlbhaaW.PrintLast Go.Proofs.YtokkhnjedmlbhaaW.PrintMore
attribute [local go_sem] max2_int min2_int max_two min_two max_three min_three max_four min_four   -- for this text's walks alone
set_option linter.unusedVariables false
set_option linter.unusedSimpArgs false

mutual
def clavigerref06_Turn.j0 : Nat → Int → Int → Option (Int)
 | 0, _, _ => none
 | k + 1, x0, x1 => clavigerref06_Turn.l0 k x1 (wrap64 (x0)) 0
def clavigerref06_Turn.l0 : Nat → Int → Int → Int → Option (Int)
 | 0, _, _, _ => none
 | k + 1, x1, x5, x6 => if x6 < x1 then (if (wrap64 (x5 * 2)) > 255 then (clavigerref06_Turn.l0 k x1 (wrap64 ((wrap64 (x5 * 2)) - 255)) (wrap64 (x6 + 1))) else (clavigerref06_Turn.l0 k x1 (wrap64 (x5 * 2)) (wrap64 (x6 + 1)))) else (some ((x5) % 256))
end
def clavigerref06_Turn.f (k : Nat) (a0 : Int) (a1 : Int) : Option (Int) := if (Int.tmod a1 8) < 0 then (clavigerref06_Turn.j0 k a0 (wrap64 ((Int.tmod a1 8) + 8))) else (clavigerref06_Turn.j0 k a0 (Int.tmod a1 8))
theorem clavigerref06_Turn.mono_l : ∀ k, (∀ y1 y2, LeO (clavigerref06_Turn.j0 k y1 y2) (clavigerref06_Turn.j0 (k + 1) y1 y2)) ∧ (∀ y1 y2 y3, LeO (clavigerref06_Turn.l0 k y1 y2 y3) (clavigerref06_Turn.l0 (k + 1) y1 y2 y3))
 | 0 => ⟨fun _ _ r h => by simp [clavigerref06_Turn.j0] at h, fun _ _ _ r h => by simp [clavigerref06_Turn.l0] at h⟩
 | k + 1 => by
  obtain ⟨ih0, ih1⟩ := clavigerref06_Turn.mono_l k
  refine ⟨?_, ?_⟩
  ·intro y1 y2
   unfold clavigerref06_Turn.j0
   repeat' first
   | (with_reducible exact ih0 _ _)
   | (with_reducible exact ih1 _ _ _)
   | (with_reducible exact LeO.refl _)
   | (with_reducible exact LeO.none _)
   | (with_reducible refine LeO.ite ?_ ?_)
   | (with_reducible refine LeO.bind ?_ (fun _ => ?_))
  ·intro y1 y2 y3
   unfold clavigerref06_Turn.l0
   repeat' first
   | (with_reducible exact ih0 _ _)
   | (with_reducible exact ih1 _ _ _)
   | (with_reducible exact LeO.refl _)
   | (with_reducible exact LeO.none _)
   | (with_reducible refine LeO.ite ?_ ?_)
   | (with_reducible refine LeO.bind ?_ (fun _ => ?_))
theorem clavigerref06_Turn.mono : ∀ a0 a1 k, LeO (clavigerref06_Turn.f k a0 a1) (clavigerref06_Turn.f (k + 1) a0 a1) := by
 intro a0 a1 k
 obtain ⟨ih0, ih1⟩ := clavigerref06_Turn.mono_l k
 unfold clavigerref06_Turn.f
 repeat' first
   | (with_reducible exact ih0 _ _)
   | (with_reducible exact ih1 _ _ _)
   | (with_reducible exact LeO.refl _)
   | (with_reducible exact LeO.none _)
   | (with_reducible refine LeO.ite ?_ ?_)
   | (with_reducible refine LeO.bind ?_ (fun _ => ?_))
def sbox_Turn.f (a0 : Int) (a1 : Int) : Option (Int) := if 0 ≤ (Go.bits .and .i64 a1 7) then (if 0 ≤ (wrap64 (8 - (Go.bits .and .i64 a1 7))) then (some (Go.bits .or .u8 (shl .u8 a0 (Go.bits .and .i64 a1 7)) (shr .u8 a0 (wrap64 (8 - (Go.bits .and .i64 a1 7)))))) else (none)) else (none)
set_option maxHeartbeats 8000000 in
set_option maxRecDepth 100000 in
theorem sbox_Turn.calls (a0 : Int) (a1 : Int) (r : Int) (w : World) (h : sbox_Turn.f a0 a1 = some r) :
  Calls Try.prog 62 #[.int .u8 a0, .int .i64 a1] w fun e w' => e = .returned (.int .u8 r) ∧ Drawn0 w w' := by
 have H : (if 0 ≤ (Go.bits .and .i64 a1 7) then (if 0 ≤ (wrap64 (8 - (Go.bits .and .i64 a1 7))) then (some (Go.bits .or .u8 (shl .u8 a0 (Go.bits .and .i64 a1 7)) (shr .u8 a0 (wrap64 (8 - (Go.bits .and .i64 a1 7)))))) else (none)) else (none)) = some r := h
 clear h
 by_cases c3 : 0 ≤ (Go.bits .and .i64 a1 7)
 ·rw [if_pos c3] at H
  have c3b0 := eq_true c3
  have c3b1 : decide (0 ≤ (Go.bits .and .i64 a1 7)) = true := decide_eq_true c3
  clear c3
  obtain ⟨ji4, hji4⟩ : ∃ j_ : Int, (shl .u8 a0 (Go.bits .and .i64 a1 7)) = j_ := ⟨_, rfl⟩
  replace H : (if 0 ≤ (wrap64 (8 - (Go.bits .and .i64 a1 7))) then (some (Go.bits .or .u8 (ji4) (shr .u8 a0 (wrap64 (8 - (Go.bits .and .i64 a1 7)))))) else (none)) = some r := by first | (rw [hji4] at H; exact H) | (simp only [hji4] at H ⊢; exact H)
  have hji4_ : (IntKind.u8.wrap (a0 * 2 ^ min (Go.bits .and .i64 a1 7).toNat 8)) = ji4 := hji4
  have hji4z : (Go.bits .and .i64 a1 7) ≤ 8 → (IntKind.u8.wrap (a0 * 2 ^ (Go.bits .and .i64 a1 7).toNat)) = ji4 := shl_small hji4
  obtain ⟨ji5, hji5⟩ : ∃ j_ : Int, (wrap64 (8 - (Go.bits .and .i64 a1 7))) = j_ := ⟨_, rfl⟩
  replace H : (if 0 ≤ (ji5) then (some (Go.bits .or .u8 (ji4) (shr .u8 a0 (ji5)))) else (none)) = some r := by first | (rw [hji5] at H; exact H) | (simp only [hji5] at H ⊢; exact H)
  have hji5w : (IntKind.i64.wrap (8 - (Go.bits .and .i64 a1 7))) = ji5 := (i64_w _).trans hji5
  by_cases c6 : 0 ≤ (ji5)
  ·rw [if_pos c6] at H
   have c6b0 := eq_true c6
   have c6b1 : decide (0 ≤ (ji5)) = true := decide_eq_true c6
   clear c6
   obtain ⟨ji7, hji7⟩ : ∃ j_ : Int, (shr .u8 a0 (ji5)) = j_ := ⟨_, rfl⟩
   replace H : (some (Go.bits .or .u8 (ji4) (ji7))) = some r := by first | (rw [hji7] at H; exact H) | (simp only [hji7] at H ⊢; exact H)
   have hji7_ : (a0 / 2 ^ min (ji5).toNat 8) = ji7 := hji7
   have hji7z : (ji5) ≤ 8 → (a0 / 2 ^ (ji5).toNat) = ji7 := shr_small hji7
   obtain rfl := Option.some.inj H
   go_enter Try.func62, Try.ntmps62
   go_wp2
   repeat (go_quiet (fail); try go_wp2)
   go_ret
   exact ⟨by first | rfl | (simp; done) | (simp only [← hji4, ← hji5, ← hji7] <;> (first | rfl | (simp; done) | (simp [IntKind.wrap_u8, IntKind.wrap_i64, wrap64]; done))) | (simp [*]; done) | (simp [IntKind.wrap_u8, IntKind.wrap_i64, wrap64]; done), by repeat (first | exact Drawn0.refl _ | apply Drawn0.step)⟩
  ·rw [if_neg c6] at H
   exact absurd H (by simp)
 ·rw [if_neg c3] at H
  exact absurd H (by simp)

def sbox_mixed.f (a0 : Int) : Option (Int) := (sbox_Turn.f a0 1).bind fun t1 => ((sbox_Turn.f a0 2).bind fun t2 => ((sbox_Turn.f a0 3).bind fun t3 => ((sbox_Turn.f a0 4).bind fun t4 => (some (Go.bits .xor .u8 (Go.bits .xor .u8 (Go.bits .xor .u8 (Go.bits .xor .u8 (Go.bits .xor .u8 a0 t1) t2) t3) t4) 99)))))
set_option maxHeartbeats 8000000 in
set_option maxRecDepth 100000 in
theorem sbox_mixed.calls (a0 : Int) (r : Int) (w : World) (h : sbox_mixed.f a0 = some r) :
  Calls Try.prog 172 #[.int .u8 a0] w fun e w' => e = .returned (.int .u8 r) ∧ Drawn0 w w' := by
 have H : ((sbox_Turn.f a0 1).bind fun t1 => ((sbox_Turn.f a0 2).bind fun t2 => ((sbox_Turn.f a0 3).bind fun t3 => ((sbox_Turn.f a0 4).bind fun t4 => (some (Go.bits .xor .u8 (Go.bits .xor .u8 (Go.bits .xor .u8 (Go.bits .xor .u8 (Go.bits .xor .u8 a0 t1) t2) t3) t4) 99)))))) = some r := h
 clear h
 replace H := Option.bind_eq_some_iff.mp H
 obtain ⟨t1, A20, H⟩ := H
 try dsimp only at H
 have A2 := Aside0.mk A20
 clear A20
 replace H := Option.bind_eq_some_iff.mp H
 obtain ⟨t2, A30, H⟩ := H
 try dsimp only at H
 have A3 := Aside0.mk A30
 clear A30
 replace H := Option.bind_eq_some_iff.mp H
 obtain ⟨t3, A40, H⟩ := H
 try dsimp only at H
 have A4 := Aside0.mk A40
 clear A40
 replace H := Option.bind_eq_some_iff.mp H
 obtain ⟨t4, A50, H⟩ := H
 try dsimp only at H
 have A5 := Aside0.mk A50
 clear A50
 obtain rfl := Option.some.inj H
 go_enter Try.func172, Try.ntmps172
 go_wp2_with (first | ((with_reducible refine gate_callee (f := 62) rfl ?_); refine goesL_ (some 5) rfl rfl Try.func62 (by kernel_rfl) rfl #[.int .u8 a0, .int .i64 1] rfl (by (try simp only [lT, lC, lN]); first | done | rfl) ?_; (with_reducible refine (sbox_Turn.calls a0 1 t1 _ A2.out).mono ?_); rintro e w' ⟨rfl, ⟨nd, rfl⟩⟩; refine ⟨_, rfl, ?_⟩) | ((with_reducible refine gate_callee (f := 62) rfl ?_); refine goesL_ (some 8) rfl rfl Try.func62 (by kernel_rfl) rfl #[.int .u8 a0, .int .i64 2] rfl (by (try simp only [lT, lC, lN]); first | done | rfl) ?_; (with_reducible refine (sbox_Turn.calls a0 2 t2 _ A3.out).mono ?_); rintro e w' ⟨rfl, ⟨nd, rfl⟩⟩; refine ⟨_, rfl, ?_⟩) | ((with_reducible refine gate_callee (f := 62) rfl ?_); refine goesL_ (some 11) rfl rfl Try.func62 (by kernel_rfl) rfl #[.int .u8 a0, .int .i64 3] rfl (by (try simp only [lT, lC, lN]); first | done | rfl) ?_; (with_reducible refine (sbox_Turn.calls a0 3 t3 _ A4.out).mono ?_); rintro e w' ⟨rfl, ⟨nd, rfl⟩⟩; refine ⟨_, rfl, ?_⟩) | ((with_reducible refine gate_callee (f := 62) rfl ?_); refine goesL_ (some 14) rfl rfl Try.func62 (by kernel_rfl) rfl #[.int .u8 a0, .int .i64 4] rfl (by (try simp only [lT, lC, lN]); first | done | rfl) ?_; (with_reducible refine (sbox_Turn.calls a0 4 t4 _ A5.out).mono ?_); rintro e w' ⟨rfl, ⟨nd, rfl⟩⟩; refine ⟨_, rfl, ?_⟩))
 go_ret
 exact ⟨by first | rfl | (simp; done) | (simp [*]; done) | (simp [IntKind.wrap_u8, IntKind.wrap_i64, wrap64]; done), by repeat (first | exact Drawn0.refl _ | apply Drawn0.step)⟩

def sbox_Sub.f (k : Nat) (a0 : Int) : Option (Int) := (field_Inv.f k a0).bind fun t1 => ((sbox_mixed.f t1).bind fun t2 => (some t2))
theorem sbox_Sub.mono : ∀ a0 k, LeO (sbox_Sub.f k a0) (sbox_Sub.f (k + 1) a0) := by
 intro a0 k
 unfold sbox_Sub.f
 repeat' first
   | (with_reducible exact field_Inv.mono _ _)
   | (with_reducible exact LeO.refl _)
   | (with_reducible exact LeO.none _)
   | (with_reducible refine LeO.ite ?_ ?_)
   | (with_reducible refine LeO.bind ?_ (fun _ => ?_))
def sbox_Back.f (k : Nat) (a0 : Int) : Option (Int) := (sbox_Turn.f a0 1).bind fun t1 => ((sbox_Turn.f a0 3).bind fun t2 => ((sbox_Turn.f a0 6).bind fun t3 => ((field_Inv.f k (Go.bits .xor .u8 (Go.bits .xor .u8 (Go.bits .xor .u8 t1 t2) t3) 5)).bind fun t4 => (some t4))))
theorem sbox_Back.mono : ∀ a0 k, LeO (sbox_Back.f k a0) (sbox_Back.f (k + 1) a0) := by
 intro a0 k
 unfold sbox_Back.f
 repeat' first
   | (with_reducible exact field_Inv.mono _ _)
   | (with_reducible exact LeO.refl _)
   | (with_reducible exact LeO.none _)
   | (with_reducible refine LeO.ite ?_ ?_)
   | (with_reducible refine LeO.bind ?_ (fun _ => ?_))
def clavigerref02_Value.l0 : Nat → Int → Int → Option (Int)
 | 0, _, _ => none
 | k + 1, x0, x3 => if x3 < 16 then (if 0 ≤ x3 then (if (bt (⟨#[48, 49, 50, 51, 52, 53, 54, 55, 56, 57, 65, 66, 67, 68, 69, 70]⟩ : ByteArray) x3) = x0 then (some x3) else (clavigerref02_Value.l0 k x0 (wrap64 (x3 + 1)))) else (none)) else (some (-1))
def clavigerref02_Value.f (k : Nat) (a0 : Int) : Option (Int) := clavigerref02_Value.l0 k a0 0
theorem clavigerref02_Value.mono_l : ∀ k, (∀ y1 y2, LeO (clavigerref02_Value.l0 k y1 y2) (clavigerref02_Value.l0 (k + 1) y1 y2))
 | 0 => fun _ _ r h => by simp [clavigerref02_Value.l0] at h
 | k + 1 => by
  have ih0 := clavigerref02_Value.mono_l k
  ·intro y1 y2
   unfold clavigerref02_Value.l0
   repeat' first
   | (with_reducible exact ih0 _ _)
   | (with_reducible exact LeO.refl _)
   | (with_reducible exact LeO.none _)
   | (with_reducible refine LeO.ite ?_ ?_)
   | (with_reducible refine LeO.bind ?_ (fun _ => ?_))
theorem clavigerref02_Value.mono : ∀ a0 k, LeO (clavigerref02_Value.f k a0) (clavigerref02_Value.f (k + 1) a0) := by
 intro a0 k
 have ih0 := clavigerref02_Value.mono_l k
 unfold clavigerref02_Value.f
 repeat' first
   | (with_reducible exact ih0 _ _)
   | (with_reducible exact LeO.refl _)
   | (with_reducible exact LeO.none _)
   | (with_reducible refine LeO.ite ?_ ?_)
   | (with_reducible refine LeO.bind ?_ (fun _ => ?_))
def clavigerref06_Sub.f (k : Nat) (a0 : Int) : Option (Int) := if 0 ≤ (wrap64 (2 * (wrap64 (a0)))) then (if (wrap64 (2 * (wrap64 (a0)))) < 512 then ((clavigerref02_Value.f k (bt (⟨#[54, 51, 55, 67, 55, 55, 55, 66, 70, 50, 54, 66, 54, 70, 67, 53, 51, 48, 48, 49, 54, 55, 50, 66, 70, 69, 68, 55, 65, 66, 55, 54, 67, 65, 56, 50, 67, 57, 55, 68, 70, 65, 53, 57, 52, 55, 70, 48, 65, 68, 68, 52, 65, 50, 65, 70, 57, 67, 65, 52, 55, 50, 67, 48, 66, 55, 70, 68, 57, 51, 50, 54, 51, 54, 51, 70, 70, 55, 67, 67, 51, 52, 65, 53, 69, 53, 70, 49, 55, 49, 68, 56, 51, 49, 49, 53, 48, 52, 67, 55, 50, 51, 67, 51, 49, 56, 57, 54, 48, 53, 57, 65, 48, 55, 49, 50, 56, 48, 69, 50, 69, 66, 50, 55, 66, 50, 55, 53, 48, 57, 56, 51, 50, 67, 49, 65, 49, 66, 54, 69, 53, 65, 65, 48, 53, 50, 51, 66, 68, 54, 66, 51, 50, 57, 69, 51, 50, 70, 56, 52, 53, 51, 68, 49, 48, 48, 69, 68, 50, 48, 70, 67, 66, 49, 53, 66, 54, 65, 67, 66, 66, 69, 51, 57, 52, 65, 52, 67, 53, 56, 67, 70, 68, 48, 69, 70, 65, 65, 70, 66, 52, 51, 52, 68, 51, 51, 56, 53, 52, 53, 70, 57, 48, 50, 55, 70, 53, 48, 51, 67, 57, 70, 65, 56, 53, 49, 65, 51, 52, 48, 56, 70, 57, 50, 57, 68, 51, 56, 70, 53, 66, 67, 66, 54, 68, 65, 50, 49, 49, 48, 70, 70, 70, 51, 68, 50, 67, 68, 48, 67, 49, 51, 69, 67, 53, 70, 57, 55, 52, 52, 49, 55, 67, 52, 65, 55, 55, 69, 51, 68, 54, 52, 53, 68, 49, 57, 55, 51, 54, 48, 56, 49, 52, 70, 68, 67, 50, 50, 50, 65, 57, 48, 56, 56, 52, 54, 69, 69, 66, 56, 49, 52, 68, 69, 53, 69, 48, 66, 68, 66, 69, 48, 51, 50, 51, 65, 48, 65, 52, 57, 48, 54, 50, 52, 53, 67, 67, 50, 68, 51, 65, 67, 54, 50, 57, 49, 57, 53, 69, 52, 55, 57, 69, 55, 67, 56, 51, 55, 54, 68, 56, 68, 68, 53, 52, 69, 65, 57, 54, 67, 53, 54, 70, 52, 69, 65, 54, 53, 55, 65, 65, 69, 48, 56, 66, 65, 55, 56, 50, 53, 50, 69, 49, 67, 65, 54, 66, 52, 67, 54, 69, 56, 68, 68, 55, 52, 49, 70, 52, 66, 66, 68, 56, 66, 56, 65, 55, 48, 51, 69, 66, 53, 54, 54, 52, 56, 48, 51, 70, 54, 48, 69, 54, 49, 51, 53, 53, 55, 66, 57, 56, 54, 67, 49, 49, 68, 57, 69, 69, 49, 70, 56, 57, 56, 49, 49, 54, 57, 68, 57, 56, 69, 57, 52, 57, 66, 49, 69, 56, 55, 69, 57, 67, 69, 53, 53, 50, 56, 68, 70, 56, 67, 65, 49, 56, 57, 48, 68, 66, 70, 69, 54, 52, 50, 54, 56, 52, 49, 57, 57, 50, 68, 48, 70, 66, 48, 53, 52, 66, 66, 49, 54]⟩ : ByteArray) (wrap64 (2 * (wrap64 (a0)))))).bind fun t1 => (if 0 ≤ (wrap64 ((wrap64 (2 * (wrap64 (a0)))) + 1)) then (if (wrap64 ((wrap64 (2 * (wrap64 (a0)))) + 1)) < 512 then ((clavigerref02_Value.f k (bt (⟨#[54, 51, 55, 67, 55, 55, 55, 66, 70, 50, 54, 66, 54, 70, 67, 53, 51, 48, 48, 49, 54, 55, 50, 66, 70, 69, 68, 55, 65, 66, 55, 54, 67, 65, 56, 50, 67, 57, 55, 68, 70, 65, 53, 57, 52, 55, 70, 48, 65, 68, 68, 52, 65, 50, 65, 70, 57, 67, 65, 52, 55, 50, 67, 48, 66, 55, 70, 68, 57, 51, 50, 54, 51, 54, 51, 70, 70, 55, 67, 67, 51, 52, 65, 53, 69, 53, 70, 49, 55, 49, 68, 56, 51, 49, 49, 53, 48, 52, 67, 55, 50, 51, 67, 51, 49, 56, 57, 54, 48, 53, 57, 65, 48, 55, 49, 50, 56, 48, 69, 50, 69, 66, 50, 55, 66, 50, 55, 53, 48, 57, 56, 51, 50, 67, 49, 65, 49, 66, 54, 69, 53, 65, 65, 48, 53, 50, 51, 66, 68, 54, 66, 51, 50, 57, 69, 51, 50, 70, 56, 52, 53, 51, 68, 49, 48, 48, 69, 68, 50, 48, 70, 67, 66, 49, 53, 66, 54, 65, 67, 66, 66, 69, 51, 57, 52, 65, 52, 67, 53, 56, 67, 70, 68, 48, 69, 70, 65, 65, 70, 66, 52, 51, 52, 68, 51, 51, 56, 53, 52, 53, 70, 57, 48, 50, 55, 70, 53, 48, 51, 67, 57, 70, 65, 56, 53, 49, 65, 51, 52, 48, 56, 70, 57, 50, 57, 68, 51, 56, 70, 53, 66, 67, 66, 54, 68, 65, 50, 49, 49, 48, 70, 70, 70, 51, 68, 50, 67, 68, 48, 67, 49, 51, 69, 67, 53, 70, 57, 55, 52, 52, 49, 55, 67, 52, 65, 55, 55, 69, 51, 68, 54, 52, 53, 68, 49, 57, 55, 51, 54, 48, 56, 49, 52, 70, 68, 67, 50, 50, 50, 65, 57, 48, 56, 56, 52, 54, 69, 69, 66, 56, 49, 52, 68, 69, 53, 69, 48, 66, 68, 66, 69, 48, 51, 50, 51, 65, 48, 65, 52, 57, 48, 54, 50, 52, 53, 67, 67, 50, 68, 51, 65, 67, 54, 50, 57, 49, 57, 53, 69, 52, 55, 57, 69, 55, 67, 56, 51, 55, 54, 68, 56, 68, 68, 53, 52, 69, 65, 57, 54, 67, 53, 54, 70, 52, 69, 65, 54, 53, 55, 65, 65, 69, 48, 56, 66, 65, 55, 56, 50, 53, 50, 69, 49, 67, 65, 54, 66, 52, 67, 54, 69, 56, 68, 68, 55, 52, 49, 70, 52, 66, 66, 68, 56, 66, 56, 65, 55, 48, 51, 69, 66, 53, 54, 54, 52, 56, 48, 51, 70, 54, 48, 69, 54, 49, 51, 53, 53, 55, 66, 57, 56, 54, 67, 49, 49, 68, 57, 69, 69, 49, 70, 56, 57, 56, 49, 49, 54, 57, 68, 57, 56, 69, 57, 52, 57, 66, 49, 69, 56, 55, 69, 57, 67, 69, 53, 53, 50, 56, 68, 70, 56, 67, 65, 49, 56, 57, 48, 68, 66, 70, 69, 54, 52, 50, 54, 56, 52, 49, 57, 57, 50, 68, 48, 70, 66, 48, 53, 52, 66, 66, 49, 54]⟩ : ByteArray) (wrap64 ((wrap64 (2 * (wrap64 (a0)))) + 1)))).bind fun t2 => (some ((wrap64 ((wrap64 (16 * t1)) + t2)) % 256))) else (none)) else (none))) else (none)) else (none)
theorem clavigerref06_Sub.mono : ∀ a0 k, LeO (clavigerref06_Sub.f k a0) (clavigerref06_Sub.f (k + 1) a0) := by
 intro a0 k
 unfold clavigerref06_Sub.f
 repeat' first
   | (with_reducible exact clavigerref02_Value.mono _ _)
   | (with_reducible exact LeO.refl _)
   | (with_reducible exact LeO.none _)
   | (with_reducible refine LeO.ite ?_ ?_)
   | (with_reducible refine LeO.bind ?_ (fun _ => ?_))
def clavigerref06_Subs.l0 : Nat → ByteArray → ByteArray → Int → Option (ByteArray)
 | 0, _, _, _ => none
 | k + 1, x0, x3, x4 => if x4 < (x0.size : Int) then (if 0 ≤ x4 then ((clavigerref06_Sub.f k (bt x0 x4)).bind fun t1 => ((some (([t1] : List Int) : List Int)).bind fun y2 => (if x3.size + (strOfNums y2).size ≤ 9223372036854775807 then (clavigerref06_Subs.l0 k x0 (x3 ++ (strOfNums y2)) (wrap64 (x4 + 1))) else (none)))) else (none)) else (some x3)
def clavigerref06_Subs.f (k : Nat) (a0 : ByteArray) : Option (ByteArray) := clavigerref06_Subs.l0 k a0 (⟨#[]⟩ : ByteArray) 0
theorem clavigerref06_Subs.mono_l : ∀ k, (∀ y3 y4 y5, LeO (clavigerref06_Subs.l0 k y3 y4 y5) (clavigerref06_Subs.l0 (k + 1) y3 y4 y5))
 | 0 => fun _ _ _ r h => by simp [clavigerref06_Subs.l0] at h
 | k + 1 => by
  have ih0 := clavigerref06_Subs.mono_l k
  ·intro y3 y4 y5
   unfold clavigerref06_Subs.l0
   repeat' first
   | (with_reducible exact ih0 _ _ _)
   | (with_reducible exact clavigerref06_Sub.mono _ _)
   | (with_reducible exact LeO.refl _)
   | (with_reducible exact LeO.none _)
   | (with_reducible refine LeO.ite ?_ ?_)
   | (with_reducible refine LeO.bind ?_ (fun _ => ?_))
theorem clavigerref06_Subs.mono : ∀ a0 k, LeO (clavigerref06_Subs.f k a0) (clavigerref06_Subs.f (k + 1) a0) := by
 intro a0 k
 have ih0 := clavigerref06_Subs.mono_l k
 unfold clavigerref06_Subs.f
 repeat' first
   | (with_reducible exact ih0 _ _ _)
   | (with_reducible exact clavigerref06_Sub.mono _ _)
   | (with_reducible exact LeO.refl _)
   | (with_reducible exact LeO.none _)
   | (with_reducible refine LeO.ite ?_ ?_)
   | (with_reducible refine LeO.bind ?_ (fun _ => ?_))
def clavigerref06_Back.f (k : Nat) (a0 : Int) : Option (Int) := if 0 ≤ (wrap64 (2 * (wrap64 (a0)))) then (if (wrap64 (2 * (wrap64 (a0)))) < 512 then ((clavigerref02_Value.f k (bt (⟨#[53, 50, 48, 57, 54, 65, 68, 53, 51, 48, 51, 54, 65, 53, 51, 56, 66, 70, 52, 48, 65, 51, 57, 69, 56, 49, 70, 51, 68, 55, 70, 66, 55, 67, 69, 51, 51, 57, 56, 50, 57, 66, 50, 70, 70, 70, 56, 55, 51, 52, 56, 69, 52, 51, 52, 52, 67, 52, 68, 69, 69, 57, 67, 66, 53, 52, 55, 66, 57, 52, 51, 50, 65, 54, 67, 50, 50, 51, 51, 68, 69, 69, 52, 67, 57, 53, 48, 66, 52, 50, 70, 65, 67, 51, 52, 69, 48, 56, 50, 69, 65, 49, 54, 54, 50, 56, 68, 57, 50, 52, 66, 50, 55, 54, 53, 66, 65, 50, 52, 57, 54, 68, 56, 66, 68, 49, 50, 53, 55, 50, 70, 56, 70, 54, 54, 52, 56, 54, 54, 56, 57, 56, 49, 54, 68, 52, 65, 52, 53, 67, 67, 67, 53, 68, 54, 53, 66, 54, 57, 50, 54, 67, 55, 48, 52, 56, 53, 48, 70, 68, 69, 68, 66, 57, 68, 65, 53, 69, 49, 53, 52, 54, 53, 55, 65, 55, 56, 68, 57, 68, 56, 52, 57, 48, 68, 56, 65, 66, 48, 48, 56, 67, 66, 67, 68, 51, 48, 65, 70, 55, 69, 52, 53, 56, 48, 53, 66, 56, 66, 51, 52, 53, 48, 54, 68, 48, 50, 67, 49, 69, 56, 70, 67, 65, 51, 70, 48, 70, 48, 50, 67, 49, 65, 70, 66, 68, 48, 51, 48, 49, 49, 51, 56, 65, 54, 66, 51, 65, 57, 49, 49, 49, 52, 49, 52, 70, 54, 55, 68, 67, 69, 65, 57, 55, 70, 50, 67, 70, 67, 69, 70, 48, 66, 52, 69, 54, 55, 51, 57, 54, 65, 67, 55, 52, 50, 50, 69, 55, 65, 68, 51, 53, 56, 53, 69, 50, 70, 57, 51, 55, 69, 56, 49, 67, 55, 53, 68, 70, 54, 69, 52, 55, 70, 49, 49, 65, 55, 49, 49, 68, 50, 57, 67, 53, 56, 57, 54, 70, 66, 55, 54, 50, 48, 69, 65, 65, 49, 56, 66, 69, 49, 66, 70, 67, 53, 54, 51, 69, 52, 66, 67, 54, 68, 50, 55, 57, 50, 48, 57, 65, 68, 66, 67, 48, 70, 69, 55, 56, 67, 68, 53, 65, 70, 52, 49, 70, 68, 68, 65, 56, 51, 51, 56, 56, 48, 55, 67, 55, 51, 49, 66, 49, 49, 50, 49, 48, 53, 57, 50, 55, 56, 48, 69, 67, 53, 70, 54, 48, 53, 49, 55, 70, 65, 57, 49, 57, 66, 53, 52, 65, 48, 68, 50, 68, 69, 53, 55, 65, 57, 70, 57, 51, 67, 57, 57, 67, 69, 70, 65, 48, 69, 48, 51, 66, 52, 68, 65, 69, 50, 65, 70, 53, 66, 48, 67, 56, 69, 66, 66, 66, 51, 67, 56, 51, 53, 51, 57, 57, 54, 49, 49, 55, 50, 66, 48, 52, 55, 69, 66, 65, 55, 55, 68, 54, 50, 54, 69, 49, 54, 57, 49, 52, 54, 51, 53, 53, 50, 49, 48, 67, 55, 68]⟩ : ByteArray) (wrap64 (2 * (wrap64 (a0)))))).bind fun t1 => (if 0 ≤ (wrap64 ((wrap64 (2 * (wrap64 (a0)))) + 1)) then (if (wrap64 ((wrap64 (2 * (wrap64 (a0)))) + 1)) < 512 then ((clavigerref02_Value.f k (bt (⟨#[53, 50, 48, 57, 54, 65, 68, 53, 51, 48, 51, 54, 65, 53, 51, 56, 66, 70, 52, 48, 65, 51, 57, 69, 56, 49, 70, 51, 68, 55, 70, 66, 55, 67, 69, 51, 51, 57, 56, 50, 57, 66, 50, 70, 70, 70, 56, 55, 51, 52, 56, 69, 52, 51, 52, 52, 67, 52, 68, 69, 69, 57, 67, 66, 53, 52, 55, 66, 57, 52, 51, 50, 65, 54, 67, 50, 50, 51, 51, 68, 69, 69, 52, 67, 57, 53, 48, 66, 52, 50, 70, 65, 67, 51, 52, 69, 48, 56, 50, 69, 65, 49, 54, 54, 50, 56, 68, 57, 50, 52, 66, 50, 55, 54, 53, 66, 65, 50, 52, 57, 54, 68, 56, 66, 68, 49, 50, 53, 55, 50, 70, 56, 70, 54, 54, 52, 56, 54, 54, 56, 57, 56, 49, 54, 68, 52, 65, 52, 53, 67, 67, 67, 53, 68, 54, 53, 66, 54, 57, 50, 54, 67, 55, 48, 52, 56, 53, 48, 70, 68, 69, 68, 66, 57, 68, 65, 53, 69, 49, 53, 52, 54, 53, 55, 65, 55, 56, 68, 57, 68, 56, 52, 57, 48, 68, 56, 65, 66, 48, 48, 56, 67, 66, 67, 68, 51, 48, 65, 70, 55, 69, 52, 53, 56, 48, 53, 66, 56, 66, 51, 52, 53, 48, 54, 68, 48, 50, 67, 49, 69, 56, 70, 67, 65, 51, 70, 48, 70, 48, 50, 67, 49, 65, 70, 66, 68, 48, 51, 48, 49, 49, 51, 56, 65, 54, 66, 51, 65, 57, 49, 49, 49, 52, 49, 52, 70, 54, 55, 68, 67, 69, 65, 57, 55, 70, 50, 67, 70, 67, 69, 70, 48, 66, 52, 69, 54, 55, 51, 57, 54, 65, 67, 55, 52, 50, 50, 69, 55, 65, 68, 51, 53, 56, 53, 69, 50, 70, 57, 51, 55, 69, 56, 49, 67, 55, 53, 68, 70, 54, 69, 52, 55, 70, 49, 49, 65, 55, 49, 49, 68, 50, 57, 67, 53, 56, 57, 54, 70, 66, 55, 54, 50, 48, 69, 65, 65, 49, 56, 66, 69, 49, 66, 70, 67, 53, 54, 51, 69, 52, 66, 67, 54, 68, 50, 55, 57, 50, 48, 57, 65, 68, 66, 67, 48, 70, 69, 55, 56, 67, 68, 53, 65, 70, 52, 49, 70, 68, 68, 65, 56, 51, 51, 56, 56, 48, 55, 67, 55, 51, 49, 66, 49, 49, 50, 49, 48, 53, 57, 50, 55, 56, 48, 69, 67, 53, 70, 54, 48, 53, 49, 55, 70, 65, 57, 49, 57, 66, 53, 52, 65, 48, 68, 50, 68, 69, 53, 55, 65, 57, 70, 57, 51, 67, 57, 57, 67, 69, 70, 65, 48, 69, 48, 51, 66, 52, 68, 65, 69, 50, 65, 70, 53, 66, 48, 67, 56, 69, 66, 66, 66, 51, 67, 56, 51, 53, 51, 57, 57, 54, 49, 49, 55, 50, 66, 48, 52, 55, 69, 66, 65, 55, 55, 68, 54, 50, 54, 69, 49, 54, 57, 49, 52, 54, 51, 53, 53, 50, 49, 48, 67, 55, 68]⟩ : ByteArray) (wrap64 ((wrap64 (2 * (wrap64 (a0)))) + 1)))).bind fun t2 => (some ((wrap64 ((wrap64 (16 * t1)) + t2)) % 256))) else (none)) else (none))) else (none)) else (none)
theorem clavigerref06_Back.mono : ∀ a0 k, LeO (clavigerref06_Back.f k a0) (clavigerref06_Back.f (k + 1) a0) := by
 intro a0 k
 unfold clavigerref06_Back.f
 repeat' first
   | (with_reducible exact clavigerref02_Value.mono _ _)
   | (with_reducible exact LeO.refl _)
   | (with_reducible exact LeO.none _)
   | (with_reducible refine LeO.ite ?_ ?_)
   | (with_reducible refine LeO.bind ?_ (fun _ => ?_))
def clavigerref06_Backs.l0 : Nat → ByteArray → ByteArray → Int → Option (ByteArray)
 | 0, _, _, _ => none
 | k + 1, x0, x3, x4 => if x4 < (x0.size : Int) then (if 0 ≤ x4 then ((clavigerref06_Back.f k (bt x0 x4)).bind fun t1 => ((some (([t1] : List Int) : List Int)).bind fun y2 => (if x3.size + (strOfNums y2).size ≤ 9223372036854775807 then (clavigerref06_Backs.l0 k x0 (x3 ++ (strOfNums y2)) (wrap64 (x4 + 1))) else (none)))) else (none)) else (some x3)
def clavigerref06_Backs.f (k : Nat) (a0 : ByteArray) : Option (ByteArray) := clavigerref06_Backs.l0 k a0 (⟨#[]⟩ : ByteArray) 0
theorem clavigerref06_Backs.mono_l : ∀ k, (∀ y3 y4 y5, LeO (clavigerref06_Backs.l0 k y3 y4 y5) (clavigerref06_Backs.l0 (k + 1) y3 y4 y5))
 | 0 => fun _ _ _ r h => by simp [clavigerref06_Backs.l0] at h
 | k + 1 => by
  have ih0 := clavigerref06_Backs.mono_l k
  ·intro y3 y4 y5
   unfold clavigerref06_Backs.l0
   repeat' first
   | (with_reducible exact ih0 _ _ _)
   | (with_reducible exact clavigerref06_Back.mono _ _)
   | (with_reducible exact LeO.refl _)
   | (with_reducible exact LeO.none _)
   | (with_reducible refine LeO.ite ?_ ?_)
   | (with_reducible refine LeO.bind ?_ (fun _ => ?_))
theorem clavigerref06_Backs.mono : ∀ a0 k, LeO (clavigerref06_Backs.f k a0) (clavigerref06_Backs.f (k + 1) a0) := by
 intro a0 k
 have ih0 := clavigerref06_Backs.mono_l k
 unfold clavigerref06_Backs.f
 repeat' first
   | (with_reducible exact ih0 _ _ _)
   | (with_reducible exact clavigerref06_Back.mono _ _)
   | (with_reducible exact LeO.refl _)
   | (with_reducible exact LeO.none _)
   | (with_reducible refine LeO.ite ?_ ?_)
   | (with_reducible refine LeO.bind ?_ (fun _ => ?_))
end Go.Proofs.Ytokkhnjedmlbhaa.Pr
end
section
namespace Go.Proofs.Ytokkhnjedmlbhaa.Pr
open Go.RowKit Go.Proofs.YtokkhnjedmlbhaaW.PrintWords Go.Proofs.YtokkhnjedmlbhaaW.PrintLast Go.Proofs.YtokkhnjedmlbhaaW.PrintMore
def inBytes (ys : List Int) : Bool := ys.all fun n => decide (0 ≤ n) && decide (n ≤ 255)
/-- All bytes of a text, by a function that may not answer. -/
def eachF (g : Int → Option Int) (s : ByteArray) : Option ByteArray := if s.size ≤ 140737488355328 then ((bytesOf s).mapM g).bind (fun ys => if inBytes ys = true then some (strOfNums ys) else none) else none
theorem mapM_mono {g g' : Int → Option Int} (h : ∀ x, LeO (g x) (g' x)) : ∀ l : List Int, LeO (l.mapM g) (l.mapM g')
  | [] => by simp only [List.mapM_nil]; exact LeO.refl _
  | x :: l => by
    simp only [List.mapM_cons]
    exact LeO.bind (h x) (fun y => LeO.bind (mapM_mono h l) (fun z => LeO.refl _))
theorem eachF_mono {g g' : Int → Option Int} (h : ∀ x, LeO (g x) (g' x)) (s : ByteArray) : LeO (eachF g s) (eachF g' s) := by
  unfold eachF
  exact LeO.ite (LeO.bind (mapM_mono h _) (fun _ => LeO.refl _)) (LeO.none _)

def sbox_Subs.f (k : Nat) (s : ByteArray) : Option ByteArray := eachF (sbox_Sub.f k) s
theorem sbox_Subs.mono : ∀ a0 k, LeO (sbox_Subs.f k a0) (sbox_Subs.f (k + 1) a0) := fun a0 k => eachF_mono (fun x => sbox_Sub.mono x k) a0
def sbox_Backs.f (k : Nat) (s : ByteArray) : Option ByteArray := eachF (sbox_Back.f k) s
theorem sbox_Backs.mono : ∀ a0 k, LeO (sbox_Backs.f k a0) (sbox_Backs.f (k + 1) a0) := fun a0 k => eachF_mono (fun x => sbox_Back.mono x k) a0
end Go.Proofs.Ytokkhnjedmlbhaa.Pr
end
section
namespace Go.Proofs.Ytokkhnjedmlbhaa.Pr
open Go.RowKit Go.Proofs.YtokkhnjedmlbhaaW.PrintWords Go.Proofs.YtokkhnjedmlbhaaW.PrintLast Go.Proofs.YtokkhnjedmlbhaaW.PrintMore
attribute [local go_sem] max2_int min2_int max_two min_two max_three min_three max_four min_four   -- for this text's walks alone
set_option linter.unusedVariables false
set_option linter.unusedSimpArgs false

def clavigerref02_Unhex.l0 : Nat → ByteArray → ByteArray → Int → Option (ByteArray × Bool)
 | 0, _, _, _ => none
 | k + 1, x0, x4, x5 => if x5 < (x0.size : Int) then (if 0 ≤ x5 then ((clavigerref02_Value.f k (bt x0 x5)).bind fun t1 => (if 0 ≤ (wrap64 (x5 + 1)) then (if (wrap64 (x5 + 1)) < (x0.size : Int) then ((clavigerref02_Value.f k (bt x0 (wrap64 (x5 + 1)))).bind fun t2 => (if t1 < 0 then (some ((⟨#[]⟩ : ByteArray), false)) else (if t2 < 0 then (some ((⟨#[]⟩ : ByteArray), false)) else ((some (([(wrap64 ((wrap64 (16 * t1)) + t2)) % 256] : List Int) : List Int)).bind fun y3 => (if x4.size + (strOfNums y3).size ≤ 9223372036854775807 then (clavigerref02_Unhex.l0 k x0 (x4 ++ (strOfNums y3)) (wrap64 (x5 + 2))) else (none)))))) else (none)) else (none))) else (none)) else (some (x4, true))
def clavigerref02_Unhex.f (k : Nat) (a0 : ByteArray) : Option (ByteArray × Bool) := if ((a0.size : Int) % 2) = 0 then (clavigerref02_Unhex.l0 k a0 (⟨#[]⟩ : ByteArray) 0) else (some ((⟨#[]⟩ : ByteArray), false))
theorem clavigerref02_Unhex.mono_l : ∀ k, (∀ y4 y5 y6, LeO (clavigerref02_Unhex.l0 k y4 y5 y6) (clavigerref02_Unhex.l0 (k + 1) y4 y5 y6))
 | 0 => fun _ _ _ r h => by simp [clavigerref02_Unhex.l0] at h
 | k + 1 => by
  have ih0 := clavigerref02_Unhex.mono_l k
  ·intro y4 y5 y6
   unfold clavigerref02_Unhex.l0
   repeat' first
   | (with_reducible exact ih0 _ _ _)
   | (with_reducible exact clavigerref02_Value.mono _ _)
   | (with_reducible exact LeO.refl _)
   | (with_reducible exact LeO.none _)
   | (with_reducible refine LeO.ite ?_ ?_)
   | (with_reducible refine LeO.bind ?_ (fun _ => ?_))
theorem clavigerref02_Unhex.mono : ∀ a0 k, LeO (clavigerref02_Unhex.f k a0) (clavigerref02_Unhex.f (k + 1) a0) := by
 intro a0 k
 have ih0 := clavigerref02_Unhex.mono_l k
 unfold clavigerref02_Unhex.f
 repeat' first
   | (with_reducible exact ih0 _ _ _)
   | (with_reducible exact clavigerref02_Value.mono _ _)
   | (with_reducible exact LeO.refl _)
   | (with_reducible exact LeO.none _)
   | (with_reducible refine LeO.ite ?_ ?_)
   | (with_reducible refine LeO.bind ?_ (fun _ => ?_))
def clavigerref06_Table.f (k : Nat)  : Option (ByteArray) := (clavigerref02_Unhex.f k (⟨#[54, 51, 55, 67, 55, 55, 55, 66, 70, 50, 54, 66, 54, 70, 67, 53, 51, 48, 48, 49, 54, 55, 50, 66, 70, 69, 68, 55, 65, 66, 55, 54, 67, 65, 56, 50, 67, 57, 55, 68, 70, 65, 53, 57, 52, 55, 70, 48, 65, 68, 68, 52, 65, 50, 65, 70, 57, 67, 65, 52, 55, 50, 67, 48, 66, 55, 70, 68, 57, 51, 50, 54, 51, 54, 51, 70, 70, 55, 67, 67, 51, 52, 65, 53, 69, 53, 70, 49, 55, 49, 68, 56, 51, 49, 49, 53, 48, 52, 67, 55, 50, 51, 67, 51, 49, 56, 57, 54, 48, 53, 57, 65, 48, 55, 49, 50, 56, 48, 69, 50, 69, 66, 50, 55, 66, 50, 55, 53, 48, 57, 56, 51, 50, 67, 49, 65, 49, 66, 54, 69, 53, 65, 65, 48, 53, 50, 51, 66, 68, 54, 66, 51, 50, 57, 69, 51, 50, 70, 56, 52, 53, 51, 68, 49, 48, 48, 69, 68, 50, 48, 70, 67, 66, 49, 53, 66, 54, 65, 67, 66, 66, 69, 51, 57, 52, 65, 52, 67, 53, 56, 67, 70, 68, 48, 69, 70, 65, 65, 70, 66, 52, 51, 52, 68, 51, 51, 56, 53, 52, 53, 70, 57, 48, 50, 55, 70, 53, 48, 51, 67, 57, 70, 65, 56, 53, 49, 65, 51, 52, 48, 56, 70, 57, 50, 57, 68, 51, 56, 70, 53, 66, 67, 66, 54, 68, 65, 50, 49, 49, 48, 70, 70, 70, 51, 68, 50, 67, 68, 48, 67, 49, 51, 69, 67, 53, 70, 57, 55, 52, 52, 49, 55, 67, 52, 65, 55, 55, 69, 51, 68, 54, 52, 53, 68, 49, 57, 55, 51, 54, 48, 56, 49, 52, 70, 68, 67, 50, 50, 50, 65, 57, 48, 56, 56, 52, 54, 69, 69, 66, 56, 49, 52, 68, 69, 53, 69, 48, 66, 68, 66, 69, 48, 51, 50, 51, 65, 48, 65, 52, 57, 48, 54, 50, 52, 53, 67, 67, 50, 68, 51, 65, 67, 54, 50, 57, 49, 57, 53, 69, 52, 55, 57, 69, 55, 67, 56, 51, 55, 54, 68, 56, 68, 68, 53, 52, 69, 65, 57, 54, 67, 53, 54, 70, 52, 69, 65, 54, 53, 55, 65, 65, 69, 48, 56, 66, 65, 55, 56, 50, 53, 50, 69, 49, 67, 65, 54, 66, 52, 67, 54, 69, 56, 68, 68, 55, 52, 49, 70, 52, 66, 66, 68, 56, 66, 56, 65, 55, 48, 51, 69, 66, 53, 54, 54, 52, 56, 48, 51, 70, 54, 48, 69, 54, 49, 51, 53, 53, 55, 66, 57, 56, 54, 67, 49, 49, 68, 57, 69, 69, 49, 70, 56, 57, 56, 49, 49, 54, 57, 68, 57, 56, 69, 57, 52, 57, 66, 49, 69, 56, 55, 69, 57, 67, 69, 53, 53, 50, 56, 68, 70, 56, 67, 65, 49, 56, 57, 48, 68, 66, 70, 69, 54, 52, 50, 54, 56, 52, 49, 57, 57, 50, 68, 48, 70, 66, 48, 53, 52, 66, 66, 49, 54]⟩ : ByteArray)).bind fun bt1 => (some bt1.1)
theorem clavigerref06_Table.mono : ∀ k, LeO (clavigerref06_Table.f k ) (clavigerref06_Table.f (k + 1) ) := by
 intro  k
 unfold clavigerref06_Table.f
 repeat' first
   | (with_reducible exact clavigerref02_Unhex.mono _ _)
   | (with_reducible exact LeO.refl _)
   | (with_reducible exact LeO.none _)
   | (with_reducible refine LeO.ite ?_ ?_)
   | (with_reducible refine LeO.bind ?_ (fun _ => ?_))
end Go.Proofs.Ytokkhnjedmlbhaa.Pr
end
section
namespace Go.Proofs.YtokkhnjedmlbhaaHw
open Go.RowKit Go.Proofs.YtokkhnjedmlbhaaW.PrintWords
/-- A piece of a new block of bytes, as a string. -/
theorem conv_cells {P : Program} (w : World) (T src e dst : TypeId) (hs : P.underlying src = some (.slice e)) (he : P.underlying e = some (.int .u8)) (hd : P.underlying dst = some .string)
    (cells : Array Value) (xs ys : List Int) (hc : cells = (xs.map (Value.int .u8)).toArray) (k len cap : Nat) (hy : (xs.drop k).take len = ys) (hl : ys.length = len) :
    (convert src dst (.slice (some ⟨w.heap.size, k, none⟩) len cap)).run P (w.alloc (.cells cells T)) = .ok (.string (strOfNums ys)) (w.alloc (.cells cells T)) := by
  subst hc
  refine run_convert_bytes_arg _ src e hs he _ k len cap ys hl (fun i hi => ?_) dst hd
  have h1 : (xs.drop k)[i]? = some (ys.getD i 0) := by
    subst hy
    have : i < ((xs.drop k).take len).length := by omega
    rw [List.getD_eq_getElem?_getD, List.getElem?_eq_getElem this]
    simp only [Option.getD_some, List.getElem_take]
    rw [List.getElem?_eq_getElem]
  rw [List.getElem?_drop] at h1
  have := heap_alloc_new w (.cells (xs.map (Value.int .u8)).toArray T)
  rw [blk_cell this]
  simp [h1]
/-- copy(dst, s), s a string at least as long as dst, dst a whole row of bytes of the call's own. -/
theorem run_copy_str {P : Program} (w : World) (dT sT ty elem : TypeId) (g dLen dCap : Nat) (s : ByteArray) (cur : Array Value) (t : TypeId)
    (hu : P.underlying dT = some (.slice elem)) (hs : (P.info? elem).map (·.size) = some 1) (hg : w.heap[g]? = some (.cells cur t (0, 0))) (hle : dLen ≤ s.size) (hfit : cur.size = dLen) :
    (Builtin.copy_ #[dT, sT] ty #[.slice (some ⟨g, 0, none⟩) dLen dCap, .string s]).run P w =
      .ok (goInt dLen) (w.setRow g ((Lib.byteCells s.data.toList).take dLen).toArray) := by
  have hl0 : (Lib.byteCells s.data.toList).length = s.size := by rw [Lib.byteCells_length, ← Lib.size_eq]
  have hlen : ((Lib.byteCells s.data.toList).take dLen).length = dLen := by rw [List.length_take, hl0]; omega
  have hst := run_storeCells_at P g 0 t ((Lib.byteCells s.data.toList).take dLen) 0 cur w hg (by rw [hlen]; omega) (fun v hv => Lib.byteCells_one _ v (List.mem_of_mem_take hv))
  have hmin : Nat.min s.size dLen = dLen := Nat.min_eq_right hle
  have htk : List.take dLen (List.map (fun b : UInt8 => Value.int IntKind.u8 (b.toNat : Int)) s.data.toList) = (Lib.byteCells s.data.toList).take dLen := rfl
  rw [hlen] at hst
  simp only [Nat.add_zero, Nat.zero_add, List.take_zero, List.nil_append] at hst
  rw [List.drop_of_length_le (by simp [hfit]), List.append_nil] at hst
  cases hq : P.info? elem with
  | none => simp [hq] at hs
  | some i =>
    simp [Builtin.copy_, run_underlying hu, Builtin.lenOf, Builtin.firstCells, sizeOf, typeInfo, hq, hmin]
    rw [htk, hst]
    simp [Result.andThen]
end Go.Proofs.YtokkhnjedmlbhaaHw
end
section
namespace Go.Proofs.Ytokkhnjedmlbhaa.Pr
open Go.RowKit Go.Proofs.YtokkhnjedmlbhaaW.PrintWords Go.Proofs.YtokkhnjedmlbhaaW.PrintLast Go.Proofs.YtokkhnjedmlbhaaW.PrintMore Go.Proofs.YtokkhnjedmlbhaaHw
/-- n rounds more, from p and q on. -/
def tabL (k : Nat) (third : Int) : Nat → Int → Int → List Int → Option (List Int)
  | 0, _, _, xs => some xs
  | n + 1, p, q, xs => (sbox_mixed.f q).bind fun m => (field_Mul.f k p 3).bind fun p' => (field_Mul.f k q third).bind fun q' => if 0 ≤ p then if p < 256 then tabL k third n p' q' (xs.set p.toNat m) else none else none
def sbox_Table.f (k : Nat) : Option ByteArray := (field_Inv.f k 3).bind fun third => (tabL k third 255 1 1 (List.replicate 256 0)).map fun xs => strOfNums (xs.set 0 99)
theorem tabL_mono (k : Nat) (third : Int) : ∀ n p q xs, LeO (tabL k third n p q xs) (tabL (k + 1) third n p q xs)
  | 0, _, _, _ => LeO.refl _
  | n + 1, p, q, xs => by
    simp only [tabL]
    exact LeO.bind (LeO.refl _) fun m => LeO.bind (field_Mul.mono _ _ _) fun p' => LeO.bind (field_Mul.mono _ _ _) fun q' => LeO.ite (LeO.ite (tabL_mono k third n p' q' _) (LeO.none _)) (LeO.none _)
theorem sbox_Table.mono : ∀ k, LeO (sbox_Table.f k) (sbox_Table.f (k + 1)) := fun k => LeO.bind (field_Inv.mono _ _) fun third => LeO.map _ (tabL_mono k third _ _ _ _)
theorem map_set_u8 (xs : List Int) (i : Nat) (v : Int) : ((xs.map (Value.int .u8)).toArray.setIfInBounds i (.int .u8 v)) = (((xs.set i v).map (Value.int .u8)).toArray) := by
  apply Array.ext'
  simp only [Array.toList_setIfInBounds]
  exact (List.map_set).symm
theorem row_get (xs : List Int) (i : Nat) (h : i < xs.length) : (xs.map (Value.int .u8)).toArray[i]? = some (.int .u8 (xs.getD i 0)) := by
  simp [h]
set_option maxHeartbeats 1000000 in
set_option maxRecDepth 100000 in
theorem sbox_Table.calls (k : Nat) (r : ByteArray) (w : World) (h : sbox_Table.f k = some r) :
    Calls Try.prog 70 #[] w fun e w' => e = .returned (.string r) ∧ Below w.heap.size w w' := by
  unfold sbox_Table.f at h
  replace h := Option.bind_eq_some_iff.1 h
  obtain ⟨third, h3, h⟩ := h
  replace h := Option.map_eq_some_iff.1 h
  obtain ⟨xs, hx, hr⟩ := h
  subst hr
  have H3 := Aside0.mk h3
  have HX := Aside0.mk hx
  clear h3 hx
  go_enter Try.func70, Try.ntmps70
  go_wp2_with (go_at_call 47; refine (field_Inv.calls k _ _ _ H3.out).mono ?_; rintro e w1 ⟨rfl, hd⟩)
  obtain ⟨nd, rfl⟩ := hd.out
  have hz : Try.zeroCells93 = ((List.replicate 256 (0 : Int)).map (Value.int .u8)).toArray := by kernel_rfl
  have hb0 : ((w.alloc (.cells Try.zeroCells93 93)).drewN nd).heap[w.heap.size]? = some (.cells ((List.replicate 256 (0 : Int)).map (Value.int .u8)).toArray 93 (0, 0)) := by
    rw [← hz]; exact heap_alloc_new w _
  have HK0 := Aside0.mk hb0
  have HL0 := Aside0.mk (pw_below_drewN ((Below.refl w.heap.size w).alloc (Nat.le_refl _) (.cells Try.zeroCells93 93)) nd)
  clear hz hb0 hd
  go_loopw [3, 4, 6] (fun vp vq i wr => ∃ (j : Nat) (p q : Int) (ys : List Int), j ≤ 255 ∧ vp = .int .u8 p ∧ vq = .int .u8 q ∧ i = .int .i64 j ∧ Aside0 (tabL k third (255 - j) p q ys = some xs) ∧ Aside0 (ys.length = 256) ∧ Aside0 (wr.heap[w.heap.size]? = some (.cells (ys.map (Value.int .u8)).toArray 93 (0, 0))) ∧ Aside0 (Below w.heap.size w wr)) (fun _ _ i _ => 255 - (intOf i).toNat)
  case atStart => exact ⟨0, 1, 1, _, by omega, rfl, rfl, rfl, HX, ⟨by rw [List.length_replicate]⟩, HK0, HL0⟩
  case round =>
    clear HX HK0 HL0
    obtain ⟨j, p, q, ys, hj, rfl, rfl, rfl, HX, HY, HK, HB⟩ := hrel
    by_cases hlt : j < 255
    · have hx := HX.out
      rw [show 255 - j = (255 - (j + 1)) + 1 by omega] at hx
      simp only [tabL] at hx
      replace hx := Option.bind_eq_some_iff.1 hx
      obtain ⟨m, hm, hx⟩ := hx
      replace hx := Option.bind_eq_some_iff.1 hx
      obtain ⟨p', hp', hx⟩ := hx
      replace hx := Option.bind_eq_some_iff.1 hx
      obtain ⟨q', hq', hx⟩ := hx
      split at hx
      case isFalse => cases hx
      case isTrue h0 =>
      split at hx
      case isFalse => cases hx
      case isTrue h1 =>
      obtain ⟨pn, rfl⟩ := Int.eq_ofNat_of_zero_le h0
      rw [Int.toNat_natCast] at hx
      have HM := Aside0.mk hm
      have HP := Aside0.mk hp'
      have HQ := Aside0.mk hq'
      have HX1 := Aside0.mk hx
      clear HX hx hm hp' hq'
      have hpn : pn < 256 := by omega
      have HC : Aside0 (∀ n2, (wr.drewN n2).cell? ⟨w.heap.size, pn, none⟩ = some (.int .u8 (ys.getD pn 0))) := ⟨fun n2 => (blk_cell (w := wr.drewN n2) HK.out pn).trans (row_get ys pn (by rw [HY.out]; exact hpn))⟩
      have HF : Aside0 (∀ n2, (wr.drewN n2).frozen? ⟨w.heap.size, pn, none⟩ = false) := ⟨fun n2 => blk_frozen (w := wr.drewN n2) HK.out pn⟩
      go_wp2_with (go_at_call 172; refine (sbox_mixed.calls _ _ _ HM.out).mono ?_; rintro e w2 ⟨rfl, hd⟩; obtain ⟨n2, rfl⟩ := hd.out; clear hd; have hc := HC.out n2; have hf := HF.out n2)
      go_wp2_with (first | (go_at_call 43; (with_reducible refine (field_Mul.calls k _ _ _ _ HP.out).mono ?_); rintro e w3 ⟨rfl, hd⟩; obtain ⟨n3, rfl⟩ := hd.out; clear hd) | (go_at_call 43; (with_reducible refine (field_Mul.calls k _ _ _ _ HQ.out).mono ?_); rintro e w3 ⟨rfl, hd⟩; obtain ⟨n3, rfl⟩ := hd.out; clear hd))
      rename_i n1
      refine ⟨⟨j + 1, p', q', ys.set pn m, by omega, rfl, rfl, by go_num, HX1, ⟨by rw [List.length_set]; exact HY.out⟩, ⟨?_⟩, ⟨?_⟩⟩, by simp [intOf]; omega⟩
      · rw [← map_set_u8]
        exact blk_set (w := wr.drewN n2) HK.out pn _
      · exact pw_below_drewN (below_set (pw_below_drewN HB.out n2) (Nat.le_refl _)) _
    · obtain rfl : j = 255 := by omega
      have hx : ys = xs := by simpa [tabL] using HX.out
      subst hx
      clear HX
      have hc : wr.cell? ⟨w.heap.size, 0, none⟩ = some (.int .u8 (ys.getD 0 0)) := (blk_cell HK.out 0).trans (row_get ys 0 (by rw [HY.out]; omega))
      have hf : wr.frozen? ⟨w.heap.size, 0, none⟩ = false := blk_frozen HK.out 0
      have hb := blk_set HK.out 0 (.int .u8 99)
      rw [map_set_u8] at hb
      have hlen : (ys.set 0 99).length = 256 := by rw [List.length_set]; exact HY.out
      have hcv := run_convert_bytes_arg (P := Try.prog) (wr.setCell ⟨w.heap.size, 0, none⟩ (.int .u8 99)) 66 5 Try.underlying66 Try.underlying5 w.heap.size 0 256 256 (ys.set 0 99) hlen (fun i hi => by
        rw [Nat.zero_add, blk_cell hb i]
        exact row_get _ i (by rw [hlen]; exact hi)) 9 Try.underlying9
      clear hb hlen
      go_wp2
      go_ret
      exact ⟨rfl, below_set HB.out (Nat.le_refl _)⟩
end Go.Proofs.Ytokkhnjedmlbhaa.Pr
end
section
namespace Go.Proofs.Ytokkhnjedmlbhaa.M
open Go.RowKit Go.Proofs.Ytokkhnjedmlbhaa.Pr Go.Proofs.YtokkhnjedmlbhaaW.PrintWords Go.Proofs.YtokkhnjedmlbhaaW.PrintLast Go.Proofs.YtokkhnjedmlbhaaW.PrintMore Go.Proofs.YtokkhnjedmlbhaaGf
/-- A byte, turned by m. -/
def rot (a m : Nat) : Nat := (a * 2 ^ m) % 256 + a / 2 ^ (8 - m)
def mixN (b : Nat) : Nat := b ^^^ rot b 1 ^^^ rot b 2 ^^^ rot b 3 ^^^ rot b 4 ^^^ 99
theorem mixed_all : allB 256 (fun b => decide (sbox_mixed.f (b : Int) = some ((mixN b : Nat) : Int)) && Nat.blt (mixN b) 256) = true := by decide +kernel
theorem mixN_lt {b : Nat} (hb : b < 256) : mixN b < 256 := by
  have := allB_of mixed_all b hb
  simp only [Bool.and_eq_true] at this
  exact Nat.le_of_ble_eq_true this.2
def sN (a : Nat) : Nat := mixN (inv a)
theorem sN_lt (a : Nat) : sN a < 256 := mixN_lt (inv_lt a)
def backN (a : Nat) : Nat := rot a 1 ^^^ rot a 3 ^^^ rot a 6 ^^^ 5
def bN (a : Nat) : Nat := inv (backN a)
/-- All bytes for which bytes stand. -/
def sT : List Nat := (List.range 256).map sN
theorem back_all : allB 256 (fun a => Nat.beq (bN (sN a)) a && Nat.beq (sN (bN a)) a && !Nat.beq (sN a) a && !Nat.beq (sN a ^^^ a) 255) = true := by decide +kernel
theorem bs_id {a : Nat} (ha : a < 256) : bN (sN a) = a ∧ sN (bN a) = a ∧ sN a ≠ a ∧ sN a ^^^ a ≠ 255 := by
  have h := allB_of back_all a ha
  simp only [Bool.and_eq_true, Bool.not_eq_true'] at h
  exact ⟨Nat.eq_of_beq_eq_true h.1.1.1, Nat.eq_of_beq_eq_true h.1.1.2, (fun e => by have h2 := h.1.2; rw [e, Nat.beq_refl] at h2; cases h2), (fun e => by have h2 := h.2; rw [e] at h2; exact absurd h2 (by decide))⟩
theorem isB_map {f : Nat → Nat} (h : ∀ a, f a < 256) (l : List Nat) : isB (l.map f) := by
  intro x hx
  obtain ⟨a, _, rfl⟩ := List.mem_map.1 hx
  exact h a
end Go.Proofs.Ytokkhnjedmlbhaa.M
end
section
namespace Go.Proofs.Ytokkhnjedmlbhaa.M
open Go.RowKit Go.Proofs.Ytokkhnjedmlbhaa.Pr Go.Proofs.YtokkhnjedmlbhaaW.PrintWords Go.Proofs.YtokkhnjedmlbhaaW.PrintLast Go.Proofs.YtokkhnjedmlbhaaW.PrintMore Go.Proofs.YtokkhnjedmlbhaaGf
theorem table_all : sbox_Table.f 300 = some (mkB sT) := by decide +kernel
theorem table_c : Ev (fun k => sbox_Table.f k) (mkB sT) := Ev.of sbox_Table.mono (k := 300) table_all
end Go.Proofs.Ytokkhnjedmlbhaa.M
end
section
namespace Go.Proofs.Ytokkhnjedmlbhaa.M
open Go.Proofs.YtokkhnjedmlbhaaGf
set_option linter.unusedSimpArgs false
theorem xor_xc (a b : Nat) : a ^^^ (a ^^^ b) = b := by rw [← Nat.xor_assoc, Nat.xor_self, Nat.zero_xor]
theorem xor_lc (a b c : Nat) : a ^^^ (b ^^^ c) = b ^^^ (a ^^^ c) := by rw [← Nat.xor_assoc, Nat.xor_comm a, Nat.xor_assoc]
theorem gm_sm_all : allB 256 (fun a => Nat.beq (gm 1 a) a && Nat.beq (gm 2 a) (xt a) && Nat.beq (gm 3 a) (xt a ^^^ a) && Nat.beq (gm 9 a) (xt (xt (xt a)) ^^^ a) && Nat.beq (gm 11 a) (xt (xt (xt a)) ^^^ (xt a ^^^ a)) && Nat.beq (gm 13 a) (xt (xt (xt a)) ^^^ (xt (xt a) ^^^ a)) && Nat.beq (gm 14 a) (xt (xt (xt a)) ^^^ (xt (xt a) ^^^ xt a))) = true := by decide +kernel
theorem gm_sm {a : Nat} (ha : a < 256) : gm 1 a = a ∧ gm 2 a = xt a ∧ gm 3 a = xt a ^^^ a ∧ gm 9 a = xt (xt (xt a)) ^^^ a ∧ gm 11 a = xt (xt (xt a)) ^^^ (xt a ^^^ a) ∧ gm 13 a = xt (xt (xt a)) ^^^ (xt (xt a) ^^^ a) ∧ gm 14 a = xt (xt (xt a)) ^^^ (xt (xt a) ^^^ xt a) := by
  have h := allB_of gm_sm_all a ha
  simp only [Bool.and_eq_true] at h
  obtain ⟨⟨⟨⟨⟨⟨h1, h2⟩, h3⟩, h4⟩, h5⟩, h6⟩, h7⟩ := h
  exact ⟨Nat.eq_of_beq_eq_true h1, Nat.eq_of_beq_eq_true h2, Nat.eq_of_beq_eq_true h3, Nat.eq_of_beq_eq_true h4, Nat.eq_of_beq_eq_true h5, Nat.eq_of_beq_eq_true h6, Nat.eq_of_beq_eq_true h7⟩
/-- A byte of a column, mixed. -/
def m0 (a b c d : Nat) : Nat := xt a ^^^ (xt b ^^^ (b ^^^ (c ^^^ d)))
/-- A byte of a column, as it was. -/
def u0 (a b c d : Nat) : Nat := gm 14 a ^^^ (gm 11 b ^^^ (gm 13 c ^^^ gm 9 d))
theorem m0_lt {a b c d : Nat} (ha : a < 256) (hb : b < 256) (hc : c < 256) (hd : d < 256) : m0 a b c d < 256 := xor_lt (xt_lt ha) (xor_lt (xt_lt hb) (xor_lt hb (xor_lt hc hd)))
/-- The place j further in a column. -/
def nx (i j : Nat) : Nat := 4 * (i / 4) + (i % 4 + j) % 4
theorem nx_lt {i : Nat} (hi : i < 16) (j : Nat) : nx i j < 16 := by unfold nx; omega
/-- A state, mixed; back. -/
def MX (g : Nat → Nat) (i : Nat) : Nat := m0 (g i) (g (nx i 1)) (g (nx i 2)) (g (nx i 3))
def UX (g : Nat → Nat) (i : Nat) : Nat := u0 (g i) (g (nx i 1)) (g (nx i 2)) (g (nx i 3))
theorem MX_lt {g : Nat → Nat} (hg : ∀ i, g i < 256) (i : Nat) : MX g i < 256 := m0_lt (hg _) (hg _) (hg _) (hg _)
theorem MX_congr {g h : Nat → Nat} (H : ∀ i, i < 16 → g i = h i) {i : Nat} (hi : i < 16) : MX g i = MX h i := by
  unfold MX; rw [H _ hi, H _ (nx_lt hi _), H _ (nx_lt hi _), H _ (nx_lt hi _)]
/-- Rows moved, and back. -/
def SH (g : Nat → Nat) (i : Nat) : Nat := g (4 * ((i / 4 + i % 4) % 4) + i % 4)
def UH (g : Nat → Nat) (i : Nat) : Nat := g (4 * ((i / 4 + 4 - i % 4) % 4) + i % 4)
theorem SH_congr {g h : Nat → Nat} (H : ∀ i, i < 16 → g i = h i) (i : Nat) : SH g i = SH h i := H _ (by omega)
end Go.Proofs.Ytokkhnjedmlbhaa.M
end
section
namespace Go.Proofs.Ytokkhnjedmlbhaa.Pr
open Go.RowKit Go.Proofs.YtokkhnjedmlbhaaW.PrintWords Go.Proofs.YtokkhnjedmlbhaaW.PrintLast Go.Proofs.YtokkhnjedmlbhaaW.PrintMore
/-- Twice, as a number. -/
def tw (a : Int) : Int := if Go.bits .and .u8 a 128 = 0 then (a * 2) % 256 else Go.bits .xor .u8 ((a * 2) % 256) 27
theorem tw_some (a : Int) : field_Twice.f a = some (tw a) := by
  unfold field_Twice.f tw
  split <;> rfl
theorem twice_still (a : Int) (w : World) : Calls Try.prog 41 #[.int .u8 a] w fun e w' => e = .returned (.int .u8 (tw a)) ∧ w' = w := by
  by_cases h : Go.bits .and .u8 a 128 = 0
  · have e : tw a = (a * 2) % 256 := if_pos h
    have hb : (Go.bits .and .u8 a 128 == 0) = true := beq_iff_eq.mpr h
    have hb2 : (Go.bits .and .u8 a 128 != 0) = false := bne_eq_false_iff_eq.mpr h
    rw [e]
    clear e h
    go_enter Try.func41, Try.ntmps41
    go_wp2
    go_ret
    exact ⟨rfl, rfl⟩
  · have e : tw a = Go.bits .xor .u8 ((a * 2) % 256) 27 := if_neg h
    have hb : (Go.bits .and .u8 a 128 == 0) = false := beq_eq_false_iff_ne.mpr h
    have hb2 : (Go.bits .and .u8 a 128 != 0) = true := bne_iff_ne.mpr h
    rw [e]
    clear e h
    go_enter Try.func41, Try.ntmps41
    go_wp2
    go_ret
    exact ⟨rfl, rfl⟩
theorem still_tail {P : Program} {id : Nat} {Q : Exit → Act → World → Prop} {a : Act} {w : World} {l : List Oper} (n : Nat) (hm : P.follows .mixedOrders = true) (hB : Region.lexTailB .any l.toArray n = true)
    (h : wpStill P l.toArray w.drew (fun a' => wpList P l.toArray Q (l.drop n) a' w.drew) (l.take n) a) : (Code.region id l.toArray true).wp P Q a w := wp_region_still_tail n hm hB h
end Go.Proofs.Ytokkhnjedmlbhaa.Pr
end
section
namespace Go.Proofs.Ytokkhnjedmlbhaa.Pr
open Go.RowKit Go.Proofs.YtokkhnjedmlbhaaW.PrintWords Go.Proofs.YtokkhnjedmlbhaaW.PrintLast Go.Proofs.YtokkhnjedmlbhaaW.PrintMore Go.Proofs.YtokkhnjedmlbhaaHw Go.Proofs.YtokkhnjedmlbhaaGf
/-- A block of bytes. -/
def BY (w : World) (g : Nat) (t : TypeId) (xs : List Int) : Prop := w.heap[g]? = some (.cells ((xs.map (Value.int .u8)).toArray) t (0, 0))
theorem BY.cell {w : World} {g : Nat} {t : TypeId} {xs : List Int} (h : BY w g t xs) (i : Nat) (hi : i < xs.length) : w.cell? ⟨g, i, none⟩ = some (.int .u8 (xs.getD i 0)) := by
  rw [blk_cell h]
  simp [hi]
theorem BY.frozen {w : World} {g : Nat} {t : TypeId} {xs : List Int} (h : BY w g t xs) (i : Nat) : w.frozen? ⟨g, i, none⟩ = false := blk_frozen h i
theorem BY.set {w : World} {g : Nat} {t : TypeId} {xs : List Int} (h : BY w g t xs) (i : Nat) (v : Int) : BY (w.setCell ⟨g, i, none⟩ (.int .u8 v)) g t (xs.set i v) := by
  have := blk_set h i (.int .u8 v)
  unfold BY
  rw [this]
  congr 2
  apply Array.ext'
  simp only [Array.toList_setIfInBounds]
  exact (List.map_set).symm
theorem BY.lt {w : World} {g : Nat} {t : TypeId} {xs : List Int} (h : BY w g t xs) : g < w.heap.size := blk_lt h
theorem BY.same {w w1 : World} {g : Nat} {t : TypeId} {xs : List Int} (h : BY w g t xs) (he : w1.heap[g]? = w.heap[g]?) : BY w1 g t xs := he.trans h
theorem BY.below {w w1 : World} {g : Nat} {t : TypeId} {xs : List Int} (h : BY w g t xs) (hb : Below w.heap.size w w1) : BY w1 g t xs := h.same (hb.block g h.lt)
theorem BY.drewN {w : World} {g : Nat} {t : TypeId} {xs : List Int} (h : BY w g t xs) (n : Nat) : BY (w.drewN n) g t xs := h
theorem BY.drew {w : World} {g : Nat} {t : TypeId} {xs : List Int} (h : BY w g t xs) : BY w.drew g t xs := h
/-- What stands in the tables for a byte. -/
def tabF (p b : Nat) : Nat := if p = 0 then M.sN b else if p = 2 then xt b else if p = 3 then gm 9 b else if p = 4 then gm 11 b else if p = 5 then gm 13 b else gm 14 b
/-- The tables behind i rounds. -/
def tabV (i q : Nat) : Nat := if q / 256 = 1 then (if M.bN (q % 256) < i then M.bN (q % 256) else 0) else if q % 256 < i then tabF (q / 256) (q % 256) else 0
def tabR (i : Nat) : List Int := (List.range 1792).map fun q => ((tabV i q : Nat) : Int)
theorem tabR_length (i : Nat) : (tabR i).length = 1792 := by rw [tabR, List.length_map, List.length_range]
theorem tabV_zero (q : Nat) : tabV 0 q = 0 := by unfold tabV; split <;> simp
theorem tabR_zero : tabR 0 = List.replicate 1792 (0 : Int) := by
  apply List.ext_getElem
  · rw [tabR_length, List.length_replicate]
  · intro q h1 h2
    simp only [tabR, List.getElem_map, tabV_zero, List.getElem_replicate]
    rfl
theorem tab_step (i : Nat) (hi : i < 256) : (((((((tabR i).set i ((M.sN i : Nat) : Int)).set (256 + M.sN i) ((i : Nat) : Int)).set (512 + i) ((xt i : Nat) : Int)).set (768 + i) ((gm 9 i : Nat) : Int)).set (1024 + i) ((gm 11 i : Nat) : Int)).set (1280 + i) ((gm 13 i : Nat) : Int)).set (1536 + i) ((gm 14 i : Nat) : Int) = tabR (i + 1) := by
  have hs := M.sN_lt i
  apply List.ext_getElem
  · simp only [List.length_set, tabR_length]
  · intro q h1 h2
    have hq : q < 1792 := by rw [tabR_length] at h2; exact h2
    obtain ⟨p, b, hb, rfl⟩ : ∃ p b, b < 256 ∧ q = 256 * p + b := ⟨q / 256, q % 256, by omega, by omega⟩
    have hp : p < 7 := by omega
    have e1 : (256 * p + b) / 256 = p := by omega
    have e2 : (256 * p + b) % 256 = b := by omega
    simp only [List.getElem_set, tabR, List.getElem_map, List.getElem_range, tabV, e1, e2]
    clear h1 h2 e1 e2
    have hbs : b = M.sN i ↔ M.bN b = i := ⟨fun e => by rw [e]; exact (M.bs_id hi).1, fun e => by rw [← e]; exact (M.bs_id hb).2.1.symm⟩
    obtain rfl | rfl | rfl | rfl | rfl | rfl | rfl : p = 0 ∨ p = 1 ∨ p = 2 ∨ p = 3 ∨ p = 4 ∨ p = 5 ∨ p = 6 := by omega
    · rw [if_neg (by omega), if_neg (by omega), if_neg (by omega), if_neg (by omega), if_neg (by omega), if_neg (by omega)]
      by_cases e : b = i
      · rw [if_pos (by omega), if_neg (by decide), if_pos (by omega), e]
        rfl
      · rw [if_neg (by omega), if_neg (by decide)]
        by_cases e2 : b < i
        · rw [if_pos e2, if_neg (by decide), if_pos (by omega)]
        · rw [if_neg e2, if_neg (by decide), if_neg (by omega)]
    · rw [if_neg (by omega), if_neg (by omega), if_neg (by omega), if_neg (by omega), if_neg (by omega)]
      by_cases e : b = M.sN i
      · have e' := hbs.1 e
        rw [if_pos (by omega), if_pos rfl, e', if_pos (by omega)]
      · have e' : M.bN b ≠ i := fun h => e (hbs.2 h)
        rw [if_neg (by omega), if_neg (by omega), if_pos rfl]
        by_cases e2 : M.bN b < i
        · rw [if_pos e2, if_pos rfl, if_pos (by omega)]
        · rw [if_neg e2, if_pos rfl, if_neg (by omega)]
    · rw [if_neg (by omega), if_neg (by omega), if_neg (by omega), if_neg (by omega)]
      by_cases e : b = i
      · rw [if_pos (by omega), if_neg (by decide), if_pos (by omega), e]
        rfl
      · rw [if_neg (by omega), if_neg (by omega), if_neg (by omega), if_neg (by decide)]
        by_cases e2 : b < i
        · rw [if_pos e2, if_neg (by decide), if_pos (by omega)]
        · rw [if_neg e2, if_neg (by decide), if_neg (by omega)]
    · rw [if_neg (by omega), if_neg (by omega), if_neg (by omega)]
      by_cases e : b = i
      · rw [if_pos (by omega), if_neg (by decide), if_pos (by omega), e]
        rfl
      · rw [if_neg (by omega), if_neg (by omega), if_neg (by omega), if_neg (by omega), if_neg (by decide)]
        by_cases e2 : b < i
        · rw [if_pos e2, if_neg (by decide), if_pos (by omega)]
        · rw [if_neg e2, if_neg (by decide), if_neg (by omega)]
    · rw [if_neg (by omega), if_neg (by omega)]
      by_cases e : b = i
      · rw [if_pos (by omega), if_neg (by decide), if_pos (by omega), e]
        rfl
      · rw [if_neg (by omega), if_neg (by omega), if_neg (by omega), if_neg (by omega), if_neg (by omega), if_neg (by decide)]
        by_cases e2 : b < i
        · rw [if_pos e2, if_neg (by decide), if_pos (by omega)]
        · rw [if_neg e2, if_neg (by decide), if_neg (by omega)]
    · rw [if_neg (by omega)]
      by_cases e : b = i
      · rw [if_pos (by omega), if_neg (by decide), if_pos (by omega), e]
        rfl
      · rw [if_neg (by omega), if_neg (by omega), if_neg (by omega), if_neg (by omega), if_neg (by omega), if_neg (by omega), if_neg (by decide)]
        by_cases e2 : b < i
        · rw [if_pos e2, if_neg (by decide), if_pos (by omega)]
        · rw [if_neg e2, if_neg (by decide), if_neg (by omega)]
    · by_cases e : b = i
      · rw [if_pos (by omega), if_neg (by decide), if_pos (by omega), e]
        rfl
      · rw [if_neg (by omega), if_neg (by omega), if_neg (by omega), if_neg (by omega), if_neg (by omega), if_neg (by omega), if_neg (by omega), if_neg (by decide)]
        by_cases e2 : b < i
        · rw [if_pos e2, if_neg (by decide), if_pos (by omega)]
        · rw [if_neg e2, if_neg (by decide), if_neg (by omega)]
theorem tw_nat {a : Nat} (ha : a < 256) : tw (a : Int) = ((xt a : Nat) : Int) := Option.some.inj ((tw_some _).symm.trans (M.twice_c ha))
theorem twice_nat {a : Nat} (ha : a < 256) (w : World) : Calls Try.prog 41 #[.int .u8 (a : Int)] w fun e w' => e = .returned (.int .u8 ((xt a : Nat) : Int)) ∧ w' = w := by
  rw [← tw_nat ha]
  exact twice_still _ w
end Go.Proofs.Ytokkhnjedmlbhaa.Pr
end
