-- written by the session's program wip/hp.py over the kit's print; Lean checks it
import Derived.Test.YtokkhnjedmlbhaaZFieldP
namespace Go.Proofs.Ytokkhnjedmlbhaa.Pr
open Go.RowKit Go.Proofs.YtokkhnjedmlbhaaW.PrintWords Go.Proofs.YtokkhnjedmlbhaaW.PrintLast Go.Proofs.YtokkhnjedmlbhaaW.PrintMore
attribute [local go_sem] max2_int min2_int max_two min_two max_three min_three max_four min_four   -- for this text's walks alone
set_option linter.unusedVariables false
set_option linter.unusedSimpArgs false

mutual
def clavigerref06_Turn.j0 : Nat → Int → Int → Option (Int)
 | 0, _, _ => none
 | k + 1, x0, x1 => clavigerref06_Turn.l0 k x1 (wrap64 (x0)) 0
def clavigerref06_Turn.l0 : Nat → Int → Int → Int → Option (Int)
 | 0, _, _, _ => none
 | k + 1, x1, x5, x6 => if x6 < x1 then (if (wrap64 (x5 * 2)) > 255 then (clavigerref06_Turn.l0 k x1 (wrap64 ((wrap64 (x5 * 2)) - 255)) (wrap64 (x6 + 1))) else (clavigerref06_Turn.l0 k x1 (wrap64 (x5 * 2)) (wrap64 (x6 + 1)))) else (some ((x5) % 256))
end
def clavigerref06_Turn.f (k : Nat) (a0 : Int) (a1 : Int) : Option (Int) := if (Int.tmod a1 8) < 0 then (clavigerref06_Turn.j0 k a0 (wrap64 ((Int.tmod a1 8) + 8))) else (clavigerref06_Turn.j0 k a0 (Int.tmod a1 8))
theorem clavigerref06_Turn.mono_l : ∀ k, (∀ y1 y2, LeO (clavigerref06_Turn.j0 k y1 y2) (clavigerref06_Turn.j0 (k + 1) y1 y2)) ∧ (∀ y1 y2 y3, LeO (clavigerref06_Turn.l0 k y1 y2 y3) (clavigerref06_Turn.l0 (k + 1) y1 y2 y3))
 | 0 => ⟨fun _ _ r h => by simp [clavigerref06_Turn.j0] at h, fun _ _ _ r h => by simp [clavigerref06_Turn.l0] at h⟩
 | k + 1 => by
  obtain ⟨ih0, ih1⟩ := clavigerref06_Turn.mono_l k
  refine ⟨?_, ?_⟩
  ·intro y1 y2
   unfold clavigerref06_Turn.j0
   repeat' first
   | (with_reducible exact ih0 _ _)
   | (with_reducible exact ih1 _ _ _)
   | (with_reducible exact LeO.refl _)
   | (with_reducible exact LeO.none _)
   | (with_reducible refine LeO.ite ?_ ?_)
   | (with_reducible refine LeO.bind ?_ (fun _ => ?_))
  ·intro y1 y2 y3
   unfold clavigerref06_Turn.l0
   repeat' first
   | (with_reducible exact ih0 _ _)
   | (with_reducible exact ih1 _ _ _)
   | (with_reducible exact LeO.refl _)
   | (with_reducible exact LeO.none _)
   | (with_reducible refine LeO.ite ?_ ?_)
   | (with_reducible refine LeO.bind ?_ (fun _ => ?_))
theorem clavigerref06_Turn.mono : ∀ a0 a1 k, LeO (clavigerref06_Turn.f k a0 a1) (clavigerref06_Turn.f (k + 1) a0 a1) := by
 intro a0 a1 k
 obtain ⟨ih0, ih1⟩ := clavigerref06_Turn.mono_l k
 unfold clavigerref06_Turn.f
 repeat' first
   | (with_reducible exact ih0 _ _)
   | (with_reducible exact ih1 _ _ _)
   | (with_reducible exact LeO.refl _)
   | (with_reducible exact LeO.none _)
   | (with_reducible refine LeO.ite ?_ ?_)
   | (with_reducible refine LeO.bind ?_ (fun _ => ?_))
def sbox_Turn.f (a0 : Int) (a1 : Int) : Option (Int) := if 0 ≤ (Go.bits .and .i64 a1 7) then (if 0 ≤ (wrap64 (8 - (Go.bits .and .i64 a1 7))) then (some (Go.bits .or .u8 (shl .u8 a0 (Go.bits .and .i64 a1 7)) (shr .u8 a0 (wrap64 (8 - (Go.bits .and .i64 a1 7)))))) else (none)) else (none)
set_option maxHeartbeats 8000000 in
set_option maxRecDepth 100000 in
theorem sbox_Turn.calls (a0 : Int) (a1 : Int) (r : Int) (w : World) (h : sbox_Turn.f a0 a1 = some r) :
  Calls Try.prog 62 #[.int .u8 a0, .int .i64 a1] w fun e w' => e = .returned (.int .u8 r) ∧ Drawn0 w w' := by
 have H : (if 0 ≤ (Go.bits .and .i64 a1 7) then (if 0 ≤ (wrap64 (8 - (Go.bits .and .i64 a1 7))) then (some (Go.bits .or .u8 (shl .u8 a0 (Go.bits .and .i64 a1 7)) (shr .u8 a0 (wrap64 (8 - (Go.bits .and .i64 a1 7)))))) else (none)) else (none)) = some r := h
 clear h
 by_cases c3 : 0 ≤ (Go.bits .and .i64 a1 7)
 ·rw [if_pos c3] at H
  have c3b0 := eq_true c3
  have c3b1 : decide (0 ≤ (Go.bits .and .i64 a1 7)) = true := decide_eq_true c3
  clear c3
  obtain ⟨ji4, hji4⟩ : ∃ j_ : Int, (shl .u8 a0 (Go.bits .and .i64 a1 7)) = j_ := ⟨_, rfl⟩
  replace H : (if 0 ≤ (wrap64 (8 - (Go.bits .and .i64 a1 7))) then (some (Go.bits .or .u8 (ji4) (shr .u8 a0 (wrap64 (8 - (Go.bits .and .i64 a1 7)))))) else (none)) = some r := by first | (rw [hji4] at H; exact H) | (simp only [hji4] at H ⊢; exact H)
  have hji4_ : (IntKind.u8.wrap (a0 * 2 ^ min (Go.bits .and .i64 a1 7).toNat 8)) = ji4 := hji4
  have hji4z : (Go.bits .and .i64 a1 7) ≤ 8 → (IntKind.u8.wrap (a0 * 2 ^ (Go.bits .and .i64 a1 7).toNat)) = ji4 := shl_small hji4
  obtain ⟨ji5, hji5⟩ : ∃ j_ : Int, (wrap64 (8 - (Go.bits .and .i64 a1 7))) = j_ := ⟨_, rfl⟩
  replace H : (if 0 ≤ (ji5) then (some (Go.bits .or .u8 (ji4) (shr .u8 a0 (ji5)))) else (none)) = some r := by first | (rw [hji5] at H; exact H) | (simp only [hji5] at H ⊢; exact H)
  have hji5w : (IntKind.i64.wrap (8 - (Go.bits .and .i64 a1 7))) = ji5 := (i64_w _).trans hji5
  by_cases c6 : 0 ≤ (ji5)
  ·rw [if_pos c6] at H
   have c6b0 := eq_true c6
   have c6b1 : decide (0 ≤ (ji5)) = true := decide_eq_true c6
   clear c6
   obtain ⟨ji7, hji7⟩ : ∃ j_ : Int, (shr .u8 a0 (ji5)) = j_ := ⟨_, rfl⟩
   replace H : (some (Go.bits .or .u8 (ji4) (ji7))) = some r := by first | (rw [hji7] at H; exact H) | (simp only [hji7] at H ⊢; exact H)
   have hji7_ : (a0 / 2 ^ min (ji5).toNat 8) = ji7 := hji7
   have hji7z : (ji5) ≤ 8 → (a0 / 2 ^ (ji5).toNat) = ji7 := shr_small hji7
   obtain rfl := Option.some.inj H
   go_enter Try.func62, Try.ntmps62
   go_wp2
   repeat (go_quiet (fail); try go_wp2)
   go_ret
   exact ⟨by first | rfl | (simp; done) | (simp only [← hji4, ← hji5, ← hji7] <;> (first | rfl | (simp; done) | (simp [IntKind.wrap_u8, IntKind.wrap_i64, wrap64]; done))) | (simp [*]; done) | (simp [IntKind.wrap_u8, IntKind.wrap_i64, wrap64]; done), by repeat (first | exact Drawn0.refl _ | apply Drawn0.step)⟩
  ·rw [if_neg c6] at H
   exact absurd H (by simp)
 ·rw [if_neg c3] at H
  exact absurd H (by simp)

def sbox_mixed.f (a0 : Int) : Option (Int) := (sbox_Turn.f a0 1).bind fun t1 => ((sbox_Turn.f a0 2).bind fun t2 => ((sbox_Turn.f a0 3).bind fun t3 => ((sbox_Turn.f a0 4).bind fun t4 => (some (Go.bits .xor .u8 (Go.bits .xor .u8 (Go.bits .xor .u8 (Go.bits .xor .u8 (Go.bits .xor .u8 a0 t1) t2) t3) t4) 99)))))
set_option maxHeartbeats 8000000 in
set_option maxRecDepth 100000 in
theorem sbox_mixed.calls (a0 : Int) (r : Int) (w : World) (h : sbox_mixed.f a0 = some r) :
  Calls Try.prog 172 #[.int .u8 a0] w fun e w' => e = .returned (.int .u8 r) ∧ Drawn0 w w' := by
 have H : ((sbox_Turn.f a0 1).bind fun t1 => ((sbox_Turn.f a0 2).bind fun t2 => ((sbox_Turn.f a0 3).bind fun t3 => ((sbox_Turn.f a0 4).bind fun t4 => (some (Go.bits .xor .u8 (Go.bits .xor .u8 (Go.bits .xor .u8 (Go.bits .xor .u8 (Go.bits .xor .u8 a0 t1) t2) t3) t4) 99)))))) = some r := h
 clear h
 replace H := Option.bind_eq_some_iff.mp H
 obtain ⟨t1, A20, H⟩ := H
 try dsimp only at H
 have A2 := Aside0.mk A20
 clear A20
 replace H := Option.bind_eq_some_iff.mp H
 obtain ⟨t2, A30, H⟩ := H
 try dsimp only at H
 have A3 := Aside0.mk A30
 clear A30
 replace H := Option.bind_eq_some_iff.mp H
 obtain ⟨t3, A40, H⟩ := H
 try dsimp only at H
 have A4 := Aside0.mk A40
 clear A40
 replace H := Option.bind_eq_some_iff.mp H
 obtain ⟨t4, A50, H⟩ := H
 try dsimp only at H
 have A5 := Aside0.mk A50
 clear A50
 obtain rfl := Option.some.inj H
 go_enter Try.func172, Try.ntmps172
 go_wp2_with (first | ((with_reducible refine gate_callee (f := 62) rfl ?_); refine goesL_ (some 5) rfl rfl Try.func62 (by kernel_rfl) rfl #[.int .u8 a0, .int .i64 1] rfl (by (try simp only [lT, lC, lN]); first | done | rfl) ?_; (with_reducible refine (sbox_Turn.calls a0 1 t1 _ A2.out).mono ?_); rintro e w' ⟨rfl, ⟨nd, rfl⟩⟩; refine ⟨_, rfl, ?_⟩) | ((with_reducible refine gate_callee (f := 62) rfl ?_); refine goesL_ (some 8) rfl rfl Try.func62 (by kernel_rfl) rfl #[.int .u8 a0, .int .i64 2] rfl (by (try simp only [lT, lC, lN]); first | done | rfl) ?_; (with_reducible refine (sbox_Turn.calls a0 2 t2 _ A3.out).mono ?_); rintro e w' ⟨rfl, ⟨nd, rfl⟩⟩; refine ⟨_, rfl, ?_⟩) | ((with_reducible refine gate_callee (f := 62) rfl ?_); refine goesL_ (some 11) rfl rfl Try.func62 (by kernel_rfl) rfl #[.int .u8 a0, .int .i64 3] rfl (by (try simp only [lT, lC, lN]); first | done | rfl) ?_; (with_reducible refine (sbox_Turn.calls a0 3 t3 _ A4.out).mono ?_); rintro e w' ⟨rfl, ⟨nd, rfl⟩⟩; refine ⟨_, rfl, ?_⟩) | ((with_reducible refine gate_callee (f := 62) rfl ?_); refine goesL_ (some 14) rfl rfl Try.func62 (by kernel_rfl) rfl #[.int .u8 a0, .int .i64 4] rfl (by (try simp only [lT, lC, lN]); first | done | rfl) ?_; (with_reducible refine (sbox_Turn.calls a0 4 t4 _ A5.out).mono ?_); rintro e w' ⟨rfl, ⟨nd, rfl⟩⟩; refine ⟨_, rfl, ?_⟩))
 go_ret
 exact ⟨by first | rfl | (simp; done) | (simp [*]; done) | (simp [IntKind.wrap_u8, IntKind.wrap_i64, wrap64]; done), by repeat (first | exact Drawn0.refl _ | apply Drawn0.step)⟩

def sbox_Sub.f (k : Nat) (a0 : Int) : Option (Int) := (field_Inv.f k a0).bind fun t1 => ((sbox_mixed.f t1).bind fun t2 => (some t2))
theorem sbox_Sub.mono : ∀ a0 k, LeO (sbox_Sub.f k a0) (sbox_Sub.f (k + 1) a0) := by
 intro a0 k
 unfold sbox_Sub.f
 repeat' first
   | (with_reducible exact field_Inv.mono _ _)
   | (with_reducible exact LeO.refl _)
   | (with_reducible exact LeO.none _)
   | (with_reducible refine LeO.ite ?_ ?_)
   | (with_reducible refine LeO.bind ?_ (fun _ => ?_))
def sbox_Back.f (k : Nat) (a0 : Int) : Option (Int) := (sbox_Turn.f a0 1).bind fun t1 => ((sbox_Turn.f a0 3).bind fun t2 => ((sbox_Turn.f a0 6).bind fun t3 => ((field_Inv.f k (Go.bits .xor .u8 (Go.bits .xor .u8 (Go.bits .xor .u8 t1 t2) t3) 5)).bind fun t4 => (some t4))))
theorem sbox_Back.mono : ∀ a0 k, LeO (sbox_Back.f k a0) (sbox_Back.f (k + 1) a0) := by
 intro a0 k
 unfold sbox_Back.f
 repeat' first
   | (with_reducible exact field_Inv.mono _ _)
   | (with_reducible exact LeO.refl _)
   | (with_reducible exact LeO.none _)
   | (with_reducible refine LeO.ite ?_ ?_)
   | (with_reducible refine LeO.bind ?_ (fun _ => ?_))
def clavigerref02_Value.l0 : Nat → Int → Int → Option (Int)
 | 0, _, _ => none
 | k + 1, x0, x3 => if x3 < 16 then (if 0 ≤ x3 then (if (bt (⟨#[48, 49, 50, 51, 52, 53, 54, 55, 56, 57, 65, 66, 67, 68, 69, 70]⟩ : ByteArray) x3) = x0 then (some x3) else (clavigerref02_Value.l0 k x0 (wrap64 (x3 + 1)))) else (none)) else (some (-1))
def clavigerref02_Value.f (k : Nat) (a0 : Int) : Option (Int) := clavigerref02_Value.l0 k a0 0
theorem clavigerref02_Value.mono_l : ∀ k, (∀ y1 y2, LeO (clavigerref02_Value.l0 k y1 y2) (clavigerref02_Value.l0 (k + 1) y1 y2))
 | 0 => fun _ _ r h => by simp [clavigerref02_Value.l0] at h
 | k + 1 => by
  have ih0 := clavigerref02_Value.mono_l k
  ·intro y1 y2
   unfold clavigerref02_Value.l0
   repeat' first
   | (with_reducible exact ih0 _ _)
   | (with_reducible exact LeO.refl _)
   | (with_reducible exact LeO.none _)
   | (with_reducible refine LeO.ite ?_ ?_)
   | (with_reducible refine LeO.bind ?_ (fun _ => ?_))
theorem clavigerref02_Value.mono : ∀ a0 k, LeO (clavigerref02_Value.f k a0) (clavigerref02_Value.f (k + 1) a0) := by
 intro a0 k
 have ih0 := clavigerref02_Value.mono_l k
 unfold clavigerref02_Value.f
 repeat' first
   | (with_reducible exact ih0 _ _)
   | (with_reducible exact LeO.refl _)
   | (with_reducible exact LeO.none _)
   | (with_reducible refine LeO.ite ?_ ?_)
   | (with_reducible refine LeO.bind ?_ (fun _ => ?_))
set_option maxHeartbeats 8000000 in
set_option maxRecDepth 100000 in
theorem clavigerref02_Value.calls (k : Nat) (a0 : Int) (r : Int) (w : World) (h : clavigerref02_Value.f k a0 = some r) :
  Calls Try.prog 174 #[.int .u8 a0] w fun e w' => e = .returned (.int .i64 r) ∧ Drawn0 w w' := by
 have H : (clavigerref02_Value.l0 k a0 0) = some r := h
 clear h
 have H' := Aside0.mk H
 clear H
 go_enter Try.func174, Try.ntmps174
 go_wp2
 go_loopg [3] k (fun kq v3 w' => ∃ (x3_1 : Int), v3 = .int .i64 x3_1 ∧ Aside0 (clavigerref02_Value.l0 kq a0 x3_1 = some r) ∧ Aside0 (kq ≤ k) ∧ Drawn0 w w')
 case atStart => exact ⟨(0), (by first | rfl | (simp; done) | (simp [*]; done)), H', ⟨Nat.le_refl _⟩, by repeat (first | exact Drawn0.refl _ | apply Drawn0.step)⟩
 case round =>
  clear H'
  try clear c1
  obtain ⟨x3_1, rfl, HA, HK1, ⟨m1, rfl⟩⟩ := hrel
  cases gk with
  | zero => exact absurd HA.out (by simp [clavigerref02_Value.l0])
  | succ k1 =>
   have H := HA.out
   clear HA
   simp only [clavigerref02_Value.l0] at H
   by_cases c2 : x3_1 < 16
   ·rw [if_pos c2] at H
    have c2b0 : decide (x3_1 < 16) = true := decide_eq_true c2
    clear c2
    by_cases c3 : 0 ≤ x3_1
    ·rw [if_pos c3] at H
     have c3b0 : decide (0 ≤ x3_1) = true := decide_eq_true c3
     clear c3
     by_cases c5 : (bt (⟨#[48, 49, 50, 51, 52, 53, 54, 55, 56, 57, 65, 66, 67, 68, 69, 70]⟩ : ByteArray) x3_1) = a0
     ·rw [if_pos c5] at H
      have c5b0 : ((bt (⟨#[48, 49, 50, 51, 52, 53, 54, 55, 56, 57, 65, 66, 67, 68, 69, 70]⟩ : ByteArray) x3_1) == a0) = true := beq_iff_eq.mpr c5
      have c5b1 : ((bt (⟨#[48, 49, 50, 51, 52, 53, 54, 55, 56, 57, 65, 66, 67, 68, 69, 70]⟩ : ByteArray) x3_1) != a0) = false := bne_eq_false_iff_eq.mpr c5
      clear c5
      obtain rfl := Option.some.inj H
      have p4 : 0 ≤ (x3_1 : Int) := of_decide_eq_true (by assumption)
      have q4 : x3_1 < (16 : Int) := of_decide_eq_true (by assumption)
      have hx4 := bt_at (⟨#[48, 49, 50, 51, 52, 53, 54, 55, 56, 57, 65, 66, 67, 68, 69, 70]⟩ : ByteArray) x3_1
      replace p4 := eq_true p4
      replace q4 := eq_true q4
      go_wp2
      go_ret
      exact ⟨by first | rfl | (simp; done) | (simp [*]; done) | (simp [IntKind.wrap_u8, IntKind.wrap_i64, wrap64]; done), by repeat (first | exact Drawn0.refl _ | apply Drawn0.step)⟩
     ·rw [if_neg c5] at H
      have c5b0 : ((bt (⟨#[48, 49, 50, 51, 52, 53, 54, 55, 56, 57, 65, 66, 67, 68, 69, 70]⟩ : ByteArray) x3_1) == a0) = false := beq_eq_false_iff_ne.mpr c5
      have c5b1 : ((bt (⟨#[48, 49, 50, 51, 52, 53, 54, 55, 56, 57, 65, 66, 67, 68, 69, 70]⟩ : ByteArray) x3_1) != a0) = true := bne_iff_ne.mpr c5
      have H' := Aside0.mk H
      clear H
      have p4 : 0 ≤ (x3_1 : Int) := of_decide_eq_true (by assumption)
      have q4 : x3_1 < (16 : Int) := of_decide_eq_true (by assumption)
      have hx4 := bt_at (⟨#[48, 49, 50, 51, 52, 53, 54, 55, 56, 57, 65, 66, 67, 68, 69, 70]⟩ : ByteArray) x3_1
      replace p4 := eq_true p4
      replace q4 := eq_true q4
      go_wp2
      go_roundg k1
      case measure => have := HK1.out; omega
      case rel => exact ⟨(wrap64 (x3_1 + 1)), (by first | rfl | (simp; done) | (simp [*]; done)), H', ⟨by have := HK1.out; omega⟩, by repeat (first | exact Drawn0.refl _ | apply Drawn0.step)⟩
    ·rw [if_neg c3] at H
     exact absurd H (by simp)
   ·rw [if_neg c2] at H
    have c2b0 : decide (x3_1 < 16) = false := decide_eq_false c2
    clear c2
    obtain rfl := Option.some.inj H
    go_wp2
    go_ret
    exact ⟨by first | rfl | (simp; done) | (simp [*]; done) | (simp [IntKind.wrap_u8, IntKind.wrap_i64, wrap64]; done), by repeat (first | exact Drawn0.refl _ | apply Drawn0.step)⟩

def clavigerref06_Sub.f (k : Nat) (a0 : Int) : Option (Int) := if 0 ≤ (wrap64 (2 * (wrap64 (a0)))) then (if (wrap64 (2 * (wrap64 (a0)))) < 512 then ((clavigerref02_Value.f k (bt (⟨#[54, 51, 55, 67, 55, 55, 55, 66, 70, 50, 54, 66, 54, 70, 67, 53, 51, 48, 48, 49, 54, 55, 50, 66, 70, 69, 68, 55, 65, 66, 55, 54, 67, 65, 56, 50, 67, 57, 55, 68, 70, 65, 53, 57, 52, 55, 70, 48, 65, 68, 68, 52, 65, 50, 65, 70, 57, 67, 65, 52, 55, 50, 67, 48, 66, 55, 70, 68, 57, 51, 50, 54, 51, 54, 51, 70, 70, 55, 67, 67, 51, 52, 65, 53, 69, 53, 70, 49, 55, 49, 68, 56, 51, 49, 49, 53, 48, 52, 67, 55, 50, 51, 67, 51, 49, 56, 57, 54, 48, 53, 57, 65, 48, 55, 49, 50, 56, 48, 69, 50, 69, 66, 50, 55, 66, 50, 55, 53, 48, 57, 56, 51, 50, 67, 49, 65, 49, 66, 54, 69, 53, 65, 65, 48, 53, 50, 51, 66, 68, 54, 66, 51, 50, 57, 69, 51, 50, 70, 56, 52, 53, 51, 68, 49, 48, 48, 69, 68, 50, 48, 70, 67, 66, 49, 53, 66, 54, 65, 67, 66, 66, 69, 51, 57, 52, 65, 52, 67, 53, 56, 67, 70, 68, 48, 69, 70, 65, 65, 70, 66, 52, 51, 52, 68, 51, 51, 56, 53, 52, 53, 70, 57, 48, 50, 55, 70, 53, 48, 51, 67, 57, 70, 65, 56, 53, 49, 65, 51, 52, 48, 56, 70, 57, 50, 57, 68, 51, 56, 70, 53, 66, 67, 66, 54, 68, 65, 50, 49, 49, 48, 70, 70, 70, 51, 68, 50, 67, 68, 48, 67, 49, 51, 69, 67, 53, 70, 57, 55, 52, 52, 49, 55, 67, 52, 65, 55, 55, 69, 51, 68, 54, 52, 53, 68, 49, 57, 55, 51, 54, 48, 56, 49, 52, 70, 68, 67, 50, 50, 50, 65, 57, 48, 56, 56, 52, 54, 69, 69, 66, 56, 49, 52, 68, 69, 53, 69, 48, 66, 68, 66, 69, 48, 51, 50, 51, 65, 48, 65, 52, 57, 48, 54, 50, 52, 53, 67, 67, 50, 68, 51, 65, 67, 54, 50, 57, 49, 57, 53, 69, 52, 55, 57, 69, 55, 67, 56, 51, 55, 54, 68, 56, 68, 68, 53, 52, 69, 65, 57, 54, 67, 53, 54, 70, 52, 69, 65, 54, 53, 55, 65, 65, 69, 48, 56, 66, 65, 55, 56, 50, 53, 50, 69, 49, 67, 65, 54, 66, 52, 67, 54, 69, 56, 68, 68, 55, 52, 49, 70, 52, 66, 66, 68, 56, 66, 56, 65, 55, 48, 51, 69, 66, 53, 54, 54, 52, 56, 48, 51, 70, 54, 48, 69, 54, 49, 51, 53, 53, 55, 66, 57, 56, 54, 67, 49, 49, 68, 57, 69, 69, 49, 70, 56, 57, 56, 49, 49, 54, 57, 68, 57, 56, 69, 57, 52, 57, 66, 49, 69, 56, 55, 69, 57, 67, 69, 53, 53, 50, 56, 68, 70, 56, 67, 65, 49, 56, 57, 48, 68, 66, 70, 69, 54, 52, 50, 54, 56, 52, 49, 57, 57, 50, 68, 48, 70, 66, 48, 53, 52, 66, 66, 49, 54]⟩ : ByteArray) (wrap64 (2 * (wrap64 (a0)))))).bind fun t1 => (if 0 ≤ (wrap64 ((wrap64 (2 * (wrap64 (a0)))) + 1)) then (if (wrap64 ((wrap64 (2 * (wrap64 (a0)))) + 1)) < 512 then ((clavigerref02_Value.f k (bt (⟨#[54, 51, 55, 67, 55, 55, 55, 66, 70, 50, 54, 66, 54, 70, 67, 53, 51, 48, 48, 49, 54, 55, 50, 66, 70, 69, 68, 55, 65, 66, 55, 54, 67, 65, 56, 50, 67, 57, 55, 68, 70, 65, 53, 57, 52, 55, 70, 48, 65, 68, 68, 52, 65, 50, 65, 70, 57, 67, 65, 52, 55, 50, 67, 48, 66, 55, 70, 68, 57, 51, 50, 54, 51, 54, 51, 70, 70, 55, 67, 67, 51, 52, 65, 53, 69, 53, 70, 49, 55, 49, 68, 56, 51, 49, 49, 53, 48, 52, 67, 55, 50, 51, 67, 51, 49, 56, 57, 54, 48, 53, 57, 65, 48, 55, 49, 50, 56, 48, 69, 50, 69, 66, 50, 55, 66, 50, 55, 53, 48, 57, 56, 51, 50, 67, 49, 65, 49, 66, 54, 69, 53, 65, 65, 48, 53, 50, 51, 66, 68, 54, 66, 51, 50, 57, 69, 51, 50, 70, 56, 52, 53, 51, 68, 49, 48, 48, 69, 68, 50, 48, 70, 67, 66, 49, 53, 66, 54, 65, 67, 66, 66, 69, 51, 57, 52, 65, 52, 67, 53, 56, 67, 70, 68, 48, 69, 70, 65, 65, 70, 66, 52, 51, 52, 68, 51, 51, 56, 53, 52, 53, 70, 57, 48, 50, 55, 70, 53, 48, 51, 67, 57, 70, 65, 56, 53, 49, 65, 51, 52, 48, 56, 70, 57, 50, 57, 68, 51, 56, 70, 53, 66, 67, 66, 54, 68, 65, 50, 49, 49, 48, 70, 70, 70, 51, 68, 50, 67, 68, 48, 67, 49, 51, 69, 67, 53, 70, 57, 55, 52, 52, 49, 55, 67, 52, 65, 55, 55, 69, 51, 68, 54, 52, 53, 68, 49, 57, 55, 51, 54, 48, 56, 49, 52, 70, 68, 67, 50, 50, 50, 65, 57, 48, 56, 56, 52, 54, 69, 69, 66, 56, 49, 52, 68, 69, 53, 69, 48, 66, 68, 66, 69, 48, 51, 50, 51, 65, 48, 65, 52, 57, 48, 54, 50, 52, 53, 67, 67, 50, 68, 51, 65, 67, 54, 50, 57, 49, 57, 53, 69, 52, 55, 57, 69, 55, 67, 56, 51, 55, 54, 68, 56, 68, 68, 53, 52, 69, 65, 57, 54, 67, 53, 54, 70, 52, 69, 65, 54, 53, 55, 65, 65, 69, 48, 56, 66, 65, 55, 56, 50, 53, 50, 69, 49, 67, 65, 54, 66, 52, 67, 54, 69, 56, 68, 68, 55, 52, 49, 70, 52, 66, 66, 68, 56, 66, 56, 65, 55, 48, 51, 69, 66, 53, 54, 54, 52, 56, 48, 51, 70, 54, 48, 69, 54, 49, 51, 53, 53, 55, 66, 57, 56, 54, 67, 49, 49, 68, 57, 69, 69, 49, 70, 56, 57, 56, 49, 49, 54, 57, 68, 57, 56, 69, 57, 52, 57, 66, 49, 69, 56, 55, 69, 57, 67, 69, 53, 53, 50, 56, 68, 70, 56, 67, 65, 49, 56, 57, 48, 68, 66, 70, 69, 54, 52, 50, 54, 56, 52, 49, 57, 57, 50, 68, 48, 70, 66, 48, 53, 52, 66, 66, 49, 54]⟩ : ByteArray) (wrap64 ((wrap64 (2 * (wrap64 (a0)))) + 1)))).bind fun t2 => (some ((wrap64 ((wrap64 (16 * t1)) + t2)) % 256))) else (none)) else (none))) else (none)) else (none)
theorem clavigerref06_Sub.mono : ∀ a0 k, LeO (clavigerref06_Sub.f k a0) (clavigerref06_Sub.f (k + 1) a0) := by
 intro a0 k
 unfold clavigerref06_Sub.f
 repeat' first
   | (with_reducible exact clavigerref02_Value.mono _ _)
   | (with_reducible exact LeO.refl _)
   | (with_reducible exact LeO.none _)
   | (with_reducible refine LeO.ite ?_ ?_)
   | (with_reducible refine LeO.bind ?_ (fun _ => ?_))
set_option maxHeartbeats 8000000 in
set_option maxRecDepth 100000 in
theorem clavigerref06_Sub.calls (k : Nat) (a0 : Int) (r : Int) (w : World) (h : clavigerref06_Sub.f k a0 = some r) :
  Calls Try.prog 63 #[.int .u8 a0] w fun e w' => e = .returned (.int .u8 r) ∧ Drawn0 w w' := by
 have H : (if 0 ≤ (wrap64 (2 * (wrap64 (a0)))) then (if (wrap64 (2 * (wrap64 (a0)))) < 512 then ((clavigerref02_Value.f k (bt (⟨#[54, 51, 55, 67, 55, 55, 55, 66, 70, 50, 54, 66, 54, 70, 67, 53, 51, 48, 48, 49, 54, 55, 50, 66, 70, 69, 68, 55, 65, 66, 55, 54, 67, 65, 56, 50, 67, 57, 55, 68, 70, 65, 53, 57, 52, 55, 70, 48, 65, 68, 68, 52, 65, 50, 65, 70, 57, 67, 65, 52, 55, 50, 67, 48, 66, 55, 70, 68, 57, 51, 50, 54, 51, 54, 51, 70, 70, 55, 67, 67, 51, 52, 65, 53, 69, 53, 70, 49, 55, 49, 68, 56, 51, 49, 49, 53, 48, 52, 67, 55, 50, 51, 67, 51, 49, 56, 57, 54, 48, 53, 57, 65, 48, 55, 49, 50, 56, 48, 69, 50, 69, 66, 50, 55, 66, 50, 55, 53, 48, 57, 56, 51, 50, 67, 49, 65, 49, 66, 54, 69, 53, 65, 65, 48, 53, 50, 51, 66, 68, 54, 66, 51, 50, 57, 69, 51, 50, 70, 56, 52, 53, 51, 68, 49, 48, 48, 69, 68, 50, 48, 70, 67, 66, 49, 53, 66, 54, 65, 67, 66, 66, 69, 51, 57, 52, 65, 52, 67, 53, 56, 67, 70, 68, 48, 69, 70, 65, 65, 70, 66, 52, 51, 52, 68, 51, 51, 56, 53, 52, 53, 70, 57, 48, 50, 55, 70, 53, 48, 51, 67, 57, 70, 65, 56, 53, 49, 65, 51, 52, 48, 56, 70, 57, 50, 57, 68, 51, 56, 70, 53, 66, 67, 66, 54, 68, 65, 50, 49, 49, 48, 70, 70, 70, 51, 68, 50, 67, 68, 48, 67, 49, 51, 69, 67, 53, 70, 57, 55, 52, 52, 49, 55, 67, 52, 65, 55, 55, 69, 51, 68, 54, 52, 53, 68, 49, 57, 55, 51, 54, 48, 56, 49, 52, 70, 68, 67, 50, 50, 50, 65, 57, 48, 56, 56, 52, 54, 69, 69, 66, 56, 49, 52, 68, 69, 53, 69, 48, 66, 68, 66, 69, 48, 51, 50, 51, 65, 48, 65, 52, 57, 48, 54, 50, 52, 53, 67, 67, 50, 68, 51, 65, 67, 54, 50, 57, 49, 57, 53, 69, 52, 55, 57, 69, 55, 67, 56, 51, 55, 54, 68, 56, 68, 68, 53, 52, 69, 65, 57, 54, 67, 53, 54, 70, 52, 69, 65, 54, 53, 55, 65, 65, 69, 48, 56, 66, 65, 55, 56, 50, 53, 50, 69, 49, 67, 65, 54, 66, 52, 67, 54, 69, 56, 68, 68, 55, 52, 49, 70, 52, 66, 66, 68, 56, 66, 56, 65, 55, 48, 51, 69, 66, 53, 54, 54, 52, 56, 48, 51, 70, 54, 48, 69, 54, 49, 51, 53, 53, 55, 66, 57, 56, 54, 67, 49, 49, 68, 57, 69, 69, 49, 70, 56, 57, 56, 49, 49, 54, 57, 68, 57, 56, 69, 57, 52, 57, 66, 49, 69, 56, 55, 69, 57, 67, 69, 53, 53, 50, 56, 68, 70, 56, 67, 65, 49, 56, 57, 48, 68, 66, 70, 69, 54, 52, 50, 54, 56, 52, 49, 57, 57, 50, 68, 48, 70, 66, 48, 53, 52, 66, 66, 49, 54]⟩ : ByteArray) (wrap64 (2 * (wrap64 (a0)))))).bind fun t1 => (if 0 ≤ (wrap64 ((wrap64 (2 * (wrap64 (a0)))) + 1)) then (if (wrap64 ((wrap64 (2 * (wrap64 (a0)))) + 1)) < 512 then ((clavigerref02_Value.f k (bt (⟨#[54, 51, 55, 67, 55, 55, 55, 66, 70, 50, 54, 66, 54, 70, 67, 53, 51, 48, 48, 49, 54, 55, 50, 66, 70, 69, 68, 55, 65, 66, 55, 54, 67, 65, 56, 50, 67, 57, 55, 68, 70, 65, 53, 57, 52, 55, 70, 48, 65, 68, 68, 52, 65, 50, 65, 70, 57, 67, 65, 52, 55, 50, 67, 48, 66, 55, 70, 68, 57, 51, 50, 54, 51, 54, 51, 70, 70, 55, 67, 67, 51, 52, 65, 53, 69, 53, 70, 49, 55, 49, 68, 56, 51, 49, 49, 53, 48, 52, 67, 55, 50, 51, 67, 51, 49, 56, 57, 54, 48, 53, 57, 65, 48, 55, 49, 50, 56, 48, 69, 50, 69, 66, 50, 55, 66, 50, 55, 53, 48, 57, 56, 51, 50, 67, 49, 65, 49, 66, 54, 69, 53, 65, 65, 48, 53, 50, 51, 66, 68, 54, 66, 51, 50, 57, 69, 51, 50, 70, 56, 52, 53, 51, 68, 49, 48, 48, 69, 68, 50, 48, 70, 67, 66, 49, 53, 66, 54, 65, 67, 66, 66, 69, 51, 57, 52, 65, 52, 67, 53, 56, 67, 70, 68, 48, 69, 70, 65, 65, 70, 66, 52, 51, 52, 68, 51, 51, 56, 53, 52, 53, 70, 57, 48, 50, 55, 70, 53, 48, 51, 67, 57, 70, 65, 56, 53, 49, 65, 51, 52, 48, 56, 70, 57, 50, 57, 68, 51, 56, 70, 53, 66, 67, 66, 54, 68, 65, 50, 49, 49, 48, 70, 70, 70, 51, 68, 50, 67, 68, 48, 67, 49, 51, 69, 67, 53, 70, 57, 55, 52, 52, 49, 55, 67, 52, 65, 55, 55, 69, 51, 68, 54, 52, 53, 68, 49, 57, 55, 51, 54, 48, 56, 49, 52, 70, 68, 67, 50, 50, 50, 65, 57, 48, 56, 56, 52, 54, 69, 69, 66, 56, 49, 52, 68, 69, 53, 69, 48, 66, 68, 66, 69, 48, 51, 50, 51, 65, 48, 65, 52, 57, 48, 54, 50, 52, 53, 67, 67, 50, 68, 51, 65, 67, 54, 50, 57, 49, 57, 53, 69, 52, 55, 57, 69, 55, 67, 56, 51, 55, 54, 68, 56, 68, 68, 53, 52, 69, 65, 57, 54, 67, 53, 54, 70, 52, 69, 65, 54, 53, 55, 65, 65, 69, 48, 56, 66, 65, 55, 56, 50, 53, 50, 69, 49, 67, 65, 54, 66, 52, 67, 54, 69, 56, 68, 68, 55, 52, 49, 70, 52, 66, 66, 68, 56, 66, 56, 65, 55, 48, 51, 69, 66, 53, 54, 54, 52, 56, 48, 51, 70, 54, 48, 69, 54, 49, 51, 53, 53, 55, 66, 57, 56, 54, 67, 49, 49, 68, 57, 69, 69, 49, 70, 56, 57, 56, 49, 49, 54, 57, 68, 57, 56, 69, 57, 52, 57, 66, 49, 69, 56, 55, 69, 57, 67, 69, 53, 53, 50, 56, 68, 70, 56, 67, 65, 49, 56, 57, 48, 68, 66, 70, 69, 54, 52, 50, 54, 56, 52, 49, 57, 57, 50, 68, 48, 70, 66, 48, 53, 52, 66, 66, 49, 54]⟩ : ByteArray) (wrap64 ((wrap64 (2 * (wrap64 (a0)))) + 1)))).bind fun t2 => (some ((wrap64 ((wrap64 (16 * t1)) + t2)) % 256))) else (none)) else (none))) else (none)) else (none)) = some r := h
 clear h
 obtain ⟨ji2, hji2⟩ : ∃ j_ : Int, (wrap64 (2 * (wrap64 (a0)))) = j_ := ⟨_, rfl⟩
 replace H : (if 0 ≤ (ji2) then (if (ji2) < 512 then ((clavigerref02_Value.f k (bt (⟨#[54, 51, 55, 67, 55, 55, 55, 66, 70, 50, 54, 66, 54, 70, 67, 53, 51, 48, 48, 49, 54, 55, 50, 66, 70, 69, 68, 55, 65, 66, 55, 54, 67, 65, 56, 50, 67, 57, 55, 68, 70, 65, 53, 57, 52, 55, 70, 48, 65, 68, 68, 52, 65, 50, 65, 70, 57, 67, 65, 52, 55, 50, 67, 48, 66, 55, 70, 68, 57, 51, 50, 54, 51, 54, 51, 70, 70, 55, 67, 67, 51, 52, 65, 53, 69, 53, 70, 49, 55, 49, 68, 56, 51, 49, 49, 53, 48, 52, 67, 55, 50, 51, 67, 51, 49, 56, 57, 54, 48, 53, 57, 65, 48, 55, 49, 50, 56, 48, 69, 50, 69, 66, 50, 55, 66, 50, 55, 53, 48, 57, 56, 51, 50, 67, 49, 65, 49, 66, 54, 69, 53, 65, 65, 48, 53, 50, 51, 66, 68, 54, 66, 51, 50, 57, 69, 51, 50, 70, 56, 52, 53, 51, 68, 49, 48, 48, 69, 68, 50, 48, 70, 67, 66, 49, 53, 66, 54, 65, 67, 66, 66, 69, 51, 57, 52, 65, 52, 67, 53, 56, 67, 70, 68, 48, 69, 70, 65, 65, 70, 66, 52, 51, 52, 68, 51, 51, 56, 53, 52, 53, 70, 57, 48, 50, 55, 70, 53, 48, 51, 67, 57, 70, 65, 56, 53, 49, 65, 51, 52, 48, 56, 70, 57, 50, 57, 68, 51, 56, 70, 53, 66, 67, 66, 54, 68, 65, 50, 49, 49, 48, 70, 70, 70, 51, 68, 50, 67, 68, 48, 67, 49, 51, 69, 67, 53, 70, 57, 55, 52, 52, 49, 55, 67, 52, 65, 55, 55, 69, 51, 68, 54, 52, 53, 68, 49, 57, 55, 51, 54, 48, 56, 49, 52, 70, 68, 67, 50, 50, 50, 65, 57, 48, 56, 56, 52, 54, 69, 69, 66, 56, 49, 52, 68, 69, 53, 69, 48, 66, 68, 66, 69, 48, 51, 50, 51, 65, 48, 65, 52, 57, 48, 54, 50, 52, 53, 67, 67, 50, 68, 51, 65, 67, 54, 50, 57, 49, 57, 53, 69, 52, 55, 57, 69, 55, 67, 56, 51, 55, 54, 68, 56, 68, 68, 53, 52, 69, 65, 57, 54, 67, 53, 54, 70, 52, 69, 65, 54, 53, 55, 65, 65, 69, 48, 56, 66, 65, 55, 56, 50, 53, 50, 69, 49, 67, 65, 54, 66, 52, 67, 54, 69, 56, 68, 68, 55, 52, 49, 70, 52, 66, 66, 68, 56, 66, 56, 65, 55, 48, 51, 69, 66, 53, 54, 54, 52, 56, 48, 51, 70, 54, 48, 69, 54, 49, 51, 53, 53, 55, 66, 57, 56, 54, 67, 49, 49, 68, 57, 69, 69, 49, 70, 56, 57, 56, 49, 49, 54, 57, 68, 57, 56, 69, 57, 52, 57, 66, 49, 69, 56, 55, 69, 57, 67, 69, 53, 53, 50, 56, 68, 70, 56, 67, 65, 49, 56, 57, 48, 68, 66, 70, 69, 54, 52, 50, 54, 56, 52, 49, 57, 57, 50, 68, 48, 70, 66, 48, 53, 52, 66, 66, 49, 54]⟩ : ByteArray) (ji2))).bind fun t1 => (if 0 ≤ (wrap64 ((ji2) + 1)) then (if (wrap64 ((ji2) + 1)) < 512 then ((clavigerref02_Value.f k (bt (⟨#[54, 51, 55, 67, 55, 55, 55, 66, 70, 50, 54, 66, 54, 70, 67, 53, 51, 48, 48, 49, 54, 55, 50, 66, 70, 69, 68, 55, 65, 66, 55, 54, 67, 65, 56, 50, 67, 57, 55, 68, 70, 65, 53, 57, 52, 55, 70, 48, 65, 68, 68, 52, 65, 50, 65, 70, 57, 67, 65, 52, 55, 50, 67, 48, 66, 55, 70, 68, 57, 51, 50, 54, 51, 54, 51, 70, 70, 55, 67, 67, 51, 52, 65, 53, 69, 53, 70, 49, 55, 49, 68, 56, 51, 49, 49, 53, 48, 52, 67, 55, 50, 51, 67, 51, 49, 56, 57, 54, 48, 53, 57, 65, 48, 55, 49, 50, 56, 48, 69, 50, 69, 66, 50, 55, 66, 50, 55, 53, 48, 57, 56, 51, 50, 67, 49, 65, 49, 66, 54, 69, 53, 65, 65, 48, 53, 50, 51, 66, 68, 54, 66, 51, 50, 57, 69, 51, 50, 70, 56, 52, 53, 51, 68, 49, 48, 48, 69, 68, 50, 48, 70, 67, 66, 49, 53, 66, 54, 65, 67, 66, 66, 69, 51, 57, 52, 65, 52, 67, 53, 56, 67, 70, 68, 48, 69, 70, 65, 65, 70, 66, 52, 51, 52, 68, 51, 51, 56, 53, 52, 53, 70, 57, 48, 50, 55, 70, 53, 48, 51, 67, 57, 70, 65, 56, 53, 49, 65, 51, 52, 48, 56, 70, 57, 50, 57, 68, 51, 56, 70, 53, 66, 67, 66, 54, 68, 65, 50, 49, 49, 48, 70, 70, 70, 51, 68, 50, 67, 68, 48, 67, 49, 51, 69, 67, 53, 70, 57, 55, 52, 52, 49, 55, 67, 52, 65, 55, 55, 69, 51, 68, 54, 52, 53, 68, 49, 57, 55, 51, 54, 48, 56, 49, 52, 70, 68, 67, 50, 50, 50, 65, 57, 48, 56, 56, 52, 54, 69, 69, 66, 56, 49, 52, 68, 69, 53, 69, 48, 66, 68, 66, 69, 48, 51, 50, 51, 65, 48, 65, 52, 57, 48, 54, 50, 52, 53, 67, 67, 50, 68, 51, 65, 67, 54, 50, 57, 49, 57, 53, 69, 52, 55, 57, 69, 55, 67, 56, 51, 55, 54, 68, 56, 68, 68, 53, 52, 69, 65, 57, 54, 67, 53, 54, 70, 52, 69, 65, 54, 53, 55, 65, 65, 69, 48, 56, 66, 65, 55, 56, 50, 53, 50, 69, 49, 67, 65, 54, 66, 52, 67, 54, 69, 56, 68, 68, 55, 52, 49, 70, 52, 66, 66, 68, 56, 66, 56, 65, 55, 48, 51, 69, 66, 53, 54, 54, 52, 56, 48, 51, 70, 54, 48, 69, 54, 49, 51, 53, 53, 55, 66, 57, 56, 54, 67, 49, 49, 68, 57, 69, 69, 49, 70, 56, 57, 56, 49, 49, 54, 57, 68, 57, 56, 69, 57, 52, 57, 66, 49, 69, 56, 55, 69, 57, 67, 69, 53, 53, 50, 56, 68, 70, 56, 67, 65, 49, 56, 57, 48, 68, 66, 70, 69, 54, 52, 50, 54, 56, 52, 49, 57, 57, 50, 68, 48, 70, 66, 48, 53, 52, 66, 66, 49, 54]⟩ : ByteArray) (wrap64 ((ji2) + 1)))).bind fun t2 => (some ((wrap64 ((wrap64 (16 * t1)) + t2)) % 256))) else (none)) else (none))) else (none)) else (none)) = some r := by first | (rw [hji2] at H; exact H) | (simp only [hji2] at H ⊢; exact H)
 have hji2w : (IntKind.i64.wrap (2 * (wrap64 (a0)))) = ji2 := (i64_w _).trans hji2
 by_cases c3 : 0 ≤ (ji2)
 ·rw [if_pos c3] at H
  have c3b0 : decide (0 ≤ (ji2)) = true := decide_eq_true c3
  clear c3
  by_cases c4 : (ji2) < 512
  ·rw [if_pos c4] at H
   have c4b0 : decide ((ji2) < 512) = true := decide_eq_true c4
   clear c4
   replace H := Option.bind_eq_some_iff.mp H
   obtain ⟨t1, A60, H⟩ := H
   try dsimp only at H
   have A6 := Aside0.mk A60
   clear A60
   obtain ⟨ji7, hji7⟩ : ∃ j_ : Int, (wrap64 ((ji2) + 1)) = j_ := ⟨_, rfl⟩
   replace H : (if 0 ≤ (ji7) then (if (ji7) < 512 then ((clavigerref02_Value.f k (bt (⟨#[54, 51, 55, 67, 55, 55, 55, 66, 70, 50, 54, 66, 54, 70, 67, 53, 51, 48, 48, 49, 54, 55, 50, 66, 70, 69, 68, 55, 65, 66, 55, 54, 67, 65, 56, 50, 67, 57, 55, 68, 70, 65, 53, 57, 52, 55, 70, 48, 65, 68, 68, 52, 65, 50, 65, 70, 57, 67, 65, 52, 55, 50, 67, 48, 66, 55, 70, 68, 57, 51, 50, 54, 51, 54, 51, 70, 70, 55, 67, 67, 51, 52, 65, 53, 69, 53, 70, 49, 55, 49, 68, 56, 51, 49, 49, 53, 48, 52, 67, 55, 50, 51, 67, 51, 49, 56, 57, 54, 48, 53, 57, 65, 48, 55, 49, 50, 56, 48, 69, 50, 69, 66, 50, 55, 66, 50, 55, 53, 48, 57, 56, 51, 50, 67, 49, 65, 49, 66, 54, 69, 53, 65, 65, 48, 53, 50, 51, 66, 68, 54, 66, 51, 50, 57, 69, 51, 50, 70, 56, 52, 53, 51, 68, 49, 48, 48, 69, 68, 50, 48, 70, 67, 66, 49, 53, 66, 54, 65, 67, 66, 66, 69, 51, 57, 52, 65, 52, 67, 53, 56, 67, 70, 68, 48, 69, 70, 65, 65, 70, 66, 52, 51, 52, 68, 51, 51, 56, 53, 52, 53, 70, 57, 48, 50, 55, 70, 53, 48, 51, 67, 57, 70, 65, 56, 53, 49, 65, 51, 52, 48, 56, 70, 57, 50, 57, 68, 51, 56, 70, 53, 66, 67, 66, 54, 68, 65, 50, 49, 49, 48, 70, 70, 70, 51, 68, 50, 67, 68, 48, 67, 49, 51, 69, 67, 53, 70, 57, 55, 52, 52, 49, 55, 67, 52, 65, 55, 55, 69, 51, 68, 54, 52, 53, 68, 49, 57, 55, 51, 54, 48, 56, 49, 52, 70, 68, 67, 50, 50, 50, 65, 57, 48, 56, 56, 52, 54, 69, 69, 66, 56, 49, 52, 68, 69, 53, 69, 48, 66, 68, 66, 69, 48, 51, 50, 51, 65, 48, 65, 52, 57, 48, 54, 50, 52, 53, 67, 67, 50, 68, 51, 65, 67, 54, 50, 57, 49, 57, 53, 69, 52, 55, 57, 69, 55, 67, 56, 51, 55, 54, 68, 56, 68, 68, 53, 52, 69, 65, 57, 54, 67, 53, 54, 70, 52, 69, 65, 54, 53, 55, 65, 65, 69, 48, 56, 66, 65, 55, 56, 50, 53, 50, 69, 49, 67, 65, 54, 66, 52, 67, 54, 69, 56, 68, 68, 55, 52, 49, 70, 52, 66, 66, 68, 56, 66, 56, 65, 55, 48, 51, 69, 66, 53, 54, 54, 52, 56, 48, 51, 70, 54, 48, 69, 54, 49, 51, 53, 53, 55, 66, 57, 56, 54, 67, 49, 49, 68, 57, 69, 69, 49, 70, 56, 57, 56, 49, 49, 54, 57, 68, 57, 56, 69, 57, 52, 57, 66, 49, 69, 56, 55, 69, 57, 67, 69, 53, 53, 50, 56, 68, 70, 56, 67, 65, 49, 56, 57, 48, 68, 66, 70, 69, 54, 52, 50, 54, 56, 52, 49, 57, 57, 50, 68, 48, 70, 66, 48, 53, 52, 66, 66, 49, 54]⟩ : ByteArray) (ji7))).bind fun t2 => (some ((wrap64 ((wrap64 (16 * t1)) + t2)) % 256))) else (none)) else (none)) = some r := by first | (rw [hji7] at H; exact H) | (simp only [hji7] at H ⊢; exact H)
   (try rw [hji7] at A6)
   have hji7w : (IntKind.i64.wrap ((ji2) + 1)) = ji7 := (i64_w _).trans hji7
   by_cases c8 : 0 ≤ (ji7)
   ·rw [if_pos c8] at H
    have c8b0 : decide (0 ≤ (ji7)) = true := decide_eq_true c8
    clear c8
    by_cases c9 : (ji7) < 512
    ·rw [if_pos c9] at H
     have c9b0 : decide ((ji7) < 512) = true := decide_eq_true c9
     clear c9
     replace H := Option.bind_eq_some_iff.mp H
     obtain ⟨t2, A110, H⟩ := H
     try dsimp only at H
     have A11 := Aside0.mk A110
     clear A110
     obtain rfl := Option.some.inj H
     have p5 : 0 ≤ ((ji2) : Int) := of_decide_eq_true (by assumption)
     have q5 : (ji2) < (512 : Int) := of_decide_eq_true (by assumption)
     have hx5 := bt_at (⟨#[54, 51, 55, 67, 55, 55, 55, 66, 70, 50, 54, 66, 54, 70, 67, 53, 51, 48, 48, 49, 54, 55, 50, 66, 70, 69, 68, 55, 65, 66, 55, 54, 67, 65, 56, 50, 67, 57, 55, 68, 70, 65, 53, 57, 52, 55, 70, 48, 65, 68, 68, 52, 65, 50, 65, 70, 57, 67, 65, 52, 55, 50, 67, 48, 66, 55, 70, 68, 57, 51, 50, 54, 51, 54, 51, 70, 70, 55, 67, 67, 51, 52, 65, 53, 69, 53, 70, 49, 55, 49, 68, 56, 51, 49, 49, 53, 48, 52, 67, 55, 50, 51, 67, 51, 49, 56, 57, 54, 48, 53, 57, 65, 48, 55, 49, 50, 56, 48, 69, 50, 69, 66, 50, 55, 66, 50, 55, 53, 48, 57, 56, 51, 50, 67, 49, 65, 49, 66, 54, 69, 53, 65, 65, 48, 53, 50, 51, 66, 68, 54, 66, 51, 50, 57, 69, 51, 50, 70, 56, 52, 53, 51, 68, 49, 48, 48, 69, 68, 50, 48, 70, 67, 66, 49, 53, 66, 54, 65, 67, 66, 66, 69, 51, 57, 52, 65, 52, 67, 53, 56, 67, 70, 68, 48, 69, 70, 65, 65, 70, 66, 52, 51, 52, 68, 51, 51, 56, 53, 52, 53, 70, 57, 48, 50, 55, 70, 53, 48, 51, 67, 57, 70, 65, 56, 53, 49, 65, 51, 52, 48, 56, 70, 57, 50, 57, 68, 51, 56, 70, 53, 66, 67, 66, 54, 68, 65, 50, 49, 49, 48, 70, 70, 70, 51, 68, 50, 67, 68, 48, 67, 49, 51, 69, 67, 53, 70, 57, 55, 52, 52, 49, 55, 67, 52, 65, 55, 55, 69, 51, 68, 54, 52, 53, 68, 49, 57, 55, 51, 54, 48, 56, 49, 52, 70, 68, 67, 50, 50, 50, 65, 57, 48, 56, 56, 52, 54, 69, 69, 66, 56, 49, 52, 68, 69, 53, 69, 48, 66, 68, 66, 69, 48, 51, 50, 51, 65, 48, 65, 52, 57, 48, 54, 50, 52, 53, 67, 67, 50, 68, 51, 65, 67, 54, 50, 57, 49, 57, 53, 69, 52, 55, 57, 69, 55, 67, 56, 51, 55, 54, 68, 56, 68, 68, 53, 52, 69, 65, 57, 54, 67, 53, 54, 70, 52, 69, 65, 54, 53, 55, 65, 65, 69, 48, 56, 66, 65, 55, 56, 50, 53, 50, 69, 49, 67, 65, 54, 66, 52, 67, 54, 69, 56, 68, 68, 55, 52, 49, 70, 52, 66, 66, 68, 56, 66, 56, 65, 55, 48, 51, 69, 66, 53, 54, 54, 52, 56, 48, 51, 70, 54, 48, 69, 54, 49, 51, 53, 53, 55, 66, 57, 56, 54, 67, 49, 49, 68, 57, 69, 69, 49, 70, 56, 57, 56, 49, 49, 54, 57, 68, 57, 56, 69, 57, 52, 57, 66, 49, 69, 56, 55, 69, 57, 67, 69, 53, 53, 50, 56, 68, 70, 56, 67, 65, 49, 56, 57, 48, 68, 66, 70, 69, 54, 52, 50, 54, 56, 52, 49, 57, 57, 50, 68, 48, 70, 66, 48, 53, 52, 66, 66, 49, 54]⟩ : ByteArray) (ji2)
     replace p5 := eq_true p5
     replace q5 := eq_true q5
     go_enter Try.func63, Try.ntmps63
     go_wp2_with (first | (go_at_call 174; (with_reducible refine (clavigerref02_Value.calls k (bt (⟨#[54, 51, 55, 67, 55, 55, 55, 66, 70, 50, 54, 66, 54, 70, 67, 53, 51, 48, 48, 49, 54, 55, 50, 66, 70, 69, 68, 55, 65, 66, 55, 54, 67, 65, 56, 50, 67, 57, 55, 68, 70, 65, 53, 57, 52, 55, 70, 48, 65, 68, 68, 52, 65, 50, 65, 70, 57, 67, 65, 52, 55, 50, 67, 48, 66, 55, 70, 68, 57, 51, 50, 54, 51, 54, 51, 70, 70, 55, 67, 67, 51, 52, 65, 53, 69, 53, 70, 49, 55, 49, 68, 56, 51, 49, 49, 53, 48, 52, 67, 55, 50, 51, 67, 51, 49, 56, 57, 54, 48, 53, 57, 65, 48, 55, 49, 50, 56, 48, 69, 50, 69, 66, 50, 55, 66, 50, 55, 53, 48, 57, 56, 51, 50, 67, 49, 65, 49, 66, 54, 69, 53, 65, 65, 48, 53, 50, 51, 66, 68, 54, 66, 51, 50, 57, 69, 51, 50, 70, 56, 52, 53, 51, 68, 49, 48, 48, 69, 68, 50, 48, 70, 67, 66, 49, 53, 66, 54, 65, 67, 66, 66, 69, 51, 57, 52, 65, 52, 67, 53, 56, 67, 70, 68, 48, 69, 70, 65, 65, 70, 66, 52, 51, 52, 68, 51, 51, 56, 53, 52, 53, 70, 57, 48, 50, 55, 70, 53, 48, 51, 67, 57, 70, 65, 56, 53, 49, 65, 51, 52, 48, 56, 70, 57, 50, 57, 68, 51, 56, 70, 53, 66, 67, 66, 54, 68, 65, 50, 49, 49, 48, 70, 70, 70, 51, 68, 50, 67, 68, 48, 67, 49, 51, 69, 67, 53, 70, 57, 55, 52, 52, 49, 55, 67, 52, 65, 55, 55, 69, 51, 68, 54, 52, 53, 68, 49, 57, 55, 51, 54, 48, 56, 49, 52, 70, 68, 67, 50, 50, 50, 65, 57, 48, 56, 56, 52, 54, 69, 69, 66, 56, 49, 52, 68, 69, 53, 69, 48, 66, 68, 66, 69, 48, 51, 50, 51, 65, 48, 65, 52, 57, 48, 54, 50, 52, 53, 67, 67, 50, 68, 51, 65, 67, 54, 50, 57, 49, 57, 53, 69, 52, 55, 57, 69, 55, 67, 56, 51, 55, 54, 68, 56, 68, 68, 53, 52, 69, 65, 57, 54, 67, 53, 54, 70, 52, 69, 65, 54, 53, 55, 65, 65, 69, 48, 56, 66, 65, 55, 56, 50, 53, 50, 69, 49, 67, 65, 54, 66, 52, 67, 54, 69, 56, 68, 68, 55, 52, 49, 70, 52, 66, 66, 68, 56, 66, 56, 65, 55, 48, 51, 69, 66, 53, 54, 54, 52, 56, 48, 51, 70, 54, 48, 69, 54, 49, 51, 53, 53, 55, 66, 57, 56, 54, 67, 49, 49, 68, 57, 69, 69, 49, 70, 56, 57, 56, 49, 49, 54, 57, 68, 57, 56, 69, 57, 52, 57, 66, 49, 69, 56, 55, 69, 57, 67, 69, 53, 53, 50, 56, 68, 70, 56, 67, 65, 49, 56, 57, 48, 68, 66, 70, 69, 54, 52, 50, 54, 56, 52, 49, 57, 57, 50, 68, 48, 70, 66, 48, 53, 52, 66, 66, 49, 54]⟩ : ByteArray) (ji2)) t1 _ A6.out).mono ?_); rintro e w' ⟨rfl, ⟨nd, rfl⟩⟩; (try first | exact ⟨rfl, _, World.drewN_drewN _ _ _⟩ | exact ⟨rfl, _, Eq.trans (World.drewN_drewN _ _ _) (congrArg (World.drewN _) (Nat.add_assoc _ _ _))⟩); have p10 : 0 ≤ ((ji7) : Int) := of_decide_eq_true (by assumption); have q10 : (ji7) < (512 : Int) := of_decide_eq_true (by assumption); have hx10 := bt_at (⟨#[54, 51, 55, 67, 55, 55, 55, 66, 70, 50, 54, 66, 54, 70, 67, 53, 51, 48, 48, 49, 54, 55, 50, 66, 70, 69, 68, 55, 65, 66, 55, 54, 67, 65, 56, 50, 67, 57, 55, 68, 70, 65, 53, 57, 52, 55, 70, 48, 65, 68, 68, 52, 65, 50, 65, 70, 57, 67, 65, 52, 55, 50, 67, 48, 66, 55, 70, 68, 57, 51, 50, 54, 51, 54, 51, 70, 70, 55, 67, 67, 51, 52, 65, 53, 69, 53, 70, 49, 55, 49, 68, 56, 51, 49, 49, 53, 48, 52, 67, 55, 50, 51, 67, 51, 49, 56, 57, 54, 48, 53, 57, 65, 48, 55, 49, 50, 56, 48, 69, 50, 69, 66, 50, 55, 66, 50, 55, 53, 48, 57, 56, 51, 50, 67, 49, 65, 49, 66, 54, 69, 53, 65, 65, 48, 53, 50, 51, 66, 68, 54, 66, 51, 50, 57, 69, 51, 50, 70, 56, 52, 53, 51, 68, 49, 48, 48, 69, 68, 50, 48, 70, 67, 66, 49, 53, 66, 54, 65, 67, 66, 66, 69, 51, 57, 52, 65, 52, 67, 53, 56, 67, 70, 68, 48, 69, 70, 65, 65, 70, 66, 52, 51, 52, 68, 51, 51, 56, 53, 52, 53, 70, 57, 48, 50, 55, 70, 53, 48, 51, 67, 57, 70, 65, 56, 53, 49, 65, 51, 52, 48, 56, 70, 57, 50, 57, 68, 51, 56, 70, 53, 66, 67, 66, 54, 68, 65, 50, 49, 49, 48, 70, 70, 70, 51, 68, 50, 67, 68, 48, 67, 49, 51, 69, 67, 53, 70, 57, 55, 52, 52, 49, 55, 67, 52, 65, 55, 55, 69, 51, 68, 54, 52, 53, 68, 49, 57, 55, 51, 54, 48, 56, 49, 52, 70, 68, 67, 50, 50, 50, 65, 57, 48, 56, 56, 52, 54, 69, 69, 66, 56, 49, 52, 68, 69, 53, 69, 48, 66, 68, 66, 69, 48, 51, 50, 51, 65, 48, 65, 52, 57, 48, 54, 50, 52, 53, 67, 67, 50, 68, 51, 65, 67, 54, 50, 57, 49, 57, 53, 69, 52, 55, 57, 69, 55, 67, 56, 51, 55, 54, 68, 56, 68, 68, 53, 52, 69, 65, 57, 54, 67, 53, 54, 70, 52, 69, 65, 54, 53, 55, 65, 65, 69, 48, 56, 66, 65, 55, 56, 50, 53, 50, 69, 49, 67, 65, 54, 66, 52, 67, 54, 69, 56, 68, 68, 55, 52, 49, 70, 52, 66, 66, 68, 56, 66, 56, 65, 55, 48, 51, 69, 66, 53, 54, 54, 52, 56, 48, 51, 70, 54, 48, 69, 54, 49, 51, 53, 53, 55, 66, 57, 56, 54, 67, 49, 49, 68, 57, 69, 69, 49, 70, 56, 57, 56, 49, 49, 54, 57, 68, 57, 56, 69, 57, 52, 57, 66, 49, 69, 56, 55, 69, 57, 67, 69, 53, 53, 50, 56, 68, 70, 56, 67, 65, 49, 56, 57, 48, 68, 66, 70, 69, 54, 52, 50, 54, 56, 52, 49, 57, 57, 50, 68, 48, 70, 66, 48, 53, 52, 66, 66, 49, 54]⟩ : ByteArray) (ji7); replace p10 := eq_true p10; replace q10 := eq_true q10) | (go_at_call 174; (with_reducible refine (clavigerref02_Value.calls k (bt (⟨#[54, 51, 55, 67, 55, 55, 55, 66, 70, 50, 54, 66, 54, 70, 67, 53, 51, 48, 48, 49, 54, 55, 50, 66, 70, 69, 68, 55, 65, 66, 55, 54, 67, 65, 56, 50, 67, 57, 55, 68, 70, 65, 53, 57, 52, 55, 70, 48, 65, 68, 68, 52, 65, 50, 65, 70, 57, 67, 65, 52, 55, 50, 67, 48, 66, 55, 70, 68, 57, 51, 50, 54, 51, 54, 51, 70, 70, 55, 67, 67, 51, 52, 65, 53, 69, 53, 70, 49, 55, 49, 68, 56, 51, 49, 49, 53, 48, 52, 67, 55, 50, 51, 67, 51, 49, 56, 57, 54, 48, 53, 57, 65, 48, 55, 49, 50, 56, 48, 69, 50, 69, 66, 50, 55, 66, 50, 55, 53, 48, 57, 56, 51, 50, 67, 49, 65, 49, 66, 54, 69, 53, 65, 65, 48, 53, 50, 51, 66, 68, 54, 66, 51, 50, 57, 69, 51, 50, 70, 56, 52, 53, 51, 68, 49, 48, 48, 69, 68, 50, 48, 70, 67, 66, 49, 53, 66, 54, 65, 67, 66, 66, 69, 51, 57, 52, 65, 52, 67, 53, 56, 67, 70, 68, 48, 69, 70, 65, 65, 70, 66, 52, 51, 52, 68, 51, 51, 56, 53, 52, 53, 70, 57, 48, 50, 55, 70, 53, 48, 51, 67, 57, 70, 65, 56, 53, 49, 65, 51, 52, 48, 56, 70, 57, 50, 57, 68, 51, 56, 70, 53, 66, 67, 66, 54, 68, 65, 50, 49, 49, 48, 70, 70, 70, 51, 68, 50, 67, 68, 48, 67, 49, 51, 69, 67, 53, 70, 57, 55, 52, 52, 49, 55, 67, 52, 65, 55, 55, 69, 51, 68, 54, 52, 53, 68, 49, 57, 55, 51, 54, 48, 56, 49, 52, 70, 68, 67, 50, 50, 50, 65, 57, 48, 56, 56, 52, 54, 69, 69, 66, 56, 49, 52, 68, 69, 53, 69, 48, 66, 68, 66, 69, 48, 51, 50, 51, 65, 48, 65, 52, 57, 48, 54, 50, 52, 53, 67, 67, 50, 68, 51, 65, 67, 54, 50, 57, 49, 57, 53, 69, 52, 55, 57, 69, 55, 67, 56, 51, 55, 54, 68, 56, 68, 68, 53, 52, 69, 65, 57, 54, 67, 53, 54, 70, 52, 69, 65, 54, 53, 55, 65, 65, 69, 48, 56, 66, 65, 55, 56, 50, 53, 50, 69, 49, 67, 65, 54, 66, 52, 67, 54, 69, 56, 68, 68, 55, 52, 49, 70, 52, 66, 66, 68, 56, 66, 56, 65, 55, 48, 51, 69, 66, 53, 54, 54, 52, 56, 48, 51, 70, 54, 48, 69, 54, 49, 51, 53, 53, 55, 66, 57, 56, 54, 67, 49, 49, 68, 57, 69, 69, 49, 70, 56, 57, 56, 49, 49, 54, 57, 68, 57, 56, 69, 57, 52, 57, 66, 49, 69, 56, 55, 69, 57, 67, 69, 53, 53, 50, 56, 68, 70, 56, 67, 65, 49, 56, 57, 48, 68, 66, 70, 69, 54, 52, 50, 54, 56, 52, 49, 57, 57, 50, 68, 48, 70, 66, 48, 53, 52, 66, 66, 49, 54]⟩ : ByteArray) (ji7)) t2 _ A11.out).mono ?_); rintro e w' ⟨rfl, ⟨nd, rfl⟩⟩; (try first | exact ⟨rfl, _, World.drewN_drewN _ _ _⟩ | exact ⟨rfl, _, Eq.trans (World.drewN_drewN _ _ _) (congrArg (World.drewN _) (Nat.add_assoc _ _ _))⟩)))
     repeat (go_quiet (first | (go_at_call 174; (with_reducible refine (clavigerref02_Value.calls k (bt (⟨#[54, 51, 55, 67, 55, 55, 55, 66, 70, 50, 54, 66, 54, 70, 67, 53, 51, 48, 48, 49, 54, 55, 50, 66, 70, 69, 68, 55, 65, 66, 55, 54, 67, 65, 56, 50, 67, 57, 55, 68, 70, 65, 53, 57, 52, 55, 70, 48, 65, 68, 68, 52, 65, 50, 65, 70, 57, 67, 65, 52, 55, 50, 67, 48, 66, 55, 70, 68, 57, 51, 50, 54, 51, 54, 51, 70, 70, 55, 67, 67, 51, 52, 65, 53, 69, 53, 70, 49, 55, 49, 68, 56, 51, 49, 49, 53, 48, 52, 67, 55, 50, 51, 67, 51, 49, 56, 57, 54, 48, 53, 57, 65, 48, 55, 49, 50, 56, 48, 69, 50, 69, 66, 50, 55, 66, 50, 55, 53, 48, 57, 56, 51, 50, 67, 49, 65, 49, 66, 54, 69, 53, 65, 65, 48, 53, 50, 51, 66, 68, 54, 66, 51, 50, 57, 69, 51, 50, 70, 56, 52, 53, 51, 68, 49, 48, 48, 69, 68, 50, 48, 70, 67, 66, 49, 53, 66, 54, 65, 67, 66, 66, 69, 51, 57, 52, 65, 52, 67, 53, 56, 67, 70, 68, 48, 69, 70, 65, 65, 70, 66, 52, 51, 52, 68, 51, 51, 56, 53, 52, 53, 70, 57, 48, 50, 55, 70, 53, 48, 51, 67, 57, 70, 65, 56, 53, 49, 65, 51, 52, 48, 56, 70, 57, 50, 57, 68, 51, 56, 70, 53, 66, 67, 66, 54, 68, 65, 50, 49, 49, 48, 70, 70, 70, 51, 68, 50, 67, 68, 48, 67, 49, 51, 69, 67, 53, 70, 57, 55, 52, 52, 49, 55, 67, 52, 65, 55, 55, 69, 51, 68, 54, 52, 53, 68, 49, 57, 55, 51, 54, 48, 56, 49, 52, 70, 68, 67, 50, 50, 50, 65, 57, 48, 56, 56, 52, 54, 69, 69, 66, 56, 49, 52, 68, 69, 53, 69, 48, 66, 68, 66, 69, 48, 51, 50, 51, 65, 48, 65, 52, 57, 48, 54, 50, 52, 53, 67, 67, 50, 68, 51, 65, 67, 54, 50, 57, 49, 57, 53, 69, 52, 55, 57, 69, 55, 67, 56, 51, 55, 54, 68, 56, 68, 68, 53, 52, 69, 65, 57, 54, 67, 53, 54, 70, 52, 69, 65, 54, 53, 55, 65, 65, 69, 48, 56, 66, 65, 55, 56, 50, 53, 50, 69, 49, 67, 65, 54, 66, 52, 67, 54, 69, 56, 68, 68, 55, 52, 49, 70, 52, 66, 66, 68, 56, 66, 56, 65, 55, 48, 51, 69, 66, 53, 54, 54, 52, 56, 48, 51, 70, 54, 48, 69, 54, 49, 51, 53, 53, 55, 66, 57, 56, 54, 67, 49, 49, 68, 57, 69, 69, 49, 70, 56, 57, 56, 49, 49, 54, 57, 68, 57, 56, 69, 57, 52, 57, 66, 49, 69, 56, 55, 69, 57, 67, 69, 53, 53, 50, 56, 68, 70, 56, 67, 65, 49, 56, 57, 48, 68, 66, 70, 69, 54, 52, 50, 54, 56, 52, 49, 57, 57, 50, 68, 48, 70, 66, 48, 53, 52, 66, 66, 49, 54]⟩ : ByteArray) (ji2)) t1 _ A6.out).mono ?_); rintro e w' ⟨rfl, ⟨nd, rfl⟩⟩; (try first | exact ⟨rfl, _, World.drewN_drewN _ _ _⟩ | exact ⟨rfl, _, Eq.trans (World.drewN_drewN _ _ _) (congrArg (World.drewN _) (Nat.add_assoc _ _ _))⟩); have p10 : 0 ≤ ((ji7) : Int) := of_decide_eq_true (by assumption); have q10 : (ji7) < (512 : Int) := of_decide_eq_true (by assumption); have hx10 := bt_at (⟨#[54, 51, 55, 67, 55, 55, 55, 66, 70, 50, 54, 66, 54, 70, 67, 53, 51, 48, 48, 49, 54, 55, 50, 66, 70, 69, 68, 55, 65, 66, 55, 54, 67, 65, 56, 50, 67, 57, 55, 68, 70, 65, 53, 57, 52, 55, 70, 48, 65, 68, 68, 52, 65, 50, 65, 70, 57, 67, 65, 52, 55, 50, 67, 48, 66, 55, 70, 68, 57, 51, 50, 54, 51, 54, 51, 70, 70, 55, 67, 67, 51, 52, 65, 53, 69, 53, 70, 49, 55, 49, 68, 56, 51, 49, 49, 53, 48, 52, 67, 55, 50, 51, 67, 51, 49, 56, 57, 54, 48, 53, 57, 65, 48, 55, 49, 50, 56, 48, 69, 50, 69, 66, 50, 55, 66, 50, 55, 53, 48, 57, 56, 51, 50, 67, 49, 65, 49, 66, 54, 69, 53, 65, 65, 48, 53, 50, 51, 66, 68, 54, 66, 51, 50, 57, 69, 51, 50, 70, 56, 52, 53, 51, 68, 49, 48, 48, 69, 68, 50, 48, 70, 67, 66, 49, 53, 66, 54, 65, 67, 66, 66, 69, 51, 57, 52, 65, 52, 67, 53, 56, 67, 70, 68, 48, 69, 70, 65, 65, 70, 66, 52, 51, 52, 68, 51, 51, 56, 53, 52, 53, 70, 57, 48, 50, 55, 70, 53, 48, 51, 67, 57, 70, 65, 56, 53, 49, 65, 51, 52, 48, 56, 70, 57, 50, 57, 68, 51, 56, 70, 53, 66, 67, 66, 54, 68, 65, 50, 49, 49, 48, 70, 70, 70, 51, 68, 50, 67, 68, 48, 67, 49, 51, 69, 67, 53, 70, 57, 55, 52, 52, 49, 55, 67, 52, 65, 55, 55, 69, 51, 68, 54, 52, 53, 68, 49, 57, 55, 51, 54, 48, 56, 49, 52, 70, 68, 67, 50, 50, 50, 65, 57, 48, 56, 56, 52, 54, 69, 69, 66, 56, 49, 52, 68, 69, 53, 69, 48, 66, 68, 66, 69, 48, 51, 50, 51, 65, 48, 65, 52, 57, 48, 54, 50, 52, 53, 67, 67, 50, 68, 51, 65, 67, 54, 50, 57, 49, 57, 53, 69, 52, 55, 57, 69, 55, 67, 56, 51, 55, 54, 68, 56, 68, 68, 53, 52, 69, 65, 57, 54, 67, 53, 54, 70, 52, 69, 65, 54, 53, 55, 65, 65, 69, 48, 56, 66, 65, 55, 56, 50, 53, 50, 69, 49, 67, 65, 54, 66, 52, 67, 54, 69, 56, 68, 68, 55, 52, 49, 70, 52, 66, 66, 68, 56, 66, 56, 65, 55, 48, 51, 69, 66, 53, 54, 54, 52, 56, 48, 51, 70, 54, 48, 69, 54, 49, 51, 53, 53, 55, 66, 57, 56, 54, 67, 49, 49, 68, 57, 69, 69, 49, 70, 56, 57, 56, 49, 49, 54, 57, 68, 57, 56, 69, 57, 52, 57, 66, 49, 69, 56, 55, 69, 57, 67, 69, 53, 53, 50, 56, 68, 70, 56, 67, 65, 49, 56, 57, 48, 68, 66, 70, 69, 54, 52, 50, 54, 56, 52, 49, 57, 57, 50, 68, 48, 70, 66, 48, 53, 52, 66, 66, 49, 54]⟩ : ByteArray) (ji7); replace p10 := eq_true p10; replace q10 := eq_true q10) | (go_at_call 174; (with_reducible refine (clavigerref02_Value.calls k (bt (⟨#[54, 51, 55, 67, 55, 55, 55, 66, 70, 50, 54, 66, 54, 70, 67, 53, 51, 48, 48, 49, 54, 55, 50, 66, 70, 69, 68, 55, 65, 66, 55, 54, 67, 65, 56, 50, 67, 57, 55, 68, 70, 65, 53, 57, 52, 55, 70, 48, 65, 68, 68, 52, 65, 50, 65, 70, 57, 67, 65, 52, 55, 50, 67, 48, 66, 55, 70, 68, 57, 51, 50, 54, 51, 54, 51, 70, 70, 55, 67, 67, 51, 52, 65, 53, 69, 53, 70, 49, 55, 49, 68, 56, 51, 49, 49, 53, 48, 52, 67, 55, 50, 51, 67, 51, 49, 56, 57, 54, 48, 53, 57, 65, 48, 55, 49, 50, 56, 48, 69, 50, 69, 66, 50, 55, 66, 50, 55, 53, 48, 57, 56, 51, 50, 67, 49, 65, 49, 66, 54, 69, 53, 65, 65, 48, 53, 50, 51, 66, 68, 54, 66, 51, 50, 57, 69, 51, 50, 70, 56, 52, 53, 51, 68, 49, 48, 48, 69, 68, 50, 48, 70, 67, 66, 49, 53, 66, 54, 65, 67, 66, 66, 69, 51, 57, 52, 65, 52, 67, 53, 56, 67, 70, 68, 48, 69, 70, 65, 65, 70, 66, 52, 51, 52, 68, 51, 51, 56, 53, 52, 53, 70, 57, 48, 50, 55, 70, 53, 48, 51, 67, 57, 70, 65, 56, 53, 49, 65, 51, 52, 48, 56, 70, 57, 50, 57, 68, 51, 56, 70, 53, 66, 67, 66, 54, 68, 65, 50, 49, 49, 48, 70, 70, 70, 51, 68, 50, 67, 68, 48, 67, 49, 51, 69, 67, 53, 70, 57, 55, 52, 52, 49, 55, 67, 52, 65, 55, 55, 69, 51, 68, 54, 52, 53, 68, 49, 57, 55, 51, 54, 48, 56, 49, 52, 70, 68, 67, 50, 50, 50, 65, 57, 48, 56, 56, 52, 54, 69, 69, 66, 56, 49, 52, 68, 69, 53, 69, 48, 66, 68, 66, 69, 48, 51, 50, 51, 65, 48, 65, 52, 57, 48, 54, 50, 52, 53, 67, 67, 50, 68, 51, 65, 67, 54, 50, 57, 49, 57, 53, 69, 52, 55, 57, 69, 55, 67, 56, 51, 55, 54, 68, 56, 68, 68, 53, 52, 69, 65, 57, 54, 67, 53, 54, 70, 52, 69, 65, 54, 53, 55, 65, 65, 69, 48, 56, 66, 65, 55, 56, 50, 53, 50, 69, 49, 67, 65, 54, 66, 52, 67, 54, 69, 56, 68, 68, 55, 52, 49, 70, 52, 66, 66, 68, 56, 66, 56, 65, 55, 48, 51, 69, 66, 53, 54, 54, 52, 56, 48, 51, 70, 54, 48, 69, 54, 49, 51, 53, 53, 55, 66, 57, 56, 54, 67, 49, 49, 68, 57, 69, 69, 49, 70, 56, 57, 56, 49, 49, 54, 57, 68, 57, 56, 69, 57, 52, 57, 66, 49, 69, 56, 55, 69, 57, 67, 69, 53, 53, 50, 56, 68, 70, 56, 67, 65, 49, 56, 57, 48, 68, 66, 70, 69, 54, 52, 50, 54, 56, 52, 49, 57, 57, 50, 68, 48, 70, 66, 48, 53, 52, 66, 66, 49, 54]⟩ : ByteArray) (ji7)) t2 _ A11.out).mono ?_); rintro e w' ⟨rfl, ⟨nd, rfl⟩⟩; (try first | exact ⟨rfl, _, World.drewN_drewN _ _ _⟩ | exact ⟨rfl, _, Eq.trans (World.drewN_drewN _ _ _) (congrArg (World.drewN _) (Nat.add_assoc _ _ _))⟩))); try go_wp2_with (first | (go_at_call 174; (with_reducible refine (clavigerref02_Value.calls k (bt (⟨#[54, 51, 55, 67, 55, 55, 55, 66, 70, 50, 54, 66, 54, 70, 67, 53, 51, 48, 48, 49, 54, 55, 50, 66, 70, 69, 68, 55, 65, 66, 55, 54, 67, 65, 56, 50, 67, 57, 55, 68, 70, 65, 53, 57, 52, 55, 70, 48, 65, 68, 68, 52, 65, 50, 65, 70, 57, 67, 65, 52, 55, 50, 67, 48, 66, 55, 70, 68, 57, 51, 50, 54, 51, 54, 51, 70, 70, 55, 67, 67, 51, 52, 65, 53, 69, 53, 70, 49, 55, 49, 68, 56, 51, 49, 49, 53, 48, 52, 67, 55, 50, 51, 67, 51, 49, 56, 57, 54, 48, 53, 57, 65, 48, 55, 49, 50, 56, 48, 69, 50, 69, 66, 50, 55, 66, 50, 55, 53, 48, 57, 56, 51, 50, 67, 49, 65, 49, 66, 54, 69, 53, 65, 65, 48, 53, 50, 51, 66, 68, 54, 66, 51, 50, 57, 69, 51, 50, 70, 56, 52, 53, 51, 68, 49, 48, 48, 69, 68, 50, 48, 70, 67, 66, 49, 53, 66, 54, 65, 67, 66, 66, 69, 51, 57, 52, 65, 52, 67, 53, 56, 67, 70, 68, 48, 69, 70, 65, 65, 70, 66, 52, 51, 52, 68, 51, 51, 56, 53, 52, 53, 70, 57, 48, 50, 55, 70, 53, 48, 51, 67, 57, 70, 65, 56, 53, 49, 65, 51, 52, 48, 56, 70, 57, 50, 57, 68, 51, 56, 70, 53, 66, 67, 66, 54, 68, 65, 50, 49, 49, 48, 70, 70, 70, 51, 68, 50, 67, 68, 48, 67, 49, 51, 69, 67, 53, 70, 57, 55, 52, 52, 49, 55, 67, 52, 65, 55, 55, 69, 51, 68, 54, 52, 53, 68, 49, 57, 55, 51, 54, 48, 56, 49, 52, 70, 68, 67, 50, 50, 50, 65, 57, 48, 56, 56, 52, 54, 69, 69, 66, 56, 49, 52, 68, 69, 53, 69, 48, 66, 68, 66, 69, 48, 51, 50, 51, 65, 48, 65, 52, 57, 48, 54, 50, 52, 53, 67, 67, 50, 68, 51, 65, 67, 54, 50, 57, 49, 57, 53, 69, 52, 55, 57, 69, 55, 67, 56, 51, 55, 54, 68, 56, 68, 68, 53, 52, 69, 65, 57, 54, 67, 53, 54, 70, 52, 69, 65, 54, 53, 55, 65, 65, 69, 48, 56, 66, 65, 55, 56, 50, 53, 50, 69, 49, 67, 65, 54, 66, 52, 67, 54, 69, 56, 68, 68, 55, 52, 49, 70, 52, 66, 66, 68, 56, 66, 56, 65, 55, 48, 51, 69, 66, 53, 54, 54, 52, 56, 48, 51, 70, 54, 48, 69, 54, 49, 51, 53, 53, 55, 66, 57, 56, 54, 67, 49, 49, 68, 57, 69, 69, 49, 70, 56, 57, 56, 49, 49, 54, 57, 68, 57, 56, 69, 57, 52, 57, 66, 49, 69, 56, 55, 69, 57, 67, 69, 53, 53, 50, 56, 68, 70, 56, 67, 65, 49, 56, 57, 48, 68, 66, 70, 69, 54, 52, 50, 54, 56, 52, 49, 57, 57, 50, 68, 48, 70, 66, 48, 53, 52, 66, 66, 49, 54]⟩ : ByteArray) (ji2)) t1 _ A6.out).mono ?_); rintro e w' ⟨rfl, ⟨nd, rfl⟩⟩; (try first | exact ⟨rfl, _, World.drewN_drewN _ _ _⟩ | exact ⟨rfl, _, Eq.trans (World.drewN_drewN _ _ _) (congrArg (World.drewN _) (Nat.add_assoc _ _ _))⟩); have p10 : 0 ≤ ((ji7) : Int) := of_decide_eq_true (by assumption); have q10 : (ji7) < (512 : Int) := of_decide_eq_true (by assumption); have hx10 := bt_at (⟨#[54, 51, 55, 67, 55, 55, 55, 66, 70, 50, 54, 66, 54, 70, 67, 53, 51, 48, 48, 49, 54, 55, 50, 66, 70, 69, 68, 55, 65, 66, 55, 54, 67, 65, 56, 50, 67, 57, 55, 68, 70, 65, 53, 57, 52, 55, 70, 48, 65, 68, 68, 52, 65, 50, 65, 70, 57, 67, 65, 52, 55, 50, 67, 48, 66, 55, 70, 68, 57, 51, 50, 54, 51, 54, 51, 70, 70, 55, 67, 67, 51, 52, 65, 53, 69, 53, 70, 49, 55, 49, 68, 56, 51, 49, 49, 53, 48, 52, 67, 55, 50, 51, 67, 51, 49, 56, 57, 54, 48, 53, 57, 65, 48, 55, 49, 50, 56, 48, 69, 50, 69, 66, 50, 55, 66, 50, 55, 53, 48, 57, 56, 51, 50, 67, 49, 65, 49, 66, 54, 69, 53, 65, 65, 48, 53, 50, 51, 66, 68, 54, 66, 51, 50, 57, 69, 51, 50, 70, 56, 52, 53, 51, 68, 49, 48, 48, 69, 68, 50, 48, 70, 67, 66, 49, 53, 66, 54, 65, 67, 66, 66, 69, 51, 57, 52, 65, 52, 67, 53, 56, 67, 70, 68, 48, 69, 70, 65, 65, 70, 66, 52, 51, 52, 68, 51, 51, 56, 53, 52, 53, 70, 57, 48, 50, 55, 70, 53, 48, 51, 67, 57, 70, 65, 56, 53, 49, 65, 51, 52, 48, 56, 70, 57, 50, 57, 68, 51, 56, 70, 53, 66, 67, 66, 54, 68, 65, 50, 49, 49, 48, 70, 70, 70, 51, 68, 50, 67, 68, 48, 67, 49, 51, 69, 67, 53, 70, 57, 55, 52, 52, 49, 55, 67, 52, 65, 55, 55, 69, 51, 68, 54, 52, 53, 68, 49, 57, 55, 51, 54, 48, 56, 49, 52, 70, 68, 67, 50, 50, 50, 65, 57, 48, 56, 56, 52, 54, 69, 69, 66, 56, 49, 52, 68, 69, 53, 69, 48, 66, 68, 66, 69, 48, 51, 50, 51, 65, 48, 65, 52, 57, 48, 54, 50, 52, 53, 67, 67, 50, 68, 51, 65, 67, 54, 50, 57, 49, 57, 53, 69, 52, 55, 57, 69, 55, 67, 56, 51, 55, 54, 68, 56, 68, 68, 53, 52, 69, 65, 57, 54, 67, 53, 54, 70, 52, 69, 65, 54, 53, 55, 65, 65, 69, 48, 56, 66, 65, 55, 56, 50, 53, 50, 69, 49, 67, 65, 54, 66, 52, 67, 54, 69, 56, 68, 68, 55, 52, 49, 70, 52, 66, 66, 68, 56, 66, 56, 65, 55, 48, 51, 69, 66, 53, 54, 54, 52, 56, 48, 51, 70, 54, 48, 69, 54, 49, 51, 53, 53, 55, 66, 57, 56, 54, 67, 49, 49, 68, 57, 69, 69, 49, 70, 56, 57, 56, 49, 49, 54, 57, 68, 57, 56, 69, 57, 52, 57, 66, 49, 69, 56, 55, 69, 57, 67, 69, 53, 53, 50, 56, 68, 70, 56, 67, 65, 49, 56, 57, 48, 68, 66, 70, 69, 54, 52, 50, 54, 56, 52, 49, 57, 57, 50, 68, 48, 70, 66, 48, 53, 52, 66, 66, 49, 54]⟩ : ByteArray) (ji7); replace p10 := eq_true p10; replace q10 := eq_true q10) | (go_at_call 174; (with_reducible refine (clavigerref02_Value.calls k (bt (⟨#[54, 51, 55, 67, 55, 55, 55, 66, 70, 50, 54, 66, 54, 70, 67, 53, 51, 48, 48, 49, 54, 55, 50, 66, 70, 69, 68, 55, 65, 66, 55, 54, 67, 65, 56, 50, 67, 57, 55, 68, 70, 65, 53, 57, 52, 55, 70, 48, 65, 68, 68, 52, 65, 50, 65, 70, 57, 67, 65, 52, 55, 50, 67, 48, 66, 55, 70, 68, 57, 51, 50, 54, 51, 54, 51, 70, 70, 55, 67, 67, 51, 52, 65, 53, 69, 53, 70, 49, 55, 49, 68, 56, 51, 49, 49, 53, 48, 52, 67, 55, 50, 51, 67, 51, 49, 56, 57, 54, 48, 53, 57, 65, 48, 55, 49, 50, 56, 48, 69, 50, 69, 66, 50, 55, 66, 50, 55, 53, 48, 57, 56, 51, 50, 67, 49, 65, 49, 66, 54, 69, 53, 65, 65, 48, 53, 50, 51, 66, 68, 54, 66, 51, 50, 57, 69, 51, 50, 70, 56, 52, 53, 51, 68, 49, 48, 48, 69, 68, 50, 48, 70, 67, 66, 49, 53, 66, 54, 65, 67, 66, 66, 69, 51, 57, 52, 65, 52, 67, 53, 56, 67, 70, 68, 48, 69, 70, 65, 65, 70, 66, 52, 51, 52, 68, 51, 51, 56, 53, 52, 53, 70, 57, 48, 50, 55, 70, 53, 48, 51, 67, 57, 70, 65, 56, 53, 49, 65, 51, 52, 48, 56, 70, 57, 50, 57, 68, 51, 56, 70, 53, 66, 67, 66, 54, 68, 65, 50, 49, 49, 48, 70, 70, 70, 51, 68, 50, 67, 68, 48, 67, 49, 51, 69, 67, 53, 70, 57, 55, 52, 52, 49, 55, 67, 52, 65, 55, 55, 69, 51, 68, 54, 52, 53, 68, 49, 57, 55, 51, 54, 48, 56, 49, 52, 70, 68, 67, 50, 50, 50, 65, 57, 48, 56, 56, 52, 54, 69, 69, 66, 56, 49, 52, 68, 69, 53, 69, 48, 66, 68, 66, 69, 48, 51, 50, 51, 65, 48, 65, 52, 57, 48, 54, 50, 52, 53, 67, 67, 50, 68, 51, 65, 67, 54, 50, 57, 49, 57, 53, 69, 52, 55, 57, 69, 55, 67, 56, 51, 55, 54, 68, 56, 68, 68, 53, 52, 69, 65, 57, 54, 67, 53, 54, 70, 52, 69, 65, 54, 53, 55, 65, 65, 69, 48, 56, 66, 65, 55, 56, 50, 53, 50, 69, 49, 67, 65, 54, 66, 52, 67, 54, 69, 56, 68, 68, 55, 52, 49, 70, 52, 66, 66, 68, 56, 66, 56, 65, 55, 48, 51, 69, 66, 53, 54, 54, 52, 56, 48, 51, 70, 54, 48, 69, 54, 49, 51, 53, 53, 55, 66, 57, 56, 54, 67, 49, 49, 68, 57, 69, 69, 49, 70, 56, 57, 56, 49, 49, 54, 57, 68, 57, 56, 69, 57, 52, 57, 66, 49, 69, 56, 55, 69, 57, 67, 69, 53, 53, 50, 56, 68, 70, 56, 67, 65, 49, 56, 57, 48, 68, 66, 70, 69, 54, 52, 50, 54, 56, 52, 49, 57, 57, 50, 68, 48, 70, 66, 48, 53, 52, 66, 66, 49, 54]⟩ : ByteArray) (ji7)) t2 _ A11.out).mono ?_); rintro e w' ⟨rfl, ⟨nd, rfl⟩⟩; (try first | exact ⟨rfl, _, World.drewN_drewN _ _ _⟩ | exact ⟨rfl, _, Eq.trans (World.drewN_drewN _ _ _) (congrArg (World.drewN _) (Nat.add_assoc _ _ _))⟩))))
     go_ret
     exact ⟨by first | rfl | (simp; done) | (simp only [← hji2, ← hji7] <;> (first | rfl | (simp; done) | (simp [IntKind.wrap_u8, IntKind.wrap_i64, wrap64]; done))) | (simp [*]; done) | (simp [IntKind.wrap_u8, IntKind.wrap_i64, wrap64]; done), by repeat (first | exact Drawn0.refl _ | apply Drawn0.step)⟩
    ·rw [if_neg c9] at H
     exact absurd H (by simp)
   ·rw [if_neg c8] at H
    exact absurd H (by simp)
  ·rw [if_neg c4] at H
   exact absurd H (by simp)
 ·rw [if_neg c3] at H
  exact absurd H (by simp)

def clavigerref06_Subs.l0 : Nat → ByteArray → ByteArray → Int → Option (ByteArray)
 | 0, _, _, _ => none
 | k + 1, x0, x3, x4 => if x4 < (x0.size : Int) then (if 0 ≤ x4 then ((clavigerref06_Sub.f k (bt x0 x4)).bind fun t1 => ((some (([t1] : List Int) : List Int)).bind fun y2 => (if x3.size + (strOfNums y2).size ≤ 9223372036854775807 then (clavigerref06_Subs.l0 k x0 (x3 ++ (strOfNums y2)) (wrap64 (x4 + 1))) else (none)))) else (none)) else (some x3)
def clavigerref06_Subs.f (k : Nat) (a0 : ByteArray) : Option (ByteArray) := clavigerref06_Subs.l0 k a0 (⟨#[]⟩ : ByteArray) 0
theorem clavigerref06_Subs.mono_l : ∀ k, (∀ y3 y4 y5, LeO (clavigerref06_Subs.l0 k y3 y4 y5) (clavigerref06_Subs.l0 (k + 1) y3 y4 y5))
 | 0 => fun _ _ _ r h => by simp [clavigerref06_Subs.l0] at h
 | k + 1 => by
  have ih0 := clavigerref06_Subs.mono_l k
  ·intro y3 y4 y5
   unfold clavigerref06_Subs.l0
   repeat' first
   | (with_reducible exact ih0 _ _ _)
   | (with_reducible exact clavigerref06_Sub.mono _ _)
   | (with_reducible exact LeO.refl _)
   | (with_reducible exact LeO.none _)
   | (with_reducible refine LeO.ite ?_ ?_)
   | (with_reducible refine LeO.bind ?_ (fun _ => ?_))
theorem clavigerref06_Subs.mono : ∀ a0 k, LeO (clavigerref06_Subs.f k a0) (clavigerref06_Subs.f (k + 1) a0) := by
 intro a0 k
 have ih0 := clavigerref06_Subs.mono_l k
 unfold clavigerref06_Subs.f
 repeat' first
   | (with_reducible exact ih0 _ _ _)
   | (with_reducible exact clavigerref06_Sub.mono _ _)
   | (with_reducible exact LeO.refl _)
   | (with_reducible exact LeO.none _)
   | (with_reducible refine LeO.ite ?_ ?_)
   | (with_reducible refine LeO.bind ?_ (fun _ => ?_))
set_option maxHeartbeats 8000000 in
set_option maxRecDepth 100000 in
theorem clavigerref06_Subs.calls (k : Nat) (a0 : ByteArray) (r : ByteArray) (w : World) (h : clavigerref06_Subs.f k a0 = some r) :
  Calls Try.prog 67 #[.string a0] w fun e w' => e = .returned (.string r) ∧ Below w.heap.size w w' := by
 have HB := Aside0.mk (Below.refl w.heap.size w)
 have H : (clavigerref06_Subs.l0 k a0 (⟨#[]⟩ : ByteArray) 0) = some r := h
 clear h
 have H' := Aside0.mk H
 clear H
 go_enter Try.func67, Try.ntmps67
 go_wp2
 go_loopg [3, 4] k (fun kq v3 v4 w' => ∃ (x3_1 : ByteArray) (x4_1 : Int), v3 = .string x3_1 ∧ v4 = .int .i64 x4_1 ∧ Aside0 (clavigerref06_Subs.l0 kq a0 x3_1 x4_1 = some r) ∧ Aside0 (kq ≤ k) ∧ Aside0 (Below w.heap.size w w'))
 case atStart => exact ⟨((⟨#[]⟩ : ByteArray)), (0), (by first | rfl | (simp; done) | (simp [*]; done)), (by first | rfl | (simp; done) | (simp [*]; done)), H', ⟨Nat.le_refl _⟩, ⟨by repeat first | with_reducible (first | exact HB.out | apply bA | apply bN | apply bD) | exact HB.out⟩⟩
 case round =>
  clear H'
  obtain ⟨x3_1, x4_1, rfl, rfl, HA, HK1, HB⟩ := hrel
  cases gk with
  | zero => exact absurd HA.out (by simp [clavigerref06_Subs.l0])
  | succ k1 =>
   have H := HA.out
   clear HA
   simp only [clavigerref06_Subs.l0] at H
   by_cases c2 : x4_1 < (a0.size : Int)
   ·rw [if_pos c2] at H
    have c2b0 : decide (x4_1 < (a0.size : Int)) = true := decide_eq_true c2
    clear c2
    by_cases c3 : 0 ≤ x4_1
    ·rw [if_pos c3] at H
     have c3b0 : decide (0 ≤ x4_1) = true := decide_eq_true c3
     clear c3
     replace H := Option.bind_eq_some_iff.mp H
     obtain ⟨t1, A50, H⟩ := H
     try dsimp only at H
     have A5 := Aside0.mk A50
     clear A50
     obtain ⟨y2, hy2⟩ : ∃ y_ : List Int, y_ = (([t1] : List Int)) := ⟨_, rfl⟩
     replace H : (if x3_1.size + (strOfNums y2).size ≤ 9223372036854775807 then (clavigerref06_Subs.l0 k1 a0 (x3_1 ++ (strOfNums y2)) (wrap64 (x4_1 + 1))) else (none)) = some r := by first | (rw [hy2]; with_reducible exact H) | (have H2_ := (Option.bind_some _ _).symm.trans H; rw [hy2]; with_reducible exact H2_) | (have H2_ := (Option.bind_some _ _).symm.trans H; with_reducible exact H2_) | with_reducible exact H | (rw [hy2]; exact H) | exact H
     have Ny5001 := Aside0.mk hy2
     clear hy2
     by_cases c6 : x3_1.size + (strOfNums y2).size ≤ 9223372036854775807
     ·rw [if_pos c6] at H
      have c6b0 := eq_true c6
      have c6b1 : decide (x3_1.size + (strOfNums y2).size ≤ 9223372036854775807) = true := decide_eq_true c6
      try have c6b2 : (9223372036854775807 < x3_1.size + (strOfNums y2).size) = False := eq_false (Nat.not_lt.2 c6)
      have H' := Aside0.mk H
      clear H
      have p4 : 0 ≤ (x4_1 : Int) := of_decide_eq_true (by assumption)
      have q4 : x4_1 < (a0.size : Int) := of_decide_eq_true (by assumption)
      have hx4 := bt_at a0 x4_1
      replace p4 := eq_true p4
      replace q4 := eq_true q4
      go_wp2_with (first | ((with_reducible refine gate_callee (f := 63) rfl ?_); refine goesL_ (some 15) rfl rfl Try.func63 (by kernel_rfl) rfl #[.int .u8 (bt a0 x4_1)] rfl (by (try simp only [lT, lC, lN]); first | done | rfl) ?_; (with_reducible refine (clavigerref06_Sub.calls k1 (bt a0 x4_1) t1 _ A5.out).mono ?_); rintro e w' ⟨rfl, ⟨nd, rfl⟩⟩; refine ⟨_, rfl, ?_⟩) | ((with_reducible refine gate_dst (N := 16) rfl ?_); refine Kd.R_lit (Kd.int .u8) _ 5 ?hg (N := 16) ?hd (xs := ([t1] : List Int)) (inner := [.int .u8 t1]) (ok := fun _ => True) (okp := fun _ => True) ?hr ?hp (fun _ hk => hk) trivial (Below.refl _ _) (Nat.le_refl _) (by simp) ?_; (case hd => rfl); (case hg => rfl); (case hr => first | (go_simp; done) | (go_simp; rfl)); (case hp => exact (Reps.one (show Kd.M (Kd.int .u8) _ _ _ t1 [.int .u8 t1] from rfl) (Reps.none _ _))); intro v203 w7 ho8 hb hg_ hnew_; clear hg_ hnew_; (first | rw [← Ny5001.out] at ho8 | (simp only [Int.reduceToNat] at ho8; rw [← Ny5001.out] at ho8)); have n0_ := Aside0.mk (Kd.R_lower ho8 (below_size (by repeat first | with_reducible (first | exact HB.out | apply bA | apply bN | apply bD) | exact HB.out))); have n1_ := Aside0.mk (below_step (by repeat first | with_reducible (first | exact HB.out | apply bA | apply bN | apply bD) | exact HB.out) hb); clear HB; have HO204 := n0_; have HB := n1_; clear n0_ n1_; clear hb ho8; have hcv9 := own_string (P := Try.prog) Try.underlying66 Try.underlying5 Try.underlying9 (Kd.own_of_R HO204.out)))
      go_roundg k1
      case measure => have := HK1.out; omega
      case rel => exact ⟨(x3_1 ++ (strOfNums y2)), (wrap64 (x4_1 + 1)), (by first | rfl | (simp; done) | (simp [*]; done)), (by first | rfl | (simp; done) | (simp [*]; done)), H', ⟨by have := HK1.out; omega⟩, ⟨by repeat first | with_reducible (first | exact HB.out | apply bA | apply bN | apply bD) | exact HB.out⟩⟩
     ·rw [if_neg c6] at H
      exact absurd H (by simp)
    ·rw [if_neg c3] at H
     exact absurd H (by simp)
   ·rw [if_neg c2] at H
    have c2b0 : decide (x4_1 < (a0.size : Int)) = false := decide_eq_false c2
    clear c2
    obtain rfl := Option.some.inj H
    go_wp2
    go_ret
    exact ⟨by first | rfl | (simp [*, errW_none, errW_some] <;> rfl), by repeat first | with_reducible (first | exact HB.out | apply bA | apply bN | apply bD) | exact HB.out⟩

def clavigerref06_Back.f (k : Nat) (a0 : Int) : Option (Int) := if 0 ≤ (wrap64 (2 * (wrap64 (a0)))) then (if (wrap64 (2 * (wrap64 (a0)))) < 512 then ((clavigerref02_Value.f k (bt (⟨#[53, 50, 48, 57, 54, 65, 68, 53, 51, 48, 51, 54, 65, 53, 51, 56, 66, 70, 52, 48, 65, 51, 57, 69, 56, 49, 70, 51, 68, 55, 70, 66, 55, 67, 69, 51, 51, 57, 56, 50, 57, 66, 50, 70, 70, 70, 56, 55, 51, 52, 56, 69, 52, 51, 52, 52, 67, 52, 68, 69, 69, 57, 67, 66, 53, 52, 55, 66, 57, 52, 51, 50, 65, 54, 67, 50, 50, 51, 51, 68, 69, 69, 52, 67, 57, 53, 48, 66, 52, 50, 70, 65, 67, 51, 52, 69, 48, 56, 50, 69, 65, 49, 54, 54, 50, 56, 68, 57, 50, 52, 66, 50, 55, 54, 53, 66, 65, 50, 52, 57, 54, 68, 56, 66, 68, 49, 50, 53, 55, 50, 70, 56, 70, 54, 54, 52, 56, 54, 54, 56, 57, 56, 49, 54, 68, 52, 65, 52, 53, 67, 67, 67, 53, 68, 54, 53, 66, 54, 57, 50, 54, 67, 55, 48, 52, 56, 53, 48, 70, 68, 69, 68, 66, 57, 68, 65, 53, 69, 49, 53, 52, 54, 53, 55, 65, 55, 56, 68, 57, 68, 56, 52, 57, 48, 68, 56, 65, 66, 48, 48, 56, 67, 66, 67, 68, 51, 48, 65, 70, 55, 69, 52, 53, 56, 48, 53, 66, 56, 66, 51, 52, 53, 48, 54, 68, 48, 50, 67, 49, 69, 56, 70, 67, 65, 51, 70, 48, 70, 48, 50, 67, 49, 65, 70, 66, 68, 48, 51, 48, 49, 49, 51, 56, 65, 54, 66, 51, 65, 57, 49, 49, 49, 52, 49, 52, 70, 54, 55, 68, 67, 69, 65, 57, 55, 70, 50, 67, 70, 67, 69, 70, 48, 66, 52, 69, 54, 55, 51, 57, 54, 65, 67, 55, 52, 50, 50, 69, 55, 65, 68, 51, 53, 56, 53, 69, 50, 70, 57, 51, 55, 69, 56, 49, 67, 55, 53, 68, 70, 54, 69, 52, 55, 70, 49, 49, 65, 55, 49, 49, 68, 50, 57, 67, 53, 56, 57, 54, 70, 66, 55, 54, 50, 48, 69, 65, 65, 49, 56, 66, 69, 49, 66, 70, 67, 53, 54, 51, 69, 52, 66, 67, 54, 68, 50, 55, 57, 50, 48, 57, 65, 68, 66, 67, 48, 70, 69, 55, 56, 67, 68, 53, 65, 70, 52, 49, 70, 68, 68, 65, 56, 51, 51, 56, 56, 48, 55, 67, 55, 51, 49, 66, 49, 49, 50, 49, 48, 53, 57, 50, 55, 56, 48, 69, 67, 53, 70, 54, 48, 53, 49, 55, 70, 65, 57, 49, 57, 66, 53, 52, 65, 48, 68, 50, 68, 69, 53, 55, 65, 57, 70, 57, 51, 67, 57, 57, 67, 69, 70, 65, 48, 69, 48, 51, 66, 52, 68, 65, 69, 50, 65, 70, 53, 66, 48, 67, 56, 69, 66, 66, 66, 51, 67, 56, 51, 53, 51, 57, 57, 54, 49, 49, 55, 50, 66, 48, 52, 55, 69, 66, 65, 55, 55, 68, 54, 50, 54, 69, 49, 54, 57, 49, 52, 54, 51, 53, 53, 50, 49, 48, 67, 55, 68]⟩ : ByteArray) (wrap64 (2 * (wrap64 (a0)))))).bind fun t1 => (if 0 ≤ (wrap64 ((wrap64 (2 * (wrap64 (a0)))) + 1)) then (if (wrap64 ((wrap64 (2 * (wrap64 (a0)))) + 1)) < 512 then ((clavigerref02_Value.f k (bt (⟨#[53, 50, 48, 57, 54, 65, 68, 53, 51, 48, 51, 54, 65, 53, 51, 56, 66, 70, 52, 48, 65, 51, 57, 69, 56, 49, 70, 51, 68, 55, 70, 66, 55, 67, 69, 51, 51, 57, 56, 50, 57, 66, 50, 70, 70, 70, 56, 55, 51, 52, 56, 69, 52, 51, 52, 52, 67, 52, 68, 69, 69, 57, 67, 66, 53, 52, 55, 66, 57, 52, 51, 50, 65, 54, 67, 50, 50, 51, 51, 68, 69, 69, 52, 67, 57, 53, 48, 66, 52, 50, 70, 65, 67, 51, 52, 69, 48, 56, 50, 69, 65, 49, 54, 54, 50, 56, 68, 57, 50, 52, 66, 50, 55, 54, 53, 66, 65, 50, 52, 57, 54, 68, 56, 66, 68, 49, 50, 53, 55, 50, 70, 56, 70, 54, 54, 52, 56, 54, 54, 56, 57, 56, 49, 54, 68, 52, 65, 52, 53, 67, 67, 67, 53, 68, 54, 53, 66, 54, 57, 50, 54, 67, 55, 48, 52, 56, 53, 48, 70, 68, 69, 68, 66, 57, 68, 65, 53, 69, 49, 53, 52, 54, 53, 55, 65, 55, 56, 68, 57, 68, 56, 52, 57, 48, 68, 56, 65, 66, 48, 48, 56, 67, 66, 67, 68, 51, 48, 65, 70, 55, 69, 52, 53, 56, 48, 53, 66, 56, 66, 51, 52, 53, 48, 54, 68, 48, 50, 67, 49, 69, 56, 70, 67, 65, 51, 70, 48, 70, 48, 50, 67, 49, 65, 70, 66, 68, 48, 51, 48, 49, 49, 51, 56, 65, 54, 66, 51, 65, 57, 49, 49, 49, 52, 49, 52, 70, 54, 55, 68, 67, 69, 65, 57, 55, 70, 50, 67, 70, 67, 69, 70, 48, 66, 52, 69, 54, 55, 51, 57, 54, 65, 67, 55, 52, 50, 50, 69, 55, 65, 68, 51, 53, 56, 53, 69, 50, 70, 57, 51, 55, 69, 56, 49, 67, 55, 53, 68, 70, 54, 69, 52, 55, 70, 49, 49, 65, 55, 49, 49, 68, 50, 57, 67, 53, 56, 57, 54, 70, 66, 55, 54, 50, 48, 69, 65, 65, 49, 56, 66, 69, 49, 66, 70, 67, 53, 54, 51, 69, 52, 66, 67, 54, 68, 50, 55, 57, 50, 48, 57, 65, 68, 66, 67, 48, 70, 69, 55, 56, 67, 68, 53, 65, 70, 52, 49, 70, 68, 68, 65, 56, 51, 51, 56, 56, 48, 55, 67, 55, 51, 49, 66, 49, 49, 50, 49, 48, 53, 57, 50, 55, 56, 48, 69, 67, 53, 70, 54, 48, 53, 49, 55, 70, 65, 57, 49, 57, 66, 53, 52, 65, 48, 68, 50, 68, 69, 53, 55, 65, 57, 70, 57, 51, 67, 57, 57, 67, 69, 70, 65, 48, 69, 48, 51, 66, 52, 68, 65, 69, 50, 65, 70, 53, 66, 48, 67, 56, 69, 66, 66, 66, 51, 67, 56, 51, 53, 51, 57, 57, 54, 49, 49, 55, 50, 66, 48, 52, 55, 69, 66, 65, 55, 55, 68, 54, 50, 54, 69, 49, 54, 57, 49, 52, 54, 51, 53, 53, 50, 49, 48, 67, 55, 68]⟩ : ByteArray) (wrap64 ((wrap64 (2 * (wrap64 (a0)))) + 1)))).bind fun t2 => (some ((wrap64 ((wrap64 (16 * t1)) + t2)) % 256))) else (none)) else (none))) else (none)) else (none)
theorem clavigerref06_Back.mono : ∀ a0 k, LeO (clavigerref06_Back.f k a0) (clavigerref06_Back.f (k + 1) a0) := by
 intro a0 k
 unfold clavigerref06_Back.f
 repeat' first
   | (with_reducible exact clavigerref02_Value.mono _ _)
   | (with_reducible exact LeO.refl _)
   | (with_reducible exact LeO.none _)
   | (with_reducible refine LeO.ite ?_ ?_)
   | (with_reducible refine LeO.bind ?_ (fun _ => ?_))
set_option maxHeartbeats 8000000 in
set_option maxRecDepth 100000 in
theorem clavigerref06_Back.calls (k : Nat) (a0 : Int) (r : Int) (w : World) (h : clavigerref06_Back.f k a0 = some r) :
  Calls Try.prog 65 #[.int .u8 a0] w fun e w' => e = .returned (.int .u8 r) ∧ Drawn0 w w' := by
 have H : (if 0 ≤ (wrap64 (2 * (wrap64 (a0)))) then (if (wrap64 (2 * (wrap64 (a0)))) < 512 then ((clavigerref02_Value.f k (bt (⟨#[53, 50, 48, 57, 54, 65, 68, 53, 51, 48, 51, 54, 65, 53, 51, 56, 66, 70, 52, 48, 65, 51, 57, 69, 56, 49, 70, 51, 68, 55, 70, 66, 55, 67, 69, 51, 51, 57, 56, 50, 57, 66, 50, 70, 70, 70, 56, 55, 51, 52, 56, 69, 52, 51, 52, 52, 67, 52, 68, 69, 69, 57, 67, 66, 53, 52, 55, 66, 57, 52, 51, 50, 65, 54, 67, 50, 50, 51, 51, 68, 69, 69, 52, 67, 57, 53, 48, 66, 52, 50, 70, 65, 67, 51, 52, 69, 48, 56, 50, 69, 65, 49, 54, 54, 50, 56, 68, 57, 50, 52, 66, 50, 55, 54, 53, 66, 65, 50, 52, 57, 54, 68, 56, 66, 68, 49, 50, 53, 55, 50, 70, 56, 70, 54, 54, 52, 56, 54, 54, 56, 57, 56, 49, 54, 68, 52, 65, 52, 53, 67, 67, 67, 53, 68, 54, 53, 66, 54, 57, 50, 54, 67, 55, 48, 52, 56, 53, 48, 70, 68, 69, 68, 66, 57, 68, 65, 53, 69, 49, 53, 52, 54, 53, 55, 65, 55, 56, 68, 57, 68, 56, 52, 57, 48, 68, 56, 65, 66, 48, 48, 56, 67, 66, 67, 68, 51, 48, 65, 70, 55, 69, 52, 53, 56, 48, 53, 66, 56, 66, 51, 52, 53, 48, 54, 68, 48, 50, 67, 49, 69, 56, 70, 67, 65, 51, 70, 48, 70, 48, 50, 67, 49, 65, 70, 66, 68, 48, 51, 48, 49, 49, 51, 56, 65, 54, 66, 51, 65, 57, 49, 49, 49, 52, 49, 52, 70, 54, 55, 68, 67, 69, 65, 57, 55, 70, 50, 67, 70, 67, 69, 70, 48, 66, 52, 69, 54, 55, 51, 57, 54, 65, 67, 55, 52, 50, 50, 69, 55, 65, 68, 51, 53, 56, 53, 69, 50, 70, 57, 51, 55, 69, 56, 49, 67, 55, 53, 68, 70, 54, 69, 52, 55, 70, 49, 49, 65, 55, 49, 49, 68, 50, 57, 67, 53, 56, 57, 54, 70, 66, 55, 54, 50, 48, 69, 65, 65, 49, 56, 66, 69, 49, 66, 70, 67, 53, 54, 51, 69, 52, 66, 67, 54, 68, 50, 55, 57, 50, 48, 57, 65, 68, 66, 67, 48, 70, 69, 55, 56, 67, 68, 53, 65, 70, 52, 49, 70, 68, 68, 65, 56, 51, 51, 56, 56, 48, 55, 67, 55, 51, 49, 66, 49, 49, 50, 49, 48, 53, 57, 50, 55, 56, 48, 69, 67, 53, 70, 54, 48, 53, 49, 55, 70, 65, 57, 49, 57, 66, 53, 52, 65, 48, 68, 50, 68, 69, 53, 55, 65, 57, 70, 57, 51, 67, 57, 57, 67, 69, 70, 65, 48, 69, 48, 51, 66, 52, 68, 65, 69, 50, 65, 70, 53, 66, 48, 67, 56, 69, 66, 66, 66, 51, 67, 56, 51, 53, 51, 57, 57, 54, 49, 49, 55, 50, 66, 48, 52, 55, 69, 66, 65, 55, 55, 68, 54, 50, 54, 69, 49, 54, 57, 49, 52, 54, 51, 53, 53, 50, 49, 48, 67, 55, 68]⟩ : ByteArray) (wrap64 (2 * (wrap64 (a0)))))).bind fun t1 => (if 0 ≤ (wrap64 ((wrap64 (2 * (wrap64 (a0)))) + 1)) then (if (wrap64 ((wrap64 (2 * (wrap64 (a0)))) + 1)) < 512 then ((clavigerref02_Value.f k (bt (⟨#[53, 50, 48, 57, 54, 65, 68, 53, 51, 48, 51, 54, 65, 53, 51, 56, 66, 70, 52, 48, 65, 51, 57, 69, 56, 49, 70, 51, 68, 55, 70, 66, 55, 67, 69, 51, 51, 57, 56, 50, 57, 66, 50, 70, 70, 70, 56, 55, 51, 52, 56, 69, 52, 51, 52, 52, 67, 52, 68, 69, 69, 57, 67, 66, 53, 52, 55, 66, 57, 52, 51, 50, 65, 54, 67, 50, 50, 51, 51, 68, 69, 69, 52, 67, 57, 53, 48, 66, 52, 50, 70, 65, 67, 51, 52, 69, 48, 56, 50, 69, 65, 49, 54, 54, 50, 56, 68, 57, 50, 52, 66, 50, 55, 54, 53, 66, 65, 50, 52, 57, 54, 68, 56, 66, 68, 49, 50, 53, 55, 50, 70, 56, 70, 54, 54, 52, 56, 54, 54, 56, 57, 56, 49, 54, 68, 52, 65, 52, 53, 67, 67, 67, 53, 68, 54, 53, 66, 54, 57, 50, 54, 67, 55, 48, 52, 56, 53, 48, 70, 68, 69, 68, 66, 57, 68, 65, 53, 69, 49, 53, 52, 54, 53, 55, 65, 55, 56, 68, 57, 68, 56, 52, 57, 48, 68, 56, 65, 66, 48, 48, 56, 67, 66, 67, 68, 51, 48, 65, 70, 55, 69, 52, 53, 56, 48, 53, 66, 56, 66, 51, 52, 53, 48, 54, 68, 48, 50, 67, 49, 69, 56, 70, 67, 65, 51, 70, 48, 70, 48, 50, 67, 49, 65, 70, 66, 68, 48, 51, 48, 49, 49, 51, 56, 65, 54, 66, 51, 65, 57, 49, 49, 49, 52, 49, 52, 70, 54, 55, 68, 67, 69, 65, 57, 55, 70, 50, 67, 70, 67, 69, 70, 48, 66, 52, 69, 54, 55, 51, 57, 54, 65, 67, 55, 52, 50, 50, 69, 55, 65, 68, 51, 53, 56, 53, 69, 50, 70, 57, 51, 55, 69, 56, 49, 67, 55, 53, 68, 70, 54, 69, 52, 55, 70, 49, 49, 65, 55, 49, 49, 68, 50, 57, 67, 53, 56, 57, 54, 70, 66, 55, 54, 50, 48, 69, 65, 65, 49, 56, 66, 69, 49, 66, 70, 67, 53, 54, 51, 69, 52, 66, 67, 54, 68, 50, 55, 57, 50, 48, 57, 65, 68, 66, 67, 48, 70, 69, 55, 56, 67, 68, 53, 65, 70, 52, 49, 70, 68, 68, 65, 56, 51, 51, 56, 56, 48, 55, 67, 55, 51, 49, 66, 49, 49, 50, 49, 48, 53, 57, 50, 55, 56, 48, 69, 67, 53, 70, 54, 48, 53, 49, 55, 70, 65, 57, 49, 57, 66, 53, 52, 65, 48, 68, 50, 68, 69, 53, 55, 65, 57, 70, 57, 51, 67, 57, 57, 67, 69, 70, 65, 48, 69, 48, 51, 66, 52, 68, 65, 69, 50, 65, 70, 53, 66, 48, 67, 56, 69, 66, 66, 66, 51, 67, 56, 51, 53, 51, 57, 57, 54, 49, 49, 55, 50, 66, 48, 52, 55, 69, 66, 65, 55, 55, 68, 54, 50, 54, 69, 49, 54, 57, 49, 52, 54, 51, 53, 53, 50, 49, 48, 67, 55, 68]⟩ : ByteArray) (wrap64 ((wrap64 (2 * (wrap64 (a0)))) + 1)))).bind fun t2 => (some ((wrap64 ((wrap64 (16 * t1)) + t2)) % 256))) else (none)) else (none))) else (none)) else (none)) = some r := h
 clear h
 obtain ⟨ji2, hji2⟩ : ∃ j_ : Int, (wrap64 (2 * (wrap64 (a0)))) = j_ := ⟨_, rfl⟩
 replace H : (if 0 ≤ (ji2) then (if (ji2) < 512 then ((clavigerref02_Value.f k (bt (⟨#[53, 50, 48, 57, 54, 65, 68, 53, 51, 48, 51, 54, 65, 53, 51, 56, 66, 70, 52, 48, 65, 51, 57, 69, 56, 49, 70, 51, 68, 55, 70, 66, 55, 67, 69, 51, 51, 57, 56, 50, 57, 66, 50, 70, 70, 70, 56, 55, 51, 52, 56, 69, 52, 51, 52, 52, 67, 52, 68, 69, 69, 57, 67, 66, 53, 52, 55, 66, 57, 52, 51, 50, 65, 54, 67, 50, 50, 51, 51, 68, 69, 69, 52, 67, 57, 53, 48, 66, 52, 50, 70, 65, 67, 51, 52, 69, 48, 56, 50, 69, 65, 49, 54, 54, 50, 56, 68, 57, 50, 52, 66, 50, 55, 54, 53, 66, 65, 50, 52, 57, 54, 68, 56, 66, 68, 49, 50, 53, 55, 50, 70, 56, 70, 54, 54, 52, 56, 54, 54, 56, 57, 56, 49, 54, 68, 52, 65, 52, 53, 67, 67, 67, 53, 68, 54, 53, 66, 54, 57, 50, 54, 67, 55, 48, 52, 56, 53, 48, 70, 68, 69, 68, 66, 57, 68, 65, 53, 69, 49, 53, 52, 54, 53, 55, 65, 55, 56, 68, 57, 68, 56, 52, 57, 48, 68, 56, 65, 66, 48, 48, 56, 67, 66, 67, 68, 51, 48, 65, 70, 55, 69, 52, 53, 56, 48, 53, 66, 56, 66, 51, 52, 53, 48, 54, 68, 48, 50, 67, 49, 69, 56, 70, 67, 65, 51, 70, 48, 70, 48, 50, 67, 49, 65, 70, 66, 68, 48, 51, 48, 49, 49, 51, 56, 65, 54, 66, 51, 65, 57, 49, 49, 49, 52, 49, 52, 70, 54, 55, 68, 67, 69, 65, 57, 55, 70, 50, 67, 70, 67, 69, 70, 48, 66, 52, 69, 54, 55, 51, 57, 54, 65, 67, 55, 52, 50, 50, 69, 55, 65, 68, 51, 53, 56, 53, 69, 50, 70, 57, 51, 55, 69, 56, 49, 67, 55, 53, 68, 70, 54, 69, 52, 55, 70, 49, 49, 65, 55, 49, 49, 68, 50, 57, 67, 53, 56, 57, 54, 70, 66, 55, 54, 50, 48, 69, 65, 65, 49, 56, 66, 69, 49, 66, 70, 67, 53, 54, 51, 69, 52, 66, 67, 54, 68, 50, 55, 57, 50, 48, 57, 65, 68, 66, 67, 48, 70, 69, 55, 56, 67, 68, 53, 65, 70, 52, 49, 70, 68, 68, 65, 56, 51, 51, 56, 56, 48, 55, 67, 55, 51, 49, 66, 49, 49, 50, 49, 48, 53, 57, 50, 55, 56, 48, 69, 67, 53, 70, 54, 48, 53, 49, 55, 70, 65, 57, 49, 57, 66, 53, 52, 65, 48, 68, 50, 68, 69, 53, 55, 65, 57, 70, 57, 51, 67, 57, 57, 67, 69, 70, 65, 48, 69, 48, 51, 66, 52, 68, 65, 69, 50, 65, 70, 53, 66, 48, 67, 56, 69, 66, 66, 66, 51, 67, 56, 51, 53, 51, 57, 57, 54, 49, 49, 55, 50, 66, 48, 52, 55, 69, 66, 65, 55, 55, 68, 54, 50, 54, 69, 49, 54, 57, 49, 52, 54, 51, 53, 53, 50, 49, 48, 67, 55, 68]⟩ : ByteArray) (ji2))).bind fun t1 => (if 0 ≤ (wrap64 ((ji2) + 1)) then (if (wrap64 ((ji2) + 1)) < 512 then ((clavigerref02_Value.f k (bt (⟨#[53, 50, 48, 57, 54, 65, 68, 53, 51, 48, 51, 54, 65, 53, 51, 56, 66, 70, 52, 48, 65, 51, 57, 69, 56, 49, 70, 51, 68, 55, 70, 66, 55, 67, 69, 51, 51, 57, 56, 50, 57, 66, 50, 70, 70, 70, 56, 55, 51, 52, 56, 69, 52, 51, 52, 52, 67, 52, 68, 69, 69, 57, 67, 66, 53, 52, 55, 66, 57, 52, 51, 50, 65, 54, 67, 50, 50, 51, 51, 68, 69, 69, 52, 67, 57, 53, 48, 66, 52, 50, 70, 65, 67, 51, 52, 69, 48, 56, 50, 69, 65, 49, 54, 54, 50, 56, 68, 57, 50, 52, 66, 50, 55, 54, 53, 66, 65, 50, 52, 57, 54, 68, 56, 66, 68, 49, 50, 53, 55, 50, 70, 56, 70, 54, 54, 52, 56, 54, 54, 56, 57, 56, 49, 54, 68, 52, 65, 52, 53, 67, 67, 67, 53, 68, 54, 53, 66, 54, 57, 50, 54, 67, 55, 48, 52, 56, 53, 48, 70, 68, 69, 68, 66, 57, 68, 65, 53, 69, 49, 53, 52, 54, 53, 55, 65, 55, 56, 68, 57, 68, 56, 52, 57, 48, 68, 56, 65, 66, 48, 48, 56, 67, 66, 67, 68, 51, 48, 65, 70, 55, 69, 52, 53, 56, 48, 53, 66, 56, 66, 51, 52, 53, 48, 54, 68, 48, 50, 67, 49, 69, 56, 70, 67, 65, 51, 70, 48, 70, 48, 50, 67, 49, 65, 70, 66, 68, 48, 51, 48, 49, 49, 51, 56, 65, 54, 66, 51, 65, 57, 49, 49, 49, 52, 49, 52, 70, 54, 55, 68, 67, 69, 65, 57, 55, 70, 50, 67, 70, 67, 69, 70, 48, 66, 52, 69, 54, 55, 51, 57, 54, 65, 67, 55, 52, 50, 50, 69, 55, 65, 68, 51, 53, 56, 53, 69, 50, 70, 57, 51, 55, 69, 56, 49, 67, 55, 53, 68, 70, 54, 69, 52, 55, 70, 49, 49, 65, 55, 49, 49, 68, 50, 57, 67, 53, 56, 57, 54, 70, 66, 55, 54, 50, 48, 69, 65, 65, 49, 56, 66, 69, 49, 66, 70, 67, 53, 54, 51, 69, 52, 66, 67, 54, 68, 50, 55, 57, 50, 48, 57, 65, 68, 66, 67, 48, 70, 69, 55, 56, 67, 68, 53, 65, 70, 52, 49, 70, 68, 68, 65, 56, 51, 51, 56, 56, 48, 55, 67, 55, 51, 49, 66, 49, 49, 50, 49, 48, 53, 57, 50, 55, 56, 48, 69, 67, 53, 70, 54, 48, 53, 49, 55, 70, 65, 57, 49, 57, 66, 53, 52, 65, 48, 68, 50, 68, 69, 53, 55, 65, 57, 70, 57, 51, 67, 57, 57, 67, 69, 70, 65, 48, 69, 48, 51, 66, 52, 68, 65, 69, 50, 65, 70, 53, 66, 48, 67, 56, 69, 66, 66, 66, 51, 67, 56, 51, 53, 51, 57, 57, 54, 49, 49, 55, 50, 66, 48, 52, 55, 69, 66, 65, 55, 55, 68, 54, 50, 54, 69, 49, 54, 57, 49, 52, 54, 51, 53, 53, 50, 49, 48, 67, 55, 68]⟩ : ByteArray) (wrap64 ((ji2) + 1)))).bind fun t2 => (some ((wrap64 ((wrap64 (16 * t1)) + t2)) % 256))) else (none)) else (none))) else (none)) else (none)) = some r := by first | (rw [hji2] at H; exact H) | (simp only [hji2] at H ⊢; exact H)
 have hji2w : (IntKind.i64.wrap (2 * (wrap64 (a0)))) = ji2 := (i64_w _).trans hji2
 by_cases c3 : 0 ≤ (ji2)
 ·rw [if_pos c3] at H
  have c3b0 : decide (0 ≤ (ji2)) = true := decide_eq_true c3
  clear c3
  by_cases c4 : (ji2) < 512
  ·rw [if_pos c4] at H
   have c4b0 : decide ((ji2) < 512) = true := decide_eq_true c4
   clear c4
   replace H := Option.bind_eq_some_iff.mp H
   obtain ⟨t1, A60, H⟩ := H
   try dsimp only at H
   have A6 := Aside0.mk A60
   clear A60
   obtain ⟨ji7, hji7⟩ : ∃ j_ : Int, (wrap64 ((ji2) + 1)) = j_ := ⟨_, rfl⟩
   replace H : (if 0 ≤ (ji7) then (if (ji7) < 512 then ((clavigerref02_Value.f k (bt (⟨#[53, 50, 48, 57, 54, 65, 68, 53, 51, 48, 51, 54, 65, 53, 51, 56, 66, 70, 52, 48, 65, 51, 57, 69, 56, 49, 70, 51, 68, 55, 70, 66, 55, 67, 69, 51, 51, 57, 56, 50, 57, 66, 50, 70, 70, 70, 56, 55, 51, 52, 56, 69, 52, 51, 52, 52, 67, 52, 68, 69, 69, 57, 67, 66, 53, 52, 55, 66, 57, 52, 51, 50, 65, 54, 67, 50, 50, 51, 51, 68, 69, 69, 52, 67, 57, 53, 48, 66, 52, 50, 70, 65, 67, 51, 52, 69, 48, 56, 50, 69, 65, 49, 54, 54, 50, 56, 68, 57, 50, 52, 66, 50, 55, 54, 53, 66, 65, 50, 52, 57, 54, 68, 56, 66, 68, 49, 50, 53, 55, 50, 70, 56, 70, 54, 54, 52, 56, 54, 54, 56, 57, 56, 49, 54, 68, 52, 65, 52, 53, 67, 67, 67, 53, 68, 54, 53, 66, 54, 57, 50, 54, 67, 55, 48, 52, 56, 53, 48, 70, 68, 69, 68, 66, 57, 68, 65, 53, 69, 49, 53, 52, 54, 53, 55, 65, 55, 56, 68, 57, 68, 56, 52, 57, 48, 68, 56, 65, 66, 48, 48, 56, 67, 66, 67, 68, 51, 48, 65, 70, 55, 69, 52, 53, 56, 48, 53, 66, 56, 66, 51, 52, 53, 48, 54, 68, 48, 50, 67, 49, 69, 56, 70, 67, 65, 51, 70, 48, 70, 48, 50, 67, 49, 65, 70, 66, 68, 48, 51, 48, 49, 49, 51, 56, 65, 54, 66, 51, 65, 57, 49, 49, 49, 52, 49, 52, 70, 54, 55, 68, 67, 69, 65, 57, 55, 70, 50, 67, 70, 67, 69, 70, 48, 66, 52, 69, 54, 55, 51, 57, 54, 65, 67, 55, 52, 50, 50, 69, 55, 65, 68, 51, 53, 56, 53, 69, 50, 70, 57, 51, 55, 69, 56, 49, 67, 55, 53, 68, 70, 54, 69, 52, 55, 70, 49, 49, 65, 55, 49, 49, 68, 50, 57, 67, 53, 56, 57, 54, 70, 66, 55, 54, 50, 48, 69, 65, 65, 49, 56, 66, 69, 49, 66, 70, 67, 53, 54, 51, 69, 52, 66, 67, 54, 68, 50, 55, 57, 50, 48, 57, 65, 68, 66, 67, 48, 70, 69, 55, 56, 67, 68, 53, 65, 70, 52, 49, 70, 68, 68, 65, 56, 51, 51, 56, 56, 48, 55, 67, 55, 51, 49, 66, 49, 49, 50, 49, 48, 53, 57, 50, 55, 56, 48, 69, 67, 53, 70, 54, 48, 53, 49, 55, 70, 65, 57, 49, 57, 66, 53, 52, 65, 48, 68, 50, 68, 69, 53, 55, 65, 57, 70, 57, 51, 67, 57, 57, 67, 69, 70, 65, 48, 69, 48, 51, 66, 52, 68, 65, 69, 50, 65, 70, 53, 66, 48, 67, 56, 69, 66, 66, 66, 51, 67, 56, 51, 53, 51, 57, 57, 54, 49, 49, 55, 50, 66, 48, 52, 55, 69, 66, 65, 55, 55, 68, 54, 50, 54, 69, 49, 54, 57, 49, 52, 54, 51, 53, 53, 50, 49, 48, 67, 55, 68]⟩ : ByteArray) (ji7))).bind fun t2 => (some ((wrap64 ((wrap64 (16 * t1)) + t2)) % 256))) else (none)) else (none)) = some r := by first | (rw [hji7] at H; exact H) | (simp only [hji7] at H ⊢; exact H)
   (try rw [hji7] at A6)
   have hji7w : (IntKind.i64.wrap ((ji2) + 1)) = ji7 := (i64_w _).trans hji7
   by_cases c8 : 0 ≤ (ji7)
   ·rw [if_pos c8] at H
    have c8b0 : decide (0 ≤ (ji7)) = true := decide_eq_true c8
    clear c8
    by_cases c9 : (ji7) < 512
    ·rw [if_pos c9] at H
     have c9b0 : decide ((ji7) < 512) = true := decide_eq_true c9
     clear c9
     replace H := Option.bind_eq_some_iff.mp H
     obtain ⟨t2, A110, H⟩ := H
     try dsimp only at H
     have A11 := Aside0.mk A110
     clear A110
     obtain rfl := Option.some.inj H
     have p5 : 0 ≤ ((ji2) : Int) := of_decide_eq_true (by assumption)
     have q5 : (ji2) < (512 : Int) := of_decide_eq_true (by assumption)
     have hx5 := bt_at (⟨#[53, 50, 48, 57, 54, 65, 68, 53, 51, 48, 51, 54, 65, 53, 51, 56, 66, 70, 52, 48, 65, 51, 57, 69, 56, 49, 70, 51, 68, 55, 70, 66, 55, 67, 69, 51, 51, 57, 56, 50, 57, 66, 50, 70, 70, 70, 56, 55, 51, 52, 56, 69, 52, 51, 52, 52, 67, 52, 68, 69, 69, 57, 67, 66, 53, 52, 55, 66, 57, 52, 51, 50, 65, 54, 67, 50, 50, 51, 51, 68, 69, 69, 52, 67, 57, 53, 48, 66, 52, 50, 70, 65, 67, 51, 52, 69, 48, 56, 50, 69, 65, 49, 54, 54, 50, 56, 68, 57, 50, 52, 66, 50, 55, 54, 53, 66, 65, 50, 52, 57, 54, 68, 56, 66, 68, 49, 50, 53, 55, 50, 70, 56, 70, 54, 54, 52, 56, 54, 54, 56, 57, 56, 49, 54, 68, 52, 65, 52, 53, 67, 67, 67, 53, 68, 54, 53, 66, 54, 57, 50, 54, 67, 55, 48, 52, 56, 53, 48, 70, 68, 69, 68, 66, 57, 68, 65, 53, 69, 49, 53, 52, 54, 53, 55, 65, 55, 56, 68, 57, 68, 56, 52, 57, 48, 68, 56, 65, 66, 48, 48, 56, 67, 66, 67, 68, 51, 48, 65, 70, 55, 69, 52, 53, 56, 48, 53, 66, 56, 66, 51, 52, 53, 48, 54, 68, 48, 50, 67, 49, 69, 56, 70, 67, 65, 51, 70, 48, 70, 48, 50, 67, 49, 65, 70, 66, 68, 48, 51, 48, 49, 49, 51, 56, 65, 54, 66, 51, 65, 57, 49, 49, 49, 52, 49, 52, 70, 54, 55, 68, 67, 69, 65, 57, 55, 70, 50, 67, 70, 67, 69, 70, 48, 66, 52, 69, 54, 55, 51, 57, 54, 65, 67, 55, 52, 50, 50, 69, 55, 65, 68, 51, 53, 56, 53, 69, 50, 70, 57, 51, 55, 69, 56, 49, 67, 55, 53, 68, 70, 54, 69, 52, 55, 70, 49, 49, 65, 55, 49, 49, 68, 50, 57, 67, 53, 56, 57, 54, 70, 66, 55, 54, 50, 48, 69, 65, 65, 49, 56, 66, 69, 49, 66, 70, 67, 53, 54, 51, 69, 52, 66, 67, 54, 68, 50, 55, 57, 50, 48, 57, 65, 68, 66, 67, 48, 70, 69, 55, 56, 67, 68, 53, 65, 70, 52, 49, 70, 68, 68, 65, 56, 51, 51, 56, 56, 48, 55, 67, 55, 51, 49, 66, 49, 49, 50, 49, 48, 53, 57, 50, 55, 56, 48, 69, 67, 53, 70, 54, 48, 53, 49, 55, 70, 65, 57, 49, 57, 66, 53, 52, 65, 48, 68, 50, 68, 69, 53, 55, 65, 57, 70, 57, 51, 67, 57, 57, 67, 69, 70, 65, 48, 69, 48, 51, 66, 52, 68, 65, 69, 50, 65, 70, 53, 66, 48, 67, 56, 69, 66, 66, 66, 51, 67, 56, 51, 53, 51, 57, 57, 54, 49, 49, 55, 50, 66, 48, 52, 55, 69, 66, 65, 55, 55, 68, 54, 50, 54, 69, 49, 54, 57, 49, 52, 54, 51, 53, 53, 50, 49, 48, 67, 55, 68]⟩ : ByteArray) (ji2)
     replace p5 := eq_true p5
     replace q5 := eq_true q5
     go_enter Try.func65, Try.ntmps65
     go_wp2_with (first | (go_at_call 174; (with_reducible refine (clavigerref02_Value.calls k (bt (⟨#[53, 50, 48, 57, 54, 65, 68, 53, 51, 48, 51, 54, 65, 53, 51, 56, 66, 70, 52, 48, 65, 51, 57, 69, 56, 49, 70, 51, 68, 55, 70, 66, 55, 67, 69, 51, 51, 57, 56, 50, 57, 66, 50, 70, 70, 70, 56, 55, 51, 52, 56, 69, 52, 51, 52, 52, 67, 52, 68, 69, 69, 57, 67, 66, 53, 52, 55, 66, 57, 52, 51, 50, 65, 54, 67, 50, 50, 51, 51, 68, 69, 69, 52, 67, 57, 53, 48, 66, 52, 50, 70, 65, 67, 51, 52, 69, 48, 56, 50, 69, 65, 49, 54, 54, 50, 56, 68, 57, 50, 52, 66, 50, 55, 54, 53, 66, 65, 50, 52, 57, 54, 68, 56, 66, 68, 49, 50, 53, 55, 50, 70, 56, 70, 54, 54, 52, 56, 54, 54, 56, 57, 56, 49, 54, 68, 52, 65, 52, 53, 67, 67, 67, 53, 68, 54, 53, 66, 54, 57, 50, 54, 67, 55, 48, 52, 56, 53, 48, 70, 68, 69, 68, 66, 57, 68, 65, 53, 69, 49, 53, 52, 54, 53, 55, 65, 55, 56, 68, 57, 68, 56, 52, 57, 48, 68, 56, 65, 66, 48, 48, 56, 67, 66, 67, 68, 51, 48, 65, 70, 55, 69, 52, 53, 56, 48, 53, 66, 56, 66, 51, 52, 53, 48, 54, 68, 48, 50, 67, 49, 69, 56, 70, 67, 65, 51, 70, 48, 70, 48, 50, 67, 49, 65, 70, 66, 68, 48, 51, 48, 49, 49, 51, 56, 65, 54, 66, 51, 65, 57, 49, 49, 49, 52, 49, 52, 70, 54, 55, 68, 67, 69, 65, 57, 55, 70, 50, 67, 70, 67, 69, 70, 48, 66, 52, 69, 54, 55, 51, 57, 54, 65, 67, 55, 52, 50, 50, 69, 55, 65, 68, 51, 53, 56, 53, 69, 50, 70, 57, 51, 55, 69, 56, 49, 67, 55, 53, 68, 70, 54, 69, 52, 55, 70, 49, 49, 65, 55, 49, 49, 68, 50, 57, 67, 53, 56, 57, 54, 70, 66, 55, 54, 50, 48, 69, 65, 65, 49, 56, 66, 69, 49, 66, 70, 67, 53, 54, 51, 69, 52, 66, 67, 54, 68, 50, 55, 57, 50, 48, 57, 65, 68, 66, 67, 48, 70, 69, 55, 56, 67, 68, 53, 65, 70, 52, 49, 70, 68, 68, 65, 56, 51, 51, 56, 56, 48, 55, 67, 55, 51, 49, 66, 49, 49, 50, 49, 48, 53, 57, 50, 55, 56, 48, 69, 67, 53, 70, 54, 48, 53, 49, 55, 70, 65, 57, 49, 57, 66, 53, 52, 65, 48, 68, 50, 68, 69, 53, 55, 65, 57, 70, 57, 51, 67, 57, 57, 67, 69, 70, 65, 48, 69, 48, 51, 66, 52, 68, 65, 69, 50, 65, 70, 53, 66, 48, 67, 56, 69, 66, 66, 66, 51, 67, 56, 51, 53, 51, 57, 57, 54, 49, 49, 55, 50, 66, 48, 52, 55, 69, 66, 65, 55, 55, 68, 54, 50, 54, 69, 49, 54, 57, 49, 52, 54, 51, 53, 53, 50, 49, 48, 67, 55, 68]⟩ : ByteArray) (ji2)) t1 _ A6.out).mono ?_); rintro e w' ⟨rfl, ⟨nd, rfl⟩⟩; (try first | exact ⟨rfl, _, World.drewN_drewN _ _ _⟩ | exact ⟨rfl, _, Eq.trans (World.drewN_drewN _ _ _) (congrArg (World.drewN _) (Nat.add_assoc _ _ _))⟩); have p10 : 0 ≤ ((ji7) : Int) := of_decide_eq_true (by assumption); have q10 : (ji7) < (512 : Int) := of_decide_eq_true (by assumption); have hx10 := bt_at (⟨#[53, 50, 48, 57, 54, 65, 68, 53, 51, 48, 51, 54, 65, 53, 51, 56, 66, 70, 52, 48, 65, 51, 57, 69, 56, 49, 70, 51, 68, 55, 70, 66, 55, 67, 69, 51, 51, 57, 56, 50, 57, 66, 50, 70, 70, 70, 56, 55, 51, 52, 56, 69, 52, 51, 52, 52, 67, 52, 68, 69, 69, 57, 67, 66, 53, 52, 55, 66, 57, 52, 51, 50, 65, 54, 67, 50, 50, 51, 51, 68, 69, 69, 52, 67, 57, 53, 48, 66, 52, 50, 70, 65, 67, 51, 52, 69, 48, 56, 50, 69, 65, 49, 54, 54, 50, 56, 68, 57, 50, 52, 66, 50, 55, 54, 53, 66, 65, 50, 52, 57, 54, 68, 56, 66, 68, 49, 50, 53, 55, 50, 70, 56, 70, 54, 54, 52, 56, 54, 54, 56, 57, 56, 49, 54, 68, 52, 65, 52, 53, 67, 67, 67, 53, 68, 54, 53, 66, 54, 57, 50, 54, 67, 55, 48, 52, 56, 53, 48, 70, 68, 69, 68, 66, 57, 68, 65, 53, 69, 49, 53, 52, 54, 53, 55, 65, 55, 56, 68, 57, 68, 56, 52, 57, 48, 68, 56, 65, 66, 48, 48, 56, 67, 66, 67, 68, 51, 48, 65, 70, 55, 69, 52, 53, 56, 48, 53, 66, 56, 66, 51, 52, 53, 48, 54, 68, 48, 50, 67, 49, 69, 56, 70, 67, 65, 51, 70, 48, 70, 48, 50, 67, 49, 65, 70, 66, 68, 48, 51, 48, 49, 49, 51, 56, 65, 54, 66, 51, 65, 57, 49, 49, 49, 52, 49, 52, 70, 54, 55, 68, 67, 69, 65, 57, 55, 70, 50, 67, 70, 67, 69, 70, 48, 66, 52, 69, 54, 55, 51, 57, 54, 65, 67, 55, 52, 50, 50, 69, 55, 65, 68, 51, 53, 56, 53, 69, 50, 70, 57, 51, 55, 69, 56, 49, 67, 55, 53, 68, 70, 54, 69, 52, 55, 70, 49, 49, 65, 55, 49, 49, 68, 50, 57, 67, 53, 56, 57, 54, 70, 66, 55, 54, 50, 48, 69, 65, 65, 49, 56, 66, 69, 49, 66, 70, 67, 53, 54, 51, 69, 52, 66, 67, 54, 68, 50, 55, 57, 50, 48, 57, 65, 68, 66, 67, 48, 70, 69, 55, 56, 67, 68, 53, 65, 70, 52, 49, 70, 68, 68, 65, 56, 51, 51, 56, 56, 48, 55, 67, 55, 51, 49, 66, 49, 49, 50, 49, 48, 53, 57, 50, 55, 56, 48, 69, 67, 53, 70, 54, 48, 53, 49, 55, 70, 65, 57, 49, 57, 66, 53, 52, 65, 48, 68, 50, 68, 69, 53, 55, 65, 57, 70, 57, 51, 67, 57, 57, 67, 69, 70, 65, 48, 69, 48, 51, 66, 52, 68, 65, 69, 50, 65, 70, 53, 66, 48, 67, 56, 69, 66, 66, 66, 51, 67, 56, 51, 53, 51, 57, 57, 54, 49, 49, 55, 50, 66, 48, 52, 55, 69, 66, 65, 55, 55, 68, 54, 50, 54, 69, 49, 54, 57, 49, 52, 54, 51, 53, 53, 50, 49, 48, 67, 55, 68]⟩ : ByteArray) (ji7); replace p10 := eq_true p10; replace q10 := eq_true q10) | (go_at_call 174; (with_reducible refine (clavigerref02_Value.calls k (bt (⟨#[53, 50, 48, 57, 54, 65, 68, 53, 51, 48, 51, 54, 65, 53, 51, 56, 66, 70, 52, 48, 65, 51, 57, 69, 56, 49, 70, 51, 68, 55, 70, 66, 55, 67, 69, 51, 51, 57, 56, 50, 57, 66, 50, 70, 70, 70, 56, 55, 51, 52, 56, 69, 52, 51, 52, 52, 67, 52, 68, 69, 69, 57, 67, 66, 53, 52, 55, 66, 57, 52, 51, 50, 65, 54, 67, 50, 50, 51, 51, 68, 69, 69, 52, 67, 57, 53, 48, 66, 52, 50, 70, 65, 67, 51, 52, 69, 48, 56, 50, 69, 65, 49, 54, 54, 50, 56, 68, 57, 50, 52, 66, 50, 55, 54, 53, 66, 65, 50, 52, 57, 54, 68, 56, 66, 68, 49, 50, 53, 55, 50, 70, 56, 70, 54, 54, 52, 56, 54, 54, 56, 57, 56, 49, 54, 68, 52, 65, 52, 53, 67, 67, 67, 53, 68, 54, 53, 66, 54, 57, 50, 54, 67, 55, 48, 52, 56, 53, 48, 70, 68, 69, 68, 66, 57, 68, 65, 53, 69, 49, 53, 52, 54, 53, 55, 65, 55, 56, 68, 57, 68, 56, 52, 57, 48, 68, 56, 65, 66, 48, 48, 56, 67, 66, 67, 68, 51, 48, 65, 70, 55, 69, 52, 53, 56, 48, 53, 66, 56, 66, 51, 52, 53, 48, 54, 68, 48, 50, 67, 49, 69, 56, 70, 67, 65, 51, 70, 48, 70, 48, 50, 67, 49, 65, 70, 66, 68, 48, 51, 48, 49, 49, 51, 56, 65, 54, 66, 51, 65, 57, 49, 49, 49, 52, 49, 52, 70, 54, 55, 68, 67, 69, 65, 57, 55, 70, 50, 67, 70, 67, 69, 70, 48, 66, 52, 69, 54, 55, 51, 57, 54, 65, 67, 55, 52, 50, 50, 69, 55, 65, 68, 51, 53, 56, 53, 69, 50, 70, 57, 51, 55, 69, 56, 49, 67, 55, 53, 68, 70, 54, 69, 52, 55, 70, 49, 49, 65, 55, 49, 49, 68, 50, 57, 67, 53, 56, 57, 54, 70, 66, 55, 54, 50, 48, 69, 65, 65, 49, 56, 66, 69, 49, 66, 70, 67, 53, 54, 51, 69, 52, 66, 67, 54, 68, 50, 55, 57, 50, 48, 57, 65, 68, 66, 67, 48, 70, 69, 55, 56, 67, 68, 53, 65, 70, 52, 49, 70, 68, 68, 65, 56, 51, 51, 56, 56, 48, 55, 67, 55, 51, 49, 66, 49, 49, 50, 49, 48, 53, 57, 50, 55, 56, 48, 69, 67, 53, 70, 54, 48, 53, 49, 55, 70, 65, 57, 49, 57, 66, 53, 52, 65, 48, 68, 50, 68, 69, 53, 55, 65, 57, 70, 57, 51, 67, 57, 57, 67, 69, 70, 65, 48, 69, 48, 51, 66, 52, 68, 65, 69, 50, 65, 70, 53, 66, 48, 67, 56, 69, 66, 66, 66, 51, 67, 56, 51, 53, 51, 57, 57, 54, 49, 49, 55, 50, 66, 48, 52, 55, 69, 66, 65, 55, 55, 68, 54, 50, 54, 69, 49, 54, 57, 49, 52, 54, 51, 53, 53, 50, 49, 48, 67, 55, 68]⟩ : ByteArray) (ji7)) t2 _ A11.out).mono ?_); rintro e w' ⟨rfl, ⟨nd, rfl⟩⟩; (try first | exact ⟨rfl, _, World.drewN_drewN _ _ _⟩ | exact ⟨rfl, _, Eq.trans (World.drewN_drewN _ _ _) (congrArg (World.drewN _) (Nat.add_assoc _ _ _))⟩)))
     repeat (go_quiet (first | (go_at_call 174; (with_reducible refine (clavigerref02_Value.calls k (bt (⟨#[53, 50, 48, 57, 54, 65, 68, 53, 51, 48, 51, 54, 65, 53, 51, 56, 66, 70, 52, 48, 65, 51, 57, 69, 56, 49, 70, 51, 68, 55, 70, 66, 55, 67, 69, 51, 51, 57, 56, 50, 57, 66, 50, 70, 70, 70, 56, 55, 51, 52, 56, 69, 52, 51, 52, 52, 67, 52, 68, 69, 69, 57, 67, 66, 53, 52, 55, 66, 57, 52, 51, 50, 65, 54, 67, 50, 50, 51, 51, 68, 69, 69, 52, 67, 57, 53, 48, 66, 52, 50, 70, 65, 67, 51, 52, 69, 48, 56, 50, 69, 65, 49, 54, 54, 50, 56, 68, 57, 50, 52, 66, 50, 55, 54, 53, 66, 65, 50, 52, 57, 54, 68, 56, 66, 68, 49, 50, 53, 55, 50, 70, 56, 70, 54, 54, 52, 56, 54, 54, 56, 57, 56, 49, 54, 68, 52, 65, 52, 53, 67, 67, 67, 53, 68, 54, 53, 66, 54, 57, 50, 54, 67, 55, 48, 52, 56, 53, 48, 70, 68, 69, 68, 66, 57, 68, 65, 53, 69, 49, 53, 52, 54, 53, 55, 65, 55, 56, 68, 57, 68, 56, 52, 57, 48, 68, 56, 65, 66, 48, 48, 56, 67, 66, 67, 68, 51, 48, 65, 70, 55, 69, 52, 53, 56, 48, 53, 66, 56, 66, 51, 52, 53, 48, 54, 68, 48, 50, 67, 49, 69, 56, 70, 67, 65, 51, 70, 48, 70, 48, 50, 67, 49, 65, 70, 66, 68, 48, 51, 48, 49, 49, 51, 56, 65, 54, 66, 51, 65, 57, 49, 49, 49, 52, 49, 52, 70, 54, 55, 68, 67, 69, 65, 57, 55, 70, 50, 67, 70, 67, 69, 70, 48, 66, 52, 69, 54, 55, 51, 57, 54, 65, 67, 55, 52, 50, 50, 69, 55, 65, 68, 51, 53, 56, 53, 69, 50, 70, 57, 51, 55, 69, 56, 49, 67, 55, 53, 68, 70, 54, 69, 52, 55, 70, 49, 49, 65, 55, 49, 49, 68, 50, 57, 67, 53, 56, 57, 54, 70, 66, 55, 54, 50, 48, 69, 65, 65, 49, 56, 66, 69, 49, 66, 70, 67, 53, 54, 51, 69, 52, 66, 67, 54, 68, 50, 55, 57, 50, 48, 57, 65, 68, 66, 67, 48, 70, 69, 55, 56, 67, 68, 53, 65, 70, 52, 49, 70, 68, 68, 65, 56, 51, 51, 56, 56, 48, 55, 67, 55, 51, 49, 66, 49, 49, 50, 49, 48, 53, 57, 50, 55, 56, 48, 69, 67, 53, 70, 54, 48, 53, 49, 55, 70, 65, 57, 49, 57, 66, 53, 52, 65, 48, 68, 50, 68, 69, 53, 55, 65, 57, 70, 57, 51, 67, 57, 57, 67, 69, 70, 65, 48, 69, 48, 51, 66, 52, 68, 65, 69, 50, 65, 70, 53, 66, 48, 67, 56, 69, 66, 66, 66, 51, 67, 56, 51, 53, 51, 57, 57, 54, 49, 49, 55, 50, 66, 48, 52, 55, 69, 66, 65, 55, 55, 68, 54, 50, 54, 69, 49, 54, 57, 49, 52, 54, 51, 53, 53, 50, 49, 48, 67, 55, 68]⟩ : ByteArray) (ji2)) t1 _ A6.out).mono ?_); rintro e w' ⟨rfl, ⟨nd, rfl⟩⟩; (try first | exact ⟨rfl, _, World.drewN_drewN _ _ _⟩ | exact ⟨rfl, _, Eq.trans (World.drewN_drewN _ _ _) (congrArg (World.drewN _) (Nat.add_assoc _ _ _))⟩); have p10 : 0 ≤ ((ji7) : Int) := of_decide_eq_true (by assumption); have q10 : (ji7) < (512 : Int) := of_decide_eq_true (by assumption); have hx10 := bt_at (⟨#[53, 50, 48, 57, 54, 65, 68, 53, 51, 48, 51, 54, 65, 53, 51, 56, 66, 70, 52, 48, 65, 51, 57, 69, 56, 49, 70, 51, 68, 55, 70, 66, 55, 67, 69, 51, 51, 57, 56, 50, 57, 66, 50, 70, 70, 70, 56, 55, 51, 52, 56, 69, 52, 51, 52, 52, 67, 52, 68, 69, 69, 57, 67, 66, 53, 52, 55, 66, 57, 52, 51, 50, 65, 54, 67, 50, 50, 51, 51, 68, 69, 69, 52, 67, 57, 53, 48, 66, 52, 50, 70, 65, 67, 51, 52, 69, 48, 56, 50, 69, 65, 49, 54, 54, 50, 56, 68, 57, 50, 52, 66, 50, 55, 54, 53, 66, 65, 50, 52, 57, 54, 68, 56, 66, 68, 49, 50, 53, 55, 50, 70, 56, 70, 54, 54, 52, 56, 54, 54, 56, 57, 56, 49, 54, 68, 52, 65, 52, 53, 67, 67, 67, 53, 68, 54, 53, 66, 54, 57, 50, 54, 67, 55, 48, 52, 56, 53, 48, 70, 68, 69, 68, 66, 57, 68, 65, 53, 69, 49, 53, 52, 54, 53, 55, 65, 55, 56, 68, 57, 68, 56, 52, 57, 48, 68, 56, 65, 66, 48, 48, 56, 67, 66, 67, 68, 51, 48, 65, 70, 55, 69, 52, 53, 56, 48, 53, 66, 56, 66, 51, 52, 53, 48, 54, 68, 48, 50, 67, 49, 69, 56, 70, 67, 65, 51, 70, 48, 70, 48, 50, 67, 49, 65, 70, 66, 68, 48, 51, 48, 49, 49, 51, 56, 65, 54, 66, 51, 65, 57, 49, 49, 49, 52, 49, 52, 70, 54, 55, 68, 67, 69, 65, 57, 55, 70, 50, 67, 70, 67, 69, 70, 48, 66, 52, 69, 54, 55, 51, 57, 54, 65, 67, 55, 52, 50, 50, 69, 55, 65, 68, 51, 53, 56, 53, 69, 50, 70, 57, 51, 55, 69, 56, 49, 67, 55, 53, 68, 70, 54, 69, 52, 55, 70, 49, 49, 65, 55, 49, 49, 68, 50, 57, 67, 53, 56, 57, 54, 70, 66, 55, 54, 50, 48, 69, 65, 65, 49, 56, 66, 69, 49, 66, 70, 67, 53, 54, 51, 69, 52, 66, 67, 54, 68, 50, 55, 57, 50, 48, 57, 65, 68, 66, 67, 48, 70, 69, 55, 56, 67, 68, 53, 65, 70, 52, 49, 70, 68, 68, 65, 56, 51, 51, 56, 56, 48, 55, 67, 55, 51, 49, 66, 49, 49, 50, 49, 48, 53, 57, 50, 55, 56, 48, 69, 67, 53, 70, 54, 48, 53, 49, 55, 70, 65, 57, 49, 57, 66, 53, 52, 65, 48, 68, 50, 68, 69, 53, 55, 65, 57, 70, 57, 51, 67, 57, 57, 67, 69, 70, 65, 48, 69, 48, 51, 66, 52, 68, 65, 69, 50, 65, 70, 53, 66, 48, 67, 56, 69, 66, 66, 66, 51, 67, 56, 51, 53, 51, 57, 57, 54, 49, 49, 55, 50, 66, 48, 52, 55, 69, 66, 65, 55, 55, 68, 54, 50, 54, 69, 49, 54, 57, 49, 52, 54, 51, 53, 53, 50, 49, 48, 67, 55, 68]⟩ : ByteArray) (ji7); replace p10 := eq_true p10; replace q10 := eq_true q10) | (go_at_call 174; (with_reducible refine (clavigerref02_Value.calls k (bt (⟨#[53, 50, 48, 57, 54, 65, 68, 53, 51, 48, 51, 54, 65, 53, 51, 56, 66, 70, 52, 48, 65, 51, 57, 69, 56, 49, 70, 51, 68, 55, 70, 66, 55, 67, 69, 51, 51, 57, 56, 50, 57, 66, 50, 70, 70, 70, 56, 55, 51, 52, 56, 69, 52, 51, 52, 52, 67, 52, 68, 69, 69, 57, 67, 66, 53, 52, 55, 66, 57, 52, 51, 50, 65, 54, 67, 50, 50, 51, 51, 68, 69, 69, 52, 67, 57, 53, 48, 66, 52, 50, 70, 65, 67, 51, 52, 69, 48, 56, 50, 69, 65, 49, 54, 54, 50, 56, 68, 57, 50, 52, 66, 50, 55, 54, 53, 66, 65, 50, 52, 57, 54, 68, 56, 66, 68, 49, 50, 53, 55, 50, 70, 56, 70, 54, 54, 52, 56, 54, 54, 56, 57, 56, 49, 54, 68, 52, 65, 52, 53, 67, 67, 67, 53, 68, 54, 53, 66, 54, 57, 50, 54, 67, 55, 48, 52, 56, 53, 48, 70, 68, 69, 68, 66, 57, 68, 65, 53, 69, 49, 53, 52, 54, 53, 55, 65, 55, 56, 68, 57, 68, 56, 52, 57, 48, 68, 56, 65, 66, 48, 48, 56, 67, 66, 67, 68, 51, 48, 65, 70, 55, 69, 52, 53, 56, 48, 53, 66, 56, 66, 51, 52, 53, 48, 54, 68, 48, 50, 67, 49, 69, 56, 70, 67, 65, 51, 70, 48, 70, 48, 50, 67, 49, 65, 70, 66, 68, 48, 51, 48, 49, 49, 51, 56, 65, 54, 66, 51, 65, 57, 49, 49, 49, 52, 49, 52, 70, 54, 55, 68, 67, 69, 65, 57, 55, 70, 50, 67, 70, 67, 69, 70, 48, 66, 52, 69, 54, 55, 51, 57, 54, 65, 67, 55, 52, 50, 50, 69, 55, 65, 68, 51, 53, 56, 53, 69, 50, 70, 57, 51, 55, 69, 56, 49, 67, 55, 53, 68, 70, 54, 69, 52, 55, 70, 49, 49, 65, 55, 49, 49, 68, 50, 57, 67, 53, 56, 57, 54, 70, 66, 55, 54, 50, 48, 69, 65, 65, 49, 56, 66, 69, 49, 66, 70, 67, 53, 54, 51, 69, 52, 66, 67, 54, 68, 50, 55, 57, 50, 48, 57, 65, 68, 66, 67, 48, 70, 69, 55, 56, 67, 68, 53, 65, 70, 52, 49, 70, 68, 68, 65, 56, 51, 51, 56, 56, 48, 55, 67, 55, 51, 49, 66, 49, 49, 50, 49, 48, 53, 57, 50, 55, 56, 48, 69, 67, 53, 70, 54, 48, 53, 49, 55, 70, 65, 57, 49, 57, 66, 53, 52, 65, 48, 68, 50, 68, 69, 53, 55, 65, 57, 70, 57, 51, 67, 57, 57, 67, 69, 70, 65, 48, 69, 48, 51, 66, 52, 68, 65, 69, 50, 65, 70, 53, 66, 48, 67, 56, 69, 66, 66, 66, 51, 67, 56, 51, 53, 51, 57, 57, 54, 49, 49, 55, 50, 66, 48, 52, 55, 69, 66, 65, 55, 55, 68, 54, 50, 54, 69, 49, 54, 57, 49, 52, 54, 51, 53, 53, 50, 49, 48, 67, 55, 68]⟩ : ByteArray) (ji7)) t2 _ A11.out).mono ?_); rintro e w' ⟨rfl, ⟨nd, rfl⟩⟩; (try first | exact ⟨rfl, _, World.drewN_drewN _ _ _⟩ | exact ⟨rfl, _, Eq.trans (World.drewN_drewN _ _ _) (congrArg (World.drewN _) (Nat.add_assoc _ _ _))⟩))); try go_wp2_with (first | (go_at_call 174; (with_reducible refine (clavigerref02_Value.calls k (bt (⟨#[53, 50, 48, 57, 54, 65, 68, 53, 51, 48, 51, 54, 65, 53, 51, 56, 66, 70, 52, 48, 65, 51, 57, 69, 56, 49, 70, 51, 68, 55, 70, 66, 55, 67, 69, 51, 51, 57, 56, 50, 57, 66, 50, 70, 70, 70, 56, 55, 51, 52, 56, 69, 52, 51, 52, 52, 67, 52, 68, 69, 69, 57, 67, 66, 53, 52, 55, 66, 57, 52, 51, 50, 65, 54, 67, 50, 50, 51, 51, 68, 69, 69, 52, 67, 57, 53, 48, 66, 52, 50, 70, 65, 67, 51, 52, 69, 48, 56, 50, 69, 65, 49, 54, 54, 50, 56, 68, 57, 50, 52, 66, 50, 55, 54, 53, 66, 65, 50, 52, 57, 54, 68, 56, 66, 68, 49, 50, 53, 55, 50, 70, 56, 70, 54, 54, 52, 56, 54, 54, 56, 57, 56, 49, 54, 68, 52, 65, 52, 53, 67, 67, 67, 53, 68, 54, 53, 66, 54, 57, 50, 54, 67, 55, 48, 52, 56, 53, 48, 70, 68, 69, 68, 66, 57, 68, 65, 53, 69, 49, 53, 52, 54, 53, 55, 65, 55, 56, 68, 57, 68, 56, 52, 57, 48, 68, 56, 65, 66, 48, 48, 56, 67, 66, 67, 68, 51, 48, 65, 70, 55, 69, 52, 53, 56, 48, 53, 66, 56, 66, 51, 52, 53, 48, 54, 68, 48, 50, 67, 49, 69, 56, 70, 67, 65, 51, 70, 48, 70, 48, 50, 67, 49, 65, 70, 66, 68, 48, 51, 48, 49, 49, 51, 56, 65, 54, 66, 51, 65, 57, 49, 49, 49, 52, 49, 52, 70, 54, 55, 68, 67, 69, 65, 57, 55, 70, 50, 67, 70, 67, 69, 70, 48, 66, 52, 69, 54, 55, 51, 57, 54, 65, 67, 55, 52, 50, 50, 69, 55, 65, 68, 51, 53, 56, 53, 69, 50, 70, 57, 51, 55, 69, 56, 49, 67, 55, 53, 68, 70, 54, 69, 52, 55, 70, 49, 49, 65, 55, 49, 49, 68, 50, 57, 67, 53, 56, 57, 54, 70, 66, 55, 54, 50, 48, 69, 65, 65, 49, 56, 66, 69, 49, 66, 70, 67, 53, 54, 51, 69, 52, 66, 67, 54, 68, 50, 55, 57, 50, 48, 57, 65, 68, 66, 67, 48, 70, 69, 55, 56, 67, 68, 53, 65, 70, 52, 49, 70, 68, 68, 65, 56, 51, 51, 56, 56, 48, 55, 67, 55, 51, 49, 66, 49, 49, 50, 49, 48, 53, 57, 50, 55, 56, 48, 69, 67, 53, 70, 54, 48, 53, 49, 55, 70, 65, 57, 49, 57, 66, 53, 52, 65, 48, 68, 50, 68, 69, 53, 55, 65, 57, 70, 57, 51, 67, 57, 57, 67, 69, 70, 65, 48, 69, 48, 51, 66, 52, 68, 65, 69, 50, 65, 70, 53, 66, 48, 67, 56, 69, 66, 66, 66, 51, 67, 56, 51, 53, 51, 57, 57, 54, 49, 49, 55, 50, 66, 48, 52, 55, 69, 66, 65, 55, 55, 68, 54, 50, 54, 69, 49, 54, 57, 49, 52, 54, 51, 53, 53, 50, 49, 48, 67, 55, 68]⟩ : ByteArray) (ji2)) t1 _ A6.out).mono ?_); rintro e w' ⟨rfl, ⟨nd, rfl⟩⟩; (try first | exact ⟨rfl, _, World.drewN_drewN _ _ _⟩ | exact ⟨rfl, _, Eq.trans (World.drewN_drewN _ _ _) (congrArg (World.drewN _) (Nat.add_assoc _ _ _))⟩); have p10 : 0 ≤ ((ji7) : Int) := of_decide_eq_true (by assumption); have q10 : (ji7) < (512 : Int) := of_decide_eq_true (by assumption); have hx10 := bt_at (⟨#[53, 50, 48, 57, 54, 65, 68, 53, 51, 48, 51, 54, 65, 53, 51, 56, 66, 70, 52, 48, 65, 51, 57, 69, 56, 49, 70, 51, 68, 55, 70, 66, 55, 67, 69, 51, 51, 57, 56, 50, 57, 66, 50, 70, 70, 70, 56, 55, 51, 52, 56, 69, 52, 51, 52, 52, 67, 52, 68, 69, 69, 57, 67, 66, 53, 52, 55, 66, 57, 52, 51, 50, 65, 54, 67, 50, 50, 51, 51, 68, 69, 69, 52, 67, 57, 53, 48, 66, 52, 50, 70, 65, 67, 51, 52, 69, 48, 56, 50, 69, 65, 49, 54, 54, 50, 56, 68, 57, 50, 52, 66, 50, 55, 54, 53, 66, 65, 50, 52, 57, 54, 68, 56, 66, 68, 49, 50, 53, 55, 50, 70, 56, 70, 54, 54, 52, 56, 54, 54, 56, 57, 56, 49, 54, 68, 52, 65, 52, 53, 67, 67, 67, 53, 68, 54, 53, 66, 54, 57, 50, 54, 67, 55, 48, 52, 56, 53, 48, 70, 68, 69, 68, 66, 57, 68, 65, 53, 69, 49, 53, 52, 54, 53, 55, 65, 55, 56, 68, 57, 68, 56, 52, 57, 48, 68, 56, 65, 66, 48, 48, 56, 67, 66, 67, 68, 51, 48, 65, 70, 55, 69, 52, 53, 56, 48, 53, 66, 56, 66, 51, 52, 53, 48, 54, 68, 48, 50, 67, 49, 69, 56, 70, 67, 65, 51, 70, 48, 70, 48, 50, 67, 49, 65, 70, 66, 68, 48, 51, 48, 49, 49, 51, 56, 65, 54, 66, 51, 65, 57, 49, 49, 49, 52, 49, 52, 70, 54, 55, 68, 67, 69, 65, 57, 55, 70, 50, 67, 70, 67, 69, 70, 48, 66, 52, 69, 54, 55, 51, 57, 54, 65, 67, 55, 52, 50, 50, 69, 55, 65, 68, 51, 53, 56, 53, 69, 50, 70, 57, 51, 55, 69, 56, 49, 67, 55, 53, 68, 70, 54, 69, 52, 55, 70, 49, 49, 65, 55, 49, 49, 68, 50, 57, 67, 53, 56, 57, 54, 70, 66, 55, 54, 50, 48, 69, 65, 65, 49, 56, 66, 69, 49, 66, 70, 67, 53, 54, 51, 69, 52, 66, 67, 54, 68, 50, 55, 57, 50, 48, 57, 65, 68, 66, 67, 48, 70, 69, 55, 56, 67, 68, 53, 65, 70, 52, 49, 70, 68, 68, 65, 56, 51, 51, 56, 56, 48, 55, 67, 55, 51, 49, 66, 49, 49, 50, 49, 48, 53, 57, 50, 55, 56, 48, 69, 67, 53, 70, 54, 48, 53, 49, 55, 70, 65, 57, 49, 57, 66, 53, 52, 65, 48, 68, 50, 68, 69, 53, 55, 65, 57, 70, 57, 51, 67, 57, 57, 67, 69, 70, 65, 48, 69, 48, 51, 66, 52, 68, 65, 69, 50, 65, 70, 53, 66, 48, 67, 56, 69, 66, 66, 66, 51, 67, 56, 51, 53, 51, 57, 57, 54, 49, 49, 55, 50, 66, 48, 52, 55, 69, 66, 65, 55, 55, 68, 54, 50, 54, 69, 49, 54, 57, 49, 52, 54, 51, 53, 53, 50, 49, 48, 67, 55, 68]⟩ : ByteArray) (ji7); replace p10 := eq_true p10; replace q10 := eq_true q10) | (go_at_call 174; (with_reducible refine (clavigerref02_Value.calls k (bt (⟨#[53, 50, 48, 57, 54, 65, 68, 53, 51, 48, 51, 54, 65, 53, 51, 56, 66, 70, 52, 48, 65, 51, 57, 69, 56, 49, 70, 51, 68, 55, 70, 66, 55, 67, 69, 51, 51, 57, 56, 50, 57, 66, 50, 70, 70, 70, 56, 55, 51, 52, 56, 69, 52, 51, 52, 52, 67, 52, 68, 69, 69, 57, 67, 66, 53, 52, 55, 66, 57, 52, 51, 50, 65, 54, 67, 50, 50, 51, 51, 68, 69, 69, 52, 67, 57, 53, 48, 66, 52, 50, 70, 65, 67, 51, 52, 69, 48, 56, 50, 69, 65, 49, 54, 54, 50, 56, 68, 57, 50, 52, 66, 50, 55, 54, 53, 66, 65, 50, 52, 57, 54, 68, 56, 66, 68, 49, 50, 53, 55, 50, 70, 56, 70, 54, 54, 52, 56, 54, 54, 56, 57, 56, 49, 54, 68, 52, 65, 52, 53, 67, 67, 67, 53, 68, 54, 53, 66, 54, 57, 50, 54, 67, 55, 48, 52, 56, 53, 48, 70, 68, 69, 68, 66, 57, 68, 65, 53, 69, 49, 53, 52, 54, 53, 55, 65, 55, 56, 68, 57, 68, 56, 52, 57, 48, 68, 56, 65, 66, 48, 48, 56, 67, 66, 67, 68, 51, 48, 65, 70, 55, 69, 52, 53, 56, 48, 53, 66, 56, 66, 51, 52, 53, 48, 54, 68, 48, 50, 67, 49, 69, 56, 70, 67, 65, 51, 70, 48, 70, 48, 50, 67, 49, 65, 70, 66, 68, 48, 51, 48, 49, 49, 51, 56, 65, 54, 66, 51, 65, 57, 49, 49, 49, 52, 49, 52, 70, 54, 55, 68, 67, 69, 65, 57, 55, 70, 50, 67, 70, 67, 69, 70, 48, 66, 52, 69, 54, 55, 51, 57, 54, 65, 67, 55, 52, 50, 50, 69, 55, 65, 68, 51, 53, 56, 53, 69, 50, 70, 57, 51, 55, 69, 56, 49, 67, 55, 53, 68, 70, 54, 69, 52, 55, 70, 49, 49, 65, 55, 49, 49, 68, 50, 57, 67, 53, 56, 57, 54, 70, 66, 55, 54, 50, 48, 69, 65, 65, 49, 56, 66, 69, 49, 66, 70, 67, 53, 54, 51, 69, 52, 66, 67, 54, 68, 50, 55, 57, 50, 48, 57, 65, 68, 66, 67, 48, 70, 69, 55, 56, 67, 68, 53, 65, 70, 52, 49, 70, 68, 68, 65, 56, 51, 51, 56, 56, 48, 55, 67, 55, 51, 49, 66, 49, 49, 50, 49, 48, 53, 57, 50, 55, 56, 48, 69, 67, 53, 70, 54, 48, 53, 49, 55, 70, 65, 57, 49, 57, 66, 53, 52, 65, 48, 68, 50, 68, 69, 53, 55, 65, 57, 70, 57, 51, 67, 57, 57, 67, 69, 70, 65, 48, 69, 48, 51, 66, 52, 68, 65, 69, 50, 65, 70, 53, 66, 48, 67, 56, 69, 66, 66, 66, 51, 67, 56, 51, 53, 51, 57, 57, 54, 49, 49, 55, 50, 66, 48, 52, 55, 69, 66, 65, 55, 55, 68, 54, 50, 54, 69, 49, 54, 57, 49, 52, 54, 51, 53, 53, 50, 49, 48, 67, 55, 68]⟩ : ByteArray) (ji7)) t2 _ A11.out).mono ?_); rintro e w' ⟨rfl, ⟨nd, rfl⟩⟩; (try first | exact ⟨rfl, _, World.drewN_drewN _ _ _⟩ | exact ⟨rfl, _, Eq.trans (World.drewN_drewN _ _ _) (congrArg (World.drewN _) (Nat.add_assoc _ _ _))⟩))))
     go_ret
     exact ⟨by first | rfl | (simp; done) | (simp only [← hji2, ← hji7] <;> (first | rfl | (simp; done) | (simp [IntKind.wrap_u8, IntKind.wrap_i64, wrap64]; done))) | (simp [*]; done) | (simp [IntKind.wrap_u8, IntKind.wrap_i64, wrap64]; done), by repeat (first | exact Drawn0.refl _ | apply Drawn0.step)⟩
    ·rw [if_neg c9] at H
     exact absurd H (by simp)
   ·rw [if_neg c8] at H
    exact absurd H (by simp)
  ·rw [if_neg c4] at H
   exact absurd H (by simp)
 ·rw [if_neg c3] at H
  exact absurd H (by simp)

def clavigerref06_Backs.l0 : Nat → ByteArray → ByteArray → Int → Option (ByteArray)
 | 0, _, _, _ => none
 | k + 1, x0, x3, x4 => if x4 < (x0.size : Int) then (if 0 ≤ x4 then ((clavigerref06_Back.f k (bt x0 x4)).bind fun t1 => ((some (([t1] : List Int) : List Int)).bind fun y2 => (if x3.size + (strOfNums y2).size ≤ 9223372036854775807 then (clavigerref06_Backs.l0 k x0 (x3 ++ (strOfNums y2)) (wrap64 (x4 + 1))) else (none)))) else (none)) else (some x3)
def clavigerref06_Backs.f (k : Nat) (a0 : ByteArray) : Option (ByteArray) := clavigerref06_Backs.l0 k a0 (⟨#[]⟩ : ByteArray) 0
theorem clavigerref06_Backs.mono_l : ∀ k, (∀ y3 y4 y5, LeO (clavigerref06_Backs.l0 k y3 y4 y5) (clavigerref06_Backs.l0 (k + 1) y3 y4 y5))
 | 0 => fun _ _ _ r h => by simp [clavigerref06_Backs.l0] at h
 | k + 1 => by
  have ih0 := clavigerref06_Backs.mono_l k
  ·intro y3 y4 y5
   unfold clavigerref06_Backs.l0
   repeat' first
   | (with_reducible exact ih0 _ _ _)
   | (with_reducible exact clavigerref06_Back.mono _ _)
   | (with_reducible exact LeO.refl _)
   | (with_reducible exact LeO.none _)
   | (with_reducible refine LeO.ite ?_ ?_)
   | (with_reducible refine LeO.bind ?_ (fun _ => ?_))
theorem clavigerref06_Backs.mono : ∀ a0 k, LeO (clavigerref06_Backs.f k a0) (clavigerref06_Backs.f (k + 1) a0) := by
 intro a0 k
 have ih0 := clavigerref06_Backs.mono_l k
 unfold clavigerref06_Backs.f
 repeat' first
   | (with_reducible exact ih0 _ _ _)
   | (with_reducible exact clavigerref06_Back.mono _ _)
   | (with_reducible exact LeO.refl _)
   | (with_reducible exact LeO.none _)
   | (with_reducible refine LeO.ite ?_ ?_)
   | (with_reducible refine LeO.bind ?_ (fun _ => ?_))
set_option maxHeartbeats 8000000 in
set_option maxRecDepth 100000 in
theorem clavigerref06_Backs.calls (k : Nat) (a0 : ByteArray) (r : ByteArray) (w : World) (h : clavigerref06_Backs.f k a0 = some r) :
  Calls Try.prog 69 #[.string a0] w fun e w' => e = .returned (.string r) ∧ Below w.heap.size w w' := by
 have HB := Aside0.mk (Below.refl w.heap.size w)
 have H : (clavigerref06_Backs.l0 k a0 (⟨#[]⟩ : ByteArray) 0) = some r := h
 clear h
 have H' := Aside0.mk H
 clear H
 go_enter Try.func69, Try.ntmps69
 go_wp2
 go_loopg [3, 4] k (fun kq v3 v4 w' => ∃ (x3_1 : ByteArray) (x4_1 : Int), v3 = .string x3_1 ∧ v4 = .int .i64 x4_1 ∧ Aside0 (clavigerref06_Backs.l0 kq a0 x3_1 x4_1 = some r) ∧ Aside0 (kq ≤ k) ∧ Aside0 (Below w.heap.size w w'))
 case atStart => exact ⟨((⟨#[]⟩ : ByteArray)), (0), (by first | rfl | (simp; done) | (simp [*]; done)), (by first | rfl | (simp; done) | (simp [*]; done)), H', ⟨Nat.le_refl _⟩, ⟨by repeat first | with_reducible (first | exact HB.out | apply bA | apply bN | apply bD) | exact HB.out⟩⟩
 case round =>
  clear H'
  obtain ⟨x3_1, x4_1, rfl, rfl, HA, HK1, HB⟩ := hrel
  cases gk with
  | zero => exact absurd HA.out (by simp [clavigerref06_Backs.l0])
  | succ k1 =>
   have H := HA.out
   clear HA
   simp only [clavigerref06_Backs.l0] at H
   by_cases c2 : x4_1 < (a0.size : Int)
   ·rw [if_pos c2] at H
    have c2b0 : decide (x4_1 < (a0.size : Int)) = true := decide_eq_true c2
    clear c2
    by_cases c3 : 0 ≤ x4_1
    ·rw [if_pos c3] at H
     have c3b0 : decide (0 ≤ x4_1) = true := decide_eq_true c3
     clear c3
     replace H := Option.bind_eq_some_iff.mp H
     obtain ⟨t1, A50, H⟩ := H
     try dsimp only at H
     have A5 := Aside0.mk A50
     clear A50
     obtain ⟨y2, hy2⟩ : ∃ y_ : List Int, y_ = (([t1] : List Int)) := ⟨_, rfl⟩
     replace H : (if x3_1.size + (strOfNums y2).size ≤ 9223372036854775807 then (clavigerref06_Backs.l0 k1 a0 (x3_1 ++ (strOfNums y2)) (wrap64 (x4_1 + 1))) else (none)) = some r := by first | (rw [hy2]; with_reducible exact H) | (have H2_ := (Option.bind_some _ _).symm.trans H; rw [hy2]; with_reducible exact H2_) | (have H2_ := (Option.bind_some _ _).symm.trans H; with_reducible exact H2_) | with_reducible exact H | (rw [hy2]; exact H) | exact H
     have Ny5001 := Aside0.mk hy2
     clear hy2
     by_cases c6 : x3_1.size + (strOfNums y2).size ≤ 9223372036854775807
     ·rw [if_pos c6] at H
      have c6b0 := eq_true c6
      have c6b1 : decide (x3_1.size + (strOfNums y2).size ≤ 9223372036854775807) = true := decide_eq_true c6
      try have c6b2 : (9223372036854775807 < x3_1.size + (strOfNums y2).size) = False := eq_false (Nat.not_lt.2 c6)
      have H' := Aside0.mk H
      clear H
      have p4 : 0 ≤ (x4_1 : Int) := of_decide_eq_true (by assumption)
      have q4 : x4_1 < (a0.size : Int) := of_decide_eq_true (by assumption)
      have hx4 := bt_at a0 x4_1
      replace p4 := eq_true p4
      replace q4 := eq_true q4
      go_wp2_with (first | ((with_reducible refine gate_callee (f := 65) rfl ?_); refine goesL_ (some 15) rfl rfl Try.func65 (by kernel_rfl) rfl #[.int .u8 (bt a0 x4_1)] rfl (by (try simp only [lT, lC, lN]); first | done | rfl) ?_; (with_reducible refine (clavigerref06_Back.calls k1 (bt a0 x4_1) t1 _ A5.out).mono ?_); rintro e w' ⟨rfl, ⟨nd, rfl⟩⟩; refine ⟨_, rfl, ?_⟩) | ((with_reducible refine gate_dst (N := 16) rfl ?_); refine Kd.R_lit (Kd.int .u8) _ 5 ?hg (N := 16) ?hd (xs := ([t1] : List Int)) (inner := [.int .u8 t1]) (ok := fun _ => True) (okp := fun _ => True) ?hr ?hp (fun _ hk => hk) trivial (Below.refl _ _) (Nat.le_refl _) (by simp) ?_; (case hd => rfl); (case hg => rfl); (case hr => first | (go_simp; done) | (go_simp; rfl)); (case hp => exact (Reps.one (show Kd.M (Kd.int .u8) _ _ _ t1 [.int .u8 t1] from rfl) (Reps.none _ _))); intro v430 w7 ho8 hb hg_ hnew_; clear hg_ hnew_; (first | rw [← Ny5001.out] at ho8 | (simp only [Int.reduceToNat] at ho8; rw [← Ny5001.out] at ho8)); have n0_ := Aside0.mk (Kd.R_lower ho8 (below_size (by repeat first | with_reducible (first | exact HB.out | apply bA | apply bN | apply bD) | exact HB.out))); have n1_ := Aside0.mk (below_step (by repeat first | with_reducible (first | exact HB.out | apply bA | apply bN | apply bD) | exact HB.out) hb); clear HB; have HO431 := n0_; have HB := n1_; clear n0_ n1_; clear hb ho8; have hcv9 := own_string (P := Try.prog) Try.underlying66 Try.underlying5 Try.underlying9 (Kd.own_of_R HO431.out)))
      go_roundg k1
      case measure => have := HK1.out; omega
      case rel => exact ⟨(x3_1 ++ (strOfNums y2)), (wrap64 (x4_1 + 1)), (by first | rfl | (simp; done) | (simp [*]; done)), (by first | rfl | (simp; done) | (simp [*]; done)), H', ⟨by have := HK1.out; omega⟩, ⟨by repeat first | with_reducible (first | exact HB.out | apply bA | apply bN | apply bD) | exact HB.out⟩⟩
     ·rw [if_neg c6] at H
      exact absurd H (by simp)
    ·rw [if_neg c3] at H
     exact absurd H (by simp)
   ·rw [if_neg c2] at H
    have c2b0 : decide (x4_1 < (a0.size : Int)) = false := decide_eq_false c2
    clear c2
    obtain rfl := Option.some.inj H
    go_wp2
    go_ret
    exact ⟨by first | rfl | (simp [*, errW_none, errW_some] <;> rfl), by repeat first | with_reducible (first | exact HB.out | apply bA | apply bN | apply bD) | exact HB.out⟩

end Go.Proofs.Ytokkhnjedmlbhaa.Pr
