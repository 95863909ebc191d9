-- written by the session's program wip/hp.py over the kit's print; Lean checks it
import Derived.Test.YtokkhnjedmlbhaaZFieldP
import Derived.Test.YtokkhnjedmlbhaaZPrg06
import Derived.Test.YtokkhnjedmlbhaaZPrg01x
namespace Go.Proofs.Ytokkhnjedmlbhaa.Pr
open Go.RowKit Go.Proofs.YtokkhnjedmlbhaaW.PrintWords Go.Proofs.YtokkhnjedmlbhaaW.PrintLast Go.Proofs.YtokkhnjedmlbhaaW.PrintMore
attribute [local go_sem] max2_int min2_int max_two min_two max_three min_three max_four min_four   -- for this text's walks alone
set_option linter.unusedVariables false
set_option linter.unusedSimpArgs false

def clavigerref08_Rounds.f (a0 : Int) : Option (Int) := if a0 = 16 then (some (wrap64 ((wrap64 (Int.tdiv a0 4)) + 6))) else (if a0 = 24 then (some (wrap64 ((wrap64 (Int.tdiv a0 4)) + 6))) else (if a0 = 32 then (some (wrap64 ((wrap64 (Int.tdiv a0 4)) + 6))) else (some 0)))
set_option maxHeartbeats 8000000 in
set_option maxRecDepth 100000 in
theorem clavigerref08_Rounds.calls (a0 : Int) (r : Int) (w : World) (h : clavigerref08_Rounds.f a0 = some r) :
  Calls Try.prog 92 #[.int .i64 a0] w fun e w' => e = .returned (.int .i64 r) ∧ Drawn0 w w' := by
 have H : (if a0 = 16 then (some (wrap64 ((wrap64 (Int.tdiv a0 4)) + 6))) else (if a0 = 24 then (some (wrap64 ((wrap64 (Int.tdiv a0 4)) + 6))) else (if a0 = 32 then (some (wrap64 ((wrap64 (Int.tdiv a0 4)) + 6))) else (some 0)))) = some r := h
 clear h
 by_cases c2 : a0 = 16
 ·rw [if_pos c2] at H
  have c2b0 : (a0 == 16) = true := beq_iff_eq.mpr c2
  have c2b1 : (a0 != 16) = false := bne_eq_false_iff_eq.mpr c2
  clear c2
  obtain rfl := Option.some.inj H
  go_enter Try.func92, Try.ntmps92
  go_wp2
  go_ret
  exact ⟨by first | rfl | (simp; done) | (simp [*]; done) | (simp [IntKind.wrap_u8, IntKind.wrap_i64, wrap64]; done), by repeat (first | exact Drawn0.refl _ | apply Drawn0.step)⟩
 ·rw [if_neg c2] at H
  have c2b0 : (a0 == 16) = false := beq_eq_false_iff_ne.mpr c2
  have c2b1 : (a0 != 16) = true := bne_iff_ne.mpr c2
  by_cases c3 : a0 = 24
  ·rw [if_pos c3] at H
   have c3b0 : (a0 == 24) = true := beq_iff_eq.mpr c3
   have c3b1 : (a0 != 24) = false := bne_eq_false_iff_eq.mpr c3
   clear c3
   obtain rfl := Option.some.inj H
   go_enter Try.func92, Try.ntmps92
   go_wp2
   go_ret
   exact ⟨by first | rfl | (simp; done) | (simp [*]; done) | (simp [IntKind.wrap_u8, IntKind.wrap_i64, wrap64]; done), by repeat (first | exact Drawn0.refl _ | apply Drawn0.step)⟩
  ·rw [if_neg c3] at H
   have c3b0 : (a0 == 24) = false := beq_eq_false_iff_ne.mpr c3
   have c3b1 : (a0 != 24) = true := bne_iff_ne.mpr c3
   by_cases c4 : a0 = 32
   ·rw [if_pos c4] at H
    have c4b0 : (a0 == 32) = true := beq_iff_eq.mpr c4
    have c4b1 : (a0 != 32) = false := bne_eq_false_iff_eq.mpr c4
    clear c4
    obtain rfl := Option.some.inj H
    go_enter Try.func92, Try.ntmps92
    go_wp2
    go_ret
    exact ⟨by first | rfl | (simp; done) | (simp [*]; done) | (simp [IntKind.wrap_u8, IntKind.wrap_i64, wrap64]; done), by repeat (first | exact Drawn0.refl _ | apply Drawn0.step)⟩
   ·rw [if_neg c4] at H
    have c4b0 : (a0 == 32) = false := beq_eq_false_iff_ne.mpr c4
    have c4b1 : (a0 != 32) = true := bne_iff_ne.mpr c4
    obtain rfl := Option.some.inj H
    go_enter Try.func92, Try.ntmps92
    go_wp2
    go_ret
    exact ⟨by first | rfl | (simp; done) | (simp [*]; done) | (simp [IntKind.wrap_u8, IntKind.wrap_i64, wrap64]; done), by repeat (first | exact Drawn0.refl _ | apply Drawn0.step)⟩

def clavigerref08_Constant.f (k : Nat) (a0 : Int) : Option (Int) := if a0 < 1 then (some 0) else (if a0 > 255 then (some 0) else ((clavigerref05_Pow.f k 2 (wrap64 (a0 - 1))).bind fun t1 => (some t1)))
theorem clavigerref08_Constant.mono : ∀ a0 k, LeO (clavigerref08_Constant.f k a0) (clavigerref08_Constant.f (k + 1) a0) := by
 intro a0 k
 unfold clavigerref08_Constant.f
 repeat' first
   | (with_reducible exact clavigerref05_Pow.mono _ _ _)
   | (with_reducible exact LeO.refl _)
   | (with_reducible exact LeO.none _)
   | (with_reducible refine LeO.ite ?_ ?_)
   | (with_reducible refine LeO.bind ?_ (fun _ => ?_))
set_option maxHeartbeats 8000000 in
set_option maxRecDepth 100000 in
theorem clavigerref08_Constant.calls (k : Nat) (a0 : Int) (r : Int) (w : World) (h : clavigerref08_Constant.f k a0 = some r) :
  Calls Try.prog 94 #[.int .i64 a0] w fun e w' => e = .returned (.int .u8 r) ∧ Drawn0 w w' := by
 have H : (if a0 < 1 then (some 0) else (if a0 > 255 then (some 0) else ((clavigerref05_Pow.f k 2 (wrap64 (a0 - 1))).bind fun t1 => (some t1)))) = some r := h
 clear h
 by_cases c2 : a0 < 1
 ·rw [if_pos c2] at H
  have c2b0 : decide (a0 < 1) = true := decide_eq_true c2
  clear c2
  obtain rfl := Option.some.inj H
  go_enter Try.func94, Try.ntmps94
  go_wp2
  go_ret
  exact ⟨by first | rfl | (simp; done) | (simp [*]; done) | (simp [IntKind.wrap_u8, IntKind.wrap_i64, wrap64]; done), by repeat (first | exact Drawn0.refl _ | apply Drawn0.step)⟩
 ·rw [if_neg c2] at H
  have c2b0 : decide (a0 < 1) = false := decide_eq_false c2
  clear c2
  by_cases c3 : a0 > 255
  ·rw [if_pos c3] at H
   have c3b0 : decide (255 < a0) = true := decide_eq_true c3
   clear c3
   obtain rfl := Option.some.inj H
   go_enter Try.func94, Try.ntmps94
   go_wp2
   go_ret
   exact ⟨by first | rfl | (simp; done) | (simp [*]; done) | (simp [IntKind.wrap_u8, IntKind.wrap_i64, wrap64]; done), by repeat (first | exact Drawn0.refl _ | apply Drawn0.step)⟩
  ·rw [if_neg c3] at H
   have c3b0 : decide (255 < a0) = false := decide_eq_false c3
   clear c3
   replace H := Option.bind_eq_some_iff.mp H
   obtain ⟨t1, A40, H⟩ := H
   replace H : (some t1) = some r := H
   have A4 := Aside0.mk A40
   clear A40
   obtain rfl := Option.some.inj H
   go_enter Try.func94, Try.ntmps94
   go_wp2_with (first | ((with_reducible refine gate_callee (f := 46) rfl ?_); refine goesL_ (some 11) rfl rfl Try.func46 (by kernel_rfl) rfl #[.int .u8 2, .int .i64 (wrap64 (a0 - 1))] rfl (by (try simp only [lT, lC, lN]); first | done | rfl) ?_; (with_reducible refine (clavigerref05_Pow.calls k 2 (wrap64 (a0 - 1)) t1 _ A4.out).mono ?_); rintro e w' ⟨rfl, ⟨nd, rfl⟩⟩; refine ⟨_, rfl, ?_⟩))
   go_ret
   exact ⟨by first | rfl | (simp; done) | (simp [*]; done) | (simp [IntKind.wrap_u8, IntKind.wrap_i64, wrap64]; done), by repeat (first | exact Drawn0.refl _ | apply Drawn0.step)⟩

mutual
def clavigerref08_Words.l0 : Nat → ByteArray → List ByteArray → Int → Int → Option (List ByteArray)
 | 0, _, _, _, _ => none
 | k + 1, x0, x3, x4, x5 => (clavigerref08_Rounds.f (x0.size : Int)).bind fun t1 => (if x5 < (wrap64 ((wrap64 (4 * t1)) + 4)) then (if x5 < x4 then (if 0 ≤ (wrap64 (4 * x5)) then (if (wrap64 (4 * x5)) ≤ (wrap64 ((wrap64 (4 * x5)) + 4)) then (if (wrap64 ((wrap64 (4 * x5)) + 4)) ≤ (x0.size : Int) then (if x3.length < 8796093022208 then (clavigerref08_Words.l0 k x0 (x3 ++ [x0.extract ((wrap64 (4 * x5)) : Int).toNat ((wrap64 ((wrap64 (4 * x5)) + 4)) : Int).toNat]) x4 (wrap64 (x5 + 1))) else (none)) else (none)) else (none)) else (none)) else (if 0 ≤ (wrap64 (x5 - 1)) then (if (wrap64 (x5 - 1)) < (x3.length : Int) then (if x4 = 0 then (none) else (if (Int.tmod x5 x4) = 0 then (if 1 ≤ 4 then (if 4 ≤ ((rdOf ByteArray.empty x3 (wrap64 (x5 - 1))).size : Int) then (if 0 ≤ 1 then (if 1 ≤ ((rdOf ByteArray.empty x3 (wrap64 (x5 - 1))).size : Int) then (if ((rdOf ByteArray.empty x3 (wrap64 (x5 - 1))).extract 1 4).size + ((rdOf ByteArray.empty x3 (wrap64 (x5 - 1))).extract 0 1).size ≤ 9223372036854775807 then ((clavigerref06_Subs.f k (((rdOf ByteArray.empty x3 (wrap64 (x5 - 1))).extract 1 4) ++ ((rdOf ByteArray.empty x3 (wrap64 (x5 - 1))).extract 0 1))).bind fun t2 => ((clavigerref08_Constant.f k (wrap64 (Int.tdiv x5 x4))).bind fun t3 => ((clavigerref01_Xor.f k t2 (strOfNums (([t3, 0, 0, 0] : List Int)))).bind fun t4 => (if 0 ≤ (wrap64 (x5 - x4)) then (if (wrap64 (x5 - x4)) < (x3.length : Int) then ((clavigerref01_Xor.f k (rdOf ByteArray.empty x3 (wrap64 (x5 - x4))) t4).bind fun t5 => (if x3.length < 8796093022208 then (clavigerref08_Words.l0 k x0 (x3 ++ [t5]) x4 (wrap64 (x5 + 1))) else (none))) else (none)) else (none))))) else (none)) else (none)) else (none)) else (none)) else (none)) else (if x4 = 8 then (clavigerref08_Words.j1 k x0 x3 x4 x5 (rdOf ByteArray.empty x3 (wrap64 (x5 - 1))) ((Int.tmod x5 8) == 4)) else (clavigerref08_Words.j1 k x0 x3 x4 x5 (rdOf ByteArray.empty x3 (wrap64 (x5 - 1))) false)))) else (none)) else (none))) else (some x3))
def clavigerref08_Words.j1 : Nat → ByteArray → List ByteArray → Int → Int → ByteArray → Bool → Option (List ByteArray)
 | 0, _, _, _, _, _, _ => none
 | k + 1, x0, x3, x4, x5, x6, x66 => if x66 = true then ((clavigerref06_Subs.f k x6).bind fun t6 => (if 0 ≤ (wrap64 (x5 - x4)) then (if (wrap64 (x5 - x4)) < (x3.length : Int) then ((clavigerref01_Xor.f k (rdOf ByteArray.empty x3 (wrap64 (x5 - x4))) t6).bind fun t7 => (if x3.length < 8796093022208 then (clavigerref08_Words.l0 k x0 (x3 ++ [t7]) x4 (wrap64 (x5 + 1))) else (none))) else (none)) else (none))) else (if 0 ≤ (wrap64 (x5 - x4)) then (if (wrap64 (x5 - x4)) < (x3.length : Int) then ((clavigerref01_Xor.f k (rdOf ByteArray.empty x3 (wrap64 (x5 - x4))) x6).bind fun t8 => (if x3.length < 8796093022208 then (clavigerref08_Words.l0 k x0 (x3 ++ [t8]) x4 (wrap64 (x5 + 1))) else (none))) else (none)) else (none))
end
def clavigerref08_Words.f (k : Nat) (a0 : ByteArray) : Option (List ByteArray) := (clavigerref08_Rounds.f (a0.size : Int)).bind fun t9 => (if t9 = 0 then (some ([] : List ByteArray)) else (clavigerref08_Words.l0 k a0 ([] : List ByteArray) (wrap64 ((a0.size : Int) / 4)) 0))
theorem clavigerref08_Words.mono_l : ∀ k, (∀ y10 y11 y12 y13, LeO (clavigerref08_Words.l0 k y10 y11 y12 y13) (clavigerref08_Words.l0 (k + 1) y10 y11 y12 y13)) ∧ (∀ y10 y11 y12 y13 y14 y15, LeO (clavigerref08_Words.j1 k y10 y11 y12 y13 y14 y15) (clavigerref08_Words.j1 (k + 1) y10 y11 y12 y13 y14 y15))
 | 0 => ⟨fun _ _ _ _ r h => by simp [clavigerref08_Words.l0] at h, fun _ _ _ _ _ _ r h => by simp [clavigerref08_Words.j1] at h⟩
 | k + 1 => by
  obtain ⟨ih0, ih1⟩ := clavigerref08_Words.mono_l k
  refine ⟨?_, ?_⟩
  ·intro y10 y11 y12 y13
   unfold clavigerref08_Words.l0
   repeat' first
   | (with_reducible exact ih0 _ _ _ _)
   | (with_reducible exact ih1 _ _ _ _ _ _)
   | (with_reducible exact clavigerref01_Xor.mono _ _ _)
   | (with_reducible exact clavigerref06_Subs.mono _ _)
   | (with_reducible exact clavigerref08_Constant.mono _ _)
   | (with_reducible exact LeO.refl _)
   | (with_reducible exact LeO.none _)
   | (with_reducible refine LeO.ite ?_ ?_)
   | (with_reducible refine LeO.bind ?_ (fun _ => ?_))
  ·intro y10 y11 y12 y13 y14 y15
   unfold clavigerref08_Words.j1
   repeat' first
   | (with_reducible exact ih0 _ _ _ _)
   | (with_reducible exact ih1 _ _ _ _ _ _)
   | (with_reducible exact clavigerref01_Xor.mono _ _ _)
   | (with_reducible exact clavigerref06_Subs.mono _ _)
   | (with_reducible exact clavigerref08_Constant.mono _ _)
   | (with_reducible exact LeO.refl _)
   | (with_reducible exact LeO.none _)
   | (with_reducible refine LeO.ite ?_ ?_)
   | (with_reducible refine LeO.bind ?_ (fun _ => ?_))
theorem clavigerref08_Words.mono : ∀ a0 k, LeO (clavigerref08_Words.f k a0) (clavigerref08_Words.f (k + 1) a0) := by
 intro a0 k
 obtain ⟨ih0, ih1⟩ := clavigerref08_Words.mono_l k
 unfold clavigerref08_Words.f
 repeat' first
   | (with_reducible exact ih0 _ _ _ _)
   | (with_reducible exact ih1 _ _ _ _ _ _)
   | (with_reducible exact clavigerref01_Xor.mono _ _ _)
   | (with_reducible exact clavigerref06_Subs.mono _ _)
   | (with_reducible exact clavigerref08_Constant.mono _ _)
   | (with_reducible exact LeO.refl _)
   | (with_reducible exact LeO.none _)
   | (with_reducible refine LeO.ite ?_ ?_)
   | (with_reducible refine LeO.bind ?_ (fun _ => ?_))
set_option maxHeartbeats 8000000 in
set_option maxRecDepth 100000 in
theorem clavigerref08_Words.calls (k : Nat) (a0 : ByteArray) (r : List ByteArray) (w : World) (h : clavigerref08_Words.f k a0 = some r) :
  Calls Try.prog 96 #[.string a0] w fun e w' => ∃ v0_ : Value, e = .returned (v0_) ∧ Kd.R Kd.string 9 w' w.heap.size (fun _ => True) v0_ r ∧ Below w.heap.size w w' := by
 have HB := Aside0.mk (Below.refl w.heap.size w)
 have H : ((clavigerref08_Rounds.f (a0.size : Int)).bind fun t9 => (if t9 = 0 then (some ([] : List ByteArray)) else (clavigerref08_Words.l0 k a0 ([] : List ByteArray) (wrap64 ((a0.size : Int) / 4)) 0))) = some r := h
 clear h
 replace H := Option.bind_eq_some_iff.mp H
 obtain ⟨t9, A20, H⟩ := H
 try dsimp only at H
 have A2 := Aside0.mk A20
 clear A20
 by_cases c3 : t9 = 0
 ·rw [if_pos c3] at H
  have c3b0 : (t9 == 0) = true := beq_iff_eq.mpr c3
  have c3b1 : (t9 != 0) = false := bne_eq_false_iff_eq.mpr c3
  clear c3
  obtain rfl := Option.some.inj H
  go_enter Try.func96, Try.ntmps96
  go_wp2_with (first | ((with_reducible refine gate_callee (f := 92) rfl ?_); refine goesL_ (some 12) rfl rfl Try.func92 (by kernel_rfl) rfl #[.int .i64 (a0.size : Int)] rfl (by (try simp only [lT, lC, lN]); first | done | rfl | (simp only [List.length_drop, List.length_take]; rfl) | (simp only [ByteArray.size_extract, Nat.min_self, Nat.sub_zero, ByteArray.size_append]; first | done | rfl)) ?_; (with_reducible refine (clavigerref08_Rounds.calls (a0.size : Int) t9 _ A2.out).mono ?_); rintro e w' ⟨rfl, ⟨nd, rfl⟩⟩; refine ⟨_, rfl, ?_⟩))
  go_ret
  exact ⟨_, by first | rfl | (simp [*, errW_none, errW_some] <;> rfl), by first | exact Kd.R_nil _ _ _ _ _ | exact Kd.N_nil _ _ _ _ _ | exact Kd.V_nil _ _ _ _ _ | exact Kd.Q_nil _ _ _ _ _ | exact Kd.S_nil _ _ _ _ _, by repeat first | with_reducible (first | exact HB.out | apply bA | apply bN | apply bD) | exact HB.out⟩
 ·rw [if_neg c3] at H
  have c3b0 : (t9 == 0) = false := beq_eq_false_iff_ne.mpr c3
  have c3b1 : (t9 != 0) = true := bne_iff_ne.mpr c3
  have H' := Aside0.mk H
  clear H
  go_enter Try.func96, Try.ntmps96
  go_wp2_with (first | ((with_reducible refine gate_callee (f := 92) rfl ?_); refine goesL_ (some 12) rfl rfl Try.func92 (by kernel_rfl) rfl #[.int .i64 (a0.size : Int)] rfl (by (try simp only [lT, lC, lN]); first | done | rfl | (simp only [List.length_drop, List.length_take]; rfl) | (simp only [ByteArray.size_extract, Nat.min_self, Nat.sub_zero, ByteArray.size_append]; first | done | rfl)) ?_; (with_reducible refine (clavigerref08_Rounds.calls (a0.size : Int) t9 _ A2.out).mono ?_); rintro e w' ⟨rfl, ⟨nd, rfl⟩⟩; refine ⟨_, rfl, ?_⟩))
  go_loopg [3, 5] k (fun kq v3 v5 w' => ∃ (x3_1 : List ByteArray) (x5_1 : Int), v5 = .int .i64 x5_1 ∧ Aside0 (clavigerref08_Words.l0 kq a0 x3_1 (wrap64 ((a0.size : Int) / 4)) x5_1 = some r) ∧ Aside0 (kq ≤ k) ∧ Aside0 (Kd.R Kd.string 9 w' w.heap.size (fun _ => True) v3 x3_1) ∧ Aside0 (Below w.heap.size w w'))
  case atStart => exact ⟨(([] : List ByteArray)), (0), (by first | rfl | (simp; done) | (simp [*]; done)), H', ⟨Nat.le_refl _⟩, ⟨by first | exact Kd.R_nil _ _ _ _ _ | exact Kd.N_nil _ _ _ _ _ | exact Kd.V_nil _ _ _ _ _ | exact Kd.Q_nil _ _ _ _ _ | exact Kd.S_nil _ _ _ _ _⟩, ⟨by repeat first | with_reducible (first | exact HB.out | apply bA | apply bN | apply bD) | exact HB.out⟩⟩
  case round =>
   clear H'
   try clear p2
   try clear c3
   try clear c3b0
   try clear c3b1
   obtain ⟨x3_1, x5_1, rfl, HA, HK1, HO_3, HB⟩ := hrel
   cases gk with
   | zero => exact absurd HA.out (by simp [clavigerref08_Words.l0])
   | succ k1 =>
    have H := HA.out
    clear HA
    simp only [clavigerref08_Words.l0] at H
    replace H := Option.bind_eq_some_iff.mp H
    obtain ⟨t1, A40, H⟩ := H
    try dsimp only at H
    have A4 := Aside0.mk A40
    clear A40
    by_cases c5 : x5_1 < (wrap64 ((wrap64 (4 * t1)) + 4))
    ·rw [if_pos c5] at H
     have c5b0 : decide (x5_1 < (wrap64 ((wrap64 (4 * t1)) + 4))) = true := decide_eq_true c5
     clear c5
     by_cases c6 : x5_1 < (wrap64 ((a0.size : Int) / 4))
     ·rw [if_pos c6] at H
      have c6b0 : decide (x5_1 < (wrap64 ((a0.size : Int) / 4))) = true := decide_eq_true c6
      clear c6
      obtain ⟨ji7, hji7⟩ : ∃ j_ : Int, (wrap64 (4 * x5_1)) = j_ := ⟨_, rfl⟩
      replace H : (if 0 ≤ (ji7) then (if (ji7) ≤ (wrap64 ((ji7) + 4)) then (if (wrap64 ((ji7) + 4)) ≤ (a0.size : Int) then (if x3_1.length < 8796093022208 then (clavigerref08_Words.l0 k1 a0 (x3_1 ++ [a0.extract ((ji7) : Int).toNat ((wrap64 ((ji7) + 4)) : Int).toNat]) (wrap64 ((a0.size : Int) / 4)) (wrap64 (x5_1 + 1))) else (none)) else (none)) else (none)) else (none)) = some r := by first | (rw [hji7] at H; exact H) | (simp only [hji7] at H ⊢; exact H)
      (try rw [hji7] at A4)
      have hji7w : (IntKind.i64.wrap (4 * x5_1)) = ji7 := (i64_w _).trans hji7
      by_cases c8 : 0 ≤ (ji7)
      ·rw [if_pos c8] at H
       have c8b0 := eq_true c8
       have c8b1 : decide (0 ≤ (ji7)) = true := decide_eq_true c8
       clear c8
       by_cases c9 : (ji7) ≤ (wrap64 ((ji7) + 4))
       ·rw [if_pos c9] at H
        have c9b0 := eq_true c9
        have c9b1 : decide ((ji7) ≤ (wrap64 ((ji7) + 4))) = true := decide_eq_true c9
        by_cases c10 : (wrap64 ((ji7) + 4)) ≤ (a0.size : Int)
        ·rw [if_pos c10] at H
         have c10b0 := eq_true c10
         have c10b1 : decide ((wrap64 ((ji7) + 4)) ≤ (a0.size : Int)) = true := decide_eq_true c10
         by_cases c11 : x3_1.length < 8796093022208
         ·rw [if_pos c11] at H
          have LMc11 := Aside0.mk c11
          clear c11
          obtain ⟨y16, hy16⟩ : ∃ y_ : List ByteArray, y_ = (x3_1 ++ [a0.extract ((ji7) : Int).toNat ((wrap64 ((ji7) + 4)) : Int).toNat]) := ⟨_, rfl⟩
          replace H : (clavigerref08_Words.l0 k1 a0 y16 (wrap64 ((a0.size : Int) / 4)) (wrap64 (x5_1 + 1))) = some r := by first | (rw [hy16]; with_reducible exact H) | (have H2_ := (Option.bind_some _ _).symm.trans H; rw [hy16]; with_reducible exact H2_) | (have H2_ := (Option.bind_some _ _).symm.trans H; with_reducible exact H2_) | with_reducible exact H | (rw [hy16]; exact H) | exact H
          have Ny5001 := Aside0.mk hy16
          clear hy16
          have H' := Aside0.mk H
          clear H
          go_wp2_with (first | ((with_reducible refine gate_callee (f := 92) rfl ?_); refine goesL_ (some 18) rfl rfl Try.func92 (by kernel_rfl) rfl #[.int .i64 (a0.size : Int)] rfl (by (try simp only [lT, lC, lN]); first | done | rfl | (simp only [List.length_drop, List.length_take]; rfl) | (simp only [ByteArray.size_extract, Nat.min_self, Nat.sub_zero, ByteArray.size_append]; first | done | rfl)) ?_; (with_reducible refine (clavigerref08_Rounds.calls (a0.size : Int) t1 _ A4.out).mono ?_); rintro e w' ⟨rfl, ⟨nd, rfl⟩⟩; refine ⟨_, rfl, ?_⟩) | ((with_reducible refine gate_builtin (b := .append) (xs := #[.tmp 27, .tmp 35]) rfl ?_); at_builtin; refine Kd.R_append Kd.string (w0 := w) w.heap.size rfl (.tmp 27) (.tmp 35) 49 9 (.string ⟨#[]⟩) 16 rfl Try.underlying49 info9 rfl (by decide) (by omega) u3 x3_1 (a0.extract ((ji7) : Int).toNat ((wrap64 ((ji7) + 4)) : Int).toNat) [.string (a0.extract ((ji7) : Int).toNat ((wrap64 ((ji7) + 4)) : Int).toNat)] (fun _ => True) (fun _ => False) rfl rfl ?aP (fun _ hk => hk.elim) ?aF ?aO ?aB ?aS ?aL ?_; (case aP => exact rfl); (case aB => exact (by repeat first | with_reducible (first | exact HB.out | apply bA | apply bN | apply bD) | exact HB.out)); (case aF => exact (fun _ _ => trivial)); (case aO => exact (by (with_reducible repeat (first | apply Kd.R_alloc | apply Kd.R_drewN | apply Kd.R_drew)); exact HO_3.out)); (case aS => exact (below_size (by repeat first | with_reducible (first | exact HB.out | apply bA | apply bN | apply bD) | exact HB.out))); (case aL => have := LMc11.out; omega); intro v212 w12 ho hb hg hat; rw [← Ny5001.out] at ho; have n0_ := Aside0.mk (hb); have n1_ := Aside0.mk (ho); clear HB; clear HO_3; have HB := n0_; have HO213 := n1_; clear n0_ n1_; clear ho hb hg hat))
          go_roundg k1
          case measure => have := HK1.out; omega
          case rel => exact ⟨(y16), (wrap64 (x5_1 + 1)), (by first | rfl | (simp; done) | (simp [*]; done)), H', ⟨by have := HK1.out; omega⟩, ⟨by (with_reducible repeat (first | apply Kd.R_alloc | apply Kd.R_drewN | apply Kd.R_drew)); exact HO213.out⟩, ⟨by repeat first | with_reducible (first | exact HB.out | apply bA | apply bN | apply bD) | exact HB.out⟩⟩
         ·rw [if_neg c11] at H
          exact absurd H (by simp)
        ·rw [if_neg c10] at H
         exact absurd H (by simp)
       ·rw [if_neg c9] at H
        exact absurd H (by simp)
      ·rw [if_neg c8] at H
       exact absurd H (by simp)
     ·rw [if_neg c6] at H
      have c6b0 : decide (x5_1 < (wrap64 ((a0.size : Int) / 4))) = false := decide_eq_false c6
      clear c6
      obtain ⟨ji13, hji13⟩ : ∃ j_ : Int, (wrap64 (x5_1 - 1)) = j_ := ⟨_, rfl⟩
      replace H : (if 0 ≤ (ji13) then (if (ji13) < (x3_1.length : Int) then (if (wrap64 ((a0.size : Int) / 4)) = 0 then (none) else (if (Int.tmod x5_1 (wrap64 ((a0.size : Int) / 4))) = 0 then (if 1 ≤ 4 then (if 4 ≤ ((rdOf ByteArray.empty x3_1 (ji13)).size : Int) then (if 0 ≤ 1 then (if 1 ≤ ((rdOf ByteArray.empty x3_1 (ji13)).size : Int) then (if ((rdOf ByteArray.empty x3_1 (ji13)).extract 1 4).size + ((rdOf ByteArray.empty x3_1 (ji13)).extract 0 1).size ≤ 9223372036854775807 then ((clavigerref06_Subs.f k1 (((rdOf ByteArray.empty x3_1 (ji13)).extract 1 4) ++ ((rdOf ByteArray.empty x3_1 (ji13)).extract 0 1))).bind fun t2 => ((clavigerref08_Constant.f k1 (wrap64 (Int.tdiv x5_1 (wrap64 ((a0.size : Int) / 4))))).bind fun t3 => ((clavigerref01_Xor.f k1 t2 (strOfNums (([t3, 0, 0, 0] : List Int)))).bind fun t4 => (if 0 ≤ (wrap64 (x5_1 - (wrap64 ((a0.size : Int) / 4)))) then (if (wrap64 (x5_1 - (wrap64 ((a0.size : Int) / 4)))) < (x3_1.length : Int) then ((clavigerref01_Xor.f k1 (rdOf ByteArray.empty x3_1 (wrap64 (x5_1 - (wrap64 ((a0.size : Int) / 4))))) t4).bind fun t5 => (if x3_1.length < 8796093022208 then (clavigerref08_Words.l0 k1 a0 (x3_1 ++ [t5]) (wrap64 ((a0.size : Int) / 4)) (wrap64 (x5_1 + 1))) else (none))) else (none)) else (none))))) else (none)) else (none)) else (none)) else (none)) else (none)) else (if (wrap64 ((a0.size : Int) / 4)) = 8 then (clavigerref08_Words.j1 k1 a0 x3_1 (wrap64 ((a0.size : Int) / 4)) x5_1 (rdOf ByteArray.empty x3_1 (ji13)) ((Int.tmod x5_1 8) == 4)) else (clavigerref08_Words.j1 k1 a0 x3_1 (wrap64 ((a0.size : Int) / 4)) x5_1 (rdOf ByteArray.empty x3_1 (ji13)) false)))) else (none)) else (none)) = some r := by first | (rw [hji13] at H; exact H) | (simp only [hji13] at H ⊢; exact H)
      (try rw [hji13] at A4)
      have hji13w : (IntKind.i64.wrap (x5_1 - 1)) = ji13 := (i64_w _).trans hji13
      by_cases c14 : 0 ≤ (ji13)
      ·rw [if_pos c14] at H
       have c14b0 : decide (0 ≤ (ji13)) = true := decide_eq_true c14
       clear c14
       by_cases c15 : (ji13) < (x3_1.length : Int)
       ·rw [if_pos c15] at H
        have c15b0 : decide ((ji13) < (x3_1.length : Int)) = true := decide_eq_true c15
        clear c15
        by_cases c16 : (wrap64 ((a0.size : Int) / 4)) = 0
        ·rw [if_pos c16] at H
         exact absurd H (by simp)
        ·rw [if_neg c16] at H
         have c16b0 : ((wrap64 ((a0.size : Int) / 4)) == 0) = false := beq_eq_false_iff_ne.mpr c16
         have c16b1 : ((wrap64 ((a0.size : Int) / 4)) != 0) = true := bne_iff_ne.mpr c16
         by_cases c17 : (Int.tmod x5_1 (wrap64 ((a0.size : Int) / 4))) = 0
         ·rw [if_pos c17] at H
          have c17b0 : ((Int.tmod x5_1 (wrap64 ((a0.size : Int) / 4))) == 0) = true := beq_iff_eq.mpr c17
          have c17b1 : ((Int.tmod x5_1 (wrap64 ((a0.size : Int) / 4))) != 0) = false := bne_eq_false_iff_eq.mpr c17
          clear c17
          by_cases c18 : 1 ≤ 4
          ·rw [if_pos c18] at H
           have c18b0 := eq_true c18
           have c18b1 : decide (1 ≤ 4) = true := decide_eq_true c18
           clear c18
           by_cases c19 : 4 ≤ ((rdOf ByteArray.empty x3_1 (ji13)).size : Int)
           ·rw [if_pos c19] at H
            have c19b0 := eq_true c19
            have c19b1 : decide (4 ≤ ((rdOf ByteArray.empty x3_1 (ji13)).size : Int)) = true := decide_eq_true c19
            clear c19
            by_cases c20 : 0 ≤ 1
            ·rw [if_pos c20] at H
             have c20b0 := eq_true c20
             have c20b1 : decide (0 ≤ 1) = true := decide_eq_true c20
             clear c20
             by_cases c21 : 1 ≤ ((rdOf ByteArray.empty x3_1 (ji13)).size : Int)
             ·rw [if_pos c21] at H
              have c21b0 := eq_true c21
              have c21b1 : decide (1 ≤ ((rdOf ByteArray.empty x3_1 (ji13)).size : Int)) = true := decide_eq_true c21
              clear c21
              by_cases c22 : ((rdOf ByteArray.empty x3_1 (ji13)).extract 1 4).size + ((rdOf ByteArray.empty x3_1 (ji13)).extract 0 1).size ≤ 9223372036854775807
              ·rw [if_pos c22] at H
               have c22b0 := eq_true c22
               have c22b1 : decide (((rdOf ByteArray.empty x3_1 (ji13)).extract 1 4).size + ((rdOf ByteArray.empty x3_1 (ji13)).extract 0 1).size ≤ 9223372036854775807) = true := decide_eq_true c22
               try have c22b2 : (9223372036854775807 < ((rdOf ByteArray.empty x3_1 (ji13)).extract 1 4).size + ((rdOf ByteArray.empty x3_1 (ji13)).extract 0 1).size) = False := eq_false (Nat.not_lt.2 c22)
               have c22b9 : (9223372036854775807 < min 4 (rdOf ByteArray.empty x3_1 (ji13)).size - 1 + min 1 (rdOf ByteArray.empty x3_1 (ji13)).size) = False := eq_false (by have h_ := c22; simp only [ByteArray.size_append, ByteArray.size_extract, Nat.sub_zero] at h_; omega)
               replace H := Option.bind_eq_some_iff.mp H
               obtain ⟨t2, A230, H⟩ := H
               try dsimp only at H
               have A23 := Aside0.mk A230
               clear A230
               replace H := Option.bind_eq_some_iff.mp H
               obtain ⟨t3, A240, H⟩ := H
               try dsimp only at H
               have A24 := Aside0.mk A240
               clear A240
               obtain ⟨y17, hy17⟩ : ∃ y_ : List Int, y_ = (([t3, 0, 0, 0] : List Int)) := ⟨_, rfl⟩
               replace H : ((clavigerref01_Xor.f k1 t2 (strOfNums y17)).bind fun t4 => (if 0 ≤ (wrap64 (x5_1 - (wrap64 ((a0.size : Int) / 4)))) then (if (wrap64 (x5_1 - (wrap64 ((a0.size : Int) / 4)))) < (x3_1.length : Int) then ((clavigerref01_Xor.f k1 (rdOf ByteArray.empty x3_1 (wrap64 (x5_1 - (wrap64 ((a0.size : Int) / 4))))) t4).bind fun t5 => (if x3_1.length < 8796093022208 then (clavigerref08_Words.l0 k1 a0 (x3_1 ++ [t5]) (wrap64 ((a0.size : Int) / 4)) (wrap64 (x5_1 + 1))) else (none))) else (none)) else (none))) = some r := by first | (rw [hy17]; with_reducible exact H) | (have H2_ := (Option.bind_some _ _).symm.trans H; rw [hy17]; with_reducible exact H2_) | (have H2_ := (Option.bind_some _ _).symm.trans H; with_reducible exact H2_) | with_reducible exact H | (rw [hy17]; exact H) | exact H
               have Ny5002 := Aside0.mk hy17
               clear hy17
               replace H := Option.bind_eq_some_iff.mp H
               obtain ⟨t4, A250, H⟩ := H
               try dsimp only at H
               have A25 := Aside0.mk A250
               clear A250
               obtain ⟨ji26, hji26⟩ : ∃ j_ : Int, (wrap64 (x5_1 - (wrap64 ((a0.size : Int) / 4)))) = j_ := ⟨_, rfl⟩
               replace H : (if 0 ≤ (ji26) then (if (ji26) < (x3_1.length : Int) then ((clavigerref01_Xor.f k1 (rdOf ByteArray.empty x3_1 (ji26)) t4).bind fun t5 => (if x3_1.length < 8796093022208 then (clavigerref08_Words.l0 k1 a0 (x3_1 ++ [t5]) (wrap64 ((a0.size : Int) / 4)) (wrap64 (x5_1 + 1))) else (none))) else (none)) else (none)) = some r := by first | (rw [hji26] at H; exact H) | (simp only [hji26] at H ⊢; exact H)
               (try rw [hji26] at A4)
               (try rw [hji26] at A23)
               (try rw [hji26] at A24)
               (try rw [hji26] at A25)
               have hji26w : (IntKind.i64.wrap (x5_1 - (wrap64 ((a0.size : Int) / 4)))) = ji26 := (i64_w _).trans hji26
               by_cases c27 : 0 ≤ (ji26)
               ·rw [if_pos c27] at H
                have c27b0 : decide (0 ≤ (ji26)) = true := decide_eq_true c27
                clear c27
                by_cases c28 : (ji26) < (x3_1.length : Int)
                ·rw [if_pos c28] at H
                 have c28b0 : decide ((ji26) < (x3_1.length : Int)) = true := decide_eq_true c28
                 clear c28
                 replace H := Option.bind_eq_some_iff.mp H
                 obtain ⟨t5, A290, H⟩ := H
                 try dsimp only at H
                 have A29 := Aside0.mk A290
                 clear A290
                 by_cases c30 : x3_1.length < 8796093022208
                 ·rw [if_pos c30] at H
                  have LMc30 := Aside0.mk c30
                  clear c30
                  obtain ⟨y18, hy18⟩ : ∃ y_ : List ByteArray, y_ = (x3_1 ++ [t5]) := ⟨_, rfl⟩
                  replace H : (clavigerref08_Words.l0 k1 a0 y18 (wrap64 ((a0.size : Int) / 4)) (wrap64 (x5_1 + 1))) = some r := by first | (rw [hy18]; with_reducible exact H) | (have H2_ := (Option.bind_some _ _).symm.trans H; rw [hy18]; with_reducible exact H2_) | (have H2_ := (Option.bind_some _ _).symm.trans H; with_reducible exact H2_) | with_reducible exact H | (rw [hy18]; exact H) | exact H
                  have Ny5003 := Aside0.mk hy18
                  clear hy18
                  have H' := Aside0.mk H
                  clear H
                  try go_wp2_with (first | ((with_reducible refine gate_callee (f := 92) rfl ?_); refine goesL_ (some 18) rfl rfl Try.func92 (by kernel_rfl) rfl #[.int .i64 (a0.size : Int)] rfl (by (try simp only [lT, lC, lN]); first | done | rfl | (simp only [List.length_drop, List.length_take]; rfl) | (simp only [ByteArray.size_extract, Nat.min_self, Nat.sub_zero, ByteArray.size_append]; first | done | rfl)) ?_; (with_reducible refine (clavigerref08_Rounds.calls (a0.size : Int) t1 _ A4.out).mono ?_); rintro e w' ⟨rfl, ⟨nd, rfl⟩⟩; refine ⟨_, rfl, ?_⟩; obtain ⟨Ao31, co31, eo31⟩ := Kd.R_slice HO_3.out; subst eo31; have p5004 : 0 ≤ ((ji13) : Int) := of_decide_eq_true (by assumption); have q5004 : (ji13) < (x3_1.length : Int) := of_decide_eq_true (by assumption); obtain ⟨ad5004, e5004, hx5004_0⟩ := Kd.at_string (Kd.R_reads' HO_3.out).2.2 (ji13) p5004 q5004; cases e5004; replace p5004 := eq_true p5004; replace q5004 := eq_true q5004))
                  (try (rw [drewN_self wr]; generalize hq_ : World.drewN wr _ = wr; have n0_ : Aside0 (Kd.R Kd.string 9 wr w.heap.size (fun _ => True) (.slice (some ad5004) x3_1.length co31) x3_1) := ⟨by rw [← hq_]; exact (by (with_reducible repeat (first | apply Kd.R_alloc | apply Kd.R_drewN | apply Kd.R_drew)); exact HO_3.out)⟩; have n1_ : Aside0 (Below w.heap.size w wr) := ⟨by rw [← hq_]; exact (by repeat first | with_reducible (first | exact HB.out | apply bA | apply bN | apply bD) | exact HB.out)⟩; clear HO_3 HB hq_; have HO_3 := n0_; have HB := n1_; clear n0_ n1_))
                  have n0_ := Aside0.mk (Kd.R_drew HO_3.out)
                  have n1_ := Aside0.mk (below_drew1 HB.out)
                  clear HO_3
                  clear HB
                  have HO_3 := n0_
                  have HB := n1_
                  clear n0_ n1_
                  refine start_ (n := 7) (S := fun w' => True) (ds := []) #[false, false, false, false, false, false, false] (by kernel_rfl) rfl rfl trivial (fun hHeld => ?_)
                  generalize wr.drew = w32 at HO_3 HB hHeld ⊢
                  refine pure_ (i := 0) (N := some 46) (v := ?_) (a' := ?_) #[true, false, false, false, false, false, false] rfl rfl (by kernel_rfl) (fun _ _ _ h => h) (Or.inl ⟨by rfl, ?_⟩) ?_ ?_
                  rotate_left
                  ·intro w'
                   go_simp
                   with_reducible rfl
                  rotate_left
                  ·simp only [Act.put, List.setIfInBounds_toArray, List.set_cons_zero, List.set_cons_succ, i64_w, i32_w]
                   rfl
                  refine pure_ (i := 1) (N := some 47) (v := ?_) (a' := ?_) #[true, true, false, false, false, false, false] rfl rfl (by kernel_rfl) (fun _ _ _ h => h) (Or.inl ⟨by rfl, ?_⟩) ?_ ?_
                  rotate_left
                  ·intro w'
                   go_simp
                   with_reducible rfl
                  rotate_left
                  ·simp only [Act.put, List.setIfInBounds_toArray, List.set_cons_zero, List.set_cons_succ, i64_w, i32_w]
                   rfl
                  refine pure_ (i := 2) (N := some 48) (v := ?_) (a' := ?_) #[true, true, true, false, false, false, false] rfl rfl (by kernel_rfl) (fun _ _ _ h => h) (Or.inl ⟨by rfl, ?_⟩) ?_ ?_
                  rotate_left
                  ·intro w'
                   go_simp
                   with_reducible rfl
                  rotate_left
                  ·simp only [Act.put, List.setIfInBounds_toArray, List.set_cons_zero, List.set_cons_succ, i64_w, i32_w]
                   rfl
                  refine pure_ (i := 3) (N := some 49) (v := ?_) (a' := ?_) #[true, true, true, true, false, false, false] rfl rfl (by kernel_rfl) (fun _ _ _ h => h) (Or.inl ⟨by rfl, ?_⟩) ?_ ?_
                  rotate_left
                  ·intro w'
                   go_simp
                   with_reducible rfl
                  rotate_left
                  ·simp only [Act.put, List.setIfInBounds_toArray, List.set_cons_zero, List.set_cons_succ, i64_w, i32_w]
                   rfl
                  refine pure_ (i := 4) (N := some 50) (v := ?_) (a' := ?_) #[true, true, true, true, true, false, false] rfl rfl (by kernel_rfl) (fun _ _ _ h => h) (Or.inl ⟨by rfl, ?_⟩) ?_ ?_
                  rotate_left
                  ·intro w'
                   go_simp
                   with_reducible rfl
                  rotate_left
                  ·simp only [Act.put, List.setIfInBounds_toArray, List.set_cons_zero, List.set_cons_succ, i64_w, i32_w]
                   rfl
                  refine one_ (i := 5) (N := some 51) #[true, true, true, true, true, true, false] rfl rfl (by kernel_rfl) (by decide) (fun K hK => ?_)
                  refine goes_ Try.func67 (by kernel_rfl) rfl #[.string (((rdOf ByteArray.empty x3_1 (ji13)).extract 1 4) ++ ((rdOf ByteArray.empty x3_1 (ji13)).extract 0 1))] (by rfl) rfl rfl (by (try simp only [lT, lC, lN]); first | done | (simp only [hji13]; rfl) | rfl | (simp only [List.length_drop, List.length_take]; rfl)) ?_
                  with_reducible refine (clavigerref06_Subs.calls k1 (((rdOf ByteArray.empty x3_1 (ji13)).extract 1 4) ++ ((rdOf ByteArray.empty x3_1 (ji13)).extract 0 1)) t2 _ A23.out).mono ?_
                  rintro e w33 ⟨rfl, hb⟩
                  refine ⟨_, rfl, ?_⟩
                  have n0_ := Aside0.mk (Kd.R_below (by (with_reducible repeat (first | apply Kd.R_alloc | apply Kd.R_drewN | apply Kd.R_drew)); exact HO_3.out) hb)
                  have n1_ := Aside0.mk (below_step (by repeat first | with_reducible (first | exact HB.out | apply bA | apply bN | apply bD) | exact HB.out) hb)
                  clear HO_3
                  clear HB
                  have HO_3 := n0_
                  have HB := n1_
                  clear n0_ n1_
                  (try clear hb)
                  (try clear hb2)
                  (try clear hk)
                  (try clear hi)
                  refine hK.out _ _ trivial (fun hHeld => ?_)
                  clear hK K
                  refine norm_ (a' := ?_) ?_ ?_
                  rotate_left
                  ·show Act.put _ (some 51) _ = _
                   simp only [Act.put, List.setIfInBounds_toArray, List.set_cons_zero, List.set_cons_succ, i64_w, i32_w]
                   rfl
                  refine pure_ (i := 6) (N := some 6) (v := ?_) (a' := ?_) #[true, true, true, true, true, true, true] rfl rfl (by kernel_rfl) (fun _ _ _ h => h) (Or.inl ⟨by rfl, ?_⟩) ?_ ?_
                  rotate_left
                  ·intro w'
                   go_simp
                   with_reducible rfl
                  rotate_left
                  ·simp only [Act.put, List.setIfInBounds_toArray, List.set_cons_zero, List.set_cons_succ, i64_w, i32_w]
                   rfl
                  refine done_ (by kernel_rfl) ?_
                  try go_wp2_with (first | ((with_reducible refine gate_callee (f := 94) rfl ?_); refine goesL_ (some 56) rfl rfl Try.func94 (by kernel_rfl) rfl #[.int .i64 (wrap64 (Int.tdiv x5_1 (wrap64 ((a0.size : Int) / 4))))] rfl (by (try simp only [lT, lC, lN]); first | done | rfl | (simp only [List.length_drop, List.length_take]; rfl) | (simp only [ByteArray.size_extract, Nat.min_self, Nat.sub_zero, ByteArray.size_append]; first | done | rfl)) ?_; (with_reducible refine (clavigerref08_Constant.calls k1 (wrap64 (Int.tdiv x5_1 (wrap64 ((a0.size : Int) / 4)))) t3 _ A24.out).mono ?_); rintro e w' ⟨rfl, ⟨nd, rfl⟩⟩; refine ⟨_, rfl, ?_⟩) | ((with_reducible refine gate_dst (N := 57) rfl ?_); refine Kd.R_lit (Kd.int .u8) _ 5 ?hg (N := 57) ?hd (xs := ([t3, 0, 0, 0] : List Int)) (inner := [.int .u8 t3, .int .u8 0, .int .u8 0, .int .u8 0]) (ok := fun _ => True) (okp := fun _ => True) ?hr ?hp (fun _ hk => hk) trivial (Below.refl _ _) (Nat.le_refl _) (by simp) ?_; (case hd => rfl); (case hg => rfl); (case hr => first | (go_simp; done) | (go_simp; rfl)); (case hp => exact (Reps.one (show Kd.M (Kd.int .u8) _ _ _ t3 [.int .u8 t3] from rfl) (Reps.one (show Kd.M (Kd.int .u8) _ _ _ 0 [.int .u8 0] from rfl) (Reps.one (show Kd.M (Kd.int .u8) _ _ _ 0 [.int .u8 0] from rfl) (Reps.one (show Kd.M (Kd.int .u8) _ _ _ 0 [.int .u8 0] from rfl) (Reps.none _ _)))))); intro v218 w34 ho35 hb hg_ hnew_; clear hg_ hnew_; (first | rw [← Ny5002.out] at ho35 | (simp only [Int.reduceToNat] at ho35; rw [← Ny5002.out] at ho35)); have n0_ := Aside0.mk (Kd.R_below (by (with_reducible repeat (first | apply Kd.R_alloc | apply Kd.R_drewN | apply Kd.R_drew)); exact HO_3.out) hb); have n1_ := Aside0.mk (Kd.R_lower ho35 (below_size (by repeat first | with_reducible (first | exact HB.out | apply bA | apply bN | apply bD) | exact HB.out))); have n2_ := Aside0.mk (below_step (by repeat first | with_reducible (first | exact HB.out | apply bA | apply bN | apply bD) | exact HB.out) hb); clear HO_3; clear HB; have HO_3 := n0_; have HO219 := n1_; have HB := n2_; clear n0_ n1_ n2_; clear hb ho35; have hcv36 := own_string (P := Try.prog) Try.underlying66 Try.underlying5 Try.underlying9 (Kd.own_of_R HO219.out)) | ((with_reducible refine gate_callee (f := 178) rfl ?_); refine goesL_ (some 59) rfl rfl Try.func178 (by kernel_rfl) rfl #[.string t2, .string (strOfNums y17)] rfl (by (try simp only [lT, lC, lN]); first | done | rfl) ?_; (with_reducible refine (clavigerref01_Xor.calls k1 t2 (strOfNums y17) t4 _ A25.out).mono ?_); rintro e w37 ⟨rfl, hb⟩; refine ⟨_, rfl, ?_⟩; have n0_ := Aside0.mk (Kd.R_below (by (with_reducible repeat (first | apply Kd.R_alloc | apply Kd.R_drewN | apply Kd.R_drew)); exact HO_3.out) hb); have n1_ := Aside0.mk (Kd.R_below (by (with_reducible repeat (first | apply Kd.R_alloc | apply Kd.R_drewN | apply Kd.R_drew)); exact HO219.out) hb); have n2_ := Aside0.mk (below_step (by repeat first | with_reducible (first | exact HB.out | apply bA | apply bN | apply bD) | exact HB.out) hb); clear HO_3; clear HO219; clear HB; have HO_3 := n0_; have HO219 := n1_; have HB := n2_; clear n0_ n1_ n2_; (try clear hb); (try clear hb2); (try clear hk); (try clear hi); have p5005 : 0 ≤ ((ji26) : Int) := of_decide_eq_true (by assumption); have q5005 : (ji26) < (x3_1.length : Int) := of_decide_eq_true (by assumption); obtain ⟨ad5005, e5005, hx5005_0⟩ := Kd.at_string (Kd.R_reads' HO_3.out).2.2 (ji26) p5005 q5005; obtain rfl : ad5004 = ad5005 := (by injection e5005); replace p5005 := eq_true p5005; replace q5005 := eq_true q5005) | ((with_reducible refine gate_callee (f := 178) rfl ?_); refine goesL_ (some 77) rfl rfl Try.func178 (by kernel_rfl) rfl #[.string (rdOf ByteArray.empty x3_1 (ji26)), .string t4] rfl (by (try simp only [lT, lC, lN]); first | done | (simp only [hji26]; rfl) | rfl | (simp only [List.length_drop, List.length_take]; rfl)) ?_; (with_reducible refine (clavigerref01_Xor.calls k1 (rdOf ByteArray.empty x3_1 (ji26)) t4 t5 _ A29.out).mono ?_); rintro e w38 ⟨rfl, hb⟩; refine ⟨_, rfl, ?_⟩; have n0_ := Aside0.mk (Kd.R_below (by (with_reducible repeat (first | apply Kd.R_alloc | apply Kd.R_drewN | apply Kd.R_drew)); exact HO_3.out) hb); have n1_ := Aside0.mk (Kd.R_below (by (with_reducible repeat (first | apply Kd.R_alloc | apply Kd.R_drewN | apply Kd.R_drew)); exact HO219.out) hb); have n2_ := Aside0.mk (below_step (by repeat first | with_reducible (first | exact HB.out | apply bA | apply bN | apply bD) | exact HB.out) hb); clear HO_3; clear HO219; clear HB; have HO_3 := n0_; have HO219 := n1_; have HB := n2_; clear n0_ n1_ n2_; (try clear hb); (try clear hb2); (try clear hk); (try clear hi)) | ((with_reducible refine gate_builtin (b := .append) (xs := #[.tmp 69, .tmp 78]) rfl ?_); at_builtin; refine Kd.R_append Kd.string (w0 := w) w.heap.size rfl (.tmp 69) (.tmp 78) 49 9 (.string ⟨#[]⟩) 16 rfl Try.underlying49 info9 rfl (by decide) (by omega) (.slice (some ad5004) x3_1.length co31) x3_1 t5 [.string t5] (fun _ => True) (fun _ => False) rfl rfl ?aP (fun _ hk => hk.elim) ?aF ?aO ?aB ?aS ?aL ?_; (case aP => exact rfl); (case aB => exact (by repeat first | with_reducible (first | exact HB.out | apply bA | apply bN | apply bD) | exact HB.out)); (case aF => exact (fun _ _ => trivial)); (case aO => exact (by (with_reducible repeat (first | apply Kd.R_alloc | apply Kd.R_drewN | apply Kd.R_drew)); exact HO_3.out)); (case aS => exact (below_size (by repeat first | with_reducible (first | exact HB.out | apply bA | apply bN | apply bD) | exact HB.out))); (case aL => have := LMc30.out; omega); intro v224 w39 ho hb hg hat; rw [← Ny5003.out] at ho; have n0_ := Aside0.mk (Kd.R_over' (by (with_reducible repeat (first | apply Kd.R_alloc | apply Kd.R_drewN | apply Kd.R_drew)); exact HO219.out) (Kd.R_typed (by (with_reducible repeat (first | apply Kd.R_alloc | apply Kd.R_drewN | apply Kd.R_drew)); exact HO_3.out)) (by decide) hg); have n1_ := Aside0.mk (hb); have n2_ := Aside0.mk (ho); clear HO219; clear HB; clear HO_3; have HO219 := n0_; have HB := n1_; have HO225 := n2_; clear n0_ n1_ n2_; clear ho hb hg hat))
                  go_roundg k1
                  case measure => have := HK1.out; omega
                  case rel => exact ⟨(y18), (wrap64 (x5_1 + 1)), (by first | rfl | (simp; done) | (simp [*]; done)), H', ⟨by have := HK1.out; omega⟩, ⟨by (with_reducible repeat (first | apply Kd.R_alloc | apply Kd.R_drewN | apply Kd.R_drew)); exact HO225.out⟩, ⟨by repeat first | with_reducible (first | exact HB.out | apply bA | apply bN | apply bD) | exact HB.out⟩⟩
                 ·rw [if_neg c30] at H
                  exact absurd H (by simp)
                ·rw [if_neg c28] at H
                 exact absurd H (by simp)
               ·rw [if_neg c27] at H
                exact absurd H (by simp)
              ·rw [if_neg c22] at H
               exact absurd H (by simp)
             ·rw [if_neg c21] at H
              exact absurd H (by simp)
            ·rw [if_neg c20] at H
             exact absurd H (by simp)
           ·rw [if_neg c19] at H
            exact absurd H (by simp)
          ·rw [if_neg c18] at H
           exact absurd H (by simp)
         ·rw [if_neg c17] at H
          have c17b0 : ((Int.tmod x5_1 (wrap64 ((a0.size : Int) / 4))) == 0) = false := beq_eq_false_iff_ne.mpr c17
          have c17b1 : ((Int.tmod x5_1 (wrap64 ((a0.size : Int) / 4))) != 0) = true := bne_iff_ne.mpr c17
          have HC40 := Aside0.mk H
          clear H
          go_upto_region 14 with (first | ((with_reducible refine gate_callee (f := 92) rfl ?_); refine goesL_ (some 18) rfl rfl Try.func92 (by kernel_rfl) rfl #[.int .i64 (a0.size : Int)] rfl (by (try simp only [lT, lC, lN]); first | done | rfl | (simp only [List.length_drop, List.length_take]; rfl) | (simp only [ByteArray.size_extract, Nat.min_self, Nat.sub_zero, ByteArray.size_append]; first | done | rfl)) ?_; (with_reducible refine (clavigerref08_Rounds.calls (a0.size : Int) t1 _ A4.out).mono ?_); rintro e w' ⟨rfl, ⟨nd, rfl⟩⟩; refine ⟨_, rfl, ?_⟩; obtain ⟨Ao41, co41, eo41⟩ := Kd.R_slice HO_3.out; subst eo41; have p5004 : 0 ≤ ((ji13) : Int) := of_decide_eq_true (by assumption); have q5004 : (ji13) < (x3_1.length : Int) := of_decide_eq_true (by assumption); obtain ⟨ad5004, e5004, hx5004_0⟩ := Kd.at_string (Kd.R_reads' HO_3.out).2.2 (ji13) p5004 q5004; cases e5004; replace p5004 := eq_true p5004; replace q5004 := eq_true q5004))
          (try simp only [Act.put, List.setIfInBounds_toArray, List.set_cons_zero, List.set_cons_succ])
          go_cut [66] (fun v66 wc => ∃ (kq : Nat) (x66_39 : Bool), v66 = .bool x66_39 ∧ Aside0 (clavigerref08_Words.j1 kq a0 x3_1 (wrap64 ((a0.size : Int) / 4)) x5_1 (rdOf ByteArray.empty x3_1 (ji13)) x66_39 = some r) ∧ Aside0 (kq ≤ k1) ∧ Aside0 (Kd.R Kd.string 9 wc w.heap.size (fun _ => True) (.slice (some ad5004) x3_1.length co41) x3_1) ∧ Aside0 (Below w.heap.size w wc))
          case first =>
           have H := HC40.out
           clear HC40
           by_cases c42 : (wrap64 ((a0.size : Int) / 4)) = 8
           ·rw [if_pos c42] at H
            have c42b0 : ((wrap64 ((a0.size : Int) / 4)) == 8) = true := beq_iff_eq.mpr c42
            have c42b1 : ((wrap64 ((a0.size : Int) / 4)) != 8) = false := bne_eq_false_iff_eq.mpr c42
            clear c42
            (first | rw [c42b0] | (simp only [i64_w, i32_w]; rw [c42b0]) | skip)
            have H' := Aside0.mk H
            clear H
            go_wp2
            go_meet
            case rel => exact ⟨_, (((Int.tmod x5_1 8) == 4)), (by first | rfl | (simp; done) | (simp [*]; done)), H', ⟨by have := HK1.out; first | omega | exact Nat.le_refl _⟩, ⟨by (with_reducible repeat (first | apply Kd.R_alloc | apply Kd.R_drewN | apply Kd.R_drew)); exact HO_3.out⟩, ⟨by repeat first | with_reducible (first | exact HB.out | apply bA | apply bN | apply bD) | exact HB.out⟩⟩
           ·rw [if_neg c42] at H
            have c42b0 : ((wrap64 ((a0.size : Int) / 4)) == 8) = false := beq_eq_false_iff_ne.mpr c42
            have c42b1 : ((wrap64 ((a0.size : Int) / 4)) != 8) = true := bne_iff_ne.mpr c42
            (first | rw [c42b0] | (simp only [i64_w, i32_w]; rw [c42b0]) | skip)
            have H' := Aside0.mk H
            clear H
            go_wp2
            go_meet
            case rel => exact ⟨_, (false), (by first | rfl | (simp; done) | (simp [*]; done)), H', ⟨by have := HK1.out; first | omega | exact Nat.le_refl _⟩, ⟨by (with_reducible repeat (first | apply Kd.R_alloc | apply Kd.R_drewN | apply Kd.R_drew)); exact HO_3.out⟩, ⟨by repeat first | with_reducible (first | exact HB.out | apply bA | apply bN | apply bD) | exact HB.out⟩⟩
          case rest =>
           clear HC40
           try clear c1
           try clear c2
           try clear p2
           try clear q2
           try clear hx2
           try clear c3
           try clear c3b0
           try clear c3b1
           try clear hcv3
           try clear c4
           try clear c5
           try clear c5b0
           try clear c6
           try clear c6b0
           try clear p6
           try clear c8
           try clear c8b0
           try clear c8b1
           try clear c9
           try clear c9b0
           try clear c9b1
           try clear c10
           try clear c10b0
           try clear c10b1
           try clear c11
           try clear c14
           try clear c14b0
           try clear c15
           try clear c15b0
           try clear c16
           try clear c16b0
           try clear c16b1
           try clear c17
           try clear c17b0
           try clear c17b1
           try clear c18
           try clear c18b0
           try clear c18b1
           try clear c19
           try clear c19b0
           try clear c19b1
           try clear c20
           try clear c20b0
           try clear c20b1
           try clear c21
           try clear c21b0
           try clear c21b1
           try clear p21
           try clear q21
           try clear hx21
           try clear c22
           try clear c22b0
           try clear c22b1
           try clear c22b2
           try clear p22
           try clear q22
           try clear hx22
           try clear c27
           try clear c27b0
           try clear c28
           try clear c28b0
           try clear c30
           try clear hcv36
           try clear c42
           try clear c42b0
           try clear c42b1
           try clear hx5004_0
           try clear hx5005_0
           try clear p2
           try clear p5004
           try clear p5005
           try clear q5004
           try clear q5005
           obtain ⟨kq, x66_39, rfl, HA, HJ39, HO_3, HB⟩ := hcut
           cases kq with
           | zero => exact absurd HA.out (by simp [clavigerref08_Words.j1])
           | succ kj39 =>
            have H := HA.out
            clear HA
            simp only [clavigerref08_Words.j1] at H
            by_cases c43 : x66_39 = true
            ·subst c43
             have H1 : ((clavigerref06_Subs.f kj39 (rdOf ByteArray.empty x3_1 (ji13))).bind fun t6 => (if 0 ≤ (wrap64 (x5_1 - (wrap64 ((a0.size : Int) / 4)))) then (if (wrap64 (x5_1 - (wrap64 ((a0.size : Int) / 4)))) < (x3_1.length : Int) then ((clavigerref01_Xor.f kj39 (rdOf ByteArray.empty x3_1 (wrap64 (x5_1 - (wrap64 ((a0.size : Int) / 4))))) t6).bind fun t7 => (if x3_1.length < 8796093022208 then (clavigerref08_Words.l0 kj39 a0 (x3_1 ++ [t7]) (wrap64 ((a0.size : Int) / 4)) (wrap64 (x5_1 + 1))) else (none))) else (none)) else (none))) = some r := by rw [if_pos rfl] at H; exact H
             clear H
             have H := H1
             clear H1
             replace H := Option.bind_eq_some_iff.mp H
             obtain ⟨t6, A440, H⟩ := H
             try dsimp only at H
             have A44 := Aside0.mk A440
             clear A440
             obtain ⟨ji45, hji45⟩ : ∃ j_ : Int, (wrap64 (x5_1 - (wrap64 ((a0.size : Int) / 4)))) = j_ := ⟨_, rfl⟩
             replace H : (if 0 ≤ (ji45) then (if (ji45) < (x3_1.length : Int) then ((clavigerref01_Xor.f kj39 (rdOf ByteArray.empty x3_1 (ji45)) t6).bind fun t7 => (if x3_1.length < 8796093022208 then (clavigerref08_Words.l0 kj39 a0 (x3_1 ++ [t7]) (wrap64 ((a0.size : Int) / 4)) (wrap64 (x5_1 + 1))) else (none))) else (none)) else (none)) = some r := by first | (rw [hji45] at H; exact H) | (simp only [hji45] at H ⊢; exact H)
             (try rw [hji45] at A44)
             have hji45w : (IntKind.i64.wrap (x5_1 - (wrap64 ((a0.size : Int) / 4)))) = ji45 := (i64_w _).trans hji45
             by_cases c46 : 0 ≤ (ji45)
             ·rw [if_pos c46] at H
              have c46b0 : decide (0 ≤ (ji45)) = true := decide_eq_true c46
              clear c46
              by_cases c47 : (ji45) < (x3_1.length : Int)
              ·rw [if_pos c47] at H
               have c47b0 : decide ((ji45) < (x3_1.length : Int)) = true := decide_eq_true c47
               clear c47
               replace H := Option.bind_eq_some_iff.mp H
               obtain ⟨t7, A480, H⟩ := H
               try dsimp only at H
               have A48 := Aside0.mk A480
               clear A480
               by_cases c49 : x3_1.length < 8796093022208
               ·rw [if_pos c49] at H
                have LMc49 := Aside0.mk c49
                clear c49
                obtain ⟨y19, hy19⟩ : ∃ y_ : List ByteArray, y_ = (x3_1 ++ [t7]) := ⟨_, rfl⟩
                replace H : (clavigerref08_Words.l0 kj39 a0 y19 (wrap64 ((a0.size : Int) / 4)) (wrap64 (x5_1 + 1))) = some r := by first | (rw [hy19]; with_reducible exact H) | (have H2_ := (Option.bind_some _ _).symm.trans H; rw [hy19]; with_reducible exact H2_) | (have H2_ := (Option.bind_some _ _).symm.trans H; with_reducible exact H2_) | with_reducible exact H | (rw [hy19]; exact H) | exact H
                have Ny5006 := Aside0.mk hy19
                clear hy19
                have H' := Aside0.mk H
                clear H
                go_wp2_with (first | ((with_reducible refine gate_callee (f := 67) rfl ?_); refine goesL_ (some 68) rfl rfl Try.func67 (by kernel_rfl) rfl #[.string (rdOf ByteArray.empty x3_1 (ji13))] rfl (by (try simp only [lT, lC, lN]); first | done | (simp only [hji13]; rfl) | rfl | (simp only [List.length_drop, List.length_take]; rfl)) ?_; (with_reducible refine (clavigerref06_Subs.calls kj39 (rdOf ByteArray.empty x3_1 (ji13)) t6 _ A44.out).mono ?_); rintro e w50 ⟨rfl, hb⟩; refine ⟨_, rfl, ?_⟩; have n0_ := Aside0.mk (Kd.R_below (by (with_reducible repeat (first | apply Kd.R_alloc | apply Kd.R_drewN | apply Kd.R_drew)); exact HO_3.out) hb); have n1_ := Aside0.mk (below_step (by repeat first | with_reducible (first | exact HB.out | apply bA | apply bN | apply bD) | exact HB.out) hb); clear HO_3; clear HB; have HO_3 := n0_; have HB := n1_; clear n0_ n1_; (try clear hb); (try clear hb2); (try clear hk); (try clear hi); have p5007 : 0 ≤ ((ji45) : Int) := of_decide_eq_true (by assumption); have q5007 : (ji45) < (x3_1.length : Int) := of_decide_eq_true (by assumption); obtain ⟨ad5007, e5007, hx5007_0⟩ := Kd.at_string (Kd.R_reads' HO_3.out).2.2 (ji45) p5007 q5007; obtain rfl : ad5004 = ad5007 := (by injection e5007); replace p5007 := eq_true p5007; replace q5007 := eq_true q5007) | ((with_reducible refine gate_callee (f := 178) rfl ?_); refine goesL_ (some 77) rfl rfl Try.func178 (by kernel_rfl) rfl #[.string (rdOf ByteArray.empty x3_1 (ji45)), .string t6] rfl (by (try simp only [lT, lC, lN]); first | done | (simp only [hji45]; rfl) | rfl | (simp only [List.length_drop, List.length_take]; rfl)) ?_; (with_reducible refine (clavigerref01_Xor.calls kj39 (rdOf ByteArray.empty x3_1 (ji45)) t6 t7 _ A48.out).mono ?_); rintro e w51 ⟨rfl, hb⟩; refine ⟨_, rfl, ?_⟩; have n0_ := Aside0.mk (Kd.R_below (by (with_reducible repeat (first | apply Kd.R_alloc | apply Kd.R_drewN | apply Kd.R_drew)); exact HO_3.out) hb); have n1_ := Aside0.mk (below_step (by repeat first | with_reducible (first | exact HB.out | apply bA | apply bN | apply bD) | exact HB.out) hb); clear HO_3; clear HB; have HO_3 := n0_; have HB := n1_; clear n0_ n1_; (try clear hb); (try clear hb2); (try clear hk); (try clear hi)) | ((with_reducible refine gate_builtin (b := .append) (xs := #[.tmp 69, .tmp 78]) rfl ?_); at_builtin; refine Kd.R_append Kd.string (w0 := w) w.heap.size rfl (.tmp 69) (.tmp 78) 49 9 (.string ⟨#[]⟩) 16 rfl Try.underlying49 info9 rfl (by decide) (by omega) (.slice (some ad5004) x3_1.length co41) x3_1 t7 [.string t7] (fun _ => True) (fun _ => False) rfl rfl ?aP (fun _ hk => hk.elim) ?aF ?aO ?aB ?aS ?aL ?_; (case aP => exact rfl); (case aB => exact (by repeat first | with_reducible (first | exact HB.out | apply bA | apply bN | apply bD) | exact HB.out)); (case aF => exact (fun _ _ => trivial)); (case aO => exact (by (with_reducible repeat (first | apply Kd.R_alloc | apply Kd.R_drewN | apply Kd.R_drew)); exact HO_3.out)); (case aS => exact (below_size (by repeat first | with_reducible (first | exact HB.out | apply bA | apply bN | apply bD) | exact HB.out))); (case aL => have := LMc49.out; omega); intro v230 w52 ho hb hg hat; rw [← Ny5006.out] at ho; have n0_ := Aside0.mk (hb); have n1_ := Aside0.mk (ho); clear HB; clear HO_3; have HB := n0_; have HO231 := n1_; clear n0_ n1_; clear ho hb hg hat))
                go_roundg kj39
                case measure => have := HK1.out; have := HJ39.out; omega
                case rel => exact ⟨(y19), (wrap64 (x5_1 + 1)), (by first | rfl | (simp; done) | (simp [*]; done)), H', ⟨by have := HK1.out; have := HJ39.out; omega⟩, ⟨by (with_reducible repeat (first | apply Kd.R_alloc | apply Kd.R_drewN | apply Kd.R_drew)); exact HO231.out⟩, ⟨by repeat first | with_reducible (first | exact HB.out | apply bA | apply bN | apply bD) | exact HB.out⟩⟩
               ·rw [if_neg c49] at H
                exact absurd H (by simp)
              ·rw [if_neg c47] at H
               exact absurd H (by simp)
             ·rw [if_neg c46] at H
              exact absurd H (by simp)
            ·replace c43 := Bool.eq_false_iff.mpr c43
             subst c43
             have H1 : (if 0 ≤ (wrap64 (x5_1 - (wrap64 ((a0.size : Int) / 4)))) then (if (wrap64 (x5_1 - (wrap64 ((a0.size : Int) / 4)))) < (x3_1.length : Int) then ((clavigerref01_Xor.f kj39 (rdOf ByteArray.empty x3_1 (wrap64 (x5_1 - (wrap64 ((a0.size : Int) / 4))))) (rdOf ByteArray.empty x3_1 (ji13))).bind fun t8 => (if x3_1.length < 8796093022208 then (clavigerref08_Words.l0 kj39 a0 (x3_1 ++ [t8]) (wrap64 ((a0.size : Int) / 4)) (wrap64 (x5_1 + 1))) else (none))) else (none)) else (none)) = some r := by rw [if_neg (show ¬ (false = true) by decide)] at H; exact H
             clear H
             have H := H1
             clear H1
             obtain ⟨ji53, hji53⟩ : ∃ j_ : Int, (wrap64 (x5_1 - (wrap64 ((a0.size : Int) / 4)))) = j_ := ⟨_, rfl⟩
             replace H : (if 0 ≤ (ji53) then (if (ji53) < (x3_1.length : Int) then ((clavigerref01_Xor.f kj39 (rdOf ByteArray.empty x3_1 (ji53)) (rdOf ByteArray.empty x3_1 (ji13))).bind fun t8 => (if x3_1.length < 8796093022208 then (clavigerref08_Words.l0 kj39 a0 (x3_1 ++ [t8]) (wrap64 ((a0.size : Int) / 4)) (wrap64 (x5_1 + 1))) else (none))) else (none)) else (none)) = some r := by first | (rw [hji53] at H; exact H) | (simp only [hji53] at H ⊢; exact H)
             have hji53w : (IntKind.i64.wrap (x5_1 - (wrap64 ((a0.size : Int) / 4)))) = ji53 := (i64_w _).trans hji53
             by_cases c54 : 0 ≤ (ji53)
             ·rw [if_pos c54] at H
              have c54b0 : decide (0 ≤ (ji53)) = true := decide_eq_true c54
              clear c54
              by_cases c55 : (ji53) < (x3_1.length : Int)
              ·rw [if_pos c55] at H
               have c55b0 : decide ((ji53) < (x3_1.length : Int)) = true := decide_eq_true c55
               clear c55
               replace H := Option.bind_eq_some_iff.mp H
               obtain ⟨t8, A560, H⟩ := H
               try dsimp only at H
               have A56 := Aside0.mk A560
               clear A560
               by_cases c57 : x3_1.length < 8796093022208
               ·rw [if_pos c57] at H
                have LMc57 := Aside0.mk c57
                clear c57
                obtain ⟨y20, hy20⟩ : ∃ y_ : List ByteArray, y_ = (x3_1 ++ [t8]) := ⟨_, rfl⟩
                replace H : (clavigerref08_Words.l0 kj39 a0 y20 (wrap64 ((a0.size : Int) / 4)) (wrap64 (x5_1 + 1))) = some r := by first | (rw [hy20]; with_reducible exact H) | (have H2_ := (Option.bind_some _ _).symm.trans H; rw [hy20]; with_reducible exact H2_) | (have H2_ := (Option.bind_some _ _).symm.trans H; with_reducible exact H2_) | with_reducible exact H | (rw [hy20]; exact H) | exact H
                have Ny5008 := Aside0.mk hy20
                clear hy20
                have H' := Aside0.mk H
                clear H
                have p5009 : 0 ≤ ((ji53) : Int) := of_decide_eq_true (by assumption)
                have q5009 : (ji53) < (x3_1.length : Int) := of_decide_eq_true (by assumption)
                obtain ⟨ad5009, e5009, hx5009_0⟩ := Kd.at_string (Kd.R_reads' HO_3.out).2.2 (ji53) p5009 q5009
                obtain rfl : ad5004 = ad5009 := (by injection e5009)
                replace p5009 := eq_true p5009
                replace q5009 := eq_true q5009
                go_wp2_with (first | ((with_reducible refine gate_callee (f := 178) rfl ?_); refine goesL_ (some 77) rfl rfl Try.func178 (by kernel_rfl) rfl #[.string (rdOf ByteArray.empty x3_1 (ji53)), .string (rdOf ByteArray.empty x3_1 (ji13))] rfl (by (try simp only [lT, lC, lN]); first | done | (simp only [hji13, hji53]; rfl) | rfl | (simp only [List.length_drop, List.length_take]; rfl)) ?_; (with_reducible refine (clavigerref01_Xor.calls kj39 (rdOf ByteArray.empty x3_1 (ji53)) (rdOf ByteArray.empty x3_1 (ji13)) t8 _ A56.out).mono ?_); rintro e w58 ⟨rfl, hb⟩; refine ⟨_, rfl, ?_⟩; have n0_ := Aside0.mk (Kd.R_below (by (with_reducible repeat (first | apply Kd.R_alloc | apply Kd.R_drewN | apply Kd.R_drew)); exact HO_3.out) hb); have n1_ := Aside0.mk (below_step (by repeat first | with_reducible (first | exact HB.out | apply bA | apply bN | apply bD) | exact HB.out) hb); clear HO_3; clear HB; have HO_3 := n0_; have HB := n1_; clear n0_ n1_; (try clear hb); (try clear hb2); (try clear hk); (try clear hi)) | ((with_reducible refine gate_builtin (b := .append) (xs := #[.tmp 69, .tmp 78]) rfl ?_); at_builtin; refine Kd.R_append Kd.string (w0 := w) w.heap.size rfl (.tmp 69) (.tmp 78) 49 9 (.string ⟨#[]⟩) 16 rfl Try.underlying49 info9 rfl (by decide) (by omega) (.slice (some ad5004) x3_1.length co41) x3_1 t8 [.string t8] (fun _ => True) (fun _ => False) rfl rfl ?aP (fun _ hk => hk.elim) ?aF ?aO ?aB ?aS ?aL ?_; (case aP => exact rfl); (case aB => exact (by repeat first | with_reducible (first | exact HB.out | apply bA | apply bN | apply bD) | exact HB.out)); (case aF => exact (fun _ _ => trivial)); (case aO => exact (by (with_reducible repeat (first | apply Kd.R_alloc | apply Kd.R_drewN | apply Kd.R_drew)); exact HO_3.out)); (case aS => exact (below_size (by repeat first | with_reducible (first | exact HB.out | apply bA | apply bN | apply bD) | exact HB.out))); (case aL => have := LMc57.out; omega); intro v235 w59 ho hb hg hat; rw [← Ny5008.out] at ho; have n0_ := Aside0.mk (hb); have n1_ := Aside0.mk (ho); clear HB; clear HO_3; have HB := n0_; have HO236 := n1_; clear n0_ n1_; clear ho hb hg hat))
                go_roundg kj39
                case measure => have := HK1.out; have := HJ39.out; omega
                case rel => exact ⟨(y20), (wrap64 (x5_1 + 1)), (by first | rfl | (simp; done) | (simp [*]; done)), H', ⟨by have := HK1.out; have := HJ39.out; omega⟩, ⟨by (with_reducible repeat (first | apply Kd.R_alloc | apply Kd.R_drewN | apply Kd.R_drew)); exact HO236.out⟩, ⟨by repeat first | with_reducible (first | exact HB.out | apply bA | apply bN | apply bD) | exact HB.out⟩⟩
               ·rw [if_neg c57] at H
                exact absurd H (by simp)
              ·rw [if_neg c55] at H
               exact absurd H (by simp)
             ·rw [if_neg c54] at H
              exact absurd H (by simp)
       ·rw [if_neg c15] at H
        exact absurd H (by simp)
      ·rw [if_neg c14] at H
       exact absurd H (by simp)
    ·rw [if_neg c5] at H
     have c5b0 : decide (x5_1 < (wrap64 ((wrap64 (4 * t1)) + 4))) = false := decide_eq_false c5
     clear c5
     obtain rfl := Option.some.inj H
     go_wp2_with (first | ((with_reducible refine gate_callee (f := 92) rfl ?_); refine goesL_ (some 18) rfl rfl Try.func92 (by kernel_rfl) rfl #[.int .i64 (a0.size : Int)] rfl (by (try simp only [lT, lC, lN]); first | done | rfl | (simp only [List.length_drop, List.length_take]; rfl) | (simp only [ByteArray.size_extract, Nat.min_self, Nat.sub_zero, ByteArray.size_append]; first | done | rfl)) ?_; (with_reducible refine (clavigerref08_Rounds.calls (a0.size : Int) t1 _ A4.out).mono ?_); rintro e w' ⟨rfl, ⟨nd, rfl⟩⟩; refine ⟨_, rfl, ?_⟩))
     go_ret
     exact ⟨_, by first | rfl | (simp [*, errW_none, errW_some] <;> rfl), by (with_reducible repeat (first | apply Kd.R_alloc | apply Kd.R_drewN | apply Kd.R_drew)); exact HO_3.out, by repeat first | with_reducible (first | exact HB.out | apply bA | apply bN | apply bD) | exact HB.out⟩

def clavigerref08_Keys.l0 : Nat → List ByteArray → List ByteArray → Int → Option (List ByteArray × Int)
 | 0, _, _, _ => none
 | k + 1, x4, x5, x6 => if x6 < (x4.length : Int) then (if 0 ≤ x6 then (if 0 ≤ (wrap64 (x6 + 1)) then (if (wrap64 (x6 + 1)) < (x4.length : Int) then (if (rdOf ByteArray.empty x4 x6).size + (rdOf ByteArray.empty x4 (wrap64 (x6 + 1))).size ≤ 9223372036854775807 then (if 0 ≤ (wrap64 (x6 + 2)) then (if (wrap64 (x6 + 2)) < (x4.length : Int) then (if ((rdOf ByteArray.empty x4 x6) ++ (rdOf ByteArray.empty x4 (wrap64 (x6 + 1)))).size + (rdOf ByteArray.empty x4 (wrap64 (x6 + 2))).size ≤ 9223372036854775807 then (if 0 ≤ (wrap64 (x6 + 3)) then (if (wrap64 (x6 + 3)) < (x4.length : Int) then (if (((rdOf ByteArray.empty x4 x6) ++ (rdOf ByteArray.empty x4 (wrap64 (x6 + 1)))) ++ (rdOf ByteArray.empty x4 (wrap64 (x6 + 2)))).size + (rdOf ByteArray.empty x4 (wrap64 (x6 + 3))).size ≤ 9223372036854775807 then (if x5.length < 8796093022208 then (clavigerref08_Keys.l0 k x4 (x5 ++ [(((rdOf ByteArray.empty x4 x6) ++ (rdOf ByteArray.empty x4 (wrap64 (x6 + 1)))) ++ (rdOf ByteArray.empty x4 (wrap64 (x6 + 2)))) ++ (rdOf ByteArray.empty x4 (wrap64 (x6 + 3)))]) (wrap64 (x6 + 4))) else (none)) else (none)) else (none)) else (none)) else (none)) else (none)) else (none)) else (none)) else (none)) else (none)) else (none)) else (some (x5, 0))
def clavigerref08_Keys.f (k : Nat) (a0 : ByteArray) : Option (List ByteArray × Int) := (clavigerref08_Rounds.f (a0.size : Int)).bind fun t1 => (if t1 = 0 then (some (([] : List ByteArray), 2)) else ((clavigerref08_Words.f k a0).bind fun t2 => (clavigerref08_Keys.l0 k t2 ([] : List ByteArray) 0)))
theorem clavigerref08_Keys.mono_l : ∀ k, (∀ y3 y4 y5, LeO (clavigerref08_Keys.l0 k y3 y4 y5) (clavigerref08_Keys.l0 (k + 1) y3 y4 y5))
 | 0 => fun _ _ _ r h => by simp [clavigerref08_Keys.l0] at h
 | k + 1 => by
  have ih0 := clavigerref08_Keys.mono_l k
  ·intro y3 y4 y5
   unfold clavigerref08_Keys.l0
   repeat' first
   | (with_reducible exact ih0 _ _ _)
   | (with_reducible exact clavigerref08_Words.mono _ _)
   | (with_reducible exact LeO.refl _)
   | (with_reducible exact LeO.none _)
   | (with_reducible refine LeO.ite ?_ ?_)
   | (with_reducible refine LeO.bind ?_ (fun _ => ?_))
theorem clavigerref08_Keys.mono : ∀ a0 k, LeO (clavigerref08_Keys.f k a0) (clavigerref08_Keys.f (k + 1) a0) := by
 intro a0 k
 have ih0 := clavigerref08_Keys.mono_l k
 unfold clavigerref08_Keys.f
 repeat' first
   | (with_reducible exact ih0 _ _ _)
   | (with_reducible exact clavigerref08_Words.mono _ _)
   | (with_reducible exact LeO.refl _)
   | (with_reducible exact LeO.none _)
   | (with_reducible refine LeO.ite ?_ ?_)
   | (with_reducible refine LeO.bind ?_ (fun _ => ?_))
def clavigerref08_Keys.T8 : Bool × List (List Nat × List Nat) := (true, [([], []), ([], []), ([], []), ([1, 2], [1, 2]), ([3], [3]), ([], []), ([], []), ([6], [6]), ([5, 7], [5, 7]), ([8], [8]), ([4, 9], [4, 9]), ([], []), ([], []), ([12], [12]), ([11, 13], [11, 13]), ([14], [14]), ([10, 15], [10, 15]), ([], []), ([], []), ([18], [18]), ([17, 19], [17, 19]), ([20], [20]), ([16, 21], [16, 21]), ([22], [22]), ([0, 23], [0, 23]), ([24, 24, 0, 1, 2, 3, 4, 5, 6, 7, 8, 9, 10, 11, 12, 13, 14, 15, 16, 17, 18, 19, 20, 21, 22, 23, 24], [0, 24])])
def clavigerref08_Keys.B8 : List Nat := [0, 0, 0, 6, 14, 0, 0, 64, 224, 480, 1022, 0, 0, 4096, 14336, 30720, 65534, 0, 0, 262144, 917504, 1966080, 4194302, 8388606, 16777215, 33554431]
theorem clavigerref08_Keys.tab8 : rtab .any (opsOf Try.f91 8) = clavigerref08_Keys.T8 := by kernel_rfl
theorem clavigerref08_Keys.bits8 : waitsOk clavigerref08_Keys.T8.2 clavigerref08_Keys.B8 = true := by kernel_rfl
set_option maxHeartbeats 8000000 in
set_option maxRecDepth 100000 in
theorem clavigerref08_Keys.calls (k : Nat) (a0 : ByteArray) (r1 : List ByteArray) (r2 : Int) (w : World) (h : clavigerref08_Keys.f k a0 = some (r1, r2)) :
  Calls Try.prog 91 #[.string a0] w fun e w' => ∃ v0_ : Value, e = .returned (.tuple #[v0_, .int .i64 r2]) ∧ Kd.R Kd.string 9 w' w.heap.size (fun _ => True) v0_ r1 ∧ Below w.heap.size w w' := by
 have HB := Aside0.mk (Below.refl w.heap.size w)
 have H : ((clavigerref08_Rounds.f (a0.size : Int)).bind fun t1 => (if t1 = 0 then (some (([] : List ByteArray), 2)) else ((clavigerref08_Words.f k a0).bind fun t2 => (clavigerref08_Keys.l0 k t2 ([] : List ByteArray) 0)))) = some (r1, r2) := h
 clear h
 replace H := Option.bind_eq_some_iff.mp H
 obtain ⟨t1, A20, H⟩ := H
 try dsimp only at H
 have A2 := Aside0.mk A20
 clear A20
 by_cases c3 : t1 = 0
 ·rw [if_pos c3] at H
  have c3b0 : (t1 == 0) = true := beq_iff_eq.mpr c3
  have c3b1 : (t1 != 0) = false := bne_eq_false_iff_eq.mpr c3
  clear c3
  simp only [Option.some.injEq, Prod.mk.injEq] at H
  obtain ⟨rfl, rfl⟩ := H
  go_enter Try.func91, Try.ntmps91
  go_wp2_with (first | ((with_reducible refine gate_callee (f := 92) rfl ?_); refine goesL_ (some 9) rfl rfl Try.func92 (by kernel_rfl) rfl #[.int .i64 (a0.size : Int)] rfl (by (try simp only [lT, lC, lN]); first | done | rfl | (simp only [List.length_drop, List.length_take]; rfl) | (simp only [ByteArray.size_extract, Nat.min_self, Nat.sub_zero, ByteArray.size_append]; first | done | rfl)) ?_; (with_reducible refine (clavigerref08_Rounds.calls (a0.size : Int) t1 _ A2.out).mono ?_); rintro e w' ⟨rfl, ⟨nd, rfl⟩⟩; refine ⟨_, rfl, ?_⟩))
  go_ret2
  exact ⟨_, by first | rfl | (simp [*, errW_none, errW_some] <;> rfl), by first | exact Kd.R_nil _ _ _ _ _ | exact Kd.N_nil _ _ _ _ _ | exact Kd.V_nil _ _ _ _ _ | exact Kd.Q_nil _ _ _ _ _ | exact Kd.S_nil _ _ _ _ _, by repeat first | with_reducible (first | exact HB.out | apply bA | apply bN | apply bD) | exact HB.out⟩
 ·rw [if_neg c3] at H
  have c3b0 : (t1 == 0) = false := beq_eq_false_iff_ne.mpr c3
  have c3b1 : (t1 != 0) = true := bne_iff_ne.mpr c3
  replace H := Option.bind_eq_some_iff.mp H
  obtain ⟨t2, A40, H⟩ := H
  try dsimp only at H
  have A4 := Aside0.mk A40
  clear A40
  have H' := Aside0.mk H
  clear H
  go_enter Try.func91, Try.ntmps91
  go_wp2_with (first | ((with_reducible refine gate_callee (f := 92) rfl ?_); refine goesL_ (some 9) rfl rfl Try.func92 (by kernel_rfl) rfl #[.int .i64 (a0.size : Int)] rfl (by (try simp only [lT, lC, lN]); first | done | rfl | (simp only [List.length_drop, List.length_take]; rfl) | (simp only [ByteArray.size_extract, Nat.min_self, Nat.sub_zero, ByteArray.size_append]; first | done | rfl)) ?_; (with_reducible refine (clavigerref08_Rounds.calls (a0.size : Int) t1 _ A2.out).mono ?_); rintro e w' ⟨rfl, ⟨nd, rfl⟩⟩; refine ⟨_, rfl, ?_⟩) | ((with_reducible refine gate_callee (f := 96) rfl ?_); refine goesL_ (some 12) rfl rfl Try.func96 (by kernel_rfl) rfl #[.string a0] rfl (by (try simp only [lT, lC, lN]); first | done | rfl) ?_; (with_reducible refine (clavigerref08_Words.calls k a0 t2 _ A4.out).mono ?_); rintro e w5 ⟨v239, rfl, ho0, hb⟩; refine ⟨_, rfl, ?_⟩; have n0_ := Aside0.mk (Kd.R_lower ho0 (below_size (by repeat first | with_reducible (first | exact HB.out | apply bA | apply bN | apply bD) | exact HB.out))); have n1_ := Aside0.mk (below_step (by repeat first | with_reducible (first | exact HB.out | apply bA | apply bN | apply bD) | exact HB.out) hb); clear HB; have HO240 := n0_; have HB := n1_; clear n0_ n1_; (try clear hb); (try clear hb2); (try clear hk); (try clear hi); (try clear ho0)))
  go_loopg [5, 6] k (fun kq v5 v6 w' => ∃ (x5_1 : List ByteArray) (x6_1 : Int), v6 = .int .i64 x6_1 ∧ Aside0 (clavigerref08_Keys.l0 kq t2 x5_1 x6_1 = some (r1, r2)) ∧ Aside0 (kq ≤ k) ∧ Aside0 (Kd.R Kd.string 9 w' w.heap.size (fun k_ => some k_ ≠ (v5 : Value).ownBlock) v239 t2) ∧ Aside0 (Kd.R Kd.string 9 w' w.heap.size (fun k_ => some k_ ≠ (v239 : Value).ownBlock) v5 x5_1) ∧ Aside0 (Below w.heap.size w w'))
  case atStart => exact ⟨(([] : List ByteArray)), (0), (by first | rfl | (simp; done) | (simp [*]; done)), H', ⟨Nat.le_refl _⟩, ⟨by (with_reducible repeat (first | apply Kd.R_alloc | apply Kd.R_drewN | apply Kd.R_drew)); exact Kd.R_mono HO240.out (fun _ hk => (by simp [Value.ownBlock]))⟩, ⟨by first | exact Kd.R_nil _ _ _ _ _ | exact Kd.N_nil _ _ _ _ _ | exact Kd.V_nil _ _ _ _ _ | exact Kd.Q_nil _ _ _ _ _ | exact Kd.S_nil _ _ _ _ _⟩, ⟨by repeat first | with_reducible (first | exact HB.out | apply bA | apply bN | apply bD) | exact HB.out⟩⟩
  case round =>
   clear H'
   try clear p2
   try clear c3
   try clear c3b0
   try clear c3b1
   obtain ⟨x5_1, x6_1, rfl, HA, HK1, HO_4, HO_5, HB⟩ := hrel
   cases gk with
   | zero => exact absurd HA.out (by simp [clavigerref08_Keys.l0])
   | succ k1 =>
    have H := HA.out
    clear HA
    simp only [clavigerref08_Keys.l0] at H
    by_cases c6 : x6_1 < (t2.length : Int)
    ·rw [if_pos c6] at H
     have c6b0 : decide (x6_1 < (t2.length : Int)) = true := decide_eq_true c6
     clear c6
     by_cases c7 : 0 ≤ x6_1
     ·rw [if_pos c7] at H
      have c7b0 : decide (0 ≤ x6_1) = true := decide_eq_true c7
      clear c7
      obtain ⟨ji8, hji8⟩ : ∃ j_ : Int, (wrap64 (x6_1 + 1)) = j_ := ⟨_, rfl⟩
      replace H : (if 0 ≤ (ji8) then (if (ji8) < (t2.length : Int) then (if (rdOf ByteArray.empty t2 x6_1).size + (rdOf ByteArray.empty t2 (ji8)).size ≤ 9223372036854775807 then (if 0 ≤ (wrap64 (x6_1 + 2)) then (if (wrap64 (x6_1 + 2)) < (t2.length : Int) then (if ((rdOf ByteArray.empty t2 x6_1) ++ (rdOf ByteArray.empty t2 (ji8))).size + (rdOf ByteArray.empty t2 (wrap64 (x6_1 + 2))).size ≤ 9223372036854775807 then (if 0 ≤ (wrap64 (x6_1 + 3)) then (if (wrap64 (x6_1 + 3)) < (t2.length : Int) then (if (((rdOf ByteArray.empty t2 x6_1) ++ (rdOf ByteArray.empty t2 (ji8))) ++ (rdOf ByteArray.empty t2 (wrap64 (x6_1 + 2)))).size + (rdOf ByteArray.empty t2 (wrap64 (x6_1 + 3))).size ≤ 9223372036854775807 then (if x5_1.length < 8796093022208 then (clavigerref08_Keys.l0 k1 t2 (x5_1 ++ [(((rdOf ByteArray.empty t2 x6_1) ++ (rdOf ByteArray.empty t2 (ji8))) ++ (rdOf ByteArray.empty t2 (wrap64 (x6_1 + 2)))) ++ (rdOf ByteArray.empty t2 (wrap64 (x6_1 + 3)))]) (wrap64 (x6_1 + 4))) else (none)) else (none)) else (none)) else (none)) else (none)) else (none)) else (none)) else (none)) else (none)) else (none)) = some (r1, r2) := by first | (rw [hji8] at H; exact H) | (simp only [hji8] at H ⊢; exact H)
      have hji8w : (IntKind.i64.wrap (x6_1 + 1)) = ji8 := (i64_w _).trans hji8
      by_cases c9 : 0 ≤ (ji8)
      ·rw [if_pos c9] at H
       have c9b0 : decide (0 ≤ (ji8)) = true := decide_eq_true c9
       clear c9
       by_cases c10 : (ji8) < (t2.length : Int)
       ·rw [if_pos c10] at H
        have c10b0 : decide ((ji8) < (t2.length : Int)) = true := decide_eq_true c10
        clear c10
        by_cases c11 : (rdOf ByteArray.empty t2 x6_1).size + (rdOf ByteArray.empty t2 (ji8)).size ≤ 9223372036854775807
        ·rw [if_pos c11] at H
         have c11b0 := eq_true c11
         have c11b1 : decide ((rdOf ByteArray.empty t2 x6_1).size + (rdOf ByteArray.empty t2 (ji8)).size ≤ 9223372036854775807) = true := decide_eq_true c11
         try have c11b2 : (9223372036854775807 < (rdOf ByteArray.empty t2 x6_1).size + (rdOf ByteArray.empty t2 (ji8)).size) = False := eq_false (Nat.not_lt.2 c11)
         obtain ⟨ji12, hji12⟩ : ∃ j_ : Int, (wrap64 (x6_1 + 2)) = j_ := ⟨_, rfl⟩
         replace H : (if 0 ≤ (ji12) then (if (ji12) < (t2.length : Int) then (if ((rdOf ByteArray.empty t2 x6_1) ++ (rdOf ByteArray.empty t2 (ji8))).size + (rdOf ByteArray.empty t2 (ji12)).size ≤ 9223372036854775807 then (if 0 ≤ (wrap64 (x6_1 + 3)) then (if (wrap64 (x6_1 + 3)) < (t2.length : Int) then (if (((rdOf ByteArray.empty t2 x6_1) ++ (rdOf ByteArray.empty t2 (ji8))) ++ (rdOf ByteArray.empty t2 (ji12))).size + (rdOf ByteArray.empty t2 (wrap64 (x6_1 + 3))).size ≤ 9223372036854775807 then (if x5_1.length < 8796093022208 then (clavigerref08_Keys.l0 k1 t2 (x5_1 ++ [(((rdOf ByteArray.empty t2 x6_1) ++ (rdOf ByteArray.empty t2 (ji8))) ++ (rdOf ByteArray.empty t2 (ji12))) ++ (rdOf ByteArray.empty t2 (wrap64 (x6_1 + 3)))]) (wrap64 (x6_1 + 4))) else (none)) else (none)) else (none)) else (none)) else (none)) else (none)) else (none)) = some (r1, r2) := by first | (rw [hji12] at H; exact H) | (simp only [hji12] at H ⊢; exact H)
         have hji12w : (IntKind.i64.wrap (x6_1 + 2)) = ji12 := (i64_w _).trans hji12
         by_cases c13 : 0 ≤ (ji12)
         ·rw [if_pos c13] at H
          have c13b0 : decide (0 ≤ (ji12)) = true := decide_eq_true c13
          clear c13
          by_cases c14 : (ji12) < (t2.length : Int)
          ·rw [if_pos c14] at H
           have c14b0 : decide ((ji12) < (t2.length : Int)) = true := decide_eq_true c14
           clear c14
           by_cases c15 : ((rdOf ByteArray.empty t2 x6_1) ++ (rdOf ByteArray.empty t2 (ji8))).size + (rdOf ByteArray.empty t2 (ji12)).size ≤ 9223372036854775807
           ·rw [if_pos c15] at H
            have c15b0 := eq_true c15
            have c15b1 : decide (((rdOf ByteArray.empty t2 x6_1) ++ (rdOf ByteArray.empty t2 (ji8))).size + (rdOf ByteArray.empty t2 (ji12)).size ≤ 9223372036854775807) = true := decide_eq_true c15
            try have c15b2 : (9223372036854775807 < ((rdOf ByteArray.empty t2 x6_1) ++ (rdOf ByteArray.empty t2 (ji8))).size + (rdOf ByteArray.empty t2 (ji12)).size) = False := eq_false (Nat.not_lt.2 c15)
            have c15b9 : (9223372036854775807 < (rdOf ByteArray.empty t2 x6_1).size + (rdOf ByteArray.empty t2 (ji8)).size + (rdOf ByteArray.empty t2 (ji12)).size) = False := eq_false (by have h_ := c15; simp only [ByteArray.size_append, ByteArray.size_extract, Nat.sub_zero] at h_; omega)
            obtain ⟨ji16, hji16⟩ : ∃ j_ : Int, (wrap64 (x6_1 + 3)) = j_ := ⟨_, rfl⟩
            replace H : (if 0 ≤ (ji16) then (if (ji16) < (t2.length : Int) then (if (((rdOf ByteArray.empty t2 x6_1) ++ (rdOf ByteArray.empty t2 (ji8))) ++ (rdOf ByteArray.empty t2 (ji12))).size + (rdOf ByteArray.empty t2 (ji16)).size ≤ 9223372036854775807 then (if x5_1.length < 8796093022208 then (clavigerref08_Keys.l0 k1 t2 (x5_1 ++ [(((rdOf ByteArray.empty t2 x6_1) ++ (rdOf ByteArray.empty t2 (ji8))) ++ (rdOf ByteArray.empty t2 (ji12))) ++ (rdOf ByteArray.empty t2 (ji16))]) (wrap64 (x6_1 + 4))) else (none)) else (none)) else (none)) else (none)) = some (r1, r2) := by first | (rw [hji16] at H; exact H) | (simp only [hji16] at H ⊢; exact H)
            have hji16w : (IntKind.i64.wrap (x6_1 + 3)) = ji16 := (i64_w _).trans hji16
            by_cases c17 : 0 ≤ (ji16)
            ·rw [if_pos c17] at H
             have c17b0 : decide (0 ≤ (ji16)) = true := decide_eq_true c17
             clear c17
             by_cases c18 : (ji16) < (t2.length : Int)
             ·rw [if_pos c18] at H
              have c18b0 : decide ((ji16) < (t2.length : Int)) = true := decide_eq_true c18
              clear c18
              by_cases c19 : (((rdOf ByteArray.empty t2 x6_1) ++ (rdOf ByteArray.empty t2 (ji8))) ++ (rdOf ByteArray.empty t2 (ji12))).size + (rdOf ByteArray.empty t2 (ji16)).size ≤ 9223372036854775807
              ·rw [if_pos c19] at H
               have c19b0 := eq_true c19
               have c19b1 : decide ((((rdOf ByteArray.empty t2 x6_1) ++ (rdOf ByteArray.empty t2 (ji8))) ++ (rdOf ByteArray.empty t2 (ji12))).size + (rdOf ByteArray.empty t2 (ji16)).size ≤ 9223372036854775807) = true := decide_eq_true c19
               try have c19b2 : (9223372036854775807 < (((rdOf ByteArray.empty t2 x6_1) ++ (rdOf ByteArray.empty t2 (ji8))) ++ (rdOf ByteArray.empty t2 (ji12))).size + (rdOf ByteArray.empty t2 (ji16)).size) = False := eq_false (Nat.not_lt.2 c19)
               have c19b9 : (9223372036854775807 < (rdOf ByteArray.empty t2 x6_1).size + (rdOf ByteArray.empty t2 (ji8)).size + (rdOf ByteArray.empty t2 (ji12)).size + (rdOf ByteArray.empty t2 (ji16)).size) = False := eq_false (by have h_ := c19; simp only [ByteArray.size_append, ByteArray.size_extract, Nat.sub_zero] at h_; omega)
               by_cases c20 : x5_1.length < 8796093022208
               ·rw [if_pos c20] at H
                have LMc20 := Aside0.mk c20
                clear c20
                obtain ⟨y6, hy6⟩ : ∃ y_ : List ByteArray, y_ = (x5_1 ++ [(((rdOf ByteArray.empty t2 x6_1) ++ (rdOf ByteArray.empty t2 (ji8))) ++ (rdOf ByteArray.empty t2 (ji12))) ++ (rdOf ByteArray.empty t2 (ji16))]) := ⟨_, rfl⟩
                replace H : (clavigerref08_Keys.l0 k1 t2 y6 (wrap64 (x6_1 + 4))) = some (r1, r2) := by first | (rw [hy6]; with_reducible exact H) | (have H2_ := (Option.bind_some _ _).symm.trans H; rw [hy6]; with_reducible exact H2_) | (have H2_ := (Option.bind_some _ _).symm.trans H; with_reducible exact H2_) | with_reducible exact H | (rw [hy6]; exact H) | exact H
                have Ny5001 := Aside0.mk hy6
                clear hy6
                have H' := Aside0.mk H
                clear H
                obtain ⟨Ao21, co21, eo21⟩ := Kd.R_slice HO_4.out
                subst eo21
                try go_wp2
                have n0_ := Aside0.mk (Kd.R_drew HO_4.out)
                have n1_ := Aside0.mk (Kd.R_drew HO_5.out)
                have n2_ := Aside0.mk (below_drew1 HB.out)
                clear HO_4
                clear HO_5
                clear HB
                have HO_4 := n0_
                have HO_5 := n1_
                have HB := n2_
                clear n0_ n1_ n2_
                have p5002 : 0 ≤ (x6_1 : Int) := of_decide_eq_true (by assumption)
                have q5002 : x6_1 < (t2.length : Int) := of_decide_eq_true (by assumption)
                obtain ⟨ad5002, e5002, hx5002_0⟩ := Kd.at_string (Kd.R_reads' HO_4.out).2.2 x6_1 p5002 q5002
                cases e5002
                replace p5002 := eq_true p5002
                replace q5002 := eq_true q5002
                have p5003 : 0 ≤ ((ji8) : Int) := of_decide_eq_true (by assumption)
                have q5003 : (ji8) < (t2.length : Int) := of_decide_eq_true (by assumption)
                obtain ⟨ad5003, e5003, hx5003_0⟩ := Kd.at_string (Kd.R_reads' HO_4.out).2.2 (ji8) p5003 q5003
                obtain rfl : ad5002 = ad5003 := (by injection e5003)
                replace p5003 := eq_true p5003
                replace q5003 := eq_true q5003
                have p5004 : 0 ≤ ((ji12) : Int) := of_decide_eq_true (by assumption)
                have q5004 : (ji12) < (t2.length : Int) := of_decide_eq_true (by assumption)
                obtain ⟨ad5004, e5004, hx5004_0⟩ := Kd.at_string (Kd.R_reads' HO_4.out).2.2 (ji12) p5004 q5004
                obtain rfl : ad5002 = ad5004 := (by injection e5004)
                replace p5004 := eq_true p5004
                replace q5004 := eq_true q5004
                have p5005 : 0 ≤ ((ji16) : Int) := of_decide_eq_true (by assumption)
                have q5005 : (ji16) < (t2.length : Int) := of_decide_eq_true (by assumption)
                obtain ⟨ad5005, e5005, hx5005_0⟩ := Kd.at_string (Kd.R_reads' HO_4.out).2.2 (ji16) p5005 q5005
                obtain rfl : ad5002 = ad5005 := (by injection e5005)
                replace p5005 := eq_true p5005
                replace q5005 := eq_true q5005
                refine start_ (n := 26) (S := fun w' => w'.cell? (ad5002.add (x6_1).toNat) = some (.string (rdOf ByteArray.empty t2 x6_1)) ∧ w'.cell? (ad5002.add ((ji8)).toNat) = some (.string (rdOf ByteArray.empty t2 (ji8))) ∧ w'.cell? (ad5002.add ((ji12)).toNat) = some (.string (rdOf ByteArray.empty t2 (ji12))) ∧ w'.cell? (ad5002.add ((ji16)).toNat) = some (.string (rdOf ByteArray.empty t2 (ji16)))) (ds := [23, 24]) #[false, false, false, false, false, false, false, false, false, false, false, false, false, false, false, false, false, false, false, false, false, false, false, false, false, false] (by kernel_rfl) rfl rfl ⟨hx5002_0, hx5003_0, hx5004_0, hx5005_0⟩ (fun hHeld => ?_); refine with_tabW clavigerref08_Keys.tab8 clavigerref08_Keys.bits8 (fun HT_ HW_ => ?_)
                generalize wr.drew = w22 at HO_4 HO_5 HB hx5002_0 hx5003_0 hx5004_0 hx5005_0 hHeld ⊢
                refine pure_ (i := 0) (N := some 19) (v := ?_) (a' := ?_) #[true, false, false, false, false, false, false, false, false, false, false, false, false, false, false, false, false, false, false, false, false, false, false, false, false, false] rfl rfl (any_of HT_.out (by kernel_rfl)) (fun _ _ _ h => h) (Or.inl ⟨by rfl, ?_⟩) ?_ ?_
                rotate_left
                ·intro w'
                 go_simp
                 with_reducible rfl
                rotate_left
                ·simp only [Act.put, List.setIfInBounds_toArray, List.set_cons_zero, List.set_cons_succ, i64_w, i32_w]
                 rfl
                refine pure_ (i := 1) (N := some 20) (v := ?_) (a' := ?_) #[true, true, false, false, false, false, false, false, false, false, false, false, false, false, false, false, false, false, false, false, false, false, false, false, false, false] rfl rfl (any_of HT_.out (by kernel_rfl)) (fun _ _ _ h => h) (Or.inl ⟨by rfl, ?_⟩) ?_ ?_
                rotate_left
                ·intro w'
                 go_simp
                 with_reducible rfl
                rotate_left
                ·simp only [Act.put, List.setIfInBounds_toArray, List.set_cons_zero, List.set_cons_succ, i64_w, i32_w]
                 rfl
                refine pure_ (i := 2) (N := some 21) (v := ?_) (a' := ?_) #[true, true, true, false, false, false, false, false, false, false, false, false, false, false, false, false, false, false, false, false, false, false, false, false, false, false] rfl rfl (any_of HT_.out (by kernel_rfl)) (fun _ _ _ h => h) (Or.inl ⟨by rfl, ?_⟩) ?_ ?_
                rotate_left
                ·intro w'
                 go_simp
                 with_reducible rfl
                rotate_left
                ·simp only [Act.put, List.setIfInBounds_toArray, List.set_cons_zero, List.set_cons_succ, i64_w, i32_w]
                 rfl
                refine pure_ (i := 3) (N := some 22) (v := ?_) (a' := ?_) #[true, true, true, true, false, false, false, false, false, false, false, false, false, false, false, false, false, false, false, false, false, false, false, false, false, false] rfl rfl (any_of HT_.out (by kernel_rfl)) (fun _ _ _ h => h) (Or.inl ⟨by rfl, ?_⟩) ?_ ?_
                rotate_left
                ·intro w'
                 go_simp
                 with_reducible rfl
                rotate_left
                ·simp only [Act.put, List.setIfInBounds_toArray, List.set_cons_zero, List.set_cons_succ, i64_w, i32_w]
                 rfl
                refine pure_ (i := 5) (N := some 24) (v := ?_) (a' := ?_) #[true, true, true, true, false, true, false, false, false, false, false, false, false, false, false, false, false, false, false, false, false, false, false, false, false, false] rfl rfl (any_of HT_.out (by kernel_rfl)) (fun _ _ _ h => h) (Or.inl ⟨by rfl, ?_⟩) ?_ ?_
                rotate_left
                ·intro w'
                 go_simp
                 with_reducible rfl
                rotate_left
                ·simp only [Act.put, List.setIfInBounds_toArray, List.set_cons_zero, List.set_cons_succ, i64_w, i32_w]
                 rfl
                refine pure_ (i := 6) (N := some 25) (v := ?_) (a' := ?_) #[true, true, true, true, false, true, true, false, false, false, false, false, false, false, false, false, false, false, false, false, false, false, false, false, false, false] rfl rfl (any_of HT_.out (by kernel_rfl)) (fun _ _ _ h => h) (Or.inl ⟨by rfl, ?_⟩) ?_ ?_
                rotate_left
                ·intro w'
                 go_simp
                 with_reducible rfl
                rotate_left
                ·simp only [Act.put, List.setIfInBounds_toArray, List.set_cons_zero, List.set_cons_succ, i64_w, i32_w]
                 rfl
                refine pure_ (i := 7) (N := some 26) (v := ?_) (a' := ?_) #[true, true, true, true, false, true, true, true, false, false, false, false, false, false, false, false, false, false, false, false, false, false, false, false, false, false] rfl rfl (any_of HT_.out (by kernel_rfl)) (fun _ _ _ h => h) (Or.inl ⟨by rfl, ?_⟩) ?_ ?_
                rotate_left
                ·intro w'
                 go_simp
                 with_reducible rfl
                rotate_left
                ·simp only [Act.put, List.setIfInBounds_toArray, List.set_cons_zero, List.set_cons_succ, i64_w, i32_w]
                 rfl
                refine pure_ (i := 8) (N := some 27) (v := ?_) (a' := ?_) #[true, true, true, true, false, true, true, true, true, false, false, false, false, false, false, false, false, false, false, false, false, false, false, false, false, false] rfl rfl (any_of HT_.out (by kernel_rfl)) (fun _ _ _ h => h) (Or.inl ⟨by rfl, ?_⟩) ?_ ?_
                rotate_left
                ·intro w'
                 go_simp
                 with_reducible rfl
                rotate_left
                ·simp only [Act.put, List.setIfInBounds_toArray, List.set_cons_zero, List.set_cons_succ, i64_w, i32_w]
                 rfl
                refine pure_ (i := 11) (N := some 30) (v := ?_) (a' := ?_) #[true, true, true, true, false, true, true, true, true, false, false, true, false, false, false, false, false, false, false, false, false, false, false, false, false, false] rfl rfl (any_of HT_.out (by kernel_rfl)) (fun _ _ _ h => h) (Or.inl ⟨by rfl, ?_⟩) ?_ ?_
                rotate_left
                ·intro w'
                 go_simp
                 with_reducible rfl
                rotate_left
                ·simp only [Act.put, List.setIfInBounds_toArray, List.set_cons_zero, List.set_cons_succ, i64_w, i32_w]
                 rfl
                refine pure_ (i := 12) (N := some 31) (v := ?_) (a' := ?_) #[true, true, true, true, false, true, true, true, true, false, false, true, true, false, false, false, false, false, false, false, false, false, false, false, false, false] rfl rfl (any_of HT_.out (by kernel_rfl)) (fun _ _ _ h => h) (Or.inl ⟨by rfl, ?_⟩) ?_ ?_
                rotate_left
                ·intro w'
                 go_simp
                 with_reducible rfl
                rotate_left
                ·simp only [Act.put, List.setIfInBounds_toArray, List.set_cons_zero, List.set_cons_succ, i64_w, i32_w]
                 rfl
                refine pure_ (i := 13) (N := some 32) (v := ?_) (a' := ?_) #[true, true, true, true, false, true, true, true, true, false, false, true, true, true, false, false, false, false, false, false, false, false, false, false, false, false] rfl rfl (any_of HT_.out (by kernel_rfl)) (fun _ _ _ h => h) (Or.inl ⟨by rfl, ?_⟩) ?_ ?_
                rotate_left
                ·intro w'
                 go_simp
                 with_reducible rfl
                rotate_left
                ·simp only [Act.put, List.setIfInBounds_toArray, List.set_cons_zero, List.set_cons_succ, i64_w, i32_w]
                 rfl
                refine pure_ (i := 14) (N := some 33) (v := ?_) (a' := ?_) #[true, true, true, true, false, true, true, true, true, false, false, true, true, true, true, false, false, false, false, false, false, false, false, false, false, false] rfl rfl (any_of HT_.out (by kernel_rfl)) (fun _ _ _ h => h) (Or.inl ⟨by rfl, ?_⟩) ?_ ?_
                rotate_left
                ·intro w'
                 go_simp
                 with_reducible rfl
                rotate_left
                ·simp only [Act.put, List.setIfInBounds_toArray, List.set_cons_zero, List.set_cons_succ, i64_w, i32_w]
                 rfl
                refine pure_ (i := 17) (N := some 36) (v := ?_) (a' := ?_) #[true, true, true, true, false, true, true, true, true, false, false, true, true, true, true, false, false, true, false, false, false, false, false, false, false, false] rfl rfl (any_of HT_.out (by kernel_rfl)) (fun _ _ _ h => h) (Or.inl ⟨by rfl, ?_⟩) ?_ ?_
                rotate_left
                ·intro w'
                 go_simp
                 with_reducible rfl
                rotate_left
                ·simp only [Act.put, List.setIfInBounds_toArray, List.set_cons_zero, List.set_cons_succ, i64_w, i32_w]
                 rfl
                refine pure_ (i := 18) (N := some 37) (v := ?_) (a' := ?_) #[true, true, true, true, false, true, true, true, true, false, false, true, true, true, true, false, false, true, true, false, false, false, false, false, false, false] rfl rfl (any_of HT_.out (by kernel_rfl)) (fun _ _ _ h => h) (Or.inl ⟨by rfl, ?_⟩) ?_ ?_
                rotate_left
                ·intro w'
                 go_simp
                 with_reducible rfl
                rotate_left
                ·simp only [Act.put, List.setIfInBounds_toArray, List.set_cons_zero, List.set_cons_succ, i64_w, i32_w]
                 rfl
                refine pure_ (i := 19) (N := some 38) (v := ?_) (a' := ?_) #[true, true, true, true, false, true, true, true, true, false, false, true, true, true, true, false, false, true, true, true, false, false, false, false, false, false] rfl rfl (any_of HT_.out (by kernel_rfl)) (fun _ _ _ h => h) (Or.inl ⟨by rfl, ?_⟩) ?_ ?_
                rotate_left
                ·intro w'
                 go_simp
                 with_reducible rfl
                rotate_left
                ·simp only [Act.put, List.setIfInBounds_toArray, List.set_cons_zero, List.set_cons_succ, i64_w, i32_w]
                 rfl
                refine pure_ (i := 20) (N := some 39) (v := ?_) (a' := ?_) #[true, true, true, true, false, true, true, true, true, false, false, true, true, true, true, false, false, true, true, true, true, false, false, false, false, false] rfl rfl (any_of HT_.out (by kernel_rfl)) (fun _ _ _ h => h) (Or.inl ⟨by rfl, ?_⟩) ?_ ?_
                rotate_left
                ·intro w'
                 go_simp
                 with_reducible rfl
                rotate_left
                ·simp only [Act.put, List.setIfInBounds_toArray, List.set_cons_zero, List.set_cons_succ, i64_w, i32_w]
                 rfl
                refine take_ (i := 4) (N := some 23) (v := ?_) (a' := ?_) #[true, true, true, true, true, true, true, true, true, false, false, true, true, true, true, false, false, true, true, true, true, false, false, false, false, false] rfl rfl (take_ofW HT_.out HW_.out (by kernel_rfl)) (fun _ _ _ h => h) (Or.inl ⟨by rfl, ?_⟩) hHeld ?_ ?_
                rotate_left
                ·rintro w' ⟨s0, s1, s2, s3⟩
                 go_simp
                 with_reducible rfl
                rotate_left
                ·simp only [Act.put, List.setIfInBounds_toArray, List.set_cons_zero, List.set_cons_succ, i64_w, i32_w]
                 rfl
                refine take_ (i := 9) (N := some 28) (v := ?_) (a' := ?_) #[true, true, true, true, true, true, true, true, true, true, false, true, true, true, true, false, false, true, true, true, true, false, false, false, false, false] rfl rfl (take_ofW HT_.out HW_.out (by kernel_rfl)) (fun _ _ _ h => h) (Or.inl ⟨by rfl, ?_⟩) hHeld ?_ ?_
                rotate_left
                ·rintro w' ⟨s0, s1, s2, s3⟩
                 go_simp
                 with_reducible rfl
                rotate_left
                ·simp only [Act.put, List.setIfInBounds_toArray, List.set_cons_zero, List.set_cons_succ, i64_w, i32_w]
                 rfl
                refine pure_ (i := 10) (N := some 29) (v := ?_) (a' := ?_) #[true, true, true, true, true, true, true, true, true, true, true, true, true, true, true, false, false, true, true, true, true, false, false, false, false, false] rfl rfl (any_of HT_.out (by kernel_rfl)) (fun _ _ _ h => h) (Or.inl ⟨by rfl, ?_⟩) ?_ ?_
                rotate_left
                ·intro w'
                 go_simp
                 with_reducible rfl
                rotate_left
                ·simp only [Act.put, List.setIfInBounds_toArray, List.set_cons_zero, List.set_cons_succ, i64_w, i32_w]
                 rfl
                refine take_ (i := 15) (N := some 34) (v := ?_) (a' := ?_) #[true, true, true, true, true, true, true, true, true, true, true, true, true, true, true, true, false, true, true, true, true, false, false, false, false, false] rfl rfl (take_ofW HT_.out HW_.out (by kernel_rfl)) (fun _ _ _ h => h) (Or.inl ⟨by rfl, ?_⟩) hHeld ?_ ?_
                rotate_left
                ·rintro w' ⟨s0, s1, s2, s3⟩
                 go_simp
                 with_reducible rfl
                rotate_left
                ·simp only [Act.put, List.setIfInBounds_toArray, List.set_cons_zero, List.set_cons_succ, i64_w, i32_w]
                 rfl
                refine pure_ (i := 16) (N := some 35) (v := ?_) (a' := ?_) #[true, true, true, true, true, true, true, true, true, true, true, true, true, true, true, true, true, true, true, true, true, false, false, false, false, false] rfl rfl (any_of HT_.out (by kernel_rfl)) (fun _ _ _ h => h) (Or.inl ⟨by rfl, ?_⟩) ?_ ?_
                rotate_left
                ·intro w'
                 go_simp
                 with_reducible rfl
                rotate_left
                ·simp only [Act.put, List.setIfInBounds_toArray, List.set_cons_zero, List.set_cons_succ, i64_w, i32_w]
                 rfl
                refine take_ (i := 21) (N := some 40) (v := ?_) (a' := ?_) #[true, true, true, true, true, true, true, true, true, true, true, true, true, true, true, true, true, true, true, true, true, true, false, false, false, false] rfl rfl (take_ofW HT_.out HW_.out (by kernel_rfl)) (fun _ _ _ h => h) (Or.inl ⟨by rfl, ?_⟩) hHeld ?_ ?_
                rotate_left
                ·rintro w' ⟨s0, s1, s2, s3⟩
                 go_simp
                 with_reducible rfl
                rotate_left
                ·simp only [Act.put, List.setIfInBounds_toArray, List.set_cons_zero, List.set_cons_succ, i64_w, i32_w]
                 rfl
                refine pure_ (i := 22) (N := some 41) (v := ?_) (a' := ?_) #[true, true, true, true, true, true, true, true, true, true, true, true, true, true, true, true, true, true, true, true, true, true, true, false, false, false] rfl rfl (any_of HT_.out (by kernel_rfl)) (fun _ _ _ h => h) (Or.inl ⟨by rfl, ?_⟩) ?_ ?_
                rotate_left
                ·intro w'
                 go_simp
                 with_reducible rfl
                rotate_left
                ·simp only [Act.put, List.setIfInBounds_toArray, List.set_cons_zero, List.set_cons_succ, i64_w, i32_w]
                 rfl
                refine last_ (i := 23) (N := some 42) #[true, true, true, true, true, true, true, true, true, true, true, true, true, true, true, true, true, true, true, true, true, true, true, true, false, false] rfl rfl (one_of HT_.out (by kernel_rfl)) (by decide) (fun K hK => ?_)
                refine value_ (w1 := ?_) (v := ?_) (by rfl) rfl ?_ ?_
                rotate_left 2
                ·go_simp
                 constructor
                 ·rfl
                 ·rfl
                refine hK.out _ _ ?_
                clear hK K
                refine norm_ (a' := ?_) ?_ ?_
                rotate_left
                ·show Act.put _ (some 42) _ = _
                 simp only [Act.put, List.setIfInBounds_toArray, List.set_cons_zero, List.set_cons_succ, i64_w, i32_w]
                 rfl
                refine last_ (i := 24) (N := some 43) #[true, true, true, true, true, true, true, true, true, true, true, true, true, true, true, true, true, true, true, true, true, true, true, true, true, false] rfl rfl (one_of HT_.out (by kernel_rfl)) (by decide) (fun K hK => ?_)
                refine Kd.R_append_step Kd.string (w0 := w) w.heap.size (by rfl) (.tmp 19) (.tmp 42) 49 9 (.string ⟨#[]⟩) 16 rfl Try.underlying49 info9 rfl (by decide) (by omega) u5 x5_1 ((((rdOf ByteArray.empty t2 x6_1) ++ (rdOf ByteArray.empty t2 (ji8))) ++ (rdOf ByteArray.empty t2 (ji12))) ++ (rdOf ByteArray.empty t2 (ji16))) [.string ((((rdOf ByteArray.empty t2 x6_1) ++ (rdOf ByteArray.empty t2 (ji8))) ++ (rdOf ByteArray.empty t2 (ji12))) ++ (rdOf ByteArray.empty t2 (ji16)))] (fun k_ => some k_ ≠ (.slice (some ad5002) t2.length co21 : Value).ownBlock) (fun _ => False) rfl rfl ?aP (fun _ hk => hk.elim) ?aF ?aO ?aB ?aS ?aL ?_
                (case aP => exact rfl)
                (case aB => exact (by repeat first | with_reducible (first | exact HB.out | apply bA | apply bN | apply bD) | exact HB.out))
                (case aF => exact (fun k_ hk => Kd.fresh' (Kd.R_lt (by (with_reducible repeat (first | apply Kd.R_alloc | apply Kd.R_drewN | apply Kd.R_drew)); exact HO_4.out)) k_ hk))
                (case aO => exact (by (with_reducible repeat (first | apply Kd.R_alloc | apply Kd.R_drewN | apply Kd.R_drew)); exact HO_5.out))
                (case aS => exact (below_size (by repeat first | with_reducible (first | exact HB.out | apply bA | apply bN | apply bD) | exact HB.out)))
                (case aL => have := LMc20.out; omega)
                intro v246 w23 ho hb hg hat
                rw [← Ny5001.out] at ho
                have n0_ := Aside0.mk (Kd.R_after (ok := (fun _ => True)) (by (with_reducible repeat (first | apply Kd.R_alloc | apply Kd.R_drewN | apply Kd.R_drew)); exact Kd.R_mono HO_4.out (fun _ hk => ⟨trivial, hk⟩)) hg hat)
                have n1_ := Aside0.mk (hb)
                have n2_ := Aside0.mk (ho)
                clear HO_4
                clear HB
                clear HO_5
                have HO_4 := n0_
                have HB := n1_
                have HO247 := n2_
                clear n0_ n1_ n2_
                clear ho hb hg hat
                refine hK.out _ _ ?_
                clear hK K
                refine norm_ (a' := ?_) ?_ ?_
                rotate_left
                ·show Act.put _ (some 43) _ = _
                 simp only [Act.put, List.setIfInBounds_toArray, List.set_cons_zero, List.set_cons_succ, i64_w, i32_w]
                 rfl
                refine pure_ (i := 25) (N := some 5) (v := ?_) (a' := ?_) #[true, true, true, true, true, true, true, true, true, true, true, true, true, true, true, true, true, true, true, true, true, true, true, true, true, true] rfl rfl (any_of HT_.out (by kernel_rfl)) (fun _ _ _ h => h) (Or.inl ⟨by rfl, ?_⟩) ?_ ?_
                rotate_left
                ·intro w'
                 go_simp
                 with_reducible rfl
                rotate_left
                ·simp only [Act.put, List.setIfInBounds_toArray, List.set_cons_zero, List.set_cons_succ, i64_w, i32_w]
                 rfl
                refine done_ (done_of HT_.out (by kernel_rfl)) ?_
                try go_wp2
                go_roundg k1
                case measure => have := HK1.out; omega
                case rel => exact ⟨(y6), (wrap64 (x6_1 + 4)), (by first | rfl | (simp; done) | (simp [*]; done)), H', ⟨by have := HK1.out; omega⟩, ⟨by (with_reducible repeat (first | apply Kd.R_alloc | apply Kd.R_drewN | apply Kd.R_drew)); exact Kd.R_mono HO_4.out (fun _ hk => hk.2)⟩, ⟨by (with_reducible repeat (first | apply Kd.R_alloc | apply Kd.R_drewN | apply Kd.R_drew)); exact HO247.out⟩, ⟨by repeat first | with_reducible (first | exact HB.out | apply bA | apply bN | apply bD) | exact HB.out⟩⟩
               ·rw [if_neg c20] at H
                exact absurd H (by simp)
              ·rw [if_neg c19] at H
               exact absurd H (by simp)
             ·rw [if_neg c18] at H
              exact absurd H (by simp)
            ·rw [if_neg c17] at H
             exact absurd H (by simp)
           ·rw [if_neg c15] at H
            exact absurd H (by simp)
          ·rw [if_neg c14] at H
           exact absurd H (by simp)
         ·rw [if_neg c13] at H
          exact absurd H (by simp)
        ·rw [if_neg c11] at H
         exact absurd H (by simp)
       ·rw [if_neg c10] at H
        exact absurd H (by simp)
      ·rw [if_neg c9] at H
       exact absurd H (by simp)
     ·rw [if_neg c7] at H
      exact absurd H (by simp)
    ·rw [if_neg c6] at H
     have c6b0 : decide (x6_1 < (t2.length : Int)) = false := decide_eq_false c6
     clear c6
     simp only [Option.some.injEq, Prod.mk.injEq] at H
     obtain ⟨rfl, rfl⟩ := H
     obtain ⟨Ao24, co24, eo24⟩ := Kd.R_slice HO_4.out
     subst eo24
     go_wp2
     go_ret2
     exact ⟨_, by first | rfl | (simp [*, errW_none, errW_some] <;> rfl), by (with_reducible repeat (first | apply Kd.R_alloc | apply Kd.R_drewN | apply Kd.R_drew)); exact Kd.R_mono HO_5.out (fun _ hk => trivial), by repeat first | with_reducible (first | exact HB.out | apply bA | apply bN | apply bD) | exact HB.out⟩

def sched_Rounds.f (a0 : Int) : Option (Int) := if a0 = 16 then (some (wrap64 (6 + (a0 / 4)))) else (if a0 = 24 then (some (wrap64 (6 + (a0 / 4)))) else (if a0 = 32 then (some (wrap64 (6 + (a0 / 4)))) else (some 0)))
set_option maxHeartbeats 8000000 in
set_option maxRecDepth 100000 in
theorem sched_Rounds.calls (a0 : Int) (r : Int) (w : World) (h : sched_Rounds.f a0 = some r) :
  Calls Try.prog 88 #[.int .i64 a0] w fun e w' => e = .returned (.int .i64 r) ∧ Drawn0 w w' := by
 have H : (if a0 = 16 then (some (wrap64 (6 + (a0 / 4)))) else (if a0 = 24 then (some (wrap64 (6 + (a0 / 4)))) else (if a0 = 32 then (some (wrap64 (6 + (a0 / 4)))) else (some 0)))) = some r := h
 clear h
 by_cases c2 : a0 = 16
 ·rw [if_pos c2] at H
  have c2b0 : (a0 == 16) = true := beq_iff_eq.mpr c2
  have c2b1 : (a0 != 16) = false := bne_eq_false_iff_eq.mpr c2
  clear c2
  obtain rfl := Option.some.inj H
  go_enter Try.func88, Try.ntmps88
  go_wp2
  go_ret
  exact ⟨by first | rfl | (simp; done) | (simp [*]; done) | (simp [IntKind.wrap_u8, IntKind.wrap_i64, wrap64]; done), by repeat (first | exact Drawn0.refl _ | apply Drawn0.step)⟩
 ·rw [if_neg c2] at H
  have c2b0 : (a0 == 16) = false := beq_eq_false_iff_ne.mpr c2
  have c2b1 : (a0 != 16) = true := bne_iff_ne.mpr c2
  by_cases c3 : a0 = 24
  ·rw [if_pos c3] at H
   have c3b0 : (a0 == 24) = true := beq_iff_eq.mpr c3
   have c3b1 : (a0 != 24) = false := bne_eq_false_iff_eq.mpr c3
   clear c3
   obtain rfl := Option.some.inj H
   go_enter Try.func88, Try.ntmps88
   go_wp2
   go_ret
   exact ⟨by first | rfl | (simp; done) | (simp [*]; done) | (simp [IntKind.wrap_u8, IntKind.wrap_i64, wrap64]; done), by repeat (first | exact Drawn0.refl _ | apply Drawn0.step)⟩
  ·rw [if_neg c3] at H
   have c3b0 : (a0 == 24) = false := beq_eq_false_iff_ne.mpr c3
   have c3b1 : (a0 != 24) = true := bne_iff_ne.mpr c3
   by_cases c4 : a0 = 32
   ·rw [if_pos c4] at H
    have c4b0 : (a0 == 32) = true := beq_iff_eq.mpr c4
    have c4b1 : (a0 != 32) = false := bne_eq_false_iff_eq.mpr c4
    clear c4
    obtain rfl := Option.some.inj H
    go_enter Try.func88, Try.ntmps88
    go_wp2
    go_ret
    exact ⟨by first | rfl | (simp; done) | (simp [*]; done) | (simp [IntKind.wrap_u8, IntKind.wrap_i64, wrap64]; done), by repeat (first | exact Drawn0.refl _ | apply Drawn0.step)⟩
   ·rw [if_neg c4] at H
    have c4b0 : (a0 == 32) = false := beq_eq_false_iff_ne.mpr c4
    have c4b1 : (a0 != 32) = true := bne_iff_ne.mpr c4
    obtain rfl := Option.some.inj H
    go_enter Try.func88, Try.ntmps88
    go_wp2
    go_ret
    exact ⟨by first | rfl | (simp; done) | (simp [*]; done) | (simp [IntKind.wrap_u8, IntKind.wrap_i64, wrap64]; done), by repeat (first | exact Drawn0.refl _ | apply Drawn0.step)⟩

end Go.Proofs.Ytokkhnjedmlbhaa.Pr
