-- written by the session's program wip/hp.py over the kit's print; Lean checks it
import Derived.Test.YtokkhnjedmlbhaaZFieldP
import Derived.Test.YtokkhnjedmlbhaaZPrg06
import Derived.Test.YtokkhnjedmlbhaaZPrg01x
namespace Go.Proofs.Ytokkhnjedmlbhaa.Pr
open Go.RowKit Go.Proofs.YtokkhnjedmlbhaaW.PrintWords Go.Proofs.YtokkhnjedmlbhaaW.PrintLast Go.Proofs.YtokkhnjedmlbhaaW.PrintMore
attribute [local go_sem] max2_int min2_int max_two min_two max_three min_three max_four min_four   -- for this text's walks alone
set_option linter.unusedVariables false
set_option linter.unusedSimpArgs false

def clavigerref07_fits.f (a0 : ByteArray) : Option (Bool) := some ((a0.size : Int) == 16)
set_option maxHeartbeats 8000000 in
set_option maxRecDepth 100000 in
theorem clavigerref07_fits.calls (a0 : ByteArray) (r : Bool) (w : World) (h : clavigerref07_fits.f a0 = some r) :
  Calls Try.prog 185 #[.string a0] w fun e w' => e = .returned (.bool r) ∧ Drawn0 w w' := by
 have H : (some ((a0.size : Int) == 16)) = some r := h
 clear h
 obtain rfl := Option.some.inj H
 go_enter Try.func185, Try.ntmps185
 go_wp2
 go_ret
 exact ⟨by first | rfl | (simp; done) | (simp [*]; done) | (simp [IntKind.wrap_u8, IntKind.wrap_i64, wrap64]; done), by repeat (first | exact Drawn0.refl _ | apply Drawn0.step)⟩

def clavigerref07_Key.f (k : Nat) (a0 : ByteArray) (a1 : ByteArray) : Option (ByteArray) := (clavigerref07_fits.f a0).bind fun t1 => (if t1 = true then ((clavigerref07_fits.f a1).bind fun t2 => (if t2 = true then ((clavigerref01_Xor.f k a0 a1).bind fun t3 => (some t3)) else (some (⟨#[]⟩ : ByteArray)))) else (some (⟨#[]⟩ : ByteArray)))
theorem clavigerref07_Key.mono : ∀ a0 a1 k, LeO (clavigerref07_Key.f k a0 a1) (clavigerref07_Key.f (k + 1) a0 a1) := by
 intro a0 a1 k
 unfold clavigerref07_Key.f
 repeat' first
   | (with_reducible exact clavigerref01_Xor.mono _ _ _)
   | (with_reducible exact LeO.refl _)
   | (with_reducible exact LeO.none _)
   | (with_reducible refine LeO.ite ?_ ?_)
   | (with_reducible refine LeO.bind ?_ (fun _ => ?_))
set_option maxHeartbeats 8000000 in
set_option maxRecDepth 100000 in
theorem clavigerref07_Key.calls (k : Nat) (a0 : ByteArray) (a1 : ByteArray) (r : ByteArray) (w : World) (h : clavigerref07_Key.f k a0 a1 = some r) :
  Calls Try.prog 81 #[.string a0, .string a1] w fun e w' => e = .returned (.string r) ∧ Below w.heap.size w w' := by
 have HB := Aside0.mk (Below.refl w.heap.size w)
 have H : ((clavigerref07_fits.f a0).bind fun t1 => (if t1 = true then ((clavigerref07_fits.f a1).bind fun t2 => (if t2 = true then ((clavigerref01_Xor.f k a0 a1).bind fun t3 => (some t3)) else (some (⟨#[]⟩ : ByteArray)))) else (some (⟨#[]⟩ : ByteArray)))) = some r := h
 clear h
 replace H := Option.bind_eq_some_iff.mp H
 obtain ⟨t1, A30, H⟩ := H
 try dsimp only at H
 have A3 := Aside0.mk A30
 clear A30
 by_cases c4 : t1 = true
 ·subst c4
  have H1 : ((clavigerref07_fits.f a1).bind fun t2 => (if t2 = true then ((clavigerref01_Xor.f k a0 a1).bind fun t3 => (some t3)) else (some (⟨#[]⟩ : ByteArray)))) = some r := by rw [if_pos rfl] at H; exact H
  clear H
  have H := H1
  clear H1
  replace H := Option.bind_eq_some_iff.mp H
  obtain ⟨t2, A50, H⟩ := H
  try dsimp only at H
  have A5 := Aside0.mk A50
  clear A50
  by_cases c6 : t2 = true
  ·subst c6
   have H1 : ((clavigerref01_Xor.f k a0 a1).bind fun t3 => (some t3)) = some r := by rw [if_pos rfl] at H; exact H
   clear H
   have H := H1
   clear H1
   replace H := Option.bind_eq_some_iff.mp H
   obtain ⟨t3, A70, H⟩ := H
   replace H : (some t3) = some r := H
   have A7 := Aside0.mk A70
   clear A70
   obtain rfl := Option.some.inj H
   go_enter Try.func81, Try.ntmps81
   go_wp2_with (first | ((with_reducible refine gate_callee (f := 185) rfl ?_); refine goesL_ (some 6) rfl rfl Try.func185 (by kernel_rfl) rfl #[.string a0] rfl (by (try simp only [lT, lC, lN]); first | done | rfl) ?_; (with_reducible refine (clavigerref07_fits.calls a0 true _ A3.out).mono ?_); rintro e w' ⟨rfl, ⟨nd, rfl⟩⟩; refine ⟨_, rfl, ?_⟩) | (go_at_call 185; (with_reducible refine (clavigerref07_fits.calls a1 true _ A5.out).mono ?_); rintro e w' ⟨rfl, ⟨nd, rfl⟩⟩) | ((with_reducible refine gate_callee (f := 178) rfl ?_); refine goesL_ (some 15) rfl rfl Try.func178 (by kernel_rfl) rfl #[.string a0, .string a1] rfl (by (try simp only [lT, lC, lN]); first | done | rfl) ?_; (with_reducible refine (clavigerref01_Xor.calls k a0 a1 t3 _ A7.out).mono ?_); rintro e w8 ⟨rfl, hb⟩; refine ⟨_, rfl, ?_⟩; have n0_ := Aside0.mk (below_step (by repeat first | with_reducible (first | exact HB.out | apply bA | apply bN | apply bD) | exact HB.out) hb); clear HB; have HB := n0_; clear n0_; (try clear hb); (try clear hb2); (try clear hk); (try clear hi)))
   go_ret
   exact ⟨by first | rfl | (simp [*, errW_none, errW_some] <;> rfl), by repeat first | with_reducible (first | exact HB.out | apply bA | apply bN | apply bD) | exact HB.out⟩
  ·replace c6 := Bool.eq_false_iff.mpr c6
   subst c6
   have H1 : (some (⟨#[]⟩ : ByteArray)) = some r := by rw [if_neg (show ¬ (false = true) by decide)] at H; exact H
   clear H
   have H := H1
   clear H1
   obtain rfl := Option.some.inj H
   go_enter Try.func81, Try.ntmps81
   go_wp2_with (first | ((with_reducible refine gate_callee (f := 185) rfl ?_); refine goesL_ (some 6) rfl rfl Try.func185 (by kernel_rfl) rfl #[.string a0] rfl (by (try simp only [lT, lC, lN]); first | done | rfl) ?_; (with_reducible refine (clavigerref07_fits.calls a0 true _ A3.out).mono ?_); rintro e w' ⟨rfl, ⟨nd, rfl⟩⟩; refine ⟨_, rfl, ?_⟩) | (go_at_call 185; (with_reducible refine (clavigerref07_fits.calls a1 false _ A5.out).mono ?_); rintro e w' ⟨rfl, ⟨nd, rfl⟩⟩))
   go_ret
   exact ⟨by first | rfl | (simp [*, errW_none, errW_some] <;> rfl), by repeat first | with_reducible (first | exact HB.out | apply bA | apply bN | apply bD) | exact HB.out⟩
 ·replace c4 := Bool.eq_false_iff.mpr c4
  subst c4
  have H1 : (some (⟨#[]⟩ : ByteArray)) = some r := by rw [if_neg (show ¬ (false = true) by decide)] at H; exact H
  clear H
  have H := H1
  clear H1
  obtain rfl := Option.some.inj H
  go_enter Try.func81, Try.ntmps81
  go_wp2_with (first | ((with_reducible refine gate_callee (f := 185) rfl ?_); refine goesL_ (some 6) rfl rfl Try.func185 (by kernel_rfl) rfl #[.string a0] rfl (by (try simp only [lT, lC, lN]); first | done | rfl) ?_; (with_reducible refine (clavigerref07_fits.calls a0 false _ A3.out).mono ?_); rintro e w' ⟨rfl, ⟨nd, rfl⟩⟩; refine ⟨_, rfl, ?_⟩))
  go_ret
  exact ⟨by first | rfl | (simp [*, errW_none, errW_some] <;> rfl), by repeat first | with_reducible (first | exact HB.out | apply bA | apply bN | apply bD) | exact HB.out⟩

mutual
def clavigerref07_moved.l0 : Nat → ByteArray → Int → ByteArray → Int → Option (ByteArray)
 | 0, _, _, _, _ => none
 | k + 1, x0, x1, x5, x6 => if x6 < 4 then (clavigerref07_moved.l1 k x0 x1 x5 x6 0) else (some x5)
def clavigerref07_moved.l1 : Nat → ByteArray → Int → ByteArray → Int → Int → Option (ByteArray)
 | 0, _, _, _, _, _ => none
 | k + 1, x0, x1, x5, x6, x7 => if x7 < 4 then (if 0 ≤ (wrap64 ((wrap64 (4 * (Int.tmod (wrap64 (x6 + (wrap64 (x1 * x7)))) 4))) + x7)) then (if (wrap64 ((wrap64 (4 * (Int.tmod (wrap64 (x6 + (wrap64 (x1 * x7)))) 4))) + x7)) ≤ (wrap64 ((wrap64 ((wrap64 (4 * (Int.tmod (wrap64 (x6 + (wrap64 (x1 * x7)))) 4))) + x7)) + 1)) then (if (wrap64 ((wrap64 ((wrap64 (4 * (Int.tmod (wrap64 (x6 + (wrap64 (x1 * x7)))) 4))) + x7)) + 1)) ≤ (x0.size : Int) then (if x5.size + (x0.extract ((wrap64 ((wrap64 (4 * (Int.tmod (wrap64 (x6 + (wrap64 (x1 * x7)))) 4))) + x7)) : Int).toNat ((wrap64 ((wrap64 ((wrap64 (4 * (Int.tmod (wrap64 (x6 + (wrap64 (x1 * x7)))) 4))) + x7)) + 1)) : Int).toNat).size ≤ 9223372036854775807 then (clavigerref07_moved.l1 k x0 x1 (x5 ++ (x0.extract ((wrap64 ((wrap64 (4 * (Int.tmod (wrap64 (x6 + (wrap64 (x1 * x7)))) 4))) + x7)) : Int).toNat ((wrap64 ((wrap64 ((wrap64 (4 * (Int.tmod (wrap64 (x6 + (wrap64 (x1 * x7)))) 4))) + x7)) + 1)) : Int).toNat)) x6 (wrap64 (x7 + 1))) else (none)) else (none)) else (none)) else (none)) else (clavigerref07_moved.l0 k x0 x1 x5 (wrap64 (x6 + 1)))
end
def clavigerref07_moved.f (k : Nat) (a0 : ByteArray) (a1 : Int) : Option (ByteArray) := (clavigerref07_fits.f a0).bind fun t1 => (if t1 = true then (clavigerref07_moved.l0 k a0 a1 (⟨#[]⟩ : ByteArray) 0) else (some (⟨#[]⟩ : ByteArray)))
theorem clavigerref07_moved.mono_l : ∀ k, (∀ y2 y3 y4 y5, LeO (clavigerref07_moved.l0 k y2 y3 y4 y5) (clavigerref07_moved.l0 (k + 1) y2 y3 y4 y5)) ∧ (∀ y2 y3 y4 y5 y6, LeO (clavigerref07_moved.l1 k y2 y3 y4 y5 y6) (clavigerref07_moved.l1 (k + 1) y2 y3 y4 y5 y6))
 | 0 => ⟨fun _ _ _ _ r h => by simp [clavigerref07_moved.l0] at h, fun _ _ _ _ _ r h => by simp [clavigerref07_moved.l1] at h⟩
 | k + 1 => by
  obtain ⟨ih0, ih1⟩ := clavigerref07_moved.mono_l k
  refine ⟨?_, ?_⟩
  ·intro y2 y3 y4 y5
   unfold clavigerref07_moved.l0
   repeat' first
   | (with_reducible exact ih0 _ _ _ _)
   | (with_reducible exact ih1 _ _ _ _ _)
   | (with_reducible exact LeO.refl _)
   | (with_reducible exact LeO.none _)
   | (with_reducible refine LeO.ite ?_ ?_)
   | (with_reducible refine LeO.bind ?_ (fun _ => ?_))
  ·intro y2 y3 y4 y5 y6
   unfold clavigerref07_moved.l1
   repeat' first
   | (with_reducible exact ih0 _ _ _ _)
   | (with_reducible exact ih1 _ _ _ _ _)
   | (with_reducible exact LeO.refl _)
   | (with_reducible exact LeO.none _)
   | (with_reducible refine LeO.ite ?_ ?_)
   | (with_reducible refine LeO.bind ?_ (fun _ => ?_))
theorem clavigerref07_moved.mono : ∀ a0 a1 k, LeO (clavigerref07_moved.f k a0 a1) (clavigerref07_moved.f (k + 1) a0 a1) := by
 intro a0 a1 k
 obtain ⟨ih0, ih1⟩ := clavigerref07_moved.mono_l k
 unfold clavigerref07_moved.f
 repeat' first
   | (with_reducible exact ih0 _ _ _ _)
   | (with_reducible exact ih1 _ _ _ _ _)
   | (with_reducible exact LeO.refl _)
   | (with_reducible exact LeO.none _)
   | (with_reducible refine LeO.ite ?_ ?_)
   | (with_reducible refine LeO.bind ?_ (fun _ => ?_))
set_option maxHeartbeats 8000000 in
set_option maxRecDepth 100000 in
theorem clavigerref07_moved.calls (k : Nat) (a0 : ByteArray) (a1 : Int) (r : ByteArray) (w : World) (h : clavigerref07_moved.f k a0 a1 = some r) :
  Calls Try.prog 182 #[.string a0, .int .i64 a1] w fun e w' => e = .returned (.string r) ∧ Drawn0 w w' := by
 have H : ((clavigerref07_fits.f a0).bind fun t1 => (if t1 = true then (clavigerref07_moved.l0 k a0 a1 (⟨#[]⟩ : ByteArray) 0) else (some (⟨#[]⟩ : ByteArray)))) = some r := h
 clear h
 replace H := Option.bind_eq_some_iff.mp H
 obtain ⟨t1, A30, H⟩ := H
 try dsimp only at H
 have A3 := Aside0.mk A30
 clear A30
 by_cases c4 : t1 = true
 ·subst c4
  have H1 : (clavigerref07_moved.l0 k a0 a1 (⟨#[]⟩ : ByteArray) 0) = some r := by rw [if_pos rfl] at H; exact H
  clear H
  have H := H1
  clear H1
  have H' := Aside0.mk H
  clear H
  go_enter Try.func182, Try.ntmps182
  go_wp2_with (first | ((with_reducible refine gate_callee (f := 185) rfl ?_); refine goesL_ (some 10) rfl rfl Try.func185 (by kernel_rfl) rfl #[.string a0] rfl (by (try simp only [lT, lC, lN]); first | done | rfl) ?_; (with_reducible refine (clavigerref07_fits.calls a0 true _ A3.out).mono ?_); rintro e w' ⟨rfl, ⟨nd, rfl⟩⟩; refine ⟨_, rfl, ?_⟩))
  go_loopg [5, 6] k (fun kq v5 v6 w' => ∃ (x5_1 : ByteArray) (x6_1 : Int), v5 = .string x5_1 ∧ v6 = .int .i64 x6_1 ∧ Aside0 (clavigerref07_moved.l0 kq a0 a1 x5_1 x6_1 = some r) ∧ Aside0 (kq ≤ k) ∧ Drawn0 w w')
  case atStart => exact ⟨((⟨#[]⟩ : ByteArray)), (0), (by first | rfl | (simp; done) | (simp [*]; done)), (by first | rfl | (simp; done) | (simp [*]; done)), H', ⟨Nat.le_refl _⟩, by repeat (first | exact Drawn0.refl _ | apply Drawn0.step)⟩
  case round =>
   clear H'
   try clear c1
   try clear p2
   try clear c4
   obtain ⟨x5_1, x6_1, rfl, rfl, HA, HK1, ⟨m1, rfl⟩⟩ := hrel
   cases gk with
   | zero => exact absurd HA.out (by simp [clavigerref07_moved.l0])
   | succ k1 =>
    have H := HA.out
    clear HA
    simp only [clavigerref07_moved.l0] at H
    by_cases c5 : x6_1 < 4
    ·rw [if_pos c5] at H
     have c5b0 : decide (x6_1 < 4) = true := decide_eq_true c5
     clear c5
     have H' := Aside0.mk H
     clear H
     go_wp2
     go_loopg [5, 7] k1 (fun kq v5 v7 w' => ∃ (x5_2 : ByteArray) (x7_2 : Int), v5 = .string x5_2 ∧ v7 = .int .i64 x7_2 ∧ Aside0 (clavigerref07_moved.l1 kq a0 a1 x5_2 x6_1 x7_2 = some r) ∧ Aside0 (kq ≤ k1) ∧ Drawn0 w w')
     case atStart => exact ⟨(x5_1), (0), (by first | rfl | (simp; done) | (simp [*]; done)), (by first | rfl | (simp; done) | (simp [*]; done)), H', ⟨Nat.le_refl _⟩, by repeat (first | exact Drawn0.refl _ | apply Drawn0.step)⟩
     case round =>
      clear H'
      try clear c1
      try clear p2
      try clear c4
      try clear c5
      try clear c5b0
      try clear p2
      obtain ⟨x5_2, x7_2, rfl, rfl, HA, HK2, ⟨m2, rfl⟩⟩ := hrel
      cases gk with
      | zero => exact absurd HA.out (by simp [clavigerref07_moved.l1])
      | succ k2 =>
       have H := HA.out
       clear HA
       simp only [clavigerref07_moved.l1] at H
       by_cases c6 : x7_2 < 4
       ·rw [if_pos c6] at H
        have c6b0 : decide (x7_2 < 4) = true := decide_eq_true c6
        clear c6
        obtain ⟨ji7, hji7⟩ : ∃ j_ : Int, (wrap64 ((wrap64 (4 * (Int.tmod (wrap64 (x6_1 + (wrap64 (a1 * x7_2)))) 4))) + x7_2)) = j_ := ⟨_, rfl⟩
        replace H : (if 0 ≤ (ji7) then (if (ji7) ≤ (wrap64 ((ji7) + 1)) then (if (wrap64 ((ji7) + 1)) ≤ (a0.size : Int) then (if x5_2.size + (a0.extract ((ji7) : Int).toNat ((wrap64 ((ji7) + 1)) : Int).toNat).size ≤ 9223372036854775807 then (clavigerref07_moved.l1 k2 a0 a1 (x5_2 ++ (a0.extract ((ji7) : Int).toNat ((wrap64 ((ji7) + 1)) : Int).toNat)) x6_1 (wrap64 (x7_2 + 1))) else (none)) else (none)) else (none)) else (none)) = some r := by first | (rw [hji7] at H; exact H) | (simp only [hji7] at H ⊢; exact H)
        have hji7w : (IntKind.i64.wrap ((wrap64 (4 * (Int.tmod (wrap64 (x6_1 + (wrap64 (a1 * x7_2)))) 4))) + x7_2)) = ji7 := (i64_w _).trans hji7
        by_cases c8 : 0 ≤ (ji7)
        ·rw [if_pos c8] at H
         have c8b0 := eq_true c8
         have c8b1 : decide (0 ≤ (ji7)) = true := decide_eq_true c8
         clear c8
         by_cases c9 : (ji7) ≤ (wrap64 ((ji7) + 1))
         ·rw [if_pos c9] at H
          have c9b0 := eq_true c9
          have c9b1 : decide ((ji7) ≤ (wrap64 ((ji7) + 1))) = true := decide_eq_true c9
          by_cases c10 : (wrap64 ((ji7) + 1)) ≤ (a0.size : Int)
          ·rw [if_pos c10] at H
           have c10b0 := eq_true c10
           have c10b1 : decide ((wrap64 ((ji7) + 1)) ≤ (a0.size : Int)) = true := decide_eq_true c10
           by_cases c11 : x5_2.size + (a0.extract ((ji7) : Int).toNat ((wrap64 ((ji7) + 1)) : Int).toNat).size ≤ 9223372036854775807
           ·rw [if_pos c11] at H
            have c11b0 := eq_true c11
            have c11b1 : decide (x5_2.size + (a0.extract ((ji7) : Int).toNat ((wrap64 ((ji7) + 1)) : Int).toNat).size ≤ 9223372036854775807) = true := decide_eq_true c11
            try have c11b2 : (9223372036854775807 < x5_2.size + (a0.extract ((ji7) : Int).toNat ((wrap64 ((ji7) + 1)) : Int).toNat).size) = False := eq_false (Nat.not_lt.2 c11)
            have c11b9 : (9223372036854775807 < x5_2.size + (min ((wrap64 ((ji7) + 1)) : Int).toNat a0.size - ((ji7) : Int).toNat)) = False := eq_false (by have h_ := c11; simp only [ByteArray.size_append, ByteArray.size_extract, Nat.sub_zero] at h_; omega)
            have H' := Aside0.mk H
            clear H
            go_wp2
            go_roundg k2
            case measure => have := HK1.out; have := HK2.out; omega
            case rel => exact ⟨(x5_2 ++ (a0.extract ((ji7) : Int).toNat ((wrap64 ((ji7) + 1)) : Int).toNat)), (wrap64 (x7_2 + 1)), (by first | rfl | (simp; done) | (simp only [← hji7] <;> (first | rfl | (simp; done) | (simp [IntKind.wrap_u8, IntKind.wrap_i64, wrap64]; done))) | (simp [*]; done)), (by first | rfl | (simp; done) | (simp [*]; done)), H', ⟨by have := HK1.out; have := HK2.out; omega⟩, by repeat (first | exact Drawn0.refl _ | apply Drawn0.step)⟩
           ·rw [if_neg c11] at H
            exact absurd H (by simp)
          ·rw [if_neg c10] at H
           exact absurd H (by simp)
         ·rw [if_neg c9] at H
          exact absurd H (by simp)
        ·rw [if_neg c8] at H
         exact absurd H (by simp)
       ·rw [if_neg c6] at H
        have c6b0 : decide (x7_2 < 4) = false := decide_eq_false c6
        clear c6
        have H' := Aside0.mk H
        clear H
        go_wp2
        go_roundg k2
        case measure => have := HK1.out; have := HK2.out; omega
        case rel => exact ⟨(x5_2), (wrap64 (x6_1 + 1)), (by first | rfl | (simp; done) | (simp [*]; done)), (by first | rfl | (simp; done) | (simp [*]; done)), H', ⟨by have := HK1.out; have := HK2.out; omega⟩, by repeat (first | exact Drawn0.refl _ | apply Drawn0.step)⟩
    ·rw [if_neg c5] at H
     have c5b0 : decide (x6_1 < 4) = false := decide_eq_false c5
     clear c5
     obtain rfl := Option.some.inj H
     go_wp2
     go_ret
     exact ⟨by first | rfl | (simp; done) | (simp [*]; done) | (simp [IntKind.wrap_u8, IntKind.wrap_i64, wrap64]; done), by repeat (first | exact Drawn0.refl _ | apply Drawn0.step)⟩
 ·replace c4 := Bool.eq_false_iff.mpr c4
  subst c4
  have H1 : (some (⟨#[]⟩ : ByteArray)) = some r := by rw [if_neg (show ¬ (false = true) by decide)] at H; exact H
  clear H
  have H := H1
  clear H1
  obtain rfl := Option.some.inj H
  go_enter Try.func182, Try.ntmps182
  go_wp2_with (first | ((with_reducible refine gate_callee (f := 185) rfl ?_); refine goesL_ (some 10) rfl rfl Try.func185 (by kernel_rfl) rfl #[.string a0] rfl (by (try simp only [lT, lC, lN]); first | done | rfl) ?_; (with_reducible refine (clavigerref07_fits.calls a0 false _ A3.out).mono ?_); rintro e w' ⟨rfl, ⟨nd, rfl⟩⟩; refine ⟨_, rfl, ?_⟩))
  go_ret
  exact ⟨by first | rfl | (simp; done) | (simp [*]; done) | (simp [IntKind.wrap_u8, IntKind.wrap_i64, wrap64]; done), by repeat (first | exact Drawn0.refl _ | apply Drawn0.step)⟩

def clavigerref07_Shift.f (k : Nat) (a0 : ByteArray) : Option (ByteArray) := (clavigerref07_moved.f k a0 1).bind fun t1 => (some t1)
theorem clavigerref07_Shift.mono : ∀ a0 k, LeO (clavigerref07_Shift.f k a0) (clavigerref07_Shift.f (k + 1) a0) := by
 intro a0 k
 unfold clavigerref07_Shift.f
 repeat' first
   | (with_reducible exact clavigerref07_moved.mono _ _ _)
   | (with_reducible exact LeO.refl _)
   | (with_reducible exact LeO.none _)
   | (with_reducible refine LeO.ite ?_ ?_)
   | (with_reducible refine LeO.bind ?_ (fun _ => ?_))
set_option maxHeartbeats 8000000 in
set_option maxRecDepth 100000 in
theorem clavigerref07_Shift.calls (k : Nat) (a0 : ByteArray) (r : ByteArray) (w : World) (h : clavigerref07_Shift.f k a0 = some r) :
  Calls Try.prog 76 #[.string a0] w fun e w' => e = .returned (.string r) ∧ Drawn0 w w' := by
 have H : ((clavigerref07_moved.f k a0 1).bind fun t1 => (some t1)) = some r := h
 clear h
 replace H := Option.bind_eq_some_iff.mp H
 obtain ⟨t1, A20, H⟩ := H
 replace H : (some t1) = some r := H
 have A2 := Aside0.mk A20
 clear A20
 obtain rfl := Option.some.inj H
 go_enter Try.func76, Try.ntmps76
 go_wp2_with (first | ((with_reducible refine gate_callee (f := 182) rfl ?_); refine goesL_ (some 4) rfl rfl Try.func182 (by kernel_rfl) rfl #[.string a0, .int .i64 1] rfl (by (try simp only [lT, lC, lN]); first | done | rfl) ?_; (with_reducible refine (clavigerref07_moved.calls k a0 1 t1 _ A2.out).mono ?_); rintro e w' ⟨rfl, ⟨nd, rfl⟩⟩; refine ⟨_, rfl, ?_⟩))
 go_ret
 exact ⟨by first | rfl | (simp; done) | (simp [*]; done) | (simp [IntKind.wrap_u8, IntKind.wrap_i64, wrap64]; done), by repeat (first | exact Drawn0.refl _ | apply Drawn0.step)⟩

mutual
def clavigerref07_mixed.l0 : Nat → ByteArray → ByteArray → ByteArray → Int → Option (ByteArray)
 | 0, _, _, _, _ => none
 | k + 1, x0, x1, x5, x6 => if x6 < 4 then (clavigerref07_mixed.l1 k x0 x1 x5 x6 0) else (some x5)
def clavigerref07_mixed.l1 : Nat → ByteArray → ByteArray → ByteArray → Int → Int → Option (ByteArray)
 | 0, _, _, _, _, _ => none
 | k + 1, x0, x1, x5, x6, x7 => if x7 < 4 then (clavigerref07_mixed.l2 k x0 x1 x5 x6 x7 0 0) else (clavigerref07_mixed.l0 k x0 x1 x5 (wrap64 (x6 + 1)))
def clavigerref07_mixed.l2 : Nat → ByteArray → ByteArray → ByteArray → Int → Int → Int → Int → Option (ByteArray)
 | 0, _, _, _, _, _, _, _ => none
 | k + 1, x0, x1, x5, x6, x7, x8, x9 => if x9 < 4 then (if 0 ≤ x9 then (if x9 < (x1.size : Int) then (if 0 ≤ (wrap64 ((wrap64 (4 * x6)) + (Int.tmod (wrap64 (x7 + x9)) 4))) then (if (wrap64 ((wrap64 (4 * x6)) + (Int.tmod (wrap64 (x7 + x9)) 4))) < (x0.size : Int) then ((clavigerref05_Mul.f k (bt x1 x9) (bt x0 (wrap64 ((wrap64 (4 * x6)) + (Int.tmod (wrap64 (x7 + x9)) 4))))).bind fun t1 => (clavigerref07_mixed.l2 k x0 x1 x5 x6 x7 (Go.bits .xor .u8 x8 t1) (wrap64 (x9 + 1)))) else (none)) else (none)) else (none)) else (none)) else ((some (([x8] : List Int) : List Int)).bind fun y2 => (if x5.size + (strOfNums y2).size ≤ 9223372036854775807 then (clavigerref07_mixed.l1 k x0 x1 (x5 ++ (strOfNums y2)) x6 (wrap64 (x7 + 1))) else (none)))
end
def clavigerref07_mixed.f (k : Nat) (a0 : ByteArray) (a1 : ByteArray) : Option (ByteArray) := (clavigerref07_fits.f a0).bind fun t3 => (if t3 = true then (clavigerref07_mixed.l0 k a0 a1 (⟨#[]⟩ : ByteArray) 0) else (some (⟨#[]⟩ : ByteArray)))
theorem clavigerref07_mixed.mono_l : ∀ k, (∀ y4 y5 y6 y7, LeO (clavigerref07_mixed.l0 k y4 y5 y6 y7) (clavigerref07_mixed.l0 (k + 1) y4 y5 y6 y7)) ∧ (∀ y4 y5 y6 y7 y8, LeO (clavigerref07_mixed.l1 k y4 y5 y6 y7 y8) (clavigerref07_mixed.l1 (k + 1) y4 y5 y6 y7 y8)) ∧ (∀ y4 y5 y6 y7 y8 y9 y10, LeO (clavigerref07_mixed.l2 k y4 y5 y6 y7 y8 y9 y10) (clavigerref07_mixed.l2 (k + 1) y4 y5 y6 y7 y8 y9 y10))
 | 0 => ⟨fun _ _ _ _ r h => by simp [clavigerref07_mixed.l0] at h, fun _ _ _ _ _ r h => by simp [clavigerref07_mixed.l1] at h, fun _ _ _ _ _ _ _ r h => by simp [clavigerref07_mixed.l2] at h⟩
 | k + 1 => by
  obtain ⟨ih0, ih1, ih2⟩ := clavigerref07_mixed.mono_l k
  refine ⟨?_, ?_, ?_⟩
  ·intro y4 y5 y6 y7
   unfold clavigerref07_mixed.l0
   repeat' first
   | (with_reducible exact ih0 _ _ _ _)
   | (with_reducible exact ih1 _ _ _ _ _)
   | (with_reducible exact ih2 _ _ _ _ _ _ _)
   | (with_reducible exact clavigerref05_Mul.mono _ _ _)
   | (with_reducible exact LeO.refl _)
   | (with_reducible exact LeO.none _)
   | (with_reducible refine LeO.ite ?_ ?_)
   | (with_reducible refine LeO.bind ?_ (fun _ => ?_))
  ·intro y4 y5 y6 y7 y8
   unfold clavigerref07_mixed.l1
   repeat' first
   | (with_reducible exact ih0 _ _ _ _)
   | (with_reducible exact ih1 _ _ _ _ _)
   | (with_reducible exact ih2 _ _ _ _ _ _ _)
   | (with_reducible exact clavigerref05_Mul.mono _ _ _)
   | (with_reducible exact LeO.refl _)
   | (with_reducible exact LeO.none _)
   | (with_reducible refine LeO.ite ?_ ?_)
   | (with_reducible refine LeO.bind ?_ (fun _ => ?_))
  ·intro y4 y5 y6 y7 y8 y9 y10
   unfold clavigerref07_mixed.l2
   repeat' first
   | (with_reducible exact ih0 _ _ _ _)
   | (with_reducible exact ih1 _ _ _ _ _)
   | (with_reducible exact ih2 _ _ _ _ _ _ _)
   | (with_reducible exact clavigerref05_Mul.mono _ _ _)
   | (with_reducible exact LeO.refl _)
   | (with_reducible exact LeO.none _)
   | (with_reducible refine LeO.ite ?_ ?_)
   | (with_reducible refine LeO.bind ?_ (fun _ => ?_))
theorem clavigerref07_mixed.mono : ∀ a0 a1 k, LeO (clavigerref07_mixed.f k a0 a1) (clavigerref07_mixed.f (k + 1) a0 a1) := by
 intro a0 a1 k
 obtain ⟨ih0, ih1, ih2⟩ := clavigerref07_mixed.mono_l k
 unfold clavigerref07_mixed.f
 repeat' first
   | (with_reducible exact ih0 _ _ _ _)
   | (with_reducible exact ih1 _ _ _ _ _)
   | (with_reducible exact ih2 _ _ _ _ _ _ _)
   | (with_reducible exact clavigerref05_Mul.mono _ _ _)
   | (with_reducible exact LeO.refl _)
   | (with_reducible exact LeO.none _)
   | (with_reducible refine LeO.ite ?_ ?_)
   | (with_reducible refine LeO.bind ?_ (fun _ => ?_))
set_option maxHeartbeats 8000000 in
set_option maxRecDepth 100000 in
theorem clavigerref07_mixed.calls (k : Nat) (a0 : ByteArray) (a1 : ByteArray) (r : ByteArray) (w : World) (h : clavigerref07_mixed.f k a0 a1 = some r) :
  Calls Try.prog 184 #[.string a0, .string a1] w fun e w' => e = .returned (.string r) ∧ Below w.heap.size w w' := by
 have HB := Aside0.mk (Below.refl w.heap.size w)
 have H : ((clavigerref07_fits.f a0).bind fun t3 => (if t3 = true then (clavigerref07_mixed.l0 k a0 a1 (⟨#[]⟩ : ByteArray) 0) else (some (⟨#[]⟩ : ByteArray)))) = some r := h
 clear h
 replace H := Option.bind_eq_some_iff.mp H
 obtain ⟨t3, A30, H⟩ := H
 try dsimp only at H
 have A3 := Aside0.mk A30
 clear A30
 by_cases c4 : t3 = true
 ·subst c4
  have H1 : (clavigerref07_mixed.l0 k a0 a1 (⟨#[]⟩ : ByteArray) 0) = some r := by rw [if_pos rfl] at H; exact H
  clear H
  have H := H1
  clear H1
  have H' := Aside0.mk H
  clear H
  go_enter Try.func184, Try.ntmps184
  go_wp2_with (first | (go_at_call 185; (with_reducible refine (clavigerref07_fits.calls a0 true _ A3.out).mono ?_); rintro e w' ⟨rfl, ⟨nd, rfl⟩⟩; (try first | exact ⟨rfl, _, World.drewN_drewN _ _ _⟩ | exact ⟨rfl, _, Eq.trans (World.drewN_drewN _ _ _) (congrArg (World.drewN _) (Nat.add_assoc _ _ _))⟩)))
  repeat (go_quiet (first | (go_at_call 185; (with_reducible refine (clavigerref07_fits.calls a0 true _ A3.out).mono ?_); rintro e w' ⟨rfl, ⟨nd, rfl⟩⟩; (try first | exact ⟨rfl, _, World.drewN_drewN _ _ _⟩ | exact ⟨rfl, _, Eq.trans (World.drewN_drewN _ _ _) (congrArg (World.drewN _) (Nat.add_assoc _ _ _))⟩))); try go_wp2_with (first | (go_at_call 185; (with_reducible refine (clavigerref07_fits.calls a0 true _ A3.out).mono ?_); rintro e w' ⟨rfl, ⟨nd, rfl⟩⟩; (try first | exact ⟨rfl, _, World.drewN_drewN _ _ _⟩ | exact ⟨rfl, _, Eq.trans (World.drewN_drewN _ _ _) (congrArg (World.drewN _) (Nat.add_assoc _ _ _))⟩))))
  go_loopg [5, 6] k (fun kq v5 v6 w' => ∃ (x5_1 : ByteArray) (x6_1 : Int), v5 = .string x5_1 ∧ v6 = .int .i64 x6_1 ∧ Aside0 (clavigerref07_mixed.l0 kq a0 a1 x5_1 x6_1 = some r) ∧ Aside0 (kq ≤ k) ∧ Aside0 (Below w.heap.size w w'))
  case atStart => exact ⟨((⟨#[]⟩ : ByteArray)), (0), (by first | rfl | (simp; done) | (simp [*]; done)), (by first | rfl | (simp; done) | (simp [*]; done)), H', ⟨Nat.le_refl _⟩, ⟨by repeat first | with_reducible (first | exact HB.out | apply bA | apply bN | apply bD) | exact HB.out⟩⟩
  case round =>
   clear H'
   try clear c1
   try clear p2
   try clear c4
   obtain ⟨x5_1, x6_1, rfl, rfl, HA, HK1, HB⟩ := hrel
   cases gk with
   | zero => exact absurd HA.out (by simp [clavigerref07_mixed.l0])
   | succ k1 =>
    have H := HA.out
    clear HA
    simp only [clavigerref07_mixed.l0] at H
    by_cases c5 : x6_1 < 4
    ·rw [if_pos c5] at H
     have c5b0 : decide (x6_1 < 4) = true := decide_eq_true c5
     clear c5
     have H' := Aside0.mk H
     clear H
     go_wp2
     repeat (go_quiet (fail); try go_wp2)
     go_loopg [5, 7] k1 (fun kq v5 v7 w' => ∃ (x5_2 : ByteArray) (x7_2 : Int), v5 = .string x5_2 ∧ v7 = .int .i64 x7_2 ∧ Aside0 (clavigerref07_mixed.l1 kq a0 a1 x5_2 x6_1 x7_2 = some r) ∧ Aside0 (kq ≤ k1) ∧ Aside0 (Below w.heap.size w w'))
     case atStart => exact ⟨(x5_1), (0), (by first | rfl | (simp; done) | (simp [*]; done)), (by first | rfl | (simp; done) | (simp [*]; done)), H', ⟨Nat.le_refl _⟩, ⟨by repeat first | with_reducible (first | exact HB.out | apply bA | apply bN | apply bD) | exact HB.out⟩⟩
     case round =>
      clear H'
      try clear c1
      try clear p2
      try clear c4
      try clear c5
      try clear c5b0
      try clear p2
      obtain ⟨x5_2, x7_2, rfl, rfl, HA, HK2, HB⟩ := hrel
      cases gk with
      | zero => exact absurd HA.out (by simp [clavigerref07_mixed.l1])
      | succ k2 =>
       have H := HA.out
       clear HA
       simp only [clavigerref07_mixed.l1] at H
       by_cases c6 : x7_2 < 4
       ·rw [if_pos c6] at H
        have c6b0 : decide (x7_2 < 4) = true := decide_eq_true c6
        clear c6
        have H' := Aside0.mk H
        clear H
        go_wp2
        repeat (go_quiet (fail); try go_wp2)
        go_loopg [8, 9] k2 (fun kq v8 v9 w' => ∃ (x8_3 : Int) (x9_3 : Int), v8 = .int .u8 x8_3 ∧ v9 = .int .i64 x9_3 ∧ Aside0 (clavigerref07_mixed.l2 kq a0 a1 x5_2 x6_1 x7_2 x8_3 x9_3 = some r) ∧ Aside0 (kq ≤ k2) ∧ Aside0 (Below w.heap.size w w'))
        case atStart => exact ⟨(0), (0), (by first | rfl | (simp; done) | (simp [*]; done)), (by first | rfl | (simp; done) | (simp [*]; done)), H', ⟨Nat.le_refl _⟩, ⟨by repeat first | with_reducible (first | exact HB.out | apply bA | apply bN | apply bD) | exact HB.out⟩⟩
        case round =>
         clear H'
         try clear c1
         try clear p2
         try clear c4
         try clear c5
         try clear c5b0
         try clear c6
         try clear c6b0
         try clear p2
         obtain ⟨x8_3, x9_3, rfl, rfl, HA, HK3, HB⟩ := hrel
         cases gk with
         | zero => exact absurd HA.out (by simp [clavigerref07_mixed.l2])
         | succ k3 =>
          have H := HA.out
          clear HA
          simp only [clavigerref07_mixed.l2] at H
          by_cases c7 : x9_3 < 4
          ·rw [if_pos c7] at H
           have c7b0 : decide (x9_3 < 4) = true := decide_eq_true c7
           clear c7
           by_cases c8 : 0 ≤ x9_3
           ·rw [if_pos c8] at H
            have c8b0 : decide (0 ≤ x9_3) = true := decide_eq_true c8
            clear c8
            by_cases c9 : x9_3 < (a1.size : Int)
            ·rw [if_pos c9] at H
             have c9b0 : decide (x9_3 < (a1.size : Int)) = true := decide_eq_true c9
             clear c9
             obtain ⟨ji11, hji11⟩ : ∃ j_ : Int, (wrap64 ((wrap64 (4 * x6_1)) + (Int.tmod (wrap64 (x7_2 + x9_3)) 4))) = j_ := ⟨_, rfl⟩
             replace H : (if 0 ≤ (ji11) then (if (ji11) < (a0.size : Int) then ((clavigerref05_Mul.f k3 (bt a1 x9_3) (bt a0 (ji11))).bind fun t1 => (clavigerref07_mixed.l2 k3 a0 a1 x5_2 x6_1 x7_2 (Go.bits .xor .u8 x8_3 t1) (wrap64 (x9_3 + 1)))) else (none)) else (none)) = some r := by first | (rw [hji11] at H; exact H) | (simp only [hji11] at H ⊢; exact H)
             have hji11w : (IntKind.i64.wrap ((wrap64 (4 * x6_1)) + (Int.tmod (wrap64 (x7_2 + x9_3)) 4))) = ji11 := (i64_w _).trans hji11
             by_cases c12 : 0 ≤ (ji11)
             ·rw [if_pos c12] at H
              have c12b0 : decide (0 ≤ (ji11)) = true := decide_eq_true c12
              clear c12
              by_cases c13 : (ji11) < (a0.size : Int)
              ·rw [if_pos c13] at H
               have c13b0 : decide ((ji11) < (a0.size : Int)) = true := decide_eq_true c13
               clear c13
               replace H := Option.bind_eq_some_iff.mp H
               obtain ⟨t1, A150, H⟩ := H
               try dsimp only at H
               have A15 := Aside0.mk A150
               clear A150
               have H' := Aside0.mk H
               clear H
               have p10 : 0 ≤ (x9_3 : Int) := of_decide_eq_true (by assumption)
               have q10 : x9_3 < (a1.size : Int) := of_decide_eq_true (by assumption)
               have hx10 := bt_at a1 x9_3
               replace p10 := eq_true p10
               replace q10 := eq_true q10
               have p14 : 0 ≤ ((ji11) : Int) := of_decide_eq_true (by assumption)
               have q14 : (ji11) < (a0.size : Int) := of_decide_eq_true (by assumption)
               have hx14 := bt_at a0 (ji11)
               replace p14 := eq_true p14
               replace q14 := eq_true q14
               go_wp2_with (first | (go_at_call 44; (with_reducible refine (clavigerref05_Mul.calls k3 (bt a1 x9_3) (bt a0 (ji11)) t1 _ A15.out).mono ?_); rintro e w' ⟨rfl, ⟨nd, rfl⟩⟩; (try first | exact ⟨rfl, _, World.drewN_drewN _ _ _⟩ | exact ⟨rfl, _, Eq.trans (World.drewN_drewN _ _ _) (congrArg (World.drewN _) (Nat.add_assoc _ _ _))⟩)))
               repeat (go_quiet (first | (go_at_call 44; (with_reducible refine (clavigerref05_Mul.calls k3 (bt a1 x9_3) (bt a0 (ji11)) t1 _ A15.out).mono ?_); rintro e w' ⟨rfl, ⟨nd, rfl⟩⟩; (try first | exact ⟨rfl, _, World.drewN_drewN _ _ _⟩ | exact ⟨rfl, _, Eq.trans (World.drewN_drewN _ _ _) (congrArg (World.drewN _) (Nat.add_assoc _ _ _))⟩))); try go_wp2_with (first | (go_at_call 44; (with_reducible refine (clavigerref05_Mul.calls k3 (bt a1 x9_3) (bt a0 (ji11)) t1 _ A15.out).mono ?_); rintro e w' ⟨rfl, ⟨nd, rfl⟩⟩; (try first | exact ⟨rfl, _, World.drewN_drewN _ _ _⟩ | exact ⟨rfl, _, Eq.trans (World.drewN_drewN _ _ _) (congrArg (World.drewN _) (Nat.add_assoc _ _ _))⟩))))
               go_roundg k3
               case measure => have := HK1.out; have := HK2.out; have := HK3.out; omega
               case rel => exact ⟨(Go.bits .xor .u8 x8_3 t1), (wrap64 (x9_3 + 1)), (by first | rfl | (simp; done) | (simp [*]; done)), (by first | rfl | (simp; done) | (simp [*]; done)), H', ⟨by have := HK1.out; have := HK2.out; have := HK3.out; omega⟩, ⟨by repeat first | with_reducible (first | exact HB.out | apply bA | apply bN | apply bD) | exact HB.out⟩⟩
              ·rw [if_neg c13] at H
               exact absurd H (by simp)
             ·rw [if_neg c12] at H
              exact absurd H (by simp)
            ·rw [if_neg c9] at H
             exact absurd H (by simp)
           ·rw [if_neg c8] at H
            exact absurd H (by simp)
          ·rw [if_neg c7] at H
           have c7b0 : decide (x9_3 < 4) = false := decide_eq_false c7
           clear c7
           obtain ⟨y2, hy2⟩ : ∃ y_ : List Int, y_ = (([x8_3] : List Int)) := ⟨_, rfl⟩
           replace H : (if x5_2.size + (strOfNums y2).size ≤ 9223372036854775807 then (clavigerref07_mixed.l1 k3 a0 a1 (x5_2 ++ (strOfNums y2)) x6_1 (wrap64 (x7_2 + 1))) else (none)) = some r := by first | (rw [hy2]; with_reducible exact H) | (have H2_ := (Option.bind_some _ _).symm.trans H; rw [hy2]; with_reducible exact H2_) | (have H2_ := (Option.bind_some _ _).symm.trans H; with_reducible exact H2_) | with_reducible exact H | (rw [hy2]; exact H) | exact H
           have Ny5001 := Aside0.mk hy2
           clear hy2
           by_cases c16 : x5_2.size + (strOfNums y2).size ≤ 9223372036854775807
           ·rw [if_pos c16] at H
            have c16b0 := eq_true c16
            have c16b1 : decide (x5_2.size + (strOfNums y2).size ≤ 9223372036854775807) = true := decide_eq_true c16
            try have c16b2 : (9223372036854775807 < x5_2.size + (strOfNums y2).size) = False := eq_false (Nat.not_lt.2 c16)
            have H' := Aside0.mk H
            clear H
            go_wp2_with (first | ((with_reducible refine gate_dst (N := 43) rfl ?_); refine Kd.R_lit (Kd.int .u8) _ 5 ?hg (N := 43) ?hd (xs := ([x8_3] : List Int)) (inner := [.int .u8 x8_3]) (ok := fun _ => True) (okp := fun _ => True) ?hr ?hp (fun _ hk => hk) trivial (Below.refl _ _) (Nat.le_refl _) (by simp) ?_; (case hd => rfl); (case hg => rfl); (case hr => first | (go_simp; done) | (go_simp; rfl)); (case hp => exact (Reps.one (show Kd.M (Kd.int .u8) _ _ _ x8_3 [.int .u8 x8_3] from rfl) (Reps.none _ _))); intro v256 w17 ho18 hb hg_ hnew_; clear hg_ hnew_; (first | rw [← Ny5001.out] at ho18 | (simp only [Int.reduceToNat] at ho18; rw [← Ny5001.out] at ho18)); have n0_ := Aside0.mk (Kd.R_lower ho18 (below_size (by repeat first | with_reducible (first | exact HB.out | apply bA | apply bN | apply bD) | exact HB.out))); have n1_ := Aside0.mk (below_step (by repeat first | with_reducible (first | exact HB.out | apply bA | apply bN | apply bD) | exact HB.out) hb); clear HB; have HO257 := n0_; have HB := n1_; clear n0_ n1_; clear hb ho18; have hcv19 := own_string (P := Try.prog) Try.underlying66 Try.underlying5 Try.underlying9 (Kd.own_of_R HO257.out)))
            repeat (go_quiet (first | ((with_reducible refine gate_dst (N := 43) rfl ?_); refine Kd.R_lit (Kd.int .u8) _ 5 ?hg (N := 43) ?hd (xs := ([x8_3] : List Int)) (inner := [.int .u8 x8_3]) (ok := fun _ => True) (okp := fun _ => True) ?hr ?hp (fun _ hk => hk) trivial (Below.refl _ _) (Nat.le_refl _) (by simp) ?_; (case hd => rfl); (case hg => rfl); (case hr => first | (go_simp; done) | (go_simp; rfl)); (case hp => exact (Reps.one (show Kd.M (Kd.int .u8) _ _ _ x8_3 [.int .u8 x8_3] from rfl) (Reps.none _ _))); intro v256 w17 ho18 hb hg_ hnew_; clear hg_ hnew_; (first | rw [← Ny5001.out] at ho18 | (simp only [Int.reduceToNat] at ho18; rw [← Ny5001.out] at ho18)); have n0_ := Aside0.mk (Kd.R_lower ho18 (below_size (by repeat first | with_reducible (first | exact HB.out | apply bA | apply bN | apply bD) | exact HB.out))); have n1_ := Aside0.mk (below_step (by repeat first | with_reducible (first | exact HB.out | apply bA | apply bN | apply bD) | exact HB.out) hb); clear HB; have HO257 := n0_; have HB := n1_; clear n0_ n1_; clear hb ho18; have hcv19 := own_string (P := Try.prog) Try.underlying66 Try.underlying5 Try.underlying9 (Kd.own_of_R HO257.out))); try go_wp2_with (first | ((with_reducible refine gate_dst (N := 43) rfl ?_); refine Kd.R_lit (Kd.int .u8) _ 5 ?hg (N := 43) ?hd (xs := ([x8_3] : List Int)) (inner := [.int .u8 x8_3]) (ok := fun _ => True) (okp := fun _ => True) ?hr ?hp (fun _ hk => hk) trivial (Below.refl _ _) (Nat.le_refl _) (by simp) ?_; (case hd => rfl); (case hg => rfl); (case hr => first | (go_simp; done) | (go_simp; rfl)); (case hp => exact (Reps.one (show Kd.M (Kd.int .u8) _ _ _ x8_3 [.int .u8 x8_3] from rfl) (Reps.none _ _))); intro v256 w17 ho18 hb hg_ hnew_; clear hg_ hnew_; (first | rw [← Ny5001.out] at ho18 | (simp only [Int.reduceToNat] at ho18; rw [← Ny5001.out] at ho18)); have n0_ := Aside0.mk (Kd.R_lower ho18 (below_size (by repeat first | with_reducible (first | exact HB.out | apply bA | apply bN | apply bD) | exact HB.out))); have n1_ := Aside0.mk (below_step (by repeat first | with_reducible (first | exact HB.out | apply bA | apply bN | apply bD) | exact HB.out) hb); clear HB; have HO257 := n0_; have HB := n1_; clear n0_ n1_; clear hb ho18; have hcv19 := own_string (P := Try.prog) Try.underlying66 Try.underlying5 Try.underlying9 (Kd.own_of_R HO257.out))))
            go_roundg k3
            case measure => have := HK1.out; have := HK2.out; have := HK3.out; omega
            case rel => exact ⟨(x5_2 ++ (strOfNums y2)), (wrap64 (x7_2 + 1)), (by first | rfl | (simp; done) | (simp [*]; done)), (by first | rfl | (simp; done) | (simp [*]; done)), H', ⟨by have := HK1.out; have := HK2.out; have := HK3.out; omega⟩, ⟨by repeat first | with_reducible (first | exact HB.out | apply bA | apply bN | apply bD) | exact HB.out⟩⟩
           ·rw [if_neg c16] at H
            exact absurd H (by simp)
       ·rw [if_neg c6] at H
        have c6b0 : decide (x7_2 < 4) = false := decide_eq_false c6
        clear c6
        have H' := Aside0.mk H
        clear H
        go_wp2
        repeat (go_quiet (fail); try go_wp2)
        go_roundg k2
        case measure => have := HK1.out; have := HK2.out; omega
        case rel => exact ⟨(x5_2), (wrap64 (x6_1 + 1)), (by first | rfl | (simp; done) | (simp [*]; done)), (by first | rfl | (simp; done) | (simp [*]; done)), H', ⟨by have := HK1.out; have := HK2.out; omega⟩, ⟨by repeat first | with_reducible (first | exact HB.out | apply bA | apply bN | apply bD) | exact HB.out⟩⟩
    ·rw [if_neg c5] at H
     have c5b0 : decide (x6_1 < 4) = false := decide_eq_false c5
     clear c5
     obtain rfl := Option.some.inj H
     go_wp2
     repeat (go_quiet (fail); try go_wp2)
     go_ret
     exact ⟨by first | rfl | (simp [*, errW_none, errW_some] <;> rfl), by repeat first | with_reducible (first | exact HB.out | apply bA | apply bN | apply bD) | exact HB.out⟩
 ·replace c4 := Bool.eq_false_iff.mpr c4
  subst c4
  have H1 : (some (⟨#[]⟩ : ByteArray)) = some r := by rw [if_neg (show ¬ (false = true) by decide)] at H; exact H
  clear H
  have H := H1
  clear H1
  obtain rfl := Option.some.inj H
  go_enter Try.func184, Try.ntmps184
  go_wp2_with (first | (go_at_call 185; (with_reducible refine (clavigerref07_fits.calls a0 false _ A3.out).mono ?_); rintro e w' ⟨rfl, ⟨nd, rfl⟩⟩; (try first | exact ⟨rfl, _, World.drewN_drewN _ _ _⟩ | exact ⟨rfl, _, Eq.trans (World.drewN_drewN _ _ _) (congrArg (World.drewN _) (Nat.add_assoc _ _ _))⟩)))
  repeat (go_quiet (first | (go_at_call 185; (with_reducible refine (clavigerref07_fits.calls a0 false _ A3.out).mono ?_); rintro e w' ⟨rfl, ⟨nd, rfl⟩⟩; (try first | exact ⟨rfl, _, World.drewN_drewN _ _ _⟩ | exact ⟨rfl, _, Eq.trans (World.drewN_drewN _ _ _) (congrArg (World.drewN _) (Nat.add_assoc _ _ _))⟩))); try go_wp2_with (first | (go_at_call 185; (with_reducible refine (clavigerref07_fits.calls a0 false _ A3.out).mono ?_); rintro e w' ⟨rfl, ⟨nd, rfl⟩⟩; (try first | exact ⟨rfl, _, World.drewN_drewN _ _ _⟩ | exact ⟨rfl, _, Eq.trans (World.drewN_drewN _ _ _) (congrArg (World.drewN _) (Nat.add_assoc _ _ _))⟩))))
  go_ret
  exact ⟨by first | rfl | (simp [*, errW_none, errW_some] <;> rfl), by repeat first | with_reducible (first | exact HB.out | apply bA | apply bN | apply bD) | exact HB.out⟩

def clavigerref07_Mix.f (k : Nat) (a0 : ByteArray) : Option (ByteArray) := (clavigerref07_mixed.f k a0 (⟨#[2, 3, 1, 1]⟩ : ByteArray)).bind fun t1 => (some t1)
theorem clavigerref07_Mix.mono : ∀ a0 k, LeO (clavigerref07_Mix.f k a0) (clavigerref07_Mix.f (k + 1) a0) := by
 intro a0 k
 unfold clavigerref07_Mix.f
 repeat' first
   | (with_reducible exact clavigerref07_mixed.mono _ _ _)
   | (with_reducible exact LeO.refl _)
   | (with_reducible exact LeO.none _)
   | (with_reducible refine LeO.ite ?_ ?_)
   | (with_reducible refine LeO.bind ?_ (fun _ => ?_))
set_option maxHeartbeats 8000000 in
set_option maxRecDepth 100000 in
theorem clavigerref07_Mix.calls (k : Nat) (a0 : ByteArray) (r : ByteArray) (w : World) (h : clavigerref07_Mix.f k a0 = some r) :
  Calls Try.prog 79 #[.string a0] w fun e w' => e = .returned (.string r) ∧ Below w.heap.size w w' := by
 have HB := Aside0.mk (Below.refl w.heap.size w)
 have H : ((clavigerref07_mixed.f k a0 (⟨#[2, 3, 1, 1]⟩ : ByteArray)).bind fun t1 => (some t1)) = some r := h
 clear h
 replace H := Option.bind_eq_some_iff.mp H
 obtain ⟨t1, A20, H⟩ := H
 replace H : (some t1) = some r := H
 have A2 := Aside0.mk A20
 clear A20
 obtain rfl := Option.some.inj H
 go_enter Try.func79, Try.ntmps79
 go_wp2_with (first | ((with_reducible refine gate_callee (f := 184) rfl ?_); refine goesL_ (some 4) rfl rfl Try.func184 (by kernel_rfl) rfl #[.string a0, .string (⟨#[2, 3, 1, 1]⟩ : ByteArray)] rfl (by (try simp only [lT, lC, lN]); first | done | rfl) ?_; (with_reducible refine (clavigerref07_mixed.calls k a0 (⟨#[2, 3, 1, 1]⟩ : ByteArray) t1 _ A2.out).mono ?_); rintro e w3 ⟨rfl, hb⟩; refine ⟨_, rfl, ?_⟩; have n0_ := Aside0.mk (below_step (by repeat first | with_reducible (first | exact HB.out | apply bA | apply bN | apply bD) | exact HB.out) hb); clear HB; have HB := n0_; clear n0_; (try clear hb); (try clear hb2); (try clear hk); (try clear hi)))
 go_ret
 exact ⟨by first | rfl | (simp [*, errW_none, errW_some] <;> rfl), by repeat first | with_reducible (first | exact HB.out | apply bA | apply bN | apply bD) | exact HB.out⟩

def clavigerref07_Do.j0 : Nat → ByteArray → ByteArray → Bool → Bool → Option (ByteArray)
 | 0, _, _, _, _ => none
 | k + 1, x0, x1, x2, x15 => if x15 = true then (some (⟨#[]⟩ : ByteArray)) else ((clavigerref06_Subs.f k x0).bind fun t1 => ((clavigerref07_Shift.f k t1).bind fun t2 => (if x2 = true then ((clavigerref07_Key.f k t2 x1).bind fun t3 => (some t3)) else ((clavigerref07_Mix.f k t2).bind fun t4 => ((clavigerref07_Key.f k t4 x1).bind fun t5 => (some t5))))))
def clavigerref07_Do.f (k : Nat) (a0 : ByteArray) (a1 : ByteArray) (a2 : Bool) : Option (ByteArray) := (clavigerref07_fits.f a0).bind fun t6 => (if t6 = true then ((clavigerref07_fits.f a1).bind fun t7 => (clavigerref07_Do.j0 k a0 a1 a2 (!t7))) else (clavigerref07_Do.j0 k a0 a1 a2 true))
theorem clavigerref07_Do.mono_l : ∀ k, (∀ y8 y9 y10 y11, LeO (clavigerref07_Do.j0 k y8 y9 y10 y11) (clavigerref07_Do.j0 (k + 1) y8 y9 y10 y11))
 | 0 => fun _ _ _ _ r h => by simp [clavigerref07_Do.j0] at h
 | k + 1 => by
  have ih0 := clavigerref07_Do.mono_l k
  ·intro y8 y9 y10 y11
   unfold clavigerref07_Do.j0
   repeat' first
   | (with_reducible exact ih0 _ _ _ _)
   | (with_reducible exact clavigerref06_Subs.mono _ _)
   | (with_reducible exact clavigerref07_Key.mono _ _ _)
   | (with_reducible exact clavigerref07_Mix.mono _ _)
   | (with_reducible exact clavigerref07_Shift.mono _ _)
   | (with_reducible exact LeO.refl _)
   | (with_reducible exact LeO.none _)
   | (with_reducible refine LeO.ite ?_ ?_)
   | (with_reducible refine LeO.bind ?_ (fun _ => ?_))
theorem clavigerref07_Do.mono : ∀ a0 a1 a2 k, LeO (clavigerref07_Do.f k a0 a1 a2) (clavigerref07_Do.f (k + 1) a0 a1 a2) := by
 intro a0 a1 a2 k
 have ih0 := clavigerref07_Do.mono_l k
 unfold clavigerref07_Do.f
 repeat' first
   | (with_reducible exact ih0 _ _ _ _)
   | (with_reducible exact clavigerref06_Subs.mono _ _)
   | (with_reducible exact clavigerref07_Key.mono _ _ _)
   | (with_reducible exact clavigerref07_Mix.mono _ _)
   | (with_reducible exact clavigerref07_Shift.mono _ _)
   | (with_reducible exact LeO.refl _)
   | (with_reducible exact LeO.none _)
   | (with_reducible refine LeO.ite ?_ ?_)
   | (with_reducible refine LeO.bind ?_ (fun _ => ?_))
set_option maxHeartbeats 8000000 in
set_option maxRecDepth 100000 in
theorem clavigerref07_Do.calls (k : Nat) (a0 : ByteArray) (a1 : ByteArray) (a2 : Bool) (r : ByteArray) (w : World) (h : clavigerref07_Do.f k a0 a1 a2 = some r) :
  Calls Try.prog 83 #[.string a0, .string a1, .bool a2] w fun e w' => e = .returned (.string r) ∧ Below w.heap.size w w' := by
 have HB := Aside0.mk (Below.refl w.heap.size w)
 have H : ((clavigerref07_fits.f a0).bind fun t6 => (if t6 = true then ((clavigerref07_fits.f a1).bind fun t7 => (clavigerref07_Do.j0 k a0 a1 a2 (!t7))) else (clavigerref07_Do.j0 k a0 a1 a2 true))) = some r := h
 clear h
 have HC4 := Aside0.mk H
 clear H
 go_enter Try.func83, Try.ntmps83
 go_upto_region 1 with (fail)
 go_cut [15] (fun v15 wc => ∃ (kq : Nat) (x15_3 : Bool), v15 = .bool x15_3 ∧ Aside0 (clavigerref07_Do.j0 kq a0 a1 a2 x15_3 = some r) ∧ Aside0 (kq ≤ k) ∧ Aside0 (Below w.heap.size w wc))
 case first =>
  have H := HC4.out
  clear HC4
  replace H := Option.bind_eq_some_iff.mp H
  obtain ⟨t6, A50, H⟩ := H
  try dsimp only at H
  have A5 := Aside0.mk A50
  clear A50
  by_cases c6 : t6 = true
  ·subst c6
   have H1 : ((clavigerref07_fits.f a1).bind fun t7 => (clavigerref07_Do.j0 k a0 a1 a2 (!t7))) = some r := by rw [if_pos rfl] at H; exact H
   clear H
   have H := H1
   clear H1
   replace H := Option.bind_eq_some_iff.mp H
   obtain ⟨t7, A70, H⟩ := H
   replace H : (clavigerref07_Do.j0 k a0 a1 a2 (!t7)) = some r := H
   have A7 := Aside0.mk A70
   clear A70
   have H' := Aside0.mk H
   clear H
   go_wp2_with (first | ((with_reducible refine gate_callee (f := 185) rfl ?_); refine goesL_ (some 9) rfl rfl Try.func185 (by kernel_rfl) rfl #[.string a0] rfl (by (try simp only [lT, lC, lN]); first | done | rfl) ?_; (with_reducible refine (clavigerref07_fits.calls a0 true _ A5.out).mono ?_); rintro e w' ⟨rfl, ⟨nd, rfl⟩⟩; refine ⟨_, rfl, ?_⟩) | (go_at_call 185; (with_reducible refine (clavigerref07_fits.calls a1 t7 _ A7.out).mono ?_); rintro e w' ⟨rfl, ⟨nd, rfl⟩⟩))
   go_meet
   case rel => exact ⟨_, (!t7), (by first | rfl | (simp; done) | (simp [*]; done)), H', ⟨by first | omega | exact Nat.le_refl _⟩, ⟨by repeat first | with_reducible (first | exact HB.out | apply bA | apply bN | apply bD) | exact HB.out⟩⟩
  ·replace c6 := Bool.eq_false_iff.mpr c6
   subst c6
   have H1 : (clavigerref07_Do.j0 k a0 a1 a2 true) = some r := by rw [if_neg (show ¬ (false = true) by decide)] at H; exact H
   clear H
   have H := H1
   clear H1
   have H' := Aside0.mk H
   clear H
   go_wp2_with (first | ((with_reducible refine gate_callee (f := 185) rfl ?_); refine goesL_ (some 9) rfl rfl Try.func185 (by kernel_rfl) rfl #[.string a0] rfl (by (try simp only [lT, lC, lN]); first | done | rfl) ?_; (with_reducible refine (clavigerref07_fits.calls a0 false _ A5.out).mono ?_); rintro e w' ⟨rfl, ⟨nd, rfl⟩⟩; refine ⟨_, rfl, ?_⟩))
   go_meet
   case rel => exact ⟨_, (true), (by first | rfl | (simp; done) | (simp [*]; done)), H', ⟨by first | omega | exact Nat.le_refl _⟩, ⟨by repeat first | with_reducible (first | exact HB.out | apply bA | apply bN | apply bD) | exact HB.out⟩⟩
 case rest =>
  clear HC4
  try clear c1
  try clear p2
  try clear c6
  obtain ⟨kq, x15_3, rfl, HA, HJ3, HB⟩ := hcut
  cases kq with
  | zero => exact absurd HA.out (by simp [clavigerref07_Do.j0])
  | succ kj3 =>
   have H := HA.out
   clear HA
   simp only [clavigerref07_Do.j0] at H
   by_cases c8 : x15_3 = true
   ·subst c8
    have H1 : (some (⟨#[]⟩ : ByteArray)) = some r := by rw [if_pos rfl] at H; exact H
    clear H
    have H := H1
    clear H1
    obtain rfl := Option.some.inj H
    go_wp2
    go_ret
    exact ⟨by first | rfl | (simp [*, errW_none, errW_some] <;> rfl), by repeat first | with_reducible (first | exact HB.out | apply bA | apply bN | apply bD) | exact HB.out⟩
   ·replace c8 := Bool.eq_false_iff.mpr c8
    subst c8
    have H1 : ((clavigerref06_Subs.f kj3 a0).bind fun t1 => ((clavigerref07_Shift.f kj3 t1).bind fun t2 => (if a2 = true then ((clavigerref07_Key.f kj3 t2 a1).bind fun t3 => (some t3)) else ((clavigerref07_Mix.f kj3 t2).bind fun t4 => ((clavigerref07_Key.f kj3 t4 a1).bind fun t5 => (some t5)))))) = some r := by rw [if_neg (show ¬ (false = true) by decide)] at H; exact H
    clear H
    have H := H1
    clear H1
    replace H := Option.bind_eq_some_iff.mp H
    obtain ⟨t1, A90, H⟩ := H
    try dsimp only at H
    have A9 := Aside0.mk A90
    clear A90
    replace H := Option.bind_eq_some_iff.mp H
    obtain ⟨t2, A100, H⟩ := H
    try dsimp only at H
    have A10 := Aside0.mk A100
    clear A100
    by_cases c11 : a2 = true
    ·subst c11
     have H1 : ((clavigerref07_Key.f kj3 t2 a1).bind fun t3 => (some t3)) = some r := by rw [if_pos rfl] at H; exact H
     clear H
     have H := H1
     clear H1
     replace H := Option.bind_eq_some_iff.mp H
     obtain ⟨t3, A120, H⟩ := H
     replace H : (some t3) = some r := H
     have A12 := Aside0.mk A120
     clear A120
     obtain rfl := Option.some.inj H
     go_wp2_with (first | ((with_reducible refine gate_callee (f := 67) rfl ?_); refine goesL_ (some 17) rfl rfl Try.func67 (by kernel_rfl) rfl #[.string a0] rfl (by (try simp only [lT, lC, lN]); first | done | rfl) ?_; (with_reducible refine (clavigerref06_Subs.calls kj3 a0 t1 _ A9.out).mono ?_); rintro e w13 ⟨rfl, hb⟩; refine ⟨_, rfl, ?_⟩; have n0_ := Aside0.mk (below_step (by repeat first | with_reducible (first | exact HB.out | apply bA | apply bN | apply bD) | exact HB.out) hb); clear HB; have HB := n0_; clear n0_; (try clear hb); (try clear hb2); (try clear hk); (try clear hi)) | ((with_reducible refine gate_callee (f := 76) rfl ?_); refine goesL_ (some 18) rfl rfl Try.func76 (by kernel_rfl) rfl #[.string t1] rfl (by (try simp only [lT, lC, lN]); first | done | rfl) ?_; (with_reducible refine (clavigerref07_Shift.calls kj3 t1 t2 _ A10.out).mono ?_); rintro e w' ⟨rfl, ⟨nd, rfl⟩⟩; refine ⟨_, rfl, ?_⟩) | ((with_reducible refine gate_callee (f := 81) rfl ?_); refine goesL_ (some 25) rfl rfl Try.func81 (by kernel_rfl) rfl #[.string t2, .string a1] rfl (by (try simp only [lT, lC, lN]); first | done | rfl) ?_; (with_reducible refine (clavigerref07_Key.calls kj3 t2 a1 t3 _ A12.out).mono ?_); rintro e w14 ⟨rfl, hb⟩; refine ⟨_, rfl, ?_⟩; have n0_ := Aside0.mk (below_step (by repeat first | with_reducible (first | exact HB.out | apply bA | apply bN | apply bD) | exact HB.out) hb); clear HB; have HB := n0_; clear n0_; (try clear hb); (try clear hb2); (try clear hk); (try clear hi)))
     go_ret
     exact ⟨by first | rfl | (simp [*, errW_none, errW_some] <;> rfl), by repeat first | with_reducible (first | exact HB.out | apply bA | apply bN | apply bD) | exact HB.out⟩
    ·replace c11 := Bool.eq_false_iff.mpr c11
     subst c11
     have H1 : ((clavigerref07_Mix.f kj3 t2).bind fun t4 => ((clavigerref07_Key.f kj3 t4 a1).bind fun t5 => (some t5))) = some r := by rw [if_neg (show ¬ (false = true) by decide)] at H; exact H
     clear H
     have H := H1
     clear H1
     replace H := Option.bind_eq_some_iff.mp H
     obtain ⟨t4, A150, H⟩ := H
     try dsimp only at H
     have A15 := Aside0.mk A150
     clear A150
     replace H := Option.bind_eq_some_iff.mp H
     obtain ⟨t5, A160, H⟩ := H
     replace H : (some t5) = some r := H
     have A16 := Aside0.mk A160
     clear A160
     obtain rfl := Option.some.inj H
     go_wp2_with (first | ((with_reducible refine gate_callee (f := 67) rfl ?_); refine goesL_ (some 17) rfl rfl Try.func67 (by kernel_rfl) rfl #[.string a0] rfl (by (try simp only [lT, lC, lN]); first | done | rfl) ?_; (with_reducible refine (clavigerref06_Subs.calls kj3 a0 t1 _ A9.out).mono ?_); rintro e w17 ⟨rfl, hb⟩; refine ⟨_, rfl, ?_⟩; have n0_ := Aside0.mk (below_step (by repeat first | with_reducible (first | exact HB.out | apply bA | apply bN | apply bD) | exact HB.out) hb); clear HB; have HB := n0_; clear n0_; (try clear hb); (try clear hb2); (try clear hk); (try clear hi)) | ((with_reducible refine gate_callee (f := 76) rfl ?_); refine goesL_ (some 18) rfl rfl Try.func76 (by kernel_rfl) rfl #[.string t1] rfl (by (try simp only [lT, lC, lN]); first | done | rfl) ?_; (with_reducible refine (clavigerref07_Shift.calls kj3 t1 t2 _ A10.out).mono ?_); rintro e w' ⟨rfl, ⟨nd, rfl⟩⟩; refine ⟨_, rfl, ?_⟩) | ((with_reducible refine gate_callee (f := 79) rfl ?_); refine goesL_ (some 22) rfl rfl Try.func79 (by kernel_rfl) rfl #[.string t2] rfl (by (try simp only [lT, lC, lN]); first | done | rfl) ?_; (with_reducible refine (clavigerref07_Mix.calls kj3 t2 t4 _ A15.out).mono ?_); rintro e w18 ⟨rfl, hb⟩; refine ⟨_, rfl, ?_⟩; have n0_ := Aside0.mk (below_step (by repeat first | with_reducible (first | exact HB.out | apply bA | apply bN | apply bD) | exact HB.out) hb); clear HB; have HB := n0_; clear n0_; (try clear hb); (try clear hb2); (try clear hk); (try clear hi)) | ((with_reducible refine gate_callee (f := 81) rfl ?_); refine goesL_ (some 25) rfl rfl Try.func81 (by kernel_rfl) rfl #[.string t4, .string a1] rfl (by (try simp only [lT, lC, lN]); first | done | rfl) ?_; (with_reducible refine (clavigerref07_Key.calls kj3 t4 a1 t5 _ A16.out).mono ?_); rintro e w19 ⟨rfl, hb⟩; refine ⟨_, rfl, ?_⟩; have n0_ := Aside0.mk (below_step (by repeat first | with_reducible (first | exact HB.out | apply bA | apply bN | apply bD) | exact HB.out) hb); clear HB; have HB := n0_; clear n0_; (try clear hb); (try clear hb2); (try clear hk); (try clear hi)))
     go_ret
     exact ⟨by first | rfl | (simp [*, errW_none, errW_some] <;> rfl), by repeat first | with_reducible (first | exact HB.out | apply bA | apply bN | apply bD) | exact HB.out⟩

def clavigerref07_Unshift.f (k : Nat) (a0 : ByteArray) : Option (ByteArray) := (clavigerref07_moved.f k a0 3).bind fun t1 => (some t1)
theorem clavigerref07_Unshift.mono : ∀ a0 k, LeO (clavigerref07_Unshift.f k a0) (clavigerref07_Unshift.f (k + 1) a0) := by
 intro a0 k
 unfold clavigerref07_Unshift.f
 repeat' first
   | (with_reducible exact clavigerref07_moved.mono _ _ _)
   | (with_reducible exact LeO.refl _)
   | (with_reducible exact LeO.none _)
   | (with_reducible refine LeO.ite ?_ ?_)
   | (with_reducible refine LeO.bind ?_ (fun _ => ?_))
set_option maxHeartbeats 8000000 in
set_option maxRecDepth 100000 in
theorem clavigerref07_Unshift.calls (k : Nat) (a0 : ByteArray) (r : ByteArray) (w : World) (h : clavigerref07_Unshift.f k a0 = some r) :
  Calls Try.prog 78 #[.string a0] w fun e w' => e = .returned (.string r) ∧ Drawn0 w w' := by
 have H : ((clavigerref07_moved.f k a0 3).bind fun t1 => (some t1)) = some r := h
 clear h
 replace H := Option.bind_eq_some_iff.mp H
 obtain ⟨t1, A20, H⟩ := H
 replace H : (some t1) = some r := H
 have A2 := Aside0.mk A20
 clear A20
 obtain rfl := Option.some.inj H
 go_enter Try.func78, Try.ntmps78
 go_wp2_with (first | ((with_reducible refine gate_callee (f := 182) rfl ?_); refine goesL_ (some 4) rfl rfl Try.func182 (by kernel_rfl) rfl #[.string a0, .int .i64 3] rfl (by (try simp only [lT, lC, lN]); first | done | rfl) ?_; (with_reducible refine (clavigerref07_moved.calls k a0 3 t1 _ A2.out).mono ?_); rintro e w' ⟨rfl, ⟨nd, rfl⟩⟩; refine ⟨_, rfl, ?_⟩))
 go_ret
 exact ⟨by first | rfl | (simp; done) | (simp [*]; done) | (simp [IntKind.wrap_u8, IntKind.wrap_i64, wrap64]; done), by repeat (first | exact Drawn0.refl _ | apply Drawn0.step)⟩

def clavigerref07_Unmix.f (k : Nat) (a0 : ByteArray) : Option (ByteArray) := (clavigerref07_mixed.f k a0 (⟨#[14, 11, 13, 9]⟩ : ByteArray)).bind fun t1 => (some t1)
theorem clavigerref07_Unmix.mono : ∀ a0 k, LeO (clavigerref07_Unmix.f k a0) (clavigerref07_Unmix.f (k + 1) a0) := by
 intro a0 k
 unfold clavigerref07_Unmix.f
 repeat' first
   | (with_reducible exact clavigerref07_mixed.mono _ _ _)
   | (with_reducible exact LeO.refl _)
   | (with_reducible exact LeO.none _)
   | (with_reducible refine LeO.ite ?_ ?_)
   | (with_reducible refine LeO.bind ?_ (fun _ => ?_))
set_option maxHeartbeats 8000000 in
set_option maxRecDepth 100000 in
theorem clavigerref07_Unmix.calls (k : Nat) (a0 : ByteArray) (r : ByteArray) (w : World) (h : clavigerref07_Unmix.f k a0 = some r) :
  Calls Try.prog 80 #[.string a0] w fun e w' => e = .returned (.string r) ∧ Below w.heap.size w w' := by
 have HB := Aside0.mk (Below.refl w.heap.size w)
 have H : ((clavigerref07_mixed.f k a0 (⟨#[14, 11, 13, 9]⟩ : ByteArray)).bind fun t1 => (some t1)) = some r := h
 clear h
 replace H := Option.bind_eq_some_iff.mp H
 obtain ⟨t1, A20, H⟩ := H
 replace H : (some t1) = some r := H
 have A2 := Aside0.mk A20
 clear A20
 obtain rfl := Option.some.inj H
 go_enter Try.func80, Try.ntmps80
 go_wp2_with (first | ((with_reducible refine gate_callee (f := 184) rfl ?_); refine goesL_ (some 4) rfl rfl Try.func184 (by kernel_rfl) rfl #[.string a0, .string (⟨#[14, 11, 13, 9]⟩ : ByteArray)] rfl (by (try simp only [lT, lC, lN]); first | done | rfl) ?_; (with_reducible refine (clavigerref07_mixed.calls k a0 (⟨#[14, 11, 13, 9]⟩ : ByteArray) t1 _ A2.out).mono ?_); rintro e w3 ⟨rfl, hb⟩; refine ⟨_, rfl, ?_⟩; have n0_ := Aside0.mk (below_step (by repeat first | with_reducible (first | exact HB.out | apply bA | apply bN | apply bD) | exact HB.out) hb); clear HB; have HB := n0_; clear n0_; (try clear hb); (try clear hb2); (try clear hk); (try clear hi)))
 go_ret
 exact ⟨by first | rfl | (simp [*, errW_none, errW_some] <;> rfl), by repeat first | with_reducible (first | exact HB.out | apply bA | apply bN | apply bD) | exact HB.out⟩

def clavigerref07_Undo.j0 : Nat → ByteArray → ByteArray → Bool → Bool → Option (ByteArray)
 | 0, _, _, _, _ => none
 | k + 1, x0, x1, x2, x15 => if x15 = true then (some (⟨#[]⟩ : ByteArray)) else ((clavigerref07_Key.f k x0 x1).bind fun t1 => (if x2 = true then ((clavigerref07_Unshift.f k t1).bind fun t2 => ((clavigerref06_Backs.f k t2).bind fun t3 => (some t3))) else ((clavigerref07_Unmix.f k t1).bind fun t4 => ((clavigerref07_Unshift.f k t4).bind fun t5 => ((clavigerref06_Backs.f k t5).bind fun t6 => (some t6))))))
def clavigerref07_Undo.f (k : Nat) (a0 : ByteArray) (a1 : ByteArray) (a2 : Bool) : Option (ByteArray) := (clavigerref07_fits.f a0).bind fun t7 => (if t7 = true then ((clavigerref07_fits.f a1).bind fun t8 => (clavigerref07_Undo.j0 k a0 a1 a2 (!t8))) else (clavigerref07_Undo.j0 k a0 a1 a2 true))
theorem clavigerref07_Undo.mono_l : ∀ k, (∀ y9 y10 y11 y12, LeO (clavigerref07_Undo.j0 k y9 y10 y11 y12) (clavigerref07_Undo.j0 (k + 1) y9 y10 y11 y12))
 | 0 => fun _ _ _ _ r h => by simp [clavigerref07_Undo.j0] at h
 | k + 1 => by
  have ih0 := clavigerref07_Undo.mono_l k
  ·intro y9 y10 y11 y12
   unfold clavigerref07_Undo.j0
   repeat' first
   | (with_reducible exact ih0 _ _ _ _)
   | (with_reducible exact clavigerref06_Backs.mono _ _)
   | (with_reducible exact clavigerref07_Key.mono _ _ _)
   | (with_reducible exact clavigerref07_Unmix.mono _ _)
   | (with_reducible exact clavigerref07_Unshift.mono _ _)
   | (with_reducible exact LeO.refl _)
   | (with_reducible exact LeO.none _)
   | (with_reducible refine LeO.ite ?_ ?_)
   | (with_reducible refine LeO.bind ?_ (fun _ => ?_))
theorem clavigerref07_Undo.mono : ∀ a0 a1 a2 k, LeO (clavigerref07_Undo.f k a0 a1 a2) (clavigerref07_Undo.f (k + 1) a0 a1 a2) := by
 intro a0 a1 a2 k
 have ih0 := clavigerref07_Undo.mono_l k
 unfold clavigerref07_Undo.f
 repeat' first
   | (with_reducible exact ih0 _ _ _ _)
   | (with_reducible exact clavigerref06_Backs.mono _ _)
   | (with_reducible exact clavigerref07_Key.mono _ _ _)
   | (with_reducible exact clavigerref07_Unmix.mono _ _)
   | (with_reducible exact clavigerref07_Unshift.mono _ _)
   | (with_reducible exact LeO.refl _)
   | (with_reducible exact LeO.none _)
   | (with_reducible refine LeO.ite ?_ ?_)
   | (with_reducible refine LeO.bind ?_ (fun _ => ?_))
set_option maxHeartbeats 8000000 in
set_option maxRecDepth 100000 in
theorem clavigerref07_Undo.calls (k : Nat) (a0 : ByteArray) (a1 : ByteArray) (a2 : Bool) (r : ByteArray) (w : World) (h : clavigerref07_Undo.f k a0 a1 a2 = some r) :
  Calls Try.prog 85 #[.string a0, .string a1, .bool a2] w fun e w' => e = .returned (.string r) ∧ Below w.heap.size w w' := by
 have HB := Aside0.mk (Below.refl w.heap.size w)
 have H : ((clavigerref07_fits.f a0).bind fun t7 => (if t7 = true then ((clavigerref07_fits.f a1).bind fun t8 => (clavigerref07_Undo.j0 k a0 a1 a2 (!t8))) else (clavigerref07_Undo.j0 k a0 a1 a2 true))) = some r := h
 clear h
 have HC4 := Aside0.mk H
 clear H
 go_enter Try.func85, Try.ntmps85
 go_upto_region 1 with (fail)
 go_cut [15] (fun v15 wc => ∃ (kq : Nat) (x15_3 : Bool), v15 = .bool x15_3 ∧ Aside0 (clavigerref07_Undo.j0 kq a0 a1 a2 x15_3 = some r) ∧ Aside0 (kq ≤ k) ∧ Aside0 (Below w.heap.size w wc))
 case first =>
  have H := HC4.out
  clear HC4
  replace H := Option.bind_eq_some_iff.mp H
  obtain ⟨t7, A50, H⟩ := H
  try dsimp only at H
  have A5 := Aside0.mk A50
  clear A50
  by_cases c6 : t7 = true
  ·subst c6
   have H1 : ((clavigerref07_fits.f a1).bind fun t8 => (clavigerref07_Undo.j0 k a0 a1 a2 (!t8))) = some r := by rw [if_pos rfl] at H; exact H
   clear H
   have H := H1
   clear H1
   replace H := Option.bind_eq_some_iff.mp H
   obtain ⟨t8, A70, H⟩ := H
   replace H : (clavigerref07_Undo.j0 k a0 a1 a2 (!t8)) = some r := H
   have A7 := Aside0.mk A70
   clear A70
   have H' := Aside0.mk H
   clear H
   go_wp2_with (first | ((with_reducible refine gate_callee (f := 185) rfl ?_); refine goesL_ (some 9) rfl rfl Try.func185 (by kernel_rfl) rfl #[.string a0] rfl (by (try simp only [lT, lC, lN]); first | done | rfl) ?_; (with_reducible refine (clavigerref07_fits.calls a0 true _ A5.out).mono ?_); rintro e w' ⟨rfl, ⟨nd, rfl⟩⟩; refine ⟨_, rfl, ?_⟩) | (go_at_call 185; (with_reducible refine (clavigerref07_fits.calls a1 t8 _ A7.out).mono ?_); rintro e w' ⟨rfl, ⟨nd, rfl⟩⟩))
   go_meet
   case rel => exact ⟨_, (!t8), (by first | rfl | (simp; done) | (simp [*]; done)), H', ⟨by first | omega | exact Nat.le_refl _⟩, ⟨by repeat first | with_reducible (first | exact HB.out | apply bA | apply bN | apply bD) | exact HB.out⟩⟩
  ·replace c6 := Bool.eq_false_iff.mpr c6
   subst c6
   have H1 : (clavigerref07_Undo.j0 k a0 a1 a2 true) = some r := by rw [if_neg (show ¬ (false = true) by decide)] at H; exact H
   clear H
   have H := H1
   clear H1
   have H' := Aside0.mk H
   clear H
   go_wp2_with (first | ((with_reducible refine gate_callee (f := 185) rfl ?_); refine goesL_ (some 9) rfl rfl Try.func185 (by kernel_rfl) rfl #[.string a0] rfl (by (try simp only [lT, lC, lN]); first | done | rfl) ?_; (with_reducible refine (clavigerref07_fits.calls a0 false _ A5.out).mono ?_); rintro e w' ⟨rfl, ⟨nd, rfl⟩⟩; refine ⟨_, rfl, ?_⟩))
   go_meet
   case rel => exact ⟨_, (true), (by first | rfl | (simp; done) | (simp [*]; done)), H', ⟨by first | omega | exact Nat.le_refl _⟩, ⟨by repeat first | with_reducible (first | exact HB.out | apply bA | apply bN | apply bD) | exact HB.out⟩⟩
 case rest =>
  clear HC4
  try clear c1
  try clear p2
  try clear c6
  obtain ⟨kq, x15_3, rfl, HA, HJ3, HB⟩ := hcut
  cases kq with
  | zero => exact absurd HA.out (by simp [clavigerref07_Undo.j0])
  | succ kj3 =>
   have H := HA.out
   clear HA
   simp only [clavigerref07_Undo.j0] at H
   by_cases c8 : x15_3 = true
   ·subst c8
    have H1 : (some (⟨#[]⟩ : ByteArray)) = some r := by rw [if_pos rfl] at H; exact H
    clear H
    have H := H1
    clear H1
    obtain rfl := Option.some.inj H
    go_wp2
    go_ret
    exact ⟨by first | rfl | (simp [*, errW_none, errW_some] <;> rfl), by repeat first | with_reducible (first | exact HB.out | apply bA | apply bN | apply bD) | exact HB.out⟩
   ·replace c8 := Bool.eq_false_iff.mpr c8
    subst c8
    have H1 : ((clavigerref07_Key.f kj3 a0 a1).bind fun t1 => (if a2 = true then ((clavigerref07_Unshift.f kj3 t1).bind fun t2 => ((clavigerref06_Backs.f kj3 t2).bind fun t3 => (some t3))) else ((clavigerref07_Unmix.f kj3 t1).bind fun t4 => ((clavigerref07_Unshift.f kj3 t4).bind fun t5 => ((clavigerref06_Backs.f kj3 t5).bind fun t6 => (some t6)))))) = some r := by rw [if_neg (show ¬ (false = true) by decide)] at H; exact H
    clear H
    have H := H1
    clear H1
    replace H := Option.bind_eq_some_iff.mp H
    obtain ⟨t1, A90, H⟩ := H
    try dsimp only at H
    have A9 := Aside0.mk A90
    clear A90
    by_cases c10 : a2 = true
    ·subst c10
     have H1 : ((clavigerref07_Unshift.f kj3 t1).bind fun t2 => ((clavigerref06_Backs.f kj3 t2).bind fun t3 => (some t3))) = some r := by rw [if_pos rfl] at H; exact H
     clear H
     have H := H1
     clear H1
     replace H := Option.bind_eq_some_iff.mp H
     obtain ⟨t2, A110, H⟩ := H
     try dsimp only at H
     have A11 := Aside0.mk A110
     clear A110
     replace H := Option.bind_eq_some_iff.mp H
     obtain ⟨t3, A120, H⟩ := H
     replace H : (some t3) = some r := H
     have A12 := Aside0.mk A120
     clear A120
     obtain rfl := Option.some.inj H
     go_wp2_with (first | ((with_reducible refine gate_callee (f := 81) rfl ?_); refine goesL_ (some 18) rfl rfl Try.func81 (by kernel_rfl) rfl #[.string a0, .string a1] rfl (by (try simp only [lT, lC, lN]); first | done | rfl) ?_; (with_reducible refine (clavigerref07_Key.calls kj3 a0 a1 t1 _ A9.out).mono ?_); rintro e w13 ⟨rfl, hb⟩; refine ⟨_, rfl, ?_⟩; have n0_ := Aside0.mk (below_step (by repeat first | with_reducible (first | exact HB.out | apply bA | apply bN | apply bD) | exact HB.out) hb); clear HB; have HB := n0_; clear n0_; (try clear hb); (try clear hb2); (try clear hk); (try clear hi)) | ((with_reducible refine gate_callee (f := 78) rfl ?_); refine goesL_ (some 24) rfl rfl Try.func78 (by kernel_rfl) rfl #[.string t1] rfl (by (try simp only [lT, lC, lN]); first | done | rfl) ?_; (with_reducible refine (clavigerref07_Unshift.calls kj3 t1 t2 _ A11.out).mono ?_); rintro e w' ⟨rfl, ⟨nd, rfl⟩⟩; refine ⟨_, rfl, ?_⟩) | ((with_reducible refine gate_callee (f := 69) rfl ?_); refine goesL_ (some 25) rfl rfl Try.func69 (by kernel_rfl) rfl #[.string t2] rfl (by (try simp only [lT, lC, lN]); first | done | rfl) ?_; (with_reducible refine (clavigerref06_Backs.calls kj3 t2 t3 _ A12.out).mono ?_); rintro e w14 ⟨rfl, hb⟩; refine ⟨_, rfl, ?_⟩; have n0_ := Aside0.mk (below_step (by repeat first | with_reducible (first | exact HB.out | apply bA | apply bN | apply bD) | exact HB.out) hb); clear HB; have HB := n0_; clear n0_; (try clear hb); (try clear hb2); (try clear hk); (try clear hi)))
     go_ret
     exact ⟨by first | rfl | (simp [*, errW_none, errW_some] <;> rfl), by repeat first | with_reducible (first | exact HB.out | apply bA | apply bN | apply bD) | exact HB.out⟩
    ·replace c10 := Bool.eq_false_iff.mpr c10
     subst c10
     have H1 : ((clavigerref07_Unmix.f kj3 t1).bind fun t4 => ((clavigerref07_Unshift.f kj3 t4).bind fun t5 => ((clavigerref06_Backs.f kj3 t5).bind fun t6 => (some t6)))) = some r := by rw [if_neg (show ¬ (false = true) by decide)] at H; exact H
     clear H
     have H := H1
     clear H1
     replace H := Option.bind_eq_some_iff.mp H
     obtain ⟨t4, A150, H⟩ := H
     try dsimp only at H
     have A15 := Aside0.mk A150
     clear A150
     replace H := Option.bind_eq_some_iff.mp H
     obtain ⟨t5, A160, H⟩ := H
     try dsimp only at H
     have A16 := Aside0.mk A160
     clear A160
     replace H := Option.bind_eq_some_iff.mp H
     obtain ⟨t6, A170, H⟩ := H
     replace H : (some t6) = some r := H
     have A17 := Aside0.mk A170
     clear A170
     obtain rfl := Option.some.inj H
     go_wp2_with (first | ((with_reducible refine gate_callee (f := 81) rfl ?_); refine goesL_ (some 18) rfl rfl Try.func81 (by kernel_rfl) rfl #[.string a0, .string a1] rfl (by (try simp only [lT, lC, lN]); first | done | rfl) ?_; (with_reducible refine (clavigerref07_Key.calls kj3 a0 a1 t1 _ A9.out).mono ?_); rintro e w18 ⟨rfl, hb⟩; refine ⟨_, rfl, ?_⟩; have n0_ := Aside0.mk (below_step (by repeat first | with_reducible (first | exact HB.out | apply bA | apply bN | apply bD) | exact HB.out) hb); clear HB; have HB := n0_; clear n0_; (try clear hb); (try clear hb2); (try clear hk); (try clear hi)) | ((with_reducible refine gate_callee (f := 80) rfl ?_); refine goesL_ (some 22) rfl rfl Try.func80 (by kernel_rfl) rfl #[.string t1] rfl (by (try simp only [lT, lC, lN]); first | done | rfl) ?_; (with_reducible refine (clavigerref07_Unmix.calls kj3 t1 t4 _ A15.out).mono ?_); rintro e w19 ⟨rfl, hb⟩; refine ⟨_, rfl, ?_⟩; have n0_ := Aside0.mk (below_step (by repeat first | with_reducible (first | exact HB.out | apply bA | apply bN | apply bD) | exact HB.out) hb); clear HB; have HB := n0_; clear n0_; (try clear hb); (try clear hb2); (try clear hk); (try clear hi)) | ((with_reducible refine gate_callee (f := 78) rfl ?_); refine goesL_ (some 24) rfl rfl Try.func78 (by kernel_rfl) rfl #[.string t4] rfl (by (try simp only [lT, lC, lN]); first | done | rfl) ?_; (with_reducible refine (clavigerref07_Unshift.calls kj3 t4 t5 _ A16.out).mono ?_); rintro e w' ⟨rfl, ⟨nd, rfl⟩⟩; refine ⟨_, rfl, ?_⟩) | ((with_reducible refine gate_callee (f := 69) rfl ?_); refine goesL_ (some 25) rfl rfl Try.func69 (by kernel_rfl) rfl #[.string t5] rfl (by (try simp only [lT, lC, lN]); first | done | rfl) ?_; (with_reducible refine (clavigerref06_Backs.calls kj3 t5 t6 _ A17.out).mono ?_); rintro e w20 ⟨rfl, hb⟩; refine ⟨_, rfl, ?_⟩; have n0_ := Aside0.mk (below_step (by repeat first | with_reducible (first | exact HB.out | apply bA | apply bN | apply bD) | exact HB.out) hb); clear HB; have HB := n0_; clear n0_; (try clear hb); (try clear hb2); (try clear hk); (try clear hi)))
     go_ret
     exact ⟨by first | rfl | (simp [*, errW_none, errW_some] <;> rfl), by repeat first | with_reducible (first | exact HB.out | apply bA | apply bN | apply bD) | exact HB.out⟩

end Go.Proofs.Ytokkhnjedmlbhaa.Pr
