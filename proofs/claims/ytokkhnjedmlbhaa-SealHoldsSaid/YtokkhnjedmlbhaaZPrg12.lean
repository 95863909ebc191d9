-- written by the session's program wip/hp.py over the kit's print; Lean checks it
import Derived.Test.YtokkhnjedmlbhaaZPrg01x
import Derived.Test.YtokkhnjedmlbhaaZPrg01
import Derived.Test.YtokkhnjedmlbhaaZWordM
import Derived.Test.YtokkhnjedmlbhaaZCmac
import Derived.Test.YtokkhnjedmlbhaaZJoin
import Derived.Test.YtokkhnjedmlbhaaZSboxP
namespace Go.Proofs.Ytokkhnjedmlbhaa.Pr
open Go.RowKit Go.Proofs.YtokkhnjedmlbhaaW.PrintWords Go.Proofs.YtokkhnjedmlbhaaW.PrintLast Go.Proofs.YtokkhnjedmlbhaaW.PrintMore
attribute [local go_sem] max2_int min2_int max_two min_two max_three min_three max_four min_four   -- for this text's walks alone
set_option linter.unusedVariables false
set_option linter.unusedSimpArgs false

mutual
def clavigerref12_Rounds.j0 : Nat → Int → Bool → Option (Int)
 | 0, _, _ => none
 | k + 1, x0, x9 => if x9 = true then (some 0) else (clavigerref12_Rounds.l0 k x0 0)
def clavigerref12_Rounds.l0 : Nat → Int → Int → Option (Int)
 | 0, _, _ => none
 | k + 1, x0, x3 => if (wrap64 (16 * x3)) < x0 then (clavigerref12_Rounds.l0 k x0 (wrap64 (x3 + 1))) else (some x3)
end
def clavigerref12_Rounds.f (k : Nat) (a0 : Int) : Option (Int) := if a0 < 1 then (clavigerref12_Rounds.j0 k a0 true) else (clavigerref12_Rounds.j0 k a0 (decide (a0 > 4080)))
theorem clavigerref12_Rounds.mono_l : ∀ k, (∀ y1 y2, LeO (clavigerref12_Rounds.j0 k y1 y2) (clavigerref12_Rounds.j0 (k + 1) y1 y2)) ∧ (∀ y1 y2, LeO (clavigerref12_Rounds.l0 k y1 y2) (clavigerref12_Rounds.l0 (k + 1) y1 y2))
 | 0 => ⟨fun _ _ r h => by simp [clavigerref12_Rounds.j0] at h, fun _ _ r h => by simp [clavigerref12_Rounds.l0] at h⟩
 | k + 1 => by
  obtain ⟨ih0, ih1⟩ := clavigerref12_Rounds.mono_l k
  refine ⟨?_, ?_⟩
  ·intro y1 y2
   unfold clavigerref12_Rounds.j0
   repeat' first
   | (with_reducible exact ih0 _ _)
   | (with_reducible exact ih1 _ _)
   | (with_reducible exact LeO.refl _)
   | (with_reducible exact LeO.none _)
   | (with_reducible refine LeO.ite ?_ ?_)
   | (with_reducible refine LeO.bind ?_ (fun _ => ?_))
  ·intro y1 y2
   unfold clavigerref12_Rounds.l0
   repeat' first
   | (with_reducible exact ih0 _ _)
   | (with_reducible exact ih1 _ _)
   | (with_reducible exact LeO.refl _)
   | (with_reducible exact LeO.none _)
   | (with_reducible refine LeO.ite ?_ ?_)
   | (with_reducible refine LeO.bind ?_ (fun _ => ?_))
theorem clavigerref12_Rounds.mono : ∀ a0 k, LeO (clavigerref12_Rounds.f k a0) (clavigerref12_Rounds.f (k + 1) a0) := by
 intro a0 k
 obtain ⟨ih0, ih1⟩ := clavigerref12_Rounds.mono_l k
 unfold clavigerref12_Rounds.f
 repeat' first
   | (with_reducible exact ih0 _ _)
   | (with_reducible exact ih1 _ _)
   | (with_reducible exact LeO.refl _)
   | (with_reducible exact LeO.none _)
   | (with_reducible refine LeO.ite ?_ ?_)
   | (with_reducible refine LeO.bind ?_ (fun _ => ?_))
set_option maxHeartbeats 8000000 in
set_option maxRecDepth 100000 in
theorem clavigerref12_Rounds.calls (k : Nat) (a0 : Int) (r : Int) (w : World) (h : clavigerref12_Rounds.f k a0 = some r) :
  Calls Try.prog 124 #[.int .i64 a0] w fun e w' => e = .returned (.int .i64 r) ∧ Drawn0 w w' := by
 have H : (if a0 < 1 then (clavigerref12_Rounds.j0 k a0 true) else (clavigerref12_Rounds.j0 k a0 (decide (a0 > 4080)))) = some r := h
 clear h
 have HC2 := Aside0.mk H
 clear H
 go_enter Try.func124, Try.ntmps124
 go_upto_region 1 with (fail)
 go_cut [9] (fun v9 wc => ∃ (kq : Nat) (x9_1 : Bool), v9 = .bool x9_1 ∧ Aside0 (clavigerref12_Rounds.j0 kq a0 x9_1 = some r) ∧ Aside0 (kq ≤ k) ∧ Drawn0 w wc)
 case first =>
  have H := HC2.out
  clear HC2
  by_cases c3 : a0 < 1
  ·rw [if_pos c3] at H
   have c3b0 : decide (a0 < 1) = true := decide_eq_true c3
   clear c3
   (first | rw [c3b0] | (simp only [i64_w, i32_w]; rw [c3b0]) | skip)
   have H' := Aside0.mk H
   clear H
   go_wp2
   go_meet
   case rel => exact ⟨_, (true), (by first | rfl | (simp; done) | (simp [*]; done)), H', ⟨by first | omega | exact Nat.le_refl _⟩, by repeat (first | exact Drawn0.refl _ | apply Drawn0.step)⟩
  ·rw [if_neg c3] at H
   have c3b0 : decide (a0 < 1) = false := decide_eq_false c3
   clear c3
   (first | rw [c3b0] | (simp only [i64_w, i32_w]; rw [c3b0]) | skip)
   have H' := Aside0.mk H
   clear H
   go_wp2
   go_meet
   case rel => exact ⟨_, (decide (a0 > 4080)), (by first | rfl | (simp; done) | (simp [*]; done)), H', ⟨by first | omega | exact Nat.le_refl _⟩, by repeat (first | exact Drawn0.refl _ | apply Drawn0.step)⟩
 case rest =>
  clear HC2
  try clear c1
  try clear p2
  try clear c3
  try clear c3b0
  obtain ⟨kq, x9_1, rfl, HA, HJ1, ⟨mc1, rfl⟩⟩ := hcut
  cases kq with
  | zero => exact absurd HA.out (by simp [clavigerref12_Rounds.j0])
  | succ kj1 =>
   have H := HA.out
   clear HA
   simp only [clavigerref12_Rounds.j0] at H
   by_cases c4 : x9_1 = true
   ·subst c4
    have H1 : (some 0) = some r := by rw [if_pos rfl] at H; exact H
    clear H
    have H := H1
    clear H1
    obtain rfl := Option.some.inj H
    go_wp2
    go_ret
    exact ⟨by first | rfl | (simp; done) | (simp [*]; done) | (simp [IntKind.wrap_u8, IntKind.wrap_i64, wrap64]; done), by repeat (first | exact Drawn0.refl _ | apply Drawn0.step)⟩
   ·replace c4 := Bool.eq_false_iff.mpr c4
    subst c4
    have H1 : (clavigerref12_Rounds.l0 kj1 a0 0) = some r := by rw [if_neg (show ¬ (false = true) by decide)] at H; exact H
    clear H
    have H := H1
    clear H1
    have H' := Aside0.mk H
    clear H
    go_wp2
    go_loopg [3] kj1 (fun kq v3 w' => ∃ (x3_2 : Int), v3 = .int .i64 x3_2 ∧ Aside0 (clavigerref12_Rounds.l0 kq a0 x3_2 = some r) ∧ Aside0 (kq ≤ kj1) ∧ Drawn0 w w')
    case atStart => exact ⟨(0), (by first | rfl | (simp; done) | (simp [*]; done)), H', ⟨Nat.le_refl _⟩, by repeat (first | exact Drawn0.refl _ | apply Drawn0.step)⟩
    case round =>
     clear H'
     try clear c1
     try clear p2
     try clear c3
     try clear c3b0
     try clear c4
     try clear p2
     obtain ⟨x3_2, rfl, HA, HK2, ⟨m2, rfl⟩⟩ := hrel
     cases gk with
     | zero => exact absurd HA.out (by simp [clavigerref12_Rounds.l0])
     | succ k2 =>
      have H := HA.out
      clear HA
      simp only [clavigerref12_Rounds.l0] at H
      by_cases c5 : (wrap64 (16 * x3_2)) < a0
      ·rw [if_pos c5] at H
       have c5b0 : decide ((wrap64 (16 * x3_2)) < a0) = true := decide_eq_true c5
       clear c5
       have H' := Aside0.mk H
       clear H
       go_wp2
       go_roundg k2
       case measure => have := HJ1.out; have := HK2.out; omega
       case rel => exact ⟨(wrap64 (x3_2 + 1)), (by first | rfl | (simp; done) | (simp [*]; done)), H', ⟨by have := HJ1.out; have := HK2.out; omega⟩, by repeat (first | exact Drawn0.refl _ | apply Drawn0.step)⟩
      ·rw [if_neg c5] at H
       have c5b0 : decide ((wrap64 (16 * x3_2)) < a0) = false := decide_eq_false c5
       clear c5
       obtain rfl := Option.some.inj H
       go_wp2
       go_ret
       exact ⟨by first | rfl | (simp; done) | (simp [*]; done) | (simp [IntKind.wrap_u8, IntKind.wrap_i64, wrap64]; done), by repeat (first | exact Drawn0.refl _ | apply Drawn0.step)⟩

mutual
def clavigerref12_Counter.j0 : Nat → ByteArray → ByteArray → Int → Bool → Option (ByteArray × Int)
 | 0, _, _, _, _ => none
 | k + 1, x0, x1, x2, x24 => if x24 = true then (some ((⟨#[]⟩ : ByteArray), 2)) else ((clavigerref12_Rounds.f k x2).bind fun t1 => (if t1 = 0 then (some ((⟨#[]⟩ : ByteArray), 4)) else (clavigerref12_Counter.l0 k x0 x1 x2 (⟨#[]⟩ : ByteArray) 1)))
def clavigerref12_Counter.l0 : Nat → ByteArray → ByteArray → Int → ByteArray → Int → Option (ByteArray × Int)
 | 0, _, _, _, _, _ => none
 | k + 1, x0, x1, x2, x8, x9 => (clavigerref12_Rounds.f k x2).bind fun t2 => (if x9 ≤ t2 then ((some (([(x9) % 256] : List Int) : List Int)).bind fun y3 => (if (strOfNums y3).size + x1.size ≤ 9223372036854775807 then ((clavigerref11_Tag.f k x0 ((strOfNums y3) ++ x1)).bind fun bt4 => (if x8.size + bt4.1.size ≤ 9223372036854775807 then (clavigerref12_Counter.l0 k x0 x1 x2 (x8 ++ bt4.1) (wrap64 (x9 + 1))) else (none))) else (none))) else (if 0 ≤ x2 then (if x2 ≤ (x8.size : Int) then (some (x8.extract 0 (x2 : Int).toNat, 0)) else (none)) else (none)))
end
def clavigerref12_Counter.f (k : Nat) (a0 : ByteArray) (a1 : ByteArray) (a2 : Int) : Option (ByteArray × Int) := if (a0.size : Int) = 16 then (clavigerref12_Counter.j0 k a0 a1 a2 false) else (if (a0.size : Int) = 24 then (clavigerref12_Counter.j0 k a0 a1 a2 false) else (clavigerref12_Counter.j0 k a0 a1 a2 ((a0.size : Int) != 32)))
theorem clavigerref12_Counter.mono_l : ∀ k, (∀ y5 y6 y7 y8, LeO (clavigerref12_Counter.j0 k y5 y6 y7 y8) (clavigerref12_Counter.j0 (k + 1) y5 y6 y7 y8)) ∧ (∀ y5 y6 y7 y8 y9, LeO (clavigerref12_Counter.l0 k y5 y6 y7 y8 y9) (clavigerref12_Counter.l0 (k + 1) y5 y6 y7 y8 y9))
 | 0 => ⟨fun _ _ _ _ r h => by simp [clavigerref12_Counter.j0] at h, fun _ _ _ _ _ r h => by simp [clavigerref12_Counter.l0] at h⟩
 | k + 1 => by
  obtain ⟨ih0, ih1⟩ := clavigerref12_Counter.mono_l k
  refine ⟨?_, ?_⟩
  ·intro y5 y6 y7 y8
   unfold clavigerref12_Counter.j0
   repeat' first
   | (with_reducible exact ih0 _ _ _ _)
   | (with_reducible exact ih1 _ _ _ _ _)
   | (with_reducible exact clavigerref11_Tag.mono _ _ _)
   | (with_reducible exact clavigerref12_Rounds.mono _ _)
   | (with_reducible exact LeO.refl _)
   | (with_reducible exact LeO.none _)
   | (with_reducible refine LeO.ite ?_ ?_)
   | (with_reducible refine LeO.bind ?_ (fun _ => ?_))
  ·intro y5 y6 y7 y8 y9
   unfold clavigerref12_Counter.l0
   repeat' first
   | (with_reducible exact ih0 _ _ _ _)
   | (with_reducible exact ih1 _ _ _ _ _)
   | (with_reducible exact clavigerref11_Tag.mono _ _ _)
   | (with_reducible exact clavigerref12_Rounds.mono _ _)
   | (with_reducible exact LeO.refl _)
   | (with_reducible exact LeO.none _)
   | (with_reducible refine LeO.ite ?_ ?_)
   | (with_reducible refine LeO.bind ?_ (fun _ => ?_))
theorem clavigerref12_Counter.mono : ∀ a0 a1 a2 k, LeO (clavigerref12_Counter.f k a0 a1 a2) (clavigerref12_Counter.f (k + 1) a0 a1 a2) := by
 intro a0 a1 a2 k
 obtain ⟨ih0, ih1⟩ := clavigerref12_Counter.mono_l k
 unfold clavigerref12_Counter.f
 repeat' first
   | (with_reducible exact ih0 _ _ _ _)
   | (with_reducible exact ih1 _ _ _ _ _)
   | (with_reducible exact clavigerref11_Tag.mono _ _ _)
   | (with_reducible exact clavigerref12_Rounds.mono _ _)
   | (with_reducible exact LeO.refl _)
   | (with_reducible exact LeO.none _)
   | (with_reducible refine LeO.ite ?_ ?_)
   | (with_reducible refine LeO.bind ?_ (fun _ => ?_))
set_option maxHeartbeats 8000000 in
set_option maxRecDepth 100000 in
theorem clavigerref12_Counter.calls (k : Nat) (a0 : ByteArray) (a1 : ByteArray) (a2 : Int) (r1 : ByteArray) (r2 : Int) (w : World) (h : clavigerref12_Counter.f k a0 a1 a2 = some (r1, r2)) :
  Calls Try.prog 127 #[.string a0, .string a1, .int .i64 a2] w fun e w' => e = .returned (.tuple #[.string r1, .int .i64 r2]) ∧ Below w.heap.size w w' := by
 have HB := Aside0.mk (Below.refl w.heap.size w)
 have H : (if (a0.size : Int) = 16 then (clavigerref12_Counter.j0 k a0 a1 a2 false) else (if (a0.size : Int) = 24 then (clavigerref12_Counter.j0 k a0 a1 a2 false) else (clavigerref12_Counter.j0 k a0 a1 a2 ((a0.size : Int) != 32)))) = some (r1, r2) := h
 clear h
 have HC4 := Aside0.mk H
 clear H
 go_enter Try.func127, Try.ntmps127
 go_upto_region 1 with (fail)
 go_cut [24] (fun v24 wc => ∃ (kq : Nat) (x24_3 : Bool), v24 = .bool x24_3 ∧ Aside0 (clavigerref12_Counter.j0 kq a0 a1 a2 x24_3 = some (r1, r2)) ∧ Aside0 (kq ≤ k) ∧ Aside0 (Below w.heap.size w wc))
 case first =>
  have H := HC4.out
  clear HC4
  by_cases c5 : (a0.size : Int) = 16
  ·rw [if_pos c5] at H
   have c5b0 : ((a0.size : Int) == 16) = true := beq_iff_eq.mpr c5
   have c5b1 : ((a0.size : Int) != 16) = false := bne_eq_false_iff_eq.mpr c5
   clear c5
   (first | rw [c5b0] | (simp only [i64_w, i32_w]; rw [c5b0]) | skip)
   have H' := Aside0.mk H
   clear H
   go_wp2
   go_meet
   case rel => exact ⟨_, (false), (by first | rfl | (simp; done) | (simp [*]; done)), H', ⟨by first | omega | exact Nat.le_refl _⟩, ⟨by repeat first | with_reducible (first | exact HB.out | apply bA | apply bN | apply bD) | exact HB.out⟩⟩
  ·rw [if_neg c5] at H
   have c5b0 : ((a0.size : Int) == 16) = false := beq_eq_false_iff_ne.mpr c5
   have c5b1 : ((a0.size : Int) != 16) = true := bne_iff_ne.mpr c5
   (first | rw [c5b0] | (simp only [i64_w, i32_w]; rw [c5b0]) | skip)
   by_cases c6 : (a0.size : Int) = 24
   ·rw [if_pos c6] at H
    have c6b0 : ((a0.size : Int) == 24) = true := beq_iff_eq.mpr c6
    have c6b1 : ((a0.size : Int) != 24) = false := bne_eq_false_iff_eq.mpr c6
    clear c6
    have H' := Aside0.mk H
    clear H
    go_wp2
    go_meet
    case rel => exact ⟨_, (false), (by first | rfl | (simp; done) | (simp [*]; done)), H', ⟨by first | omega | exact Nat.le_refl _⟩, ⟨by repeat first | with_reducible (first | exact HB.out | apply bA | apply bN | apply bD) | exact HB.out⟩⟩
   ·rw [if_neg c6] at H
    have c6b0 : ((a0.size : Int) == 24) = false := beq_eq_false_iff_ne.mpr c6
    have c6b1 : ((a0.size : Int) != 24) = true := bne_iff_ne.mpr c6
    have H' := Aside0.mk H
    clear H
    go_wp2
    go_meet
    case rel => exact ⟨_, (((a0.size : Int) != 32)), (by first | rfl | (simp; done) | (simp [*]; done)), H', ⟨by first | omega | exact Nat.le_refl _⟩, ⟨by repeat first | with_reducible (first | exact HB.out | apply bA | apply bN | apply bD) | exact HB.out⟩⟩
 case rest =>
  clear HC4
  try clear c1
  try clear p2
  try clear c5
  try clear c5b0
  try clear c5b1
  try clear c6
  try clear c6b0
  try clear c6b1
  obtain ⟨kq, x24_3, rfl, HA, HJ3, HB⟩ := hcut
  cases kq with
  | zero => exact absurd HA.out (by simp [clavigerref12_Counter.j0])
  | succ kj3 =>
   have H := HA.out
   clear HA
   simp only [clavigerref12_Counter.j0] at H
   by_cases c7 : x24_3 = true
   ·subst c7
    have H1 : (some ((⟨#[]⟩ : ByteArray), 2)) = some (r1, r2) := by rw [if_pos rfl] at H; exact H
    clear H
    have H := H1
    clear H1
    simp only [Option.some.injEq, Prod.mk.injEq] at H
    obtain ⟨rfl, rfl⟩ := H
    go_wp2
    go_ret2
    exact ⟨by first | rfl | (simp [*, errW_none, errW_some] <;> rfl), by repeat first | with_reducible (first | exact HB.out | apply bA | apply bN | apply bD) | exact HB.out⟩
   ·replace c7 := Bool.eq_false_iff.mpr c7
    subst c7
    have H1 : ((clavigerref12_Rounds.f kj3 a2).bind fun t1 => (if t1 = 0 then (some ((⟨#[]⟩ : ByteArray), 4)) else (clavigerref12_Counter.l0 kj3 a0 a1 a2 (⟨#[]⟩ : ByteArray) 1))) = some (r1, r2) := by rw [if_neg (show ¬ (false = true) by decide)] at H; exact H
    clear H
    have H := H1
    clear H1
    replace H := Option.bind_eq_some_iff.mp H
    obtain ⟨t1, A80, H⟩ := H
    try dsimp only at H
    have A8 := Aside0.mk A80
    clear A80
    by_cases c9 : t1 = 0
    ·rw [if_pos c9] at H
     have c9b0 : (t1 == 0) = true := beq_iff_eq.mpr c9
     have c9b1 : (t1 != 0) = false := bne_eq_false_iff_eq.mpr c9
     clear c9
     simp only [Option.some.injEq, Prod.mk.injEq] at H
     obtain ⟨rfl, rfl⟩ := H
     go_wp2_with (first | ((with_reducible refine gate_callee (f := 124) rfl ?_); refine goesL_ (some 26) rfl rfl Try.func124 (by kernel_rfl) rfl #[.int .i64 a2] rfl (by (try simp only [lT, lC, lN]); first | done | rfl) ?_; (with_reducible refine (clavigerref12_Rounds.calls kj3 a2 t1 _ A8.out).mono ?_); rintro e w' ⟨rfl, ⟨nd, rfl⟩⟩; refine ⟨_, rfl, ?_⟩))
     go_ret2
     exact ⟨by first | rfl | (simp [*, errW_none, errW_some] <;> rfl), by repeat first | with_reducible (first | exact HB.out | apply bA | apply bN | apply bD) | exact HB.out⟩
    ·rw [if_neg c9] at H
     have c9b0 : (t1 == 0) = false := beq_eq_false_iff_ne.mpr c9
     have c9b1 : (t1 != 0) = true := bne_iff_ne.mpr c9
     have H' := Aside0.mk H
     clear H
     go_wp2_with (first | ((with_reducible refine gate_callee (f := 124) rfl ?_); refine goesL_ (some 26) rfl rfl Try.func124 (by kernel_rfl) rfl #[.int .i64 a2] rfl (by (try simp only [lT, lC, lN]); first | done | rfl) ?_; (with_reducible refine (clavigerref12_Rounds.calls kj3 a2 t1 _ A8.out).mono ?_); rintro e w' ⟨rfl, ⟨nd, rfl⟩⟩; refine ⟨_, rfl, ?_⟩))
     go_loopg [8, 9] kj3 (fun kq v8 v9 w' => ∃ (x8_2 : ByteArray) (x9_2 : Int), v8 = .string x8_2 ∧ v9 = .int .i64 x9_2 ∧ Aside0 (clavigerref12_Counter.l0 kq a0 a1 a2 x8_2 x9_2 = some (r1, r2)) ∧ Aside0 (kq ≤ kj3) ∧ Aside0 (Below w.heap.size w w'))
     case atStart => exact ⟨((⟨#[]⟩ : ByteArray)), (1), (by first | rfl | (simp; done) | (simp [*]; done)), (by first | rfl | (simp; done) | (simp [*]; done)), H', ⟨Nat.le_refl _⟩, ⟨by repeat first | with_reducible (first | exact HB.out | apply bA | apply bN | apply bD) | exact HB.out⟩⟩
     case round =>
      clear H'
      try clear c1
      try clear p2
      try clear c5
      try clear c5b0
      try clear c5b1
      try clear c6
      try clear c6b0
      try clear c6b1
      try clear c7
      try clear c9
      try clear c9b0
      try clear c9b1
      try clear p2
      obtain ⟨x8_2, x9_2, rfl, rfl, HA, HK2, HB⟩ := hrel
      cases gk with
      | zero => exact absurd HA.out (by simp [clavigerref12_Counter.l0])
      | succ k2 =>
       have H := HA.out
       clear HA
       simp only [clavigerref12_Counter.l0] at H
       replace H := Option.bind_eq_some_iff.mp H
       obtain ⟨t2, A100, H⟩ := H
       try dsimp only at H
       have A10 := Aside0.mk A100
       clear A100
       by_cases c11 : x9_2 ≤ t2
       ·rw [if_pos c11] at H
        have c11b0 : decide (x9_2 ≤ t2) = true := decide_eq_true c11
        clear c11
        obtain ⟨y3, hy3⟩ : ∃ y_ : List Int, y_ = (([(x9_2) % 256] : List Int)) := ⟨_, rfl⟩
        replace H : (if (strOfNums y3).size + a1.size ≤ 9223372036854775807 then ((clavigerref11_Tag.f k2 a0 ((strOfNums y3) ++ a1)).bind fun bt4 => (if x8_2.size + bt4.1.size ≤ 9223372036854775807 then (clavigerref12_Counter.l0 k2 a0 a1 a2 (x8_2 ++ bt4.1) (wrap64 (x9_2 + 1))) else (none))) else (none)) = some (r1, r2) := by first | (rw [hy3]; with_reducible exact H) | (have H2_ := (Option.bind_some _ _).symm.trans H; rw [hy3]; with_reducible exact H2_) | (have H2_ := (Option.bind_some _ _).symm.trans H; with_reducible exact H2_) | with_reducible exact H | (rw [hy3]; exact H) | exact H
        have Ny5001 := Aside0.mk hy3
        clear hy3
        by_cases c12 : (strOfNums y3).size + a1.size ≤ 9223372036854775807
        ·rw [if_pos c12] at H
         have c12b0 := eq_true c12
         have c12b1 : decide ((strOfNums y3).size + a1.size ≤ 9223372036854775807) = true := decide_eq_true c12
         try have c12b2 : (9223372036854775807 < (strOfNums y3).size + a1.size) = False := eq_false (Nat.not_lt.2 c12)
         replace H := Option.bind_eq_some_iff.mp H
         obtain ⟨⟨t4, t10⟩, A130, H⟩ := H
         try dsimp only at H
         have A13 := Aside0.mk A130
         clear A130
         by_cases c14 : x8_2.size + t4.size ≤ 9223372036854775807
         ·rw [if_pos c14] at H
          have c14b0 := eq_true c14
          have c14b1 : decide (x8_2.size + t4.size ≤ 9223372036854775807) = true := decide_eq_true c14
          try have c14b2 : (9223372036854775807 < x8_2.size + t4.size) = False := eq_false (Nat.not_lt.2 c14)
          have H' := Aside0.mk H
          clear H
          go_wp2_with (first | ((with_reducible refine gate_callee (f := 124) rfl ?_); refine goesL_ (some 30) rfl rfl Try.func124 (by kernel_rfl) rfl #[.int .i64 a2] rfl (by (try simp only [lT, lC, lN]); first | done | rfl) ?_; (with_reducible refine (clavigerref12_Rounds.calls k2 a2 t2 _ A10.out).mono ?_); rintro e w' ⟨rfl, ⟨nd, rfl⟩⟩; refine ⟨_, rfl, ?_⟩) | ((with_reducible refine gate_dst (N := 38) rfl ?_); (try (refine gate_guard (by rfl) ?_; dsimp only)); refine Kd.R_lit (Kd.int .u8) _ 5 ?hg (N := 38) ?hd (xs := ([(x9_2) % 256] : List Int)) (inner := [.int .u8 ((x9_2) % 256)]) (ok := fun _ => True) (okp := fun _ => True) ?hr ?hp (fun _ hk => hk) trivial (Below.refl _ _) (Nat.le_refl _) (by simp) ?_; (case hd => rfl); (case hg => rfl); (case hr => first | (go_simp; done) | (go_simp; rfl)); (case hp => exact (Reps.one (show Kd.M (Kd.int .u8) _ _ _ ((x9_2) % 256) [.int .u8 ((x9_2) % 256)] from rfl) (Reps.none _ _))); intro v304 w15 ho16 hb hg_ hnew_; clear hg_ hnew_; (first | rw [← Ny5001.out] at ho16 | (simp only [Int.reduceToNat] at ho16; rw [← Ny5001.out] at ho16)); have n0_ := Aside0.mk (Kd.R_lower ho16 (below_size (by repeat first | with_reducible (first | exact HB.out | apply bA | apply bN | apply bD) | exact HB.out))); have n1_ := Aside0.mk (below_step (by repeat first | with_reducible (first | exact HB.out | apply bA | apply bN | apply bD) | exact HB.out) hb); clear HB; have HO305 := n0_; have HB := n1_; clear n0_ n1_; clear hb ho16; have hcv17 := own_string (P := Try.prog) Try.underlying66 Try.underlying5 Try.underlying9 (Kd.own_of_R HO305.out)) | ((with_reducible refine gate_callee (f := 74) rfl ?_); refine goesL_ (some 42) rfl rfl Try.func74 (by kernel_rfl) rfl #[.string a0, .string ((strOfNums y3) ++ a1)] rfl (by (try simp only [lT, lC, lN]); first | done | rfl) ?_; (with_reducible refine (clavigerref11_Tag.calls k2 a0 ((strOfNums y3) ++ a1) t4 t10 _ A13.out).mono ?_); rintro e w18 ⟨rfl, hb⟩; refine ⟨_, rfl, ?_⟩; have n0_ := Aside0.mk (Kd.R_below (by (with_reducible repeat (first | apply Kd.R_alloc | apply Kd.R_drewN | apply Kd.R_drew)); exact HO305.out) hb); have n1_ := Aside0.mk (below_step (by repeat first | with_reducible (first | exact HB.out | apply bA | apply bN | apply bD) | exact HB.out) hb); clear HO305; clear HB; have HO305 := n0_; have HB := n1_; clear n0_ n1_; (try clear hb); (try clear hb2); (try clear hk); (try clear hi)))
          go_roundg k2
          case measure => have := HJ3.out; have := HK2.out; omega
          case rel => exact ⟨(x8_2 ++ t4), (wrap64 (x9_2 + 1)), (by first | rfl | (simp; done) | (simp [*]; done)), (by first | rfl | (simp; done) | (simp [*]; done)), H', ⟨by have := HJ3.out; have := HK2.out; omega⟩, ⟨by repeat first | with_reducible (first | exact HB.out | apply bA | apply bN | apply bD) | exact HB.out⟩⟩
         ·rw [if_neg c14] at H
          exact absurd H (by simp)
        ·rw [if_neg c12] at H
         exact absurd H (by simp)
       ·rw [if_neg c11] at H
        have c11b0 : decide (x9_2 ≤ t2) = false := decide_eq_false c11
        clear c11
        by_cases c19 : 0 ≤ a2
        ·rw [if_pos c19] at H
         have c19b0 := eq_true c19
         have c19b1 : decide (0 ≤ a2) = true := decide_eq_true c19
         clear c19
         by_cases c20 : a2 ≤ (x8_2.size : Int)
         ·rw [if_pos c20] at H
          have c20b0 := eq_true c20
          have c20b1 : decide (a2 ≤ (x8_2.size : Int)) = true := decide_eq_true c20
          clear c20
          simp only [Option.some.injEq, Prod.mk.injEq] at H
          obtain ⟨rfl, rfl⟩ := H
          go_wp2_with (first | ((with_reducible refine gate_callee (f := 124) rfl ?_); refine goesL_ (some 30) rfl rfl Try.func124 (by kernel_rfl) rfl #[.int .i64 a2] rfl (by (try simp only [lT, lC, lN]); first | done | rfl) ?_; (with_reducible refine (clavigerref12_Rounds.calls k2 a2 t2 _ A10.out).mono ?_); rintro e w' ⟨rfl, ⟨nd, rfl⟩⟩; refine ⟨_, rfl, ?_⟩))
          go_ret2
          exact ⟨by first | rfl | (simp [*, errW_none, errW_some] <;> rfl), by repeat first | with_reducible (first | exact HB.out | apply bA | apply bN | apply bD) | exact HB.out⟩
         ·rw [if_neg c20] at H
          exact absurd H (by simp)
        ·rw [if_neg c19] at H
         exact absurd H (by simp)

def kdf_Rounds.f (a0 : Int) : Option (Int) := if a0 < 1 then (some 0) else (if a0 > 4080 then (some 0) else (some (wrap64 (Int.tdiv (wrap64 (a0 + 15)) 16))))
set_option maxHeartbeats 8000000 in
set_option maxRecDepth 100000 in
theorem kdf_Rounds.calls (a0 : Int) (r : Int) (w : World) (h : kdf_Rounds.f a0 = some r) :
  Calls Try.prog 123 #[.int .i64 a0] w fun e w' => e = .returned (.int .i64 r) ∧ Drawn0 w w' := by
 have H : (if a0 < 1 then (some 0) else (if a0 > 4080 then (some 0) else (some (wrap64 (Int.tdiv (wrap64 (a0 + 15)) 16))))) = some r := h
 clear h
 by_cases c2 : a0 < 1
 ·rw [if_pos c2] at H
  have c2b0 : decide (a0 < 1) = true := decide_eq_true c2
  clear c2
  obtain rfl := Option.some.inj H
  go_enter Try.func123, Try.ntmps123
  go_wp2
  go_ret
  exact ⟨by first | rfl | (simp; done) | (simp [*]; done) | (simp [IntKind.wrap_u8, IntKind.wrap_i64, wrap64]; done), by repeat (first | exact Drawn0.refl _ | apply Drawn0.step)⟩
 ·rw [if_neg c2] at H
  have c2b0 : decide (a0 < 1) = false := decide_eq_false c2
  clear c2
  by_cases c3 : a0 > 4080
  ·rw [if_pos c3] at H
   have c3b0 : decide (4080 < a0) = true := decide_eq_true c3
   clear c3
   obtain rfl := Option.some.inj H
   go_enter Try.func123, Try.ntmps123
   go_wp2
   go_ret
   exact ⟨by first | rfl | (simp; done) | (simp [*]; done) | (simp [IntKind.wrap_u8, IntKind.wrap_i64, wrap64]; done), by repeat (first | exact Drawn0.refl _ | apply Drawn0.step)⟩
  ·rw [if_neg c3] at H
   have c3b0 : decide (4080 < a0) = false := decide_eq_false c3
   clear c3
   obtain rfl := Option.some.inj H
   go_enter Try.func123, Try.ntmps123
   go_wp2
   go_ret
   exact ⟨by first | rfl | (simp; done) | (simp [*]; done) | (simp [IntKind.wrap_u8, IntKind.wrap_i64, wrap64]; done), by repeat (first | exact Drawn0.refl _ | apply Drawn0.step)⟩

def kdf_Counter.l0 : Nat → ByteArray → ByteArray → Int → List ByteArray → Int → Int → Option (ByteArray × Int)
 | 0, _, _, _, _, _, _ => none
 | k + 1, x0, x1, x2, x8, x28, x29 => if x29 < x28 then ((octets_Put.f (IntKind.u64.wrap (wrap64 (x29 + 1))) 1).bind fun t1 => ((octets_Join.f (([t1, x1] : List ByteArray))).bind fun t2 => ((cmac_Tag.f x0 t2).bind fun bt3 => (if x8.length < 8796093022208 then (kdf_Counter.l0 k x0 x1 x2 (x8 ++ [bt3.1]) x28 (wrap64 (x29 + 1))) else (none))))) else ((octets_Join.f x8).bind fun t4 => ((octets_Cut.f t4 0 x2).bind fun t5 => (some (t5, 0))))
def kdf_Counter.f (k : Nat) (a0 : ByteArray) (a1 : ByteArray) (a2 : Int) : Option (ByteArray × Int) := (cmac_Tag.f a0 (⟨#[]⟩ : ByteArray)).bind fun bt6 => (if bt6.2 = 0 then ((kdf_Rounds.f a2).bind fun t7 => (if t7 = 0 then (some ((⟨#[]⟩ : ByteArray), 4)) else (kdf_Counter.l0 k a0 a1 a2 (([] : List ByteArray)) t7 0))) else (some ((⟨#[]⟩ : ByteArray), bt6.2)))
theorem kdf_Counter.mono_l : ∀ k, (∀ y8 y9 y10 y11 y12 y13, LeO (kdf_Counter.l0 k y8 y9 y10 y11 y12 y13) (kdf_Counter.l0 (k + 1) y8 y9 y10 y11 y12 y13))
 | 0 => fun _ _ _ _ _ _ r h => by simp [kdf_Counter.l0] at h
 | k + 1 => by
  have ih0 := kdf_Counter.mono_l k
  ·intro y8 y9 y10 y11 y12 y13
   unfold kdf_Counter.l0
   repeat' first
   | (with_reducible exact ih0 _ _ _ _ _ _)
   | (with_reducible exact LeO.refl _)
   | (with_reducible exact LeO.none _)
   | (with_reducible refine LeO.ite ?_ ?_)
   | (with_reducible refine LeO.bind ?_ (fun _ => ?_))
theorem kdf_Counter.mono : ∀ a0 a1 a2 k, LeO (kdf_Counter.f k a0 a1 a2) (kdf_Counter.f (k + 1) a0 a1 a2) := by
 intro a0 a1 a2 k
 have ih0 := kdf_Counter.mono_l k
 unfold kdf_Counter.f
 repeat' first
   | (with_reducible exact ih0 _ _ _ _ _ _)
   | (with_reducible exact LeO.refl _)
   | (with_reducible exact LeO.none _)
   | (with_reducible refine LeO.ite ?_ ?_)
   | (with_reducible refine LeO.bind ?_ (fun _ => ?_))
set_option maxHeartbeats 8000000 in
set_option maxRecDepth 100000 in
theorem kdf_Counter.calls (k : Nat) (a0 : ByteArray) (a1 : ByteArray) (a2 : Int) (r1 : ByteArray) (r2 : Int) (w : World) (h : kdf_Counter.f k a0 a1 a2 = some (r1, r2)) :
  Calls Try.prog 126 #[.string a0, .string a1, .int .i64 a2] w fun e w' => e = .returned (.tuple #[.string r1, .int .i64 r2]) ∧ Below w.heap.size w w' := by
 have HB := Aside0.mk (Below.refl w.heap.size w)
 have H : ((cmac_Tag.f a0 (⟨#[]⟩ : ByteArray)).bind fun bt6 => (if bt6.2 = 0 then ((kdf_Rounds.f a2).bind fun t7 => (if t7 = 0 then (some ((⟨#[]⟩ : ByteArray), 4)) else (kdf_Counter.l0 k a0 a1 a2 (([] : List ByteArray)) t7 0))) else (some ((⟨#[]⟩ : ByteArray), bt6.2)))) = some (r1, r2) := h
 clear h
 obtain ⟨y14, hy14⟩ : ∃ y_ : List ByteArray, y_ = (([] : List ByteArray)) := ⟨_, rfl⟩
 replace H : ((cmac_Tag.f a0 (⟨#[]⟩ : ByteArray)).bind fun bt6 => (if bt6.2 = 0 then ((kdf_Rounds.f a2).bind fun t7 => (if t7 = 0 then (some ((⟨#[]⟩ : ByteArray), 4)) else (kdf_Counter.l0 k a0 a1 a2 y14 t7 0))) else (some ((⟨#[]⟩ : ByteArray), bt6.2)))) = some (r1, r2) := by first | (rw [hy14]; with_reducible exact H) | (have H2_ := (Option.bind_some _ _).symm.trans H; rw [hy14]; with_reducible exact H2_) | (have H2_ := (Option.bind_some _ _).symm.trans H; with_reducible exact H2_) | with_reducible exact H | (rw [hy14]; exact H) | exact H
 have Ny5001 := Aside0.mk hy14
 clear hy14
 replace H := Option.bind_eq_some_iff.mp H
 obtain ⟨⟨t6, t15⟩, A40, H⟩ := H
 try dsimp only at H
 have A4 := Aside0.mk A40
 clear A40
 by_cases c5 : t15 = 0
 ·rw [if_pos c5] at H
  have c5b0 : (t15 == 0) = true := beq_iff_eq.mpr c5
  have c5b1 : (t15 != 0) = false := bne_eq_false_iff_eq.mpr c5
  clear c5
  replace H := Option.bind_eq_some_iff.mp H
  obtain ⟨t7, A60, H⟩ := H
  try dsimp only at H
  have A6 := Aside0.mk A60
  clear A60
  by_cases c7 : t7 = 0
  ·rw [if_pos c7] at H
   have c7b0 : (t7 == 0) = true := beq_iff_eq.mpr c7
   have c7b1 : (t7 != 0) = false := bne_eq_false_iff_eq.mpr c7
   clear c7
   simp only [Option.some.injEq, Prod.mk.injEq] at H
   obtain ⟨rfl, rfl⟩ := H
   go_enter Try.func126, Try.ntmps126
   go_wp2_with (first | ((with_reducible refine gate_dst (N := 15) rfl ?_); refine Go.Proofs.YtokkhnjedmlbhaaHw.R_make0 Kd.string _ 9 rfl (N := 15) rfl 49 _ _ rfl 4 rfl rfl Try.underlying49 (.string ⟨#[]⟩) 16 info9 rfl (by decide) (by decide) (ok := fun _ => True) (okp := fun _ => True) (fun _ hk => hk) trivial (by omega) (by omega) (Below.refl _ _) (Nat.le_refl _) ?_; intro v381 w8 ho9 hb hg_ hnew_; clear hg_ hnew_; (first | rw [← Ny5001.out] at ho9 | (simp only [Int.reduceToNat] at ho9; rw [← Ny5001.out] at ho9)); have n0_ := Aside0.mk (Kd.R_lower ho9 (below_size (by repeat first | with_reducible (first | exact HB.out | apply bA | apply bN | apply bD) | exact HB.out))); have n1_ := Aside0.mk (below_step (by repeat first | with_reducible (first | exact HB.out | apply bA | apply bN | apply bD) | exact HB.out) hb); clear HB; have HO382 := n0_; have HB := n1_; clear n0_ n1_; clear hb ho9) | ((with_reducible refine gate_callee (f := 110) rfl ?_); refine goesL_ (some 18) rfl rfl Try.func110 (by kernel_rfl) rfl #[.string a0, .string (⟨#[]⟩ : ByteArray)] rfl (by (try simp only [lT, lC, lN]); first | done | rfl) ?_; (with_reducible refine (cmac_Tag.calls a0 (⟨#[]⟩ : ByteArray) t6 t15 _ A4.out).mono ?_); rintro e w10 ⟨rfl, hb⟩; refine ⟨_, rfl, ?_⟩; have n0_ := Aside0.mk (Kd.R_below (by (with_reducible repeat (first | apply Kd.R_alloc | apply Kd.R_drewN | apply Kd.R_drew)); exact HO382.out) hb); have n1_ := Aside0.mk (below_step (by repeat first | with_reducible (first | exact HB.out | apply bA | apply bN | apply bD) | exact HB.out) hb); clear HO382; clear HB; have HO382 := n0_; have HB := n1_; clear n0_ n1_; (try clear hb); (try clear hb2); (try clear hk); (try clear hi)) | ((with_reducible refine gate_callee (f := 123) rfl ?_); refine goesL_ (some 25) rfl rfl Try.func123 (by kernel_rfl) rfl #[.int .i64 a2] rfl (by (try simp only [lT, lC, lN]); first | done | rfl) ?_; (with_reducible refine (kdf_Rounds.calls a2 t7 _ A6.out).mono ?_); rintro e w' ⟨rfl, ⟨nd, rfl⟩⟩; refine ⟨_, rfl, ?_⟩))
   go_ret2
   exact ⟨by first | rfl | (simp [*, errW_none, errW_some] <;> rfl), by repeat first | with_reducible (first | exact HB.out | apply bA | apply bN | apply bD) | exact HB.out⟩
  ·rw [if_neg c7] at H
   have c7b0 : (t7 == 0) = false := beq_eq_false_iff_ne.mpr c7
   have c7b1 : (t7 != 0) = true := bne_iff_ne.mpr c7
   have H' := Aside0.mk H
   clear H
   go_enter Try.func126, Try.ntmps126
   go_wp2_with (first | ((with_reducible refine gate_dst (N := 15) rfl ?_); refine Go.Proofs.YtokkhnjedmlbhaaHw.R_make0 Kd.string _ 9 rfl (N := 15) rfl 49 _ _ rfl 4 rfl rfl Try.underlying49 (.string ⟨#[]⟩) 16 info9 rfl (by decide) (by decide) (ok := fun _ => True) (okp := fun _ => True) (fun _ hk => hk) trivial (by omega) (by omega) (Below.refl _ _) (Nat.le_refl _) ?_; intro v381 w11 ho12 hb hg_ hnew_; clear hg_ hnew_; (first | rw [← Ny5001.out] at ho12 | (simp only [Int.reduceToNat] at ho12; rw [← Ny5001.out] at ho12)); have n0_ := Aside0.mk (Kd.R_lower ho12 (below_size (by repeat first | with_reducible (first | exact HB.out | apply bA | apply bN | apply bD) | exact HB.out))); have n1_ := Aside0.mk (below_step (by repeat first | with_reducible (first | exact HB.out | apply bA | apply bN | apply bD) | exact HB.out) hb); clear HB; have HO382 := n0_; have HB := n1_; clear n0_ n1_; clear hb ho12) | ((with_reducible refine gate_callee (f := 110) rfl ?_); refine goesL_ (some 18) rfl rfl Try.func110 (by kernel_rfl) rfl #[.string a0, .string (⟨#[]⟩ : ByteArray)] rfl (by (try simp only [lT, lC, lN]); first | done | rfl) ?_; (with_reducible refine (cmac_Tag.calls a0 (⟨#[]⟩ : ByteArray) t6 t15 _ A4.out).mono ?_); rintro e w13 ⟨rfl, hb⟩; refine ⟨_, rfl, ?_⟩; have n0_ := Aside0.mk (Kd.R_below (by (with_reducible repeat (first | apply Kd.R_alloc | apply Kd.R_drewN | apply Kd.R_drew)); exact HO382.out) hb); have n1_ := Aside0.mk (below_step (by repeat first | with_reducible (first | exact HB.out | apply bA | apply bN | apply bD) | exact HB.out) hb); clear HO382; clear HB; have HO382 := n0_; have HB := n1_; clear n0_ n1_; (try clear hb); (try clear hb2); (try clear hk); (try clear hi)) | ((with_reducible refine gate_callee (f := 123) rfl ?_); refine goesL_ (some 25) rfl rfl Try.func123 (by kernel_rfl) rfl #[.int .i64 a2] rfl (by (try simp only [lT, lC, lN]); first | done | rfl) ?_; (with_reducible refine (kdf_Rounds.calls a2 t7 _ A6.out).mono ?_); rintro e w' ⟨rfl, ⟨nd, rfl⟩⟩; refine ⟨_, rfl, ?_⟩))
   go_loopg [8, 29] k (fun kq v8 v29 w' => ∃ (x8_1 : List ByteArray) (x29_1 : Int), v29 = .int .i64 x29_1 ∧ Aside0 (kdf_Counter.l0 kq a0 a1 a2 x8_1 t7 x29_1 = some (r1, r2)) ∧ Aside0 (kq ≤ k) ∧ Aside0 (Kd.R Kd.string 9 w' w.heap.size (fun _ => True) v8 x8_1) ∧ Aside0 (Below w.heap.size w w'))
   case atStart => exact ⟨(y14), (0), (by first | rfl | (simp; done) | (simp [*]; done)), H', ⟨Nat.le_refl _⟩, ⟨by (with_reducible repeat (first | apply Kd.R_alloc | apply Kd.R_drewN | apply Kd.R_drew)); exact HO382.out⟩, ⟨by repeat first | with_reducible (first | exact HB.out | apply bA | apply bN | apply bD) | exact HB.out⟩⟩
   case round =>
    clear H'
    try clear c1
    try clear p2
    try clear c5
    try clear c5b0
    try clear c5b1
    try clear c7
    try clear c7b0
    try clear c7b1
    try clear c11
    try clear c12
    obtain ⟨x8_1, x29_1, rfl, HA, HK1, HO_8, HB⟩ := hrel
    cases gk with
    | zero => exact absurd HA.out (by simp [kdf_Counter.l0])
    | succ k1 =>
     have H := HA.out
     clear HA
     simp only [kdf_Counter.l0] at H
     by_cases c14 : x29_1 < t7
     ·rw [if_pos c14] at H
      have c14b0 : decide (x29_1 < t7) = true := decide_eq_true c14
      clear c14
      replace H := Option.bind_eq_some_iff.mp H
      obtain ⟨t1, A150, H⟩ := H
      try dsimp only at H
      have A15 := Aside0.mk A150
      clear A150
      obtain ⟨y16, hy16⟩ : ∃ y_ : List ByteArray, y_ = (([t1, a1] : List ByteArray)) := ⟨_, rfl⟩
      replace H : ((octets_Join.f y16).bind fun t2 => ((cmac_Tag.f a0 t2).bind fun bt3 => (if x8_1.length < 8796093022208 then (kdf_Counter.l0 k1 a0 a1 a2 (x8_1 ++ [bt3.1]) t7 (wrap64 (x29_1 + 1))) else (none)))) = some (r1, r2) := by first | (rw [hy16]; with_reducible exact H) | (have H2_ := (Option.bind_some _ _).symm.trans H; rw [hy16]; with_reducible exact H2_) | (have H2_ := (Option.bind_some _ _).symm.trans H; with_reducible exact H2_) | with_reducible exact H | (rw [hy16]; exact H) | exact H
      have Ny5002 := Aside0.mk hy16
      clear hy16
      replace H := Option.bind_eq_some_iff.mp H
      obtain ⟨t2, A160, H⟩ := H
      try dsimp only at H
      have A16 := Aside0.mk A160
      clear A160
      replace H := Option.bind_eq_some_iff.mp H
      obtain ⟨⟨t3, t17⟩, A170, H⟩ := H
      try dsimp only at H
      have A17 := Aside0.mk A170
      clear A170
      by_cases c18 : x8_1.length < 8796093022208
      ·rw [if_pos c18] at H
       have LMc18 := Aside0.mk c18
       clear c18
       obtain ⟨y18, hy18⟩ : ∃ y_ : List ByteArray, y_ = (x8_1 ++ [t3]) := ⟨_, rfl⟩
       replace H : (kdf_Counter.l0 k1 a0 a1 a2 y18 t7 (wrap64 (x29_1 + 1))) = some (r1, r2) := by first | (rw [hy18]; with_reducible exact H) | (have H2_ := (Option.bind_some _ _).symm.trans H; rw [hy18]; with_reducible exact H2_) | (have H2_ := (Option.bind_some _ _).symm.trans H; with_reducible exact H2_) | with_reducible exact H | (rw [hy18]; exact H) | exact H
       have Ny5003 := Aside0.mk hy18
       clear hy18
       have H' := Aside0.mk H
       clear H
       go_wp2_with (first | ((with_reducible refine gate_callee (f := 189) rfl ?_); refine goesL_ (some 37) rfl rfl Try.func189 (by kernel_rfl) rfl #[.int .u64 (IntKind.u64.wrap (wrap64 (x29_1 + 1))), .int .i64 1] rfl (by (try simp only [lT, lC, lN]); first | done | rfl) ?_; (with_reducible refine (octets_Put.calls (IntKind.u64.wrap (wrap64 (x29_1 + 1))) 1 t1 _ A15.out).mono ?_); rintro e w19 ⟨rfl, hb⟩; refine ⟨_, rfl, ?_⟩; have n0_ := Aside0.mk (Kd.R_below (by (with_reducible repeat (first | apply Kd.R_alloc | apply Kd.R_drewN | apply Kd.R_drew)); exact HO_8.out) hb); have n1_ := Aside0.mk (below_step (by repeat first | with_reducible (first | exact HB.out | apply bA | apply bN | apply bD) | exact HB.out) hb); clear HO_8; clear HB; have HO_8 := n0_; have HB := n1_; clear n0_ n1_; (try clear hb); (try clear hb2); (try clear hk); (try clear hi)) | ((with_reducible refine gate_dst (N := 39) rfl ?_); refine Kd.R_lit Kd.string _ 9 ?hg (N := 39) ?hd (xs := ([t1, a1] : List ByteArray)) (inner := [.string t1, .string a1]) (ok := fun _ => True) (okp := fun _ => True) ?hr ?hp (fun _ hk => hk) trivial (Below.refl _ _) (Nat.le_refl _) (by simp) ?_; (case hd => rfl); (case hg => rfl); (case hr => first | (go_simp; done) | (go_simp; rfl)); (case hp => exact (Reps.one (show Kd.M Kd.string _ _ _ t1 [.string t1] from rfl) (Reps.one (show Kd.M Kd.string _ _ _ a1 [.string a1] from rfl) (Reps.none _ _)))); intro v388 w20 ho21 hb hg_ hnew_; clear hg_ hnew_; (first | rw [← Ny5002.out] at ho21 | (simp only [Int.reduceToNat] at ho21; rw [← Ny5002.out] at ho21)); have n0_ := Aside0.mk (Kd.R_elder' (by (with_reducible repeat (first | apply Kd.R_alloc | apply Kd.R_drewN | apply Kd.R_drew)); exact HO_8.out) (Kd.R_base ho21) hb); have n1_ := Aside0.mk (Kd.R_lower (Kd.R_new' ho21 (Kd.R_lt (by (with_reducible repeat (first | apply Kd.R_alloc | apply Kd.R_drewN | apply Kd.R_drew)); exact HO_8.out))) (below_size (by repeat first | with_reducible (first | exact HB.out | apply bA | apply bN | apply bD) | exact HB.out))); have n2_ := Aside0.mk (below_step (by repeat first | with_reducible (first | exact HB.out | apply bA | apply bN | apply bD) | exact HB.out) hb); clear HO_8; clear HB; have HO_8 := n0_; have HO389 := n1_; have HB := n2_; clear n0_ n1_ n2_; clear hb ho21; obtain ⟨Ao22, co22, eo22⟩ := Kd.R_slice HO389.out; subst eo22) | ((with_reducible refine gate_callee (f := 89) rfl ?_); refine goesL_ (some 40) rfl rfl Try.func89 (by kernel_rfl) rfl #[.slice Ao22 y16.length co22] rfl (by (try simp only [lT, lC, lN]); first | done | rfl | (simp only [List.length_drop, List.length_take]; rfl) | (simp only [ByteArray.size_extract, Nat.min_self, Nat.sub_zero, ByteArray.size_append]; first | done | rfl)) ?_; (with_reducible refine (octets_Join.calls _ _ y16 t2 _ ?side1 ?side2 A16.out).mono ?_); (case side1 => repeat (first | exact (Kd.R_reads' HO389.out).2.2 | (with_reducible refine Kd.C_alloc ?_ _) | (with_reducible refine Kd.C_drewN ?_ _) | (with_reducible refine Kd.C_drew ?_))); (case side2 => exact (Kd.R_reads' HO389.out).2.1); rintro e w23 ⟨rfl, hb⟩; refine ⟨_, rfl, ?_⟩; have n0_ := Aside0.mk (Kd.R_below (by (with_reducible repeat (first | apply Kd.R_alloc | apply Kd.R_drewN | apply Kd.R_drew)); exact HO_8.out) hb); have n1_ := Aside0.mk (Kd.R_below (by (with_reducible repeat (first | apply Kd.R_alloc | apply Kd.R_drewN | apply Kd.R_drew)); exact HO389.out) hb); have n2_ := Aside0.mk (below_step (by repeat first | with_reducible (first | exact HB.out | apply bA | apply bN | apply bD) | exact HB.out) hb); clear HO_8; clear HO389; clear HB; have HO_8 := n0_; have HO389 := n1_; have HB := n2_; clear n0_ n1_ n2_; (try clear hb); (try clear hb2); (try clear hk); (try clear hi)) | ((with_reducible refine gate_callee (f := 110) rfl ?_); refine goesL_ (some 41) rfl rfl Try.func110 (by kernel_rfl) rfl #[.string a0, .string t2] rfl (by (try simp only [lT, lC, lN]); first | done | rfl) ?_; (with_reducible refine (cmac_Tag.calls a0 t2 t3 t17 _ A17.out).mono ?_); rintro e w24 ⟨rfl, hb⟩; refine ⟨_, rfl, ?_⟩; have n0_ := Aside0.mk (Kd.R_below (by (with_reducible repeat (first | apply Kd.R_alloc | apply Kd.R_drewN | apply Kd.R_drew)); exact HO_8.out) hb); have n1_ := Aside0.mk (Kd.R_below (by (with_reducible repeat (first | apply Kd.R_alloc | apply Kd.R_drewN | apply Kd.R_drew)); exact HO389.out) hb); have n2_ := Aside0.mk (below_step (by repeat first | with_reducible (first | exact HB.out | apply bA | apply bN | apply bD) | exact HB.out) hb); clear HO_8; clear HO389; clear HB; have HO_8 := n0_; have HO389 := n1_; have HB := n2_; clear n0_ n1_ n2_; (try clear hb); (try clear hb2); (try clear hk); (try clear hi)) | ((with_reducible refine gate_builtin (b := .append) (xs := #[.tmp 44, .tmp 46]) rfl ?_); at_builtin; refine Kd.R_append Kd.string (w0 := w) w.heap.size rfl (.tmp 44) (.tmp 46) 49 9 (.string ⟨#[]⟩) 16 rfl Try.underlying49 info9 rfl (by decide) (by omega) u8 x8_1 t3 [.string t3] (fun k_ => some k_ ≠ (.slice Ao22 y16.length co22 : Value).ownBlock) (fun _ => False) rfl rfl ?aP (fun _ hk => hk.elim) ?aF ?aO ?aB ?aS ?aL ?_; (case aP => exact rfl); (case aB => exact (by repeat first | with_reducible (first | exact HB.out | apply bA | apply bN | apply bD) | exact HB.out)); (case aF => exact (fun k_ hk => Kd.fresh' (Kd.R_lt (by (with_reducible repeat (first | apply Kd.R_alloc | apply Kd.R_drewN | apply Kd.R_drew)); exact HO389.out)) k_ hk)); (case aO => exact (by (with_reducible repeat (first | apply Kd.R_alloc | apply Kd.R_drewN | apply Kd.R_drew)); exact Kd.R_mono HO_8.out (fun _ hk => hk.2))); (case aS => exact (below_size (by repeat first | with_reducible (first | exact HB.out | apply bA | apply bN | apply bD) | exact HB.out))); (case aL => have := LMc18.out; omega); intro v394 w25 ho hb hg hat; rw [← Ny5003.out] at ho; have n0_ := Aside0.mk (Kd.R_after (ok := (fun _ => True)) (by (with_reducible repeat (first | apply Kd.R_alloc | apply Kd.R_drewN | apply Kd.R_drew)); exact HO389.out) hg hat); have n1_ := Aside0.mk (hb); have n2_ := Aside0.mk (ho); clear HO389; clear HB; clear HO_8; have HO389 := n0_; have HB := n1_; have HO395 := n2_; clear n0_ n1_ n2_; clear ho hb hg hat))
       go_roundg k1
       case measure => have := HK1.out; omega
       case rel => exact ⟨(y18), (wrap64 (x29_1 + 1)), (by first | rfl | (simp; done) | (simp [*]; done)), H', ⟨by have := HK1.out; omega⟩, ⟨by (with_reducible repeat (first | apply Kd.R_alloc | apply Kd.R_drewN | apply Kd.R_drew)); exact Kd.R_mono HO395.out (fun _ hk => trivial)⟩, ⟨by repeat first | with_reducible (first | exact HB.out | apply bA | apply bN | apply bD) | exact HB.out⟩⟩
      ·rw [if_neg c18] at H
       exact absurd H (by simp)
     ·rw [if_neg c14] at H
      have c14b0 : decide (x29_1 < t7) = false := decide_eq_false c14
      clear c14
      replace H := Option.bind_eq_some_iff.mp H
      obtain ⟨t4, A260, H⟩ := H
      try dsimp only at H
      have A26 := Aside0.mk A260
      clear A260
      replace H := Option.bind_eq_some_iff.mp H
      obtain ⟨t5, A270, H⟩ := H
      replace H : (some (t5, 0)) = some (r1, r2) := H
      have A27 := Aside0.mk A270
      clear A270
      simp only [Option.some.injEq, Prod.mk.injEq] at H
      obtain ⟨rfl, rfl⟩ := H
      obtain ⟨Ao28, co28, eo28⟩ := Kd.R_slice HO_8.out
      subst eo28
      go_wp2_with (first | ((with_reducible refine gate_callee (f := 89) rfl ?_); refine goesL_ (some 50) rfl rfl Try.func89 (by kernel_rfl) rfl #[.slice Ao28 x8_1.length co28] rfl (by (try simp only [lT, lC, lN]); first | done | rfl | (simp only [List.length_drop, List.length_take]; rfl) | (simp only [ByteArray.size_extract, Nat.min_self, Nat.sub_zero, ByteArray.size_append]; first | done | rfl)) ?_; (with_reducible refine (octets_Join.calls _ _ x8_1 t4 _ ?side1 ?side2 A26.out).mono ?_); (case side1 => repeat (first | exact (Kd.R_reads' HO_8.out).2.2 | (with_reducible refine Kd.C_alloc ?_ _) | (with_reducible refine Kd.C_drewN ?_ _) | (with_reducible refine Kd.C_drew ?_))); (case side2 => exact (Kd.R_reads' HO_8.out).2.1); rintro e w29 ⟨rfl, hb⟩; refine ⟨_, rfl, ?_⟩; have n0_ := Aside0.mk (Kd.R_below (by (with_reducible repeat (first | apply Kd.R_alloc | apply Kd.R_drewN | apply Kd.R_drew)); exact HO_8.out) hb); have n1_ := Aside0.mk (below_step (by repeat first | with_reducible (first | exact HB.out | apply bA | apply bN | apply bD) | exact HB.out) hb); clear HO_8; clear HB; have HO_8 := n0_; have HB := n1_; clear n0_ n1_; (try clear hb); (try clear hb2); (try clear hk); (try clear hi)) | ((with_reducible refine gate_callee (f := 201) rfl ?_); refine goesL_ (some 52) rfl rfl Try.func201 (by kernel_rfl) rfl #[.string t4, .int .i64 0, .int .i64 a2] rfl (by (try simp only [lT, lC, lN]); first | done | rfl) ?_; (with_reducible refine (octets_Cut.calls t4 0 a2 t5 _ A27.out).mono ?_); rintro e w30 ⟨rfl, hb⟩; refine ⟨_, rfl, ?_⟩; have n0_ := Aside0.mk (Kd.R_below (by (with_reducible repeat (first | apply Kd.R_alloc | apply Kd.R_drewN | apply Kd.R_drew)); exact HO_8.out) hb); have n1_ := Aside0.mk (below_step (by repeat first | with_reducible (first | exact HB.out | apply bA | apply bN | apply bD) | exact HB.out) hb); clear HO_8; clear HB; have HO_8 := n0_; have HB := n1_; clear n0_ n1_; (try clear hb); (try clear hb2); (try clear hk); (try clear hi)))
      go_ret2
      exact ⟨by first | rfl | (simp [*, errW_none, errW_some] <;> rfl), by repeat first | with_reducible (first | exact HB.out | apply bA | apply bN | apply bD) | exact HB.out⟩
 ·rw [if_neg c5] at H
  have c5b0 : (t15 == 0) = false := beq_eq_false_iff_ne.mpr c5
  have c5b1 : (t15 != 0) = true := bne_iff_ne.mpr c5
  simp only [Option.some.injEq, Prod.mk.injEq] at H
  obtain ⟨rfl, rfl⟩ := H
  go_enter Try.func126, Try.ntmps126
  go_wp2_with (first | ((with_reducible refine gate_dst (N := 15) rfl ?_); refine Go.Proofs.YtokkhnjedmlbhaaHw.R_make0 Kd.string _ 9 rfl (N := 15) rfl 49 _ _ rfl 4 rfl rfl Try.underlying49 (.string ⟨#[]⟩) 16 info9 rfl (by decide) (by decide) (ok := fun _ => True) (okp := fun _ => True) (fun _ hk => hk) trivial (by omega) (by omega) (Below.refl _ _) (Nat.le_refl _) ?_; intro v381 w31 ho32 hb hg_ hnew_; clear hg_ hnew_; (first | rw [← Ny5001.out] at ho32 | (simp only [Int.reduceToNat] at ho32; rw [← Ny5001.out] at ho32)); have n0_ := Aside0.mk (Kd.R_lower ho32 (below_size (by repeat first | with_reducible (first | exact HB.out | apply bA | apply bN | apply bD) | exact HB.out))); have n1_ := Aside0.mk (below_step (by repeat first | with_reducible (first | exact HB.out | apply bA | apply bN | apply bD) | exact HB.out) hb); clear HB; have HO382 := n0_; have HB := n1_; clear n0_ n1_; clear hb ho32) | ((with_reducible refine gate_callee (f := 110) rfl ?_); refine goesL_ (some 18) rfl rfl Try.func110 (by kernel_rfl) rfl #[.string a0, .string (⟨#[]⟩ : ByteArray)] rfl (by (try simp only [lT, lC, lN]); first | done | rfl) ?_; (with_reducible refine (cmac_Tag.calls a0 (⟨#[]⟩ : ByteArray) t6 t15 _ A4.out).mono ?_); rintro e w33 ⟨rfl, hb⟩; refine ⟨_, rfl, ?_⟩; have n0_ := Aside0.mk (Kd.R_below (by (with_reducible repeat (first | apply Kd.R_alloc | apply Kd.R_drewN | apply Kd.R_drew)); exact HO382.out) hb); have n1_ := Aside0.mk (below_step (by repeat first | with_reducible (first | exact HB.out | apply bA | apply bN | apply bD) | exact HB.out) hb); clear HO382; clear HB; have HO382 := n0_; have HB := n1_; clear n0_ n1_; (try clear hb); (try clear hb2); (try clear hk); (try clear hi)))
  go_ret2
  exact ⟨by first | rfl | (simp [*, errW_none, errW_some] <;> rfl), by repeat first | with_reducible (first | exact HB.out | apply bA | apply bN | apply bD) | exact HB.out⟩

def kdf_Fixed.f (a0 : ByteArray) (a1 : ByteArray) (a2 : Int) : Option (ByteArray) := (octets_Zeros.f 1).bind fun t1 => ((octets_Put.f (IntKind.u64.wrap (mx 0 a2)) 4).bind fun t2 => ((octets_Join.f (([a0, t1, a1, t2] : List ByteArray))).bind fun t3 => (some t3)))
def clavigerref12_Fixed.f (k : Nat) (a0 : ByteArray) (a1 : ByteArray) (a2 : Int) : Option (ByteArray) := if a2 < 0 then (if a0.size + 1 ≤ 9223372036854775807 then (if (a0 ++ (⟨#[0]⟩ : ByteArray)).size + a1.size ≤ 9223372036854775807 then ((clavigerref01_Put.f k 0 4).bind fun t1 => (if ((a0 ++ (⟨#[0]⟩ : ByteArray)) ++ a1).size + t1.size ≤ 9223372036854775807 then (some (((a0 ++ (⟨#[0]⟩ : ByteArray)) ++ a1) ++ t1)) else (none))) else (none)) else (none)) else (if a0.size + 1 ≤ 9223372036854775807 then (if (a0 ++ (⟨#[0]⟩ : ByteArray)).size + a1.size ≤ 9223372036854775807 then ((clavigerref01_Put.f k (IntKind.u64.wrap (a2)) 4).bind fun t2 => (if ((a0 ++ (⟨#[0]⟩ : ByteArray)) ++ a1).size + t2.size ≤ 9223372036854775807 then (some (((a0 ++ (⟨#[0]⟩ : ByteArray)) ++ a1) ++ t2)) else (none))) else (none)) else (none))
theorem clavigerref12_Fixed.mono : ∀ a0 a1 a2 k, LeO (clavigerref12_Fixed.f k a0 a1 a2) (clavigerref12_Fixed.f (k + 1) a0 a1 a2) := by
 intro a0 a1 a2 k
 unfold clavigerref12_Fixed.f
 repeat' first
   | (with_reducible exact clavigerref01_Put.mono _ _ _)
   | (with_reducible exact LeO.refl _)
   | (with_reducible exact LeO.none _)
   | (with_reducible refine LeO.ite ?_ ?_)
   | (with_reducible refine LeO.bind ?_ (fun _ => ?_))
end Go.Proofs.Ytokkhnjedmlbhaa.Pr
