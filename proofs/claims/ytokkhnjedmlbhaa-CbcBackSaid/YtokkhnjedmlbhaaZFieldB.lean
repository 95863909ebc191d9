-- several texts in one (by the session's program shake.py)
import Derived.Test.YtokkhnjedmlbhaaZPrg01x
import Derived.Test.YtokkhnjedmlbhaaZPrg09
import Derived.Test.YtokkhnjedmlbhaaZPrg05
import Derived.Laws.BitsAllLaws
section
namespace Go.Proofs.Ytokkhnjedmlbhaa.Pr
open Go.RowKit Go.Proofs.YtokkhnjedmlbhaaW.PrintWords Go.Proofs.YtokkhnjedmlbhaaW.PrintLast Go.Proofs.YtokkhnjedmlbhaaW.PrintMore
attribute [local go_sem] max2_int min2_int max_two min_two max_three min_three max_four min_four   -- for this text's walks alone
set_option linter.unusedVariables false
set_option linter.unusedSimpArgs false

def clavigerref10_bad.j0 : Nat → ByteArray → ByteArray → Bool → Option (Int)
 | 0, _, _, _ => none
 | k + 1, x1, x2, x19 => if x19 = true then (some 2) else (if (x1.size : Int) = 16 then (if ((x2.size : Int) % 16) = 0 then (some 0) else (some 4)) else (some 1))
def clavigerref10_bad.f (k : Nat) (a0 : ByteArray) (a1 : ByteArray) (a2 : ByteArray) : Option (Int) := if (a0.size : Int) = 16 then (clavigerref10_bad.j0 k a1 a2 false) else (if (a0.size : Int) = 24 then (clavigerref10_bad.j0 k a1 a2 false) else (clavigerref10_bad.j0 k a1 a2 ((a0.size : Int) != 32)))
theorem clavigerref10_bad.mono_l : ∀ k, (∀ y1 y2 y3, LeO (clavigerref10_bad.j0 k y1 y2 y3) (clavigerref10_bad.j0 (k + 1) y1 y2 y3))
 | 0 => fun _ _ _ r h => by simp [clavigerref10_bad.j0] at h
 | k + 1 => by
  have ih0 := clavigerref10_bad.mono_l k
  ·intro y1 y2 y3
   unfold clavigerref10_bad.j0
   repeat' first
   | (with_reducible exact ih0 _ _ _)
   | (with_reducible exact LeO.refl _)
   | (with_reducible exact LeO.none _)
   | (with_reducible refine LeO.ite ?_ ?_)
   | (with_reducible refine LeO.bind ?_ (fun _ => ?_))
   | exact ih0 _ _ _
   | exact LeO.none _
   | refine LeO.ite ?_ ?_
   | refine LeO.bind ?_ (fun _ => ?_)
theorem clavigerref10_bad.mono : ∀ a0 a1 a2 k, LeO (clavigerref10_bad.f k a0 a1 a2) (clavigerref10_bad.f (k + 1) a0 a1 a2) := by
 intro a0 a1 a2 k
 have ih0 := clavigerref10_bad.mono_l k
 unfold clavigerref10_bad.f
 repeat' first
   | (with_reducible exact ih0 _ _ _)
   | (with_reducible exact LeO.refl _)
   | (with_reducible exact LeO.none _)
   | (with_reducible refine LeO.ite ?_ ?_)
   | (with_reducible refine LeO.bind ?_ (fun _ => ?_))
   | exact ih0 _ _ _
   | exact LeO.none _
   | refine LeO.ite ?_ ?_
   | refine LeO.bind ?_ (fun _ => ?_)
set_option maxHeartbeats 8000000 in
set_option maxRecDepth 100000 in
theorem clavigerref10_bad.calls (k : Nat) (a0 : ByteArray) (a1 : ByteArray) (a2 : ByteArray) (r : Int) (w : World) (h : clavigerref10_bad.f k a0 a1 a2 = some r) :
  Calls Try.prog 177 #[.string a0, .string a1, .string a2] w fun e w' => e = .returned (.int .i64 r) ∧ Drawn0 w w' := by
 have H : (if (a0.size : Int) = 16 then (clavigerref10_bad.j0 k a1 a2 false) else (if (a0.size : Int) = 24 then (clavigerref10_bad.j0 k a1 a2 false) else (clavigerref10_bad.j0 k a1 a2 ((a0.size : Int) != 32)))) = some r := h
 clear h
 have HC4 := Aside0.mk H
 clear H
 go_enter Try.func177, Try.ntmps177
 go_upto_region 1 with (fail)
 go_cut [19] (fun v19 wc => ∃ (kq : Nat) (x19_3 : Bool), v19 = .bool x19_3 ∧ Aside0 (clavigerref10_bad.j0 kq a1 a2 x19_3 = some r) ∧ Aside0 (kq ≤ k) ∧ Drawn0 w wc)
 case first =>
  have H := HC4.out
  clear HC4
  by_cases c5 : (a0.size : Int) = 16
  ·rw [if_pos c5] at H
   have c5b0 : ((a0.size : Int) == 16) = true := beq_iff_eq.mpr c5
   have c5b1 : ((a0.size : Int) != 16) = false := bne_eq_false_iff_eq.mpr c5
   clear c5
   (first | rw [c5b0] | (simp only [i64_w, i32_w]; rw [c5b0]) | skip)
   have H' := Aside0.mk H
   clear H
   go_wp2
   go_meet
   case rel => exact ⟨_, (false), (by first | rfl | (simp; done) | (simp [*]; done)), H', ⟨by first | omega | exact Nat.le_refl _⟩, by repeat (first | exact Drawn0.refl _ | apply Drawn0.step)⟩
  ·rw [if_neg c5] at H
   have c5b0 : ((a0.size : Int) == 16) = false := beq_eq_false_iff_ne.mpr c5
   have c5b1 : ((a0.size : Int) != 16) = true := bne_iff_ne.mpr c5
   (first | rw [c5b0] | (simp only [i64_w, i32_w]; rw [c5b0]) | skip)
   by_cases c6 : (a0.size : Int) = 24
   ·rw [if_pos c6] at H
    have c6b0 : ((a0.size : Int) == 24) = true := beq_iff_eq.mpr c6
    have c6b1 : ((a0.size : Int) != 24) = false := bne_eq_false_iff_eq.mpr c6
    clear c6
    have H' := Aside0.mk H
    clear H
    go_wp2
    go_meet
    case rel => exact ⟨_, (false), (by first | rfl | (simp; done) | (simp [*]; done)), H', ⟨by first | omega | exact Nat.le_refl _⟩, by repeat (first | exact Drawn0.refl _ | apply Drawn0.step)⟩
   ·rw [if_neg c6] at H
    have c6b0 : ((a0.size : Int) == 24) = false := beq_eq_false_iff_ne.mpr c6
    have c6b1 : ((a0.size : Int) != 24) = true := bne_iff_ne.mpr c6
    have H' := Aside0.mk H
    clear H
    go_wp2
    go_meet
    case rel => exact ⟨_, (((a0.size : Int) != 32)), (by first | rfl | (simp; done) | (simp [*]; done)), H', ⟨by first | omega | exact Nat.le_refl _⟩, by repeat (first | exact Drawn0.refl _ | apply Drawn0.step)⟩
 case rest =>
  clear HC4
  try clear c1
  try clear p2
  try clear c5
  try clear c5b0
  try clear c5b1
  try clear c6
  try clear c6b0
  try clear c6b1
  obtain ⟨kq, x19_3, rfl, HA, HJ3, ⟨mc3, rfl⟩⟩ := hcut
  cases kq with
  | zero => exact absurd HA.out (by simp [clavigerref10_bad.j0])
  | succ kj3 =>
   have H := HA.out
   clear HA
   simp only [clavigerref10_bad.j0] at H
   by_cases c7 : x19_3 = true
   ·subst c7
    have H1 : (some 2) = some r := by rw [if_pos rfl] at H; exact H
    clear H
    have H := H1
    clear H1
    obtain rfl := Option.some.inj H
    go_wp2
    go_ret
    exact ⟨by first | rfl | (simp; done) | (simp [*]; done) | (simp [IntKind.wrap_u8, IntKind.wrap_i64, wrap64]; done), by repeat (first | exact Drawn0.refl _ | apply Drawn0.step)⟩
   ·replace c7 := Bool.eq_false_iff.mpr c7
    subst c7
    have H1 : (if (a1.size : Int) = 16 then (if ((a2.size : Int) % 16) = 0 then (some 0) else (some 4)) else (some 1)) = some r := by rw [if_neg (show ¬ (false = true) by decide)] at H; exact H
    clear H
    have H := H1
    clear H1
    by_cases c8 : (a1.size : Int) = 16
    ·rw [if_pos c8] at H
     have c8b0 : ((a1.size : Int) == 16) = true := beq_iff_eq.mpr c8
     have c8b1 : ((a1.size : Int) != 16) = false := bne_eq_false_iff_eq.mpr c8
     clear c8
     by_cases c9 : ((a2.size : Int) % 16) = 0
     ·rw [if_pos c9] at H
      have c9b0 : (((a2.size : Int) % 16) == 0) = true := beq_iff_eq.mpr c9
      have c9b1 : (((a2.size : Int) % 16) != 0) = false := bne_eq_false_iff_eq.mpr c9
      clear c9
      obtain rfl := Option.some.inj H
      go_wp2
      go_ret
      exact ⟨by first | rfl | (simp; done) | (simp [*]; done) | (simp [IntKind.wrap_u8, IntKind.wrap_i64, wrap64]; done), by repeat (first | exact Drawn0.refl _ | apply Drawn0.step)⟩
     ·rw [if_neg c9] at H
      have c9b0 : (((a2.size : Int) % 16) == 0) = false := beq_eq_false_iff_ne.mpr c9
      have c9b1 : (((a2.size : Int) % 16) != 0) = true := bne_iff_ne.mpr c9
      obtain rfl := Option.some.inj H
      go_wp2
      go_ret
      exact ⟨by first | rfl | (simp; done) | (simp [*]; done) | (simp [IntKind.wrap_u8, IntKind.wrap_i64, wrap64]; done), by repeat (first | exact Drawn0.refl _ | apply Drawn0.step)⟩
    ·rw [if_neg c8] at H
     have c8b0 : ((a1.size : Int) == 16) = false := beq_eq_false_iff_ne.mpr c8
     have c8b1 : ((a1.size : Int) != 16) = true := bne_iff_ne.mpr c8
     obtain rfl := Option.some.inj H
     go_wp2
     go_ret
     exact ⟨by first | rfl | (simp; done) | (simp [*]; done) | (simp [IntKind.wrap_u8, IntKind.wrap_i64, wrap64]; done), by repeat (first | exact Drawn0.refl _ | apply Drawn0.step)⟩

def clavigerref10_Encrypt.l0 : Nat → ByteArray → ByteArray → ByteArray → ByteArray → Int → Option (ByteArray × Int)
 | 0, _, _, _, _, _ => none
 | k + 1, x0, x1, x2, x9, x10 => if x10 < (x2.size : Int) then (if 0 ≤ x10 then (if x10 ≤ (wrap64 (x10 + 16)) then (if (wrap64 (x10 + 16)) ≤ (x2.size : Int) then ((clavigerref01_Xor.f k (x2.extract (x10 : Int).toNat ((wrap64 (x10 + 16)) : Int).toNat) x1).bind fun t1 => ((clavigerref09_Encrypt.f k x0 t1).bind fun bt2 => (if x9.size + bt2.1.size ≤ 9223372036854775807 then (clavigerref10_Encrypt.l0 k x0 bt2.1 x2 (x9 ++ bt2.1) (wrap64 (x10 + 16))) else (none)))) else (none)) else (none)) else (none)) else (some (x9, 0))
def clavigerref10_Encrypt.f (k : Nat) (a0 : ByteArray) (a1 : ByteArray) (a2 : ByteArray) : Option (ByteArray × Int) := (clavigerref10_bad.f k a0 a1 a2).bind fun t3 => (if t3 = 0 then (clavigerref10_Encrypt.l0 k a0 a1 a2 (⟨#[]⟩ : ByteArray) 0) else (some ((⟨#[]⟩ : ByteArray), t3)))
theorem clavigerref10_Encrypt.mono_l : ∀ k, (∀ y4 y5 y6 y7 y8, LeO (clavigerref10_Encrypt.l0 k y4 y5 y6 y7 y8) (clavigerref10_Encrypt.l0 (k + 1) y4 y5 y6 y7 y8))
 | 0 => fun _ _ _ _ _ r h => by simp [clavigerref10_Encrypt.l0] at h
 | k + 1 => by
  have ih0 := clavigerref10_Encrypt.mono_l k
  ·intro y4 y5 y6 y7 y8
   unfold clavigerref10_Encrypt.l0
   repeat' first
   | (with_reducible exact ih0 _ _ _ _ _)
   | (with_reducible exact clavigerref01_Xor.mono _ _ _)
   | (with_reducible exact clavigerref09_Encrypt.mono _ _ _)
   | (with_reducible exact clavigerref10_bad.mono _ _ _ _)
   | (with_reducible exact LeO.refl _)
   | (with_reducible exact LeO.none _)
   | (with_reducible refine LeO.ite ?_ ?_)
   | (with_reducible refine LeO.bind ?_ (fun _ => ?_))
   | exact ih0 _ _ _ _ _
   | exact clavigerref01_Xor.mono _ _ _
   | exact clavigerref09_Encrypt.mono _ _ _
   | exact clavigerref10_bad.mono _ _ _ _
   | exact LeO.none _
   | refine LeO.ite ?_ ?_
   | refine LeO.bind ?_ (fun _ => ?_)
theorem clavigerref10_Encrypt.mono : ∀ a0 a1 a2 k, LeO (clavigerref10_Encrypt.f k a0 a1 a2) (clavigerref10_Encrypt.f (k + 1) a0 a1 a2) := by
 intro a0 a1 a2 k
 have ih0 := clavigerref10_Encrypt.mono_l k
 unfold clavigerref10_Encrypt.f
 repeat' first
   | (with_reducible exact ih0 _ _ _ _ _)
   | (with_reducible exact clavigerref01_Xor.mono _ _ _)
   | (with_reducible exact clavigerref09_Encrypt.mono _ _ _)
   | (with_reducible exact clavigerref10_bad.mono _ _ _ _)
   | (with_reducible exact LeO.refl _)
   | (with_reducible exact LeO.none _)
   | (with_reducible refine LeO.ite ?_ ?_)
   | (with_reducible refine LeO.bind ?_ (fun _ => ?_))
   | exact ih0 _ _ _ _ _
   | exact clavigerref01_Xor.mono _ _ _
   | exact clavigerref09_Encrypt.mono _ _ _
   | exact clavigerref10_bad.mono _ _ _ _
   | exact LeO.none _
   | refine LeO.ite ?_ ?_
   | refine LeO.bind ?_ (fun _ => ?_)
set_option maxHeartbeats 8000000 in
set_option maxRecDepth 100000 in
theorem clavigerref10_Encrypt.calls (k : Nat) (a0 : ByteArray) (a1 : ByteArray) (a2 : ByteArray) (r1 : ByteArray) (r2 : Int) (w : World) (h : clavigerref10_Encrypt.f k a0 a1 a2 = some (r1, r2)) :
  Calls Try.prog 118 #[.string a0, .string a1, .string a2] w fun e w' => e = .returned (.tuple #[.string r1, .int .i64 r2]) ∧ Below w.heap.size w w' := by
 have HB := Aside0.mk (Below.refl w.heap.size w)
 have H : ((clavigerref10_bad.f k a0 a1 a2).bind fun t3 => (if t3 = 0 then (clavigerref10_Encrypt.l0 k a0 a1 a2 (⟨#[]⟩ : ByteArray) 0) else (some ((⟨#[]⟩ : ByteArray), t3)))) = some (r1, r2) := h
 clear h
 replace H := Option.bind_eq_some_iff.mp H
 obtain ⟨t3, A40, H⟩ := H
 replace H : (if t3 = 0 then (clavigerref10_Encrypt.l0 k a0 a1 a2 (⟨#[]⟩ : ByteArray) 0) else (some ((⟨#[]⟩ : ByteArray), t3))) = some (r1, r2) := H
 have A4 := Aside0.mk A40
 clear A40
 by_cases c5 : t3 = 0
 ·rw [if_pos c5] at H
  have c5b0 : (t3 == 0) = true := beq_iff_eq.mpr c5
  have c5b1 : (t3 != 0) = false := bne_eq_false_iff_eq.mpr c5
  clear c5
  have H' := Aside0.mk H
  clear H
  go_enter Try.func118, Try.ntmps118
  go_wp2_with (first | ((with_reducible refine gate_callee (f := 177) rfl ?_); refine goesL_ (some 14) rfl rfl Try.func177 (by kernel_rfl) rfl #[.string a0, .string a1, .string a2] rfl (by (try simp only [List.map_toArray, List.map_cons, List.map_nil]); first | done | rfl | (simp only [List.length_drop, List.length_take]; rfl) | (simp only [ByteArray.size_extract, Nat.min_self, Nat.sub_zero, ByteArray.size_append]; first | done | rfl)) ?_; (with_reducible refine (clavigerref10_bad.calls k a0 a1 a2 t3 _ A4.out).mono ?_); rintro e w' ⟨rfl, ⟨nd, rfl⟩⟩; refine ⟨_, rfl, ?_⟩))
  go_loopg [1, 9, 10] k (fun kq v1 v9 v10 w' => ∃ (x1_1 : ByteArray) (x9_1 : ByteArray) (x10_1 : Int), v1 = .string x1_1 ∧ v9 = .string x9_1 ∧ v10 = .int .i64 x10_1 ∧ Aside0 (clavigerref10_Encrypt.l0 kq a0 x1_1 a2 x9_1 x10_1 = some (r1, r2)) ∧ Aside0 (kq ≤ k) ∧ Aside0 (Below w.heap.size w w'))
  case atStart => exact ⟨(a1), ((⟨#[]⟩ : ByteArray)), (0), (by first | rfl | (simp; done) | (simp [*]; done)), (by first | rfl | (simp; done) | (simp [*]; done)), (by first | rfl | (simp; done) | (simp [*]; done)), H', ⟨Nat.le_refl _⟩, ⟨by repeat (first | (with_reducible first | exact HB.out | apply below_alloc | apply pw_below_drewN | apply below_drew1) | exact HB.out)⟩⟩
  case round =>
   clear H'
   try clear c1
   try clear p2
   try clear c5
   try clear c5b0
   try clear c5b1
   obtain ⟨x1_1, x9_1, x10_1, rfl, rfl, rfl, HA, HK1, HB⟩ := hrel
   cases gk with
   | zero => exact absurd HA.out (by simp [clavigerref10_Encrypt.l0])
   | succ k1 =>
    have H := HA.out
    clear HA
    simp only [clavigerref10_Encrypt.l0] at H
    by_cases c6 : x10_1 < (a2.size : Int)
    ·rw [if_pos c6] at H
     have c6b0 : decide (x10_1 < (a2.size : Int)) = true := decide_eq_true c6
     clear c6
     by_cases c7 : 0 ≤ x10_1
     ·rw [if_pos c7] at H
      have c7b0 := eq_true c7
      have c7b1 : decide (0 ≤ x10_1) = true := decide_eq_true c7
      clear c7
      by_cases c8 : x10_1 ≤ (wrap64 (x10_1 + 16))
      ·rw [if_pos c8] at H
       have c8b0 := eq_true c8
       have c8b1 : decide (x10_1 ≤ (wrap64 (x10_1 + 16))) = true := decide_eq_true c8
       by_cases c9 : (wrap64 (x10_1 + 16)) ≤ (a2.size : Int)
       ·rw [if_pos c9] at H
        have c9b0 := eq_true c9
        have c9b1 : decide ((wrap64 (x10_1 + 16)) ≤ (a2.size : Int)) = true := decide_eq_true c9
        replace H := Option.bind_eq_some_iff.mp H
        obtain ⟨t1, A100, H⟩ := H
        replace H : ((clavigerref09_Encrypt.f k1 a0 t1).bind fun bt2 => (if x9_1.size + bt2.1.size ≤ 9223372036854775807 then (clavigerref10_Encrypt.l0 k1 a0 bt2.1 a2 (x9_1 ++ bt2.1) (wrap64 (x10_1 + 16))) else (none))) = some (r1, r2) := H
        have A10 := Aside0.mk A100
        clear A100
        replace H := Option.bind_eq_some_iff.mp H
        obtain ⟨⟨t2, t9⟩, A110, H⟩ := H
        replace H : (if x9_1.size + t2.size ≤ 9223372036854775807 then (clavigerref10_Encrypt.l0 k1 a0 t2 a2 (x9_1 ++ t2) (wrap64 (x10_1 + 16))) else (none)) = some (r1, r2) := H
        have A11 := Aside0.mk A110
        clear A110
        by_cases c12 : x9_1.size + t2.size ≤ 9223372036854775807
        ·rw [if_pos c12] at H
         have c12b0 := eq_true c12
         have c12b1 : decide (x9_1.size + t2.size ≤ 9223372036854775807) = true := decide_eq_true c12
         try have c12b2 : (9223372036854775807 < x9_1.size + t2.size) = False := eq_false (Nat.not_lt.2 c12)
         have H' := Aside0.mk H
         clear H
         go_wp2_with (first | ((with_reducible refine gate_callee (f := 178) rfl ?_); refine goesL_ (some 32) rfl rfl Try.func178 (by kernel_rfl) rfl #[.string (a2.extract (x10_1 : Int).toNat ((wrap64 (x10_1 + 16)) : Int).toNat), .string x1_1] rfl (by (try simp only [List.map_toArray, List.map_cons, List.map_nil]); first | done | rfl | (simp only [List.length_drop, List.length_take]; rfl) | (simp only [ByteArray.size_extract, Nat.min_self, Nat.sub_zero, ByteArray.size_append]; first | done | rfl)) ?_; (with_reducible refine (clavigerref01_Xor.calls k1 (a2.extract (x10_1 : Int).toNat ((wrap64 (x10_1 + 16)) : Int).toNat) x1_1 t1 _ A10.out).mono ?_); rintro e w13 ⟨rfl, hb⟩; refine ⟨_, rfl, ?_⟩; have n0_ := Aside0.mk (below_step (by repeat (first | (with_reducible first | exact HB.out | apply below_alloc | apply pw_below_drewN | apply below_drew1) | exact HB.out)) hb); clear HB; have HB := n0_; clear n0_; (try clear hb); (try clear hb2); (try clear hk); (try clear hi)) | ((with_reducible refine gate_callee (f := 99) rfl ?_); refine goesL_ (some 33) rfl rfl Try.func99 (by kernel_rfl) rfl #[.string a0, .string t1] rfl (by (try simp only [List.map_toArray, List.map_cons, List.map_nil]); first | done | rfl | (simp only [List.length_drop, List.length_take]; rfl) | (simp only [ByteArray.size_extract, Nat.min_self, Nat.sub_zero, ByteArray.size_append]; first | done | rfl)) ?_; (with_reducible refine (clavigerref09_Encrypt.calls k1 a0 t1 t2 t9 _ A11.out).mono ?_); rintro e w14 ⟨rfl, hb⟩; refine ⟨_, rfl, ?_⟩; have n0_ := Aside0.mk (below_step (by repeat (first | (with_reducible first | exact HB.out | apply below_alloc | apply pw_below_drewN | apply below_drew1) | exact HB.out)) hb); clear HB; have HB := n0_; clear n0_; (try clear hb); (try clear hb2); (try clear hk); (try clear hi)))
         go_roundg k1
         case measure => have := HK1.out; omega
         case rel => exact ⟨(t2), (x9_1 ++ t2), (wrap64 (x10_1 + 16)), (by first | rfl | (simp; done) | (simp [*]; done)), (by first | rfl | (simp; done) | (simp [*]; done)), (by first | rfl | (simp; done) | (simp [*]; done)), H', ⟨by have := HK1.out; omega⟩, ⟨by repeat (first | (with_reducible first | exact HB.out | apply below_alloc | apply pw_below_drewN | apply below_drew1) | exact HB.out)⟩⟩
        ·rw [if_neg c12] at H
         exact absurd H (by simp)
       ·rw [if_neg c9] at H
        exact absurd H (by simp)
      ·rw [if_neg c8] at H
       exact absurd H (by simp)
     ·rw [if_neg c7] at H
      exact absurd H (by simp)
    ·rw [if_neg c6] at H
     have c6b0 : decide (x10_1 < (a2.size : Int)) = false := decide_eq_false c6
     clear c6
     simp only [Option.some.injEq, Prod.mk.injEq] at H
     obtain ⟨rfl, rfl⟩ := H
     go_wp2
     go_ret2
     exact ⟨by first | rfl | (simp [errW_none, errW_some] <;> rfl) | (simp [*, errW_none, errW_some] <;> rfl), by repeat (first | (with_reducible first | exact HB.out | apply below_alloc | apply pw_below_drewN | apply below_drew1) | exact HB.out)⟩
 ·rw [if_neg c5] at H
  have c5b0 : (t3 == 0) = false := beq_eq_false_iff_ne.mpr c5
  have c5b1 : (t3 != 0) = true := bne_iff_ne.mpr c5
  simp only [Option.some.injEq, Prod.mk.injEq] at H
  obtain ⟨rfl, rfl⟩ := H
  go_enter Try.func118, Try.ntmps118
  go_wp2_with (first | ((with_reducible refine gate_callee (f := 177) rfl ?_); refine goesL_ (some 14) rfl rfl Try.func177 (by kernel_rfl) rfl #[.string a0, .string a1, .string a2] rfl (by (try simp only [List.map_toArray, List.map_cons, List.map_nil]); first | done | rfl | (simp only [List.length_drop, List.length_take]; rfl) | (simp only [ByteArray.size_extract, Nat.min_self, Nat.sub_zero, ByteArray.size_append]; first | done | rfl)) ?_; (with_reducible refine (clavigerref10_bad.calls k a0 a1 a2 t3 _ A4.out).mono ?_); rintro e w' ⟨rfl, ⟨nd, rfl⟩⟩; refine ⟨_, rfl, ?_⟩))
  go_ret2
  exact ⟨by first | rfl | (simp [errW_none, errW_some] <;> rfl) | (simp [*, errW_none, errW_some] <;> rfl), by repeat (first | (with_reducible first | exact HB.out | apply below_alloc | apply pw_below_drewN | apply below_drew1) | exact HB.out)⟩

def clavigerref10_Decrypt.l0 : Nat → ByteArray → ByteArray → ByteArray → ByteArray → Int → Option (ByteArray × Int)
 | 0, _, _, _, _, _ => none
 | k + 1, x1, x2, x9, x10, x12 => if x12 < (x2.size : Int) then (if 0 ≤ x12 then (if x12 ≤ (wrap64 (x12 + 16)) then (if (wrap64 (x12 + 16)) ≤ (x10.size : Int) then ((clavigerref01_Xor.f k (x10.extract (x12 : Int).toNat ((wrap64 (x12 + 16)) : Int).toNat) x1).bind fun t1 => (if x9.size + t1.size ≤ 9223372036854775807 then (if (wrap64 (x12 + 16)) ≤ (x2.size : Int) then (clavigerref10_Decrypt.l0 k (x2.extract (x12 : Int).toNat ((wrap64 (x12 + 16)) : Int).toNat) x2 (x9 ++ t1) x10 (wrap64 (x12 + 16))) else (none)) else (none))) else (none)) else (none)) else (none)) else (some (x9, 0))
def clavigerref10_Decrypt.f (k : Nat) (a0 : ByteArray) (a1 : ByteArray) (a2 : ByteArray) : Option (ByteArray × Int) := (clavigerref10_bad.f k a0 a1 a2).bind fun t2 => (if t2 = 0 then ((clavigerref09_Many.f k a0 a2 true).bind fun bt3 => (clavigerref10_Decrypt.l0 k a1 a2 (⟨#[]⟩ : ByteArray) bt3.1 0)) else (some ((⟨#[]⟩ : ByteArray), t2)))
theorem clavigerref10_Decrypt.mono_l : ∀ k, (∀ y4 y5 y6 y7 y8, LeO (clavigerref10_Decrypt.l0 k y4 y5 y6 y7 y8) (clavigerref10_Decrypt.l0 (k + 1) y4 y5 y6 y7 y8))
 | 0 => fun _ _ _ _ _ r h => by simp [clavigerref10_Decrypt.l0] at h
 | k + 1 => by
  have ih0 := clavigerref10_Decrypt.mono_l k
  ·intro y4 y5 y6 y7 y8
   unfold clavigerref10_Decrypt.l0
   repeat' first
   | (with_reducible exact ih0 _ _ _ _ _)
   | (with_reducible exact clavigerref01_Xor.mono _ _ _)
   | (with_reducible exact clavigerref09_Many.mono _ _ _ _)
   | (with_reducible exact clavigerref10_bad.mono _ _ _ _)
   | (with_reducible exact LeO.refl _)
   | (with_reducible exact LeO.none _)
   | (with_reducible refine LeO.ite ?_ ?_)
   | (with_reducible refine LeO.bind ?_ (fun _ => ?_))
   | exact ih0 _ _ _ _ _
   | exact clavigerref01_Xor.mono _ _ _
   | exact clavigerref09_Many.mono _ _ _ _
   | exact clavigerref10_bad.mono _ _ _ _
   | exact LeO.none _
   | refine LeO.ite ?_ ?_
   | refine LeO.bind ?_ (fun _ => ?_)
theorem clavigerref10_Decrypt.mono : ∀ a0 a1 a2 k, LeO (clavigerref10_Decrypt.f k a0 a1 a2) (clavigerref10_Decrypt.f (k + 1) a0 a1 a2) := by
 intro a0 a1 a2 k
 have ih0 := clavigerref10_Decrypt.mono_l k
 unfold clavigerref10_Decrypt.f
 repeat' first
   | (with_reducible exact ih0 _ _ _ _ _)
   | (with_reducible exact clavigerref01_Xor.mono _ _ _)
   | (with_reducible exact clavigerref09_Many.mono _ _ _ _)
   | (with_reducible exact clavigerref10_bad.mono _ _ _ _)
   | (with_reducible exact LeO.refl _)
   | (with_reducible exact LeO.none _)
   | (with_reducible refine LeO.ite ?_ ?_)
   | (with_reducible refine LeO.bind ?_ (fun _ => ?_))
   | exact ih0 _ _ _ _ _
   | exact clavigerref01_Xor.mono _ _ _
   | exact clavigerref09_Many.mono _ _ _ _
   | exact clavigerref10_bad.mono _ _ _ _
   | exact LeO.none _
   | refine LeO.ite ?_ ?_
   | refine LeO.bind ?_ (fun _ => ?_)
set_option maxHeartbeats 8000000 in
set_option maxRecDepth 100000 in
theorem clavigerref10_Decrypt.calls (k : Nat) (a0 : ByteArray) (a1 : ByteArray) (a2 : ByteArray) (r1 : ByteArray) (r2 : Int) (w : World) (h : clavigerref10_Decrypt.f k a0 a1 a2 = some (r1, r2)) :
  Calls Try.prog 73 #[.string a0, .string a1, .string a2] w fun e w' => e = .returned (.tuple #[.string r1, .int .i64 r2]) ∧ Below w.heap.size w w' := by
 have HB := Aside0.mk (Below.refl w.heap.size w)
 have H : ((clavigerref10_bad.f k a0 a1 a2).bind fun t2 => (if t2 = 0 then ((clavigerref09_Many.f k a0 a2 true).bind fun bt3 => (clavigerref10_Decrypt.l0 k a1 a2 (⟨#[]⟩ : ByteArray) bt3.1 0)) else (some ((⟨#[]⟩ : ByteArray), t2)))) = some (r1, r2) := h
 clear h
 replace H := Option.bind_eq_some_iff.mp H
 obtain ⟨t2, A40, H⟩ := H
 replace H : (if t2 = 0 then ((clavigerref09_Many.f k a0 a2 true).bind fun bt3 => (clavigerref10_Decrypt.l0 k a1 a2 (⟨#[]⟩ : ByteArray) bt3.1 0)) else (some ((⟨#[]⟩ : ByteArray), t2))) = some (r1, r2) := H
 have A4 := Aside0.mk A40
 clear A40
 by_cases c5 : t2 = 0
 ·rw [if_pos c5] at H
  have c5b0 : (t2 == 0) = true := beq_iff_eq.mpr c5
  have c5b1 : (t2 != 0) = false := bne_eq_false_iff_eq.mpr c5
  clear c5
  replace H := Option.bind_eq_some_iff.mp H
  obtain ⟨⟨t3, t9⟩, A60, H⟩ := H
  replace H : (clavigerref10_Decrypt.l0 k a1 a2 (⟨#[]⟩ : ByteArray) t3 0) = some (r1, r2) := H
  have A6 := Aside0.mk A60
  clear A60
  have H' := Aside0.mk H
  clear H
  go_enter Try.func73, Try.ntmps73
  go_wp2_with (first | ((with_reducible refine gate_callee (f := 177) rfl ?_); refine goesL_ (some 16) rfl rfl Try.func177 (by kernel_rfl) rfl #[.string a0, .string a1, .string a2] rfl (by (try simp only [List.map_toArray, List.map_cons, List.map_nil]); first | done | rfl | (simp only [List.length_drop, List.length_take]; rfl) | (simp only [ByteArray.size_extract, Nat.min_self, Nat.sub_zero, ByteArray.size_append]; first | done | rfl)) ?_; (with_reducible refine (clavigerref10_bad.calls k a0 a1 a2 t2 _ A4.out).mono ?_); rintro e w' ⟨rfl, ⟨nd, rfl⟩⟩; refine ⟨_, rfl, ?_⟩) | ((with_reducible refine gate_callee (f := 103) rfl ?_); refine goesL_ (some 23) rfl rfl Try.func103 (by kernel_rfl) rfl #[.string a0, .string a2, .bool true] rfl (by (try simp only [List.map_toArray, List.map_cons, List.map_nil]); first | done | rfl | (simp only [List.length_drop, List.length_take]; rfl) | (simp only [ByteArray.size_extract, Nat.min_self, Nat.sub_zero, ByteArray.size_append]; first | done | rfl)) ?_; (with_reducible refine (clavigerref09_Many.calls k a0 a2 true t3 t9 _ A6.out).mono ?_); rintro e w7 ⟨rfl, hb⟩; refine ⟨_, rfl, ?_⟩; have n0_ := Aside0.mk (below_step (by repeat (first | (with_reducible first | exact HB.out | apply below_alloc | apply pw_below_drewN | apply below_drew1) | exact HB.out)) hb); clear HB; have HB := n0_; clear n0_; (try clear hb); (try clear hb2); (try clear hk); (try clear hi)))
  go_loopg [1, 9, 12] k (fun kq v1 v9 v12 w' => ∃ (x1_1 : ByteArray) (x9_1 : ByteArray) (x12_1 : Int), v1 = .string x1_1 ∧ v9 = .string x9_1 ∧ v12 = .int .i64 x12_1 ∧ Aside0 (clavigerref10_Decrypt.l0 kq x1_1 a2 x9_1 t3 x12_1 = some (r1, r2)) ∧ Aside0 (kq ≤ k) ∧ Aside0 (Below w.heap.size w w'))
  case atStart => exact ⟨(a1), ((⟨#[]⟩ : ByteArray)), (0), (by first | rfl | (simp; done) | (simp [*]; done)), (by first | rfl | (simp; done) | (simp [*]; done)), (by first | rfl | (simp; done) | (simp [*]; done)), H', ⟨Nat.le_refl _⟩, ⟨by repeat (first | (with_reducible first | exact HB.out | apply below_alloc | apply pw_below_drewN | apply below_drew1) | exact HB.out)⟩⟩
  case round =>
   clear H'
   try clear c1
   try clear p2
   try clear c5
   try clear c5b0
   try clear c5b1
   try clear c7
   obtain ⟨x1_1, x9_1, x12_1, rfl, rfl, rfl, HA, HK1, HB⟩ := hrel
   cases gk with
   | zero => exact absurd HA.out (by simp [clavigerref10_Decrypt.l0])
   | succ k1 =>
    have H := HA.out
    clear HA
    simp only [clavigerref10_Decrypt.l0] at H
    by_cases c8 : x12_1 < (a2.size : Int)
    ·rw [if_pos c8] at H
     have c8b0 : decide (x12_1 < (a2.size : Int)) = true := decide_eq_true c8
     clear c8
     by_cases c9 : 0 ≤ x12_1
     ·rw [if_pos c9] at H
      have c9b0 := eq_true c9
      have c9b1 : decide (0 ≤ x12_1) = true := decide_eq_true c9
      clear c9
      by_cases c10 : x12_1 ≤ (wrap64 (x12_1 + 16))
      ·rw [if_pos c10] at H
       have c10b0 := eq_true c10
       have c10b1 : decide (x12_1 ≤ (wrap64 (x12_1 + 16))) = true := decide_eq_true c10
       by_cases c11 : (wrap64 (x12_1 + 16)) ≤ (t3.size : Int)
       ·rw [if_pos c11] at H
        have c11b0 := eq_true c11
        have c11b1 : decide ((wrap64 (x12_1 + 16)) ≤ (t3.size : Int)) = true := decide_eq_true c11
        replace H := Option.bind_eq_some_iff.mp H
        obtain ⟨t1, A120, H⟩ := H
        replace H : (if x9_1.size + t1.size ≤ 9223372036854775807 then (if (wrap64 (x12_1 + 16)) ≤ (a2.size : Int) then (clavigerref10_Decrypt.l0 k1 (a2.extract (x12_1 : Int).toNat ((wrap64 (x12_1 + 16)) : Int).toNat) a2 (x9_1 ++ t1) t3 (wrap64 (x12_1 + 16))) else (none)) else (none)) = some (r1, r2) := H
        have A12 := Aside0.mk A120
        clear A120
        by_cases c13 : x9_1.size + t1.size ≤ 9223372036854775807
        ·rw [if_pos c13] at H
         have c13b0 := eq_true c13
         have c13b1 : decide (x9_1.size + t1.size ≤ 9223372036854775807) = true := decide_eq_true c13
         try have c13b2 : (9223372036854775807 < x9_1.size + t1.size) = False := eq_false (Nat.not_lt.2 c13)
         have c14b0 := eq_true (of_decide_eq_true (by first | (with_reducible assumption) | assumption) : 0 ≤ x12_1)
         have c15b0 := eq_true (of_decide_eq_true (by first | (with_reducible assumption) | assumption) : x12_1 ≤ (wrap64 (x12_1 + 16)))
         by_cases c16 : (wrap64 (x12_1 + 16)) ≤ (a2.size : Int)
         ·rw [if_pos c16] at H
          have c16b0 := eq_true c16
          have c16b1 : decide ((wrap64 (x12_1 + 16)) ≤ (a2.size : Int)) = true := decide_eq_true c16
          have H' := Aside0.mk H
          clear H
          go_wp2_with (first | ((with_reducible refine gate_callee (f := 178) rfl ?_); refine goesL_ (some 39) rfl rfl Try.func178 (by kernel_rfl) rfl #[.string (t3.extract (x12_1 : Int).toNat ((wrap64 (x12_1 + 16)) : Int).toNat), .string x1_1] rfl (by (try simp only [List.map_toArray, List.map_cons, List.map_nil]); first | done | rfl | (simp only [List.length_drop, List.length_take]; rfl) | (simp only [ByteArray.size_extract, Nat.min_self, Nat.sub_zero, ByteArray.size_append]; first | done | rfl)) ?_; (with_reducible refine (clavigerref01_Xor.calls k1 (t3.extract (x12_1 : Int).toNat ((wrap64 (x12_1 + 16)) : Int).toNat) x1_1 t1 _ A12.out).mono ?_); rintro e w17 ⟨rfl, hb⟩; refine ⟨_, rfl, ?_⟩; have n0_ := Aside0.mk (below_step (by repeat (first | (with_reducible first | exact HB.out | apply below_alloc | apply pw_below_drewN | apply below_drew1) | exact HB.out)) hb); clear HB; have HB := n0_; clear n0_; (try clear hb); (try clear hb2); (try clear hk); (try clear hi)))
          go_roundg k1
          case measure => have := HK1.out; omega
          case rel => exact ⟨(a2.extract (x12_1 : Int).toNat ((wrap64 (x12_1 + 16)) : Int).toNat), (x9_1 ++ t1), (wrap64 (x12_1 + 16)), (by first | rfl | (simp; done) | (simp [*]; done)), (by first | rfl | (simp; done) | (simp [*]; done)), (by first | rfl | (simp; done) | (simp [*]; done)), H', ⟨by have := HK1.out; omega⟩, ⟨by repeat (first | (with_reducible first | exact HB.out | apply below_alloc | apply pw_below_drewN | apply below_drew1) | exact HB.out)⟩⟩
         ·rw [if_neg c16] at H
          exact absurd H (by simp)
        ·rw [if_neg c13] at H
         exact absurd H (by simp)
       ·rw [if_neg c11] at H
        exact absurd H (by simp)
      ·rw [if_neg c10] at H
       exact absurd H (by simp)
     ·rw [if_neg c9] at H
      exact absurd H (by simp)
    ·rw [if_neg c8] at H
     have c8b0 : decide (x12_1 < (a2.size : Int)) = false := decide_eq_false c8
     clear c8
     simp only [Option.some.injEq, Prod.mk.injEq] at H
     obtain ⟨rfl, rfl⟩ := H
     go_wp2
     go_ret2
     exact ⟨by first | rfl | (simp [errW_none, errW_some] <;> rfl) | (simp [*, errW_none, errW_some] <;> rfl), by repeat (first | (with_reducible first | exact HB.out | apply below_alloc | apply pw_below_drewN | apply below_drew1) | exact HB.out)⟩
 ·rw [if_neg c5] at H
  have c5b0 : (t2 == 0) = false := beq_eq_false_iff_ne.mpr c5
  have c5b1 : (t2 != 0) = true := bne_iff_ne.mpr c5
  simp only [Option.some.injEq, Prod.mk.injEq] at H
  obtain ⟨rfl, rfl⟩ := H
  go_enter Try.func73, Try.ntmps73
  go_wp2_with (first | ((with_reducible refine gate_callee (f := 177) rfl ?_); refine goesL_ (some 16) rfl rfl Try.func177 (by kernel_rfl) rfl #[.string a0, .string a1, .string a2] rfl (by (try simp only [List.map_toArray, List.map_cons, List.map_nil]); first | done | rfl | (simp only [List.length_drop, List.length_take]; rfl) | (simp only [ByteArray.size_extract, Nat.min_self, Nat.sub_zero, ByteArray.size_append]; first | done | rfl)) ?_; (with_reducible refine (clavigerref10_bad.calls k a0 a1 a2 t2 _ A4.out).mono ?_); rintro e w' ⟨rfl, ⟨nd, rfl⟩⟩; refine ⟨_, rfl, ?_⟩))
  go_ret2
  exact ⟨by first | rfl | (simp [errW_none, errW_some] <;> rfl) | (simp [*, errW_none, errW_some] <;> rfl), by repeat (first | (with_reducible first | exact HB.out | apply below_alloc | apply pw_below_drewN | apply below_drew1) | exact HB.out)⟩

def cbc_Last.f (a0 : ByteArray) (a1 : ByteArray) : Option (ByteArray) := if (a1.size : Int) < 16 then (some a0) else (if 0 ≤ (wrap64 ((a1.size : Int) - 16)) then (if (wrap64 ((a1.size : Int) - 16)) ≤ (a1.size : Int) then (some (a1.extract ((wrap64 ((a1.size : Int) - 16)) : Int).toNat a1.size)) else (none)) else (none))
set_option maxHeartbeats 8000000 in
set_option maxRecDepth 100000 in
theorem cbc_Last.calls (a0 : ByteArray) (a1 : ByteArray) (r : ByteArray) (w : World) (h : cbc_Last.f a0 a1 = some r) :
  Calls Try.prog 120 #[.string a0, .string a1] w fun e w' => e = .returned (.string r) ∧ Drawn0 w w' := by
 have H : (if (a1.size : Int) < 16 then (some a0) else (if 0 ≤ (wrap64 ((a1.size : Int) - 16)) then (if (wrap64 ((a1.size : Int) - 16)) ≤ (a1.size : Int) then (some (a1.extract ((wrap64 ((a1.size : Int) - 16)) : Int).toNat a1.size)) else (none)) else (none))) = some r := h
 clear h
 by_cases c3 : (a1.size : Int) < 16
 ·rw [if_pos c3] at H
  have c3b0 : decide ((a1.size : Int) < 16) = true := decide_eq_true c3
  have c3b1 : decide (a1.size < 16) = true := decide_eq_true (by omega)
  clear c3
  obtain rfl := Option.some.inj H
  go_enter Try.func120, Try.ntmps120
  go_wp2
  go_ret
  exact ⟨by first | rfl | (simp; done) | (simp [*]; done) | (simp [IntKind.wrap_u8, IntKind.wrap_i64, wrap64]; done), by repeat (first | exact Drawn0.refl _ | apply Drawn0.step)⟩
 ·rw [if_neg c3] at H
  have c3b0 : decide ((a1.size : Int) < 16) = false := decide_eq_false c3
  have c3b1 : decide (a1.size < 16) = false := decide_eq_false (by omega)
  clear c3
  obtain ⟨ji4, hji4⟩ : ∃ j_ : Int, (wrap64 ((a1.size : Int) - 16)) = j_ := ⟨_, rfl⟩
  replace H : (if 0 ≤ (ji4) then (if (ji4) ≤ (a1.size : Int) then (some (a1.extract ((ji4) : Int).toNat a1.size)) else (none)) else (none)) = some r := by first | (rw [hji4] at H; exact H) | (simp only [hji4] at H ⊢; exact H)
  have hji4w : (IntKind.i64.wrap ((a1.size : Int) - 16)) = ji4 := (i64_w _).trans hji4
  by_cases c5 : 0 ≤ (ji4)
  ·rw [if_pos c5] at H
   have c5b0 := eq_true c5
   have c5b1 : decide (0 ≤ (ji4)) = true := decide_eq_true c5
   clear c5
   by_cases c6 : (ji4) ≤ (a1.size : Int)
   ·rw [if_pos c6] at H
    have c6b0 := eq_true c6
    have c6b1 : decide ((ji4) ≤ (a1.size : Int)) = true := decide_eq_true c6
    clear c6
    obtain rfl := Option.some.inj H
    go_enter Try.func120, Try.ntmps120
    go_wp2
    go_ret
    exact ⟨by first | rfl | (simp; done) | (simp only [← hji4] <;> (first | rfl | (simp; done) | (simp [IntKind.wrap_u8, IntKind.wrap_i64, wrap64]; done))) | (simp [*]; done) | (simp [IntKind.wrap_u8, IntKind.wrap_i64, wrap64]; done), by repeat (first | exact Drawn0.refl _ | apply Drawn0.step)⟩
   ·rw [if_neg c6] at H
    exact absurd H (by simp)
  ·rw [if_neg c5] at H
   exact absurd H (by simp)

def clavigerref10_Last.f (a0 : ByteArray) (a1 : ByteArray) : Option (ByteArray) := if (a1.size : Int) < 16 then (some a0) else (if 0 ≤ (wrap64 ((a1.size : Int) - 16)) then (if (wrap64 ((a1.size : Int) - 16)) ≤ (a1.size : Int) then (some (a1.extract ((wrap64 ((a1.size : Int) - 16)) : Int).toNat a1.size)) else (none)) else (none))
set_option maxHeartbeats 8000000 in
set_option maxRecDepth 100000 in
theorem clavigerref10_Last.calls (a0 : ByteArray) (a1 : ByteArray) (r : ByteArray) (w : World) (h : clavigerref10_Last.f a0 a1 = some r) :
  Calls Try.prog 121 #[.string a0, .string a1] w fun e w' => e = .returned (.string r) ∧ Drawn0 w w' := by
 have H : (if (a1.size : Int) < 16 then (some a0) else (if 0 ≤ (wrap64 ((a1.size : Int) - 16)) then (if (wrap64 ((a1.size : Int) - 16)) ≤ (a1.size : Int) then (some (a1.extract ((wrap64 ((a1.size : Int) - 16)) : Int).toNat a1.size)) else (none)) else (none))) = some r := h
 clear h
 by_cases c3 : (a1.size : Int) < 16
 ·rw [if_pos c3] at H
  have c3b0 : decide ((a1.size : Int) < 16) = true := decide_eq_true c3
  have c3b1 : decide (a1.size < 16) = true := decide_eq_true (by omega)
  clear c3
  obtain rfl := Option.some.inj H
  go_enter Try.func121, Try.ntmps121
  go_wp2
  go_ret
  exact ⟨by first | rfl | (simp; done) | (simp [*]; done) | (simp [IntKind.wrap_u8, IntKind.wrap_i64, wrap64]; done), by repeat (first | exact Drawn0.refl _ | apply Drawn0.step)⟩
 ·rw [if_neg c3] at H
  have c3b0 : decide ((a1.size : Int) < 16) = false := decide_eq_false c3
  have c3b1 : decide (a1.size < 16) = false := decide_eq_false (by omega)
  clear c3
  obtain ⟨ji4, hji4⟩ : ∃ j_ : Int, (wrap64 ((a1.size : Int) - 16)) = j_ := ⟨_, rfl⟩
  replace H : (if 0 ≤ (ji4) then (if (ji4) ≤ (a1.size : Int) then (some (a1.extract ((ji4) : Int).toNat a1.size)) else (none)) else (none)) = some r := by first | (rw [hji4] at H; exact H) | (simp only [hji4] at H ⊢; exact H)
  have hji4w : (IntKind.i64.wrap ((a1.size : Int) - 16)) = ji4 := (i64_w _).trans hji4
  by_cases c5 : 0 ≤ (ji4)
  ·rw [if_pos c5] at H
   have c5b0 := eq_true c5
   have c5b1 : decide (0 ≤ (ji4)) = true := decide_eq_true c5
   clear c5
   by_cases c6 : (ji4) ≤ (a1.size : Int)
   ·rw [if_pos c6] at H
    have c6b0 := eq_true c6
    have c6b1 : decide ((ji4) ≤ (a1.size : Int)) = true := decide_eq_true c6
    clear c6
    obtain rfl := Option.some.inj H
    go_enter Try.func121, Try.ntmps121
    go_wp2
    go_ret
    exact ⟨by first | rfl | (simp; done) | (simp only [← hji4] <;> (first | rfl | (simp; done) | (simp [IntKind.wrap_u8, IntKind.wrap_i64, wrap64]; done))) | (simp [*]; done) | (simp [IntKind.wrap_u8, IntKind.wrap_i64, wrap64]; done), by repeat (first | exact Drawn0.refl _ | apply Drawn0.step)⟩
   ·rw [if_neg c6] at H
    exact absurd H (by simp)
  ·rw [if_neg c5] at H
   exact absurd H (by simp)

end Go.Proofs.Ytokkhnjedmlbhaa.Pr
end
section
namespace Go.Proofs.YtokkhnjedmlbhaaGf
/-- A byte times x. -/
def xt (a : Nat) : Nat := if a < 128 then 2 * a else (2 * a - 256) ^^^ 27
def allB (n : Nat) (p : Nat → Bool) : Bool := match n with | 0 => true | n + 1 => p n && allB n p
theorem allB_of {n : Nat} {p : Nat → Bool} (h : allB n p = true) : ∀ a, a < n → p a = true := by
  induction n with
  | zero => intro a ha; omega
  | succ n ih =>
    intro a ha
    simp only [allB, Bool.and_eq_true] at h
    rcases Nat.lt_succ_iff_lt_or_eq.1 ha with h1 | rfl
    · exact ih h.2 a h1
    · exact h.1
theorem xt_lin_all : allB 256 (fun a => allB 256 fun b => Nat.beq (xt (a ^^^ b)) (xt a ^^^ xt b)) = true := by decide +kernel
theorem xt_lin {a b : Nat} (ha : a < 256) (hb : b < 256) : xt (a ^^^ b) = xt a ^^^ xt b :=
  Nat.eq_of_beq_eq_true (allB_of (allB_of xt_lin_all a ha) b hb)
theorem xor_lt {a b : Nat} (ha : a < 256) (hb : b < 256) : a ^^^ b < 256 := Nat.xor_lt_two_pow (n := 8) ha hb
theorem xt_lt {a : Nat} (ha : a < 256) : xt a < 256 := by
  unfold xt; split
  · omega
  · exact xor_lt (by omega) (by omega)
theorem xt_zero : xt 0 = 0 := rfl
/-- The product, by the bits of b: n of them. -/
def mulF : Nat → Nat → Nat → Nat
  | 0, _, _ => 0
  | n + 1, a, b => (if b % 2 = 1 then a else 0) ^^^ mulF n (xt a) (b / 2)
def gm (a b : Nat) : Nat := mulF 8 a b
theorem ite_lt {a : Nat} {p : Prop} [Decidable p] (ha : a < 256) : (if p then a else 0) < 256 := by split <;> omega
theorem mulF_lt (n : Nat) : ∀ {a b : Nat}, a < 256 → mulF n a b < 256 := by
  induction n with
  | zero => intro a b _; simp [mulF]
  | succ n ih => intro a b ha; exact xor_lt (ite_lt ha) (ih (xt_lt ha))
theorem gm_lt {a b : Nat} (ha : a < 256) : gm a b < 256 := mulF_lt 8 ha
theorem mulF_zero (n : Nat) : ∀ b, mulF n 0 b = 0 := by
  induction n with
  | zero => intro b; rfl
  | succ n ih => intro b; simp [mulF, xt_zero, ih]
theorem xor4 (a b c d : Nat) : (a ^^^ b) ^^^ (c ^^^ d) = (a ^^^ c) ^^^ (b ^^^ d) := by
  rw [Nat.xor_assoc, Nat.xor_assoc, ← Nat.xor_assoc b, Nat.xor_comm b c, Nat.xor_assoc c]
theorem mulF_addL (n : Nat) : ∀ {a c b : Nat}, a < 256 → c < 256 → mulF n (a ^^^ c) b = mulF n a b ^^^ mulF n c b := by
  induction n with
  | zero => intro a c b _ _; simp [mulF]
  | succ n ih =>
    intro a c b ha hc
    simp only [mulF]
    rw [xt_lin ha hc, ih (xt_lt ha) (xt_lt hc), xor4]
    congr 1
    split <;> simp
theorem mulF_xt (n : Nat) : ∀ {a b : Nat}, a < 256 → mulF n (xt a) b = xt (mulF n a b) := by
  induction n with
  | zero => intro a b _; rfl
  | succ n ih =>
    intro a b ha
    simp only [mulF]
    rw [xt_lin (ite_lt ha) (mulF_lt n (xt_lt ha)), ih (xt_lt ha)]
    congr 1
    split <;> simp [xt_zero]
theorem gm_addL {a c b : Nat} (ha : a < 256) (hc : c < 256) : gm (a ^^^ c) b = gm a b ^^^ gm c b := mulF_addL 8 ha hc
theorem gm_xt {a b : Nat} (ha : a < 256) : gm (xt a) b = xt (gm a b) := mulF_xt 8 ha
/-- A byte times 3. -/
def t3 (a : Nat) : Nat := a ^^^ xt a
theorem t3_lt {a : Nat} (ha : a < 256) : t3 a < 256 := xor_lt ha (xt_lt ha)
theorem gm_t3 {a b : Nat} (ha : a < 256) : gm (t3 a) b = t3 (gm a b) := by unfold t3; rw [gm_addL ha (xt_lt ha), gm_xt ha]
/-- b times the n-th power of 3. -/
def p3 : Nat → Nat → Nat
  | 0, b => b
  | n + 1, b => t3 (p3 n b)
theorem p3_lt (n : Nat) {b : Nat} (hb : b < 256) : p3 n b < 256 := by
  induction n with
  | zero => exact hb
  | succ n ih => exact t3_lt ih
theorem p3_add (n m b : Nat) : p3 (n + m) b = p3 n (p3 m b) := by
  induction n with
  | zero => simp [p3]
  | succ n ih => rw [Nat.succ_add]; simp only [p3]; rw [ih]
def E (n : Nat) : Nat := p3 n 1
theorem E_lt (n : Nat) : E n < 256 := p3_lt n (by omega)
theorem gm_one_all : allB 256 (fun b => Nat.beq (gm 1 b) b) = true := by decide +kernel
theorem gm_one {b : Nat} (hb : b < 256) : gm 1 b = b := Nat.eq_of_beq_eq_true (allB_of gm_one_all b hb)
theorem gm_E (n : Nat) {b : Nat} (hb : b < 256) : gm (E n) b = p3 n b := by
  induction n with
  | zero => exact gm_one hb
  | succ n ih => show gm (t3 (E n)) b = t3 (p3 n b); rw [gm_t3 (E_lt n), ih]
theorem gm_EE (n m : Nat) : gm (E n) (E m) = E (n + m) := by rw [gm_E n (E_lt m)]; unfold E; rw [p3_add]
theorem E255 : E 255 = 1 := by decide +kernel
theorem E_per (n : Nat) : E (n + 255) = E n := by unfold E; rw [p3_add]; show p3 n (E 255) = _; rw [E255]
theorem E_mod (n : Nat) : E (n % 255) = E n := by
  conv => rhs; rw [← Nat.mod_add_div n 255]
  generalize n % 255 = r
  induction n / 255 with
  | zero => simp
  | succ q ih => rw [Nat.mul_succ, ← Nat.add_assoc, E_per]; exact ih
/-- The least n at which the power of 3 is a, from p = 3^k on. -/
def lgF : Nat → Nat → Nat → Nat → Nat
  | 0, k, _, _ => k
  | f + 1, k, p, a => if p = a then k else lgF f (k + 1) (t3 p) a
def lg (a : Nat) : Nat := lgF 255 0 1 a
theorem lg_all : allB 256 (fun a => Nat.beq a 0 || (Nat.beq (E (lg a)) a && Nat.ble (lg a) 254)) = true := by decide +kernel
theorem E_lg {a : Nat} (ha : a < 256) (h0 : a ≠ 0) : E (lg a) = a ∧ lg a ≤ 254 := by
  have h := allB_of lg_all a ha
  simp only [Bool.or_eq_true, Bool.and_eq_true] at h
  rcases h with h | h
  · exact absurd (Nat.eq_of_beq_eq_true h) h0
  · exact ⟨Nat.eq_of_beq_eq_true h.1, Nat.le_of_ble_eq_true h.2⟩
theorem gm_zeroL (b : Nat) : gm 0 b = 0 := mulF_zero 8 b
theorem gm_zeroR {a : Nat} (ha : a < 256) : gm a 0 = 0 := by
  by_cases h : a = 0
  · subst h; rfl
  · rw [← (E_lg ha h).1, gm_E _ (by omega)]
    generalize lg a = n
    induction n with
    | zero => rfl
    | succ n ih => simp only [p3, ih]; rfl
theorem gm_comm {a b : Nat} (ha : a < 256) (hb : b < 256) : gm a b = gm b a := by
  by_cases h : a = 0
  · subst h; rw [gm_zeroL, gm_zeroR hb]
  by_cases h' : b = 0
  · subst h'; rw [gm_zeroL, gm_zeroR ha]
  rw [← (E_lg ha h).1, ← (E_lg hb h').1, gm_EE, gm_EE, Nat.add_comm]
theorem gm_two {a : Nat} (ha : a < 256) : gm a 2 = xt a := by rw [gm_comm ha (by omega)]; show gm (xt 1) a = _; rw [gm_xt (by omega), gm_one ha]
/-- Powers, one factor at a time. -/
def pw (a : Nat) : Nat → Nat
  | 0 => 1
  | n + 1 => gm (pw a n) a
theorem pw_lt {a : Nat} (n : Nat) : pw a n < 256 := by
  induction n with
  | zero => show 1 < 256; omega
  | succ n ih => exact gm_lt ih
theorem pw_E (m n : Nat) : pw (E m) n = E (m * n) := by
  induction n with
  | zero => rfl
  | succ n ih => simp only [pw]; rw [ih, gm_EE, Nat.mul_succ]
theorem pw_zero {n : Nat} (hn : 0 < n) : pw 0 n = 0 := by
  obtain ⟨m, rfl⟩ : ∃ m, n = m + 1 := ⟨n - 1, by omega⟩
  exact gm_zeroR (pw_lt m)
theorem pw_mod {a : Nat} (ha : a < 256) (h0 : a ≠ 0) (n : Nat) : pw a (n % 255) = pw a n := by
  rw [← (E_lg ha h0).1, pw_E, pw_E, ← E_mod, ← E_mod (lg a * n), Nat.mul_mod, Nat.mod_mod, ← Nat.mul_mod]
/-- The byte with which the product is 1. -/
def inv (a : Nat) : Nat := if a = 0 then 0 else E ((255 - lg a) % 255)
theorem inv_lt (a : Nat) : inv a < 256 := by unfold inv; split; omega; exact E_lt _
end Go.Proofs.YtokkhnjedmlbhaaGf
end
section
namespace Go.Proofs.Ytokkhnjedmlbhaa.M
open Go.RowKit Go.Proofs.Ytokkhnjedmlbhaa.Pr Go.Proofs.YtokkhnjedmlbhaaW.PrintWords Go.Proofs.YtokkhnjedmlbhaaW.PrintLast Go.Proofs.YtokkhnjedmlbhaaW.PrintMore Go.Proofs.YtokkhnjedmlbhaaGf
theorem wrap_id {x : Int} (h0 : -9223372036854775808 ≤ x) (h1 : x ≤ 9223372036854775807) : wrap64 x = x := by unfold wrap64; omega
theorem bx {a b : Nat} (ha : a < 256) (hb : b < 256) : Go.bits .xor .u8 (a : Int) (b : Int) = ((a ^^^ b : Nat) : Int) := u8_xor_nat a b ha hb
theorem twice_all : allB 256 (fun a => decide (field_Twice.f (a : Int) = some ((xt a : Nat) : Int))) = true := by decide +kernel
theorem twice_c {a : Nat} (ha : a < 256) : field_Twice.f (a : Int) = some ((xt a : Nat) : Int) := of_decide_eq_true (allB_of twice_all a ha)
/-- a to the power n; 1 for what is below 1. -/
def powI (a : Nat) (n : Int) : Nat := pw a n.toNat
end Go.Proofs.Ytokkhnjedmlbhaa.M
end
section
namespace Go.Proofs.Ytokkhnjedmlbhaa.M
open Go.RowKit Go.Proofs.Ytokkhnjedmlbhaa.Pr Go.Proofs.YtokkhnjedmlbhaaW.PrintWords Go.Proofs.YtokkhnjedmlbhaaW.PrintLast Go.Proofs.YtokkhnjedmlbhaaW.PrintMore Go.Proofs.YtokkhnjedmlbhaaGf
theorem ix {p q : Nat} (hp : p < 4611686018427387904) (hq : q < 4611686018427387904) : Go.bits .xor .i64 (p : Int) (q : Int) = ((p ^^^ q : Nat) : Int) := by
  have h := Nat.xor_lt_two_pow (n := 62) hp hq
  have h1 : p % 2 ^ 64 = p := Nat.mod_eq_of_lt (by omega)
  have h2 : q % 2 ^ 64 = q := Nat.mod_eq_of_lt (by omega)
  show IntKind.i64.wrap (((BitVec.ofInt 64 (p : Int)) ^^^ (BitVec.ofInt 64 (q : Int))).toNat : Int) = _
  simp only [BitVec.ofInt_natCast, BitVec.toNat_xor, BitVec.toNat_ofNat, h1, h2]
  rw [IntKind.wrap_i64]
  omega
theorem shr_c {b k : Nat} (hk : k ≤ 64) : shr .i64 (b : Int) (k : Int) = ((b / 2 ^ k : Nat) : Int) := by
  unfold shr
  rw [show min ((k : Int).toNat) IntKind.i64.bits = k from by simp [IntKind.bits]; omega]
  simp
theorem shl_c {a k : Nat} (hk : k ≤ 64) (h : a * 2 ^ k < 9223372036854775808) : shl .i64 (a : Int) (k : Int) = ((a * 2 ^ k : Nat) : Int) := by
  unfold shl
  rw [show min ((k : Int).toNat) IntKind.i64.bits = k from by simp [IntKind.bits]; omega]
  have : (a : Int) * 2 ^ k = ((a * 2 ^ k : Nat) : Int) := by simp
  rw [this, IntKind.wrap_i64]
  omega
theorem tmod2 (x : Nat) : Int.tmod (x : Int) 2 = ((x % 2 : Nat) : Int) := by rw [Int.tmod_eq_emod_of_nonneg (by omega)]; omega
/-- The product without a remainder, by the first k bits of b. -/
def clT (a b : Nat) : Nat → Nat
  | 0 => 0
  | k + 1 => clT a b k ^^^ (if b / 2 ^ k % 2 = 1 then a * 2 ^ k else 0)
/-- The remainder, j steps of it. -/
def rdT (p : Nat) : Nat → Nat
  | 0 => p
  | j + 1 => rdT p j ^^^ (if rdT p j / 2 ^ (14 - j) % 2 = 1 then 283 * 2 ^ (6 - j) else 0)
theorem pow_le8 {k : Nat} (hk : k < 8) : 2 ^ k ≤ 128 := by
  have : 2 ^ k ≤ 2 ^ 7 := Nat.pow_le_pow_right (by omega) (by omega)
  omega
theorem clT_lt {a b : Nat} (ha : a < 256) (k : Nat) (hk : k ≤ 8) : clT a b k < 32768 := by
  induction k with
  | zero => show 0 < 32768; omega
  | succ k ih =>
    refine Nat.xor_lt_two_pow (n := 15) (ih (by omega)) ?_
    have h1 := pow_le8 (show k < 8 by omega)
    have h2 : a * 2 ^ k ≤ 255 * 128 := Nat.mul_le_mul (by omega) h1
    split
    · show _ < 32768; omega
    · show 0 < 32768; omega
theorem rdT_lt {p : Nat} (hp : p < 32768) (j : Nat) (hj : j ≤ 7) : rdT p j < 32768 := by
  induction j with
  | zero => exact hp
  | succ j ih =>
    refine Nat.xor_lt_two_pow (n := 15) (ih (by omega)) ?_
    have h1 : 2 ^ (6 - j) ≤ 2 ^ 6 := Nat.pow_le_pow_right (by omega) (by omega)
    have h2 : 283 * 2 ^ (6 - j) ≤ 283 * 64 := Nat.mul_le_mul_left _ h1
    split
    · show _ < 32768; omega
    · show 0 < 32768; omega
theorem bit_xor (p q i : Nat) : (p ^^^ q) / 2 ^ i % 2 = 1 ↔ ¬ (p / 2 ^ i % 2 = 1 ↔ q / 2 ^ i % 2 = 1) := by
  have h := Nat.testBit_xor p q i
  simp only [Nat.testBit_eq_decide_div_mod_eq] at h
  by_cases h1 : p / 2 ^ i % 2 = 1 <;> by_cases h2 : q / 2 ^ i % 2 = 1 <;> simp [h1, h2] at h ⊢ <;> simpa using h
theorem rdT_xor (p q j : Nat) : rdT (p ^^^ q) j = rdT p j ^^^ rdT q j := by
  induction j with
  | zero => rfl
  | succ j ih =>
    simp only [rdT]
    rw [ih, xor4]
    congr 1
    have h := bit_xor (rdT p j) (rdT q j) (14 - j)
    by_cases h1 : rdT p j / 2 ^ (14 - j) % 2 = 1 <;> by_cases h2 : rdT q j / 2 ^ (14 - j) % 2 = 1 <;> simp [h, h1, h2]
theorem rdT_zero (j : Nat) : rdT 0 j = 0 := by
  induction j with
  | zero => rfl
  | succ j ih => simp [rdT, ih]
/-- xt, k times. -/
def xtN : Nat → Nat → Nat
  | 0, a => a
  | k + 1, a => xtN k (xt a)
theorem rd_all : allB 256 (fun a => allB 8 fun k => Nat.beq (rdT (a * 2 ^ k) 7) (xtN k a)) = true := by decide +kernel
theorem rd_pow {a k : Nat} (ha : a < 256) (hk : k < 8) : rdT (a * 2 ^ k) 7 = xtN k a := Nat.eq_of_beq_eq_true (allB_of (allB_of rd_all a ha) k hk)
theorem rd_ite {a k : Nat} {c : Prop} [Decidable c] (ha : a < 256) (hk : k < 8) : rdT (if c then a * 2 ^ k else 0) 7 = if c then xtN k a else 0 := by
  split
  · exact rd_pow ha hk
  · exact rdT_zero 7
theorem rd_cl {a : Nat} (b : Nat) (ha : a < 256) : rdT (clT a b 8) 7 = gm a b := by
  simp only [clT, rdT_xor, rdT_zero, rd_ite ha (show 0 < 8 by omega), rd_ite ha (show 1 < 8 by omega), rd_ite ha (show 2 < 8 by omega), rd_ite ha (show 3 < 8 by omega), rd_ite ha (show 4 < 8 by omega), rd_ite ha (show 5 < 8 by omega), rd_ite ha (show 6 < 8 by omega), rd_ite ha (show 7 < 8 by omega)]
  simp only [gm, mulF, xtN, Nat.div_div_eq_div_mul, Nat.zero_xor, Nat.xor_zero, Nat.xor_assoc, Nat.pow_zero, Nat.div_one]
theorem refMulR (d : Nat) : ∀ (j p : Nat), j ≤ 7 → 7 - j = d → p < 32768 → Ev (fun k => clavigerref05_Mul.l1 k ((rdT p j : Nat) : Int) ((14 - j : Nat) : Int)) (((rdT p 7 % 256 : Nat)) : Int) := by
  induction d with
  | zero =>
    intro j p hj hd hp
    obtain rfl : j = 7 := by omega
    refine Ev.step (f := fun _ => some (((rdT p 7 : Nat) : Int) % 256)) (fun k => by simp only [clavigerref05_Mul.l1]; rw [if_neg (by omega)]) ?_
    exact Ev.now _
  | succ d ih =>
    intro j p hj hd hp
    have hi := ih (j + 1) p (by omega) (by omega) hp
    have hl := rdT_lt hp j hj
    refine Ev.step (fun k => ?_) hi
    simp only [clavigerref05_Mul.l1]
    rw [if_pos (by omega), if_pos (by omega), shr_c (by omega), tmod2]
    have e1 : wrap64 (((14 - j : Nat) : Int) - 1) = ((14 - (j + 1) : Nat) : Int) := by unfold wrap64; omega
    have e2 : wrap64 (((14 - j : Nat) : Int) - 8) = ((6 - j : Nat) : Int) := by unfold wrap64; omega
    have h1 : 2 ^ (6 - j) ≤ 2 ^ 6 := Nat.pow_le_pow_right (by omega) (by omega)
    have h2 : 283 * 2 ^ (6 - j) ≤ 283 * 64 := Nat.mul_le_mul_left _ h1
    rw [e1, e2]
    by_cases hb : rdT p j / 2 ^ (14 - j) % 2 = 1
    · rw [if_pos (by omega), if_pos (by omega), show (283 : Int) = ((283 : Nat) : Int) from rfl, shl_c (by omega) (by omega), ix (by omega) (by omega)]
      simp only [rdT]
      rw [if_pos hb]
    · rw [if_neg (by omega)]
      simp only [rdT]
      rw [if_neg hb, Nat.xor_zero]
theorem refMulL (d : Nat) : ∀ (j a b : Nat), j ≤ 8 → 8 - j = d → a < 256 → b < 256 → Ev (fun k => clavigerref05_Mul.l0 k (a : Int) (b : Int) ((clT a b j : Nat) : Int) (j : Int)) ((gm a b : Nat) : Int) := by
  induction d with
  | zero =>
    intro j a b hj hd ha hb
    obtain rfl : j = 8 := by omega
    have hr := refMulR 7 0 (clT a b 8) (by omega) (by omega) (clT_lt ha 8 (by omega))
    rw [rd_cl b ha, Nat.mod_eq_of_lt (gm_lt ha)] at hr
    refine Ev.step (fun k => ?_) hr
    simp only [clavigerref05_Mul.l0]
    rw [if_neg (by omega)]
    rfl
  | succ d ih =>
    intro j a b hj hd ha hb
    have hi := ih (j + 1) a b (by omega) (by omega) ha hb
    have hl := clT_lt (b := b) ha j hj
    refine Ev.step (fun k => ?_) hi
    simp only [clavigerref05_Mul.l0]
    have h1 := pow_le8 (show j < 8 by omega)
    have h2 : a * 2 ^ j ≤ 255 * 128 := Nat.mul_le_mul (by omega) h1
    rw [if_pos (by omega), if_pos (by omega), wrap_id (x := (b : Int)) (by omega) (by omega), wrap_id (x := (a : Int)) (by omega) (by omega), wrap_id (x := (j : Int) + 1) (by omega) (by omega), shr_c (by omega), tmod2]
    by_cases hb' : b / 2 ^ j % 2 = 1
    · rw [if_pos (by omega), shl_c (by omega) (by omega), ix (by omega) (by omega)]
      simp only [clT]
      rw [if_pos hb']
      rfl
    · rw [if_neg (by omega)]
      simp only [clT]
      rw [if_neg hb', Nat.xor_zero]
      rfl
theorem rmul_c {a b : Nat} (ha : a < 256) (hb : b < 256) : Ev (fun k => clavigerref05_Mul.f k (a : Int) (b : Int)) ((gm a b : Nat) : Int) := refMulL 8 0 a b (by omega) (by omega) ha hb
theorem rpowL (d : Nat) : ∀ (i a : Nat) (n : Int), 0 ≤ n → i ≤ (n.toNat % 255) → n.toNat % 255 - i = d → a < 256 → Ev (fun k => clavigerref05_Pow.l0 k (a : Int) n ((pw a i : Nat) : Int) (i : Int)) ((pw a (n.toNat % 255) : Nat) : Int) := by
  induction d with
  | zero =>
    intro i a n h0 hi hd ha
    obtain rfl : i = n.toNat % 255 := by omega
    refine Ev.step (f := fun _ => some ((pw a (n.toNat % 255) : Nat) : Int)) (fun k => by simp only [clavigerref05_Pow.l0]; rw [if_neg (by rw [Int.tmod_eq_emod_of_nonneg h0]; omega)]) (Ev.now _)
  | succ d ih =>
    intro i a n h0 hi hd ha
    have hh := ih (i + 1) a n h0 (by omega) (by omega) ha
    refine Ev.step (f := fun k => (clavigerref05_Mul.f k ((pw a i : Nat) : Int) (a : Int)).bind fun t109 => (clavigerref05_Pow.l0 k (a : Int) n t109 (wrap64 ((i : Int) + 1)))) (fun k => by simp only [clavigerref05_Pow.l0]; rw [if_pos (by rw [Int.tmod_eq_emod_of_nonneg h0]; omega)]) ?_
    refine Ev.bind (rmul_c (pw_lt i) ha) ?_
    rw [wrap_id (by omega) (by omega)]
    exact hh
theorem rpow_c {a : Nat} (ha : a < 256) (n : Int) : Ev (fun k => clavigerref05_Pow.f k (a : Int) n) ((powI a n : Nat) : Int) := by
  unfold powI
  by_cases h : n < 1
  · refine Ev.congr (f := fun _ => some (1 : Int)) (fun k => by simp only [clavigerref05_Pow.f]; rw [if_pos h]) ?_
    rw [show n.toNat = 0 by omega]
    exact Ev.now _
  · by_cases h0 : a = 0
    · subst h0
      refine Ev.congr (f := fun _ => some (0 : Int)) (fun k => by simp only [clavigerref05_Pow.f]; rw [if_neg h, if_pos (by rfl)]) ?_
      rw [pw_zero (by omega)]
      exact Ev.now _
    · have := rpowL (n.toNat % 255) 0 a n (by omega) (by omega) (by omega) ha
      rw [pw_mod ha h0] at this
      refine Ev.congr (fun k => by simp only [clavigerref05_Pow.f]; rw [if_neg h, if_neg (by omega)]; rfl) this
end Go.Proofs.Ytokkhnjedmlbhaa.M
end
section
namespace Go.Proofs.Ytokkhnjedmlbhaa.M
open Go.RowKit Go.Proofs.Ytokkhnjedmlbhaa.Pr Go.Proofs.YtokkhnjedmlbhaaW.PrintWords Go.Proofs.YtokkhnjedmlbhaaW.PrintLast Go.Proofs.YtokkhnjedmlbhaaW.PrintMore Go.Proofs.YtokkhnjedmlbhaaGf
theorem of_byte {a : Int} (h : (Lit.int .u8 a).wf = true) : ∃ n : Nat, n < 256 ∧ a = (n : Int) := by
  simp [Lit.wf, IntKind.min, IntKind.max, IntKind.signed, IntKind.bits] at h
  exact ⟨a.toNat, by omega, by omega⟩
/-- A call whose answer is known, ahead of what goes on with it. -/
theorem evb {α β : Type} {g : Nat → Option α} {f : Nat → α → Option β} {a : α} {r : β} (h : Ev g a) (k : Ev (fun n => f n a) r) : Ev (fun n => (g n).bind (f n)) r := Ev.bind h k
theorem evs {α β : Type} {g : Option α} {f : Nat → α → Option β} {a : α} {r : β} (h : g = some a) (k : Ev (fun n => f n a) r) : Ev (fun n => g.bind (f n)) r := by subst h; exact k
theorem evp {α : Type} {c : Prop} [Decidable c] {f g : Nat → Option α} {r : α} (h : c) (k : Ev f r) : Ev (fun n => if c then f n else g n) r := by simp only [if_pos h]; exact k
theorem evn {α : Type} {c : Prop} [Decidable c] {f g : Nat → Option α} {r : α} (h : ¬ c) (k : Ev g r) : Ev (fun n => if c then f n else g n) r := by simp only [if_neg h]; exact k
/-- The byte at a place, as a number. -/
def bb (s : ByteArray) (i : Nat) : Nat := (bt s (i : Int)).toNat
theorem bb_lt (s : ByteArray) (i : Nat) : bb s i < 256 := by have := bt_range s (i : Int); unfold bb; omega
theorem bt_bb (s : ByteArray) (i : Nat) : bt s (i : Int) = ((bb s i : Nat) : Int) := by have := bt_range s (i : Int); unfold bb; omega
end Go.Proofs.Ytokkhnjedmlbhaa.M
end
