-- several texts in one (by the session's program shake.py)
import Derived.Test.YtokkhnjedmlbhaaZPrg01x
import Derived.Test.YtokkhnjedmlbhaaZPrg09
import Derived.Test.YtokkhnjedmlbhaaZPrg01
import Derived.Test.YtokkhnjedmlbhaaZSboxP
import Derived.Test.YtokkhnjedmlbhaaZXor
import Derived.ScopeJumps
import Derived.Test.YtokkhnjedmlbhaaZRoundM
import Derived.Test.YtokkhnjedmlbhaaZJoin
import Derived.Laws.BitsAllLaws
section
namespace Go.Proofs.Ytokkhnjedmlbhaa.Pr
open Go.RowKit Go.Proofs.YtokkhnjedmlbhaaW.PrintWords Go.Proofs.YtokkhnjedmlbhaaW.PrintLast Go.Proofs.YtokkhnjedmlbhaaW.PrintMore
attribute [local go_sem] max2_int min2_int max_two min_two max_three min_three max_four min_four   -- for this text's walks alone
set_option linter.unusedVariables false
set_option linter.unusedSimpArgs false

def clavigerref11_Subkeys.f (k : Nat) (a0 : ByteArray) : Option (ByteArray × ByteArray × Int) := (clavigerref01_Zeros.f 16).bind fun t1 => ((clavigerref09_Encrypt.f k a0 t1).bind fun bt2 => (if bt2.2 = 0 then ((clavigerref11_Double.f bt2.1).bind fun t3 => ((clavigerref11_Double.f bt2.1).bind fun t4 => ((clavigerref11_Double.f t4).bind fun t5 => (some (t3, t5, 0))))) else (some ((⟨#[]⟩ : ByteArray), (⟨#[]⟩ : ByteArray), bt2.2))))
theorem clavigerref11_Subkeys.mono : ∀ a0 k, LeO (clavigerref11_Subkeys.f k a0) (clavigerref11_Subkeys.f (k + 1) a0) := by
 intro a0 k
 unfold clavigerref11_Subkeys.f
 repeat' first
   | (with_reducible exact clavigerref09_Encrypt.mono _ _ _)
   | (with_reducible exact LeO.refl _)
   | (with_reducible exact LeO.none _)
   | (with_reducible refine LeO.ite ?_ ?_)
   | (with_reducible refine LeO.bind ?_ (fun _ => ?_))
set_option maxHeartbeats 8000000 in
set_option maxRecDepth 100000 in
theorem clavigerref11_Subkeys.calls (k : Nat) (a0 : ByteArray) (r1 : ByteArray) (r2 : ByteArray) (r3 : Int) (w : World) (h : clavigerref11_Subkeys.f k a0 = some (r1, r2, r3)) :
  Calls Try.prog 112 #[.string a0] w fun e w' => e = .returned (.tuple #[.string r1, .string r2, .int .i64 r3]) ∧ Below w.heap.size w w' := by
 have HB := Aside0.mk (Below.refl w.heap.size w)
 have H : ((clavigerref01_Zeros.f 16).bind fun t1 => ((clavigerref09_Encrypt.f k a0 t1).bind fun bt2 => (if bt2.2 = 0 then ((clavigerref11_Double.f bt2.1).bind fun t3 => ((clavigerref11_Double.f bt2.1).bind fun t4 => ((clavigerref11_Double.f t4).bind fun t5 => (some (t3, t5, 0))))) else (some ((⟨#[]⟩ : ByteArray), (⟨#[]⟩ : ByteArray), bt2.2))))) = some (r1, r2, r3) := h
 clear h
 replace H := Option.bind_eq_some_iff.mp H
 obtain ⟨t1, A20, H⟩ := H
 try dsimp only at H
 have A2 := Aside0.mk A20
 clear A20
 replace H := Option.bind_eq_some_iff.mp H
 obtain ⟨⟨t2, t6⟩, A30, H⟩ := H
 try dsimp only at H
 have A3 := Aside0.mk A30
 clear A30
 by_cases c4 : t6 = 0
 ·rw [if_pos c4] at H
  have c4b0 : (t6 == 0) = true := beq_iff_eq.mpr c4
  have c4b1 : (t6 != 0) = false := bne_eq_false_iff_eq.mpr c4
  clear c4
  replace H := Option.bind_eq_some_iff.mp H
  obtain ⟨t3, A50, H⟩ := H
  try dsimp only at H
  have A5 := Aside0.mk A50
  clear A50
  replace H := Option.bind_eq_some_iff.mp H
  obtain ⟨t4, A60, H⟩ := H
  try dsimp only at H
  have A6 := Aside0.mk A60
  clear A60
  replace H := Option.bind_eq_some_iff.mp H
  obtain ⟨t5, A70, H⟩ := H
  replace H : (some (t3, t5, 0)) = some (r1, r2, r3) := H
  have A7 := Aside0.mk A70
  clear A70
  simp only [Option.some.injEq, Prod.mk.injEq] at H
  obtain ⟨rfl, rfl, rfl⟩ := H
  go_enter Try.func112, Try.ntmps112
  go_wp2_with (first | ((with_reducible refine gate_callee (f := 179) rfl ?_); refine goesL_ (some 9) rfl rfl Try.func179 (by kernel_rfl) rfl #[.int .i64 16] rfl (by (try simp only [lT, lC, lN]); first | done | rfl) ?_; (with_reducible refine (clavigerref01_Zeros.calls 16 t1 _ A2.out).mono ?_); rintro e w8 ⟨rfl, hb⟩; refine ⟨_, rfl, ?_⟩; have n0_ := Aside0.mk (below_step (by repeat first | with_reducible (first | exact HB.out | apply bA | apply bN | apply bD) | exact HB.out) hb); clear HB; have HB := n0_; clear n0_; (try clear hb); (try clear hb2); (try clear hk); (try clear hi)) | ((with_reducible refine gate_callee (f := 99) rfl ?_); refine goesL_ (some 10) rfl rfl Try.func99 (by kernel_rfl) rfl #[.string a0, .string t1] rfl (by (try simp only [lT, lC, lN]); first | done | rfl) ?_; (with_reducible refine (clavigerref09_Encrypt.calls k a0 t1 t2 t6 _ A3.out).mono ?_); rintro e w9 ⟨rfl, hb⟩; refine ⟨_, rfl, ?_⟩; have n0_ := Aside0.mk (below_step (by repeat first | with_reducible (first | exact HB.out | apply bA | apply bN | apply bD) | exact HB.out) hb); clear HB; have HB := n0_; clear n0_; (try clear hb); (try clear hb2); (try clear hk); (try clear hi)) | ((with_reducible refine gate_callee (f := 113) rfl ?_); refine goesL_ (some 17) rfl rfl Try.func113 (by kernel_rfl) rfl #[.string t2] rfl (by (try simp only [lT, lC, lN]); first | done | rfl) ?_; (with_reducible refine (clavigerref11_Double.calls t2 t3 _ A5.out).mono ?_); rintro e w10 ⟨rfl, hb⟩; refine ⟨_, rfl, ?_⟩; have n0_ := Aside0.mk (below_step (by repeat first | with_reducible (first | exact HB.out | apply bA | apply bN | apply bD) | exact HB.out) hb); clear HB; have HB := n0_; clear n0_; (try clear hb); (try clear hb2); (try clear hk); (try clear hi)) | ((with_reducible refine gate_callee (f := 113) rfl ?_); refine goesL_ (some 19) rfl rfl Try.func113 (by kernel_rfl) rfl #[.string t2] rfl (by (try simp only [lT, lC, lN]); first | done | rfl) ?_; (with_reducible refine (clavigerref11_Double.calls t2 t4 _ A6.out).mono ?_); rintro e w11 ⟨rfl, hb⟩; refine ⟨_, rfl, ?_⟩; have n0_ := Aside0.mk (below_step (by repeat first | with_reducible (first | exact HB.out | apply bA | apply bN | apply bD) | exact HB.out) hb); clear HB; have HB := n0_; clear n0_; (try clear hb); (try clear hb2); (try clear hk); (try clear hi)) | ((with_reducible refine gate_callee (f := 113) rfl ?_); refine goesL_ (some 20) rfl rfl Try.func113 (by kernel_rfl) rfl #[.string t4] rfl (by (try simp only [lT, lC, lN]); first | done | rfl) ?_; (with_reducible refine (clavigerref11_Double.calls t4 t5 _ A7.out).mono ?_); rintro e w12 ⟨rfl, hb⟩; refine ⟨_, rfl, ?_⟩; have n0_ := Aside0.mk (below_step (by repeat first | with_reducible (first | exact HB.out | apply bA | apply bN | apply bD) | exact HB.out) hb); clear HB; have HB := n0_; clear n0_; (try clear hb); (try clear hb2); (try clear hk); (try clear hi)))
  go_ret3
  exact ⟨by first | rfl | (simp [*, errW_none, errW_some] <;> rfl), by repeat first | with_reducible (first | exact HB.out | apply bA | apply bN | apply bD) | exact HB.out⟩
 ·rw [if_neg c4] at H
  have c4b0 : (t6 == 0) = false := beq_eq_false_iff_ne.mpr c4
  have c4b1 : (t6 != 0) = true := bne_iff_ne.mpr c4
  simp only [Option.some.injEq, Prod.mk.injEq] at H
  obtain ⟨rfl, rfl, rfl⟩ := H
  go_enter Try.func112, Try.ntmps112
  go_wp2_with (first | ((with_reducible refine gate_callee (f := 179) rfl ?_); refine goesL_ (some 9) rfl rfl Try.func179 (by kernel_rfl) rfl #[.int .i64 16] rfl (by (try simp only [lT, lC, lN]); first | done | rfl) ?_; (with_reducible refine (clavigerref01_Zeros.calls 16 t1 _ A2.out).mono ?_); rintro e w13 ⟨rfl, hb⟩; refine ⟨_, rfl, ?_⟩; have n0_ := Aside0.mk (below_step (by repeat first | with_reducible (first | exact HB.out | apply bA | apply bN | apply bD) | exact HB.out) hb); clear HB; have HB := n0_; clear n0_; (try clear hb); (try clear hb2); (try clear hk); (try clear hi)) | ((with_reducible refine gate_callee (f := 99) rfl ?_); refine goesL_ (some 10) rfl rfl Try.func99 (by kernel_rfl) rfl #[.string a0, .string t1] rfl (by (try simp only [lT, lC, lN]); first | done | rfl) ?_; (with_reducible refine (clavigerref09_Encrypt.calls k a0 t1 t2 t6 _ A3.out).mono ?_); rintro e w14 ⟨rfl, hb⟩; refine ⟨_, rfl, ?_⟩; have n0_ := Aside0.mk (below_step (by repeat first | with_reducible (first | exact HB.out | apply bA | apply bN | apply bD) | exact HB.out) hb); clear HB; have HB := n0_; clear n0_; (try clear hb); (try clear hb2); (try clear hk); (try clear hi)))
  go_ret3
  exact ⟨by first | rfl | (simp [*, errW_none, errW_some] <;> rfl), by repeat first | with_reducible (first | exact HB.out | apply bA | apply bN | apply bD) | exact HB.out⟩

def clavigerref11_Tag.l0 : Nat → ByteArray → ByteArray → ByteArray → ByteArray → ByteArray → Option (ByteArray × Int)
 | 0, _, _, _, _, _ => none
 | k + 1, x0, x1, x6, x7, x9 => if (x1.size : Int) > 16 then (if 0 ≤ 16 then (if 16 ≤ (x1.size : Int) then ((clavigerref01_Xor.f k x9 (x1.extract 0 16)).bind fun t1 => ((clavigerref09_Encrypt.f k x0 t1).bind fun bt2 => (clavigerref11_Tag.l0 k x0 (x1.extract 16 x1.size) x6 x7 bt2.1))) else (none)) else (none)) else (if (x1.size : Int) = 16 then ((clavigerref01_Xor.f k x1 x6).bind fun t3 => ((clavigerref01_Xor.f k x9 t3).bind fun t4 => ((clavigerref09_Encrypt.f k x0 t4).bind fun bt5 => (some (bt5.1, 0))))) else (if x1.size + 1 ≤ 9223372036854775807 then ((clavigerref01_Pad.f k (x1 ++ (⟨#[128]⟩ : ByteArray)) 16).bind fun t6 => ((clavigerref01_Xor.f k t6 x7).bind fun t7 => ((clavigerref01_Xor.f k x9 t7).bind fun t8 => ((clavigerref09_Encrypt.f k x0 t8).bind fun bt9 => (some (bt9.1, 0)))))) else (none)))
def clavigerref11_Tag.f (k : Nat) (a0 : ByteArray) (a1 : ByteArray) : Option (ByteArray × Int) := (clavigerref11_Subkeys.f k a0).bind fun bt10 => (if bt10.2.2 = 0 then ((clavigerref01_Zeros.f 16).bind fun t11 => (clavigerref11_Tag.l0 k a0 a1 bt10.1 bt10.2.1 t11)) else (some ((⟨#[]⟩ : ByteArray), bt10.2.2)))
theorem clavigerref11_Tag.mono_l : ∀ k, (∀ y12 y13 y14 y15 y16, LeO (clavigerref11_Tag.l0 k y12 y13 y14 y15 y16) (clavigerref11_Tag.l0 (k + 1) y12 y13 y14 y15 y16))
 | 0 => fun _ _ _ _ _ r h => by simp [clavigerref11_Tag.l0] at h
 | k + 1 => by
  have ih0 := clavigerref11_Tag.mono_l k
  ·intro y12 y13 y14 y15 y16
   unfold clavigerref11_Tag.l0
   repeat' first
   | (with_reducible exact ih0 _ _ _ _ _)
   | (with_reducible exact clavigerref01_Pad.mono _ _ _)
   | (with_reducible exact clavigerref01_Xor.mono _ _ _)
   | (with_reducible exact clavigerref09_Encrypt.mono _ _ _)
   | (with_reducible exact clavigerref11_Subkeys.mono _ _)
   | (with_reducible exact LeO.refl _)
   | (with_reducible exact LeO.none _)
   | (with_reducible refine LeO.ite ?_ ?_)
   | (with_reducible refine LeO.bind ?_ (fun _ => ?_))
theorem clavigerref11_Tag.mono : ∀ a0 a1 k, LeO (clavigerref11_Tag.f k a0 a1) (clavigerref11_Tag.f (k + 1) a0 a1) := by
 intro a0 a1 k
 have ih0 := clavigerref11_Tag.mono_l k
 unfold clavigerref11_Tag.f
 repeat' first
   | (with_reducible exact ih0 _ _ _ _ _)
   | (with_reducible exact clavigerref01_Pad.mono _ _ _)
   | (with_reducible exact clavigerref01_Xor.mono _ _ _)
   | (with_reducible exact clavigerref09_Encrypt.mono _ _ _)
   | (with_reducible exact clavigerref11_Subkeys.mono _ _)
   | (with_reducible exact LeO.refl _)
   | (with_reducible exact LeO.none _)
   | (with_reducible refine LeO.ite ?_ ?_)
   | (with_reducible refine LeO.bind ?_ (fun _ => ?_))
set_option maxHeartbeats 8000000 in
set_option maxRecDepth 100000 in
theorem clavigerref11_Tag.calls (k : Nat) (a0 : ByteArray) (a1 : ByteArray) (r1 : ByteArray) (r2 : Int) (w : World) (h : clavigerref11_Tag.f k a0 a1 = some (r1, r2)) :
  Calls Try.prog 74 #[.string a0, .string a1] w fun e w' => e = .returned (.tuple #[.string r1, .int .i64 r2]) ∧ Below w.heap.size w w' := by
 have HB := Aside0.mk (Below.refl w.heap.size w)
 have H : ((clavigerref11_Subkeys.f k a0).bind fun bt10 => (if bt10.2.2 = 0 then ((clavigerref01_Zeros.f 16).bind fun t11 => (clavigerref11_Tag.l0 k a0 a1 bt10.1 bt10.2.1 t11)) else (some ((⟨#[]⟩ : ByteArray), bt10.2.2)))) = some (r1, r2) := h
 clear h
 replace H := Option.bind_eq_some_iff.mp H
 obtain ⟨⟨t10, t17, t18⟩, A30, H⟩ := H
 try dsimp only at H
 have A3 := Aside0.mk A30
 clear A30
 by_cases c4 : t18 = 0
 ·rw [if_pos c4] at H
  have c4b0 : (t18 == 0) = true := beq_iff_eq.mpr c4
  have c4b1 : (t18 != 0) = false := bne_eq_false_iff_eq.mpr c4
  clear c4
  replace H := Option.bind_eq_some_iff.mp H
  obtain ⟨t11, A50, H⟩ := H
  try dsimp only at H
  have A5 := Aside0.mk A50
  clear A50
  have H' := Aside0.mk H
  clear H
  go_enter Try.func74, Try.ntmps74
  go_wp2_with (first | ((with_reducible refine gate_callee (f := 112) rfl ?_); refine goesL_ (some 12) rfl rfl Try.func112 (by kernel_rfl) rfl #[.string a0] rfl (by (try simp only [lT, lC, lN]); first | done | rfl) ?_; (with_reducible refine (clavigerref11_Subkeys.calls k a0 t10 t17 t18 _ A3.out).mono ?_); rintro e w6 ⟨rfl, hb⟩; refine ⟨_, rfl, ?_⟩; have n0_ := Aside0.mk (below_step (by repeat first | with_reducible (first | exact HB.out | apply bA | apply bN | apply bD) | exact HB.out) hb); clear HB; have HB := n0_; clear n0_; (try clear hb); (try clear hb2); (try clear hk); (try clear hi)) | ((with_reducible refine gate_callee (f := 179) rfl ?_); refine goesL_ (some 19) rfl rfl Try.func179 (by kernel_rfl) rfl #[.int .i64 16] rfl (by (try simp only [lT, lC, lN]); first | done | rfl) ?_; (with_reducible refine (clavigerref01_Zeros.calls 16 t11 _ A5.out).mono ?_); rintro e w7 ⟨rfl, hb⟩; refine ⟨_, rfl, ?_⟩; have n0_ := Aside0.mk (below_step (by repeat first | with_reducible (first | exact HB.out | apply bA | apply bN | apply bD) | exact HB.out) hb); clear HB; have HB := n0_; clear n0_; (try clear hb); (try clear hb2); (try clear hk); (try clear hi)))
  go_loopg [1, 9] k (fun kq v1 v9 w' => ∃ (x1_1 : ByteArray) (x9_1 : ByteArray), v1 = .string x1_1 ∧ v9 = .string x9_1 ∧ Aside0 (clavigerref11_Tag.l0 kq a0 x1_1 t10 t17 x9_1 = some (r1, r2)) ∧ Aside0 (kq ≤ k) ∧ Aside0 (Below w.heap.size w w'))
  case atStart => exact ⟨(a1), (t11), (by first | rfl | (simp; done) | (simp [*]; done)), (by first | rfl | (simp; done) | (simp [*]; done)), H', ⟨Nat.le_refl _⟩, ⟨by repeat first | with_reducible (first | exact HB.out | apply bA | apply bN | apply bD) | exact HB.out⟩⟩
  case round =>
   clear H'
   try clear c1
   try clear p2
   try clear c4
   try clear c4b0
   try clear c4b1
   try clear c7
   obtain ⟨x1_1, x9_1, rfl, rfl, HA, HK1, HB⟩ := hrel
   cases gk with
   | zero => exact absurd HA.out (by simp [clavigerref11_Tag.l0])
   | succ k1 =>
    have H := HA.out
    clear HA
    simp only [clavigerref11_Tag.l0] at H
    by_cases c8 : (x1_1.size : Int) > 16
    ·rw [if_pos c8] at H
     have c8b0 : decide (16 < (x1_1.size : Int)) = true := decide_eq_true c8
     have c8b1 : decide (16 < x1_1.size) = true := decide_eq_true (by omega)
     clear c8
     by_cases c9 : 0 ≤ 16
     ·rw [if_pos c9] at H
      have c9b0 := eq_true c9
      have c9b1 : decide (0 ≤ 16) = true := decide_eq_true c9
      clear c9
      by_cases c10 : 16 ≤ (x1_1.size : Int)
      ·rw [if_pos c10] at H
       have c10b0 := eq_true c10
       have c10b1 : decide (16 ≤ (x1_1.size : Int)) = true := decide_eq_true c10
       clear c10
       replace H := Option.bind_eq_some_iff.mp H
       obtain ⟨t1, A110, H⟩ := H
       try dsimp only at H
       have A11 := Aside0.mk A110
       clear A110
       replace H := Option.bind_eq_some_iff.mp H
       obtain ⟨⟨t2, t19⟩, A120, H⟩ := H
       try dsimp only at H
       have A12 := Aside0.mk A120
       clear A120
       have c13b0 := eq_true (of_decide_eq_true (by assumption) : 16 ≤ (x1_1.size : Int))
       have H' := Aside0.mk H
       clear H
       go_wp2_with (first | ((with_reducible refine gate_callee (f := 178) rfl ?_); refine goesL_ (some 28) rfl rfl Try.func178 (by kernel_rfl) rfl #[.string x9_1, .string (x1_1.extract 0 16)] rfl (by (try simp only [lT, lC, lN]); first | done | rfl | (simp only [List.length_drop, List.length_take]; rfl) | (simp only [ByteArray.size_extract, Nat.min_self, Nat.sub_zero, ByteArray.size_append]; first | done | rfl)) ?_; (with_reducible refine (clavigerref01_Xor.calls k1 x9_1 (x1_1.extract 0 16) t1 _ A11.out).mono ?_); rintro e w14 ⟨rfl, hb⟩; refine ⟨_, rfl, ?_⟩; have n0_ := Aside0.mk (below_step (by repeat first | with_reducible (first | exact HB.out | apply bA | apply bN | apply bD) | exact HB.out) hb); clear HB; have HB := n0_; clear n0_; (try clear hb); (try clear hb2); (try clear hk); (try clear hi)) | ((with_reducible refine gate_callee (f := 99) rfl ?_); refine goesL_ (some 29) rfl rfl Try.func99 (by kernel_rfl) rfl #[.string a0, .string t1] rfl (by (try simp only [lT, lC, lN]); first | done | rfl) ?_; (with_reducible refine (clavigerref09_Encrypt.calls k1 a0 t1 t2 t19 _ A12.out).mono ?_); rintro e w15 ⟨rfl, hb⟩; refine ⟨_, rfl, ?_⟩; have n0_ := Aside0.mk (below_step (by repeat first | with_reducible (first | exact HB.out | apply bA | apply bN | apply bD) | exact HB.out) hb); clear HB; have HB := n0_; clear n0_; (try clear hb); (try clear hb2); (try clear hk); (try clear hi)))
       go_roundg k1
       case measure => have := HK1.out; omega
       case rel => exact ⟨(x1_1.extract 16 x1_1.size), (t2), (by first | rfl | (simp; done) | (simp [*]; done)), (by first | rfl | (simp; done) | (simp [*]; done)), H', ⟨by have := HK1.out; omega⟩, ⟨by repeat first | with_reducible (first | exact HB.out | apply bA | apply bN | apply bD) | exact HB.out⟩⟩
      ·rw [if_neg c10] at H
       exact absurd H (by simp)
     ·rw [if_neg c9] at H
      exact absurd H (by simp)
    ·rw [if_neg c8] at H
     have c8b0 : decide (16 < (x1_1.size : Int)) = false := decide_eq_false c8
     have c8b1 : decide (16 < x1_1.size) = false := decide_eq_false (by omega)
     clear c8
     by_cases c16 : (x1_1.size : Int) = 16
     ·rw [if_pos c16] at H
      have c16b0 : ((x1_1.size : Int) == 16) = true := beq_iff_eq.mpr c16
      have c16b1 : ((x1_1.size : Int) != 16) = false := bne_eq_false_iff_eq.mpr c16
      clear c16
      replace H := Option.bind_eq_some_iff.mp H
      obtain ⟨t3, A170, H⟩ := H
      try dsimp only at H
      have A17 := Aside0.mk A170
      clear A170
      replace H := Option.bind_eq_some_iff.mp H
      obtain ⟨t4, A180, H⟩ := H
      try dsimp only at H
      have A18 := Aside0.mk A180
      clear A180
      replace H := Option.bind_eq_some_iff.mp H
      obtain ⟨⟨t5, t20⟩, A190, H⟩ := H
      replace H : (some (t5, 0)) = some (r1, r2) := H
      have A19 := Aside0.mk A190
      clear A190
      simp only [Option.some.injEq, Prod.mk.injEq] at H
      obtain ⟨rfl, rfl⟩ := H
      go_wp2_with (first | ((with_reducible refine gate_callee (f := 178) rfl ?_); refine goesL_ (some 39) rfl rfl Try.func178 (by kernel_rfl) rfl #[.string x1_1, .string t10] rfl (by (try simp only [lT, lC, lN]); first | done | rfl) ?_; (with_reducible refine (clavigerref01_Xor.calls k1 x1_1 t10 t3 _ A17.out).mono ?_); rintro e w20 ⟨rfl, hb⟩; refine ⟨_, rfl, ?_⟩; have n0_ := Aside0.mk (below_step (by repeat first | with_reducible (first | exact HB.out | apply bA | apply bN | apply bD) | exact HB.out) hb); clear HB; have HB := n0_; clear n0_; (try clear hb); (try clear hb2); (try clear hk); (try clear hi)) | ((with_reducible refine gate_callee (f := 178) rfl ?_); refine goesL_ (some 49) rfl rfl Try.func178 (by kernel_rfl) rfl #[.string x9_1, .string t3] rfl (by (try simp only [lT, lC, lN]); first | done | rfl) ?_; (with_reducible refine (clavigerref01_Xor.calls k1 x9_1 t3 t4 _ A18.out).mono ?_); rintro e w21 ⟨rfl, hb⟩; refine ⟨_, rfl, ?_⟩; have n0_ := Aside0.mk (below_step (by repeat first | with_reducible (first | exact HB.out | apply bA | apply bN | apply bD) | exact HB.out) hb); clear HB; have HB := n0_; clear n0_; (try clear hb); (try clear hb2); (try clear hk); (try clear hi)) | ((with_reducible refine gate_callee (f := 99) rfl ?_); refine goesL_ (some 50) rfl rfl Try.func99 (by kernel_rfl) rfl #[.string a0, .string t4] rfl (by (try simp only [lT, lC, lN]); first | done | rfl) ?_; (with_reducible refine (clavigerref09_Encrypt.calls k1 a0 t4 t5 t20 _ A19.out).mono ?_); rintro e w22 ⟨rfl, hb⟩; refine ⟨_, rfl, ?_⟩; have n0_ := Aside0.mk (below_step (by repeat first | with_reducible (first | exact HB.out | apply bA | apply bN | apply bD) | exact HB.out) hb); clear HB; have HB := n0_; clear n0_; (try clear hb); (try clear hb2); (try clear hk); (try clear hi)))
      go_ret2
      exact ⟨by first | rfl | (simp [*, errW_none, errW_some] <;> rfl), by repeat first | with_reducible (first | exact HB.out | apply bA | apply bN | apply bD) | exact HB.out⟩
     ·rw [if_neg c16] at H
      have c16b0 : ((x1_1.size : Int) == 16) = false := beq_eq_false_iff_ne.mpr c16
      have c16b1 : ((x1_1.size : Int) != 16) = true := bne_iff_ne.mpr c16
      by_cases c23 : x1_1.size + 1 ≤ 9223372036854775807
      ·rw [if_pos c23] at H
       have c23b0 := eq_true c23
       have c23b1 : decide (x1_1.size + 1 ≤ 9223372036854775807) = true := decide_eq_true c23
       try have c23b2 : (9223372036854775807 < x1_1.size + 1) = False := eq_false (Nat.not_lt.2 c23)
       replace H := Option.bind_eq_some_iff.mp H
       obtain ⟨t6, A240, H⟩ := H
       try dsimp only at H
       have A24 := Aside0.mk A240
       clear A240
       replace H := Option.bind_eq_some_iff.mp H
       obtain ⟨t7, A250, H⟩ := H
       try dsimp only at H
       have A25 := Aside0.mk A250
       clear A250
       replace H := Option.bind_eq_some_iff.mp H
       obtain ⟨t8, A260, H⟩ := H
       try dsimp only at H
       have A26 := Aside0.mk A260
       clear A260
       replace H := Option.bind_eq_some_iff.mp H
       obtain ⟨⟨t9, t21⟩, A270, H⟩ := H
       replace H : (some (t9, 0)) = some (r1, r2) := H
       have A27 := Aside0.mk A270
       clear A270
       simp only [Option.some.injEq, Prod.mk.injEq] at H
       obtain ⟨rfl, rfl⟩ := H
       go_wp2_with (first | ((with_reducible refine gate_callee (f := 180) rfl ?_); refine goesL_ (some 42) rfl rfl Try.func180 (by kernel_rfl) rfl #[.string (x1_1 ++ (⟨#[128]⟩ : ByteArray)), .int .i64 16] rfl (by (try simp only [lT, lC, lN]); first | done | rfl) ?_; (with_reducible refine (clavigerref01_Pad.calls k1 (x1_1 ++ (⟨#[128]⟩ : ByteArray)) 16 t6 _ A24.out).mono ?_); rintro e w28 ⟨rfl, hb⟩; refine ⟨_, rfl, ?_⟩; have n0_ := Aside0.mk (below_step (by repeat first | with_reducible (first | exact HB.out | apply bA | apply bN | apply bD) | exact HB.out) hb); clear HB; have HB := n0_; clear n0_; (try clear hb); (try clear hb2); (try clear hk); (try clear hi)) | ((with_reducible refine gate_callee (f := 178) rfl ?_); refine goesL_ (some 44) rfl rfl Try.func178 (by kernel_rfl) rfl #[.string t6, .string t17] rfl (by (try simp only [lT, lC, lN]); first | done | rfl) ?_; (with_reducible refine (clavigerref01_Xor.calls k1 t6 t17 t7 _ A25.out).mono ?_); rintro e w29 ⟨rfl, hb⟩; refine ⟨_, rfl, ?_⟩; have n0_ := Aside0.mk (below_step (by repeat first | with_reducible (first | exact HB.out | apply bA | apply bN | apply bD) | exact HB.out) hb); clear HB; have HB := n0_; clear n0_; (try clear hb); (try clear hb2); (try clear hk); (try clear hi)) | ((with_reducible refine gate_callee (f := 178) rfl ?_); refine goesL_ (some 49) rfl rfl Try.func178 (by kernel_rfl) rfl #[.string x9_1, .string t7] rfl (by (try simp only [lT, lC, lN]); first | done | rfl) ?_; (with_reducible refine (clavigerref01_Xor.calls k1 x9_1 t7 t8 _ A26.out).mono ?_); rintro e w30 ⟨rfl, hb⟩; refine ⟨_, rfl, ?_⟩; have n0_ := Aside0.mk (below_step (by repeat first | with_reducible (first | exact HB.out | apply bA | apply bN | apply bD) | exact HB.out) hb); clear HB; have HB := n0_; clear n0_; (try clear hb); (try clear hb2); (try clear hk); (try clear hi)) | ((with_reducible refine gate_callee (f := 99) rfl ?_); refine goesL_ (some 50) rfl rfl Try.func99 (by kernel_rfl) rfl #[.string a0, .string t8] rfl (by (try simp only [lT, lC, lN]); first | done | rfl) ?_; (with_reducible refine (clavigerref09_Encrypt.calls k1 a0 t8 t9 t21 _ A27.out).mono ?_); rintro e w31 ⟨rfl, hb⟩; refine ⟨_, rfl, ?_⟩; have n0_ := Aside0.mk (below_step (by repeat first | with_reducible (first | exact HB.out | apply bA | apply bN | apply bD) | exact HB.out) hb); clear HB; have HB := n0_; clear n0_; (try clear hb); (try clear hb2); (try clear hk); (try clear hi)))
       go_ret2
       exact ⟨by first | rfl | (simp [*, errW_none, errW_some] <;> rfl), by repeat first | with_reducible (first | exact HB.out | apply bA | apply bN | apply bD) | exact HB.out⟩
      ·rw [if_neg c23] at H
       exact absurd H (by simp)
 ·rw [if_neg c4] at H
  have c4b0 : (t18 == 0) = false := beq_eq_false_iff_ne.mpr c4
  have c4b1 : (t18 != 0) = true := bne_iff_ne.mpr c4
  simp only [Option.some.injEq, Prod.mk.injEq] at H
  obtain ⟨rfl, rfl⟩ := H
  go_enter Try.func74, Try.ntmps74
  go_wp2_with (first | ((with_reducible refine gate_callee (f := 112) rfl ?_); refine goesL_ (some 12) rfl rfl Try.func112 (by kernel_rfl) rfl #[.string a0] rfl (by (try simp only [lT, lC, lN]); first | done | rfl) ?_; (with_reducible refine (clavigerref11_Subkeys.calls k a0 t10 t17 t18 _ A3.out).mono ?_); rintro e w32 ⟨rfl, hb⟩; refine ⟨_, rfl, ?_⟩; have n0_ := Aside0.mk (below_step (by repeat first | with_reducible (first | exact HB.out | apply bA | apply bN | apply bD) | exact HB.out) hb); clear HB; have HB := n0_; clear n0_; (try clear hb); (try clear hb2); (try clear hk); (try clear hi)))
  go_ret2
  exact ⟨by first | rfl | (simp [*, errW_none, errW_some] <;> rfl), by repeat first | with_reducible (first | exact HB.out | apply bA | apply bN | apply bD) | exact HB.out⟩

def cmac_Double.f (k : Nat) (a0 : ByteArray) : Option (ByteArray) := if (a0.size : Int) = 16 then (if 0 ≤ 8 then (if 8 ≤ (a0.size : Int) then ((octets_Get.f k (a0.extract 0 8)).bind fun bt1 => ((octets_Get.f k (a0.extract 8 a0.size)).bind fun bt2 => ((octets_Put.f (Go.bits .or .u64 (IntKind.u64.wrap (bt1.1 * 2)) (bt2.1 / 9223372036854775808)) 8).bind fun t3 => ((octets_Put.f (Go.bits .xor .u64 (IntKind.u64.wrap (bt2.1 * 2)) (IntKind.u64.wrap ((bt1.1 / 9223372036854775808) * 135))) 8).bind fun t4 => (if t3.size + t4.size ≤ 9223372036854775807 then (some (t3 ++ t4)) else (none)))))) else (none)) else (none)) else (some (⟨#[]⟩ : ByteArray))
theorem cmac_Double.mono : ∀ a0 k, LeO (cmac_Double.f k a0) (cmac_Double.f (k + 1) a0) := by
 intro a0 k
 unfold cmac_Double.f
 repeat' first
   | (with_reducible exact octets_Get.mono _ _)
   | (with_reducible exact LeO.refl _)
   | (with_reducible exact LeO.none _)
   | (with_reducible refine LeO.ite ?_ ?_)
   | (with_reducible refine LeO.bind ?_ (fun _ => ?_))
set_option maxHeartbeats 8000000 in
set_option maxRecDepth 100000 in
theorem cmac_Double.calls (k : Nat) (a0 : ByteArray) (r : ByteArray) (w : World) (h : cmac_Double.f k a0 = some r) :
  Calls Try.prog 108 #[.string a0] w fun e w' => e = .returned (.string r) ∧ Below w.heap.size w w' := by
 have HB := Aside0.mk (Below.refl w.heap.size w)
 have H : (if (a0.size : Int) = 16 then (if 0 ≤ 8 then (if 8 ≤ (a0.size : Int) then ((octets_Get.f k (a0.extract 0 8)).bind fun bt1 => ((octets_Get.f k (a0.extract 8 a0.size)).bind fun bt2 => ((octets_Put.f (Go.bits .or .u64 (IntKind.u64.wrap (bt1.1 * 2)) (bt2.1 / 9223372036854775808)) 8).bind fun t3 => ((octets_Put.f (Go.bits .xor .u64 (IntKind.u64.wrap (bt2.1 * 2)) (IntKind.u64.wrap ((bt1.1 / 9223372036854775808) * 135))) 8).bind fun t4 => (if t3.size + t4.size ≤ 9223372036854775807 then (some (t3 ++ t4)) else (none)))))) else (none)) else (none)) else (some (⟨#[]⟩ : ByteArray))) = some r := h
 clear h
 by_cases c2 : (a0.size : Int) = 16
 ·rw [if_pos c2] at H
  have c2b0 : ((a0.size : Int) == 16) = true := beq_iff_eq.mpr c2
  have c2b1 : ((a0.size : Int) != 16) = false := bne_eq_false_iff_eq.mpr c2
  clear c2
  by_cases c3 : 0 ≤ 8
  ·rw [if_pos c3] at H
   have c3b0 := eq_true c3
   have c3b1 : decide (0 ≤ 8) = true := decide_eq_true c3
   clear c3
   by_cases c4 : 8 ≤ (a0.size : Int)
   ·rw [if_pos c4] at H
    have c4b0 := eq_true c4
    have c4b1 : decide (8 ≤ (a0.size : Int)) = true := decide_eq_true c4
    clear c4
    replace H := Option.bind_eq_some_iff.mp H
    obtain ⟨⟨t1, t5⟩, A50, H⟩ := H
    try dsimp only at H
    have A5 := Aside0.mk A50
    clear A50
    have c6b0 := eq_true (of_decide_eq_true (by assumption) : 8 ≤ (a0.size : Int))
    replace H := Option.bind_eq_some_iff.mp H
    obtain ⟨⟨t2, t6⟩, A70, H⟩ := H
    try dsimp only at H
    have A7 := Aside0.mk A70
    clear A70
    replace H := Option.bind_eq_some_iff.mp H
    obtain ⟨t3, A80, H⟩ := H
    try dsimp only at H
    have A8 := Aside0.mk A80
    clear A80
    replace H := Option.bind_eq_some_iff.mp H
    obtain ⟨t4, A90, H⟩ := H
    try dsimp only at H
    have A9 := Aside0.mk A90
    clear A90
    by_cases c10 : t3.size + t4.size ≤ 9223372036854775807
    ·rw [if_pos c10] at H
     have c10b0 := eq_true c10
     have c10b1 : decide (t3.size + t4.size ≤ 9223372036854775807) = true := decide_eq_true c10
     try have c10b2 : (9223372036854775807 < t3.size + t4.size) = False := eq_false (Nat.not_lt.2 c10)
     obtain rfl := Option.some.inj H
     go_enter Try.func108, Try.ntmps108
     go_wp2_with (first | ((with_reducible refine gate_callee (f := 195) rfl ?_); refine goesL_ (some 14) rfl rfl Try.func195 (by kernel_rfl) rfl #[.string (a0.extract 0 8)] rfl (by (try simp only [lT, lC, lN]); first | done | rfl | (simp only [List.length_drop, List.length_take]; rfl) | (simp only [ByteArray.size_extract, Nat.min_self, Nat.sub_zero, ByteArray.size_append]; first | done | rfl)) ?_; (with_reducible refine (octets_Get.calls k (a0.extract 0 8) t1 t5 _ A5.out).mono ?_); rintro e w' ⟨rfl, ⟨nd, rfl⟩⟩; refine ⟨_, rfl, ?_⟩) | ((with_reducible refine gate_callee (f := 195) rfl ?_); refine goesL_ (some 20) rfl rfl Try.func195 (by kernel_rfl) rfl #[.string (a0.extract 8 a0.size)] rfl (by (try simp only [lT, lC, lN]); first | done | rfl | (simp only [List.length_drop, List.length_take]; rfl) | (simp only [ByteArray.size_extract, Nat.min_self, Nat.sub_zero, ByteArray.size_append]; first | done | rfl)) ?_; (with_reducible refine (octets_Get.calls k (a0.extract 8 a0.size) t2 t6 _ A7.out).mono ?_); rintro e w' ⟨rfl, ⟨nd, rfl⟩⟩; refine ⟨_, rfl, ?_⟩) | ((with_reducible refine gate_callee (f := 189) rfl ?_); refine goesL_ (some 36) rfl rfl Try.func189 (by kernel_rfl) rfl #[.int .u64 (Go.bits .or .u64 (IntKind.u64.wrap (t1 * 2)) (t2 / 9223372036854775808)), .int .i64 8] rfl (by (try simp only [lT, lC, lN]); first | done | rfl) ?_; (with_reducible refine (octets_Put.calls (Go.bits .or .u64 (IntKind.u64.wrap (t1 * 2)) (t2 / 9223372036854775808)) 8 t3 _ A8.out).mono ?_); rintro e w11 ⟨rfl, hb⟩; refine ⟨_, rfl, ?_⟩; have n0_ := Aside0.mk (below_step (by repeat first | with_reducible (first | exact HB.out | apply bA | apply bN | apply bD) | exact HB.out) hb); clear HB; have HB := n0_; clear n0_; (try clear hb); (try clear hb2); (try clear hk); (try clear hi)) | ((with_reducible refine gate_callee (f := 189) rfl ?_); refine goesL_ (some 38) rfl rfl Try.func189 (by kernel_rfl) rfl #[.int .u64 (Go.bits .xor .u64 (IntKind.u64.wrap (t2 * 2)) (IntKind.u64.wrap ((t1 / 9223372036854775808) * 135))), .int .i64 8] rfl (by (try simp only [lT, lC, lN]); first | done | rfl) ?_; (with_reducible refine (octets_Put.calls (Go.bits .xor .u64 (IntKind.u64.wrap (t2 * 2)) (IntKind.u64.wrap ((t1 / 9223372036854775808) * 135))) 8 t4 _ A9.out).mono ?_); rintro e w12 ⟨rfl, hb⟩; refine ⟨_, rfl, ?_⟩; have n0_ := Aside0.mk (below_step (by repeat first | with_reducible (first | exact HB.out | apply bA | apply bN | apply bD) | exact HB.out) hb); clear HB; have HB := n0_; clear n0_; (try clear hb); (try clear hb2); (try clear hk); (try clear hi)))
     go_ret
     exact ⟨by first | rfl | (simp [*, errW_none, errW_some] <;> rfl), by repeat first | with_reducible (first | exact HB.out | apply bA | apply bN | apply bD) | exact HB.out⟩
    ·rw [if_neg c10] at H
     exact absurd H (by simp)
   ·rw [if_neg c4] at H
    exact absurd H (by simp)
  ·rw [if_neg c3] at H
   exact absurd H (by simp)
 ·rw [if_neg c2] at H
  have c2b0 : ((a0.size : Int) == 16) = false := beq_eq_false_iff_ne.mpr c2
  have c2b1 : ((a0.size : Int) != 16) = true := bne_iff_ne.mpr c2
  obtain rfl := Option.some.inj H
  go_enter Try.func108, Try.ntmps108
  go_wp2
  go_ret
  exact ⟨by first | rfl | (simp [*, errW_none, errW_some] <;> rfl), by repeat first | with_reducible (first | exact HB.out | apply bA | apply bN | apply bD) | exact HB.out⟩

def cmac_last.f (a0 : ByteArray) (a1 : ByteArray) (a2 : ByteArray) : Option (ByteArray) := if (a0.size : Int) = 16 then ((octets_Xor.f a0 a1).bind fun t1 => (some t1)) else (if a0.size + 1 ≤ 9223372036854775807 then ((octets_Pad.f (a0 ++ (⟨#[128]⟩ : ByteArray)) 16).bind fun t2 => ((octets_Xor.f t2 a2).bind fun t3 => (some t3))) else (none))
set_option maxHeartbeats 8000000 in
set_option maxRecDepth 100000 in
theorem cmac_last.calls (a0 : ByteArray) (a1 : ByteArray) (a2 : ByteArray) (r : ByteArray) (w : World) (h : cmac_last.f a0 a1 a2 = some r) :
  Calls Try.prog 197 #[.string a0, .string a1, .string a2] w fun e w' => e = .returned (.string r) ∧ Below w.heap.size w w' := by
 have HB := Aside0.mk (Below.refl w.heap.size w)
 have H : (if (a0.size : Int) = 16 then ((octets_Xor.f a0 a1).bind fun t1 => (some t1)) else (if a0.size + 1 ≤ 9223372036854775807 then ((octets_Pad.f (a0 ++ (⟨#[128]⟩ : ByteArray)) 16).bind fun t2 => ((octets_Xor.f t2 a2).bind fun t3 => (some t3))) else (none))) = some r := h
 clear h
 by_cases c4 : (a0.size : Int) = 16
 ·rw [if_pos c4] at H
  have c4b0 : ((a0.size : Int) == 16) = true := beq_iff_eq.mpr c4
  have c4b1 : ((a0.size : Int) != 16) = false := bne_eq_false_iff_eq.mpr c4
  clear c4
  replace H := Option.bind_eq_some_iff.mp H
  obtain ⟨t1, A50, H⟩ := H
  replace H : (some t1) = some r := H
  have A5 := Aside0.mk A50
  clear A50
  obtain rfl := Option.some.inj H
  go_enter Try.func197, Try.ntmps197
  go_wp2_with (first | ((with_reducible refine gate_callee (f := 170) rfl ?_); refine goesL_ (some 12) rfl rfl Try.func170 (by kernel_rfl) rfl #[.string a0, .string a1] rfl (by (try simp only [lT, lC, lN]); first | done | rfl) ?_; (with_reducible refine (octets_Xor.calls a0 a1 t1 _ A5.out).mono ?_); rintro e w6 ⟨rfl, hb⟩; refine ⟨_, rfl, ?_⟩; have n0_ := Aside0.mk (below_step (by repeat first | with_reducible (first | exact HB.out | apply bA | apply bN | apply bD) | exact HB.out) hb); clear HB; have HB := n0_; clear n0_; (try clear hb); (try clear hb2); (try clear hk); (try clear hi)))
  go_ret
  exact ⟨by first | rfl | (simp [*, errW_none, errW_some] <;> rfl), by repeat first | with_reducible (first | exact HB.out | apply bA | apply bN | apply bD) | exact HB.out⟩
 ·rw [if_neg c4] at H
  have c4b0 : ((a0.size : Int) == 16) = false := beq_eq_false_iff_ne.mpr c4
  have c4b1 : ((a0.size : Int) != 16) = true := bne_iff_ne.mpr c4
  by_cases c7 : a0.size + 1 ≤ 9223372036854775807
  ·rw [if_pos c7] at H
   have c7b0 := eq_true c7
   have c7b1 : decide (a0.size + 1 ≤ 9223372036854775807) = true := decide_eq_true c7
   try have c7b2 : (9223372036854775807 < a0.size + 1) = False := eq_false (Nat.not_lt.2 c7)
   replace H := Option.bind_eq_some_iff.mp H
   obtain ⟨t2, A80, H⟩ := H
   try dsimp only at H
   have A8 := Aside0.mk A80
   clear A80
   replace H := Option.bind_eq_some_iff.mp H
   obtain ⟨t3, A90, H⟩ := H
   replace H : (some t3) = some r := H
   have A9 := Aside0.mk A90
   clear A90
   obtain rfl := Option.some.inj H
   go_enter Try.func197, Try.ntmps197
   go_wp2_with (first | ((with_reducible refine gate_callee (f := 204) rfl ?_); refine goesL_ (some 15) rfl rfl Try.func204 (by kernel_rfl) rfl #[.string (a0 ++ (⟨#[128]⟩ : ByteArray)), .int .i64 16] rfl (by (try simp only [lT, lC, lN]); first | done | rfl) ?_; (with_reducible refine (octets_Pad.calls (a0 ++ (⟨#[128]⟩ : ByteArray)) 16 t2 _ A8.out).mono ?_); rintro e w10 ⟨rfl, hb⟩; refine ⟨_, rfl, ?_⟩; have n0_ := Aside0.mk (below_step (by repeat first | with_reducible (first | exact HB.out | apply bA | apply bN | apply bD) | exact HB.out) hb); clear HB; have HB := n0_; clear n0_; (try clear hb); (try clear hb2); (try clear hk); (try clear hi)) | ((with_reducible refine gate_callee (f := 170) rfl ?_); refine goesL_ (some 17) rfl rfl Try.func170 (by kernel_rfl) rfl #[.string t2, .string a2] rfl (by (try simp only [lT, lC, lN]); first | done | rfl) ?_; (with_reducible refine (octets_Xor.calls t2 a2 t3 _ A9.out).mono ?_); rintro e w11 ⟨rfl, hb⟩; refine ⟨_, rfl, ?_⟩; have n0_ := Aside0.mk (below_step (by repeat first | with_reducible (first | exact HB.out | apply bA | apply bN | apply bD) | exact HB.out) hb); clear HB; have HB := n0_; clear n0_; (try clear hb); (try clear hb2); (try clear hk); (try clear hi)))
   go_ret
   exact ⟨by first | rfl | (simp [*, errW_none, errW_some] <;> rfl), by repeat first | with_reducible (first | exact HB.out | apply bA | apply bN | apply bD) | exact HB.out⟩
  ·rw [if_neg c7] at H
   exact absurd H (by simp)

end Go.Proofs.Ytokkhnjedmlbhaa.Pr
end
section
namespace Go.Proofs.Ytokkhnjedmlbhaa.Pr
open Go.RowKit Go.Proofs.YtokkhnjedmlbhaaW.PrintWords Go.Proofs.YtokkhnjedmlbhaaW.PrintLast Go.Proofs.YtokkhnjedmlbhaaW.PrintMore Go.Proofs.YtokkhnjedmlbhaaHw Go.Proofs.YtokkhnjedmlbhaaGf
theorem back_all (f y : Nat → Nat) : (L16 fun q => if 13 * q % 16 < 16 then M.B1 f q else y q) = L16 (M.B1 f) := by
  apply List.map_congr_left
  intro q _
  show ((if 13 * q % 16 < 16 then M.B1 f q else y q : Nat) : Int) = _
  rw [if_pos (Nat.mod_lt _ (by omega))]
/-- What holds at the label: the state has its key; what comes out of it is known. -/
def DecJ (ks : List ByteArray) (s : ByteArray) (g : Nat) (w : World) (a' : Act) (w' : World) : Prop := ∃ (i : Nat) (f y : Nat → Nat) (u : Nat → Value), 1 ≤ i ∧ i < ks.length ∧ Aside0 (∀ q, f q < 256) ∧ Aside0 (M.T (M.B1 f) = M.bwd (ks.drop i) s) ∧ Aside0 (BY w' w.heap.size 65 (L16 y)) ∧ Aside0 (BY w' (w.heap.size + 1) 65 (L16 f)) ∧ Aside0 (Below w.heap.size w w') ∧ a' = { tmps := #[.pointer (some ⟨g, 0, none⟩), .string s, u 2, u 3, .string ⟨#[]⟩, .int .i64 0, .int .i64 0, .pointer (some ⟨w.heap.size, 0, none⟩), .pointer (some ⟨w.heap.size + 1, 0, none⟩), .int .i64 i, u 10, u 11, u 12, u 13, u 14, u 15, u 16, u 17, u 18, u 19, u 20, u 21, u 22, u 23, u 24, u 25, u 26, u 27, u 28, u 29, u 30, u 31, u 32, u 33, u 34, u 35, u 36, u 37, u 38, u 39, u 40, u 41, u 42, u 43, u 44, u 45, u 46, u 47, u 48, u 49, u 50, u 51, u 52, u 53, u 54, u 55, u 56, u 57, u 58, u 59, u 60, u 61, u 62, u 63, u 64, u 65, u 66, u 67, u 68, u 69, u 70, u 71, u 72, u 73, u 74, u 75, u 76, u 77, u 78, u 79, u 80, u 81, u 82, u 83, u 84, u 85, u 86, u 87, u 88, u 89, u 90, u 91, u 92, u 93, u 94, u 95, u 96, u 97, u 98, u 99, u 100, u 101, u 102, u 103, u 104, u 105, u 106, u 107, u 108, u 109, u 110, u 111, u 112, u 113, u 114, u 115, u 116, u 117, u 118, u 119, u 120, u 121, u 122, u 123, u 124, u 125, u 126, u 127, u 128, u 129, u 130, u 131, u 132, u 133, u 134, u 135, u 136, u 137, u 138, u 139, u 140, u 141], defers := [] }
theorem DecJ.mk {ks : List ByteArray} {s : ByteArray} {g : Nat} {w : World} {a' : Act} {w' : World} (i : Nat) (f y : Nat → Nat) (h1 : 1 ≤ i) (h2 : i < ks.length) (h3 : Aside0 (∀ q, f q < 256)) (h4 : Aside0 (M.T (M.B1 f) = M.bwd (ks.drop i) s)) (h5 : Aside0 (BY w' w.heap.size 65 (L16 y))) (h6 : Aside0 (BY w' (w.heap.size + 1) 65 (L16 f))) (h7 : Aside0 (Below w.heap.size w w'))
    (h8 : a' = { tmps := #[.pointer (some ⟨g, 0, none⟩), .string s, a'.tmps.getD 2 undef, a'.tmps.getD 3 undef, .string ⟨#[]⟩, .int .i64 0, .int .i64 0, .pointer (some ⟨w.heap.size, 0, none⟩), .pointer (some ⟨w.heap.size + 1, 0, none⟩), .int .i64 i, a'.tmps.getD 10 undef, a'.tmps.getD 11 undef, a'.tmps.getD 12 undef, a'.tmps.getD 13 undef, a'.tmps.getD 14 undef, a'.tmps.getD 15 undef, a'.tmps.getD 16 undef, a'.tmps.getD 17 undef, a'.tmps.getD 18 undef, a'.tmps.getD 19 undef, a'.tmps.getD 20 undef, a'.tmps.getD 21 undef, a'.tmps.getD 22 undef, a'.tmps.getD 23 undef, a'.tmps.getD 24 undef, a'.tmps.getD 25 undef, a'.tmps.getD 26 undef, a'.tmps.getD 27 undef, a'.tmps.getD 28 undef, a'.tmps.getD 29 undef, a'.tmps.getD 30 undef, a'.tmps.getD 31 undef, a'.tmps.getD 32 undef, a'.tmps.getD 33 undef, a'.tmps.getD 34 undef, a'.tmps.getD 35 undef, a'.tmps.getD 36 undef, a'.tmps.getD 37 undef, a'.tmps.getD 38 undef, a'.tmps.getD 39 undef, a'.tmps.getD 40 undef, a'.tmps.getD 41 undef, a'.tmps.getD 42 undef, a'.tmps.getD 43 undef, a'.tmps.getD 44 undef, a'.tmps.getD 45 undef, a'.tmps.getD 46 undef, a'.tmps.getD 47 undef, a'.tmps.getD 48 undef, a'.tmps.getD 49 undef, a'.tmps.getD 50 undef, a'.tmps.getD 51 undef, a'.tmps.getD 52 undef, a'.tmps.getD 53 undef, a'.tmps.getD 54 undef, a'.tmps.getD 55 undef, a'.tmps.getD 56 undef, a'.tmps.getD 57 undef, a'.tmps.getD 58 undef, a'.tmps.getD 59 undef, a'.tmps.getD 60 undef, a'.tmps.getD 61 undef, a'.tmps.getD 62 undef, a'.tmps.getD 63 undef, a'.tmps.getD 64 undef, a'.tmps.getD 65 undef, a'.tmps.getD 66 undef, a'.tmps.getD 67 undef, a'.tmps.getD 68 undef, a'.tmps.getD 69 undef, a'.tmps.getD 70 undef, a'.tmps.getD 71 undef, a'.tmps.getD 72 undef, a'.tmps.getD 73 undef, a'.tmps.getD 74 undef, a'.tmps.getD 75 undef, a'.tmps.getD 76 undef, a'.tmps.getD 77 undef, a'.tmps.getD 78 undef, a'.tmps.getD 79 undef, a'.tmps.getD 80 undef, a'.tmps.getD 81 undef, a'.tmps.getD 82 undef, a'.tmps.getD 83 undef, a'.tmps.getD 84 undef, a'.tmps.getD 85 undef, a'.tmps.getD 86 undef, a'.tmps.getD 87 undef, a'.tmps.getD 88 undef, a'.tmps.getD 89 undef, a'.tmps.getD 90 undef, a'.tmps.getD 91 undef, a'.tmps.getD 92 undef, a'.tmps.getD 93 undef, a'.tmps.getD 94 undef, a'.tmps.getD 95 undef, a'.tmps.getD 96 undef, a'.tmps.getD 97 undef, a'.tmps.getD 98 undef, a'.tmps.getD 99 undef, a'.tmps.getD 100 undef, a'.tmps.getD 101 undef, a'.tmps.getD 102 undef, a'.tmps.getD 103 undef, a'.tmps.getD 104 undef, a'.tmps.getD 105 undef, a'.tmps.getD 106 undef, a'.tmps.getD 107 undef, a'.tmps.getD 108 undef, a'.tmps.getD 109 undef, a'.tmps.getD 110 undef, a'.tmps.getD 111 undef, a'.tmps.getD 112 undef, a'.tmps.getD 113 undef, a'.tmps.getD 114 undef, a'.tmps.getD 115 undef, a'.tmps.getD 116 undef, a'.tmps.getD 117 undef, a'.tmps.getD 118 undef, a'.tmps.getD 119 undef, a'.tmps.getD 120 undef, a'.tmps.getD 121 undef, a'.tmps.getD 122 undef, a'.tmps.getD 123 undef, a'.tmps.getD 124 undef, a'.tmps.getD 125 undef, a'.tmps.getD 126 undef, a'.tmps.getD 127 undef, a'.tmps.getD 128 undef, a'.tmps.getD 129 undef, a'.tmps.getD 130 undef, a'.tmps.getD 131 undef, a'.tmps.getD 132 undef, a'.tmps.getD 133 undef, a'.tmps.getD 134 undef, a'.tmps.getD 135 undef, a'.tmps.getD 136 undef, a'.tmps.getD 137 undef, a'.tmps.getD 138 undef, a'.tmps.getD 139 undef, a'.tmps.getD 140 undef, a'.tmps.getD 141 undef], defers := [] }) : DecJ ks s g w a' w' := ⟨i, f, y, fun q => a'.tmps.getD q undef, h1, h2, h3, h4, h5, h6, h7, h8⟩
end Go.Proofs.Ytokkhnjedmlbhaa.Pr
end
section
namespace Go.Proofs.Ytokkhnjedmlbhaa.M
open Go.RowKit Go.Proofs.Ytokkhnjedmlbhaa.Pr Go.Proofs.YtokkhnjedmlbhaaW.PrintWords Go.Proofs.YtokkhnjedmlbhaaW.PrintLast Go.Proofs.YtokkhnjedmlbhaaW.PrintMore Go.Proofs.YtokkhnjedmlbhaaGf
set_option linter.unusedSimpArgs false
/-- The four bytes of a word. -/
def wL (w : Nat) : List Nat := [w / 16777216 % 256, w / 65536 % 256, w / 256 % 256, w % 256]
def wB (w : Nat) : ByteArray := mkB (wL w)
theorem isB_wL (w : Nat) : isB (wL w) := by
  intro x hx
  simp only [wL, List.mem_cons, List.not_mem_nil, or_false] at hx
  rcases hx with rfl | rfl | rfl | rfl <;> exact Nat.mod_lt _ (by omega)
theorem wB_size (w : Nat) : (wB w).size = 4 := by unfold wB; rw [mkB_size]; rfl
theorem bb_mkB {l : List Nat} (h : isB l) (i : Nat) : bb (mkB l) i = l.getD i 0 := by rw [bb_nb, nb_mkB h]
theorem xor_div_mod (u v k : Nat) : (u ^^^ v) / 2 ^ k % 2 ^ 8 = (u / 2 ^ k % 2 ^ 8) ^^^ (v / 2 ^ k % 2 ^ 8) := by
  rw [← Nat.shiftRight_eq_div_pow, ← Nat.shiftRight_eq_div_pow, ← Nat.shiftRight_eq_div_pow, Nat.shiftRight_xor_distrib, Nat.xor_mod_two_pow]
theorem xorT_4 {a b : ByteArray} (ha : a.size = 4) (hb : b.size = 4) : xorT a b = mkB [bb a 0 ^^^ bb b 0, bb a 1 ^^^ bb b 1, bb a 2 ^^^ bb b 2, bb a 3 ^^^ bb b 3] := by
  unfold xorT; rw [ha, hb]; rfl
theorem wB_xor (u v : Nat) : xorT (wB u) (wB v) = wB (u ^^^ v) := by
  rw [xorT_4 (wB_size u) (wB_size v)]
  unfold wB
  rw [bb_mkB (isB_wL u), bb_mkB (isB_wL u), bb_mkB (isB_wL u), bb_mkB (isB_wL u), bb_mkB (isB_wL v), bb_mkB (isB_wL v), bb_mkB (isB_wL v), bb_mkB (isB_wL v)]
  have h0 := xor_div_mod u v 24
  have h1 := xor_div_mod u v 16
  have h2 := xor_div_mod u v 8
  have h3 := xor_div_mod u v 0
  simp only [Nat.reducePow, Nat.div_one] at h0 h1 h2 h3
  simp only [wL, h0, h1, h2, h3]
  rfl
/-- A word, turned by a byte. -/
def rotW (u : Nat) : Nat := u % 16777216 * 256 + u / 16777216
theorem rotW_lt {u : Nat} (h : u < 4294967296) : rotW u < 4294967296 := by unfold rotW; omega
theorem or_add {a b k : Nat} (h : b < 2 ^ k) : 2 ^ k * a ||| b = 2 ^ k * a + b := (Nat.two_pow_add_eq_or_of_lt h a).symm
theorem rotw_n {u : Nat} (h : u < 4294967296) : rotw (u : Int) = ((rotW u : Nat) : Int) := by
  unfold rotw
  rw [show ((u : Int) * 256 % 4294967296) = ((2 ^ 8 * (u % 16777216) : Nat) : Int) by omega, show ((u : Int) / 16777216) = ((u / 16777216 : Nat) : Int) by omega, u32_or_nat _ _ (by omega) (by omega), or_add (by omega)]
  unfold rotW
  congr 1
  omega
theorem wB_rot {u : Nat} (h : u < 4294967296) : wB (rotW u) = (wB u).extract 1 4 ++ (wB u).extract 0 1 := by
  rw [extract_nb, extract_nb, mkB_append]
  unfold wB
  rw [nb_mkB (isB_wL u)]
  congr 1
  simp only [wL, rotW, List.take_succ_cons, List.take_zero, List.drop_succ_cons, List.drop_zero, List.cons_append, List.nil_append, List.cons.injEq, and_true]
  obtain ⟨a, b, c, d, ha, hb, hc, hd, rfl⟩ : ∃ a b c d : Nat, a < 256 ∧ b < 256 ∧ c < 256 ∧ d < 256 ∧ u = 16777216 * a + 65536 * b + 256 * c + d :=
    ⟨u / 16777216, u / 65536 % 256, u / 256 % 256, u % 256, by omega, by omega, by omega, by omega, by omega⟩
  have e1 : (16777216 * a + 65536 * b + 256 * c + d) % 16777216 = 65536 * b + 256 * c + d := by omega
  have e2 : (16777216 * a + 65536 * b + 256 * c + d) / 16777216 = a := by omega
  have e3 : (16777216 * a + 65536 * b + 256 * c + d) / 65536 = 256 * a + b := by omega
  have e4 : (16777216 * a + 65536 * b + 256 * c + d) / 256 = 65536 * a + 256 * b + c := by omega
  have e5 : ((65536 * b + 256 * c + d) * 256 + a) / 16777216 = b := by omega
  have e6 : ((65536 * b + 256 * c + d) * 256 + a) / 65536 = 256 * b + c := by omega
  have e7 : ((65536 * b + 256 * c + d) * 256 + a) / 256 = 65536 * b + 256 * c + d := by omega
  rw [e1, e2, e3, e4, e5, e6, e7]
  refine ⟨by omega, by omega, by omega, by omega⟩
def subWN (u : Nat) : Nat := sN (u / 16777216 % 256) * 16777216 + sN (u / 65536 % 256) * 65536 + sN (u / 256 % 256) * 256 + sN (u % 256)
theorem subWN_lt (u : Nat) : subWN u < 4294967296 := by
  have h0 := sN_lt (u / 16777216 % 256); have h1 := sN_lt (u / 65536 % 256); have h2 := sN_lt (u / 256 % 256); have h3 := sN_lt (u % 256)
  unfold subWN; omega
theorem wordI_n {a b c d : Nat} (ha : a < 256) (hb : b < 256) (hc : c < 256) (hd : d < 256) : wordI (a : Int) (b : Int) (c : Int) (d : Int) = ((a * 16777216 + b * 65536 + c * 256 + d : Nat) : Int) := by
  unfold wordI
  rw [show ((a : Int) % 4294967296 * 16777216 % 4294967296) = ((2 ^ 24 * a : Nat) : Int) by omega, show ((b : Int) % 4294967296 * 65536 % 4294967296) = ((2 ^ 16 * b : Nat) : Int) by omega, show ((c : Int) % 4294967296 * 256 % 4294967296) = ((2 ^ 8 * c : Nat) : Int) by omega, show ((d : Int) % 4294967296) = ((d : Nat) : Int) by omega]
  rw [u32_or_nat _ _ (by omega) (by omega), or_add (by omega), show 2 ^ 24 * a + 2 ^ 16 * b = 2 ^ 16 * (2 ^ 8 * a + b) by omega, u32_or_nat _ _ (by omega) (by omega), or_add (by omega), show 2 ^ 16 * (2 ^ 8 * a + b) + 2 ^ 8 * c = 2 ^ 8 * (2 ^ 16 * a + 2 ^ 8 * b + c) by omega, u32_or_nat _ _ (by omega) (by omega), or_add (by omega)]
  congr 1
  omega
theorem bt_sT {i : Nat} (hi : i < 256) : bt (mkB sT) (i : Int) = ((sN i : Nat) : Int) := by
  rw [bt_bb, bb_mkB (show isB sT from isB_map sN_lt _)]
  simp [sT, hi]
theorem subW_n {u : Nat} (h : u < 4294967296) : subW (mkB sT) (u : Int) = ((subWN u : Nat) : Int) := by
  unfold subW
  rw [show ((u : Int) / 16777216) = ((u / 16777216 % 256 : Nat) : Int) by omega, show ((u : Int) / 65536 % 256) = ((u / 65536 % 256 : Nat) : Int) by omega, show ((u : Int) / 256 % 256) = ((u / 256 % 256 : Nat) : Int) by omega, show ((u : Int) % 256) = ((u % 256 : Nat) : Int) by omega]
  rw [bt_sT (by omega), bt_sT (by omega), bt_sT (by omega), bt_sT (by omega), wordI_n (sN_lt _) (sN_lt _) (sN_lt _) (sN_lt _)]
  rfl
theorem wB_sub (u : Nat) : wB (subWN u) = sbT (wB u) := by
  unfold wB sbT
  rw [nb_mkB (isB_wL u)]
  congr 1
  have h0 := sN_lt (u / 16777216 % 256); have h1 := sN_lt (u / 65536 % 256); have h2 := sN_lt (u / 256 % 256); have h3 := sN_lt (u % 256)
  simp only [wL, subWN, List.map_cons, List.map_nil, List.cons.injEq, and_true]
  generalize sN (u / 16777216 % 256) = a at *; generalize sN (u / 65536 % 256) = b at *; generalize sN (u / 256 % 256) = c at *; generalize sN (u % 256) = d at *
  refine ⟨by omega, by omega, by omega, by omega⟩
theorem wB_top {c : Nat} (hc : c < 256) : wB (c * 16777216) = mkB [c, 0, 0, 0] := by
  unfold wB wL
  congr 1
  simp only [List.cons.injEq, and_true]
  refine ⟨by omega, by omega, by omega, by omega⟩

/-- The word that comes behind: out of the one n places ahead and the last one. -/
def stepB (n i : Nat) (q t : ByteArray) : ByteArray :=
  if i % n = 0 then xorT q (xorT (sbT (t.extract 1 4 ++ t.extract 0 1)) (mkB [pw 2 (i / n - 1), 0, 0, 0])) else if n = 8 ∧ i % 8 = 4 then xorT q (sbT t) else xorT q t
def goB (n : Nat) : Nat → Nat → List ByteArray → List ByteArray
  | 0, _, ws => ws
  | d + 1, i, ws => goB n d (i + 1) (ws ++ [stepB n i (ws.getD (i - n) ByteArray.empty) (ws.getD (i - 1) ByteArray.empty)])
/-- m pieces of n bytes. -/
def pcs (n m : Nat) (s : ByteArray) : List ByteArray := (List.range m).map fun i => s.extract (n * i) (n * i + n)
def wordsB (key : ByteArray) : List ByteArray := goB (key.size / 4) (3 * (key.size / 4) + 28) (key.size / 4) (pcs 4 (key.size / 4) key)
/-- The words as texts and as numbers go together. -/
theorem getD_map_wB (us : List Nat) {j : Nat} (hj : j < us.length) : (us.map wB).getD j ByteArray.empty = wB (us.getD j 0) := by
  simp [List.getD_eq_getElem?_getD, hj]
theorem rd_cast (us : List Nat) (j : Nat) : rd (us.map Int.ofNat) (j : Int) = ((us.getD j 0 : Nat) : Int) := by
  unfold rd
  by_cases h : j < us.length
  · simp [List.getD_eq_getElem?_getD, h]
  · simp [List.getD_eq_getElem?_getD, h]
theorem getD_lt {us : List Nat} (h : ∀ u ∈ us, u < 4294967296) (j : Nat) : us.getD j 0 < 4294967296 := by
  rw [List.getD_eq_getElem?_getD]
  by_cases hj : j < us.length
  · rw [List.getElem?_eq_getElem hj]; exact h _ (List.getElem_mem hj)
  · rw [List.getElem?_eq_none (by omega)]; decide
end Go.Proofs.Ytokkhnjedmlbhaa.M
end
