-- several texts in one (by the session's program shake.py)
import Derived.Test.YtokkhnjedmlbhaaZPrg01x
import Derived.Test.YtokkhnjedmlbhaaZPrg11
import Derived.Test.YtokkhnjedmlbhaaZPrg10
import Derived.Test.YtokkhnjedmlbhaaZPrg38
import Derived.Test.YtokkhnjedmlbhaaZEqAt
import Derived.Test.YtokkhnjedmlbhaaZCmac
import Derived.Test.YtokkhnjedmlbhaaZXor
import Derived.Test.YtokkhnjedmlbhaaZPrg01
section
namespace Go.Proofs.Ytokkhnjedmlbhaa.Pr
open Go.RowKit Go.Proofs.YtokkhnjedmlbhaaW.PrintWords Go.Proofs.YtokkhnjedmlbhaaW.PrintLast Go.Proofs.YtokkhnjedmlbhaaW.PrintMore
attribute [local go_sem] max2_int min2_int max_two min_two max_three min_three max_four min_four   -- for this text's walks alone
set_option linter.unusedVariables false
set_option linter.unusedSimpArgs false

def clavigerref37_Bind.f (k : Nat) (a0 : ByteArray) (a1 : ByteArray) (a2 : ByteArray) : Option (ByteArray × Int) := (clavigerref35_Keys.f k a0).bind fun bt1 => (if bt1.2.2 = 0 then (if a2.toList = ([] : List UInt8) then (some ((⟨#[]⟩ : ByteArray), 4)) else (if ((a2.size : Int) % 16) = 0 then (if a1.size + a2.size ≤ 9223372036854775807 then ((clavigerref11_Tag.f k bt1.2.1 (a1 ++ a2)).bind fun bt2 => (some (bt2.1, bt2.2))) else (none)) else (some ((⟨#[]⟩ : ByteArray), 4)))) else (some ((⟨#[]⟩ : ByteArray), bt1.2.2)))
theorem clavigerref37_Bind.mono : ∀ a0 a1 a2 k, LeO (clavigerref37_Bind.f k a0 a1 a2) (clavigerref37_Bind.f (k + 1) a0 a1 a2) := by
 intro a0 a1 a2 k
 unfold clavigerref37_Bind.f
 repeat' first
   | (with_reducible exact clavigerref11_Tag.mono _ _ _)
   | (with_reducible exact clavigerref35_Keys.mono _ _)
   | (with_reducible exact LeO.refl _)
   | (with_reducible exact LeO.none _)
   | (with_reducible refine LeO.ite ?_ ?_)
   | (with_reducible refine LeO.bind ?_ (fun _ => ?_))
set_option maxHeartbeats 8000000 in
set_option maxRecDepth 100000 in
theorem clavigerref37_Bind.calls (k : Nat) (a0 : ByteArray) (a1 : ByteArray) (a2 : ByteArray) (r1 : ByteArray) (r2 : Int) (w : World) (h : clavigerref37_Bind.f k a0 a1 a2 = some (r1, r2)) :
  Calls Try.prog 150 #[.string a0, .string a1, .string a2] w fun e w' => e = .returned (.tuple #[.string r1, .int .i64 r2]) ∧ Below w.heap.size w w' := by
 have HB := Aside0.mk (Below.refl w.heap.size w)
 have H : ((clavigerref35_Keys.f k a0).bind fun bt1 => (if bt1.2.2 = 0 then (if a2.toList = ([] : List UInt8) then (some ((⟨#[]⟩ : ByteArray), 4)) else (if ((a2.size : Int) % 16) = 0 then (if a1.size + a2.size ≤ 9223372036854775807 then ((clavigerref11_Tag.f k bt1.2.1 (a1 ++ a2)).bind fun bt2 => (some (bt2.1, bt2.2))) else (none)) else (some ((⟨#[]⟩ : ByteArray), 4)))) else (some ((⟨#[]⟩ : ByteArray), bt1.2.2)))) = some (r1, r2) := h
 clear h
 replace H := Option.bind_eq_some_iff.mp H
 obtain ⟨⟨t1, t3, t4⟩, A40, H⟩ := H
 try dsimp only at H
 have A4 := Aside0.mk A40
 clear A40
 by_cases c5 : t4 = 0
 ·rw [if_pos c5] at H
  have c5b0 : (t4 == 0) = true := beq_iff_eq.mpr c5
  have c5b1 : (t4 != 0) = false := bne_eq_false_iff_eq.mpr c5
  clear c5
  by_cases c6 : a2.toList = ([] : List UInt8)
  ·rw [if_pos c6] at H
   have c6b0 : (a2.toList == ([] : List UInt8)) = true := beq_iff_eq.mpr c6
   have c6b1 : (a2.toList != ([] : List UInt8)) = false := bne_eq_false_iff_eq.mpr c6
   clear c6
   simp only [Option.some.injEq, Prod.mk.injEq] at H
   obtain ⟨rfl, rfl⟩ := H
   go_enter Try.func150, Try.ntmps150
   go_wp2_with (first | ((with_reducible refine gate_callee (f := 72) rfl ?_); refine goesL_ (some 13) rfl rfl Try.func72 (by kernel_rfl) rfl #[.string a0] rfl (by (try simp only [lT, lC, lN]); first | done | rfl) ?_; (with_reducible refine (clavigerref35_Keys.calls k a0 t1 t3 t4 _ A4.out).mono ?_); rintro e w7 ⟨rfl, hb⟩; refine ⟨_, rfl, ?_⟩; have n0_ := Aside0.mk (below_step (by repeat first | with_reducible (first | exact HB.out | apply bA | apply bN | apply bD) | exact HB.out) hb); clear HB; have HB := n0_; clear n0_; (try clear hb); (try clear hb2); (try clear hk); (try clear hi)))
   go_ret2
   exact ⟨by first | rfl | (simp [*, errW_none, errW_some] <;> rfl), by repeat first | with_reducible (first | exact HB.out | apply bA | apply bN | apply bD) | exact HB.out⟩
  ·rw [if_neg c6] at H
   have c6b0 : (a2.toList == ([] : List UInt8)) = false := beq_eq_false_iff_ne.mpr c6
   have c6b1 : (a2.toList != ([] : List UInt8)) = true := bne_iff_ne.mpr c6
   by_cases c8 : ((a2.size : Int) % 16) = 0
   ·rw [if_pos c8] at H
    have c8b0 : (((a2.size : Int) % 16) == 0) = true := beq_iff_eq.mpr c8
    have c8b1 : (((a2.size : Int) % 16) != 0) = false := bne_eq_false_iff_eq.mpr c8
    clear c8
    by_cases c9 : a1.size + a2.size ≤ 9223372036854775807
    ·rw [if_pos c9] at H
     have c9b0 := eq_true c9
     have c9b1 : decide (a1.size + a2.size ≤ 9223372036854775807) = true := decide_eq_true c9
     try have c9b2 : (9223372036854775807 < a1.size + a2.size) = False := eq_false (Nat.not_lt.2 c9)
     replace H := Option.bind_eq_some_iff.mp H
     obtain ⟨⟨t2, t5⟩, A100, H⟩ := H
     replace H : (some (t2, t5)) = some (r1, r2) := H
     have A10 := Aside0.mk A100
     clear A100
     simp only [Option.some.injEq, Prod.mk.injEq] at H
     obtain ⟨rfl, rfl⟩ := H
     go_enter Try.func150, Try.ntmps150
     go_wp2_with (first | ((with_reducible refine gate_callee (f := 72) rfl ?_); refine goesL_ (some 13) rfl rfl Try.func72 (by kernel_rfl) rfl #[.string a0] rfl (by (try simp only [lT, lC, lN]); first | done | rfl) ?_; (with_reducible refine (clavigerref35_Keys.calls k a0 t1 t3 t4 _ A4.out).mono ?_); rintro e w11 ⟨rfl, hb⟩; refine ⟨_, rfl, ?_⟩; have n0_ := Aside0.mk (below_step (by repeat first | with_reducible (first | exact HB.out | apply bA | apply bN | apply bD) | exact HB.out) hb); clear HB; have HB := n0_; clear n0_; (try clear hb); (try clear hb2); (try clear hk); (try clear hi)) | ((with_reducible refine gate_callee (f := 74) rfl ?_); refine goesL_ (some 32) rfl rfl Try.func74 (by kernel_rfl) rfl #[.string t3, .string (a1 ++ a2)] rfl (by (try simp only [lT, lC, lN]); first | done | rfl) ?_; (with_reducible refine (clavigerref11_Tag.calls k t3 (a1 ++ a2) t2 t5 _ A10.out).mono ?_); rintro e w12 ⟨rfl, hb⟩; refine ⟨_, rfl, ?_⟩; have n0_ := Aside0.mk (below_step (by repeat first | with_reducible (first | exact HB.out | apply bA | apply bN | apply bD) | exact HB.out) hb); clear HB; have HB := n0_; clear n0_; (try clear hb); (try clear hb2); (try clear hk); (try clear hi)))
     go_ret2
     exact ⟨by first | rfl | (simp [*, errW_none, errW_some] <;> rfl), by repeat first | with_reducible (first | exact HB.out | apply bA | apply bN | apply bD) | exact HB.out⟩
    ·rw [if_neg c9] at H
     exact absurd H (by simp)
   ·rw [if_neg c8] at H
    have c8b0 : (((a2.size : Int) % 16) == 0) = false := beq_eq_false_iff_ne.mpr c8
    have c8b1 : (((a2.size : Int) % 16) != 0) = true := bne_iff_ne.mpr c8
    simp only [Option.some.injEq, Prod.mk.injEq] at H
    obtain ⟨rfl, rfl⟩ := H
    go_enter Try.func150, Try.ntmps150
    go_wp2_with (first | ((with_reducible refine gate_callee (f := 72) rfl ?_); refine goesL_ (some 13) rfl rfl Try.func72 (by kernel_rfl) rfl #[.string a0] rfl (by (try simp only [lT, lC, lN]); first | done | rfl) ?_; (with_reducible refine (clavigerref35_Keys.calls k a0 t1 t3 t4 _ A4.out).mono ?_); rintro e w13 ⟨rfl, hb⟩; refine ⟨_, rfl, ?_⟩; have n0_ := Aside0.mk (below_step (by repeat first | with_reducible (first | exact HB.out | apply bA | apply bN | apply bD) | exact HB.out) hb); clear HB; have HB := n0_; clear n0_; (try clear hb); (try clear hb2); (try clear hk); (try clear hi)))
    go_ret2
    exact ⟨by first | rfl | (simp [*, errW_none, errW_some] <;> rfl), by repeat first | with_reducible (first | exact HB.out | apply bA | apply bN | apply bD) | exact HB.out⟩
 ·rw [if_neg c5] at H
  have c5b0 : (t4 == 0) = false := beq_eq_false_iff_ne.mpr c5
  have c5b1 : (t4 != 0) = true := bne_iff_ne.mpr c5
  simp only [Option.some.injEq, Prod.mk.injEq] at H
  obtain ⟨rfl, rfl⟩ := H
  go_enter Try.func150, Try.ntmps150
  go_wp2_with (first | ((with_reducible refine gate_callee (f := 72) rfl ?_); refine goesL_ (some 13) rfl rfl Try.func72 (by kernel_rfl) rfl #[.string a0] rfl (by (try simp only [lT, lC, lN]); first | done | rfl) ?_; (with_reducible refine (clavigerref35_Keys.calls k a0 t1 t3 t4 _ A4.out).mono ?_); rintro e w14 ⟨rfl, hb⟩; refine ⟨_, rfl, ?_⟩; have n0_ := Aside0.mk (below_step (by repeat first | with_reducible (first | exact HB.out | apply bA | apply bN | apply bD) | exact HB.out) hb); clear HB; have HB := n0_; clear n0_; (try clear hb); (try clear hb2); (try clear hk); (try clear hi)))
  go_ret2
  exact ⟨by first | rfl | (simp [*, errW_none, errW_some] <;> rfl), by repeat first | with_reducible (first | exact HB.out | apply bA | apply bN | apply bD) | exact HB.out⟩

def clavigerref37_Seal.f (k : Nat) (a0 : ByteArray) (a1 : ByteArray) (a2 : ByteArray) : Option (ByteArray × ByteArray × Int) := (clavigerref37_Bind.f k a0 a1 a2).bind fun bt1 => (if bt1.2 = 0 then ((clavigerref35_Keys.f k a0).bind fun bt2 => ((clavigerref10_Encrypt.f k bt2.1 bt1.1 a2).bind fun bt3 => (some (bt3.1, bt1.1, 0)))) else (some ((⟨#[]⟩ : ByteArray), (⟨#[]⟩ : ByteArray), bt1.2)))
theorem clavigerref37_Seal.mono : ∀ a0 a1 a2 k, LeO (clavigerref37_Seal.f k a0 a1 a2) (clavigerref37_Seal.f (k + 1) a0 a1 a2) := by
 intro a0 a1 a2 k
 unfold clavigerref37_Seal.f
 repeat' first
   | (with_reducible exact clavigerref10_Encrypt.mono _ _ _ _)
   | (with_reducible exact clavigerref35_Keys.mono _ _)
   | (with_reducible exact clavigerref37_Bind.mono _ _ _ _)
   | (with_reducible exact LeO.refl _)
   | (with_reducible exact LeO.none _)
   | (with_reducible refine LeO.ite ?_ ?_)
   | (with_reducible refine LeO.bind ?_ (fun _ => ?_))
set_option maxHeartbeats 8000000 in
set_option maxRecDepth 100000 in
theorem clavigerref37_Seal.calls (k : Nat) (a0 : ByteArray) (a1 : ByteArray) (a2 : ByteArray) (r1 : ByteArray) (r2 : ByteArray) (r3 : Int) (w : World) (h : clavigerref37_Seal.f k a0 a1 a2 = some (r1, r2, r3)) :
  Calls Try.prog 60 #[.string a0, .string a1, .string a2] w fun e w' => e = .returned (.tuple #[.string r1, .string r2, .int .i64 r3]) ∧ Below w.heap.size w w' := by
 have HB := Aside0.mk (Below.refl w.heap.size w)
 have H : ((clavigerref37_Bind.f k a0 a1 a2).bind fun bt1 => (if bt1.2 = 0 then ((clavigerref35_Keys.f k a0).bind fun bt2 => ((clavigerref10_Encrypt.f k bt2.1 bt1.1 a2).bind fun bt3 => (some (bt3.1, bt1.1, 0)))) else (some ((⟨#[]⟩ : ByteArray), (⟨#[]⟩ : ByteArray), bt1.2)))) = some (r1, r2, r3) := h
 clear h
 replace H := Option.bind_eq_some_iff.mp H
 obtain ⟨⟨t1, t4⟩, A40, H⟩ := H
 try dsimp only at H
 have A4 := Aside0.mk A40
 clear A40
 by_cases c5 : t4 = 0
 ·rw [if_pos c5] at H
  have c5b0 : (t4 == 0) = true := beq_iff_eq.mpr c5
  have c5b1 : (t4 != 0) = false := bne_eq_false_iff_eq.mpr c5
  clear c5
  replace H := Option.bind_eq_some_iff.mp H
  obtain ⟨⟨t2, t5, t6⟩, A60, H⟩ := H
  try dsimp only at H
  have A6 := Aside0.mk A60
  clear A60
  replace H := Option.bind_eq_some_iff.mp H
  obtain ⟨⟨t3, t7⟩, A70, H⟩ := H
  replace H : (some (t3, t1, 0)) = some (r1, r2, r3) := H
  have A7 := Aside0.mk A70
  clear A70
  simp only [Option.some.injEq, Prod.mk.injEq] at H
  obtain ⟨rfl, rfl, rfl⟩ := H
  go_enter Try.func60, Try.ntmps60
  go_wp2_with (first | ((with_reducible refine gate_callee (f := 150) rfl ?_); refine goesL_ (some 20) rfl rfl Try.func150 (by kernel_rfl) rfl #[.string a0, .string a1, .string a2] rfl (by (try simp only [lT, lC, lN]); first | done | rfl) ?_; (with_reducible refine (clavigerref37_Bind.calls k a0 a1 a2 t1 t4 _ A4.out).mono ?_); rintro e w8 ⟨rfl, hb⟩; refine ⟨_, rfl, ?_⟩; have n0_ := Aside0.mk (below_step (by repeat first | with_reducible (first | exact HB.out | apply bA | apply bN | apply bD) | exact HB.out) hb); clear HB; have HB := n0_; clear n0_; (try clear hb); (try clear hb2); (try clear hk); (try clear hi)) | ((with_reducible refine gate_callee (f := 72) rfl ?_); refine goesL_ (some 28) rfl rfl Try.func72 (by kernel_rfl) rfl #[.string a0] rfl (by (try simp only [lT, lC, lN]); first | done | rfl) ?_; (with_reducible refine (clavigerref35_Keys.calls k a0 t2 t5 t6 _ A6.out).mono ?_); rintro e w9 ⟨rfl, hb⟩; refine ⟨_, rfl, ?_⟩; have n0_ := Aside0.mk (below_step (by repeat first | with_reducible (first | exact HB.out | apply bA | apply bN | apply bD) | exact HB.out) hb); clear HB; have HB := n0_; clear n0_; (try clear hb); (try clear hb2); (try clear hk); (try clear hi)) | ((with_reducible refine gate_callee (f := 118) rfl ?_); refine goesL_ (some 36) rfl rfl Try.func118 (by kernel_rfl) rfl #[.string t2, .string t1, .string a2] rfl (by (try simp only [lT, lC, lN]); first | done | rfl) ?_; (with_reducible refine (clavigerref10_Encrypt.calls k t2 t1 a2 t3 t7 _ A7.out).mono ?_); rintro e w10 ⟨rfl, hb⟩; refine ⟨_, rfl, ?_⟩; have n0_ := Aside0.mk (below_step (by repeat first | with_reducible (first | exact HB.out | apply bA | apply bN | apply bD) | exact HB.out) hb); clear HB; have HB := n0_; clear n0_; (try clear hb); (try clear hb2); (try clear hk); (try clear hi)))
  go_ret3
  exact ⟨by first | rfl | (simp [*, errW_none, errW_some] <;> rfl), by repeat first | with_reducible (first | exact HB.out | apply bA | apply bN | apply bD) | exact HB.out⟩
 ·rw [if_neg c5] at H
  have c5b0 : (t4 == 0) = false := beq_eq_false_iff_ne.mpr c5
  have c5b1 : (t4 != 0) = true := bne_iff_ne.mpr c5
  simp only [Option.some.injEq, Prod.mk.injEq] at H
  obtain ⟨rfl, rfl, rfl⟩ := H
  go_enter Try.func60, Try.ntmps60
  go_wp2_with (first | ((with_reducible refine gate_callee (f := 150) rfl ?_); refine goesL_ (some 20) rfl rfl Try.func150 (by kernel_rfl) rfl #[.string a0, .string a1, .string a2] rfl (by (try simp only [lT, lC, lN]); first | done | rfl) ?_; (with_reducible refine (clavigerref37_Bind.calls k a0 a1 a2 t1 t4 _ A4.out).mono ?_); rintro e w11 ⟨rfl, hb⟩; refine ⟨_, rfl, ?_⟩; have n0_ := Aside0.mk (below_step (by repeat first | with_reducible (first | exact HB.out | apply bA | apply bN | apply bD) | exact HB.out) hb); clear HB; have HB := n0_; clear n0_; (try clear hb); (try clear hb2); (try clear hk); (try clear hi)))
  go_ret3
  exact ⟨by first | rfl | (simp [*, errW_none, errW_some] <;> rfl), by repeat first | with_reducible (first | exact HB.out | apply bA | apply bN | apply bD) | exact HB.out⟩

def seal_ready.f (k : Nat) (a0 : ByteArray) (a1 : ByteArray) : Option (ByteArray × ByteArray × Int) := (derive_Keys.f k a0).bind fun bt1 => (if bt1.2.2 = 0 then (if a1.toList = ([] : List UInt8) then (some ((⟨#[]⟩ : ByteArray), (⟨#[]⟩ : ByteArray), 4)) else (if ((a1.size : Int) % 16) = 0 then (some (bt1.1, bt1.2.1, 0)) else (some ((⟨#[]⟩ : ByteArray), (⟨#[]⟩ : ByteArray), 4)))) else (some ((⟨#[]⟩ : ByteArray), (⟨#[]⟩ : ByteArray), bt1.2.2)))
theorem seal_ready.mono : ∀ a0 a1 k, LeO (seal_ready.f k a0 a1) (seal_ready.f (k + 1) a0 a1) := by
 intro a0 a1 k
 unfold seal_ready.f
 repeat' first
   | (with_reducible exact derive_Keys.mono _ _)
   | (with_reducible exact LeO.refl _)
   | (with_reducible exact LeO.none _)
   | (with_reducible refine LeO.ite ?_ ?_)
   | (with_reducible refine LeO.bind ?_ (fun _ => ?_))
def seal_Seal.f (k : Nat) (a0 : ByteArray) (a1 : ByteArray) (a2 : ByteArray) : Option (ByteArray × ByteArray × Int) := (seal_ready.f k a0 a2).bind fun bt1 => (if bt1.2.2 = 0 then (if a1.size + a2.size ≤ 9223372036854775807 then ((cmac_Tag.f bt1.2.1 (a1 ++ a2)).bind fun bt2 => ((cbc_Encrypt.f bt1.1 bt2.1 a2).bind fun bt3 => (some (bt3.1, bt2.1, bt3.2)))) else (none)) else (some ((⟨#[]⟩ : ByteArray), (⟨#[]⟩ : ByteArray), bt1.2.2)))
theorem seal_Seal.mono : ∀ a0 a1 a2 k, LeO (seal_Seal.f k a0 a1 a2) (seal_Seal.f (k + 1) a0 a1 a2) := by
 intro a0 a1 a2 k
 unfold seal_Seal.f
 repeat' first
   | (with_reducible exact seal_ready.mono _ _ _)
   | (with_reducible exact LeO.refl _)
   | (with_reducible exact LeO.none _)
   | (with_reducible refine LeO.ite ?_ ?_)
   | (with_reducible refine LeO.bind ?_ (fun _ => ?_))
def seal_Bind.f (k : Nat) (a0 : ByteArray) (a1 : ByteArray) (a2 : ByteArray) : Option (ByteArray × Int) := (seal_ready.f k a0 a2).bind fun bt1 => (if bt1.2.2 = 0 then (if a1.size + a2.size ≤ 9223372036854775807 then ((cmac_Tag.f bt1.2.1 (a1 ++ a2)).bind fun bt2 => (some (bt2.1, bt2.2))) else (none)) else (some ((⟨#[]⟩ : ByteArray), bt1.2.2)))
theorem seal_Bind.mono : ∀ a0 a1 a2 k, LeO (seal_Bind.f k a0 a1 a2) (seal_Bind.f (k + 1) a0 a1 a2) := by
 intro a0 a1 a2 k
 unfold seal_Bind.f
 repeat' first
   | (with_reducible exact seal_ready.mono _ _ _)
   | (with_reducible exact LeO.refl _)
   | (with_reducible exact LeO.none _)
   | (with_reducible refine LeO.ite ?_ ?_)
   | (with_reducible refine LeO.bind ?_ (fun _ => ?_))
def seal_Blocks.f (a0 : Int) (a1 : Int) : Option (Int) := if (mn a0 a1) < 0 then (some 0) else (if (mx a0 a1) > 65552 then (some 0) else ((cmac_Blocks.f (wrap64 (a0 + a1))).bind fun t1 => (some (wrap64 ((wrap64 (t1 + (a1 / 16))) + 1)))))
def clavigerref37_Blocks.f (a0 : Int) (a1 : Int) : Option (Int) := if a0 < 0 then (some 0) else (if a1 < 0 then (some 0) else (if a0 > 65552 then (some 0) else (if a1 > 65552 then (some 0) else ((clavigerref11_Blocks.f (wrap64 (a0 + a1))).bind fun t1 => (some (wrap64 ((wrap64 (t1 + 1)) + (wrap64 (Int.tdiv a1 16)))))))))
end Go.Proofs.Ytokkhnjedmlbhaa.Pr
end
section
namespace Go.Proofs.Ytokkhnjedmlbhaa.Pr
open Go.RowKit Go.Proofs.YtokkhnjedmlbhaaW.PrintWords Go.Proofs.YtokkhnjedmlbhaaW.PrintLast Go.Proofs.YtokkhnjedmlbhaaW.PrintMore
attribute [local go_sem] max2_int min2_int max_two min_two max_three min_three max_four min_four   -- for this text's walks alone
set_option linter.unusedVariables false
set_option linter.unusedSimpArgs false

def clavigerlaw38_awake.f (k : Nat)  : Option (Bool) := (clavigerref37_Seal.f k (⟨#[48, 49, 50, 51, 52, 53, 54, 55, 56, 57, 97, 98, 99, 100, 101, 102]⟩ : ByteArray) (⟨#[116, 111, 112]⟩ : ByteArray) (⟨#[102, 101, 100, 99, 98, 97, 57, 56, 55, 54, 53, 52, 51, 50, 49, 48]⟩ : ByteArray)).bind fun bt1 => ((open_Open.f k (⟨#[48, 49, 50, 51, 52, 53, 54, 55, 56, 57, 97, 98, 99, 100, 101, 102]⟩ : ByteArray) (⟨#[116, 111, 112]⟩ : ByteArray) bt1.1 bt1.2.1).bind fun bt2 => ((open_Open.f k (⟨#[48, 49, 50, 51, 52, 53, 54, 55, 56, 57, 97, 98, 99, 100, 101, 102]⟩ : ByteArray) (⟨#[116, 111, 112]⟩ : ByteArray) bt1.1 (⟨#[115, 104, 111, 114, 116]⟩ : ByteArray)).bind fun bt3 => (if bt2.1.toList = ([102, 101, 100, 99, 98, 97, 57, 56, 55, 54, 53, 52, 51, 50, 49, 48] : List UInt8) then (if bt2.2 = 0 then (if bt3.1.toList = ([] : List UInt8) then (if bt3.2 = 4 then ((open_Right.f k (⟨#[48, 49, 50, 51, 52, 53, 54, 55, 56, 57, 97, 98, 99, 100, 101, 102]⟩ : ByteArray) (⟨#[116, 111, 112]⟩ : ByteArray) bt1.1 bt1.2.1).bind fun t4 => (some t4)) else (some false)) else (some false)) else (some false)) else (some false))))
theorem clavigerlaw38_awake.mono : ∀ k, LeO (clavigerlaw38_awake.f k ) (clavigerlaw38_awake.f (k + 1) ) := by
 intro  k
 unfold clavigerlaw38_awake.f
 repeat' first
   | (with_reducible exact clavigerref37_Seal.mono _ _ _ _)
   | (with_reducible exact open_Open.mono _ _ _ _ _)
   | (with_reducible exact open_Right.mono _ _ _ _ _)
   | (with_reducible exact LeO.refl _)
   | (with_reducible exact LeO.none _)
   | (with_reducible refine LeO.ite ?_ ?_)
   | (with_reducible refine LeO.bind ?_ (fun _ => ?_))
set_option maxHeartbeats 8000000 in
set_option maxRecDepth 100000 in
theorem clavigerlaw38_awake.calls (k : Nat)  (r : Bool) (w : World) (h : clavigerlaw38_awake.f k  = some r) :
  Calls Try.prog 59 #[] w fun e w' => e = .returned (.bool r) ∧ Below w.heap.size w w' := by
 have HB := Aside0.mk (Below.refl w.heap.size w)
 have H : ((clavigerref37_Seal.f k (⟨#[48, 49, 50, 51, 52, 53, 54, 55, 56, 57, 97, 98, 99, 100, 101, 102]⟩ : ByteArray) (⟨#[116, 111, 112]⟩ : ByteArray) (⟨#[102, 101, 100, 99, 98, 97, 57, 56, 55, 54, 53, 52, 51, 50, 49, 48]⟩ : ByteArray)).bind fun bt1 => ((open_Open.f k (⟨#[48, 49, 50, 51, 52, 53, 54, 55, 56, 57, 97, 98, 99, 100, 101, 102]⟩ : ByteArray) (⟨#[116, 111, 112]⟩ : ByteArray) bt1.1 bt1.2.1).bind fun bt2 => ((open_Open.f k (⟨#[48, 49, 50, 51, 52, 53, 54, 55, 56, 57, 97, 98, 99, 100, 101, 102]⟩ : ByteArray) (⟨#[116, 111, 112]⟩ : ByteArray) bt1.1 (⟨#[115, 104, 111, 114, 116]⟩ : ByteArray)).bind fun bt3 => (if bt2.1.toList = ([102, 101, 100, 99, 98, 97, 57, 56, 55, 54, 53, 52, 51, 50, 49, 48] : List UInt8) then (if bt2.2 = 0 then (if bt3.1.toList = ([] : List UInt8) then (if bt3.2 = 4 then ((open_Right.f k (⟨#[48, 49, 50, 51, 52, 53, 54, 55, 56, 57, 97, 98, 99, 100, 101, 102]⟩ : ByteArray) (⟨#[116, 111, 112]⟩ : ByteArray) bt1.1 bt1.2.1).bind fun t4 => (some t4)) else (some false)) else (some false)) else (some false)) else (some false))))) = some r := h
 clear h
 replace H := Option.bind_eq_some_iff.mp H
 obtain ⟨⟨t1, t5, t6⟩, A10, H⟩ := H
 try dsimp only at H
 have A1 := Aside0.mk A10
 clear A10
 replace H := Option.bind_eq_some_iff.mp H
 obtain ⟨⟨t2, t7⟩, A20, H⟩ := H
 try dsimp only at H
 have A2 := Aside0.mk A20
 clear A20
 replace H := Option.bind_eq_some_iff.mp H
 obtain ⟨⟨t3, t8⟩, A30, H⟩ := H
 try dsimp only at H
 have A3 := Aside0.mk A30
 clear A30
 by_cases c4 : t2.toList = ([102, 101, 100, 99, 98, 97, 57, 56, 55, 54, 53, 52, 51, 50, 49, 48] : List UInt8)
 ·rw [if_pos c4] at H
  have c4b0 : (t2.toList == ([102, 101, 100, 99, 98, 97, 57, 56, 55, 54, 53, 52, 51, 50, 49, 48] : List UInt8)) = true := beq_iff_eq.mpr c4
  have c4b1 : (t2.toList != ([102, 101, 100, 99, 98, 97, 57, 56, 55, 54, 53, 52, 51, 50, 49, 48] : List UInt8)) = false := bne_eq_false_iff_eq.mpr c4
  clear c4
  by_cases c5 : t7 = 0
  ·rw [if_pos c5] at H
   have c5b0 : (t7 == 0) = true := beq_iff_eq.mpr c5
   have c5b1 : (t7 != 0) = false := bne_eq_false_iff_eq.mpr c5
   clear c5
   by_cases c6 : t3.toList = ([] : List UInt8)
   ·rw [if_pos c6] at H
    have c6b0 : (t3.toList == ([] : List UInt8)) = true := beq_iff_eq.mpr c6
    have c6b1 : (t3.toList != ([] : List UInt8)) = false := bne_eq_false_iff_eq.mpr c6
    clear c6
    by_cases c7 : t8 = 4
    ·rw [if_pos c7] at H
     have c7b0 : (t8 == 4) = true := beq_iff_eq.mpr c7
     have c7b1 : (t8 != 4) = false := bne_eq_false_iff_eq.mpr c7
     clear c7
     replace H := Option.bind_eq_some_iff.mp H
     obtain ⟨t4, A80, H⟩ := H
     replace H : (some t4) = some r := H
     have A8 := Aside0.mk A80
     clear A80
     obtain rfl := Option.some.inj H
     go_enter Try.func59, Try.ntmps59
     go_wp2_with (first | ((with_reducible refine gate_callee (f := 60) rfl ?_); refine goesL_ (some 9) rfl rfl Try.func60 (by kernel_rfl) rfl #[.string (⟨#[48, 49, 50, 51, 52, 53, 54, 55, 56, 57, 97, 98, 99, 100, 101, 102]⟩ : ByteArray), .string (⟨#[116, 111, 112]⟩ : ByteArray), .string (⟨#[102, 101, 100, 99, 98, 97, 57, 56, 55, 54, 53, 52, 51, 50, 49, 48]⟩ : ByteArray)] rfl (by (try simp only [lT, lC, lN]); first | done | rfl) ?_; (with_reducible refine (clavigerref37_Seal.calls k (⟨#[48, 49, 50, 51, 52, 53, 54, 55, 56, 57, 97, 98, 99, 100, 101, 102]⟩ : ByteArray) (⟨#[116, 111, 112]⟩ : ByteArray) (⟨#[102, 101, 100, 99, 98, 97, 57, 56, 55, 54, 53, 52, 51, 50, 49, 48]⟩ : ByteArray) t1 t5 t6 _ A1.out).mono ?_); rintro e w9 ⟨rfl, hb⟩; refine ⟨_, rfl, ?_⟩; have n0_ := Aside0.mk (below_step (by repeat first | with_reducible (first | exact HB.out | apply bA | apply bN | apply bD) | exact HB.out) hb); clear HB; have HB := n0_; clear n0_; (try clear hb); (try clear hb2); (try clear hk); (try clear hi)) | ((with_reducible refine gate_callee (f := 61) rfl ?_); refine goesL_ (some 16) rfl rfl Try.func61 (by kernel_rfl) rfl #[.string (⟨#[48, 49, 50, 51, 52, 53, 54, 55, 56, 57, 97, 98, 99, 100, 101, 102]⟩ : ByteArray), .string (⟨#[116, 111, 112]⟩ : ByteArray), .string t1, .string t5] rfl (by (try simp only [lT, lC, lN]); first | done | rfl) ?_; (with_reducible refine (open_Open.calls k (⟨#[48, 49, 50, 51, 52, 53, 54, 55, 56, 57, 97, 98, 99, 100, 101, 102]⟩ : ByteArray) (⟨#[116, 111, 112]⟩ : ByteArray) t1 t5 t2 t7 _ A2.out).mono ?_); rintro e w10 ⟨rfl, hb⟩; refine ⟨_, rfl, ?_⟩; have n0_ := Aside0.mk (below_step (by repeat first | with_reducible (first | exact HB.out | apply bA | apply bN | apply bD) | exact HB.out) hb); clear HB; have HB := n0_; clear n0_; (try clear hb); (try clear hb2); (try clear hk); (try clear hi)) | ((with_reducible refine gate_callee (f := 61) rfl ?_); refine goesL_ (some 21) rfl rfl Try.func61 (by kernel_rfl) rfl #[.string (⟨#[48, 49, 50, 51, 52, 53, 54, 55, 56, 57, 97, 98, 99, 100, 101, 102]⟩ : ByteArray), .string (⟨#[116, 111, 112]⟩ : ByteArray), .string t1, .string (⟨#[115, 104, 111, 114, 116]⟩ : ByteArray)] rfl (by (try simp only [lT, lC, lN]); first | done | rfl) ?_; (with_reducible refine (open_Open.calls k (⟨#[48, 49, 50, 51, 52, 53, 54, 55, 56, 57, 97, 98, 99, 100, 101, 102]⟩ : ByteArray) (⟨#[116, 111, 112]⟩ : ByteArray) t1 (⟨#[115, 104, 111, 114, 116]⟩ : ByteArray) t3 t8 _ A3.out).mono ?_); rintro e w11 ⟨rfl, hb⟩; refine ⟨_, rfl, ?_⟩; have n0_ := Aside0.mk (below_step (by repeat first | with_reducible (first | exact HB.out | apply bA | apply bN | apply bD) | exact HB.out) hb); clear HB; have HB := n0_; clear n0_; (try clear hb); (try clear hb2); (try clear hk); (try clear hi)) | (go_at_call 167; (with_reducible refine (open_Right.calls k (⟨#[48, 49, 50, 51, 52, 53, 54, 55, 56, 57, 97, 98, 99, 100, 101, 102]⟩ : ByteArray) (⟨#[116, 111, 112]⟩ : ByteArray) t1 t5 t4 _ A8.out).mono ?_); rintro e w12 ⟨rfl, hb⟩; have n0_ := Aside0.mk (below_step (by repeat first | with_reducible (first | exact HB.out | apply bA | apply bN | apply bD) | exact HB.out) hb); clear HB; have HB := n0_; clear n0_; (try clear hb); (try clear hb2); (try clear hk); (try clear hi)))
     go_ret
     exact ⟨by first | rfl | (simp [*, errW_none, errW_some] <;> rfl), by repeat first | with_reducible (first | exact HB.out | apply bA | apply bN | apply bD) | exact HB.out⟩
    ·rw [if_neg c7] at H
     have c7b0 : (t8 == 4) = false := beq_eq_false_iff_ne.mpr c7
     have c7b1 : (t8 != 4) = true := bne_iff_ne.mpr c7
     obtain rfl := Option.some.inj H
     go_enter Try.func59, Try.ntmps59
     go_wp2_with (first | ((with_reducible refine gate_callee (f := 60) rfl ?_); refine goesL_ (some 9) rfl rfl Try.func60 (by kernel_rfl) rfl #[.string (⟨#[48, 49, 50, 51, 52, 53, 54, 55, 56, 57, 97, 98, 99, 100, 101, 102]⟩ : ByteArray), .string (⟨#[116, 111, 112]⟩ : ByteArray), .string (⟨#[102, 101, 100, 99, 98, 97, 57, 56, 55, 54, 53, 52, 51, 50, 49, 48]⟩ : ByteArray)] rfl (by (try simp only [lT, lC, lN]); first | done | rfl) ?_; (with_reducible refine (clavigerref37_Seal.calls k (⟨#[48, 49, 50, 51, 52, 53, 54, 55, 56, 57, 97, 98, 99, 100, 101, 102]⟩ : ByteArray) (⟨#[116, 111, 112]⟩ : ByteArray) (⟨#[102, 101, 100, 99, 98, 97, 57, 56, 55, 54, 53, 52, 51, 50, 49, 48]⟩ : ByteArray) t1 t5 t6 _ A1.out).mono ?_); rintro e w13 ⟨rfl, hb⟩; refine ⟨_, rfl, ?_⟩; have n0_ := Aside0.mk (below_step (by repeat first | with_reducible (first | exact HB.out | apply bA | apply bN | apply bD) | exact HB.out) hb); clear HB; have HB := n0_; clear n0_; (try clear hb); (try clear hb2); (try clear hk); (try clear hi)) | ((with_reducible refine gate_callee (f := 61) rfl ?_); refine goesL_ (some 16) rfl rfl Try.func61 (by kernel_rfl) rfl #[.string (⟨#[48, 49, 50, 51, 52, 53, 54, 55, 56, 57, 97, 98, 99, 100, 101, 102]⟩ : ByteArray), .string (⟨#[116, 111, 112]⟩ : ByteArray), .string t1, .string t5] rfl (by (try simp only [lT, lC, lN]); first | done | rfl) ?_; (with_reducible refine (open_Open.calls k (⟨#[48, 49, 50, 51, 52, 53, 54, 55, 56, 57, 97, 98, 99, 100, 101, 102]⟩ : ByteArray) (⟨#[116, 111, 112]⟩ : ByteArray) t1 t5 t2 t7 _ A2.out).mono ?_); rintro e w14 ⟨rfl, hb⟩; refine ⟨_, rfl, ?_⟩; have n0_ := Aside0.mk (below_step (by repeat first | with_reducible (first | exact HB.out | apply bA | apply bN | apply bD) | exact HB.out) hb); clear HB; have HB := n0_; clear n0_; (try clear hb); (try clear hb2); (try clear hk); (try clear hi)) | ((with_reducible refine gate_callee (f := 61) rfl ?_); refine goesL_ (some 21) rfl rfl Try.func61 (by kernel_rfl) rfl #[.string (⟨#[48, 49, 50, 51, 52, 53, 54, 55, 56, 57, 97, 98, 99, 100, 101, 102]⟩ : ByteArray), .string (⟨#[116, 111, 112]⟩ : ByteArray), .string t1, .string (⟨#[115, 104, 111, 114, 116]⟩ : ByteArray)] rfl (by (try simp only [lT, lC, lN]); first | done | rfl) ?_; (with_reducible refine (open_Open.calls k (⟨#[48, 49, 50, 51, 52, 53, 54, 55, 56, 57, 97, 98, 99, 100, 101, 102]⟩ : ByteArray) (⟨#[116, 111, 112]⟩ : ByteArray) t1 (⟨#[115, 104, 111, 114, 116]⟩ : ByteArray) t3 t8 _ A3.out).mono ?_); rintro e w15 ⟨rfl, hb⟩; refine ⟨_, rfl, ?_⟩; have n0_ := Aside0.mk (below_step (by repeat first | with_reducible (first | exact HB.out | apply bA | apply bN | apply bD) | exact HB.out) hb); clear HB; have HB := n0_; clear n0_; (try clear hb); (try clear hb2); (try clear hk); (try clear hi)))
     go_ret
     exact ⟨by first | rfl | (simp [*, errW_none, errW_some] <;> rfl), by repeat first | with_reducible (first | exact HB.out | apply bA | apply bN | apply bD) | exact HB.out⟩
   ·rw [if_neg c6] at H
    have c6b0 : (t3.toList == ([] : List UInt8)) = false := beq_eq_false_iff_ne.mpr c6
    have c6b1 : (t3.toList != ([] : List UInt8)) = true := bne_iff_ne.mpr c6
    obtain rfl := Option.some.inj H
    go_enter Try.func59, Try.ntmps59
    go_wp2_with (first | ((with_reducible refine gate_callee (f := 60) rfl ?_); refine goesL_ (some 9) rfl rfl Try.func60 (by kernel_rfl) rfl #[.string (⟨#[48, 49, 50, 51, 52, 53, 54, 55, 56, 57, 97, 98, 99, 100, 101, 102]⟩ : ByteArray), .string (⟨#[116, 111, 112]⟩ : ByteArray), .string (⟨#[102, 101, 100, 99, 98, 97, 57, 56, 55, 54, 53, 52, 51, 50, 49, 48]⟩ : ByteArray)] rfl (by (try simp only [lT, lC, lN]); first | done | rfl) ?_; (with_reducible refine (clavigerref37_Seal.calls k (⟨#[48, 49, 50, 51, 52, 53, 54, 55, 56, 57, 97, 98, 99, 100, 101, 102]⟩ : ByteArray) (⟨#[116, 111, 112]⟩ : ByteArray) (⟨#[102, 101, 100, 99, 98, 97, 57, 56, 55, 54, 53, 52, 51, 50, 49, 48]⟩ : ByteArray) t1 t5 t6 _ A1.out).mono ?_); rintro e w16 ⟨rfl, hb⟩; refine ⟨_, rfl, ?_⟩; have n0_ := Aside0.mk (below_step (by repeat first | with_reducible (first | exact HB.out | apply bA | apply bN | apply bD) | exact HB.out) hb); clear HB; have HB := n0_; clear n0_; (try clear hb); (try clear hb2); (try clear hk); (try clear hi)) | ((with_reducible refine gate_callee (f := 61) rfl ?_); refine goesL_ (some 16) rfl rfl Try.func61 (by kernel_rfl) rfl #[.string (⟨#[48, 49, 50, 51, 52, 53, 54, 55, 56, 57, 97, 98, 99, 100, 101, 102]⟩ : ByteArray), .string (⟨#[116, 111, 112]⟩ : ByteArray), .string t1, .string t5] rfl (by (try simp only [lT, lC, lN]); first | done | rfl) ?_; (with_reducible refine (open_Open.calls k (⟨#[48, 49, 50, 51, 52, 53, 54, 55, 56, 57, 97, 98, 99, 100, 101, 102]⟩ : ByteArray) (⟨#[116, 111, 112]⟩ : ByteArray) t1 t5 t2 t7 _ A2.out).mono ?_); rintro e w17 ⟨rfl, hb⟩; refine ⟨_, rfl, ?_⟩; have n0_ := Aside0.mk (below_step (by repeat first | with_reducible (first | exact HB.out | apply bA | apply bN | apply bD) | exact HB.out) hb); clear HB; have HB := n0_; clear n0_; (try clear hb); (try clear hb2); (try clear hk); (try clear hi)) | ((with_reducible refine gate_callee (f := 61) rfl ?_); refine goesL_ (some 21) rfl rfl Try.func61 (by kernel_rfl) rfl #[.string (⟨#[48, 49, 50, 51, 52, 53, 54, 55, 56, 57, 97, 98, 99, 100, 101, 102]⟩ : ByteArray), .string (⟨#[116, 111, 112]⟩ : ByteArray), .string t1, .string (⟨#[115, 104, 111, 114, 116]⟩ : ByteArray)] rfl (by (try simp only [lT, lC, lN]); first | done | rfl) ?_; (with_reducible refine (open_Open.calls k (⟨#[48, 49, 50, 51, 52, 53, 54, 55, 56, 57, 97, 98, 99, 100, 101, 102]⟩ : ByteArray) (⟨#[116, 111, 112]⟩ : ByteArray) t1 (⟨#[115, 104, 111, 114, 116]⟩ : ByteArray) t3 t8 _ A3.out).mono ?_); rintro e w18 ⟨rfl, hb⟩; refine ⟨_, rfl, ?_⟩; have n0_ := Aside0.mk (below_step (by repeat first | with_reducible (first | exact HB.out | apply bA | apply bN | apply bD) | exact HB.out) hb); clear HB; have HB := n0_; clear n0_; (try clear hb); (try clear hb2); (try clear hk); (try clear hi)))
    go_ret
    exact ⟨by first | rfl | (simp [*, errW_none, errW_some] <;> rfl), by repeat first | with_reducible (first | exact HB.out | apply bA | apply bN | apply bD) | exact HB.out⟩
  ·rw [if_neg c5] at H
   have c5b0 : (t7 == 0) = false := beq_eq_false_iff_ne.mpr c5
   have c5b1 : (t7 != 0) = true := bne_iff_ne.mpr c5
   obtain rfl := Option.some.inj H
   go_enter Try.func59, Try.ntmps59
   go_wp2_with (first | ((with_reducible refine gate_callee (f := 60) rfl ?_); refine goesL_ (some 9) rfl rfl Try.func60 (by kernel_rfl) rfl #[.string (⟨#[48, 49, 50, 51, 52, 53, 54, 55, 56, 57, 97, 98, 99, 100, 101, 102]⟩ : ByteArray), .string (⟨#[116, 111, 112]⟩ : ByteArray), .string (⟨#[102, 101, 100, 99, 98, 97, 57, 56, 55, 54, 53, 52, 51, 50, 49, 48]⟩ : ByteArray)] rfl (by (try simp only [lT, lC, lN]); first | done | rfl) ?_; (with_reducible refine (clavigerref37_Seal.calls k (⟨#[48, 49, 50, 51, 52, 53, 54, 55, 56, 57, 97, 98, 99, 100, 101, 102]⟩ : ByteArray) (⟨#[116, 111, 112]⟩ : ByteArray) (⟨#[102, 101, 100, 99, 98, 97, 57, 56, 55, 54, 53, 52, 51, 50, 49, 48]⟩ : ByteArray) t1 t5 t6 _ A1.out).mono ?_); rintro e w19 ⟨rfl, hb⟩; refine ⟨_, rfl, ?_⟩; have n0_ := Aside0.mk (below_step (by repeat first | with_reducible (first | exact HB.out | apply bA | apply bN | apply bD) | exact HB.out) hb); clear HB; have HB := n0_; clear n0_; (try clear hb); (try clear hb2); (try clear hk); (try clear hi)) | ((with_reducible refine gate_callee (f := 61) rfl ?_); refine goesL_ (some 16) rfl rfl Try.func61 (by kernel_rfl) rfl #[.string (⟨#[48, 49, 50, 51, 52, 53, 54, 55, 56, 57, 97, 98, 99, 100, 101, 102]⟩ : ByteArray), .string (⟨#[116, 111, 112]⟩ : ByteArray), .string t1, .string t5] rfl (by (try simp only [lT, lC, lN]); first | done | rfl) ?_; (with_reducible refine (open_Open.calls k (⟨#[48, 49, 50, 51, 52, 53, 54, 55, 56, 57, 97, 98, 99, 100, 101, 102]⟩ : ByteArray) (⟨#[116, 111, 112]⟩ : ByteArray) t1 t5 t2 t7 _ A2.out).mono ?_); rintro e w20 ⟨rfl, hb⟩; refine ⟨_, rfl, ?_⟩; have n0_ := Aside0.mk (below_step (by repeat first | with_reducible (first | exact HB.out | apply bA | apply bN | apply bD) | exact HB.out) hb); clear HB; have HB := n0_; clear n0_; (try clear hb); (try clear hb2); (try clear hk); (try clear hi)) | ((with_reducible refine gate_callee (f := 61) rfl ?_); refine goesL_ (some 21) rfl rfl Try.func61 (by kernel_rfl) rfl #[.string (⟨#[48, 49, 50, 51, 52, 53, 54, 55, 56, 57, 97, 98, 99, 100, 101, 102]⟩ : ByteArray), .string (⟨#[116, 111, 112]⟩ : ByteArray), .string t1, .string (⟨#[115, 104, 111, 114, 116]⟩ : ByteArray)] rfl (by (try simp only [lT, lC, lN]); first | done | rfl) ?_; (with_reducible refine (open_Open.calls k (⟨#[48, 49, 50, 51, 52, 53, 54, 55, 56, 57, 97, 98, 99, 100, 101, 102]⟩ : ByteArray) (⟨#[116, 111, 112]⟩ : ByteArray) t1 (⟨#[115, 104, 111, 114, 116]⟩ : ByteArray) t3 t8 _ A3.out).mono ?_); rintro e w21 ⟨rfl, hb⟩; refine ⟨_, rfl, ?_⟩; have n0_ := Aside0.mk (below_step (by repeat first | with_reducible (first | exact HB.out | apply bA | apply bN | apply bD) | exact HB.out) hb); clear HB; have HB := n0_; clear n0_; (try clear hb); (try clear hb2); (try clear hk); (try clear hi)))
   go_ret
   exact ⟨by first | rfl | (simp [*, errW_none, errW_some] <;> rfl), by repeat first | with_reducible (first | exact HB.out | apply bA | apply bN | apply bD) | exact HB.out⟩
 ·rw [if_neg c4] at H
  have c4b0 : (t2.toList == ([102, 101, 100, 99, 98, 97, 57, 56, 55, 54, 53, 52, 51, 50, 49, 48] : List UInt8)) = false := beq_eq_false_iff_ne.mpr c4
  have c4b1 : (t2.toList != ([102, 101, 100, 99, 98, 97, 57, 56, 55, 54, 53, 52, 51, 50, 49, 48] : List UInt8)) = true := bne_iff_ne.mpr c4
  obtain rfl := Option.some.inj H
  go_enter Try.func59, Try.ntmps59
  go_wp2_with (first | ((with_reducible refine gate_callee (f := 60) rfl ?_); refine goesL_ (some 9) rfl rfl Try.func60 (by kernel_rfl) rfl #[.string (⟨#[48, 49, 50, 51, 52, 53, 54, 55, 56, 57, 97, 98, 99, 100, 101, 102]⟩ : ByteArray), .string (⟨#[116, 111, 112]⟩ : ByteArray), .string (⟨#[102, 101, 100, 99, 98, 97, 57, 56, 55, 54, 53, 52, 51, 50, 49, 48]⟩ : ByteArray)] rfl (by (try simp only [lT, lC, lN]); first | done | rfl) ?_; (with_reducible refine (clavigerref37_Seal.calls k (⟨#[48, 49, 50, 51, 52, 53, 54, 55, 56, 57, 97, 98, 99, 100, 101, 102]⟩ : ByteArray) (⟨#[116, 111, 112]⟩ : ByteArray) (⟨#[102, 101, 100, 99, 98, 97, 57, 56, 55, 54, 53, 52, 51, 50, 49, 48]⟩ : ByteArray) t1 t5 t6 _ A1.out).mono ?_); rintro e w22 ⟨rfl, hb⟩; refine ⟨_, rfl, ?_⟩; have n0_ := Aside0.mk (below_step (by repeat first | with_reducible (first | exact HB.out | apply bA | apply bN | apply bD) | exact HB.out) hb); clear HB; have HB := n0_; clear n0_; (try clear hb); (try clear hb2); (try clear hk); (try clear hi)) | ((with_reducible refine gate_callee (f := 61) rfl ?_); refine goesL_ (some 16) rfl rfl Try.func61 (by kernel_rfl) rfl #[.string (⟨#[48, 49, 50, 51, 52, 53, 54, 55, 56, 57, 97, 98, 99, 100, 101, 102]⟩ : ByteArray), .string (⟨#[116, 111, 112]⟩ : ByteArray), .string t1, .string t5] rfl (by (try simp only [lT, lC, lN]); first | done | rfl) ?_; (with_reducible refine (open_Open.calls k (⟨#[48, 49, 50, 51, 52, 53, 54, 55, 56, 57, 97, 98, 99, 100, 101, 102]⟩ : ByteArray) (⟨#[116, 111, 112]⟩ : ByteArray) t1 t5 t2 t7 _ A2.out).mono ?_); rintro e w23 ⟨rfl, hb⟩; refine ⟨_, rfl, ?_⟩; have n0_ := Aside0.mk (below_step (by repeat first | with_reducible (first | exact HB.out | apply bA | apply bN | apply bD) | exact HB.out) hb); clear HB; have HB := n0_; clear n0_; (try clear hb); (try clear hb2); (try clear hk); (try clear hi)) | ((with_reducible refine gate_callee (f := 61) rfl ?_); refine goesL_ (some 21) rfl rfl Try.func61 (by kernel_rfl) rfl #[.string (⟨#[48, 49, 50, 51, 52, 53, 54, 55, 56, 57, 97, 98, 99, 100, 101, 102]⟩ : ByteArray), .string (⟨#[116, 111, 112]⟩ : ByteArray), .string t1, .string (⟨#[115, 104, 111, 114, 116]⟩ : ByteArray)] rfl (by (try simp only [lT, lC, lN]); first | done | rfl) ?_; (with_reducible refine (open_Open.calls k (⟨#[48, 49, 50, 51, 52, 53, 54, 55, 56, 57, 97, 98, 99, 100, 101, 102]⟩ : ByteArray) (⟨#[116, 111, 112]⟩ : ByteArray) t1 (⟨#[115, 104, 111, 114, 116]⟩ : ByteArray) t3 t8 _ A3.out).mono ?_); rintro e w24 ⟨rfl, hb⟩; refine ⟨_, rfl, ?_⟩; have n0_ := Aside0.mk (below_step (by repeat first | with_reducible (first | exact HB.out | apply bA | apply bN | apply bD) | exact HB.out) hb); clear HB; have HB := n0_; clear n0_; (try clear hb); (try clear hb2); (try clear hk); (try clear hi)))
  go_ret
  exact ⟨by first | rfl | (simp [*, errW_none, errW_some] <;> rfl), by repeat first | with_reducible (first | exact HB.out | apply bA | apply bN | apply bD) | exact HB.out⟩

end Go.Proofs.Ytokkhnjedmlbhaa.Pr
end
section
namespace Go.Proofs.Ytokkhnjedmlbhaa.M
open Go.RowKit Go.Proofs.Ytokkhnjedmlbhaa.Pr Go.Proofs.YtokkhnjedmlbhaaW.PrintWords Go.Proofs.YtokkhnjedmlbhaaW.PrintLast Go.Proofs.YtokkhnjedmlbhaaW.PrintMore Go.Proofs.YtokkhnjedmlbhaaGf
set_option linter.unusedSimpArgs false
def tagX (key s : ByteArray) : ByteArray × Int := if okN key.size then (tagT (ksB key) s, 0) else (⟨#[]⟩, 2)
def subX (key : ByteArray) : ByteArray × ByteArray × Int := if okN key.size then (k1T (ksB key), k2T (ksB key), 0) else (⟨#[]⟩, ⟨#[]⟩, 2)
theorem ctag_x (key s : ByteArray) (h : s.size < 1000000) : cmac_Tag.f key s = some (tagX key s) := by
  unfold cmac_Tag.f; rw [if_pos h]; rfl
theorem rzeros_c (z : Nat) (hz : z ≤ 65552) : clavigerref01_Zeros.f (z : Int) = some (zeros z) := by
  have := zeros_c z hz
  unfold octets_Zeros.f at this
  exact this
theorem rpadL (s : ByteArray) (n z : Nat) (h1 : 1 ≤ n) (h2 : n ≤ 65535) (hz : z < n) (hs : s.size < 1000000000) (h : (s.size + z) % n = 0) (hn : ∀ i, i < z → (s.size + i) % n ≠ 0) (d : Nat) : ∀ i, z - i = d → i ≤ z → Ev (fun k => clavigerref01_Pad.l0 k s (n : Int) (i : Int)) (s ++ zeros z) := by
  have e (i : Nat) (hi : i ≤ z) : Int.tmod (wrap64 ((s.size : Int) + (i : Int))) (n : Int) = (((s.size + i) % n : Nat) : Int) := by
    rw [wrap_id (by omega) (by omega), Int.tmod_eq_emod_of_nonneg (by omega), ← Int.natCast_add, ← Int.natCast_emod]
  induction d with
  | zero =>
    intro i hd hi
    obtain rfl : i = z := by omega
    refine Ev.step (f := fun _ => some (s ++ zeros i)) (fun k => ?_) (Ev.now _)
    simp only [clavigerref01_Pad.l0]
    rw [if_neg (by omega), e i (Nat.le_refl _), h, if_pos (by omega), rzeros_c _ (by omega)]
    simp only [Option.bind_some]
    rw [if_pos (by rw [zeros_size]; omega)]
  | succ d ih =>
    intro i hd hi
    have hh := ih (i + 1) (by omega) (by omega)
    have := hn i (by omega)
    refine Ev.step (fun k => ?_) hh
    simp only [clavigerref01_Pad.l0]
    rw [if_neg (by omega), e i hi, if_neg (by omega), wrap_id (by omega) (by omega)]
    rfl
theorem rpad16 (s : ByteArray) (hs : s.size < 1000000000) : Ev (fun k => clavigerref01_Pad.f k s 16) (padT s 16) := by
  unfold clavigerref01_Pad.f
  refine evn (by decide) ?_
  refine Ev.step (f := fun k => clavigerref01_Pad.l0 k s ((16 : Nat) : Int) ((0 : Nat) : Int)) (fun k => by simp only [clavigerref01_Pad.j0]; rw [if_neg (by decide)]; rfl) ?_
  exact rpadL s 16 ((16 - s.size % 16) % 16) (by omega) (by omega) (by omega) hs (by omega) (fun i hi => by omega) _ 0 rfl (by omega)
theorem rsub_t (key : ByteArray) : Ev (fun k => clavigerref11_Subkeys.f k key) (subX key) := by
  unfold clavigerref11_Subkeys.f subX
  have h0 := renc_c key (zeros 16)
  refine evs (rzeros_c 16 (by omega)) (evb h0 ?_)
  by_cases ok : okN key.size
  · rw [encX_ok ok (zeros_size 16), if_pos ok]
    exact evp rfl (evs (g := clavigerref11_Double.f (encT (ksB key) (zeros 16))) rfl (evs (g := clavigerref11_Double.f (encT (ksB key) (zeros 16))) rfl (evs rfl (Ev.now _))))
  · have : encX key (zeros 16) = (⟨#[]⟩, 2) := by unfold encX; rw [if_neg ok]
    rw [this, if_neg ok]
    exact evn (by decide) (Ev.now _)
theorem rtagL {key : ByteArray} (ok : okN key.size) (s : ByteArray) (hs : s.size < 1000000) (d : Nat) : ∀ j, endI s.size - j = d → j ≤ endI s.size → Ev (fun k => clavigerref11_Tag.l0 k key (s.extract (16 * j) s.size) (k1T (ksB key)) (k2T (ksB key)) (zJ (ksB key) s j)) (tagT (ksB key) s, 0) := by
  have hk := (ks_facts ok).2.1
  have hE := end_le s.size
  have enc (x : ByteArray) (hx : x.size = 16) : Ev (fun k => clavigerref09_Encrypt.f k key x) (encT (ksB key) x, 0) := by
    have := renc_c key x
    rwa [encX_ok ok hx] at this
  induction d with
  | zero =>
    intro j hd hj
    obtain rfl : j = endI s.size := by omega
    have hz := zJ_size hk s (endI s.size) (by omega)
    have hr : s.extract (16 * endI s.size) (16 * endI s.size + 16) = s.extract (16 * endI s.size) s.size := ext_clip s _ _ hE.2
    have hb : blkT (ksB key) s (endI s.size) = lastX (s.extract (16 * endI s.size) s.size) (k1T (ksB key)) (k2T (ksB key)) := by
      unfold blkT lastT
      rw [if_pos rfl, hr]
    have hbs := blkT_size hk s (endI s.size) (Nat.le_refl _)
    rw [hb] at hbs
    have ht : tagT (ksB key) s = encT (ksB key) (xorT (zJ (ksB key) s (endI s.size)) (lastX (s.extract (16 * endI s.size) s.size) (k1T (ksB key)) (k2T (ksB key)))) := by
      rw [← hb]; rfl
    have hrs : (s.extract (16 * endI s.size) s.size).size ≤ 16 := by rw [ByteArray.size_extract]; omega
    rw [ht]
    clear ht hb hr
    generalize s.extract (16 * endI s.size) s.size = r at *
    generalize zJ (ksB key) s (endI s.size) = x at *
    have k1 := k1_size hk
    have k2 := k2_size hk
    by_cases h : r.size = 16
    · have e : lastX r (k1T (ksB key)) (k2T (ksB key)) = xorT r (k1T (ksB key)) := by unfold lastX; rw [if_pos h]
      rw [e] at hbs ⊢
      refine Ev.step (f := fun k => (clavigerref01_Xor.f k r (k1T (ksB key))).bind fun t3 => ((clavigerref01_Xor.f k x t3).bind fun t4 => ((clavigerref09_Encrypt.f k key t4).bind fun bt5 => (some (bt5.1, 0))))) (fun k => ?_) ?_
      · simp only [clavigerref11_Tag.l0]
        rw [if_neg (by omega), if_pos (by omega)]
      · exact evb (rxor_c _ _ (by omega) (by omega)) (evb (rxor_c _ _ (by omega) (by omega)) (evb (enc _ (by rw [xorT_size, hz, hbs]; rfl)) (Ev.now _)))
    · have e : lastX r (k1T (ksB key)) (k2T (ksB key)) = xorT (padT (r ++ (⟨#[128]⟩ : ByteArray)) 16) (k2T (ksB key)) := by unfold lastX; rw [if_neg h]
      rw [e] at hbs ⊢
      have h1 : (r ++ (⟨#[128]⟩ : ByteArray)).size = r.size + 1 := by rw [ByteArray.size_append]; rfl
      have h2 := padT_size (r ++ (⟨#[128]⟩ : ByteArray)) (by omega) (by omega)
      refine Ev.step (f := fun k => (clavigerref01_Pad.f k (r ++ (⟨#[128]⟩ : ByteArray)) 16).bind fun t6 => ((clavigerref01_Xor.f k t6 (k2T (ksB key))).bind fun t7 => ((clavigerref01_Xor.f k x t7).bind fun t8 => ((clavigerref09_Encrypt.f k key t8).bind fun bt9 => (some (bt9.1, 0)))))) (fun k => ?_) ?_
      · simp only [clavigerref11_Tag.l0]
        rw [if_neg (by omega), if_neg (by omega), if_pos (by omega)]
      · exact evb (rpad16 _ (by omega)) (evb (rxor_c _ _ (by omega) (by omega)) (evb (rxor_c _ _ (by omega) (by omega)) (evb (enc _ (by rw [xorT_size, hz, hbs]; rfl)) (Ev.now _))))
  | succ d ih =>
    intro j hd hj
    have hh := ih (j + 1) (by omega) (by omega)
    have hz := zJ_size hk s j (by omega)
    have hlt : 16 * j + 16 < s.size := by unfold endI at *; omega
    have hb : blkT (ksB key) s j = s.extract (16 * j) (16 * j + 16) := by unfold blkT; rw [if_neg (by omega)]
    have hbs := blkT_size hk s j hj
    have hsz : (s.extract (16 * j) s.size).size = s.size - 16 * j := by rw [ByteArray.size_extract]; omega
    refine Ev.step (f := fun k => (clavigerref01_Xor.f k (zJ (ksB key) s j) (blkT (ksB key) s j)).bind fun t1 => ((clavigerref09_Encrypt.f k key t1).bind fun bt2 => (clavigerref11_Tag.l0 k key (s.extract (16 * j + 16) s.size) (k1T (ksB key)) (k2T (ksB key)) bt2.1))) (fun k => ?_) ?_
    · simp only [clavigerref11_Tag.l0]
      rw [if_pos (by omega), if_pos (by omega), if_pos (by omega), ext_ext, ext_tail, hb]
    · exact evb (rxor_c _ _ (by omega) (by omega)) (evb (enc _ (by rw [xorT_size, hz, hbs]; rfl)) hh)
theorem rtag_c (key s : ByteArray) (hs : s.size < 1000000) : Ev (fun k => clavigerref11_Tag.f k key s) (tagX key s) := by
  unfold clavigerref11_Tag.f tagX
  refine evb (rsub_t key) ?_
  unfold subX
  by_cases ok : okN key.size
  · rw [if_pos ok, if_pos ok]
    have := rtagL ok s hs _ 0 rfl (Nat.zero_le _)
    rw [Nat.mul_zero, ext_all] at this
    exact evp rfl (evs (rzeros_c 16 (by omega)) this)
  · rw [if_neg ok, if_neg ok]
    exact evn (by decide) (Ev.now _)
end Go.Proofs.Ytokkhnjedmlbhaa.M
end
