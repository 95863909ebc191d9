/-
  What the printed functions of field and its reference come to, on natural numbers. Plain.
-/
import Derived.Test.YtokkhnjedmlbhaaPrg05
import Derived.Test.YtokkhnjedmlbhaaPrk
import Derived.Test.YtokkhnjedmlbhaaGf
import Derived.Laws.BitsAllLaws
namespace Go.Proofs.Ytokkhnjedmlbhaa.M
open Go.RowKit Go.Proofs.Ytokkhnjedmlbhaa.Pr Go.Proofs.YtokkhnjedmlbhaaW.PrintWords Go.Proofs.YtokkhnjedmlbhaaW.PrintLast Go.Proofs.YtokkhnjedmlbhaaW.PrintMore Go.Proofs.YtokkhnjedmlbhaaGf
theorem wrap_id {x : Int} (h0 : -9223372036854775808 ≤ x) (h1 : x ≤ 9223372036854775807) : wrap64 x = x := by unfold wrap64; omega
theorem bx {a b : Nat} (ha : a < 256) (hb : b < 256) : Go.bits .xor .u8 (a : Int) (b : Int) = ((a ^^^ b : Nat) : Int) := u8_xor_nat a b ha hb
theorem twice_all : allB 256 (fun a => decide (field_Twice.f (a : Int) = some ((xt a : Nat) : Int))) = true := by decide +kernel
theorem twice_c {a : Nat} (ha : a < 256) : field_Twice.f (a : Int) = some ((xt a : Nat) : Int) := of_decide_eq_true (allB_of twice_all a ha)
theorem and1 {b : Nat} (hb : b < 256) : Go.bits .and .u8 (b : Int) 1 = ((b % 2 : Nat) : Int) := by
  have := u8_and_nat b 1 hb (by omega)
  rw [Nat.and_one_is_mod] at this
  exact this
theorem mulF_bz (n : Nat) : ∀ a, mulF n a 0 = 0 := by
  induction n with
  | zero => intro a; rfl
  | succ n ih => intro a; simp [mulF, ih]
theorem mulL (n : Nat) : ∀ (a b o : Nat), a < 256 → b < 256 → o < 256 → b < 2 ^ n → Ev (fun k => field_Mul.l0 k (a : Int) (b : Int) (o : Int)) ((o ^^^ mulF n a b : Nat) : Int) := by
  induction n with
  | zero =>
    intro a b o ha hb ho hn
    obtain rfl : b = 0 := by simpa using hn
    refine Ev.step (f := fun _ => some (o : Int)) (fun k => by simp only [field_Mul.l0]; rw [if_pos (by rfl)]) ?_
    rw [show o ^^^ mulF 0 a 0 = o from by simp [mulF]]
    exact Ev.now _
  | succ n ih =>
    intro a b o ha hb ho hn
    by_cases h0 : b = 0
    · subst h0
      refine Ev.step (f := fun _ => some (o : Int)) (fun k => by simp only [field_Mul.l0]; rw [if_pos (by rfl)]) ?_
      rw [mulF_bz, Nat.xor_zero]
      exact Ev.now _
    · have hd : ((b : Int) / 2) = ((b / 2 : Nat) : Int) := by omega
      have hb2 : b / 2 < 2 ^ n := by rw [Nat.pow_succ] at hn; omega
      by_cases h1 : b % 2 = 1
      · have hi := ih (xt a) (b / 2) (o ^^^ a) (xt_lt ha) (by omega) (xor_lt ho ha) hb2
        rw [Nat.xor_assoc, show a ^^^ mulF n (xt a) (b / 2) = mulF (n + 1) a b from by simp [mulF, h1]] at hi
        refine Ev.step (fun k => ?_) hi
        simp only [field_Mul.l0]
        rw [if_neg (by omega), and1 hb, if_pos (by omega), twice_c ha]
        simp only [Option.bind_some]
        rw [bx ho ha, hd]
      · have hi := ih (xt a) (b / 2) o (xt_lt ha) (by omega) ho hb2
        rw [show mulF n (xt a) (b / 2) = mulF (n + 1) a b from by simp [mulF, h1]] at hi
        refine Ev.step (fun k => ?_) hi
        simp only [field_Mul.l0]
        rw [if_neg (by omega), and1 hb, if_neg (by omega), twice_c ha]
        simp only [Option.bind_some]
        rw [hd]
theorem mul_c {a b : Nat} (ha : a < 256) (hb : b < 256) : Ev (fun k => field_Mul.f k (a : Int) (b : Int)) ((gm a b : Nat) : Int) := by
  have := mulL 8 a b 0 ha hb (by omega) (by omega)
  rw [Nat.zero_xor] at this
  exact this
theorem powL (n : Nat) : ∀ (a o m : Nat), a < 256 → o < 256 → m < 2 ^ n → m < 9223372036854775808 → Ev (fun k => field_Pow.l0 k (a : Int) (m : Int) (o : Int)) ((gm o (pw a m) : Nat) : Int) := by
  induction n with
  | zero =>
    intro a o m ha ho hm _
    obtain rfl : m = 0 := by simpa using hm
    refine Ev.step (f := fun _ => some (o : Int)) (fun k => by simp only [field_Pow.l0]; rw [if_neg (by omega)]) ?_
    show Ev _ ((gm o 1 : Nat) : Int)
    rw [gm_oneR ho]
    exact Ev.now _
  | succ n ih =>
    intro a o m ha ho hm hl
    by_cases h0 : m = 0
    · subst h0
      refine Ev.step (f := fun _ => some (o : Int)) (fun k => by simp only [field_Pow.l0]; rw [if_neg (by omega)]) ?_
      show Ev _ ((gm o 1 : Nat) : Int)
      rw [gm_oneR ho]
      exact Ev.now _
    · have hd : ((m : Int) / 2) = ((m / 2 : Nat) : Int) := by omega
      have hm2 : m / 2 < 2 ^ n := by rw [Nat.pow_succ] at hm; omega
      have ha1 : Go.bits .and .i64 (m : Int) 1 = ((m % 2 : Nat) : Int) := by
        have h := (bits_nat .i64 63 (by decide) (fun x h0 h1 => by rw [IntKind.wrap_i64]; omega) m 1 (by omega) (by omega)).1
        rw [Nat.and_one_is_mod] at h
        exact h
      have hq := gm_lt (b := a) ha
      have hp : gm (pw (gm a a) (m / 2)) (if m % 2 = 1 then a else 1) = pw a m := by
        rw [pw_sq ha]
        by_cases h1 : m % 2 = 1
        · rw [if_pos h1]
          conv => rhs; rw [show m = 2 * (m / 2) + 1 by omega]
          rfl
        · rw [if_neg h1, gm_oneR (pw_lt _), show 2 * (m / 2) = m by omega]
      by_cases h1 : m % 2 = 1
      · rw [if_pos h1] at hp
        have hi := ih (gm a a) (gm o a) (m / 2) hq (gm_lt ho) hm2 (by omega)
        rw [← gm_assoc ho ha (pw_lt _), gm_comm ha (pw_lt _), hp] at hi
        refine Ev.step (f := fun k => (field_Mul.f k (o : Int) (a : Int)).bind fun t106 => ((field_Mul.f k (a : Int) (a : Int)).bind fun t107 => (field_Pow.l0 k t107 ((m : Int) / 2) t106))) (fun k => ?_) ?_
        · simp only [field_Pow.l0]
          rw [if_pos (by omega), ha1, if_pos (by omega)]
        · refine Ev.bind (mul_c ho ha) (Ev.bind (mul_c ha ha) ?_)
          rw [hd]
          exact hi
      · rw [if_neg h1, gm_oneR (pw_lt _)] at hp
        have hi := ih (gm a a) o (m / 2) hq ho hm2 (by omega)
        rw [hp] at hi
        refine Ev.step (f := fun k => (field_Mul.f k (a : Int) (a : Int)).bind fun t108 => (field_Pow.l0 k t108 ((m : Int) / 2) (o : Int))) (fun k => ?_) ?_
        · simp only [field_Pow.l0]
          rw [if_pos (by omega), ha1, if_neg (by omega)]
        · refine Ev.bind (mul_c ha ha) ?_
          rw [hd]
          exact hi
/-- a to the power n; 1 for what is below 1. -/
def powI (a : Nat) (n : Int) : Nat := pw a n.toNat
theorem pow_c {a : Nat} (ha : a < 256) (n : Int) (hn : n < 9223372036854775808) : Ev (fun k => field_Pow.f k (a : Int) n) ((powI a n : Nat) : Int) := by
  by_cases h : n < 0
  · refine Ev.step (f := fun _ => some (1 : Int)) (fun k => by simp only [field_Pow.f, field_Pow.l0]; rw [if_neg (by omega)]) ?_
    unfold powI
    rw [show n.toNat = 0 by omega]
    exact Ev.now _
  · obtain ⟨m, rfl⟩ := Int.eq_ofNat_of_zero_le (show 0 ≤ n by omega)
    have := powL 63 a 1 m ha (by omega) (by omega) (by omega)
    rw [gm_one (pw_lt _)] at this
    exact this
theorem inv_c {a : Nat} (ha : a < 256) : Ev (fun k => field_Inv.f k (a : Int)) ((inv a : Nat) : Int) := by
  have := pow_c ha 254 (by omega)
  unfold powI at this
  rw [show (254 : Int).toNat = 254 from rfl, pw254 ha] at this
  exact Ev.bind this (Ev.now _)
theorem logL (d : Nat) : ∀ (n : Nat), n < 255 → 254 - n = d → ∀ a : Nat, a < 256 → a ≠ 0 → n ≤ lg a → Ev (fun k => field_Log.l0 k (a : Int) (n : Int) ((E n : Nat) : Int)) (((lg a : Nat) : Int), true) := by
  induction d with
  | zero =>
    intro n hn hd a ha h0 hl
    have h := E_lg ha h0
    have e : lg a = n := by omega
    refine Ev.step (f := fun _ => some ((n : Int), true)) (fun k => by simp only [field_Log.l0]; rw [if_pos (by rw [← e, h.1])]) ?_
    rw [e]
    exact Ev.now _
  | succ d ih =>
    intro n hn hd a ha h0 hl
    have h := E_lg ha h0
    by_cases e : E n = a
    · have e2 : lg a = n := by rw [← e]; exact (lg_E hn).1
      refine Ev.step (f := fun _ => some ((n : Int), true)) (fun k => by simp only [field_Log.l0]; rw [if_pos (by rw [e])]) ?_
      rw [e2]
      exact Ev.now _
    · have e3 : n ≠ lg a := fun z => e (by rw [z]; exact h.1)
      have hi := ih (n + 1) (by omega) (by omega) a ha h0 (by omega)
      refine Ev.step (fun k => ?_) hi
      simp only [field_Log.l0]
      rw [if_neg (by omega), twice_c (E_lt n)]
      simp only [Option.bind_some]
      rw [bx (E_lt n) (xt_lt (E_lt n)), wrap_id (by omega) (by omega)]
      rfl
theorem log_c {a : Nat} (ha : a < 256) : Ev (fun k => field_Log.f k (a : Int)) (if a = 0 then (0, false) else (((lg a : Nat) : Int), true)) := by
  by_cases h : a = 0
  · subst h
    refine Ev.congr (f := fun _ => some (0, false)) (fun k => by simp only [field_Log.f]; rw [if_pos (by rfl)]) (Ev.now _)
  · rw [if_neg h]
    refine Ev.congr (fun k => by simp only [field_Log.f]; rw [if_neg (by omega)]; rfl) (logL 254 0 (by omega) (by omega) a ha h (by omega))
end Go.Proofs.Ytokkhnjedmlbhaa.M
