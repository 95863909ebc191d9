-- several texts in one (by the session's program shake.py)
import Derived.Test.YtokkhnjedmlbhaaZPrg05
import Derived.Test.YtokkhnjedmlbhaaZPrk
import Derived.Laws.BitsAllLaws
import Derived.Lib.Strings
import Derived.Lib.Slices
import Derived.Lib.Walk
import Derived.Lib.Builder
import Derived.Lib.AppendStr
import Derived.Lib.UnsafeStr
import Derived.Lib.MakeNoZero
import Derived.Laws.Externs
import Derived.Test.YtokkhnjedmlbhaaZPut
import Derived.Test.YtokkhnjedmlbhaaZPrg06
import Derived.Test.YtokkhnjedmlbhaaZTable
section
namespace Go.Proofs.YtokkhnjedmlbhaaGf
/-- A byte times x. -/
def xt (a : Nat) : Nat := if a < 128 then 2 * a else (2 * a - 256) ^^^ 27
def allB (n : Nat) (p : Nat → Bool) : Bool := match n with | 0 => true | n + 1 => p n && allB n p
theorem allB_of {n : Nat} {p : Nat → Bool} (h : allB n p = true) : ∀ a, a < n → p a = true := by
  induction n with
  | zero => intro a ha; omega
  | succ n ih =>
    intro a ha
    simp only [allB, Bool.and_eq_true] at h
    rcases Nat.lt_succ_iff_lt_or_eq.1 ha with h1 | rfl
    · exact ih h.2 a h1
    · exact h.1
theorem xt_lin_all : allB 256 (fun a => allB 256 fun b => Nat.beq (xt (a ^^^ b)) (xt a ^^^ xt b)) = true := by decide +kernel
theorem xt_lin {a b : Nat} (ha : a < 256) (hb : b < 256) : xt (a ^^^ b) = xt a ^^^ xt b :=
  Nat.eq_of_beq_eq_true (allB_of (allB_of xt_lin_all a ha) b hb)
theorem xor_lt {a b : Nat} (ha : a < 256) (hb : b < 256) : a ^^^ b < 256 := Nat.xor_lt_two_pow (n := 8) ha hb
theorem xt_lt {a : Nat} (ha : a < 256) : xt a < 256 := by
  unfold xt; split
  · omega
  · exact xor_lt (by omega) (by omega)
theorem xt_zero : xt 0 = 0 := rfl
/-- The product, by the bits of b: n of them. -/
def mulF : Nat → Nat → Nat → Nat
  | 0, _, _ => 0
  | n + 1, a, b => (if b % 2 = 1 then a else 0) ^^^ mulF n (xt a) (b / 2)
def gm (a b : Nat) : Nat := mulF 8 a b
theorem ite_lt {a : Nat} {p : Prop} [Decidable p] (ha : a < 256) : (if p then a else 0) < 256 := by split <;> omega
theorem mulF_lt (n : Nat) : ∀ {a b : Nat}, a < 256 → mulF n a b < 256 := by
  induction n with
  | zero => intro a b _; simp [mulF]
  | succ n ih => intro a b ha; exact xor_lt (ite_lt ha) (ih (xt_lt ha))
theorem gm_lt {a b : Nat} (ha : a < 256) : gm a b < 256 := mulF_lt 8 ha
theorem mulF_zero (n : Nat) : ∀ b, mulF n 0 b = 0 := by
  induction n with
  | zero => intro b; rfl
  | succ n ih => intro b; simp [mulF, xt_zero, ih]
theorem xor4 (a b c d : Nat) : (a ^^^ b) ^^^ (c ^^^ d) = (a ^^^ c) ^^^ (b ^^^ d) := by
  rw [Nat.xor_assoc, Nat.xor_assoc, ← Nat.xor_assoc b, Nat.xor_comm b c, Nat.xor_assoc c]
theorem mulF_addL (n : Nat) : ∀ {a c b : Nat}, a < 256 → c < 256 → mulF n (a ^^^ c) b = mulF n a b ^^^ mulF n c b := by
  induction n with
  | zero => intro a c b _ _; simp [mulF]
  | succ n ih =>
    intro a c b ha hc
    simp only [mulF]
    rw [xt_lin ha hc, ih (xt_lt ha) (xt_lt hc), xor4]
    congr 1
    split <;> simp
theorem mulF_xt (n : Nat) : ∀ {a b : Nat}, a < 256 → mulF n (xt a) b = xt (mulF n a b) := by
  induction n with
  | zero => intro a b _; rfl
  | succ n ih =>
    intro a b ha
    simp only [mulF]
    rw [xt_lin (ite_lt ha) (mulF_lt n (xt_lt ha)), ih (xt_lt ha)]
    congr 1
    split <;> simp [xt_zero]
theorem gm_addL {a c b : Nat} (ha : a < 256) (hc : c < 256) : gm (a ^^^ c) b = gm a b ^^^ gm c b := mulF_addL 8 ha hc
theorem gm_xt {a b : Nat} (ha : a < 256) : gm (xt a) b = xt (gm a b) := mulF_xt 8 ha
/-- A byte times 3. -/
def t3 (a : Nat) : Nat := a ^^^ xt a
theorem t3_lt {a : Nat} (ha : a < 256) : t3 a < 256 := xor_lt ha (xt_lt ha)
theorem gm_t3 {a b : Nat} (ha : a < 256) : gm (t3 a) b = t3 (gm a b) := by unfold t3; rw [gm_addL ha (xt_lt ha), gm_xt ha]
/-- b times the n-th power of 3. -/
def p3 : Nat → Nat → Nat
  | 0, b => b
  | n + 1, b => t3 (p3 n b)
theorem p3_lt (n : Nat) {b : Nat} (hb : b < 256) : p3 n b < 256 := by
  induction n with
  | zero => exact hb
  | succ n ih => exact t3_lt ih
theorem p3_add (n m b : Nat) : p3 (n + m) b = p3 n (p3 m b) := by
  induction n with
  | zero => simp [p3]
  | succ n ih => rw [Nat.succ_add]; simp only [p3]; rw [ih]
def E (n : Nat) : Nat := p3 n 1
theorem E_lt (n : Nat) : E n < 256 := p3_lt n (by omega)
theorem gm_one_all : allB 256 (fun b => Nat.beq (gm 1 b) b) = true := by decide +kernel
theorem gm_one {b : Nat} (hb : b < 256) : gm 1 b = b := Nat.eq_of_beq_eq_true (allB_of gm_one_all b hb)
theorem gm_E (n : Nat) {b : Nat} (hb : b < 256) : gm (E n) b = p3 n b := by
  induction n with
  | zero => exact gm_one hb
  | succ n ih => show gm (t3 (E n)) b = t3 (p3 n b); rw [gm_t3 (E_lt n), ih]
theorem gm_EE (n m : Nat) : gm (E n) (E m) = E (n + m) := by rw [gm_E n (E_lt m)]; unfold E; rw [p3_add]
theorem E255 : E 255 = 1 := by decide +kernel
theorem E_per (n : Nat) : E (n + 255) = E n := by unfold E; rw [p3_add]; show p3 n (E 255) = _; rw [E255]
theorem E_mod (n : Nat) : E (n % 255) = E n := by
  conv => rhs; rw [← Nat.mod_add_div n 255]
  generalize n % 255 = r
  induction n / 255 with
  | zero => simp
  | succ q ih => rw [Nat.mul_succ, ← Nat.add_assoc, E_per]; exact ih
/-- The least n at which the power of 3 is a, from p = 3^k on. -/
def lgF : Nat → Nat → Nat → Nat → Nat
  | 0, k, _, _ => k
  | f + 1, k, p, a => if p = a then k else lgF f (k + 1) (t3 p) a
def lg (a : Nat) : Nat := lgF 255 0 1 a
theorem lg_all : allB 256 (fun a => Nat.beq a 0 || (Nat.beq (E (lg a)) a && Nat.ble (lg a) 254)) = true := by decide +kernel
theorem E_lg {a : Nat} (ha : a < 256) (h0 : a ≠ 0) : E (lg a) = a ∧ lg a ≤ 254 := by
  have h := allB_of lg_all a ha
  simp only [Bool.or_eq_true, Bool.and_eq_true] at h
  rcases h with h | h
  · exact absurd (Nat.eq_of_beq_eq_true h) h0
  · exact ⟨Nat.eq_of_beq_eq_true h.1, Nat.le_of_ble_eq_true h.2⟩
theorem gm_zeroL (b : Nat) : gm 0 b = 0 := mulF_zero 8 b
theorem gm_zeroR {a : Nat} (ha : a < 256) : gm a 0 = 0 := by
  by_cases h : a = 0
  · subst h; rfl
  · rw [← (E_lg ha h).1, gm_E _ (by omega)]
    generalize lg a = n
    induction n with
    | zero => rfl
    | succ n ih => simp only [p3, ih]; rfl
theorem gm_comm {a b : Nat} (ha : a < 256) (hb : b < 256) : gm a b = gm b a := by
  by_cases h : a = 0
  · subst h; rw [gm_zeroL, gm_zeroR hb]
  by_cases h' : b = 0
  · subst h'; rw [gm_zeroL, gm_zeroR ha]
  rw [← (E_lg ha h).1, ← (E_lg hb h').1, gm_EE, gm_EE, Nat.add_comm]
theorem gm_assoc {a b c : Nat} (ha : a < 256) (hb : b < 256) (hc : c < 256) : gm a (gm b c) = gm (gm a b) c := by
  by_cases h : a = 0
  · subst h; simp only [gm_zeroL]
  by_cases h' : b = 0
  · subst h'; rw [gm_zeroL, gm_zeroR ha, gm_zeroL]
  by_cases h'' : c = 0
  · subst h''; rw [gm_zeroR hb, gm_zeroR ha, gm_zeroR (gm_lt ha)]
  rw [← (E_lg ha h).1, ← (E_lg hb h').1, ← (E_lg hc h'').1, gm_EE, gm_EE, gm_EE, gm_EE, Nat.add_assoc]
theorem gm_oneR {a : Nat} (ha : a < 256) : gm a 1 = a := by rw [gm_comm ha (by omega), gm_one ha]
theorem gm_two {a : Nat} (ha : a < 256) : gm a 2 = xt a := by rw [gm_comm ha (by omega)]; show gm (xt 1) a = _; rw [gm_xt (by omega), gm_one ha]
/-- Powers, one factor at a time. -/
def pw (a : Nat) : Nat → Nat
  | 0 => 1
  | n + 1 => gm (pw a n) a
theorem pw_lt {a : Nat} (n : Nat) : pw a n < 256 := by
  induction n with
  | zero => show 1 < 256; omega
  | succ n ih => exact gm_lt ih
theorem pw_E (m n : Nat) : pw (E m) n = E (m * n) := by
  induction n with
  | zero => rfl
  | succ n ih => simp only [pw]; rw [ih, gm_EE, Nat.mul_succ]
theorem pw_zero {n : Nat} (hn : 0 < n) : pw 0 n = 0 := by
  obtain ⟨m, rfl⟩ : ∃ m, n = m + 1 := ⟨n - 1, by omega⟩
  exact gm_zeroR (pw_lt m)
theorem pw_sq {a : Nat} (ha : a < 256) (n : Nat) : pw (gm a a) n = pw a (2 * n) := by
  induction n with
  | zero => rfl
  | succ n ih =>
    rw [show 2 * (n + 1) = 2 * n + 1 + 1 by omega]
    simp only [pw]
    rw [ih, gm_assoc (pw_lt _) ha ha]
theorem pw_mod {a : Nat} (ha : a < 256) (h0 : a ≠ 0) (n : Nat) : pw a (n % 255) = pw a n := by
  rw [← (E_lg ha h0).1, pw_E, pw_E, ← E_mod, ← E_mod (lg a * n), Nat.mul_mod, Nat.mod_mod, ← Nat.mul_mod]
/-- The byte with which the product is 1. -/
def inv (a : Nat) : Nat := if a = 0 then 0 else E ((255 - lg a) % 255)
theorem inv_lt (a : Nat) : inv a < 256 := by unfold inv; split; omega; exact E_lt _
end Go.Proofs.YtokkhnjedmlbhaaGf
end
section
namespace Go.Proofs.Ytokkhnjedmlbhaa.M
open Go.RowKit Go.Proofs.Ytokkhnjedmlbhaa.Pr Go.Proofs.YtokkhnjedmlbhaaW.PrintWords Go.Proofs.YtokkhnjedmlbhaaW.PrintLast Go.Proofs.YtokkhnjedmlbhaaW.PrintMore Go.Proofs.YtokkhnjedmlbhaaGf
theorem wrap_id {x : Int} (h0 : -9223372036854775808 ≤ x) (h1 : x ≤ 9223372036854775807) : wrap64 x = x := by unfold wrap64; omega
theorem bx {a b : Nat} (ha : a < 256) (hb : b < 256) : Go.bits .xor .u8 (a : Int) (b : Int) = ((a ^^^ b : Nat) : Int) := u8_xor_nat a b ha hb
theorem twice_all : allB 256 (fun a => decide (field_Twice.f (a : Int) = some ((xt a : Nat) : Int))) = true := by decide +kernel
theorem twice_c {a : Nat} (ha : a < 256) : field_Twice.f (a : Int) = some ((xt a : Nat) : Int) := of_decide_eq_true (allB_of twice_all a ha)
theorem and1 {b : Nat} (hb : b < 256) : Go.bits .and .u8 (b : Int) 1 = ((b % 2 : Nat) : Int) := by
  have := u8_and_nat b 1 hb (by omega)
  rw [Nat.and_one_is_mod] at this
  exact this
theorem mulF_bz (n : Nat) : ∀ a, mulF n a 0 = 0 := by
  induction n with
  | zero => intro a; rfl
  | succ n ih => intro a; simp [mulF, ih]
theorem mulL (n : Nat) : ∀ (a b o : Nat), a < 256 → b < 256 → o < 256 → b < 2 ^ n → Ev (fun k => field_Mul.l0 k (a : Int) (b : Int) (o : Int)) ((o ^^^ mulF n a b : Nat) : Int) := by
  induction n with
  | zero =>
    intro a b o ha hb ho hn
    obtain rfl : b = 0 := by simpa using hn
    refine Ev.step (f := fun _ => some (o : Int)) (fun k => by simp only [field_Mul.l0]; rw [if_pos (by rfl)]) ?_
    rw [show o ^^^ mulF 0 a 0 = o from by simp [mulF]]
    exact Ev.now _
  | succ n ih =>
    intro a b o ha hb ho hn
    by_cases h0 : b = 0
    · subst h0
      refine Ev.step (f := fun _ => some (o : Int)) (fun k => by simp only [field_Mul.l0]; rw [if_pos (by rfl)]) ?_
      rw [mulF_bz, Nat.xor_zero]
      exact Ev.now _
    · have hd : ((b : Int) / 2) = ((b / 2 : Nat) : Int) := by omega
      have hb2 : b / 2 < 2 ^ n := by rw [Nat.pow_succ] at hn; omega
      by_cases h1 : b % 2 = 1
      · have hi := ih (xt a) (b / 2) (o ^^^ a) (xt_lt ha) (by omega) (xor_lt ho ha) hb2
        rw [Nat.xor_assoc, show a ^^^ mulF n (xt a) (b / 2) = mulF (n + 1) a b from by simp [mulF, h1]] at hi
        refine Ev.step (fun k => ?_) hi
        simp only [field_Mul.l0]
        rw [if_neg (by omega), and1 hb, if_pos (by omega), twice_c ha]
        simp only [Option.bind_some]
        rw [bx ho ha, hd]
      · have hi := ih (xt a) (b / 2) o (xt_lt ha) (by omega) ho hb2
        rw [show mulF n (xt a) (b / 2) = mulF (n + 1) a b from by simp [mulF, h1]] at hi
        refine Ev.step (fun k => ?_) hi
        simp only [field_Mul.l0]
        rw [if_neg (by omega), and1 hb, if_neg (by omega), twice_c ha]
        simp only [Option.bind_some]
        rw [hd]
theorem mul_c {a b : Nat} (ha : a < 256) (hb : b < 256) : Ev (fun k => field_Mul.f k (a : Int) (b : Int)) ((gm a b : Nat) : Int) := by
  have := mulL 8 a b 0 ha hb (by omega) (by omega)
  rw [Nat.zero_xor] at this
  exact this
theorem powL (n : Nat) : ∀ (a o m : Nat), a < 256 → o < 256 → m < 2 ^ n → m < 9223372036854775808 → Ev (fun k => field_Pow.l0 k (a : Int) (m : Int) (o : Int)) ((gm o (pw a m) : Nat) : Int) := by
  induction n with
  | zero =>
    intro a o m ha ho hm _
    obtain rfl : m = 0 := by simpa using hm
    refine Ev.step (f := fun _ => some (o : Int)) (fun k => by simp only [field_Pow.l0]; rw [if_neg (by omega)]) ?_
    show Ev _ ((gm o 1 : Nat) : Int)
    rw [gm_oneR ho]
    exact Ev.now _
  | succ n ih =>
    intro a o m ha ho hm hl
    by_cases h0 : m = 0
    · subst h0
      refine Ev.step (f := fun _ => some (o : Int)) (fun k => by simp only [field_Pow.l0]; rw [if_neg (by omega)]) ?_
      show Ev _ ((gm o 1 : Nat) : Int)
      rw [gm_oneR ho]
      exact Ev.now _
    · have hd : ((m : Int) / 2) = ((m / 2 : Nat) : Int) := by omega
      have hm2 : m / 2 < 2 ^ n := by rw [Nat.pow_succ] at hm; omega
      have ha1 : Go.bits .and .i64 (m : Int) 1 = ((m % 2 : Nat) : Int) := by
        have h := (bits_nat .i64 63 (by decide) (fun x h0 h1 => by rw [IntKind.wrap_i64]; omega) m 1 (by omega) (by omega)).1
        rw [Nat.and_one_is_mod] at h
        exact h
      have hq := gm_lt (b := a) ha
      have hp : gm (pw (gm a a) (m / 2)) (if m % 2 = 1 then a else 1) = pw a m := by
        rw [pw_sq ha]
        by_cases h1 : m % 2 = 1
        · rw [if_pos h1]
          conv => rhs; rw [show m = 2 * (m / 2) + 1 by omega]
          rfl
        · rw [if_neg h1, gm_oneR (pw_lt _), show 2 * (m / 2) = m by omega]
      by_cases h1 : m % 2 = 1
      · rw [if_pos h1] at hp
        have hi := ih (gm a a) (gm o a) (m / 2) hq (gm_lt ho) hm2 (by omega)
        rw [← gm_assoc ho ha (pw_lt _), gm_comm ha (pw_lt _), hp] at hi
        refine Ev.step (f := fun k => (field_Mul.f k (o : Int) (a : Int)).bind fun t106 => ((field_Mul.f k (a : Int) (a : Int)).bind fun t107 => (field_Pow.l0 k t107 ((m : Int) / 2) t106))) (fun k => ?_) ?_
        · simp only [field_Pow.l0]
          rw [if_pos (by omega), ha1, if_pos (by omega)]
        · refine Ev.bind (mul_c ho ha) (Ev.bind (mul_c ha ha) ?_)
          rw [hd]
          exact hi
      · rw [if_neg h1, gm_oneR (pw_lt _)] at hp
        have hi := ih (gm a a) o (m / 2) hq ho hm2 (by omega)
        rw [hp] at hi
        refine Ev.step (f := fun k => (field_Mul.f k (a : Int) (a : Int)).bind fun t108 => (field_Pow.l0 k t108 ((m : Int) / 2) (o : Int))) (fun k => ?_) ?_
        · simp only [field_Pow.l0]
          rw [if_pos (by omega), ha1, if_neg (by omega)]
        · refine Ev.bind (mul_c ha ha) ?_
          rw [hd]
          exact hi
/-- a to the power n; 1 for what is below 1. -/
def powI (a : Nat) (n : Int) : Nat := pw a n.toNat
theorem pow_c {a : Nat} (ha : a < 256) (n : Int) (hn : n < 9223372036854775808) : Ev (fun k => field_Pow.f k (a : Int) n) ((powI a n : Nat) : Int) := by
  by_cases h : n < 0
  · refine Ev.step (f := fun _ => some (1 : Int)) (fun k => by simp only [field_Pow.f, field_Pow.l0]; rw [if_neg (by omega)]) ?_
    unfold powI
    rw [show n.toNat = 0 by omega]
    exact Ev.now _
  · obtain ⟨m, rfl⟩ := Int.eq_ofNat_of_zero_le (show 0 ≤ n by omega)
    have := powL 63 a 1 m ha (by omega) (by omega) (by omega)
    rw [gm_one (pw_lt _)] at this
    exact this
end Go.Proofs.Ytokkhnjedmlbhaa.M
end
section
namespace Go.Proofs.Ytokkhnjedmlbhaa.M
open Go.RowKit Go.Proofs.Ytokkhnjedmlbhaa.Pr Go.Proofs.YtokkhnjedmlbhaaW.PrintWords Go.Proofs.YtokkhnjedmlbhaaW.PrintLast Go.Proofs.YtokkhnjedmlbhaaW.PrintMore Go.Proofs.YtokkhnjedmlbhaaGf
theorem ix {p q : Nat} (hp : p < 4611686018427387904) (hq : q < 4611686018427387904) : Go.bits .xor .i64 (p : Int) (q : Int) = ((p ^^^ q : Nat) : Int) := by
  have h := Nat.xor_lt_two_pow (n := 62) hp hq
  have h1 : p % 2 ^ 64 = p := Nat.mod_eq_of_lt (by omega)
  have h2 : q % 2 ^ 64 = q := Nat.mod_eq_of_lt (by omega)
  show IntKind.i64.wrap (((BitVec.ofInt 64 (p : Int)) ^^^ (BitVec.ofInt 64 (q : Int))).toNat : Int) = _
  simp only [BitVec.ofInt_natCast, BitVec.toNat_xor, BitVec.toNat_ofNat, h1, h2]
  rw [IntKind.wrap_i64]
  omega
theorem shr_c {b k : Nat} (hk : k ≤ 64) : shr .i64 (b : Int) (k : Int) = ((b / 2 ^ k : Nat) : Int) := by
  unfold shr
  rw [show min ((k : Int).toNat) IntKind.i64.bits = k from by simp [IntKind.bits]; omega]
  simp
theorem shl_c {a k : Nat} (hk : k ≤ 64) (h : a * 2 ^ k < 9223372036854775808) : shl .i64 (a : Int) (k : Int) = ((a * 2 ^ k : Nat) : Int) := by
  unfold shl
  rw [show min ((k : Int).toNat) IntKind.i64.bits = k from by simp [IntKind.bits]; omega]
  have : (a : Int) * 2 ^ k = ((a * 2 ^ k : Nat) : Int) := by simp
  rw [this, IntKind.wrap_i64]
  omega
theorem tmod2 (x : Nat) : Int.tmod (x : Int) 2 = ((x % 2 : Nat) : Int) := by rw [Int.tmod_eq_emod_of_nonneg (by omega)]; omega
/-- The product without a remainder, by the first k bits of b. -/
def clT (a b : Nat) : Nat → Nat
  | 0 => 0
  | k + 1 => clT a b k ^^^ (if b / 2 ^ k % 2 = 1 then a * 2 ^ k else 0)
/-- The remainder, j steps of it. -/
def rdT (p : Nat) : Nat → Nat
  | 0 => p
  | j + 1 => rdT p j ^^^ (if rdT p j / 2 ^ (14 - j) % 2 = 1 then 283 * 2 ^ (6 - j) else 0)
theorem pow_le8 {k : Nat} (hk : k < 8) : 2 ^ k ≤ 128 := by
  have : 2 ^ k ≤ 2 ^ 7 := Nat.pow_le_pow_right (by omega) (by omega)
  omega
theorem clT_lt {a b : Nat} (ha : a < 256) (k : Nat) (hk : k ≤ 8) : clT a b k < 32768 := by
  induction k with
  | zero => show 0 < 32768; omega
  | succ k ih =>
    refine Nat.xor_lt_two_pow (n := 15) (ih (by omega)) ?_
    have h1 := pow_le8 (show k < 8 by omega)
    have h2 : a * 2 ^ k ≤ 255 * 128 := Nat.mul_le_mul (by omega) h1
    split
    · show _ < 32768; omega
    · show 0 < 32768; omega
theorem rdT_lt {p : Nat} (hp : p < 32768) (j : Nat) (hj : j ≤ 7) : rdT p j < 32768 := by
  induction j with
  | zero => exact hp
  | succ j ih =>
    refine Nat.xor_lt_two_pow (n := 15) (ih (by omega)) ?_
    have h1 : 2 ^ (6 - j) ≤ 2 ^ 6 := Nat.pow_le_pow_right (by omega) (by omega)
    have h2 : 283 * 2 ^ (6 - j) ≤ 283 * 64 := Nat.mul_le_mul_left _ h1
    split
    · show _ < 32768; omega
    · show 0 < 32768; omega
theorem bit_xor (p q i : Nat) : (p ^^^ q) / 2 ^ i % 2 = 1 ↔ ¬ (p / 2 ^ i % 2 = 1 ↔ q / 2 ^ i % 2 = 1) := by
  have h := Nat.testBit_xor p q i
  simp only [Nat.testBit_eq_decide_div_mod_eq] at h
  by_cases h1 : p / 2 ^ i % 2 = 1 <;> by_cases h2 : q / 2 ^ i % 2 = 1 <;> simp [h1, h2] at h ⊢ <;> simpa using h
theorem rdT_xor (p q j : Nat) : rdT (p ^^^ q) j = rdT p j ^^^ rdT q j := by
  induction j with
  | zero => rfl
  | succ j ih =>
    simp only [rdT]
    rw [ih, xor4]
    congr 1
    have h := bit_xor (rdT p j) (rdT q j) (14 - j)
    by_cases h1 : rdT p j / 2 ^ (14 - j) % 2 = 1 <;> by_cases h2 : rdT q j / 2 ^ (14 - j) % 2 = 1 <;> simp [h, h1, h2]
theorem rdT_zero (j : Nat) : rdT 0 j = 0 := by
  induction j with
  | zero => rfl
  | succ j ih => simp [rdT, ih]
/-- xt, k times. -/
def xtN : Nat → Nat → Nat
  | 0, a => a
  | k + 1, a => xtN k (xt a)
theorem rd_all : allB 256 (fun a => allB 8 fun k => Nat.beq (rdT (a * 2 ^ k) 7) (xtN k a)) = true := by decide +kernel
theorem rd_pow {a k : Nat} (ha : a < 256) (hk : k < 8) : rdT (a * 2 ^ k) 7 = xtN k a := Nat.eq_of_beq_eq_true (allB_of (allB_of rd_all a ha) k hk)
theorem rd_ite {a k : Nat} {c : Prop} [Decidable c] (ha : a < 256) (hk : k < 8) : rdT (if c then a * 2 ^ k else 0) 7 = if c then xtN k a else 0 := by
  split
  · exact rd_pow ha hk
  · exact rdT_zero 7
theorem rd_cl {a : Nat} (b : Nat) (ha : a < 256) : rdT (clT a b 8) 7 = gm a b := by
  simp only [clT, rdT_xor, rdT_zero, rd_ite ha (show 0 < 8 by omega), rd_ite ha (show 1 < 8 by omega), rd_ite ha (show 2 < 8 by omega), rd_ite ha (show 3 < 8 by omega), rd_ite ha (show 4 < 8 by omega), rd_ite ha (show 5 < 8 by omega), rd_ite ha (show 6 < 8 by omega), rd_ite ha (show 7 < 8 by omega)]
  simp only [gm, mulF, xtN, Nat.div_div_eq_div_mul, Nat.zero_xor, Nat.xor_zero, Nat.xor_assoc, Nat.pow_zero, Nat.div_one]
theorem refMulR (d : Nat) : ∀ (j p : Nat), j ≤ 7 → 7 - j = d → p < 32768 → Ev (fun k => clavigerref05_Mul.l1 k ((rdT p j : Nat) : Int) ((14 - j : Nat) : Int)) (((rdT p 7 % 256 : Nat)) : Int) := by
  induction d with
  | zero =>
    intro j p hj hd hp
    obtain rfl : j = 7 := by omega
    refine Ev.step (f := fun _ => some (((rdT p 7 : Nat) : Int) % 256)) (fun k => by simp only [clavigerref05_Mul.l1]; rw [if_neg (by omega)]) ?_
    exact Ev.now _
  | succ d ih =>
    intro j p hj hd hp
    have hi := ih (j + 1) p (by omega) (by omega) hp
    have hl := rdT_lt hp j hj
    refine Ev.step (fun k => ?_) hi
    simp only [clavigerref05_Mul.l1]
    rw [if_pos (by omega), if_pos (by omega), shr_c (by omega), tmod2]
    have e1 : wrap64 (((14 - j : Nat) : Int) - 1) = ((14 - (j + 1) : Nat) : Int) := by unfold wrap64; omega
    have e2 : wrap64 (((14 - j : Nat) : Int) - 8) = ((6 - j : Nat) : Int) := by unfold wrap64; omega
    have h1 : 2 ^ (6 - j) ≤ 2 ^ 6 := Nat.pow_le_pow_right (by omega) (by omega)
    have h2 : 283 * 2 ^ (6 - j) ≤ 283 * 64 := Nat.mul_le_mul_left _ h1
    rw [e1, e2]
    by_cases hb : rdT p j / 2 ^ (14 - j) % 2 = 1
    · rw [if_pos (by omega), if_pos (by omega), show (283 : Int) = ((283 : Nat) : Int) from rfl, shl_c (by omega) (by omega), ix (by omega) (by omega)]
      simp only [rdT]
      rw [if_pos hb]
    · rw [if_neg (by omega)]
      simp only [rdT]
      rw [if_neg hb, Nat.xor_zero]
theorem refMulL (d : Nat) : ∀ (j a b : Nat), j ≤ 8 → 8 - j = d → a < 256 → b < 256 → Ev (fun k => clavigerref05_Mul.l0 k (a : Int) (b : Int) ((clT a b j : Nat) : Int) (j : Int)) ((gm a b : Nat) : Int) := by
  induction d with
  | zero =>
    intro j a b hj hd ha hb
    obtain rfl : j = 8 := by omega
    have hr := refMulR 7 0 (clT a b 8) (by omega) (by omega) (clT_lt ha 8 (by omega))
    rw [rd_cl b ha, Nat.mod_eq_of_lt (gm_lt ha)] at hr
    refine Ev.step (fun k => ?_) hr
    simp only [clavigerref05_Mul.l0]
    rw [if_neg (by omega)]
    rfl
  | succ d ih =>
    intro j a b hj hd ha hb
    have hi := ih (j + 1) a b (by omega) (by omega) ha hb
    have hl := clT_lt (b := b) ha j hj
    refine Ev.step (fun k => ?_) hi
    simp only [clavigerref05_Mul.l0]
    have h1 := pow_le8 (show j < 8 by omega)
    have h2 : a * 2 ^ j ≤ 255 * 128 := Nat.mul_le_mul (by omega) h1
    rw [if_pos (by omega), if_pos (by omega), wrap_id (x := (b : Int)) (by omega) (by omega), wrap_id (x := (a : Int)) (by omega) (by omega), wrap_id (x := (j : Int) + 1) (by omega) (by omega), shr_c (by omega), tmod2]
    by_cases hb' : b / 2 ^ j % 2 = 1
    · rw [if_pos (by omega), shl_c (by omega) (by omega), ix (by omega) (by omega)]
      simp only [clT]
      rw [if_pos hb']
      rfl
    · rw [if_neg (by omega)]
      simp only [clT]
      rw [if_neg hb', Nat.xor_zero]
      rfl
theorem rmul_c {a b : Nat} (ha : a < 256) (hb : b < 256) : Ev (fun k => clavigerref05_Mul.f k (a : Int) (b : Int)) ((gm a b : Nat) : Int) := refMulL 8 0 a b (by omega) (by omega) ha hb
theorem rpowL (d : Nat) : ∀ (i a : Nat) (n : Int), 0 ≤ n → i ≤ (n.toNat % 255) → n.toNat % 255 - i = d → a < 256 → Ev (fun k => clavigerref05_Pow.l0 k (a : Int) n ((pw a i : Nat) : Int) (i : Int)) ((pw a (n.toNat % 255) : Nat) : Int) := by
  induction d with
  | zero =>
    intro i a n h0 hi hd ha
    obtain rfl : i = n.toNat % 255 := by omega
    refine Ev.step (f := fun _ => some ((pw a (n.toNat % 255) : Nat) : Int)) (fun k => by simp only [clavigerref05_Pow.l0]; rw [if_neg (by rw [Int.tmod_eq_emod_of_nonneg h0]; omega)]) (Ev.now _)
  | succ d ih =>
    intro i a n h0 hi hd ha
    have hh := ih (i + 1) a n h0 (by omega) (by omega) ha
    refine Ev.step (f := fun k => (clavigerref05_Mul.f k ((pw a i : Nat) : Int) (a : Int)).bind fun t109 => (clavigerref05_Pow.l0 k (a : Int) n t109 (wrap64 ((i : Int) + 1)))) (fun k => by simp only [clavigerref05_Pow.l0]; rw [if_pos (by rw [Int.tmod_eq_emod_of_nonneg h0]; omega)]) ?_
    refine Ev.bind (rmul_c (pw_lt i) ha) ?_
    rw [wrap_id (by omega) (by omega)]
    exact hh
theorem rpow_c {a : Nat} (ha : a < 256) (n : Int) : Ev (fun k => clavigerref05_Pow.f k (a : Int) n) ((powI a n : Nat) : Int) := by
  unfold powI
  by_cases h : n < 1
  · refine Ev.congr (f := fun _ => some (1 : Int)) (fun k => by simp only [clavigerref05_Pow.f]; rw [if_pos h]) ?_
    rw [show n.toNat = 0 by omega]
    exact Ev.now _
  · by_cases h0 : a = 0
    · subst h0
      refine Ev.congr (f := fun _ => some (0 : Int)) (fun k => by simp only [clavigerref05_Pow.f]; rw [if_neg h, if_pos (by rfl)]) ?_
      rw [pw_zero (by omega)]
      exact Ev.now _
    · have := rpowL (n.toNat % 255) 0 a n (by omega) (by omega) (by omega) ha
      rw [pw_mod ha h0] at this
      refine Ev.congr (fun k => by simp only [clavigerref05_Pow.f]; rw [if_neg h, if_neg (by omega)]; rfl) this
end Go.Proofs.Ytokkhnjedmlbhaa.M
end
section
namespace Go.Proofs.Ytokkhnjedmlbhaa.M
open Go.RowKit Go.Proofs.Ytokkhnjedmlbhaa.Pr Go.Proofs.YtokkhnjedmlbhaaW.PrintWords Go.Proofs.YtokkhnjedmlbhaaW.PrintLast Go.Proofs.YtokkhnjedmlbhaaW.PrintMore Go.Proofs.YtokkhnjedmlbhaaGf
theorem of_i64 {a : Int} (h : (Lit.int .i64 a).wf = true) : -9223372036854775808 ≤ a ∧ a ≤ 9223372036854775807 := by
  simp [Lit.wf, IntKind.min, IntKind.max, IntKind.signed, IntKind.bits] at h
  omega
/-- A call whose answer is known, ahead of what goes on with it. -/
theorem evb {α β : Type} {g : Nat → Option α} {f : Nat → α → Option β} {a : α} {r : β} (h : Ev g a) (k : Ev (fun n => f n a) r) : Ev (fun n => (g n).bind (f n)) r := Ev.bind h k
theorem evs {α β : Type} {g : Option α} {f : Nat → α → Option β} {a : α} {r : β} (h : g = some a) (k : Ev (fun n => f n a) r) : Ev (fun n => g.bind (f n)) r := by subst h; exact k
theorem evp {α : Type} {c : Prop} [Decidable c] {f g : Nat → Option α} {r : α} (h : c) (k : Ev f r) : Ev (fun n => if c then f n else g n) r := by simp only [if_pos h]; exact k
theorem evn {α : Type} {c : Prop} [Decidable c] {f g : Nat → Option α} {r : α} (h : ¬ c) (k : Ev g r) : Ev (fun n => if c then f n else g n) r := by simp only [if_neg h]; exact k
/-- The byte at a place, as a number. -/
def bb (s : ByteArray) (i : Nat) : Nat := (bt s (i : Int)).toNat
theorem bb_lt (s : ByteArray) (i : Nat) : bb s i < 256 := by have := bt_range s (i : Int); unfold bb; omega
theorem bt_bb (s : ByteArray) (i : Nat) : bt s (i : Int) = ((bb s i : Nat) : Int) := by have := bt_range s (i : Int); unfold bb; omega
end Go.Proofs.Ytokkhnjedmlbhaa.M
end
section
namespace Go.Proofs.Ytokkhnjedmlbhaa.M
open Go.RowKit Go.Proofs.Ytokkhnjedmlbhaa.Pr Go.Proofs.YtokkhnjedmlbhaaW.PrintWords Go.Proofs.YtokkhnjedmlbhaaW.PrintLast Go.Proofs.YtokkhnjedmlbhaaW.PrintMore Go.Proofs.YtokkhnjedmlbhaaGf
/-- The text of a list of bytes. -/
def mkB (l : List Nat) : ByteArray := ⟨(l.map UInt8.ofNat).toArray⟩
/-- A text's bytes. -/
def nb (s : ByteArray) : List Nat := s.data.toList.map UInt8.toNat
def isB (l : List Nat) : Prop := ∀ x ∈ l, x < 256
theorem mkB_size (l : List Nat) : (mkB l).size = l.length := by
  show (l.map UInt8.ofNat).toArray.size = _
  simp
theorem nb_length (s : ByteArray) : (nb s).length = s.size := by rw [nb, List.length_map, data_length]
theorem isB_nb (s : ByteArray) : isB (nb s) := by
  intro x hx
  obtain ⟨u, _, rfl⟩ := List.mem_map.1 hx
  exact UInt8.toNat_lt u
theorem mkB_nb (s : ByteArray) : mkB (nb s) = s := by
  cases s with | mk d =>
  simp only [mkB, nb, List.map_map]
  congr 1
  apply Array.ext'
  simp only []
  conv => rhs; rw [← List.map_id d.toList]
  apply List.map_congr_left
  intro u _
  simp
theorem nb_mkB {l : List Nat} (h : isB l) : nb (mkB l) = l := by
  simp only [nb, mkB, List.map_map]
  conv => rhs; rw [← List.map_id l]
  apply List.map_congr_left
  intro n hn
  have := h n hn
  simp
  omega
theorem mkB_append (l m : List Nat) : mkB l ++ mkB m = mkB (l ++ m) := by
  apply ByteArray.ext
  simp [mkB]
theorem bb_nb (s : ByteArray) (i : Nat) : bb s i = (nb s).getD i 0 := by
  unfold bb bt
  by_cases h : i < s.size
  · rw [dif_pos (by simpa using h)]
    have h' : i < (nb s).length := by rw [nb_length]; exact h
    rw [List.getD_eq_getElem?_getD, List.getElem?_eq_getElem h']
    simp only [Option.getD_some, nb, List.getElem_map, Int.toNat_natCast]
    rfl
  · rw [dif_neg (by simpa using h)]
    rw [List.getD_eq_getElem?_getD, List.getElem?_eq_none (by rw [nb_length]; omega)]
    rfl
theorem strOfNums_cast (l : List Nat) : strOfNums (l.map Int.ofNat) = mkB l := by
  simp only [strOfNums, mkB, List.map_map]
  rfl
theorem extract_nb (s : ByteArray) (i j : Nat) : s.extract i j = mkB (((nb s).take j).drop i) := by
  apply ByteArray.ext
  simp only [ByteArray.data_extract, mkB]
  apply Array.ext'
  rw [Array.toList_extract]
  simp only [List.extract_eq_take_drop, nb]
  rw [← List.map_take, ← List.map_drop, List.map_map]
  rw [show (UInt8.ofNat ∘ UInt8.toNat) = id from by funext u; simp, List.map_id, List.drop_take]
theorem isB_append {l m : List Nat} : isB (l ++ m) ↔ isB l ∧ isB m := by
  simp [isB, or_imp, forall_and]
end Go.Proofs.Ytokkhnjedmlbhaa.M
end
section
namespace Go.Proofs.Ytokkhnjedmlbhaa.Pr
open Go.RowKit Go.Proofs.YtokkhnjedmlbhaaW.PrintWords Go.Proofs.YtokkhnjedmlbhaaW.PrintLast Go.Proofs.YtokkhnjedmlbhaaW.PrintMore
def inBytes (ys : List Int) : Bool := ys.all fun n => decide (0 ≤ n) && decide (n ≤ 255)
/-- All bytes of a text, by a function that may not answer. -/
def eachF (g : Int → Option Int) (s : ByteArray) : Option ByteArray := if s.size ≤ 140737488355328 then ((bytesOf s).mapM g).bind (fun ys => if inBytes ys = true then some (strOfNums ys) else none) else none
theorem mapM_mono {g g' : Int → Option Int} (h : ∀ x, LeO (g x) (g' x)) : ∀ l : List Int, LeO (l.mapM g) (l.mapM g')
  | [] => by simp only [List.mapM_nil]; exact LeO.refl _
  | x :: l => by
    simp only [List.mapM_cons]
    exact LeO.bind (h x) (fun y => LeO.bind (mapM_mono h l) (fun z => LeO.refl _))
theorem eachF_mono {g g' : Int → Option Int} (h : ∀ x, LeO (g x) (g' x)) (s : ByteArray) : LeO (eachF g s) (eachF g' s) := by
  unfold eachF
  exact LeO.ite (LeO.bind (mapM_mono h _) (fun _ => LeO.refl _)) (LeO.none _)

def sbox_Subs.f (k : Nat) (s : ByteArray) : Option ByteArray := eachF (sbox_Sub.f k) s
theorem sbox_Subs.mono : ∀ a0 k, LeO (sbox_Subs.f k a0) (sbox_Subs.f (k + 1) a0) := fun a0 k => eachF_mono (fun x => sbox_Sub.mono x k) a0
def sbox_Backs.f (k : Nat) (s : ByteArray) : Option ByteArray := eachF (sbox_Back.f k) s
theorem sbox_Backs.mono : ∀ a0 k, LeO (sbox_Backs.f k a0) (sbox_Backs.f (k + 1) a0) := fun a0 k => eachF_mono (fun x => sbox_Back.mono x k) a0
end Go.Proofs.Ytokkhnjedmlbhaa.Pr
end
section
namespace Go.Proofs.Ytokkhnjedmlbhaa.Pr
open Go.RowKit Go.Proofs.YtokkhnjedmlbhaaW.PrintWords Go.Proofs.YtokkhnjedmlbhaaW.PrintLast Go.Proofs.YtokkhnjedmlbhaaW.PrintMore
attribute [local go_sem] max2_int min2_int max_two min_two max_three min_three max_four min_four   -- for this text's walks alone
set_option linter.unusedVariables false
set_option linter.unusedSimpArgs false

def clavigerref02_Unhex.l0 : Nat → ByteArray → ByteArray → Int → Option (ByteArray × Bool)
 | 0, _, _, _ => none
 | k + 1, x0, x4, x5 => if x5 < (x0.size : Int) then (if 0 ≤ x5 then ((clavigerref02_Value.f k (bt x0 x5)).bind fun t349 => (if 0 ≤ (wrap64 (x5 + 1)) then (if (wrap64 (x5 + 1)) < (x0.size : Int) then ((clavigerref02_Value.f k (bt x0 (wrap64 (x5 + 1)))).bind fun t350 => (if t349 < 0 then (some ((⟨#[]⟩ : ByteArray), false)) else (if t350 < 0 then (some ((⟨#[]⟩ : ByteArray), false)) else ((some (([(wrap64 ((wrap64 (16 * t349)) + t350)) % 256] : List Int) : List Int)).bind fun y351 => (if x4.size + (strOfNums y351).size ≤ 9223372036854775807 then (clavigerref02_Unhex.l0 k x0 (x4 ++ (strOfNums y351)) (wrap64 (x5 + 2))) else (none)))))) else (none)) else (none))) else (none)) else (some (x4, true))
def clavigerref02_Unhex.f (k : Nat) (a0 : ByteArray) : Option (ByteArray × Bool) := if ((a0.size : Int) % 2) = 0 then (clavigerref02_Unhex.l0 k a0 (⟨#[]⟩ : ByteArray) 0) else (some ((⟨#[]⟩ : ByteArray), false))
theorem clavigerref02_Unhex.mono_l : ∀ k, (∀ y0 y1 y2, LeO (clavigerref02_Unhex.l0 k y0 y1 y2) (clavigerref02_Unhex.l0 (k + 1) y0 y1 y2))
 | 0 => fun _ _ _ r h => by simp [clavigerref02_Unhex.l0] at h
 | k + 1 => by
  have ih0 := clavigerref02_Unhex.mono_l k
  ·intro y0 y1 y2
   unfold clavigerref02_Unhex.l0
   repeat' first
   | (with_reducible exact ih0 _ _ _)
   | (with_reducible exact clavigerref02_Value.mono _ _)
   | (with_reducible exact LeO.refl _)
   | (with_reducible exact LeO.none _)
   | (with_reducible refine LeO.ite ?_ ?_)
   | (with_reducible refine LeO.bind ?_ (fun _ => ?_))
   | exact ih0 _ _ _
   | exact clavigerref02_Value.mono _ _
   | exact LeO.none _
   | refine LeO.ite ?_ ?_
   | refine LeO.bind ?_ (fun _ => ?_)
theorem clavigerref02_Unhex.mono : ∀ a0 k, LeO (clavigerref02_Unhex.f k a0) (clavigerref02_Unhex.f (k + 1) a0) := by
 intro a0 k
 have ih0 := clavigerref02_Unhex.mono_l k
 unfold clavigerref02_Unhex.f
 repeat' first
   | (with_reducible exact ih0 _ _ _)
   | (with_reducible exact clavigerref02_Value.mono _ _)
   | (with_reducible exact LeO.refl _)
   | (with_reducible exact LeO.none _)
   | (with_reducible refine LeO.ite ?_ ?_)
   | (with_reducible refine LeO.bind ?_ (fun _ => ?_))
   | exact ih0 _ _ _
   | exact clavigerref02_Value.mono _ _
   | exact LeO.none _
   | refine LeO.ite ?_ ?_
   | refine LeO.bind ?_ (fun _ => ?_)
def clavigerref06_Table.f (k : Nat)  : Option (ByteArray) := (clavigerref02_Unhex.f k (⟨#[54, 51, 55, 67, 55, 55, 55, 66, 70, 50, 54, 66, 54, 70, 67, 53, 51, 48, 48, 49, 54, 55, 50, 66, 70, 69, 68, 55, 65, 66, 55, 54, 67, 65, 56, 50, 67, 57, 55, 68, 70, 65, 53, 57, 52, 55, 70, 48, 65, 68, 68, 52, 65, 50, 65, 70, 57, 67, 65, 52, 55, 50, 67, 48, 66, 55, 70, 68, 57, 51, 50, 54, 51, 54, 51, 70, 70, 55, 67, 67, 51, 52, 65, 53, 69, 53, 70, 49, 55, 49, 68, 56, 51, 49, 49, 53, 48, 52, 67, 55, 50, 51, 67, 51, 49, 56, 57, 54, 48, 53, 57, 65, 48, 55, 49, 50, 56, 48, 69, 50, 69, 66, 50, 55, 66, 50, 55, 53, 48, 57, 56, 51, 50, 67, 49, 65, 49, 66, 54, 69, 53, 65, 65, 48, 53, 50, 51, 66, 68, 54, 66, 51, 50, 57, 69, 51, 50, 70, 56, 52, 53, 51, 68, 49, 48, 48, 69, 68, 50, 48, 70, 67, 66, 49, 53, 66, 54, 65, 67, 66, 66, 69, 51, 57, 52, 65, 52, 67, 53, 56, 67, 70, 68, 48, 69, 70, 65, 65, 70, 66, 52, 51, 52, 68, 51, 51, 56, 53, 52, 53, 70, 57, 48, 50, 55, 70, 53, 48, 51, 67, 57, 70, 65, 56, 53, 49, 65, 51, 52, 48, 56, 70, 57, 50, 57, 68, 51, 56, 70, 53, 66, 67, 66, 54, 68, 65, 50, 49, 49, 48, 70, 70, 70, 51, 68, 50, 67, 68, 48, 67, 49, 51, 69, 67, 53, 70, 57, 55, 52, 52, 49, 55, 67, 52, 65, 55, 55, 69, 51, 68, 54, 52, 53, 68, 49, 57, 55, 51, 54, 48, 56, 49, 52, 70, 68, 67, 50, 50, 50, 65, 57, 48, 56, 56, 52, 54, 69, 69, 66, 56, 49, 52, 68, 69, 53, 69, 48, 66, 68, 66, 69, 48, 51, 50, 51, 65, 48, 65, 52, 57, 48, 54, 50, 52, 53, 67, 67, 50, 68, 51, 65, 67, 54, 50, 57, 49, 57, 53, 69, 52, 55, 57, 69, 55, 67, 56, 51, 55, 54, 68, 56, 68, 68, 53, 52, 69, 65, 57, 54, 67, 53, 54, 70, 52, 69, 65, 54, 53, 55, 65, 65, 69, 48, 56, 66, 65, 55, 56, 50, 53, 50, 69, 49, 67, 65, 54, 66, 52, 67, 54, 69, 56, 68, 68, 55, 52, 49, 70, 52, 66, 66, 68, 56, 66, 56, 65, 55, 48, 51, 69, 66, 53, 54, 54, 52, 56, 48, 51, 70, 54, 48, 69, 54, 49, 51, 53, 53, 55, 66, 57, 56, 54, 67, 49, 49, 68, 57, 69, 69, 49, 70, 56, 57, 56, 49, 49, 54, 57, 68, 57, 56, 69, 57, 52, 57, 66, 49, 69, 56, 55, 69, 57, 67, 69, 53, 53, 50, 56, 68, 70, 56, 67, 65, 49, 56, 57, 48, 68, 66, 70, 69, 54, 52, 50, 54, 56, 52, 49, 57, 57, 50, 68, 48, 70, 66, 48, 53, 52, 66, 66, 49, 54]⟩ : ByteArray)).bind fun bt354 => (some bt354.1)
theorem clavigerref06_Table.mono : ∀ k, LeO (clavigerref06_Table.f k ) (clavigerref06_Table.f (k + 1) ) := by
 intro  k
 unfold clavigerref06_Table.f
 repeat' first
   | (with_reducible exact clavigerref02_Unhex.mono _ _)
   | (with_reducible exact LeO.refl _)
   | (with_reducible exact LeO.none _)
   | (with_reducible refine LeO.ite ?_ ?_)
   | (with_reducible refine LeO.bind ?_ (fun _ => ?_))
   | exact clavigerref02_Unhex.mono _ _
   | exact LeO.none _
   | refine LeO.ite ?_ ?_
   | refine LeO.bind ?_ (fun _ => ?_)
end Go.Proofs.Ytokkhnjedmlbhaa.Pr
end
section
namespace Go.Proofs.Ytokkhnjedmlbhaa.M
open Go.RowKit Go.Proofs.Ytokkhnjedmlbhaa.Pr Go.Proofs.YtokkhnjedmlbhaaW.PrintWords Go.Proofs.YtokkhnjedmlbhaaW.PrintLast Go.Proofs.YtokkhnjedmlbhaaW.PrintMore Go.Proofs.YtokkhnjedmlbhaaGf
/-- A byte, turned by m. -/
def rot (a m : Nat) : Nat := (a * 2 ^ m) % 256 + a / 2 ^ (8 - m)
def mixN (b : Nat) : Nat := b ^^^ rot b 1 ^^^ rot b 2 ^^^ rot b 3 ^^^ rot b 4 ^^^ 99
theorem mixed_all : allB 256 (fun b => decide (sbox_mixed.f (b : Int) = some ((mixN b : Nat) : Int)) && Nat.blt (mixN b) 256) = true := by decide +kernel
theorem mixN_lt {b : Nat} (hb : b < 256) : mixN b < 256 := by
  have := allB_of mixed_all b hb
  simp only [Bool.and_eq_true] at this
  exact Nat.le_of_ble_eq_true this.2
def sN (a : Nat) : Nat := mixN (inv a)
theorem sN_lt (a : Nat) : sN a < 256 := mixN_lt (inv_lt a)
/-- All bytes for which bytes stand. -/
def sT : List Nat := (List.range 256).map sN
theorem isB_map {f : Nat → Nat} (h : ∀ a, f a < 256) (l : List Nat) : isB (l.map f) := by
  intro x hx
  obtain ⟨a, _, rfl⟩ := List.mem_map.1 hx
  exact h a
theorem rsub_all : allB 256 (fun a => decide (clavigerref06_Sub.f 20 (a : Int) = some ((sN a : Nat) : Int))) = true := by decide +kernel
theorem rsub_c {a : Nat} (ha : a < 256) : Ev (fun k => clavigerref06_Sub.f k (a : Int)) ((sN a : Nat) : Int) := Ev.of (fun k => clavigerref06_Sub.mono _ k) (k := 20) (of_decide_eq_true (allB_of rsub_all a ha))
end Go.Proofs.Ytokkhnjedmlbhaa.M
end
