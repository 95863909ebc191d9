/-
  The field of 256 elements on natural numbers: products, powers of 3, inverses. Plain; nothing of the program.
-/
namespace Go.Proofs.YtokkhnjedmlbhaaGf
/-- A byte times x. -/
def xt (a : Nat) : Nat := if a < 128 then 2 * a else (2 * a - 256) ^^^ 27
def allB (n : Nat) (p : Nat → Bool) : Bool := match n with | 0 => true | n + 1 => p n && allB n p
theorem allB_of {n : Nat} {p : Nat → Bool} (h : allB n p = true) : ∀ a, a < n → p a = true := by
  induction n with
  | zero => intro a ha; omega
  | succ n ih =>
    intro a ha
    simp only [allB, Bool.and_eq_true] at h
    rcases Nat.lt_succ_iff_lt_or_eq.1 ha with h1 | rfl
    · exact ih h.2 a h1
    · exact h.1
theorem xt_lin_all : allB 256 (fun a => allB 256 fun b => Nat.beq (xt (a ^^^ b)) (xt a ^^^ xt b)) = true := by decide +kernel
theorem xt_lin {a b : Nat} (ha : a < 256) (hb : b < 256) : xt (a ^^^ b) = xt a ^^^ xt b :=
  Nat.eq_of_beq_eq_true (allB_of (allB_of xt_lin_all a ha) b hb)
theorem xor_lt {a b : Nat} (ha : a < 256) (hb : b < 256) : a ^^^ b < 256 := Nat.xor_lt_two_pow (n := 8) ha hb
theorem xt_lt {a : Nat} (ha : a < 256) : xt a < 256 := by
  unfold xt; split
  · omega
  · exact xor_lt (by omega) (by omega)
theorem xt_zero : xt 0 = 0 := rfl
/-- The product, by the bits of b: n of them. -/
def mulF : Nat → Nat → Nat → Nat
  | 0, _, _ => 0
  | n + 1, a, b => (if b % 2 = 1 then a else 0) ^^^ mulF n (xt a) (b / 2)
def gm (a b : Nat) : Nat := mulF 8 a b
theorem ite_lt {a : Nat} {p : Prop} [Decidable p] (ha : a < 256) : (if p then a else 0) < 256 := by split <;> omega
theorem mulF_lt (n : Nat) : ∀ {a b : Nat}, a < 256 → mulF n a b < 256 := by
  induction n with
  | zero => intro a b _; simp [mulF]
  | succ n ih => intro a b ha; exact xor_lt (ite_lt ha) (ih (xt_lt ha))
theorem gm_lt {a b : Nat} (ha : a < 256) : gm a b < 256 := mulF_lt 8 ha
theorem mulF_zero (n : Nat) : ∀ b, mulF n 0 b = 0 := by
  induction n with
  | zero => intro b; rfl
  | succ n ih => intro b; simp [mulF, xt_zero, ih]
theorem xor4 (a b c d : Nat) : (a ^^^ b) ^^^ (c ^^^ d) = (a ^^^ c) ^^^ (b ^^^ d) := by
  rw [Nat.xor_assoc, Nat.xor_assoc, ← Nat.xor_assoc b, Nat.xor_comm b c, Nat.xor_assoc c]
theorem mulF_addL (n : Nat) : ∀ {a c b : Nat}, a < 256 → c < 256 → mulF n (a ^^^ c) b = mulF n a b ^^^ mulF n c b := by
  induction n with
  | zero => intro a c b _ _; simp [mulF]
  | succ n ih =>
    intro a c b ha hc
    simp only [mulF]
    rw [xt_lin ha hc, ih (xt_lt ha) (xt_lt hc), xor4]
    congr 1
    split <;> simp
theorem mulF_addR (n : Nat) : ∀ {a b c : Nat}, mulF n a (b ^^^ c) = mulF n a b ^^^ mulF n a c := by
  induction n with
  | zero => intro a b c; simp [mulF]
  | succ n ih =>
    intro a b c
    simp only [mulF]
    rw [show (b ^^^ c) / 2 = b / 2 ^^^ c / 2 from Nat.xor_div_two, ih, xor4]
    congr 1
    have h := Nat.xor_mod_two_eq_one (a := b) (b := c)
    by_cases hb : b % 2 = 1 <;> by_cases hc : c % 2 = 1 <;> simp [h, hb, hc]
theorem mulF_xt (n : Nat) : ∀ {a b : Nat}, a < 256 → mulF n (xt a) b = xt (mulF n a b) := by
  induction n with
  | zero => intro a b _; rfl
  | succ n ih =>
    intro a b ha
    simp only [mulF]
    rw [xt_lin (ite_lt ha) (mulF_lt n (xt_lt ha)), ih (xt_lt ha)]
    congr 1
    split <;> simp [xt_zero]
theorem gm_addL {a c b : Nat} (ha : a < 256) (hc : c < 256) : gm (a ^^^ c) b = gm a b ^^^ gm c b := mulF_addL 8 ha hc
theorem gm_addR {a b c : Nat} : gm a (b ^^^ c) = gm a b ^^^ gm a c := mulF_addR 8
theorem gm_xt {a b : Nat} (ha : a < 256) : gm (xt a) b = xt (gm a b) := mulF_xt 8 ha
/-- A byte times 3. -/
def t3 (a : Nat) : Nat := a ^^^ xt a
theorem t3_lt {a : Nat} (ha : a < 256) : t3 a < 256 := xor_lt ha (xt_lt ha)
theorem gm_t3 {a b : Nat} (ha : a < 256) : gm (t3 a) b = t3 (gm a b) := by unfold t3; rw [gm_addL ha (xt_lt ha), gm_xt ha]
/-- b times the n-th power of 3. -/
def p3 : Nat → Nat → Nat
  | 0, b => b
  | n + 1, b => t3 (p3 n b)
theorem p3_lt (n : Nat) {b : Nat} (hb : b < 256) : p3 n b < 256 := by
  induction n with
  | zero => exact hb
  | succ n ih => exact t3_lt ih
theorem p3_add (n m b : Nat) : p3 (n + m) b = p3 n (p3 m b) := by
  induction n with
  | zero => simp [p3]
  | succ n ih => rw [Nat.succ_add]; simp only [p3]; rw [ih]
def E (n : Nat) : Nat := p3 n 1
theorem E_lt (n : Nat) : E n < 256 := p3_lt n (by omega)
theorem gm_one_all : allB 256 (fun b => Nat.beq (gm 1 b) b) = true := by decide +kernel
theorem gm_one {b : Nat} (hb : b < 256) : gm 1 b = b := Nat.eq_of_beq_eq_true (allB_of gm_one_all b hb)
theorem gm_E (n : Nat) {b : Nat} (hb : b < 256) : gm (E n) b = p3 n b := by
  induction n with
  | zero => exact gm_one hb
  | succ n ih => show gm (t3 (E n)) b = t3 (p3 n b); rw [gm_t3 (E_lt n), ih]
theorem gm_EE (n m : Nat) : gm (E n) (E m) = E (n + m) := by rw [gm_E n (E_lt m)]; unfold E; rw [p3_add]
theorem E255 : E 255 = 1 := by decide +kernel
theorem E_per (n : Nat) : E (n + 255) = E n := by unfold E; rw [p3_add]; show p3 n (E 255) = _; rw [E255]
theorem E_mod (n : Nat) : E (n % 255) = E n := by
  conv => rhs; rw [← Nat.mod_add_div n 255]
  generalize n % 255 = r
  induction n / 255 with
  | zero => simp
  | succ q ih => rw [Nat.mul_succ, ← Nat.add_assoc, E_per]; exact ih
/-- The least n at which the power of 3 is a, from p = 3^k on. -/
def lgF : Nat → Nat → Nat → Nat → Nat
  | 0, k, _, _ => k
  | f + 1, k, p, a => if p = a then k else lgF f (k + 1) (t3 p) a
def lg (a : Nat) : Nat := lgF 255 0 1 a
theorem lg_all : allB 256 (fun a => Nat.beq a 0 || (Nat.beq (E (lg a)) a && Nat.ble (lg a) 254)) = true := by decide +kernel
theorem E_lg {a : Nat} (ha : a < 256) (h0 : a ≠ 0) : E (lg a) = a ∧ lg a ≤ 254 := by
  have h := allB_of lg_all a ha
  simp only [Bool.or_eq_true, Bool.and_eq_true] at h
  rcases h with h | h
  · exact absurd (Nat.eq_of_beq_eq_true h) h0
  · exact ⟨Nat.eq_of_beq_eq_true h.1, Nat.le_of_ble_eq_true h.2⟩
theorem lgE_all : allB 255 (fun n => Nat.beq (lg (E n)) n && !Nat.beq (E n) 0) = true := by decide +kernel
theorem lg_E {n : Nat} (hn : n < 255) : lg (E n) = n ∧ E n ≠ 0 := by
  have h := allB_of lgE_all n hn
  simp only [Bool.and_eq_true, Bool.not_eq_true'] at h
  exact ⟨Nat.eq_of_beq_eq_true h.1, fun h0 => by rw [h0] at h; exact absurd h.2 (by decide)⟩
theorem E_ne (n : Nat) : E n ≠ 0 := by rw [← E_mod]; exact (lg_E (Nat.mod_lt _ (by omega))).2
theorem gm_zeroL (b : Nat) : gm 0 b = 0 := mulF_zero 8 b
theorem gm_zeroR {a : Nat} (ha : a < 256) : gm a 0 = 0 := by
  by_cases h : a = 0
  · subst h; rfl
  · rw [← (E_lg ha h).1, gm_E _ (by omega)]
    generalize lg a = n
    induction n with
    | zero => rfl
    | succ n ih => simp only [p3, ih]; rfl
theorem gm_comm {a b : Nat} (ha : a < 256) (hb : b < 256) : gm a b = gm b a := by
  by_cases h : a = 0
  · subst h; rw [gm_zeroL, gm_zeroR hb]
  by_cases h' : b = 0
  · subst h'; rw [gm_zeroL, gm_zeroR ha]
  rw [← (E_lg ha h).1, ← (E_lg hb h').1, gm_EE, gm_EE, Nat.add_comm]
theorem gm_assoc {a b c : Nat} (ha : a < 256) (hb : b < 256) (hc : c < 256) : gm a (gm b c) = gm (gm a b) c := by
  by_cases h : a = 0
  · subst h; simp only [gm_zeroL]
  by_cases h' : b = 0
  · subst h'; rw [gm_zeroL, gm_zeroR ha, gm_zeroL]
  by_cases h'' : c = 0
  · subst h''; rw [gm_zeroR hb, gm_zeroR ha, gm_zeroR (gm_lt ha)]
  rw [← (E_lg ha h).1, ← (E_lg hb h').1, ← (E_lg hc h'').1, gm_EE, gm_EE, gm_EE, gm_EE, Nat.add_assoc]
theorem gm_oneR {a : Nat} (ha : a < 256) : gm a 1 = a := by rw [gm_comm ha (by omega), gm_one ha]
theorem gm_two {a : Nat} (ha : a < 256) : gm a 2 = xt a := by rw [gm_comm ha (by omega)]; show gm (xt 1) a = _; rw [gm_xt (by omega), gm_one ha]
theorem gm_three {a : Nat} (ha : a < 256) : gm a 3 = t3 a := by rw [gm_comm ha (by omega)]; show gm (t3 1) a = _; rw [gm_t3 (by omega), gm_one ha]
/-- Powers, one factor at a time. -/
def pw (a : Nat) : Nat → Nat
  | 0 => 1
  | n + 1 => gm (pw a n) a
theorem pw_lt {a : Nat} (n : Nat) : pw a n < 256 := by
  induction n with
  | zero => show 1 < 256; omega
  | succ n ih => exact gm_lt ih
theorem pw_E (m n : Nat) : pw (E m) n = E (m * n) := by
  induction n with
  | zero => rfl
  | succ n ih => simp only [pw]; rw [ih, gm_EE, Nat.mul_succ]
theorem pw_add {a : Nat} (ha : a < 256) (n m : Nat) : pw a (n + m) = gm (pw a n) (pw a m) := by
  induction m with
  | zero => rw [Nat.add_zero]; exact (gm_oneR (pw_lt n)).symm
  | succ m ih => rw [← Nat.add_assoc]; simp only [pw]; rw [ih, gm_assoc (pw_lt n) (pw_lt m) ha]
theorem pw_zero {n : Nat} (hn : 0 < n) : pw 0 n = 0 := by
  obtain ⟨m, rfl⟩ : ∃ m, n = m + 1 := ⟨n - 1, by omega⟩
  exact gm_zeroR (pw_lt m)
theorem pw_sq {a : Nat} (ha : a < 256) (n : Nat) : pw (gm a a) n = pw a (2 * n) := by
  induction n with
  | zero => rfl
  | succ n ih =>
    rw [show 2 * (n + 1) = 2 * n + 1 + 1 by omega]
    simp only [pw]
    rw [ih, gm_assoc (pw_lt _) ha ha]
theorem pw_one {a : Nat} (ha : a < 256) : pw a 1 = a := gm_one ha
theorem pw_mod {a : Nat} (ha : a < 256) (h0 : a ≠ 0) (n : Nat) : pw a (n % 255) = pw a n := by
  rw [← (E_lg ha h0).1, pw_E, pw_E, ← E_mod, ← E_mod (lg a * n), Nat.mul_mod, Nat.mod_mod, ← Nat.mul_mod]
/-- The byte with which the product is 1. -/
def inv (a : Nat) : Nat := if a = 0 then 0 else E ((255 - lg a) % 255)
theorem inv_lt (a : Nat) : inv a < 256 := by unfold inv; split; omega; exact E_lt _
theorem gm_inv {a : Nat} (ha : a < 256) (h0 : a ≠ 0) : gm a (inv a) = 1 := by
  unfold inv; rw [if_neg h0]
  have h := E_lg ha h0
  conv => lhs; arg 1; rw [← h.1]
  rw [gm_EE, ← E_mod, Nat.add_mod_mod, show lg a + (255 - lg a) = 255 by omega]; rfl
theorem inv_unique {a b : Nat} (ha : a < 256) (hb : b < 256) (h : gm a b = 1) : b = inv a := by
  have h0 : a ≠ 0 := fun e => by subst e; rw [gm_zeroL] at h; omega
  have h1 := gm_inv ha h0
  have : gm (gm (inv a) a) b = gm (inv a) (gm a b) := (gm_assoc (inv_lt a) ha hb).symm
  rw [h, gm_oneR (inv_lt a), gm_comm (inv_lt a) ha, h1, gm_one hb] at this
  exact this
theorem pw254 {a : Nat} (ha : a < 256) : pw a 254 = inv a := by
  by_cases h : a = 0
  · subst h; rw [pw_zero (by omega)]; rfl
  · refine inv_unique ha (pw_lt _) ?_
    have : gm a (pw a 254) = pw a 255 := by
      rw [gm_comm ha (pw_lt _)]; rfl
    rw [this, ← pw_mod ha h]; rfl
end Go.Proofs.YtokkhnjedmlbhaaGf
