/-
  What the printed functions of the field's reference come to, on natural numbers. Plain.
-/
import Derived.Test.YtokkhnjedmlbhaaFieldP
namespace Go.Proofs.Ytokkhnjedmlbhaa.M
open Go.RowKit Go.Proofs.Ytokkhnjedmlbhaa.Pr Go.Proofs.YtokkhnjedmlbhaaW.PrintWords Go.Proofs.YtokkhnjedmlbhaaW.PrintLast Go.Proofs.YtokkhnjedmlbhaaW.PrintMore Go.Proofs.YtokkhnjedmlbhaaGf
theorem ix {p q : Nat} (hp : p < 4611686018427387904) (hq : q < 4611686018427387904) : Go.bits .xor .i64 (p : Int) (q : Int) = ((p ^^^ q : Nat) : Int) := by
  have h := Nat.xor_lt_two_pow (n := 62) hp hq
  have h1 : p % 2 ^ 64 = p := Nat.mod_eq_of_lt (by omega)
  have h2 : q % 2 ^ 64 = q := Nat.mod_eq_of_lt (by omega)
  show IntKind.i64.wrap (((BitVec.ofInt 64 (p : Int)) ^^^ (BitVec.ofInt 64 (q : Int))).toNat : Int) = _
  simp only [BitVec.ofInt_natCast, BitVec.toNat_xor, BitVec.toNat_ofNat, h1, h2]
  rw [IntKind.wrap_i64]
  omega
theorem shr_c {b k : Nat} (hk : k ≤ 64) : shr .i64 (b : Int) (k : Int) = ((b / 2 ^ k : Nat) : Int) := by
  unfold shr
  rw [show min ((k : Int).toNat) IntKind.i64.bits = k from by simp [IntKind.bits]; omega]
  simp
theorem shl_c {a k : Nat} (hk : k ≤ 64) (h : a * 2 ^ k < 9223372036854775808) : shl .i64 (a : Int) (k : Int) = ((a * 2 ^ k : Nat) : Int) := by
  unfold shl
  rw [show min ((k : Int).toNat) IntKind.i64.bits = k from by simp [IntKind.bits]; omega]
  have : (a : Int) * 2 ^ k = ((a * 2 ^ k : Nat) : Int) := by simp
  rw [this, IntKind.wrap_i64]
  omega
theorem tmod2 (x : Nat) : Int.tmod (x : Int) 2 = ((x % 2 : Nat) : Int) := by rw [Int.tmod_eq_emod_of_nonneg (by omega)]; omega
/-- The product without a remainder, by the first k bits of b. -/
def clT (a b : Nat) : Nat → Nat
  | 0 => 0
  | k + 1 => clT a b k ^^^ (if b / 2 ^ k % 2 = 1 then a * 2 ^ k else 0)
/-- The remainder, j steps of it. -/
def rdT (p : Nat) : Nat → Nat
  | 0 => p
  | j + 1 => rdT p j ^^^ (if rdT p j / 2 ^ (14 - j) % 2 = 1 then 283 * 2 ^ (6 - j) else 0)
theorem pow_le8 {k : Nat} (hk : k < 8) : 2 ^ k ≤ 128 := by
  have : 2 ^ k ≤ 2 ^ 7 := Nat.pow_le_pow_right (by omega) (by omega)
  omega
theorem clT_lt {a b : Nat} (ha : a < 256) (k : Nat) (hk : k ≤ 8) : clT a b k < 32768 := by
  induction k with
  | zero => show 0 < 32768; omega
  | succ k ih =>
    refine Nat.xor_lt_two_pow (n := 15) (ih (by omega)) ?_
    have h1 := pow_le8 (show k < 8 by omega)
    have h2 : a * 2 ^ k ≤ 255 * 128 := Nat.mul_le_mul (by omega) h1
    split
    · show _ < 32768; omega
    · show 0 < 32768; omega
theorem rdT_lt {p : Nat} (hp : p < 32768) (j : Nat) (hj : j ≤ 7) : rdT p j < 32768 := by
  induction j with
  | zero => exact hp
  | succ j ih =>
    refine Nat.xor_lt_two_pow (n := 15) (ih (by omega)) ?_
    have h1 : 2 ^ (6 - j) ≤ 2 ^ 6 := Nat.pow_le_pow_right (by omega) (by omega)
    have h2 : 283 * 2 ^ (6 - j) ≤ 283 * 64 := Nat.mul_le_mul_left _ h1
    split
    · show _ < 32768; omega
    · show 0 < 32768; omega
theorem bit_xor (p q i : Nat) : (p ^^^ q) / 2 ^ i % 2 = 1 ↔ ¬ (p / 2 ^ i % 2 = 1 ↔ q / 2 ^ i % 2 = 1) := by
  have h := Nat.testBit_xor p q i
  simp only [Nat.testBit_eq_decide_div_mod_eq] at h
  by_cases h1 : p / 2 ^ i % 2 = 1 <;> by_cases h2 : q / 2 ^ i % 2 = 1 <;> simp [h1, h2] at h ⊢ <;> simpa using h
theorem rdT_xor (p q j : Nat) : rdT (p ^^^ q) j = rdT p j ^^^ rdT q j := by
  induction j with
  | zero => rfl
  | succ j ih =>
    simp only [rdT]
    rw [ih, xor4]
    congr 1
    have h := bit_xor (rdT p j) (rdT q j) (14 - j)
    by_cases h1 : rdT p j / 2 ^ (14 - j) % 2 = 1 <;> by_cases h2 : rdT q j / 2 ^ (14 - j) % 2 = 1 <;> simp [h, h1, h2]
theorem rdT_zero (j : Nat) : rdT 0 j = 0 := by
  induction j with
  | zero => rfl
  | succ j ih => simp [rdT, ih]
/-- xt, k times. -/
def xtN : Nat → Nat → Nat
  | 0, a => a
  | k + 1, a => xtN k (xt a)
theorem rd_all : allB 256 (fun a => allB 8 fun k => Nat.beq (rdT (a * 2 ^ k) 7) (xtN k a)) = true := by decide +kernel
theorem rd_pow {a k : Nat} (ha : a < 256) (hk : k < 8) : rdT (a * 2 ^ k) 7 = xtN k a := Nat.eq_of_beq_eq_true (allB_of (allB_of rd_all a ha) k hk)
theorem rd_ite {a k : Nat} {c : Prop} [Decidable c] (ha : a < 256) (hk : k < 8) : rdT (if c then a * 2 ^ k else 0) 7 = if c then xtN k a else 0 := by
  split
  · exact rd_pow ha hk
  · exact rdT_zero 7
theorem rd_cl {a : Nat} (b : Nat) (ha : a < 256) : rdT (clT a b 8) 7 = gm a b := by
  simp only [clT, rdT_xor, rdT_zero, rd_ite ha (show 0 < 8 by omega), rd_ite ha (show 1 < 8 by omega), rd_ite ha (show 2 < 8 by omega), rd_ite ha (show 3 < 8 by omega), rd_ite ha (show 4 < 8 by omega), rd_ite ha (show 5 < 8 by omega), rd_ite ha (show 6 < 8 by omega), rd_ite ha (show 7 < 8 by omega)]
  simp only [gm, mulF, xtN, Nat.div_div_eq_div_mul, Nat.zero_xor, Nat.xor_zero, Nat.xor_assoc, Nat.pow_zero, Nat.div_one]
theorem refMulR (d : Nat) : ∀ (j p : Nat), j ≤ 7 → 7 - j = d → p < 32768 → Ev (fun k => clavigerref05_Mul.l1 k ((rdT p j : Nat) : Int) ((14 - j : Nat) : Int)) (((rdT p 7 % 256 : Nat)) : Int) := by
  induction d with
  | zero =>
    intro j p hj hd hp
    obtain rfl : j = 7 := by omega
    refine Ev.step (f := fun _ => some (((rdT p 7 : Nat) : Int) % 256)) (fun k => by simp only [clavigerref05_Mul.l1]; rw [if_neg (by omega)]) ?_
    exact Ev.now _
  | succ d ih =>
    intro j p hj hd hp
    have hi := ih (j + 1) p (by omega) (by omega) hp
    have hl := rdT_lt hp j hj
    refine Ev.step (fun k => ?_) hi
    simp only [clavigerref05_Mul.l1]
    rw [if_pos (by omega), if_pos (by omega), shr_c (by omega), tmod2]
    have e1 : wrap64 (((14 - j : Nat) : Int) - 1) = ((14 - (j + 1) : Nat) : Int) := by unfold wrap64; omega
    have e2 : wrap64 (((14 - j : Nat) : Int) - 8) = ((6 - j : Nat) : Int) := by unfold wrap64; omega
    have h1 : 2 ^ (6 - j) ≤ 2 ^ 6 := Nat.pow_le_pow_right (by omega) (by omega)
    have h2 : 283 * 2 ^ (6 - j) ≤ 283 * 64 := Nat.mul_le_mul_left _ h1
    rw [e1, e2]
    by_cases hb : rdT p j / 2 ^ (14 - j) % 2 = 1
    · rw [if_pos (by omega), if_pos (by omega), show (283 : Int) = ((283 : Nat) : Int) from rfl, shl_c (by omega) (by omega), ix (by omega) (by omega)]
      simp only [rdT]
      rw [if_pos hb]
    · rw [if_neg (by omega)]
      simp only [rdT]
      rw [if_neg hb, Nat.xor_zero]
theorem refMulL (d : Nat) : ∀ (j a b : Nat), j ≤ 8 → 8 - j = d → a < 256 → b < 256 → Ev (fun k => clavigerref05_Mul.l0 k (a : Int) (b : Int) ((clT a b j : Nat) : Int) (j : Int)) ((gm a b : Nat) : Int) := by
  induction d with
  | zero =>
    intro j a b hj hd ha hb
    obtain rfl : j = 8 := by omega
    have hr := refMulR 7 0 (clT a b 8) (by omega) (by omega) (clT_lt ha 8 (by omega))
    rw [rd_cl b ha, Nat.mod_eq_of_lt (gm_lt ha)] at hr
    refine Ev.step (fun k => ?_) hr
    simp only [clavigerref05_Mul.l0]
    rw [if_neg (by omega)]
    rfl
  | succ d ih =>
    intro j a b hj hd ha hb
    have hi := ih (j + 1) a b (by omega) (by omega) ha hb
    have hl := clT_lt (b := b) ha j hj
    refine Ev.step (fun k => ?_) hi
    simp only [clavigerref05_Mul.l0]
    have h1 := pow_le8 (show j < 8 by omega)
    have h2 : a * 2 ^ j ≤ 255 * 128 := Nat.mul_le_mul (by omega) h1
    rw [if_pos (by omega), if_pos (by omega), wrap_id (x := (b : Int)) (by omega) (by omega), wrap_id (x := (a : Int)) (by omega) (by omega), wrap_id (x := (j : Int) + 1) (by omega) (by omega), shr_c (by omega), tmod2]
    by_cases hb' : b / 2 ^ j % 2 = 1
    · rw [if_pos (by omega), shl_c (by omega) (by omega), ix (by omega) (by omega)]
      simp only [clT]
      rw [if_pos hb']
      rfl
    · rw [if_neg (by omega)]
      simp only [clT]
      rw [if_neg hb', Nat.xor_zero]
      rfl
theorem rmul_c {a b : Nat} (ha : a < 256) (hb : b < 256) : Ev (fun k => clavigerref05_Mul.f k (a : Int) (b : Int)) ((gm a b : Nat) : Int) := refMulL 8 0 a b (by omega) (by omega) ha hb
theorem rtwice_c {a : Nat} (ha : a < 256) : Ev (fun k => clavigerref05_Twice.f k (a : Int)) ((xt a : Nat) : Int) := by
  have h := rmul_c ha (show 2 < 256 by omega)
  rw [gm_two ha] at h
  exact Ev.bind h (Ev.now _)
theorem rpowL (d : Nat) : ∀ (i a : Nat) (n : Int), 0 ≤ n → i ≤ (n.toNat % 255) → n.toNat % 255 - i = d → a < 256 → Ev (fun k => clavigerref05_Pow.l0 k (a : Int) n ((pw a i : Nat) : Int) (i : Int)) ((pw a (n.toNat % 255) : Nat) : Int) := by
  induction d with
  | zero =>
    intro i a n h0 hi hd ha
    obtain rfl : i = n.toNat % 255 := by omega
    refine Ev.step (f := fun _ => some ((pw a (n.toNat % 255) : Nat) : Int)) (fun k => by simp only [clavigerref05_Pow.l0]; rw [if_neg (by rw [Int.tmod_eq_emod_of_nonneg h0]; omega)]) (Ev.now _)
  | succ d ih =>
    intro i a n h0 hi hd ha
    have hh := ih (i + 1) a n h0 (by omega) (by omega) ha
    refine Ev.step (f := fun k => (clavigerref05_Mul.f k ((pw a i : Nat) : Int) (a : Int)).bind fun t109 => (clavigerref05_Pow.l0 k (a : Int) n t109 (wrap64 ((i : Int) + 1)))) (fun k => by simp only [clavigerref05_Pow.l0]; rw [if_pos (by rw [Int.tmod_eq_emod_of_nonneg h0]; omega)]) ?_
    refine Ev.bind (rmul_c (pw_lt i) ha) ?_
    rw [wrap_id (by omega) (by omega)]
    exact hh
theorem rpow_c {a : Nat} (ha : a < 256) (n : Int) : Ev (fun k => clavigerref05_Pow.f k (a : Int) n) ((powI a n : Nat) : Int) := by
  unfold powI
  by_cases h : n < 1
  · refine Ev.congr (f := fun _ => some (1 : Int)) (fun k => by simp only [clavigerref05_Pow.f]; rw [if_pos h]) ?_
    rw [show n.toNat = 0 by omega]
    exact Ev.now _
  · by_cases h0 : a = 0
    · subst h0
      refine Ev.congr (f := fun _ => some (0 : Int)) (fun k => by simp only [clavigerref05_Pow.f]; rw [if_neg h, if_pos (by rfl)]) ?_
      rw [pw_zero (by omega)]
      exact Ev.now _
    · have := rpowL (n.toNat % 255) 0 a n (by omega) (by omega) (by omega) ha
      rw [pw_mod ha h0] at this
      refine Ev.congr (fun k => by simp only [clavigerref05_Pow.f]; rw [if_neg h, if_neg (by omega)]; rfl) this
theorem rinvL (d : Nat) : ∀ (i a : Nat), 1 ≤ i → i ≤ 256 → 256 - i = d → a < 256 → (∀ b, 1 ≤ b → b < i → gm a b ≠ 1) → Ev (fun k => clavigerref05_Inv.l0 k (a : Int) (i : Int)) ((inv a : Nat) : Int) := by
  induction d with
  | zero =>
    intro i a h1 hi hd ha hn
    obtain rfl : i = 256 := by omega
    have h0 : a = 0 := by
      by_cases h : a = 0
      · exact h
      · have hg := gm_inv ha h
        have hne : inv a ≠ 0 := fun e => by rw [e, gm_zeroR ha] at hg; omega
        exact absurd hg (hn (inv a) (by omega) (inv_lt a))
    subst h0
    refine Ev.step (f := fun _ => some (0 : Int)) (fun k => by simp only [clavigerref05_Inv.l0]; rw [if_neg (by omega)]) ?_
    exact Ev.now _
  | succ d ih =>
    intro i a h1 hi hd ha hn
    have hib : i < 256 := by omega
    have em : ((i : Int) % 256) = (i : Int) := by omega
    refine Ev.step (f := fun k => (clavigerref05_Mul.f k (a : Int) (i : Int)).bind fun t111 => (if t111 = 1 then (some (i : Int)) else (clavigerref05_Inv.l0 k (a : Int) (wrap64 ((i : Int) + 1))))) (fun k => by simp only [clavigerref05_Inv.l0]; rw [if_pos (by omega), em]) ?_
    refine Ev.bind (rmul_c ha hib) ?_
    by_cases hg : gm a i = 1
    · rw [← inv_unique ha hib hg]
      exact Ev.congr (f := fun _ => some (i : Int)) (fun k => by rw [if_pos (by omega)]) (Ev.now _)
    · refine Ev.congr (fun k => by rw [if_neg (by omega), wrap_id (by omega) (by omega)]; rfl) (ih (i + 1) a (by omega) (by omega) (by omega) ha (fun b h1 h2 => ?_))
      by_cases e : b = i
      · subst e; exact hg
      · exact hn b h1 (by omega)
theorem rinv_c {a : Nat} (ha : a < 256) : Ev (fun k => clavigerref05_Inv.f k (a : Int)) ((inv a : Nat) : Int) := rinvL 255 1 a (by omega) (by omega) (by omega) ha (fun b h1 h2 => by omega)
theorem rlogL (d : Nat) : ∀ (n a : Nat), n ≤ 255 → 255 - n = d → a < 256 → (a ≠ 0 → n ≤ lg a) → Ev (fun k => clavigerref05_Log.l0 k (a : Int) ((E n : Nat) : Int) (n : Int)) (if a = 0 then (0, false) else (((lg a : Nat) : Int), true)) := by
  induction d with
  | zero =>
    intro n a hn hd ha hl
    obtain rfl : n = 255 := by omega
    have h0 : a = 0 := by
      by_cases h : a = 0
      · exact h
      · have := hl h; have := (E_lg ha h).2; omega
    rw [if_pos h0]
    exact Ev.step (f := fun _ => some (0, false)) (fun k => by simp only [clavigerref05_Log.l0]; rw [if_neg (by omega)]) (Ev.now _)
  | succ d ih =>
    intro n a hn hd ha hl
    by_cases e : E n = a
    · have h0 : a ≠ 0 := by rw [← e]; exact E_ne n
      rw [if_neg h0]
      refine Ev.step (f := fun _ => some ((n : Int), true)) (fun k => by simp only [clavigerref05_Log.l0]; rw [if_pos (by omega), if_pos (by rw [e])]) ?_
      rw [show lg a = n from by rw [← e]; exact (lg_E (by omega)).1]
      exact Ev.now _
    · have hi := ih (n + 1) a (by omega) (by omega) ha (fun h0 => by
        have := hl h0
        have h1 := (E_lg ha h0).1
        have : n ≠ lg a := fun z => e (by rw [z]; exact h1)
        omega)
      refine Ev.step (f := fun k => (clavigerref05_Mul.f k ((E n : Nat) : Int) 3).bind fun t102 => (clavigerref05_Log.l0 k (a : Int) t102 (wrap64 ((n : Int) + 1)))) (fun k => by simp only [clavigerref05_Log.l0]; rw [if_pos (by omega), if_neg (by omega)]) ?_
      have hm := rmul_c (E_lt n) (show 3 < 256 by omega)
      rw [gm_three (E_lt n)] at hm
      refine Ev.bind hm ?_
      rw [wrap_id (by omega) (by omega)]
      exact hi
theorem rlog_c {a : Nat} (ha : a < 256) : Ev (fun k => clavigerref05_Log.f k (a : Int)) (if a = 0 then (0, false) else (((lg a : Nat) : Int), true)) := rlogL 255 0 a (by omega) (by omega) ha (fun _ => by omega)
end Go.Proofs.Ytokkhnjedmlbhaa.M
