-- several texts in one (by the session's program shake.py)
import Derived.Laws.ComplexArith
import Derived.Test.YtmcpfkgahmdkgaaProg
import Derived.Below
import Derived.Deep.Draws
import Derived.Deep.AppendLies
import Derived.Maps.AppendAt
import Derived.OwnWalk
import Derived.Laws.BytesArg
import Derived.Laws.MakeOwn
import Derived.Laws.OwnMore
import Derived.Deep.OwnRows
import Derived.Tactics
import Derived.Lib.ConvBytes
import Derived.Laws.Slices
import Derived.WalkKit
import Derived.KernelRfl
import Derived.RowKit3
import Derived.Deep.LoopGhost
import Derived.Deep.QuietTactic
import Derived.BigQuiet
import Derived.WideLaws
import Derived.Deep.DeepCutAuto
import Derived.Deep.CutBlock
import Derived.Deep.RegionHeld3
import Derived.Laws.Rows
import Derived.Lib.AppendStr
import Derived.ArgAppend
import Derived.Laws.IdiomCopy
import Derived.OrdersHeld
import Derived.Laws.BitsLemmas
import Derived.RowKit
import Derived.Test.YtmcpfkgahmdkgaaZWWords
import Derived.Test.YtmcpfkgahmdkgaaZWLast
import Derived.Test.YtmcpfkgahmdkgaaZWMore
import Derived.Test.YtmcpfkgahmdkgaaZWRepsOne
section
namespace Go.Proofs.Ytmcpfkgahmdkgaa.M
open Go
/-- The bits of a whole number. -/
def fl (n : Int) : Nat := floatOfInt .f64 n
theorem cut_pow (way : Ieee.Toward) (s : Bool) (q d : Nat) : way.cut s (q * 2 ^ d) d = q := by
  have hp : 0 < 2 ^ d := Nat.two_pow_pos d
  unfold Ieee.Toward.cut
  by_cases hq : q = 0
  · subst hq
    rw [Nat.zero_mul]
    generalize hg : 1 <<< min d (Nat.log2 0 + 2) = g
    have hg0 : 0 < g := by rw [← hg, Nat.one_shiftLeft]; exact Nat.two_pow_pos _
    simp only [Nat.zero_div, Nat.zero_mod]
    have e1 : ¬ g < 2 * 0 := by omega
    have e2 : (g == 2 * 0) = false := by simp; omega
    cases way <;> simp [e1, e2]
  · have hz : q * 2 ^ d ≠ 0 := Nat.mul_ne_zero hq (by omega)
    have hl : d ≤ (q * 2 ^ d).log2 := (Nat.le_log2 hz).2 (Nat.le_mul_of_pos_left _ (by omega))
    rw [Nat.min_eq_left (by omega), Nat.one_shiftLeft]
    simp only [Nat.mul_div_cancel _ hp, Nat.mul_mod_left]
    have e1 : ¬ 2 ^ d < 2 * 0 := by omega
    have e2 : (2 ^ d == 2 * 0) = false := by simp
    cases way <;> simp
theorem log2_mul (n k : Nat) (h : n ≠ 0) : (n * 2 ^ k).log2 = n.log2 + k := by
  have hz : n * 2 ^ k ≠ 0 := Nat.mul_ne_zero h (by have := Nat.two_pow_pos k; omega)
  have h1 : n.log2 + k ≤ (n * 2 ^ k).log2 := (Nat.le_log2 hz).2 (by rw [Nat.pow_add]; exact Nat.mul_le_mul_right _ (Nat.log2_self_le h))
  have h2 : (n * 2 ^ k).log2 < n.log2 + 1 + k := (Nat.log2_lt hz).2 (by rw [Nat.pow_add]; exact Nat.mul_lt_mul_of_pos_right Nat.lt_log2_self (Nat.two_pow_pos k))
  omega
/-- The digits of a number, as many as a float keeps. -/
def kp (n : Nat) : Nat := n * 2 ^ (52 - n.log2)
theorem log_le {n : Nat} (h : n ≠ 0) (hb : n < 9007199254740992) : n.log2 ≤ 52 := by
  have : n.log2 < 53 := (Nat.log2_lt h).2 hb
  omega
theorem kp_lo {n : Nat} (h : n ≠ 0) (hb : n < 9007199254740992) : 4503599627370496 ≤ kp n := by
  have hl := log_le h hb
  have : 2 ^ n.log2 * 2 ^ (52 - n.log2) ≤ kp n := Nat.mul_le_mul_right _ (Nat.log2_self_le h)
  rw [← Nat.pow_add, show n.log2 + (52 - n.log2) = 52 by omega] at this
  exact this
theorem kp_hi {n : Nat} (h : n ≠ 0) (hb : n < 9007199254740992) : kp n < 9007199254740992 := by
  have hl := log_le h hb
  have : kp n < 2 ^ (n.log2 + 1) * 2 ^ (52 - n.log2) := Nat.mul_lt_mul_of_pos_right Nat.lt_log2_self (Nat.two_pow_pos _)
  rw [← Nat.pow_add, show n.log2 + 1 + (52 - n.log2) = 53 by omega] at this
  exact this
def rung (n : Nat) : Nat := (n.log2 + 1022) * 4503599627370496 + kp n
theorem near (s : Bool) (n k : Nat) (h : n ≠ 0) (hb : n < 9007199254740992) : Ieee.double.nearest s (n * 2 ^ k) (-(k : Int)) = Ieee.double.word s (rung n) := by
  have hl := log_le h hb
  have hlo := kp_lo h hb
  have hhi := kp_hi h hb
  have hz : n * 2 ^ k ≠ 0 := Nat.mul_ne_zero h (by have := Nat.two_pow_pos k; omega)
  have hp : Ieee.double.leastPlace = -1074 := by decide
  have hf : Ieee.double.fractionBits = 52 := rfl
  have hbd : Ieee.double.binade = 4503599627370496 := by decide
  have hi : Ieee.double.infRung = 9218868437227405312 := by decide
  unfold Ieee.Format.nearest
  rw [if_neg hz, log2_mul n k h]
  simp only [hp, hf, hbd, hi]
  have e1 : max (-(k : Int) + ((n.log2 + k : Nat) : Int) - ((52 : Nat) : Int)) (-1074) = (n.log2 : Int) - 52 := by omega
  rw [e1]
  have e2 : ((n.log2 : Int) - 52 - -1074).toNat = n.log2 + 1022 := by omega
  rw [e2]
  have e3 : Ieee.Toward.even.cut s ((n * 2 ^ k) <<< (-(k : Int) - ((n.log2 : Int) - 52)).toNat) ((n.log2 : Int) - 52 - -(k : Int)).toNat = kp n := by
    unfold kp
    by_cases hk : k ≤ 52 - n.log2
    · have a1 : (-(k : Int) - ((n.log2 : Int) - 52)).toNat = 52 - n.log2 - k := by omega
      have a2 : ((n.log2 : Int) - 52 - -(k : Int)).toNat = 0 := by omega
      rw [a1, a2, Nat.shiftLeft_eq, Nat.mul_assoc, ← Nat.pow_add, show k + (52 - n.log2 - k) = 52 - n.log2 by omega]
      have := cut_pow .even s (n * 2 ^ (52 - n.log2)) 0
      rwa [Nat.pow_zero, Nat.mul_one] at this
    · have a1 : (-(k : Int) - ((n.log2 : Int) - 52)).toNat = 0 := by omega
      have a2 : ((n.log2 : Int) - 52 - -(k : Int)).toNat = k - (52 - n.log2) := by omega
      rw [a1, a2, Nat.shiftLeft_zero]
      have := cut_pow .even s (n * 2 ^ (52 - n.log2)) (k - (52 - n.log2))
      rwa [Nat.mul_assoc, ← Nat.pow_add, show 52 - n.log2 + (k - (52 - n.log2)) = k by omega] at this
  rw [e3, Nat.min_eq_left (by omega)]
  rfl
theorem read_word (s : Bool) (n : Nat) (h : n ≠ 0) (hb : n < 9007199254740992) : Ieee.double.read (Ieee.double.word s (rung n)) = .number s (kp n) (-((52 - n.log2 : Nat) : Int)) := by
  have hl := log_le h hb
  have hlo := kp_lo h hb
  have hhi := kp_hi h hb
  have hp : Ieee.double.leastPlace = -1074 := by decide
  have hbd : Ieee.double.binade = 4503599627370496 := by decide
  have hi : Ieee.double.infRung = 9218868437227405312 := by decide
  have hw : Ieee.double.signWeight = 9223372036854775808 := by decide
  have hr : rung n = (n.log2 + 1022) * 4503599627370496 + kp n := rfl
  generalize rung n = R at *
  have e1 : Ieee.double.word s R % 9223372036854775808 = R := by
    unfold Ieee.Format.word
    rw [hw]
    cases s
    · simp only [Bool.false_eq_true, if_false]; omega
    · simp only [if_true]; omega
  have e2 : (Ieee.double.word s R / 9223372036854775808 % 2 == 1) = s := by
    unfold Ieee.Format.word
    rw [hw]
    cases s
    · simp only [Bool.false_eq_true, if_false, beq_eq_false_iff_ne]; omega
    · simp only [if_true, beq_iff_eq]; omega
  unfold Ieee.Format.read
  simp only [hp, hbd, hi, hw, e1, e2]
  rw [if_neg (by omega), if_pos (by omega)]
  congr 1
  · omega
  · omega
/-- A datum that is a whole number. -/
def Rp (d : Ieee.Datum) (n : Int) : Prop := ∃ (s : Bool) (m p : Nat), d = .number s m (-(p : Int)) ∧ Ieee.signed s m 0 = n * 2 ^ p
theorem signed_up (s : Bool) (m u : Nat) : Ieee.signed s m u = Ieee.signed s m 0 * 2 ^ u := by
  unfold Ieee.signed
  cases s
  · simp [Nat.shiftLeft_eq]
  · simp [Nat.shiftLeft_eq, Int.neg_mul]
theorem fl0 : fl 0 = 0 := by decide +kernel
theorem fl_near (n : Int) : fl n = Ieee.double.nearest (decide (n < 0)) n.natAbs 0 := rfl
theorem fl_word (n : Int) (h : n ≠ 0) (hb : n.natAbs < 9007199254740992) : fl n = Ieee.double.word (decide (n < 0)) (rung n.natAbs) := by
  have := near (decide (n < 0)) n.natAbs 0 (by omega) hb
  rw [Nat.pow_zero, Nat.mul_one] at this
  rw [fl_near]
  exact this
theorem read_fl (n : Int) (hb : n.natAbs < 9007199254740992) : Rp (Ieee.double.read (fl n)) n ∧ ((Ieee.double.read (fl n)).neg = true → n < 0) := by
  by_cases h : n = 0
  · subst h
    rw [fl0]
    exact ⟨⟨false, 0, 1074, by decide +kernel, by rw [Int.zero_mul]; rfl⟩, by decide +kernel⟩
  · rw [fl_word n h hb, read_word _ _ (by omega) hb]
    refine ⟨⟨_, _, _, rfl, ?_⟩, fun hn => of_decide_eq_true hn⟩
    unfold Ieee.signed kp
    rw [Nat.shiftLeft_zero, Int.natCast_mul, Int.natCast_pow]
    by_cases hs : n < 0
    · rw [decide_eq_true hs, if_pos rfl, ← Int.neg_mul]
      congr 1
      omega
    · rw [decide_eq_false hs, if_neg (by decide)]
      congr 1
      omega
theorem pow_posI (r : Nat) : (0 : Int) < 2 ^ r := Int.pow_pos (by decide)
theorem lift_up {a : Int} {p r : Nat} (h : p ≤ r) : a * 2 ^ p * 2 ^ (r - p) = a * 2 ^ r := by
  rw [Int.mul_assoc, ← Int.pow_add, show p + (r - p) = r by omega]
theorem order_rp {d e : Ieee.Datum} {a b : Int} (hd : Rp d a) (he : Rp e b) : d.order e = some (compare a b) := by
  obtain ⟨s, m, p, rfl, h1⟩ := hd
  obtain ⟨t, n, q, rfl, h2⟩ := he
  have e1 : (-(p : Int) - min (-(p : Int)) (-(q : Int))).toNat = max p q - p := by omega
  have e2 : (-(q : Int) - min (-(p : Int)) (-(q : Int))).toNat = max p q - q := by omega
  show some (compare (Ieee.signed s m (-(p : Int) - min (-(p : Int)) (-(q : Int))).toNat) (Ieee.signed t n (-(q : Int) - min (-(p : Int)) (-(q : Int))).toNat)) = _
  rw [e1, e2, signed_up s m, signed_up t n, h1, h2, lift_up (by omega), lift_up (by omega)]
  have hp := pow_posI (max p q)
  generalize (2 : Int) ^ max p q = z at *
  congr 1
  show compareOfLessAndEq _ _ = compareOfLessAndEq _ _
  unfold compareOfLessAndEq
  have c1 : a * z < b * z ↔ a < b := ⟨fun h => Int.lt_of_mul_lt_mul_right h (Int.le_of_lt hp), fun h => Int.mul_lt_mul_of_pos_right h hp⟩
  have c2 : a * z = b * z ↔ a = b := ⟨fun h => Int.eq_of_mul_eq_mul_right (by omega) h, fun h => by rw [h]⟩
  simp only [c1, c2]
theorem sum_rp {d e : Ieee.Datum} {a b : Int} (hd : Rp d a) (hs : d.neg = true → a < 0) (he : Rp e b) (hb : (a + b).natAbs < 9007199254740992) : (d.sum e).map Ieee.double.write = some (fl (a + b)) := by
  obtain ⟨s, m, p, rfl, h1⟩ := hd
  obtain ⟨t, n, q, rfl, h2⟩ := he
  have e0 : min (-(p : Int)) (-(q : Int)) = -((max p q : Nat) : Int) := by omega
  have e1 : (-(p : Int) - -((max p q : Nat) : Int)).toNat = max p q - p := by omega
  have e2 : (-(q : Int) - -((max p q : Nat) : Int)).toNat = max p q - q := by omega
  have hp := pow_posI (max p q)
  have et : Ieee.signed s m (max p q - p) + Ieee.signed t n (max p q - q) = (a + b) * 2 ^ (max p q) := by
    rw [signed_up s m, signed_up t n, h1, h2, lift_up (by omega), lift_up (by omega), Int.add_mul]
  unfold Ieee.Datum.sum
  simp only [e0, e1, e2, et, Option.map_some]
  congr 1
  unfold Ieee.Format.write
  by_cases hz : a + b = 0
  · rw [hz, Int.zero_mul, if_pos rfl, fl0]
    have hst : (s && t) = false := by
      cases s with
      | false => rfl
      | true =>
        cases t with
        | false => rfl
        | true =>
          have ha : a < 0 := hs rfl
          have hq : (0 : Int) < 2 ^ q := pow_posI q
          have h3 : Ieee.signed true n 0 ≤ 0 := by unfold Ieee.signed; rw [if_pos rfl]; omega
          rw [h2] at h3
          have h4 : 0 < b * 2 ^ q := Int.mul_pos (by omega) hq
          omega
    rw [hst]
    rfl
  · have hne : (a + b) * 2 ^ (max p q) ≠ 0 := Int.mul_ne_zero hz (by omega)
    rw [if_neg hne, Int.natAbs_mul]
    have e4 : ((2 : Int) ^ max p q).natAbs = 2 ^ max p q := by
      have : ((2 : Int) ^ max p q) = ((2 ^ max p q : Nat) : Int) := by rw [Int.natCast_pow]; rfl
      rw [this, Int.natAbs_natCast]
    have e5 : decide ((a + b) * 2 ^ max p q < 0) = decide (a + b < 0) := by
      refine decide_eq_decide.2 ⟨fun h => ?_, fun h => Int.mul_neg_of_neg_of_pos h hp⟩
      rcases Int.lt_trichotomy (a + b) 0 with h3 | h3 | h3
      · exact h3
      · exact absurd h3 hz
      · have := Int.mul_pos h3 hp
        omega
    rw [e4, e5]
    show Ieee.double.nearest (decide (a + b < 0)) ((a + b).natAbs * 2 ^ max p q) (-((max p q : Nat) : Int)) = _
    rw [near _ _ _ (by omega) hb, fl_word _ hz hb]
theorem opp_rp {d : Ieee.Datum} {a : Int} (h : Rp d a) : Rp d.opposite (-a) := by
  obtain ⟨s, m, p, rfl, h1⟩ := h
  refine ⟨!s, m, p, rfl, ?_⟩
  rw [Int.neg_mul, ← h1]
  unfold Ieee.signed
  cases s <;> simp
theorem int_rp {d : Ieee.Datum} {a : Int} (h : Rp d a) : d.toInt .zero = some a := by
  obtain ⟨s, m, p, rfl, h1⟩ := h
  have hp := pow_posI p
  have hm : m = a.natAbs * 2 ^ p := by
    have h2 : (Ieee.signed s m 0).natAbs = m := by
      unfold Ieee.signed
      cases s <;> simp
    rw [h1, Int.natAbs_mul] at h2
    have e4 : ((2 : Int) ^ p).natAbs = 2 ^ p := by
      have : ((2 : Int) ^ p) = ((2 ^ p : Nat) : Int) := by rw [Int.natCast_pow]; rfl
      rw [this, Int.natAbs_natCast]
    rw [e4] at h2
    exact h2.symm
  have e1 : (-(p : Int)).toNat = 0 := by omega
  have e2 : (- -(p : Int)).toNat = p := by omega
  unfold Ieee.Datum.toInt Ieee.Datum.integral
  simp only [e1, e2, Nat.shiftLeft_zero]
  rw [hm, cut_pow]
  congr 1
  have h3 : Ieee.signed s m 0 = a * 2 ^ p := h1
  unfold Ieee.signed at h3 ⊢
  rw [Nat.shiftLeft_zero] at h3 ⊢
  cases s with
  | false =>
    simp only [Bool.false_eq_true, if_false] at h3 ⊢
    have : 0 ≤ a := by
      rcases Int.lt_or_le a 0 with h | h
      · have := Int.mul_neg_of_neg_of_pos h hp
        omega
      · exact h
    omega
  | true =>
    simp only [if_true] at h3 ⊢
    have : a ≤ 0 := by
      rcases Int.lt_or_le 0 a with h | h
      · have := Int.mul_pos h hp
        omega
      · exact h
    omega
theorem fl_order {a b : Int} (ha : a.natAbs < 9007199254740992) (hb : b.natAbs < 9007199254740992) : FloatKind.f64.format.order (fl a) (fl b) = some (compare a b) := order_rp (read_fl a ha).1 (read_fl b hb).1
theorem fl_add {a b : Int} (ha : a.natAbs < 9007199254740992) (hb : b.natAbs < 9007199254740992) (h : (a + b).natAbs < 9007199254740992) : floatBits .add .f64 (fl a) (fl b) = some (fl (a + b)) := sum_rp (read_fl a ha).1 (read_fl a ha).2 (read_fl b hb).1 h
theorem fl_sub {a b : Int} (ha : a.natAbs < 9007199254740992) (hb : b.natAbs < 9007199254740992) (h : (a - b).natAbs < 9007199254740992) : floatBits .sub .f64 (fl a) (fl b) = some (fl (a - b)) := sum_rp (read_fl a ha).1 (read_fl a ha).2 (opp_rp (read_fl b hb).1) h
theorem fl_int {a : Int} (ha : a.natAbs < 9007199254740992) : floatToIntVal .f64 (fl a) .i64 = some a := by
  unfold floatToIntVal
  rw [show (FloatKind.f64.decode (fl a)).toInt .zero = some a from int_rp (read_fl a ha).1]
  have h1 : IntKind.i64.min = -9223372036854775808 := by decide
  have h2 : IntKind.i64.max = 9223372036854775807 := by decide
  simp only [h1, h2]
  rw [if_pos ⟨by omega, by omega⟩]
theorem cmp_eq (a b : Int) : (some (compare a b) == some Ordering.eq) = decide (a = b) := by
  have : compare a b = compareOfLessAndEq a b := rfl
  rw [this]
  unfold compareOfLessAndEq
  by_cases h1 : a < b
  · rw [if_pos h1, decide_eq_false (by omega)]; rfl
  · rw [if_neg h1]
    by_cases h2 : a = b
    · rw [if_pos h2, decide_eq_true h2]; rfl
    · rw [if_neg h2, decide_eq_false h2]; rfl
theorem cmp_lt (a b : Int) : (some (compare a b) == some Ordering.lt) = decide (a < b) := by
  have : compare a b = compareOfLessAndEq a b := rfl
  rw [this]
  unfold compareOfLessAndEq
  by_cases h1 : a < b
  · rw [if_pos h1, decide_eq_true h1]; rfl
  · rw [if_neg h1, decide_eq_false h1]
    by_cases h2 : a = b
    · rw [if_pos h2]; rfl
    · rw [if_neg h2]; rfl
theorem cmp_gt (a b : Int) : (some (compare a b) == some Ordering.gt) = decide (b < a) := by
  have : compare a b = compareOfLessAndEq a b := rfl
  rw [this]
  unfold compareOfLessAndEq
  by_cases h1 : a < b
  · rw [if_pos h1, decide_eq_false (by omega)]; rfl
  · rw [if_neg h1]
    by_cases h2 : a = b
    · rw [if_pos h2, decide_eq_false (by omega)]; rfl
    · rw [if_neg h2, decide_eq_true (by omega)]; rfl
theorem ge_fl {a b : Int} (ha : a.natAbs < 9007199254740992) (hb : b.natAbs < 9007199254740992) : (FloatKind.f64.format.order (fl a) (fl b) == some .gt || FloatKind.f64.format.order (fl a) (fl b) == some .eq) = decide (b ≤ a) := by
  rw [fl_order ha hb, cmp_gt, cmp_eq]
  by_cases h : b < a
  · rw [decide_eq_true h, Bool.true_or, decide_eq_true (by omega)]
  · rw [decide_eq_false h, Bool.false_or]
    exact decide_eq_decide.2 ⟨fun h => by omega, fun h => by omega⟩
theorem le_fl {a b : Int} (ha : a.natAbs < 9007199254740992) (hb : b.natAbs < 9007199254740992) : (FloatKind.f64.format.order (fl a) (fl b) == some .lt || FloatKind.f64.format.order (fl a) (fl b) == some .eq) = decide (a ≤ b) := by
  rw [fl_order ha hb, cmp_lt, cmp_eq]
  by_cases h : a < b
  · rw [decide_eq_true h, Bool.true_or, decide_eq_true (by omega)]
  · rw [decide_eq_false h, Bool.false_or]
    exact decide_eq_decide.2 ⟨fun h => by omega, fun h => by omega⟩
theorem eq_fl {a b : Int} (ha : a.natAbs < 9007199254740992) (hb : b.natAbs < 9007199254740992) : (FloatKind.f64.format.order (fl a) (fl b) == some .eq) = decide (a = b) := by rw [fl_order ha hb, cmp_eq]
theorem fl1 : fl 1 = 4607182418800017408 := by decide +kernel
theorem flM : fl 65552 = 4679241112349573120 := by decide +kernel
end Go.Proofs.Ytmcpfkgahmdkgaa.M
end
section
namespace Go.Proofs.Ytmcpfkgahmdkgaa.Pr
open Go.RowKit Go.Proofs.YtmcpfkgahmdkgaaW.PrintWords Go.Proofs.YtmcpfkgahmdkgaaW.PrintLast Go.Proofs.YtmcpfkgahmdkgaaW.PrintMore
attribute [local go_sem] max2_int min2_int max_two min_two max_three min_three max_four min_four   -- for this text's walks alone
set_option linter.unusedVariables false
set_option linter.unusedSimpArgs false

def errW : Option Int → Value
 | none => .nilIface
 | some c => .iface 0 (.int .i64 c)
theorem errW_none : errW none = .nilIface := rfl
theorem errW_some (c : Int) : errW (some c) = .iface 0 (.int .i64 c) := rfl

-- the values' own types
structure S102 where
 f0 : Int
 f1 : ByteArray
structure S76 where
 f0 : ByteArray
 f1 : ByteArray
structure S77 where
 f0 : ByteArray
 f1 : ByteArray
theorem bA {w W : World} (h : Below w.heap.size w W) (o : Obj) : Below w.heap.size w (W.alloc o) := below_alloc h o
theorem lT {α β : Type} {f : α → β} {l : List α} : l.toArray.map f = (l.map f).toArray := List.map_toArray
theorem lC {α β : Type} {f : α → β} {a : α} {l : List α} : (a :: l).map f = f a :: l.map f := List.map_cons
theorem lN {α β : Type} {f : α → β} : ([] : List α).map f = [] := List.map_nil
theorem bN {B : Nat} {w W : World} (h : Below B w W) (n : Nat) : Below B w (W.drewN n) := pw_below_drewN h n
theorem bD {B : Nat} {w W : World} (h : Below B w W) : Below B w W.drew := below_drew1 h
end Go.Proofs.Ytmcpfkgahmdkgaa.Pr
end
section
namespace Go.Proofs.Ytmcpfkgahmdkgaa.Pr
open Go.RowKit Go.Proofs.YtmcpfkgahmdkgaaW.PrintWords Go.Proofs.YtmcpfkgahmdkgaaW.PrintLast Go.Proofs.YtmcpfkgahmdkgaaW.PrintMore
attribute [local go_sem] max2_int min2_int max_two min_two max_three min_three max_four min_four   -- for this text's walks alone
set_option linter.unusedVariables false
set_option linter.unusedSimpArgs false

def octets_Cut.f (a0 : ByteArray) (a1 : Int) (a2 : Int) : Option (ByteArray) := if a1 < 0 then (some (⟨#[]⟩ : ByteArray)) else (if a1 ≥ (a0.size : Int) then (some (⟨#[]⟩ : ByteArray)) else (if a2 < 1 then (some (⟨#[]⟩ : ByteArray)) else (if 0 ≤ a1 then (if a1 ≤ (wrap64 (a1 + (mn a2 (wrap64 ((a0.size : Int) - a1))))) then (if (wrap64 (a1 + (mn a2 (wrap64 ((a0.size : Int) - a1))))) ≤ (a0.size : Int) then (some (a0.extract (a1 : Int).toNat ((wrap64 (a1 + (mn a2 (wrap64 ((a0.size : Int) - a1))))) : Int).toNat)) else (none)) else (none)) else (none))))
set_option maxHeartbeats 8000000 in
set_option maxRecDepth 100000 in
theorem octets_Cut.calls (a0 : ByteArray) (a1 : Int) (a2 : Int) (r : ByteArray) (w : World) (h : octets_Cut.f a0 a1 a2 = some r) :
  Calls Try.prog 60 #[.string a0, .int .i64 a1, .int .i64 a2] w fun e w' => e = .returned (.string r) ∧ Below w.heap.size w w' := by
 have HB := Aside0.mk (Below.refl w.heap.size w)
 have H : (if a1 < 0 then (some (⟨#[]⟩ : ByteArray)) else (if a1 ≥ (a0.size : Int) then (some (⟨#[]⟩ : ByteArray)) else (if a2 < 1 then (some (⟨#[]⟩ : ByteArray)) else (if 0 ≤ a1 then (if a1 ≤ (wrap64 (a1 + (mn a2 (wrap64 ((a0.size : Int) - a1))))) then (if (wrap64 (a1 + (mn a2 (wrap64 ((a0.size : Int) - a1))))) ≤ (a0.size : Int) then (some (a0.extract (a1 : Int).toNat ((wrap64 (a1 + (mn a2 (wrap64 ((a0.size : Int) - a1))))) : Int).toNat)) else (none)) else (none)) else (none))))) = some r := h
 clear h
 by_cases c4 : a1 < 0
 ·rw [if_pos c4] at H
  have c4b0 : decide (a1 < 0) = true := decide_eq_true c4
  clear c4
  obtain rfl := Option.some.inj H
  go_enter Try.func60, Try.ntmps60
  go_wp2
  go_ret
  exact ⟨by first | rfl | (simp [*, errW_none, errW_some] <;> rfl), by repeat first | with_reducible (first | exact HB.out | apply bA | apply bN | apply bD) | exact HB.out⟩
 ·rw [if_neg c4] at H
  have c4b0 : decide (a1 < 0) = false := decide_eq_false c4
  clear c4
  by_cases c5 : a1 ≥ (a0.size : Int)
  ·rw [if_pos c5] at H
   have c5b0 : decide ((a0.size : Int) ≤ a1) = true := decide_eq_true c5
   clear c5
   obtain rfl := Option.some.inj H
   go_enter Try.func60, Try.ntmps60
   go_wp2
   go_ret
   exact ⟨by first | rfl | (simp [*, errW_none, errW_some] <;> rfl), by repeat first | with_reducible (first | exact HB.out | apply bA | apply bN | apply bD) | exact HB.out⟩
  ·rw [if_neg c5] at H
   have c5b0 : decide ((a0.size : Int) ≤ a1) = false := decide_eq_false c5
   clear c5
   by_cases c6 : a2 < 1
   ·rw [if_pos c6] at H
    have c6b0 : decide (a2 < 1) = true := decide_eq_true c6
    clear c6
    obtain rfl := Option.some.inj H
    go_enter Try.func60, Try.ntmps60
    go_wp2
    go_ret
    exact ⟨by first | rfl | (simp [*, errW_none, errW_some] <;> rfl), by repeat first | with_reducible (first | exact HB.out | apply bA | apply bN | apply bD) | exact HB.out⟩
   ·rw [if_neg c6] at H
    have c6b0 : decide (a2 < 1) = false := decide_eq_false c6
    clear c6
    obtain ⟨ji7, hji7⟩ : ∃ j_ : Int, (mn a2 (wrap64 ((a0.size : Int) - a1))) = j_ := ⟨_, rfl⟩
    replace H : (if 0 ≤ a1 then (if a1 ≤ (wrap64 (a1 + (ji7))) then (if (wrap64 (a1 + (ji7))) ≤ (a0.size : Int) then (some (a0.extract (a1 : Int).toNat ((wrap64 (a1 + (ji7))) : Int).toNat)) else (none)) else (none)) else (none)) = some r := by first | (rw [hji7] at H; exact H) | (simp only [hji7] at H ⊢; exact H)
    have hji7_ : (if (wrap64 ((a0.size : Int) - a1)) < a2 then (wrap64 ((a0.size : Int) - a1)) else a2) = ji7 := hji7
    by_cases c8 : 0 ≤ a1
    ·rw [if_pos c8] at H
     have c8b0 := eq_true c8
     have c8b1 : decide (0 ≤ a1) = true := decide_eq_true c8
     clear c8
     by_cases c9 : a1 ≤ (wrap64 (a1 + (ji7)))
     ·rw [if_pos c9] at H
      have c9b0 := eq_true c9
      have c9b1 : decide (a1 ≤ (wrap64 (a1 + (ji7)))) = true := decide_eq_true c9
      by_cases c10 : (wrap64 (a1 + (ji7))) ≤ (a0.size : Int)
      ·rw [if_pos c10] at H
       have c10b0 := eq_true c10
       have c10b1 : decide ((wrap64 (a1 + (ji7))) ≤ (a0.size : Int)) = true := decide_eq_true c10
       obtain rfl := Option.some.inj H
       go_enter Try.func60, Try.ntmps60
       go_wp2
       go_ret
       exact ⟨by first | rfl | (simp [errW_none, errW_some] <;> rfl) | (simp only [← hji7]; first | rfl | (simp [errW_none, errW_some] <;> rfl)) | (simp [*, errW_none, errW_some] <;> rfl), by repeat first | with_reducible (first | exact HB.out | apply bA | apply bN | apply bD) | exact HB.out⟩
      ·rw [if_neg c10] at H
       exact absurd H (by simp)
     ·rw [if_neg c9] at H
      exact absurd H (by simp)
    ·rw [if_neg c8] at H
     exact absurd H (by simp)

mutual
def clavigerref01_Put.j0 : Nat → Int → Int → Bool → Option (ByteArray)
 | 0, _, _, _ => none
 | k + 1, x0, x1, x12 => if x12 = true then (some (⟨#[]⟩ : ByteArray)) else (clavigerref01_Put.l0 k x0 x1 (⟨#[]⟩ : ByteArray) 0)
def clavigerref01_Put.l0 : Nat → Int → Int → ByteArray → Int → Option (ByteArray)
 | 0, _, _, _, _ => none
 | k + 1, x0, x1, x5, x6 => if x6 < x1 then ((some (([(Int.tmod x0 256) % 256] : List Int) : List Int)).bind fun y1 => (if (strOfNums y1).size + x5.size ≤ 9223372036854775807 then (clavigerref01_Put.l0 k (IntKind.u64.wrap (Int.tdiv x0 256)) x1 ((strOfNums y1) ++ x5) (wrap64 (x6 + 1))) else (none))) else (some x5)
end
def clavigerref01_Put.f (k : Nat) (a0 : Int) (a1 : Int) : Option (ByteArray) := if a1 < 1 then (clavigerref01_Put.j0 k a0 a1 true) else (clavigerref01_Put.j0 k a0 a1 (decide (a1 > 8)))
theorem clavigerref01_Put.mono_l : ∀ k, (∀ y2 y3 y4, LeO (clavigerref01_Put.j0 k y2 y3 y4) (clavigerref01_Put.j0 (k + 1) y2 y3 y4)) ∧ (∀ y2 y3 y4 y5, LeO (clavigerref01_Put.l0 k y2 y3 y4 y5) (clavigerref01_Put.l0 (k + 1) y2 y3 y4 y5))
 | 0 => ⟨fun _ _ _ r h => by simp [clavigerref01_Put.j0] at h, fun _ _ _ _ r h => by simp [clavigerref01_Put.l0] at h⟩
 | k + 1 => by
  obtain ⟨ih0, ih1⟩ := clavigerref01_Put.mono_l k
  refine ⟨?_, ?_⟩
  ·intro y2 y3 y4
   unfold clavigerref01_Put.j0
   repeat' first
   | (with_reducible exact ih0 _ _ _)
   | (with_reducible exact ih1 _ _ _ _)
   | (with_reducible exact LeO.refl _)
   | (with_reducible exact LeO.none _)
   | (with_reducible refine LeO.ite ?_ ?_)
   | (with_reducible refine LeO.bind ?_ (fun _ => ?_))
  ·intro y2 y3 y4 y5
   unfold clavigerref01_Put.l0
   repeat' first
   | (with_reducible exact ih0 _ _ _)
   | (with_reducible exact ih1 _ _ _ _)
   | (with_reducible exact LeO.refl _)
   | (with_reducible exact LeO.none _)
   | (with_reducible refine LeO.ite ?_ ?_)
   | (with_reducible refine LeO.bind ?_ (fun _ => ?_))
theorem clavigerref01_Put.mono : ∀ a0 a1 k, LeO (clavigerref01_Put.f k a0 a1) (clavigerref01_Put.f (k + 1) a0 a1) := by
 intro a0 a1 k
 obtain ⟨ih0, ih1⟩ := clavigerref01_Put.mono_l k
 unfold clavigerref01_Put.f
 repeat' first
   | (with_reducible exact ih0 _ _ _)
   | (with_reducible exact ih1 _ _ _ _)
   | (with_reducible exact LeO.refl _)
   | (with_reducible exact LeO.none _)
   | (with_reducible refine LeO.ite ?_ ?_)
   | (with_reducible refine LeO.bind ?_ (fun _ => ?_))
mutual
def clavigerref01_Get.j0 : Nat → ByteArray → Bool → Option (Int × Bool)
 | 0, _, _ => none
 | k + 1, x0, x13 => if x13 = true then (some (0, false)) else (clavigerref01_Get.l0 k x0 0 0)
def clavigerref01_Get.l0 : Nat → ByteArray → Int → Int → Option (Int × Bool)
 | 0, _, _, _ => none
 | k + 1, x0, x4, x5 => if x5 < (x0.size : Int) then (if 0 ≤ x5 then (clavigerref01_Get.l0 k x0 (IntKind.u64.wrap ((IntKind.u64.wrap (x4 * 256)) + (IntKind.u64.wrap (bt x0 x5)))) (wrap64 (x5 + 1))) else (none)) else (some (x4, true))
end
def clavigerref01_Get.f (k : Nat) (a0 : ByteArray) : Option (Int × Bool) := if (a0.size : Int) < 1 then (clavigerref01_Get.j0 k a0 true) else (clavigerref01_Get.j0 k a0 (decide ((a0.size : Int) > 8)))
theorem clavigerref01_Get.mono_l : ∀ k, (∀ y1 y2, LeO (clavigerref01_Get.j0 k y1 y2) (clavigerref01_Get.j0 (k + 1) y1 y2)) ∧ (∀ y1 y2 y3, LeO (clavigerref01_Get.l0 k y1 y2 y3) (clavigerref01_Get.l0 (k + 1) y1 y2 y3))
 | 0 => ⟨fun _ _ r h => by simp [clavigerref01_Get.j0] at h, fun _ _ _ r h => by simp [clavigerref01_Get.l0] at h⟩
 | k + 1 => by
  obtain ⟨ih0, ih1⟩ := clavigerref01_Get.mono_l k
  refine ⟨?_, ?_⟩
  ·intro y1 y2
   unfold clavigerref01_Get.j0
   repeat' first
   | (with_reducible exact ih0 _ _)
   | (with_reducible exact ih1 _ _ _)
   | (with_reducible exact LeO.refl _)
   | (with_reducible exact LeO.none _)
   | (with_reducible refine LeO.ite ?_ ?_)
   | (with_reducible refine LeO.bind ?_ (fun _ => ?_))
  ·intro y1 y2 y3
   unfold clavigerref01_Get.l0
   repeat' first
   | (with_reducible exact ih0 _ _)
   | (with_reducible exact ih1 _ _ _)
   | (with_reducible exact LeO.refl _)
   | (with_reducible exact LeO.none _)
   | (with_reducible refine LeO.ite ?_ ?_)
   | (with_reducible refine LeO.bind ?_ (fun _ => ?_))
theorem clavigerref01_Get.mono : ∀ a0 k, LeO (clavigerref01_Get.f k a0) (clavigerref01_Get.f (k + 1) a0) := by
 intro a0 k
 obtain ⟨ih0, ih1⟩ := clavigerref01_Get.mono_l k
 unfold clavigerref01_Get.f
 repeat' first
   | (with_reducible exact ih0 _ _)
   | (with_reducible exact ih1 _ _ _)
   | (with_reducible exact LeO.refl _)
   | (with_reducible exact LeO.none _)
   | (with_reducible refine LeO.ite ?_ ?_)
   | (with_reducible refine LeO.bind ?_ (fun _ => ?_))
mutual
def octets_Get.j0 : Nat → ByteArray → Bool → Option (Int × Bool)
 | 0, _, _ => none
 | k + 1, x0, x13 => if x13 = true then (some (0, false)) else (octets_Get.l0 k x0 0 (x0.size : Int) 0)
def octets_Get.l0 : Nat → ByteArray → Int → Int → Int → Option (Int × Bool)
 | 0, _, _, _, _ => none
 | k + 1, x0, x4, x15, x16 => if x16 < x15 then (if 0 ≤ x16 then (if x16 < (x0.size : Int) then (octets_Get.l0 k x0 (Go.bits .or .u64 (IntKind.u64.wrap (x4 * 256)) (IntKind.u64.wrap (bt x0 x16))) x15 (wrap64 (x16 + 1))) else (none)) else (none)) else (some (x4, true))
end
def octets_Get.f (k : Nat) (a0 : ByteArray) : Option (Int × Bool) := if (a0.size : Int) = 0 then (octets_Get.j0 k a0 true) else (octets_Get.j0 k a0 (decide ((a0.size : Int) > 8)))
theorem octets_Get.mono_l : ∀ k, (∀ y1 y2, LeO (octets_Get.j0 k y1 y2) (octets_Get.j0 (k + 1) y1 y2)) ∧ (∀ y1 y2 y3 y4, LeO (octets_Get.l0 k y1 y2 y3 y4) (octets_Get.l0 (k + 1) y1 y2 y3 y4))
 | 0 => ⟨fun _ _ r h => by simp [octets_Get.j0] at h, fun _ _ _ _ r h => by simp [octets_Get.l0] at h⟩
 | k + 1 => by
  obtain ⟨ih0, ih1⟩ := octets_Get.mono_l k
  refine ⟨?_, ?_⟩
  ·intro y1 y2
   unfold octets_Get.j0
   repeat' first
   | (with_reducible exact ih0 _ _)
   | (with_reducible exact ih1 _ _ _ _)
   | (with_reducible exact LeO.refl _)
   | (with_reducible exact LeO.none _)
   | (with_reducible refine LeO.ite ?_ ?_)
   | (with_reducible refine LeO.bind ?_ (fun _ => ?_))
  ·intro y1 y2 y3 y4
   unfold octets_Get.l0
   repeat' first
   | (with_reducible exact ih0 _ _)
   | (with_reducible exact ih1 _ _ _ _)
   | (with_reducible exact LeO.refl _)
   | (with_reducible exact LeO.none _)
   | (with_reducible refine LeO.ite ?_ ?_)
   | (with_reducible refine LeO.bind ?_ (fun _ => ?_))
theorem octets_Get.mono : ∀ a0 k, LeO (octets_Get.f k a0) (octets_Get.f (k + 1) a0) := by
 intro a0 k
 obtain ⟨ih0, ih1⟩ := octets_Get.mono_l k
 unfold octets_Get.f
 repeat' first
   | (with_reducible exact ih0 _ _)
   | (with_reducible exact ih1 _ _ _ _)
   | (with_reducible exact LeO.refl _)
   | (with_reducible exact LeO.none _)
   | (with_reducible refine LeO.ite ?_ ?_)
   | (with_reducible refine LeO.bind ?_ (fun _ => ?_))
end Go.Proofs.Ytmcpfkgahmdkgaa.Pr
end
section
namespace Go.Proofs.Ytmcpfkgahmdkgaa.M
open Go
/-- Two numbers that are a span. -/
def mayP (a b : Int) : Prop := 0 ≤ a ∧ a ≤ b ∧ b ≤ 65552
instance (a b : Int) : Decidable (mayP a b) := by unfold mayP; exact inferInstance
end Go.Proofs.Ytmcpfkgahmdkgaa.M
namespace Go.Proofs.Ytmcpfkgahmdkgaa.Pr
open Go.RowKit Go.Proofs.YtmcpfkgahmdkgaaW.PrintWords Go.Proofs.YtmcpfkgahmdkgaaW.PrintLast Go.Proofs.YtmcpfkgahmdkgaaW.PrintMore
theorem whole_c (n : Int) (r : Bool) (w : World) (hr : r = decide (0 ≤ n ∧ n ≤ 65552)) (hn : n.natAbs < 1000000000) :
    Calls Try.prog 59 #[.float .f64 (M.fl n)] w fun e w' => e = .returned (.bool r) ∧ w' = w := by
  have g0 := M.ge_fl (a := n) (b := 0) (by omega) (by omega)
  have g1 := M.le_fl (a := n) (b := 65552) (by omega) (by omega)
  have g2 := M.eq_fl (a := n) (b := n) (by omega) (by omega)
  rw [M.fl0] at g0
  rw [M.flM] at g1
  rw [decide_eq_true rfl] at g2
  have hcv := run_convert_float_int (P := Try.prog) w 40 3 .f64 .i64 (M.fl n) n (by rw [Try.underlying40]; rfl) Try.underlying3 (M.fl_int (by omega))
  have hcf : (convert 3 40 (.int .i64 n)).run Try.prog w = .ok (.float .f64 (M.fl n)) w := run_convert_int_float w 3 40 .i64 .f64 n (by rw [Try.underlying3]; rfl) Try.underlying40
  generalize M.fl n = x at *
  by_cases h0 : 0 ≤ n
  · rw [decide_eq_true h0] at g0
    by_cases h1 : n ≤ 65552
    · rw [decide_eq_true h1] at g1
      rw [decide_eq_true ⟨h0, h1⟩] at hr
      subst hr
      clear h0 h1 hn
      go_enter Try.func59, Try.ntmps59
      go_wp2
      go_ret
      exact ⟨rfl, rfl⟩
    · rw [decide_eq_false h1] at g1
      rw [decide_eq_false (fun h => h1 h.2)] at hr
      subst hr
      clear h0 h1 hn
      go_enter Try.func59, Try.ntmps59
      go_wp2
      go_ret
      exact ⟨rfl, rfl⟩
  · rw [decide_eq_false h0] at g0
    rw [decide_eq_false (fun h => h0 h.1)] at hr
    subst hr
    clear h0 hn
    go_enter Try.func59, Try.ntmps59
    go_wp2
    go_ret
    exact ⟨rfl, rfl⟩
/-- A part that is told. -/
theorem whole_t {n : Int} (h : 0 ≤ n ∧ n ≤ 65552) (w : World) : Calls Try.prog 59 #[.float .f64 (M.fl n)] w fun e w' => e = .returned (.bool true) ∧ w' = w := whole_c n true w (decide_eq_true h).symm (by omega)
theorem whole_f {n : Int} (h : ¬ (0 ≤ n ∧ n ≤ 65552)) (hn : n.natAbs < 1000000000) (w : World) : Calls Try.prog 59 #[.float .f64 (M.fl n)] w fun e w' => e = .returned (.bool false) ∧ w' = w := whole_c n false w (decide_eq_false h).symm hn
theorem may_c (a b : Int) (r : Bool) (w : World) (hr : r = decide (M.mayP a b)) (ha : a.natAbs < 1000000000) (hb : b.natAbs < 1000000000) :
    Calls Try.prog 21 #[.complex .f64 (M.fl a) (M.fl b)] w fun e w' => e = .returned (.bool r) ∧ w' = w := by
  by_cases h0 : 0 ≤ a ∧ a ≤ 65552
  · have H0 := Aside0.mk (whole_t h0)
    by_cases h1 : 0 ≤ b ∧ b ≤ 65552
    · have H1 := Aside0.mk (whole_t h1)
      have g1 := M.le_fl (a := a) (b := b) (by omega) (by omega)
      have e : decide (a ≤ b) = r := by
        rw [hr]
        exact decide_eq_decide.2 ⟨fun h => ⟨h0.1, h, h1.2⟩, fun h => h.2.1⟩
      rw [e] at g1
      clear e hr h0 h1 ha hb
      go_enter Try.func21, Try.ntmps21
      go_wp2_with (first
        | (go_at_call 59; (with_reducible refine (H0.out _).mono ?_); rintro e w' ⟨rfl, hw'⟩; have hw2 := hw'.symm; subst hw2)
        | (go_at_call 59; (with_reducible refine (H1.out _).mono ?_); rintro e w' ⟨rfl, hw'⟩; have hw2 := hw'.symm; subst hw2))
      go_ret
      exact ⟨rfl, rfl⟩
    · have H1 := Aside0.mk (whole_f h1 hb)
      obtain rfl : r = false := by rw [hr]; exact decide_eq_false (fun h => h1 ⟨by have := h.1; have := h.2.1; omega, h.2.2⟩)
      clear hr h0 h1 ha hb
      go_enter Try.func21, Try.ntmps21
      go_wp2_with (first
        | (go_at_call 59; (with_reducible refine (H0.out _).mono ?_); rintro e w' ⟨rfl, hw'⟩; have hw2 := hw'.symm; subst hw2)
        | (go_at_call 59; (with_reducible refine (H1.out _).mono ?_); rintro e w' ⟨rfl, hw'⟩; have hw2 := hw'.symm; subst hw2))
      go_ret
      exact ⟨rfl, rfl⟩
  · have H0 := Aside0.mk (whole_f h0 ha)
    obtain rfl : r = false := by rw [hr]; exact decide_eq_false (fun h => h0 ⟨h.1, by have := h.2.1; have := h.2.2; omega⟩)
    clear hr h0 ha hb
    go_enter Try.func21, Try.ntmps21
    go_wp2_with (go_at_call 59; (with_reducible refine (H0.out _).mono ?_); rintro e w' ⟨rfl, hw'⟩; have hw2 := hw'.symm; subst hw2)
    go_ret
    exact ⟨rfl, rfl⟩
theorem may_t {a b : Int} (h : M.mayP a b) (w : World) : Calls Try.prog 21 #[.complex .f64 (M.fl a) (M.fl b)] w fun e w' => e = .returned (.bool true) ∧ w' = w := by
  have h0 := h.1; have h1 := h.2.1; have h2 := h.2.2
  exact may_c a b true w (decide_eq_true h).symm (by omega) (by omega)
theorem add0 (n : Int) (hn : n.natAbs < 1000000000) (w : World) : (binOp .add 40 (.float .f64 (M.fl n)) (.float .f64 0)).run Try.prog w = .ok (.float .f64 (M.fl n)) w := by
  have h := M.fl_add (a := n) (b := 0) (by omega) (by omega) (by omega)
  rw [M.fl0, Int.add_zero] at h
  exact run_float_arith w .add 40 .f64 _ _ _ h
theorem toI (n : Int) (hn : n.natAbs < 1000000000) (w : World) : (convert 40 3 (.float .f64 (M.fl n))).run Try.prog w = .ok (.int .i64 n) w :=
  run_convert_float_int w 40 3 .f64 .i64 (M.fl n) n (by rw [Try.underlying40]; rfl) Try.underlying3 (M.fl_int (by omega))
theorem toF (n : Int) (w : World) : (convert 3 40 (.int .i64 n)).run Try.prog w = .ok (.float .f64 (M.fl n)) w := run_convert_int_float w 3 40 .i64 .f64 n (by rw [Try.underlying3]; rfl) Try.underlying40
theorem sure_t {a b : Int} (h : M.mayP a b) (w : World) : Calls Try.prog 58 #[.complex .f64 (M.fl a) (M.fl b)] w fun e w' => e = .returned (.complex .f64 (M.fl a) (M.fl b)) ∧ w' = w := by
  have H0 := Aside0.mk (may_t h)
  have g0 := add0 a (by have := h.1; have := h.2.1; have := h.2.2; omega)
  have g1 := add0 b (by have := h.1; have := h.2.1; have := h.2.2; omega)
  clear h
  go_enter Try.func58, Try.ntmps58
  go_wp2_with (go_at_call 21; (with_reducible refine (H0.out _).mono ?_); rintro e w' ⟨rfl, hw'⟩; have hw2 := hw'.symm; subst hw2)
  go_ret
  exact ⟨rfl, rfl⟩
theorem sure_f {a b : Int} (h : ¬ M.mayP a b) (ha : a.natAbs < 1000000000) (hb : b.natAbs < 1000000000) (w : World) : Calls Try.prog 58 #[.complex .f64 (M.fl a) (M.fl b)] w fun e w' => e = .returned (.complex .f64 0 0) ∧ w' = w := by
  have H0 := Aside0.mk (fun w => may_c a b false w (decide_eq_false h).symm ha hb)
  clear h ha hb
  go_enter Try.func58, Try.ntmps58
  go_wp2_with (go_at_call 21; (with_reducible refine (H0.out _).mono ?_); rintro e w' ⟨rfl, hw'⟩; have hw2 := hw'.symm; subst hw2)
  go_ret
  exact ⟨rfl, rfl⟩
theorem from_c {a b : Int} (h : M.mayP a b) (w : World) : Calls Try.prog 19 #[.complex .f64 (M.fl a) (M.fl b)] w fun e w' => e = .returned (.int .i64 a) ∧ w' = w := by
  have H0 := Aside0.mk (sure_t h)
  have g0 := toI a (by have := h.1; have := h.2.1; have := h.2.2; omega)
  clear h
  go_enter Try.func19, Try.ntmps19
  go_wp2_with (go_at_call 58; (with_reducible refine (H0.out _).mono ?_); rintro e w' ⟨rfl, hw'⟩; have hw2 := hw'.symm; subst hw2)
  go_ret
  exact ⟨rfl, rfl⟩
theorem to_c {a b : Int} (h : M.mayP a b) (w : World) : Calls Try.prog 20 #[.complex .f64 (M.fl a) (M.fl b)] w fun e w' => e = .returned (.int .i64 b) ∧ w' = w := by
  have H0 := Aside0.mk (sure_t h)
  have g0 := toI b (by have := h.1; have := h.2.1; have := h.2.2; omega)
  clear h
  go_enter Try.func20, Try.ntmps20
  go_wp2_with (go_at_call 58; (with_reducible refine (H0.out _).mono ?_); rintro e w' ⟨rfl, hw'⟩; have hw2 := hw'.symm; subst hw2)
  go_ret
  exact ⟨rfl, rfl⟩
attribute [local go_sem] max2_int min2_int max_two min_two
/-- The span from there to there, or none. -/
theorem of_t {a b : Int} (h : M.mayP a b) (w : World) : Calls Try.prog 15 #[.int .i64 a, .int .i64 b] w fun e w' => e = .returned (.complex .f64 (M.fl a) (M.fl b)) ∧ w' = w := by
  have H0 := Aside0.mk (sure_t h)
  have g0 := toF a
  have g1 := toF b
  have hh := h
  obtain ⟨h0, h1, h2⟩ := h
  have e1 : decide (a < 0) = false := decide_eq_false (by omega)
  have e2 : decide (b < 0) = false := decide_eq_false (by omega)
  have e3 : decide (65552 < a) = false := decide_eq_false (by omega)
  have e4 : decide (65552 < b) = false := decide_eq_false (by omega)
  clear hh
  go_enter Try.func15, Try.ntmps15
  go_wp2_with (go_at_call 58; (with_reducible refine (H0.out _).mono ?_); rintro e w' ⟨rfl, hw'⟩; have hw2 := hw'.symm; subst hw2)
  all_goals
    go_ret
    exact ⟨rfl, rfl⟩
set_option maxRecDepth 100000 in
theorem of_f {a b : Int} (h : ¬ M.mayP a b) (w : World) : Calls Try.prog 15 #[.int .i64 a, .int .i64 b] w fun e w' => e = .returned (.complex .f64 0 0) ∧ w' = w := by
  by_cases h0 : 0 ≤ a ∧ 0 ≤ b ∧ a ≤ 65552 ∧ b ≤ 65552
  · have H0 := Aside0.mk (sure_f h (by omega) (by omega))
    have g0 := toF a
    have g1 := toF b
    obtain ⟨h0, h1, h2, h3⟩ := h0
    have e1 : decide (a < 0) = false := decide_eq_false (by omega)
    have e2 : decide (b < 0) = false := decide_eq_false (by omega)
    have e3 : decide (65552 < a) = false := decide_eq_false (by omega)
    have e4 : decide (65552 < b) = false := decide_eq_false (by omega)
    clear h
    go_enter Try.func15, Try.ntmps15
    go_wp2_with (go_at_call 58; (with_reducible refine (H0.out _).mono ?_); rintro e w' ⟨rfl, hw'⟩; have hw2 := hw'.symm; subst hw2)
    all_goals
      go_ret
      exact ⟨rfl, rfl⟩
  · clear h
    by_cases c1 : a < 0
    · have e1 : decide (a < 0) = true := decide_eq_true c1
      by_cases c2 : b < 0
      · have e2 : decide (b < 0) = true := decide_eq_true c2
        clear h0
        go_enter Try.func15, Try.ntmps15
        go_wp2
        all_goals
          go_ret
          exact ⟨rfl, rfl⟩
      · have e2 : decide (b < 0) = false := decide_eq_false c2
        have c3 : a ≤ b := by omega
        clear h0
        go_enter Try.func15, Try.ntmps15
        go_wp2
        all_goals
          go_ret
          exact ⟨rfl, rfl⟩
    · have e1 : decide (a < 0) = false := decide_eq_false c1
      by_cases c2 : b < 0
      · have e2 : decide (b < 0) = true := decide_eq_true c2
        have c3 : b < a := by omega
        have c4 : ¬ a ≤ b := by omega
        clear h0
        go_enter Try.func15, Try.ntmps15
        go_wp2
        all_goals
          go_ret
          exact ⟨rfl, rfl⟩
      · have e2 : decide (b < 0) = false := decide_eq_false c2
        by_cases c3 : a ≤ b
        · have e3 : decide (65552 < b) = true := decide_eq_true (by omega)
          by_cases c6 : a = b
          · subst c6
            clear h0 c1 c2 c3
            go_enter Try.func15, Try.ntmps15
            go_wp2
            all_goals
              go_ret
              exact ⟨rfl, rfl⟩
          · have c4 : a < b := by omega
            have c5 : ¬ b ≤ a := by omega
            clear h0 c1 c2 c6
            go_enter Try.func15, Try.ntmps15
            go_wp2
            all_goals
              go_ret
              exact ⟨rfl, rfl⟩
        · have e3 : decide (65552 < a) = true := decide_eq_true (by omega)
          have c4 : b < a := by omega
          have c5 : b ≤ a := by omega
          clear h0
          go_enter Try.func15, Try.ntmps15
          go_wp2
          all_goals
            go_ret
            exact ⟨rfl, rfl⟩
/-- A span that is moved, or none. -/
theorem shift_t {a b n : Int} (h : M.mayP a b) (hn : -65552 ≤ n ∧ n ≤ 65552) (hs : M.mayP (a + n) (b + n)) (w : World) : Calls Try.prog 18 #[.complex .f64 (M.fl a) (M.fl b), .int .i64 n] w fun e w' => e = .returned (.complex .f64 (M.fl (a + n)) (M.fl (b + n))) ∧ w' = w := by
  have H0 := Aside0.mk (may_t h)
  have H1 := Aside0.mk (sure_t hs)
  obtain ⟨h0, h1, h2⟩ := h
  have g0 := toF n
  have g1 := M.fl_add (a := a) (b := n) (by omega) (by omega) (by omega)
  have g2 := M.fl_add (a := b) (b := n) (by omega) (by omega) (by omega)
  have g3 := fun w => run_complex_sum (P := Try.prog) w .add (.inl rfl) 23 .f64 (M.fl a) (M.fl b) (M.fl n) (M.fl n) (M.fl (a + n)) (M.fl (b + n)) (by unfold cSumBits; rw [g1, g2]; rfl)
  have e1 : decide (n < -65552) = false := decide_eq_false (by omega)
  have e2 : decide (65552 < n) = false := decide_eq_false (by omega)
  clear hs hn g1 g2 h0 h1 h2
  go_enter Try.func18, Try.ntmps18
  go_wp2_with (first
    | (go_at_call 21; (with_reducible refine (H0.out _).mono ?_); rintro e w' ⟨rfl, hw'⟩; have hw2 := hw'.symm; subst hw2)
    | (go_at_call 58; (with_reducible refine (H1.out _).mono ?_); rintro e w' ⟨rfl, hw'⟩; have hw2 := hw'.symm; subst hw2))
  go_ret
  exact ⟨rfl, rfl⟩
theorem inside_c {a b c d : Int} (h : M.mayP a b) (h' : M.mayP c d) (r : Bool) (hr : r = decide (c ≤ a ∧ b ≤ d)) (w : World) : Calls Try.prog 24 #[.complex .f64 (M.fl a) (M.fl b), .complex .f64 (M.fl c) (M.fl d)] w fun e w' => e = .returned (.bool r) ∧ w' = w := by
  have H0 := Aside0.mk (may_t h)
  have H1 := Aside0.mk (may_t h')
  obtain ⟨h0, h1, h2⟩ := h
  obtain ⟨h3, h4, h5⟩ := h'
  have g0 := M.ge_fl (a := a) (b := c) (by omega) (by omega)
  have g1 := M.le_fl (a := b) (b := d) (by omega) (by omega)
  clear h0 h1 h2 h3 h4 h5
  by_cases c1 : c ≤ a
  · rw [decide_eq_true c1] at g0
    have e : decide (b ≤ d) = r := by rw [hr]; exact decide_eq_decide.2 ⟨fun h => ⟨c1, h⟩, fun h => h.2⟩
    rw [e] at g1
    clear e hr c1
    go_enter Try.func24, Try.ntmps24
    go_wp2_with (first
      | (go_at_call 21; (with_reducible refine (H0.out _).mono ?_); rintro e w' ⟨rfl, hw'⟩; have hw2 := hw'.symm; subst hw2)
      | (go_at_call 21; (with_reducible refine (H1.out _).mono ?_); rintro e w' ⟨rfl, hw'⟩; have hw2 := hw'.symm; subst hw2))
    go_ret
    exact ⟨rfl, rfl⟩
  · rw [decide_eq_false c1] at g0
    obtain rfl : r = false := by rw [hr]; exact decide_eq_false (fun h => c1 h.1)
    clear hr c1 g1
    go_enter Try.func24, Try.ntmps24
    go_wp2_with (first
      | (go_at_call 21; (with_reducible refine (H0.out _).mono ?_); rintro e w' ⟨rfl, hw'⟩; have hw2 := hw'.symm; subst hw2)
      | (go_at_call 21; (with_reducible refine (H1.out _).mono ?_); rintro e w' ⟨rfl, hw'⟩; have hw2 := hw'.symm; subst hw2))
    go_ret
    exact ⟨rfl, rfl⟩
theorem apart_c {a b c d : Int} (h : M.mayP a b) (h' : M.mayP c d) (r : Bool) (hr : r = decide (b ≤ c ∨ d ≤ a)) (w : World) : Calls Try.prog 26 #[.complex .f64 (M.fl a) (M.fl b), .complex .f64 (M.fl c) (M.fl d)] w fun e w' => e = .returned (.bool r) ∧ w' = w := by
  have H0 := Aside0.mk (may_t h)
  have H1 := Aside0.mk (may_t h')
  obtain ⟨h0, h1, h2⟩ := h
  obtain ⟨h3, h4, h5⟩ := h'
  have g0 := M.le_fl (a := b) (b := c) (by omega) (by omega)
  have g1 := M.le_fl (a := d) (b := a) (by omega) (by omega)
  clear h0 h1 h2 h3 h4 h5
  by_cases c1 : b ≤ c
  · rw [decide_eq_true c1] at g0
    obtain rfl : r = true := by rw [hr]; exact decide_eq_true (.inl c1)
    clear hr c1 g1
    go_enter Try.func26, Try.ntmps26
    go_wp2_with (first
      | (go_at_call 21; (with_reducible refine (H0.out _).mono ?_); rintro e w' ⟨rfl, hw'⟩; have hw2 := hw'.symm; subst hw2)
      | (go_at_call 21; (with_reducible refine (H1.out _).mono ?_); rintro e w' ⟨rfl, hw'⟩; have hw2 := hw'.symm; subst hw2))
    go_ret
    exact ⟨rfl, rfl⟩
  · rw [decide_eq_false c1] at g0
    have e : decide (d ≤ a) = r := by rw [hr]; exact decide_eq_decide.2 ⟨fun h => .inr h, fun h => h.resolve_left c1⟩
    rw [e] at g1
    clear e hr c1
    go_enter Try.func26, Try.ntmps26
    go_wp2_with (first
      | (go_at_call 21; (with_reducible refine (H0.out _).mono ?_); rintro e w' ⟨rfl, hw'⟩; have hw2 := hw'.symm; subst hw2)
      | (go_at_call 21; (with_reducible refine (H1.out _).mono ?_); rintro e w' ⟨rfl, hw'⟩; have hw2 := hw'.symm; subst hw2))
    go_ret
    exact ⟨rfl, rfl⟩
end Go.Proofs.Ytmcpfkgahmdkgaa.Pr
end
section
namespace Go.Proofs.Ytmcpfkgahmdkgaa.M
open Go.RowKit Go.Proofs.Ytmcpfkgahmdkgaa.Pr Go.Proofs.YtmcpfkgahmdkgaaW.PrintWords Go.Proofs.YtmcpfkgahmdkgaaW.PrintLast Go.Proofs.YtmcpfkgahmdkgaaW.PrintMore
theorem wrap_id {x : Int} (h0 : -9223372036854775808 ≤ x) (h1 : x ≤ 9223372036854775807) : wrap64 x = x := by unfold wrap64; omega
end Go.Proofs.Ytmcpfkgahmdkgaa.M
end
