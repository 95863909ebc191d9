-- several texts in one (by the session's program shake.py)
import Derived.Test.YtokkhnjedmlbhaaZPrg01x
import Derived.Test.YtokkhnjedmlbhaaZPrg05
import Derived.Laws.BitsAllLaws
import Derived.Shelf.Strings.OnBuilder
import Derived.Shelf.Strings.BuilderK
import Derived.Shelf.Strings.Repeat
import Derived.Test.YtokkhnjedmlbhaaProg
import Derived.Lib.Strings
import Derived.Lib.Slices
import Derived.Lib.Walk
import Derived.Lib.Builder
import Derived.Lib.AppendStr
import Derived.Lib.UnsafeStr
import Derived.Lib.MakeNoZero
import Derived.Laws.Externs
import Derived.Test.YtokkhnjedmlbhaaZPrg06
import Derived.Test.YtokkhnjedmlbhaaZPut
import Derived.RegionTactic
import Derived.ChangeAlike
section
namespace Go.Proofs.Ytokkhnjedmlbhaa.Pr
open Go.RowKit Go.Proofs.YtokkhnjedmlbhaaW.PrintWords Go.Proofs.YtokkhnjedmlbhaaW.PrintLast Go.Proofs.YtokkhnjedmlbhaaW.PrintMore
def at0 (s : ByteArray) (i : Int) : Int := if i < (s.size : Int) then bt s i else 0
def at1 (s : ByteArray) (i : Int) : Int := if i < (s.size : Int) then 1 else 0
set_option maxHeartbeats 400000 in
theorem equal_at.calls (s : ByteArray) (i : Int) (w : World) (h0 : 0 ≤ i) :
    Calls Try.prog 222 #[.string s, .int .i64 i] w fun e w' => e = .returned (.agg #[.int .u8 (at0 s i), .int .u8 (at1 s i)]) ∧ Below w.heap.size w w' := by
  by_cases h : i < (s.size : Int)
  · have e0 : at0 s i = bt s i := if_pos h
    have e1 : at1 s i = 1 := if_pos h
    rw [e0, e1]
    clear e0 e1
    have hb : decide (i < (s.size : Int)) = true := decide_eq_true h
    go_enter Try.func222, Try.ntmps222
    go_wp2
    exact bodyPost_ret (v := .agg #[.int .u8 (bt s i), .int .u8 1]) (by simp [results, Try.results222, go_sem, bt_at]) rfl ⟨rfl, (Below.refl _ _).alloc (Nat.le_refl _) _⟩
  · have e0 : at0 s i = 0 := if_neg h
    have e1 : at1 s i = 0 := if_neg h
    rw [e0, e1]
    clear e0 e1
    have hb : decide (i < (s.size : Int)) = false := decide_eq_false h
    go_enter Try.func222, Try.ntmps222
    go_wp2
    exact bodyPost_ret (v := .agg #[.int .u8 0, .int .u8 0]) (by simp [results, Try.results222, go_sem]) rfl ⟨rfl, (Below.refl _ _).alloc (Nat.le_refl _) _⟩
end Go.Proofs.Ytokkhnjedmlbhaa.Pr
end
section
namespace Go.Proofs.Ytokkhnjedmlbhaa.Pr
open Go.RowKit Go.Proofs.YtokkhnjedmlbhaaW.PrintWords Go.Proofs.YtokkhnjedmlbhaaW.PrintLast Go.Proofs.YtokkhnjedmlbhaaW.PrintMore
attribute [local go_sem] max2_int min2_int max_two min_two max_three min_three max_four min_four
def scanTo (a b : ByteArray) : Nat → Int
  | 0 => 0
  | k + 1 => Go.bits .or .u8 (scanTo a b k) (Go.bits .or .u8 (Go.bits .xor .u8 (at0 a k) (at0 b k)) (Go.bits .xor .u8 (at1 a k) (at1 b k)))
def equal_Scan.f (a b : ByteArray) : Option (Bool × Int) := if a.size ≤ 9223372036854775807 then if b.size ≤ 9223372036854775807 then some (scanTo a b (max a.size b.size) == 0, mx (a.size : Int) (b.size : Int)) else none else none
set_option maxHeartbeats 1000000 in
theorem equal_Scan.calls (a b : ByteArray) (r1 : Bool) (r2 : Int) (w : World) (h : equal_Scan.f a b = some (r1, r2)) :
    Calls Try.prog 200 #[.string a, .string b] w fun e w' => e = .returned (.tuple #[.bool r1, .int .i64 r2]) ∧ Below w.heap.size w w' := by
  unfold equal_Scan.f at h
  split at h
  case isFalse => cases h
  case isTrue ha =>
  split at h
  case isFalse => cases h
  case isTrue hb =>
  obtain ⟨rfl, rfl⟩ := Prod.mk.inj (Option.some.inj h)
  clear h
  by_cases hc : a.size < b.size
  · have hmx : mx (a.size : Int) (b.size : Int) = (b.size : Int) := by unfold mx; omega
    have hmn : max a.size b.size = b.size := by omega
    rw [hmx, hmn]
    clear hmx hmn
    go_enter Try.func200, Try.ntmps200
    go_wp2
    go_loopw [6, 17] (fun s i wr => ∃ k : Nat, k ≤ b.size ∧ i = .int .i64 k ∧ s = .int .u8 (scanTo a b k) ∧ Aside0 (Below w.heap.size w wr)) (fun _ i _ => b.size - (intOf i).toNat)
    case atStart => exact ⟨0, Nat.zero_le _, rfl, rfl, ⟨Below.refl _ _⟩⟩
    case round =>
      obtain ⟨k, hk, rfl, rfl, HB⟩ := hrel
      by_cases hlt : k < b.size
      · go_wp2_with (go_at_call 222; refine (equal_at.calls _ _ _ (by omega)).mono ?_; rintro e w1 ⟨rfl, hb1⟩)
        rename_i w0 hb0
        have hz0 := HB.out.size
        have hz1 := hb0.size
        have hz2 := hb1.size
        exact ⟨⟨k + 1, hlt, by go_num, rfl, ⟨(((HB.out.trans (hb0.mono hz0)).trans (hb1.mono (by omega))).alloc (by omega) _).alloc (by simp; omega) _⟩⟩, by simp [intOf]; omega⟩
      · obtain rfl : k = b.size := by omega
        go_wp2
        go_ret2
        exact ⟨rfl, HB.out⟩
  · have hmx : mx (a.size : Int) (b.size : Int) = (a.size : Int) := by unfold mx; omega
    have hmn : max a.size b.size = a.size := by omega
    rw [hmx, hmn]
    clear hmx hmn
    go_enter Try.func200, Try.ntmps200
    go_wp2
    go_loopw [6, 17] (fun s i wr => ∃ k : Nat, k ≤ a.size ∧ i = .int .i64 k ∧ s = .int .u8 (scanTo a b k) ∧ Aside0 (Below w.heap.size w wr)) (fun _ i _ => a.size - (intOf i).toNat)
    case atStart => exact ⟨0, Nat.zero_le _, rfl, rfl, ⟨Below.refl _ _⟩⟩
    case round =>
      obtain ⟨k, hk, rfl, rfl, HB⟩ := hrel
      by_cases hlt : k < a.size
      · go_wp2_with (go_at_call 222; refine (equal_at.calls _ _ _ (by omega)).mono ?_; rintro e w1 ⟨rfl, hb1⟩)
        rename_i w0 hb0
        have hz0 := HB.out.size
        have hz1 := hb0.size
        have hz2 := hb1.size
        exact ⟨⟨k + 1, hlt, by go_num, rfl, ⟨(((HB.out.trans (hb0.mono hz0)).trans (hb1.mono (by omega))).alloc (by omega) _).alloc (by simp; omega) _⟩⟩, by simp [intOf]; omega⟩
      · obtain rfl : k = a.size := by omega
        go_wp2
        go_ret2
        exact ⟨rfl, HB.out⟩
end Go.Proofs.Ytokkhnjedmlbhaa.Pr
end
section
namespace Go.Proofs.YtokkhnjedmlbhaaGf
/-- A byte times x. -/
def xt (a : Nat) : Nat := if a < 128 then 2 * a else (2 * a - 256) ^^^ 27
def allB (n : Nat) (p : Nat → Bool) : Bool := match n with | 0 => true | n + 1 => p n && allB n p
theorem allB_of {n : Nat} {p : Nat → Bool} (h : allB n p = true) : ∀ a, a < n → p a = true := by
  induction n with
  | zero => intro a ha; omega
  | succ n ih =>
    intro a ha
    simp only [allB, Bool.and_eq_true] at h
    rcases Nat.lt_succ_iff_lt_or_eq.1 ha with h1 | rfl
    · exact ih h.2 a h1
    · exact h.1
theorem xt_lin_all : allB 256 (fun a => allB 256 fun b => Nat.beq (xt (a ^^^ b)) (xt a ^^^ xt b)) = true := by decide +kernel
theorem xt_lin {a b : Nat} (ha : a < 256) (hb : b < 256) : xt (a ^^^ b) = xt a ^^^ xt b :=
  Nat.eq_of_beq_eq_true (allB_of (allB_of xt_lin_all a ha) b hb)
theorem xor_lt {a b : Nat} (ha : a < 256) (hb : b < 256) : a ^^^ b < 256 := Nat.xor_lt_two_pow (n := 8) ha hb
theorem xt_lt {a : Nat} (ha : a < 256) : xt a < 256 := by
  unfold xt; split
  · omega
  · exact xor_lt (by omega) (by omega)
theorem xt_zero : xt 0 = 0 := rfl
/-- The product, by the bits of b: n of them. -/
def mulF : Nat → Nat → Nat → Nat
  | 0, _, _ => 0
  | n + 1, a, b => (if b % 2 = 1 then a else 0) ^^^ mulF n (xt a) (b / 2)
def gm (a b : Nat) : Nat := mulF 8 a b
theorem ite_lt {a : Nat} {p : Prop} [Decidable p] (ha : a < 256) : (if p then a else 0) < 256 := by split <;> omega
theorem mulF_lt (n : Nat) : ∀ {a b : Nat}, a < 256 → mulF n a b < 256 := by
  induction n with
  | zero => intro a b _; simp [mulF]
  | succ n ih => intro a b ha; exact xor_lt (ite_lt ha) (ih (xt_lt ha))
theorem gm_lt {a b : Nat} (ha : a < 256) : gm a b < 256 := mulF_lt 8 ha
theorem mulF_zero (n : Nat) : ∀ b, mulF n 0 b = 0 := by
  induction n with
  | zero => intro b; rfl
  | succ n ih => intro b; simp [mulF, xt_zero, ih]
theorem xor4 (a b c d : Nat) : (a ^^^ b) ^^^ (c ^^^ d) = (a ^^^ c) ^^^ (b ^^^ d) := by
  rw [Nat.xor_assoc, Nat.xor_assoc, ← Nat.xor_assoc b, Nat.xor_comm b c, Nat.xor_assoc c]
theorem mulF_addL (n : Nat) : ∀ {a c b : Nat}, a < 256 → c < 256 → mulF n (a ^^^ c) b = mulF n a b ^^^ mulF n c b := by
  induction n with
  | zero => intro a c b _ _; simp [mulF]
  | succ n ih =>
    intro a c b ha hc
    simp only [mulF]
    rw [xt_lin ha hc, ih (xt_lt ha) (xt_lt hc), xor4]
    congr 1
    split <;> simp
theorem mulF_xt (n : Nat) : ∀ {a b : Nat}, a < 256 → mulF n (xt a) b = xt (mulF n a b) := by
  induction n with
  | zero => intro a b _; rfl
  | succ n ih =>
    intro a b ha
    simp only [mulF]
    rw [xt_lin (ite_lt ha) (mulF_lt n (xt_lt ha)), ih (xt_lt ha)]
    congr 1
    split <;> simp [xt_zero]
theorem gm_addL {a c b : Nat} (ha : a < 256) (hc : c < 256) : gm (a ^^^ c) b = gm a b ^^^ gm c b := mulF_addL 8 ha hc
theorem gm_xt {a b : Nat} (ha : a < 256) : gm (xt a) b = xt (gm a b) := mulF_xt 8 ha
/-- A byte times 3. -/
def t3 (a : Nat) : Nat := a ^^^ xt a
theorem t3_lt {a : Nat} (ha : a < 256) : t3 a < 256 := xor_lt ha (xt_lt ha)
theorem gm_t3 {a b : Nat} (ha : a < 256) : gm (t3 a) b = t3 (gm a b) := by unfold t3; rw [gm_addL ha (xt_lt ha), gm_xt ha]
/-- b times the n-th power of 3. -/
def p3 : Nat → Nat → Nat
  | 0, b => b
  | n + 1, b => t3 (p3 n b)
theorem p3_lt (n : Nat) {b : Nat} (hb : b < 256) : p3 n b < 256 := by
  induction n with
  | zero => exact hb
  | succ n ih => exact t3_lt ih
theorem p3_add (n m b : Nat) : p3 (n + m) b = p3 n (p3 m b) := by
  induction n with
  | zero => simp [p3]
  | succ n ih => rw [Nat.succ_add]; simp only [p3]; rw [ih]
def E (n : Nat) : Nat := p3 n 1
theorem E_lt (n : Nat) : E n < 256 := p3_lt n (by omega)
theorem gm_one_all : allB 256 (fun b => Nat.beq (gm 1 b) b) = true := by decide +kernel
theorem gm_one {b : Nat} (hb : b < 256) : gm 1 b = b := Nat.eq_of_beq_eq_true (allB_of gm_one_all b hb)
theorem gm_E (n : Nat) {b : Nat} (hb : b < 256) : gm (E n) b = p3 n b := by
  induction n with
  | zero => exact gm_one hb
  | succ n ih => show gm (t3 (E n)) b = t3 (p3 n b); rw [gm_t3 (E_lt n), ih]
theorem gm_EE (n m : Nat) : gm (E n) (E m) = E (n + m) := by rw [gm_E n (E_lt m)]; unfold E; rw [p3_add]
theorem E255 : E 255 = 1 := by decide +kernel
theorem E_per (n : Nat) : E (n + 255) = E n := by unfold E; rw [p3_add]; show p3 n (E 255) = _; rw [E255]
theorem E_mod (n : Nat) : E (n % 255) = E n := by
  conv => rhs; rw [← Nat.mod_add_div n 255]
  generalize n % 255 = r
  induction n / 255 with
  | zero => simp
  | succ q ih => rw [Nat.mul_succ, ← Nat.add_assoc, E_per]; exact ih
/-- The least n at which the power of 3 is a, from p = 3^k on. -/
def lgF : Nat → Nat → Nat → Nat → Nat
  | 0, k, _, _ => k
  | f + 1, k, p, a => if p = a then k else lgF f (k + 1) (t3 p) a
def lg (a : Nat) : Nat := lgF 255 0 1 a
theorem lg_all : allB 256 (fun a => Nat.beq a 0 || (Nat.beq (E (lg a)) a && Nat.ble (lg a) 254)) = true := by decide +kernel
theorem E_lg {a : Nat} (ha : a < 256) (h0 : a ≠ 0) : E (lg a) = a ∧ lg a ≤ 254 := by
  have h := allB_of lg_all a ha
  simp only [Bool.or_eq_true, Bool.and_eq_true] at h
  rcases h with h | h
  · exact absurd (Nat.eq_of_beq_eq_true h) h0
  · exact ⟨Nat.eq_of_beq_eq_true h.1, Nat.le_of_ble_eq_true h.2⟩
theorem gm_zeroL (b : Nat) : gm 0 b = 0 := mulF_zero 8 b
theorem gm_zeroR {a : Nat} (ha : a < 256) : gm a 0 = 0 := by
  by_cases h : a = 0
  · subst h; rfl
  · rw [← (E_lg ha h).1, gm_E _ (by omega)]
    generalize lg a = n
    induction n with
    | zero => rfl
    | succ n ih => simp only [p3, ih]; rfl
theorem gm_comm {a b : Nat} (ha : a < 256) (hb : b < 256) : gm a b = gm b a := by
  by_cases h : a = 0
  · subst h; rw [gm_zeroL, gm_zeroR hb]
  by_cases h' : b = 0
  · subst h'; rw [gm_zeroL, gm_zeroR ha]
  rw [← (E_lg ha h).1, ← (E_lg hb h').1, gm_EE, gm_EE, Nat.add_comm]
theorem gm_two {a : Nat} (ha : a < 256) : gm a 2 = xt a := by rw [gm_comm ha (by omega)]; show gm (xt 1) a = _; rw [gm_xt (by omega), gm_one ha]
/-- Powers, one factor at a time. -/
def pw (a : Nat) : Nat → Nat
  | 0 => 1
  | n + 1 => gm (pw a n) a
theorem pw_lt {a : Nat} (n : Nat) : pw a n < 256 := by
  induction n with
  | zero => show 1 < 256; omega
  | succ n ih => exact gm_lt ih
theorem pw_E (m n : Nat) : pw (E m) n = E (m * n) := by
  induction n with
  | zero => rfl
  | succ n ih => simp only [pw]; rw [ih, gm_EE, Nat.mul_succ]
theorem pw_zero {n : Nat} (hn : 0 < n) : pw 0 n = 0 := by
  obtain ⟨m, rfl⟩ : ∃ m, n = m + 1 := ⟨n - 1, by omega⟩
  exact gm_zeroR (pw_lt m)
theorem pw_mod {a : Nat} (ha : a < 256) (h0 : a ≠ 0) (n : Nat) : pw a (n % 255) = pw a n := by
  rw [← (E_lg ha h0).1, pw_E, pw_E, ← E_mod, ← E_mod (lg a * n), Nat.mul_mod, Nat.mod_mod, ← Nat.mul_mod]
/-- The byte with which the product is 1. -/
def inv (a : Nat) : Nat := if a = 0 then 0 else E ((255 - lg a) % 255)
theorem inv_lt (a : Nat) : inv a < 256 := by unfold inv; split; omega; exact E_lt _
end Go.Proofs.YtokkhnjedmlbhaaGf
end
section
namespace Go.Proofs.Ytokkhnjedmlbhaa.M
open Go.RowKit Go.Proofs.Ytokkhnjedmlbhaa.Pr Go.Proofs.YtokkhnjedmlbhaaW.PrintWords Go.Proofs.YtokkhnjedmlbhaaW.PrintLast Go.Proofs.YtokkhnjedmlbhaaW.PrintMore Go.Proofs.YtokkhnjedmlbhaaGf
theorem wrap_id {x : Int} (h0 : -9223372036854775808 ≤ x) (h1 : x ≤ 9223372036854775807) : wrap64 x = x := by unfold wrap64; omega
theorem bx {a b : Nat} (ha : a < 256) (hb : b < 256) : Go.bits .xor .u8 (a : Int) (b : Int) = ((a ^^^ b : Nat) : Int) := u8_xor_nat a b ha hb
theorem twice_all : allB 256 (fun a => decide (field_Twice.f (a : Int) = some ((xt a : Nat) : Int))) = true := by decide +kernel
theorem twice_c {a : Nat} (ha : a < 256) : field_Twice.f (a : Int) = some ((xt a : Nat) : Int) := of_decide_eq_true (allB_of twice_all a ha)
/-- a to the power n; 1 for what is below 1. -/
def powI (a : Nat) (n : Int) : Nat := pw a n.toNat
end Go.Proofs.Ytokkhnjedmlbhaa.M
end
section
namespace Go.Proofs.Ytokkhnjedmlbhaa.M
open Go.RowKit Go.Proofs.Ytokkhnjedmlbhaa.Pr Go.Proofs.YtokkhnjedmlbhaaW.PrintWords Go.Proofs.YtokkhnjedmlbhaaW.PrintLast Go.Proofs.YtokkhnjedmlbhaaW.PrintMore Go.Proofs.YtokkhnjedmlbhaaGf
theorem ix {p q : Nat} (hp : p < 4611686018427387904) (hq : q < 4611686018427387904) : Go.bits .xor .i64 (p : Int) (q : Int) = ((p ^^^ q : Nat) : Int) := by
  have h := Nat.xor_lt_two_pow (n := 62) hp hq
  have h1 : p % 2 ^ 64 = p := Nat.mod_eq_of_lt (by omega)
  have h2 : q % 2 ^ 64 = q := Nat.mod_eq_of_lt (by omega)
  show IntKind.i64.wrap (((BitVec.ofInt 64 (p : Int)) ^^^ (BitVec.ofInt 64 (q : Int))).toNat : Int) = _
  simp only [BitVec.ofInt_natCast, BitVec.toNat_xor, BitVec.toNat_ofNat, h1, h2]
  rw [IntKind.wrap_i64]
  omega
theorem shr_c {b k : Nat} (hk : k ≤ 64) : shr .i64 (b : Int) (k : Int) = ((b / 2 ^ k : Nat) : Int) := by
  unfold shr
  rw [show min ((k : Int).toNat) IntKind.i64.bits = k from by simp [IntKind.bits]; omega]
  simp
theorem shl_c {a k : Nat} (hk : k ≤ 64) (h : a * 2 ^ k < 9223372036854775808) : shl .i64 (a : Int) (k : Int) = ((a * 2 ^ k : Nat) : Int) := by
  unfold shl
  rw [show min ((k : Int).toNat) IntKind.i64.bits = k from by simp [IntKind.bits]; omega]
  have : (a : Int) * 2 ^ k = ((a * 2 ^ k : Nat) : Int) := by simp
  rw [this, IntKind.wrap_i64]
  omega
theorem tmod2 (x : Nat) : Int.tmod (x : Int) 2 = ((x % 2 : Nat) : Int) := by rw [Int.tmod_eq_emod_of_nonneg (by omega)]; omega
/-- The product without a remainder, by the first k bits of b. -/
def clT (a b : Nat) : Nat → Nat
  | 0 => 0
  | k + 1 => clT a b k ^^^ (if b / 2 ^ k % 2 = 1 then a * 2 ^ k else 0)
/-- The remainder, j steps of it. -/
def rdT (p : Nat) : Nat → Nat
  | 0 => p
  | j + 1 => rdT p j ^^^ (if rdT p j / 2 ^ (14 - j) % 2 = 1 then 283 * 2 ^ (6 - j) else 0)
theorem pow_le8 {k : Nat} (hk : k < 8) : 2 ^ k ≤ 128 := by
  have : 2 ^ k ≤ 2 ^ 7 := Nat.pow_le_pow_right (by omega) (by omega)
  omega
theorem clT_lt {a b : Nat} (ha : a < 256) (k : Nat) (hk : k ≤ 8) : clT a b k < 32768 := by
  induction k with
  | zero => show 0 < 32768; omega
  | succ k ih =>
    refine Nat.xor_lt_two_pow (n := 15) (ih (by omega)) ?_
    have h1 := pow_le8 (show k < 8 by omega)
    have h2 : a * 2 ^ k ≤ 255 * 128 := Nat.mul_le_mul (by omega) h1
    split
    · show _ < 32768; omega
    · show 0 < 32768; omega
theorem rdT_lt {p : Nat} (hp : p < 32768) (j : Nat) (hj : j ≤ 7) : rdT p j < 32768 := by
  induction j with
  | zero => exact hp
  | succ j ih =>
    refine Nat.xor_lt_two_pow (n := 15) (ih (by omega)) ?_
    have h1 : 2 ^ (6 - j) ≤ 2 ^ 6 := Nat.pow_le_pow_right (by omega) (by omega)
    have h2 : 283 * 2 ^ (6 - j) ≤ 283 * 64 := Nat.mul_le_mul_left _ h1
    split
    · show _ < 32768; omega
    · show 0 < 32768; omega
theorem bit_xor (p q i : Nat) : (p ^^^ q) / 2 ^ i % 2 = 1 ↔ ¬ (p / 2 ^ i % 2 = 1 ↔ q / 2 ^ i % 2 = 1) := by
  have h := Nat.testBit_xor p q i
  simp only [Nat.testBit_eq_decide_div_mod_eq] at h
  by_cases h1 : p / 2 ^ i % 2 = 1 <;> by_cases h2 : q / 2 ^ i % 2 = 1 <;> simp [h1, h2] at h ⊢ <;> simpa using h
theorem rdT_xor (p q j : Nat) : rdT (p ^^^ q) j = rdT p j ^^^ rdT q j := by
  induction j with
  | zero => rfl
  | succ j ih =>
    simp only [rdT]
    rw [ih, xor4]
    congr 1
    have h := bit_xor (rdT p j) (rdT q j) (14 - j)
    by_cases h1 : rdT p j / 2 ^ (14 - j) % 2 = 1 <;> by_cases h2 : rdT q j / 2 ^ (14 - j) % 2 = 1 <;> simp [h, h1, h2]
theorem rdT_zero (j : Nat) : rdT 0 j = 0 := by
  induction j with
  | zero => rfl
  | succ j ih => simp [rdT, ih]
/-- xt, k times. -/
def xtN : Nat → Nat → Nat
  | 0, a => a
  | k + 1, a => xtN k (xt a)
theorem rd_all : allB 256 (fun a => allB 8 fun k => Nat.beq (rdT (a * 2 ^ k) 7) (xtN k a)) = true := by decide +kernel
theorem rd_pow {a k : Nat} (ha : a < 256) (hk : k < 8) : rdT (a * 2 ^ k) 7 = xtN k a := Nat.eq_of_beq_eq_true (allB_of (allB_of rd_all a ha) k hk)
theorem rd_ite {a k : Nat} {c : Prop} [Decidable c] (ha : a < 256) (hk : k < 8) : rdT (if c then a * 2 ^ k else 0) 7 = if c then xtN k a else 0 := by
  split
  · exact rd_pow ha hk
  · exact rdT_zero 7
theorem rd_cl {a : Nat} (b : Nat) (ha : a < 256) : rdT (clT a b 8) 7 = gm a b := by
  simp only [clT, rdT_xor, rdT_zero, rd_ite ha (show 0 < 8 by omega), rd_ite ha (show 1 < 8 by omega), rd_ite ha (show 2 < 8 by omega), rd_ite ha (show 3 < 8 by omega), rd_ite ha (show 4 < 8 by omega), rd_ite ha (show 5 < 8 by omega), rd_ite ha (show 6 < 8 by omega), rd_ite ha (show 7 < 8 by omega)]
  simp only [gm, mulF, xtN, Nat.div_div_eq_div_mul, Nat.zero_xor, Nat.xor_zero, Nat.xor_assoc, Nat.pow_zero, Nat.div_one]
theorem refMulR (d : Nat) : ∀ (j p : Nat), j ≤ 7 → 7 - j = d → p < 32768 → Ev (fun k => clavigerref05_Mul.l1 k ((rdT p j : Nat) : Int) ((14 - j : Nat) : Int)) (((rdT p 7 % 256 : Nat)) : Int) := by
  induction d with
  | zero =>
    intro j p hj hd hp
    obtain rfl : j = 7 := by omega
    refine Ev.step (f := fun _ => some (((rdT p 7 : Nat) : Int) % 256)) (fun k => by simp only [clavigerref05_Mul.l1]; rw [if_neg (by omega)]) ?_
    exact Ev.now _
  | succ d ih =>
    intro j p hj hd hp
    have hi := ih (j + 1) p (by omega) (by omega) hp
    have hl := rdT_lt hp j hj
    refine Ev.step (fun k => ?_) hi
    simp only [clavigerref05_Mul.l1]
    rw [if_pos (by omega), if_pos (by omega), shr_c (by omega), tmod2]
    have e1 : wrap64 (((14 - j : Nat) : Int) - 1) = ((14 - (j + 1) : Nat) : Int) := by unfold wrap64; omega
    have e2 : wrap64 (((14 - j : Nat) : Int) - 8) = ((6 - j : Nat) : Int) := by unfold wrap64; omega
    have h1 : 2 ^ (6 - j) ≤ 2 ^ 6 := Nat.pow_le_pow_right (by omega) (by omega)
    have h2 : 283 * 2 ^ (6 - j) ≤ 283 * 64 := Nat.mul_le_mul_left _ h1
    rw [e1, e2]
    by_cases hb : rdT p j / 2 ^ (14 - j) % 2 = 1
    · rw [if_pos (by omega), if_pos (by omega), show (283 : Int) = ((283 : Nat) : Int) from rfl, shl_c (by omega) (by omega), ix (by omega) (by omega)]
      simp only [rdT]
      rw [if_pos hb]
    · rw [if_neg (by omega)]
      simp only [rdT]
      rw [if_neg hb, Nat.xor_zero]
theorem refMulL (d : Nat) : ∀ (j a b : Nat), j ≤ 8 → 8 - j = d → a < 256 → b < 256 → Ev (fun k => clavigerref05_Mul.l0 k (a : Int) (b : Int) ((clT a b j : Nat) : Int) (j : Int)) ((gm a b : Nat) : Int) := by
  induction d with
  | zero =>
    intro j a b hj hd ha hb
    obtain rfl : j = 8 := by omega
    have hr := refMulR 7 0 (clT a b 8) (by omega) (by omega) (clT_lt ha 8 (by omega))
    rw [rd_cl b ha, Nat.mod_eq_of_lt (gm_lt ha)] at hr
    refine Ev.step (fun k => ?_) hr
    simp only [clavigerref05_Mul.l0]
    rw [if_neg (by omega)]
    rfl
  | succ d ih =>
    intro j a b hj hd ha hb
    have hi := ih (j + 1) a b (by omega) (by omega) ha hb
    have hl := clT_lt (b := b) ha j hj
    refine Ev.step (fun k => ?_) hi
    simp only [clavigerref05_Mul.l0]
    have h1 := pow_le8 (show j < 8 by omega)
    have h2 : a * 2 ^ j ≤ 255 * 128 := Nat.mul_le_mul (by omega) h1
    rw [if_pos (by omega), if_pos (by omega), wrap_id (x := (b : Int)) (by omega) (by omega), wrap_id (x := (a : Int)) (by omega) (by omega), wrap_id (x := (j : Int) + 1) (by omega) (by omega), shr_c (by omega), tmod2]
    by_cases hb' : b / 2 ^ j % 2 = 1
    · rw [if_pos (by omega), shl_c (by omega) (by omega), ix (by omega) (by omega)]
      simp only [clT]
      rw [if_pos hb']
      rfl
    · rw [if_neg (by omega)]
      simp only [clT]
      rw [if_neg hb', Nat.xor_zero]
      rfl
theorem rmul_c {a b : Nat} (ha : a < 256) (hb : b < 256) : Ev (fun k => clavigerref05_Mul.f k (a : Int) (b : Int)) ((gm a b : Nat) : Int) := refMulL 8 0 a b (by omega) (by omega) ha hb
theorem rpowL (d : Nat) : ∀ (i a : Nat) (n : Int), 0 ≤ n → i ≤ (n.toNat % 255) → n.toNat % 255 - i = d → a < 256 → Ev (fun k => clavigerref05_Pow.l0 k (a : Int) n ((pw a i : Nat) : Int) (i : Int)) ((pw a (n.toNat % 255) : Nat) : Int) := by
  induction d with
  | zero =>
    intro i a n h0 hi hd ha
    obtain rfl : i = n.toNat % 255 := by omega
    refine Ev.step (f := fun _ => some ((pw a (n.toNat % 255) : Nat) : Int)) (fun k => by simp only [clavigerref05_Pow.l0]; rw [if_neg (by rw [Int.tmod_eq_emod_of_nonneg h0]; omega)]) (Ev.now _)
  | succ d ih =>
    intro i a n h0 hi hd ha
    have hh := ih (i + 1) a n h0 (by omega) (by omega) ha
    refine Ev.step (f := fun k => (clavigerref05_Mul.f k ((pw a i : Nat) : Int) (a : Int)).bind fun t109 => (clavigerref05_Pow.l0 k (a : Int) n t109 (wrap64 ((i : Int) + 1)))) (fun k => by simp only [clavigerref05_Pow.l0]; rw [if_pos (by rw [Int.tmod_eq_emod_of_nonneg h0]; omega)]) ?_
    refine Ev.bind (rmul_c (pw_lt i) ha) ?_
    rw [wrap_id (by omega) (by omega)]
    exact hh
theorem rpow_c {a : Nat} (ha : a < 256) (n : Int) : Ev (fun k => clavigerref05_Pow.f k (a : Int) n) ((powI a n : Nat) : Int) := by
  unfold powI
  by_cases h : n < 1
  · refine Ev.congr (f := fun _ => some (1 : Int)) (fun k => by simp only [clavigerref05_Pow.f]; rw [if_pos h]) ?_
    rw [show n.toNat = 0 by omega]
    exact Ev.now _
  · by_cases h0 : a = 0
    · subst h0
      refine Ev.congr (f := fun _ => some (0 : Int)) (fun k => by simp only [clavigerref05_Pow.f]; rw [if_neg h, if_pos (by rfl)]) ?_
      rw [pw_zero (by omega)]
      exact Ev.now _
    · have := rpowL (n.toNat % 255) 0 a n (by omega) (by omega) (by omega) ha
      rw [pw_mod ha h0] at this
      refine Ev.congr (fun k => by simp only [clavigerref05_Pow.f]; rw [if_neg h, if_neg (by omega)]; rfl) this
end Go.Proofs.Ytokkhnjedmlbhaa.M
end
section
namespace Go.Proofs.Ytokkhnjedmlbhaa.M
open Go.RowKit Go.Proofs.Ytokkhnjedmlbhaa.Pr Go.Proofs.YtokkhnjedmlbhaaW.PrintWords Go.Proofs.YtokkhnjedmlbhaaW.PrintLast Go.Proofs.YtokkhnjedmlbhaaW.PrintMore Go.Proofs.YtokkhnjedmlbhaaGf
/-- A call whose answer is known, ahead of what goes on with it. -/
theorem evb {α β : Type} {g : Nat → Option α} {f : Nat → α → Option β} {a : α} {r : β} (h : Ev g a) (k : Ev (fun n => f n a) r) : Ev (fun n => (g n).bind (f n)) r := Ev.bind h k
theorem evs {α β : Type} {g : Option α} {f : Nat → α → Option β} {a : α} {r : β} (h : g = some a) (k : Ev (fun n => f n a) r) : Ev (fun n => g.bind (f n)) r := by subst h; exact k
theorem evp {α : Type} {c : Prop} [Decidable c] {f g : Nat → Option α} {r : α} (h : c) (k : Ev f r) : Ev (fun n => if c then f n else g n) r := by simp only [if_pos h]; exact k
theorem evn {α : Type} {c : Prop} [Decidable c] {f g : Nat → Option α} {r : α} (h : ¬ c) (k : Ev g r) : Ev (fun n => if c then f n else g n) r := by simp only [if_neg h]; exact k
/-- The byte at a place, as a number. -/
def bb (s : ByteArray) (i : Nat) : Nat := (bt s (i : Int)).toNat
theorem bb_lt (s : ByteArray) (i : Nat) : bb s i < 256 := by have := bt_range s (i : Int); unfold bb; omega
theorem bt_bb (s : ByteArray) (i : Nat) : bt s (i : Int) = ((bb s i : Nat) : Int) := by have := bt_range s (i : Int); unfold bb; omega
end Go.Proofs.Ytokkhnjedmlbhaa.M
end
section
namespace Go.Proofs.Ytokkhnjedmlbhaa.M
open Go.RowKit Go.Proofs.Ytokkhnjedmlbhaa.Pr Go.Proofs.YtokkhnjedmlbhaaW.PrintWords Go.Proofs.YtokkhnjedmlbhaaW.PrintLast Go.Proofs.YtokkhnjedmlbhaaW.PrintMore Go.Proofs.YtokkhnjedmlbhaaGf
/-- The text of a list of bytes. -/
def mkB (l : List Nat) : ByteArray := ⟨(l.map UInt8.ofNat).toArray⟩
/-- A text's bytes. -/
def nb (s : ByteArray) : List Nat := s.data.toList.map UInt8.toNat
def isB (l : List Nat) : Prop := ∀ x ∈ l, x < 256
theorem mkB_size (l : List Nat) : (mkB l).size = l.length := by
  show (l.map UInt8.ofNat).toArray.size = _
  simp
theorem nb_length (s : ByteArray) : (nb s).length = s.size := by rw [nb, List.length_map, data_length]
theorem isB_nb (s : ByteArray) : isB (nb s) := by
  intro x hx
  obtain ⟨u, _, rfl⟩ := List.mem_map.1 hx
  exact UInt8.toNat_lt u
theorem mkB_nb (s : ByteArray) : mkB (nb s) = s := by
  cases s with | mk d =>
  simp only [mkB, nb, List.map_map]
  congr 1
  apply Array.ext'
  simp only []
  conv => rhs; rw [← List.map_id d.toList]
  apply List.map_congr_left
  intro u _
  simp
theorem nb_mkB {l : List Nat} (h : isB l) : nb (mkB l) = l := by
  simp only [nb, mkB, List.map_map]
  conv => rhs; rw [← List.map_id l]
  apply List.map_congr_left
  intro n hn
  have := h n hn
  simp
  omega
theorem mkB_append (l m : List Nat) : mkB l ++ mkB m = mkB (l ++ m) := by
  apply ByteArray.ext
  simp [mkB]
theorem bb_nb (s : ByteArray) (i : Nat) : bb s i = (nb s).getD i 0 := by
  unfold bb bt
  by_cases h : i < s.size
  · rw [dif_pos (by simpa using h)]
    have h' : i < (nb s).length := by rw [nb_length]; exact h
    rw [List.getD_eq_getElem?_getD, List.getElem?_eq_getElem h']
    simp only [Option.getD_some, nb, List.getElem_map, Int.toNat_natCast]
    rfl
  · rw [dif_neg (by simpa using h)]
    rw [List.getD_eq_getElem?_getD, List.getElem?_eq_none (by rw [nb_length]; omega)]
    rfl
theorem strOfNums_cast (l : List Nat) : strOfNums (l.map Int.ofNat) = mkB l := by
  simp only [strOfNums, mkB, List.map_map]
  rfl
theorem bytesOf_nb (s : ByteArray) : bytesOf s = (nb s).map Int.ofNat := by
  simp only [bytesOf, nb, List.map_map]
  rfl
theorem extract_nb (s : ByteArray) (i j : Nat) : s.extract i j = mkB (((nb s).take j).drop i) := by
  apply ByteArray.ext
  simp only [ByteArray.data_extract, mkB]
  apply Array.ext'
  rw [Array.toList_extract]
  simp only [List.extract_eq_take_drop, nb]
  rw [← List.map_take, ← List.map_drop, List.map_map]
  rw [show (UInt8.ofNat ∘ UInt8.toNat) = id from by funext u; simp, List.map_id, List.drop_take]
theorem isB_append {l m : List Nat} : isB (l ++ m) ↔ isB l ∧ isB m := by
  simp [isB, or_imp, forall_and]
theorem isB_get {l : List Nat} (h : isB l) (i : Nat) : l.getD i 0 < 256 := by
  rw [List.getD_eq_getElem?_getD]
  by_cases hi : i < l.length
  · rw [List.getElem?_eq_getElem hi]; exact h _ (List.getElem_mem hi)
  · rw [List.getElem?_eq_none (by omega)]; decide
end Go.Proofs.Ytokkhnjedmlbhaa.M
end
section
namespace Go.Proofs
open Go.Shelf
def Try.lays156_ren : Go.Shelf.Ren := ⟨fun | 156 => 187 | 165 => 219 | 166 => 220 | 169 => 215 | 240 => 226 | 241 => 227 | 276 => 231 | 277 => 232 | n => n, fun | 31 => 49 | 9 => 9 | 3 => 3 | 4 => 4 | 0 => 0 | 20 => 20 | 72 => 135 | 76 => 141 | 70 => 133 | 37 => 66 | 75 => 137 | 127 => 149 | 164 => 154 | 5 => 5 | 80 => 41 | n => n, fun | n => n⟩
theorem Try.lays156 : Go.Proofs.Lays.n156 Try.prog Try.lays156_ren := {
  mixed := by kernel_rfl
  f156 := Try.func187.trans (congrArg some (by kernel_rfl))
  f165 := Try.func219.trans (congrArg some (by kernel_rfl))
  f166 := Try.func220.trans (congrArg some (by kernel_rfl))
  f169 := Try.func215.trans (congrArg some (by kernel_rfl))
  f240 := Try.func226.trans (congrArg some (by kernel_rfl))
  f241 := Try.func227.trans (congrArg some (by kernel_rfl))
  f276 := Try.func231.trans (congrArg some (by kernel_rfl))
  f277 := Try.func232.trans (congrArg some (by kernel_rfl))
  t0 := Try.underlying0
  a0 := Try.isAgg0
  z0 := Try.sizeOf0
  v0 := Try.zeroValue0
  t3 := Try.underlying3
  a3 := Try.isAgg3
  z3 := Try.sizeOf3
  v3 := Try.zeroValue3
  t4 := Try.underlying4
  a4 := Try.isAgg4
  z4 := Try.sizeOf4
  v4 := Try.zeroValue4
  t9 := Try.underlying9
  a9 := Try.isAgg9
  z9 := Try.sizeOf9
  v9 := Try.zeroValue9
  t20 := Try.underlying20
  a20 := Try.isAgg20
  z20 := Try.sizeOf20
  v20 := Try.zeroValue20
  t31 := Try.underlying49
  a31 := Try.isAgg49
  z31 := Try.sizeOf49
  v31 := Try.zeroValue49
  t37 := Try.underlying66
  a37 := Try.isAgg66
  z37 := Try.sizeOf66
  v37 := Try.zeroValue66
  t70 := Try.underlying133
  a70 := Try.isAgg133
  z70 := Try.sizeOf133
  v70 := Try.zeroValue133
  t72 := Try.underlying135
  a72 := Try.isAgg135
  z72 := Try.sizeOf135
  v72 := Try.zeroValue135
  t75 := Try.underlying137
  a75 := Try.isAgg137
  z75 := Try.sizeOf137
  v75 := Try.zeroValue137
  t76 := Try.underlying141
  a76 := Try.isAgg141
  z76 := Try.sizeOf141
  v76 := Try.zeroValue141
  t127 := Try.underlying149
  a127 := Try.isAgg149
  z127 := Try.sizeOf149
  v127 := Try.zeroValue149
  t164 := Try.underlying154
  a164 := Try.isAgg154
  z164 := Try.sizeOf154
  v164 := Try.zeroValue154 }
theorem Try.Builder_Extra_156 : Builder.Extra Try.prog Try.lays156_ren := {
  sizeBuilder := by kernel_rfl
  liesBuilder := by kernel_rfl
  t5 := Try.underlying5
  a5 := Try.isAgg5
  z5 := Try.sizeOf5
  v5 := Try.zeroValue5
  infoByte := by kernel_rfl
  cellsByte := by kernel_rfl
  sizeByte := by kernel_rfl
  neB5 := by decide }
open Go.RowKit in
/-- No element: the empty string; the world is as it was. (Whatever the slice's address and capacity: a nil slice too.) (LAID: no walk: one application.) -/
theorem Try.strings_Join_none (a : Option Addr) (c : Nat) (sep : ByteArray) (w : World) :
    Calls Try.prog 187 #[.slice a 0 c, .string sep] w fun e w' => e = .returned (.string ⟨#[]⟩) ∧ w' = w := Any.strings_Join_none Try.lays156 Try.Builder_Extra_156 a c sep w
open Go.RowKit in
/-- strings.Join: "Join concatenates the elements of its first argument to create a single string. The separator string sep is placed between elements in the resulting string.": HOWEVER MANY ELEMENTS. Below the heap's end the world is as it was. (LAID: no walk: one application.) -/
theorem Try.strings_Join (bk o c : Nat) (xs : List ByteArray) (sep : ByteArray) (w : World) (hcells : ∀ (j : Nat) x, xs[j]? = some x → w.cell? ⟨bk, o + j, none⟩ = some (.string x)) (hbk : bk < w.heap.size) (hN : xs.length ≤ 140737488355328) (hcap : xs.length ≤ c) (hlen : (Lib.join (xs.map (·.data.toList)) sep.data.toList).length ≤ 140737488355328) :
    Calls Try.prog 187 #[.slice (some ⟨bk, o, none⟩) xs.length c, .string sep] w fun e w' => e = .returned (.string ⟨(Lib.join (xs.map (·.data.toList)) sep.data.toList).toArray⟩) ∧ Below w.heap.size w w' := Any.strings_Join Try.lays156 Try.Builder_Extra_156 bk o c xs sep w hcells hbk hN hcap hlen
def Try.lays105_ren : Go.Shelf.Ren := ⟨fun | 105 => 211 | 212 => 223 | 99 => 224 | 165 => 219 | 166 => 220 | 170 => 225 | 169 => 215 | 263 => 228 | 264 => 229 | 206 => 230 | 240 => 226 | 241 => 227 | 276 => 231 | 277 => 232 | n => n, fun | 9 => 9 | 3 => 3 | 4 => 4 | 20 => 20 | 0 => 0 | 46 => 84 | 109 => 147 | 5 => 5 | 72 => 135 | 76 => 141 | 51 => 102 | 146 => 150 | 53 => 104 | 148 => 152 | 70 => 133 | 37 => 66 | 75 => 137 | 127 => 149 | 164 => 154 | 80 => 41 | n => n, fun | n => n⟩
theorem Try.lays105 : Go.Proofs.Lays.n105 Try.prog Try.lays105_ren := {
  mixed := by kernel_rfl
  f99 := Try.func224.trans (congrArg some (by kernel_rfl))
  f105 := Try.func211.trans (congrArg some (by kernel_rfl))
  f165 := Try.func219.trans (congrArg some (by kernel_rfl))
  f166 := Try.func220.trans (congrArg some (by kernel_rfl))
  f169 := Try.func215.trans (congrArg some (by kernel_rfl))
  f170 := Try.func225.trans (congrArg some (by kernel_rfl))
  f206 := Try.func230.trans (congrArg some (by kernel_rfl))
  f212 := Try.func223.trans (congrArg some (by kernel_rfl))
  f240 := Try.func226.trans (congrArg some (by kernel_rfl))
  f241 := Try.func227.trans (congrArg some (by kernel_rfl))
  f263 := Try.func228.trans (congrArg some (by kernel_rfl))
  f264 := Try.func229.trans (congrArg some (by kernel_rfl))
  f276 := Try.func231.trans (congrArg some (by kernel_rfl))
  f277 := Try.func232.trans (congrArg some (by kernel_rfl))
  t0 := Try.underlying0
  a0 := Try.isAgg0
  z0 := Try.sizeOf0
  v0 := Try.zeroValue0
  t3 := Try.underlying3
  a3 := Try.isAgg3
  z3 := Try.sizeOf3
  v3 := Try.zeroValue3
  t4 := Try.underlying4
  a4 := Try.isAgg4
  z4 := Try.sizeOf4
  v4 := Try.zeroValue4
  t5 := Try.underlying5
  a5 := Try.isAgg5
  z5 := Try.sizeOf5
  v5 := Try.zeroValue5
  t9 := Try.underlying9
  a9 := Try.isAgg9
  z9 := Try.sizeOf9
  v9 := Try.zeroValue9
  t20 := Try.underlying20
  a20 := Try.isAgg20
  z20 := Try.sizeOf20
  v20 := Try.zeroValue20
  t37 := Try.underlying66
  a37 := Try.isAgg66
  z37 := Try.sizeOf66
  v37 := Try.zeroValue66
  t46 := Try.underlying84
  a46 := Try.isAgg84
  z46 := Try.sizeOf84
  v46 := Try.zeroValue84
  t51 := Try.underlying102
  a51 := Try.isAgg102
  z51 := Try.sizeOf102
  v51 := Try.zeroValue102
  t53 := Try.underlying104
  a53 := Try.isAgg104
  z53 := Try.sizeOf104
  v53 := Try.zeroValue104
  t70 := Try.underlying133
  a70 := Try.isAgg133
  z70 := Try.sizeOf133
  v70 := Try.zeroValue133
  t72 := Try.underlying135
  a72 := Try.isAgg135
  z72 := Try.sizeOf135
  v72 := Try.zeroValue135
  t75 := Try.underlying137
  a75 := Try.isAgg137
  z75 := Try.sizeOf137
  v75 := Try.zeroValue137
  t76 := Try.underlying141
  a76 := Try.isAgg141
  z76 := Try.sizeOf141
  v76 := Try.zeroValue141
  t109 := Try.underlying147
  a109 := Try.isAgg147
  z109 := Try.sizeOf147
  v109 := Try.zeroValue147
  t127 := Try.underlying149
  a127 := Try.isAgg149
  z127 := Try.sizeOf149
  v127 := Try.zeroValue149
  t146 := Try.underlying150
  a146 := Try.isAgg150
  z146 := Try.sizeOf150
  v146 := Try.zeroValue150
  t148 := Try.underlying152
  a148 := Try.isAgg152
  z148 := Try.sizeOf152
  v148 := Try.zeroValue152
  t164 := Try.underlying154
  a164 := Try.isAgg154
  z164 := Try.sizeOf154
  v164 := Try.zeroValue154 }
theorem Try.Builder_Extra_105 : Builder.Extra Try.prog Try.lays105_ren := {
  sizeBuilder := by kernel_rfl
  liesBuilder := by kernel_rfl
  t5 := Try.underlying5
  a5 := Try.isAgg5
  z5 := Try.sizeOf5
  v5 := Try.zeroValue5
  infoByte := by kernel_rfl
  cellsByte := by kernel_rfl
  sizeByte := by kernel_rfl
  neB5 := by decide }
open Go.RowKit Go.Lib in
/-- THE MAIN CASE: at least two copies of a string that is not empty. (LAID: no walk: one application.) -/
theorem Try.strings_Repeat_main (s : ByteArray) (c : Nat) (w : World) (hc2 : 2 ≤ c) (hc : c ≤ 9223372036854775807) (hlen : s.size * c ≤ 140737488355328) (h0 : 0 < s.size) :
    Calls Try.prog 211 #[.string s, .int .i64 c] w fun e w' => e = .returned (.string ⟨(Lib.repeatL s.data.toList c).toArray⟩) ∧ Below w.heap.size w w' := Any.strings_Repeat_main Try.lays105 Try.Builder_Extra_105 s c w hc2 hc hlen h0
end Go.Proofs
end
section
namespace Go.Proofs.Ytokkhnjedmlbhaa.Pr
open Go.RowKit Go.Proofs.YtokkhnjedmlbhaaW.PrintWords Go.Proofs.YtokkhnjedmlbhaaW.PrintLast Go.Proofs.YtokkhnjedmlbhaaW.PrintMore
def inBytes (ys : List Int) : Bool := ys.all fun n => decide (0 ≤ n) && decide (n ≤ 255)
/-- All bytes of a text, by a function that may not answer. -/
def eachF (g : Int → Option Int) (s : ByteArray) : Option ByteArray := if s.size ≤ 140737488355328 then ((bytesOf s).mapM g).bind (fun ys => if inBytes ys = true then some (strOfNums ys) else none) else none
theorem mapM_mono {g g' : Int → Option Int} (h : ∀ x, LeO (g x) (g' x)) : ∀ l : List Int, LeO (l.mapM g) (l.mapM g')
  | [] => by simp only [List.mapM_nil]; exact LeO.refl _
  | x :: l => by
    simp only [List.mapM_cons]
    exact LeO.bind (h x) (fun y => LeO.bind (mapM_mono h l) (fun z => LeO.refl _))
theorem eachF_mono {g g' : Int → Option Int} (h : ∀ x, LeO (g x) (g' x)) (s : ByteArray) : LeO (eachF g s) (eachF g' s) := by
  unfold eachF
  exact LeO.ite (LeO.bind (mapM_mono h _) (fun _ => LeO.refl _)) (LeO.none _)

def sbox_Subs.f (k : Nat) (s : ByteArray) : Option ByteArray := eachF (sbox_Sub.f k) s
theorem sbox_Subs.mono : ∀ a0 k, LeO (sbox_Subs.f k a0) (sbox_Subs.f (k + 1) a0) := fun a0 k => eachF_mono (fun x => sbox_Sub.mono x k) a0
def sbox_Backs.f (k : Nat) (s : ByteArray) : Option ByteArray := eachF (sbox_Back.f k) s
theorem sbox_Backs.mono : ∀ a0 k, LeO (sbox_Backs.f k a0) (sbox_Backs.f (k + 1) a0) := fun a0 k => eachF_mono (fun x => sbox_Back.mono x k) a0
end Go.Proofs.Ytokkhnjedmlbhaa.Pr
end
section
namespace Go.Proofs.Ytokkhnjedmlbhaa.Pr
open Go.RowKit Go.Proofs.YtokkhnjedmlbhaaW.PrintWords Go.Proofs.YtokkhnjedmlbhaaW.PrintLast Go.Proofs.YtokkhnjedmlbhaaW.PrintMore
attribute [local go_sem] max2_int min2_int max_two min_two max_three min_three max_four min_four   -- for this text's walks alone
set_option linter.unusedVariables false
set_option linter.unusedSimpArgs false

def clavigerref02_Unhex.l0 : Nat → ByteArray → ByteArray → Int → Option (ByteArray × Bool)
 | 0, _, _, _ => none
 | k + 1, x0, x4, x5 => if x5 < (x0.size : Int) then (if 0 ≤ x5 then ((clavigerref02_Value.f k (bt x0 x5)).bind fun t1 => (if 0 ≤ (wrap64 (x5 + 1)) then (if (wrap64 (x5 + 1)) < (x0.size : Int) then ((clavigerref02_Value.f k (bt x0 (wrap64 (x5 + 1)))).bind fun t2 => (if t1 < 0 then (some ((⟨#[]⟩ : ByteArray), false)) else (if t2 < 0 then (some ((⟨#[]⟩ : ByteArray), false)) else ((some (([(wrap64 ((wrap64 (16 * t1)) + t2)) % 256] : List Int) : List Int)).bind fun y3 => (if x4.size + (strOfNums y3).size ≤ 9223372036854775807 then (clavigerref02_Unhex.l0 k x0 (x4 ++ (strOfNums y3)) (wrap64 (x5 + 2))) else (none)))))) else (none)) else (none))) else (none)) else (some (x4, true))
def clavigerref02_Unhex.f (k : Nat) (a0 : ByteArray) : Option (ByteArray × Bool) := if ((a0.size : Int) % 2) = 0 then (clavigerref02_Unhex.l0 k a0 (⟨#[]⟩ : ByteArray) 0) else (some ((⟨#[]⟩ : ByteArray), false))
theorem clavigerref02_Unhex.mono_l : ∀ k, (∀ y4 y5 y6, LeO (clavigerref02_Unhex.l0 k y4 y5 y6) (clavigerref02_Unhex.l0 (k + 1) y4 y5 y6))
 | 0 => fun _ _ _ r h => by simp [clavigerref02_Unhex.l0] at h
 | k + 1 => by
  have ih0 := clavigerref02_Unhex.mono_l k
  ·intro y4 y5 y6
   unfold clavigerref02_Unhex.l0
   repeat' first
   | (with_reducible exact ih0 _ _ _)
   | (with_reducible exact clavigerref02_Value.mono _ _)
   | (with_reducible exact LeO.refl _)
   | (with_reducible exact LeO.none _)
   | (with_reducible refine LeO.ite ?_ ?_)
   | (with_reducible refine LeO.bind ?_ (fun _ => ?_))
theorem clavigerref02_Unhex.mono : ∀ a0 k, LeO (clavigerref02_Unhex.f k a0) (clavigerref02_Unhex.f (k + 1) a0) := by
 intro a0 k
 have ih0 := clavigerref02_Unhex.mono_l k
 unfold clavigerref02_Unhex.f
 repeat' first
   | (with_reducible exact ih0 _ _ _)
   | (with_reducible exact clavigerref02_Value.mono _ _)
   | (with_reducible exact LeO.refl _)
   | (with_reducible exact LeO.none _)
   | (with_reducible refine LeO.ite ?_ ?_)
   | (with_reducible refine LeO.bind ?_ (fun _ => ?_))
def clavigerref06_Table.f (k : Nat)  : Option (ByteArray) := (clavigerref02_Unhex.f k (⟨#[54, 51, 55, 67, 55, 55, 55, 66, 70, 50, 54, 66, 54, 70, 67, 53, 51, 48, 48, 49, 54, 55, 50, 66, 70, 69, 68, 55, 65, 66, 55, 54, 67, 65, 56, 50, 67, 57, 55, 68, 70, 65, 53, 57, 52, 55, 70, 48, 65, 68, 68, 52, 65, 50, 65, 70, 57, 67, 65, 52, 55, 50, 67, 48, 66, 55, 70, 68, 57, 51, 50, 54, 51, 54, 51, 70, 70, 55, 67, 67, 51, 52, 65, 53, 69, 53, 70, 49, 55, 49, 68, 56, 51, 49, 49, 53, 48, 52, 67, 55, 50, 51, 67, 51, 49, 56, 57, 54, 48, 53, 57, 65, 48, 55, 49, 50, 56, 48, 69, 50, 69, 66, 50, 55, 66, 50, 55, 53, 48, 57, 56, 51, 50, 67, 49, 65, 49, 66, 54, 69, 53, 65, 65, 48, 53, 50, 51, 66, 68, 54, 66, 51, 50, 57, 69, 51, 50, 70, 56, 52, 53, 51, 68, 49, 48, 48, 69, 68, 50, 48, 70, 67, 66, 49, 53, 66, 54, 65, 67, 66, 66, 69, 51, 57, 52, 65, 52, 67, 53, 56, 67, 70, 68, 48, 69, 70, 65, 65, 70, 66, 52, 51, 52, 68, 51, 51, 56, 53, 52, 53, 70, 57, 48, 50, 55, 70, 53, 48, 51, 67, 57, 70, 65, 56, 53, 49, 65, 51, 52, 48, 56, 70, 57, 50, 57, 68, 51, 56, 70, 53, 66, 67, 66, 54, 68, 65, 50, 49, 49, 48, 70, 70, 70, 51, 68, 50, 67, 68, 48, 67, 49, 51, 69, 67, 53, 70, 57, 55, 52, 52, 49, 55, 67, 52, 65, 55, 55, 69, 51, 68, 54, 52, 53, 68, 49, 57, 55, 51, 54, 48, 56, 49, 52, 70, 68, 67, 50, 50, 50, 65, 57, 48, 56, 56, 52, 54, 69, 69, 66, 56, 49, 52, 68, 69, 53, 69, 48, 66, 68, 66, 69, 48, 51, 50, 51, 65, 48, 65, 52, 57, 48, 54, 50, 52, 53, 67, 67, 50, 68, 51, 65, 67, 54, 50, 57, 49, 57, 53, 69, 52, 55, 57, 69, 55, 67, 56, 51, 55, 54, 68, 56, 68, 68, 53, 52, 69, 65, 57, 54, 67, 53, 54, 70, 52, 69, 65, 54, 53, 55, 65, 65, 69, 48, 56, 66, 65, 55, 56, 50, 53, 50, 69, 49, 67, 65, 54, 66, 52, 67, 54, 69, 56, 68, 68, 55, 52, 49, 70, 52, 66, 66, 68, 56, 66, 56, 65, 55, 48, 51, 69, 66, 53, 54, 54, 52, 56, 48, 51, 70, 54, 48, 69, 54, 49, 51, 53, 53, 55, 66, 57, 56, 54, 67, 49, 49, 68, 57, 69, 69, 49, 70, 56, 57, 56, 49, 49, 54, 57, 68, 57, 56, 69, 57, 52, 57, 66, 49, 69, 56, 55, 69, 57, 67, 69, 53, 53, 50, 56, 68, 70, 56, 67, 65, 49, 56, 57, 48, 68, 66, 70, 69, 54, 52, 50, 54, 56, 52, 49, 57, 57, 50, 68, 48, 70, 66, 48, 53, 52, 66, 66, 49, 54]⟩ : ByteArray)).bind fun bt1 => (some bt1.1)
theorem clavigerref06_Table.mono : ∀ k, LeO (clavigerref06_Table.f k ) (clavigerref06_Table.f (k + 1) ) := by
 intro  k
 unfold clavigerref06_Table.f
 repeat' first
   | (with_reducible exact clavigerref02_Unhex.mono _ _)
   | (with_reducible exact LeO.refl _)
   | (with_reducible exact LeO.none _)
   | (with_reducible refine LeO.ite ?_ ?_)
   | (with_reducible refine LeO.bind ?_ (fun _ => ?_))
end Go.Proofs.Ytokkhnjedmlbhaa.Pr
end
section
namespace Go.Proofs.Ytokkhnjedmlbhaa.Pr
open Go.RowKit Go.Proofs.YtokkhnjedmlbhaaW.PrintWords Go.Proofs.YtokkhnjedmlbhaaW.PrintLast Go.Proofs.YtokkhnjedmlbhaaW.PrintMore Go.Proofs.YtokkhnjedmlbhaaHw
/-- n rounds more, from p and q on. -/
def tabL (k : Nat) (third : Int) : Nat → Int → Int → List Int → Option (List Int)
  | 0, _, _, xs => some xs
  | n + 1, p, q, xs => (sbox_mixed.f q).bind fun m => (field_Mul.f k p 3).bind fun p' => (field_Mul.f k q third).bind fun q' => if 0 ≤ p then if p < 256 then tabL k third n p' q' (xs.set p.toNat m) else none else none
def sbox_Table.f (k : Nat) : Option ByteArray := (field_Inv.f k 3).bind fun third => (tabL k third 255 1 1 (List.replicate 256 0)).map fun xs => strOfNums (xs.set 0 99)
theorem tabL_mono (k : Nat) (third : Int) : ∀ n p q xs, LeO (tabL k third n p q xs) (tabL (k + 1) third n p q xs)
  | 0, _, _, _ => LeO.refl _
  | n + 1, p, q, xs => by
    simp only [tabL]
    exact LeO.bind (LeO.refl _) fun m => LeO.bind (field_Mul.mono _ _ _) fun p' => LeO.bind (field_Mul.mono _ _ _) fun q' => LeO.ite (LeO.ite (tabL_mono k third n p' q' _) (LeO.none _)) (LeO.none _)
theorem sbox_Table.mono : ∀ k, LeO (sbox_Table.f k) (sbox_Table.f (k + 1)) := fun k => LeO.bind (field_Inv.mono _ _) fun third => LeO.map _ (tabL_mono k third _ _ _ _)
theorem map_set_u8 (xs : List Int) (i : Nat) (v : Int) : ((xs.map (Value.int .u8)).toArray.setIfInBounds i (.int .u8 v)) = (((xs.set i v).map (Value.int .u8)).toArray) := by
  apply Array.ext'
  simp only [Array.toList_setIfInBounds]
  exact (List.map_set).symm
theorem row_get (xs : List Int) (i : Nat) (h : i < xs.length) : (xs.map (Value.int .u8)).toArray[i]? = some (.int .u8 (xs.getD i 0)) := by
  simp [h]
set_option maxHeartbeats 1000000 in
set_option maxRecDepth 100000 in
theorem sbox_Table.calls (k : Nat) (r : ByteArray) (w : World) (h : sbox_Table.f k = some r) :
    Calls Try.prog 70 #[] w fun e w' => e = .returned (.string r) ∧ Below w.heap.size w w' := by
  unfold sbox_Table.f at h
  replace h := Option.bind_eq_some_iff.1 h
  obtain ⟨third, h3, h⟩ := h
  replace h := Option.map_eq_some_iff.1 h
  obtain ⟨xs, hx, hr⟩ := h
  subst hr
  have H3 := Aside0.mk h3
  have HX := Aside0.mk hx
  clear h3 hx
  go_enter Try.func70, Try.ntmps70
  go_wp2_with (go_at_call 47; refine (field_Inv.calls k _ _ _ H3.out).mono ?_; rintro e w1 ⟨rfl, hd⟩)
  obtain ⟨nd, rfl⟩ := hd.out
  have hz : Try.zeroCells93 = ((List.replicate 256 (0 : Int)).map (Value.int .u8)).toArray := by kernel_rfl
  have hb0 : ((w.alloc (.cells Try.zeroCells93 93)).drewN nd).heap[w.heap.size]? = some (.cells ((List.replicate 256 (0 : Int)).map (Value.int .u8)).toArray 93 (0, 0)) := by
    rw [← hz]; exact heap_alloc_new w _
  have HK0 := Aside0.mk hb0
  have HL0 := Aside0.mk (pw_below_drewN ((Below.refl w.heap.size w).alloc (Nat.le_refl _) (.cells Try.zeroCells93 93)) nd)
  clear hz hb0 hd
  go_loopw [3, 4, 6] (fun vp vq i wr => ∃ (j : Nat) (p q : Int) (ys : List Int), j ≤ 255 ∧ vp = .int .u8 p ∧ vq = .int .u8 q ∧ i = .int .i64 j ∧ Aside0 (tabL k third (255 - j) p q ys = some xs) ∧ Aside0 (ys.length = 256) ∧ Aside0 (wr.heap[w.heap.size]? = some (.cells (ys.map (Value.int .u8)).toArray 93 (0, 0))) ∧ Aside0 (Below w.heap.size w wr)) (fun _ _ i _ => 255 - (intOf i).toNat)
  case atStart => exact ⟨0, 1, 1, _, by omega, rfl, rfl, rfl, HX, ⟨by rw [List.length_replicate]⟩, HK0, HL0⟩
  case round =>
    clear HX HK0 HL0
    obtain ⟨j, p, q, ys, hj, rfl, rfl, rfl, HX, HY, HK, HB⟩ := hrel
    by_cases hlt : j < 255
    · have hx := HX.out
      rw [show 255 - j = (255 - (j + 1)) + 1 by omega] at hx
      simp only [tabL] at hx
      replace hx := Option.bind_eq_some_iff.1 hx
      obtain ⟨m, hm, hx⟩ := hx
      replace hx := Option.bind_eq_some_iff.1 hx
      obtain ⟨p', hp', hx⟩ := hx
      replace hx := Option.bind_eq_some_iff.1 hx
      obtain ⟨q', hq', hx⟩ := hx
      split at hx
      case isFalse => cases hx
      case isTrue h0 =>
      split at hx
      case isFalse => cases hx
      case isTrue h1 =>
      obtain ⟨pn, rfl⟩ := Int.eq_ofNat_of_zero_le h0
      rw [Int.toNat_natCast] at hx
      have HM := Aside0.mk hm
      have HP := Aside0.mk hp'
      have HQ := Aside0.mk hq'
      have HX1 := Aside0.mk hx
      clear HX hx hm hp' hq'
      have hpn : pn < 256 := by omega
      have HC : Aside0 (∀ n2, (wr.drewN n2).cell? ⟨w.heap.size, pn, none⟩ = some (.int .u8 (ys.getD pn 0))) := ⟨fun n2 => (blk_cell (w := wr.drewN n2) HK.out pn).trans (row_get ys pn (by rw [HY.out]; exact hpn))⟩
      have HF : Aside0 (∀ n2, (wr.drewN n2).frozen? ⟨w.heap.size, pn, none⟩ = false) := ⟨fun n2 => blk_frozen (w := wr.drewN n2) HK.out pn⟩
      go_wp2_with (go_at_call 172; refine (sbox_mixed.calls _ _ _ HM.out).mono ?_; rintro e w2 ⟨rfl, hd⟩; obtain ⟨n2, rfl⟩ := hd.out; clear hd; have hc := HC.out n2; have hf := HF.out n2)
      go_wp2_with (first | (go_at_call 43; (with_reducible refine (field_Mul.calls k _ _ _ _ HP.out).mono ?_); rintro e w3 ⟨rfl, hd⟩; obtain ⟨n3, rfl⟩ := hd.out; clear hd) | (go_at_call 43; (with_reducible refine (field_Mul.calls k _ _ _ _ HQ.out).mono ?_); rintro e w3 ⟨rfl, hd⟩; obtain ⟨n3, rfl⟩ := hd.out; clear hd))
      rename_i n1
      refine ⟨⟨j + 1, p', q', ys.set pn m, by omega, rfl, rfl, by go_num, HX1, ⟨by rw [List.length_set]; exact HY.out⟩, ⟨?_⟩, ⟨?_⟩⟩, by simp [intOf]; omega⟩
      · rw [← map_set_u8]
        exact blk_set (w := wr.drewN n2) HK.out pn _
      · exact pw_below_drewN (below_set (pw_below_drewN HB.out n2) (Nat.le_refl _)) _
    · obtain rfl : j = 255 := by omega
      have hx : ys = xs := by simpa [tabL] using HX.out
      subst hx
      clear HX
      have hc : wr.cell? ⟨w.heap.size, 0, none⟩ = some (.int .u8 (ys.getD 0 0)) := (blk_cell HK.out 0).trans (row_get ys 0 (by rw [HY.out]; omega))
      have hf : wr.frozen? ⟨w.heap.size, 0, none⟩ = false := blk_frozen HK.out 0
      have hb := blk_set HK.out 0 (.int .u8 99)
      rw [map_set_u8] at hb
      have hlen : (ys.set 0 99).length = 256 := by rw [List.length_set]; exact HY.out
      have hcv := run_convert_bytes_arg (P := Try.prog) (wr.setCell ⟨w.heap.size, 0, none⟩ (.int .u8 99)) 66 5 Try.underlying66 Try.underlying5 w.heap.size 0 256 256 (ys.set 0 99) hlen (fun i hi => by
        rw [Nat.zero_add, blk_cell hb i]
        exact row_get _ i (by rw [hlen]; exact hi)) 9 Try.underlying9
      clear hb hlen
      go_wp2
      go_ret
      exact ⟨rfl, below_set HB.out (Nat.le_refl _)⟩
end Go.Proofs.Ytokkhnjedmlbhaa.Pr
end
section
namespace Go.Proofs.Ytokkhnjedmlbhaa.M
open Go.RowKit Go.Proofs.Ytokkhnjedmlbhaa.Pr Go.Proofs.YtokkhnjedmlbhaaW.PrintWords Go.Proofs.YtokkhnjedmlbhaaW.PrintLast Go.Proofs.YtokkhnjedmlbhaaW.PrintMore Go.Proofs.YtokkhnjedmlbhaaGf
/-- A byte, turned by m. -/
def rot (a m : Nat) : Nat := (a * 2 ^ m) % 256 + a / 2 ^ (8 - m)
theorem and7 (n : Int) : Go.bits .and .i64 n 7 = n % 8 := by
  have h0 : 0 ≤ n % 18446744073709551616 := Int.emod_nonneg _ (by omega)
  have h1 : n % 18446744073709551616 < 18446744073709551616 := Int.emod_lt_of_pos _ (by omega)
  show IntKind.i64.wrap (((BitVec.ofInt 64 n) &&& (BitVec.ofInt 64 7)).toNat : Int) = _
  have h7 : (BitVec.ofInt 64 7).toNat = 2 ^ 3 - 1 := by decide
  rw [BitVec.toNat_and, h7, Nat.and_two_pow_sub_one_eq_mod, BitVec.toNat_ofInt, IntKind.wrap_i64]
  rw [show ((2 ^ 64 : Nat) : Int) = 18446744073709551616 from rfl]
  omega
def mixN (b : Nat) : Nat := b ^^^ rot b 1 ^^^ rot b 2 ^^^ rot b 3 ^^^ rot b 4 ^^^ 99
theorem mixed_all : allB 256 (fun b => decide (sbox_mixed.f (b : Int) = some ((mixN b : Nat) : Int)) && Nat.blt (mixN b) 256) = true := by decide +kernel
theorem mixN_lt {b : Nat} (hb : b < 256) : mixN b < 256 := by
  have := allB_of mixed_all b hb
  simp only [Bool.and_eq_true] at this
  exact Nat.le_of_ble_eq_true this.2
def sN (a : Nat) : Nat := mixN (inv a)
theorem sN_lt (a : Nat) : sN a < 256 := mixN_lt (inv_lt a)
def backN (a : Nat) : Nat := rot a 1 ^^^ rot a 3 ^^^ rot a 6 ^^^ 5
def bN (a : Nat) : Nat := inv (backN a)
theorem bN_lt (a : Nat) : bN a < 256 := inv_lt _
/-- All bytes for which bytes stand. -/
def sT : List Nat := (List.range 256).map sN
theorem back_all : allB 256 (fun a => Nat.beq (bN (sN a)) a && Nat.beq (sN (bN a)) a && !Nat.beq (sN a) a && !Nat.beq (sN a ^^^ a) 255) = true := by decide +kernel
theorem bs_id {a : Nat} (ha : a < 256) : bN (sN a) = a ∧ sN (bN a) = a ∧ sN a ≠ a ∧ sN a ^^^ a ≠ 255 := by
  have h := allB_of back_all a ha
  simp only [Bool.and_eq_true, Bool.not_eq_true'] at h
  exact ⟨Nat.eq_of_beq_eq_true h.1.1.1, Nat.eq_of_beq_eq_true h.1.1.2, (fun e => by have h2 := h.1.2; rw [e, Nat.beq_refl] at h2; cases h2), (fun e => by have h2 := h.2; rw [e] at h2; exact absurd h2 (by decide))⟩
theorem isB_map {f : Nat → Nat} (h : ∀ a, f a < 256) (l : List Nat) : isB (l.map f) := by
  intro x hx
  obtain ⟨a, _, rfl⟩ := List.mem_map.1 hx
  exact h a
theorem rsub_all : allB 256 (fun a => decide (clavigerref06_Sub.f 20 (a : Int) = some ((sN a : Nat) : Int))) = true := by decide +kernel
theorem rsub_c {a : Nat} (ha : a < 256) : Ev (fun k => clavigerref06_Sub.f k (a : Int)) ((sN a : Nat) : Int) := Ev.of (fun k => clavigerref06_Sub.mono _ k) (k := 20) (of_decide_eq_true (allB_of rsub_all a ha))
theorem rback_all : allB 256 (fun a => decide (clavigerref06_Back.f 20 (a : Int) = some ((bN a : Nat) : Int))) = true := by decide +kernel
theorem rback_c {a : Nat} (ha : a < 256) : Ev (fun k => clavigerref06_Back.f k (a : Int)) ((bN a : Nat) : Int) := Ev.of (fun k => clavigerref06_Back.mono _ k) (k := 20) (of_decide_eq_true (allB_of rback_all a ha))
end Go.Proofs.Ytokkhnjedmlbhaa.M
end
section
namespace Go.Proofs.Ytokkhnjedmlbhaa.M
open Go.RowKit Go.Proofs.Ytokkhnjedmlbhaa.Pr Go.Proofs.YtokkhnjedmlbhaaW.PrintWords Go.Proofs.YtokkhnjedmlbhaaW.PrintLast Go.Proofs.YtokkhnjedmlbhaaW.PrintMore Go.Proofs.YtokkhnjedmlbhaaGf
theorem rSubsL (d : Nat) : ∀ (i : Nat) (s : ByteArray), s.size ≤ 140737488355328 → i ≤ s.size → s.size - i = d → Ev (fun k => clavigerref06_Subs.l0 k s (mkB (((nb s).take i).map sN)) (i : Int)) (mkB ((nb s).map sN)) := by
  induction d with
  | zero =>
    intro i s hs hi hd
    obtain rfl : i = s.size := by omega
    rw [List.take_of_length_le (by rw [nb_length]; exact Nat.le_refl _)]
    exact Ev.step (f := fun _ => some (mkB ((nb s).map sN))) (fun k => by simp only [clavigerref06_Subs.l0]; rw [if_neg (by omega)]) (Ev.now _)
  | succ d ih =>
    intro i s hs hi hd
    have hl : i < (nb s).length := by rw [nb_length]; omega
    have hh := ih (i + 1) s hs (by omega) (by omega)
    rw [List.take_succ_eq_append_getElem hl, List.map_append, ← mkB_append] at hh
    refine Ev.step (f := fun k => (clavigerref06_Sub.f k (bt s (i : Int))).bind fun t185 => ((some (([t185] : List Int) : List Int)).bind fun y186 => (if (mkB (((nb s).take i).map sN)).size + (strOfNums y186).size ≤ 9223372036854775807 then (clavigerref06_Subs.l0 k s (mkB (((nb s).take i).map sN) ++ (strOfNums y186)) (wrap64 ((i : Int) + 1))) else (none)))) (fun k => by simp only [clavigerref06_Subs.l0]; rw [if_pos (by omega), if_pos (by omega)]) ?_
    have e : bb s i = (nb s)[i] := by rw [bb_nb, List.getD_eq_getElem?_getD, List.getElem?_eq_getElem hl]; rfl
    rw [bt_bb]
    refine evb (rsub_c (bb_lt s i)) (evs rfl ?_)
    rw [show strOfNums [((sN (bb s i) : Nat) : Int)] = mkB [sN (bb s i)] from strOfNums_cast [sN (bb s i)]]
    refine evp (by rw [mkB_size, mkB_size, List.length_map, List.length_take]; simp; omega) ?_
    rw [wrap_id (by omega) (by omega), e]
    exact hh
theorem rSubs_c (s : ByteArray) (hs : s.size ≤ 140737488355328) : Ev (fun k => clavigerref06_Subs.f k s) (mkB ((nb s).map sN)) := rSubsL s.size 0 s hs (by omega) (by omega)
theorem rBacksL (d : Nat) : ∀ (i : Nat) (s : ByteArray), s.size ≤ 140737488355328 → i ≤ s.size → s.size - i = d → Ev (fun k => clavigerref06_Backs.l0 k s (mkB (((nb s).take i).map bN)) (i : Int)) (mkB ((nb s).map bN)) := by
  induction d with
  | zero =>
    intro i s hs hi hd
    obtain rfl : i = s.size := by omega
    rw [List.take_of_length_le (by rw [nb_length]; exact Nat.le_refl _)]
    exact Ev.step (f := fun _ => some (mkB ((nb s).map bN))) (fun k => by simp only [clavigerref06_Backs.l0]; rw [if_neg (by omega)]) (Ev.now _)
  | succ d ih =>
    intro i s hs hi hd
    have hl : i < (nb s).length := by rw [nb_length]; omega
    have hh := ih (i + 1) s hs (by omega) (by omega)
    rw [List.take_succ_eq_append_getElem hl, List.map_append, ← mkB_append] at hh
    refine Ev.step (f := fun k => (clavigerref06_Back.f k (bt s (i : Int))).bind fun t185 => ((some (([t185] : List Int) : List Int)).bind fun y186 => (if (mkB (((nb s).take i).map bN)).size + (strOfNums y186).size ≤ 9223372036854775807 then (clavigerref06_Backs.l0 k s (mkB (((nb s).take i).map bN) ++ (strOfNums y186)) (wrap64 ((i : Int) + 1))) else (none)))) (fun k => by simp only [clavigerref06_Backs.l0]; rw [if_pos (by omega), if_pos (by omega)]) ?_
    have e : bb s i = (nb s)[i] := by rw [bb_nb, List.getD_eq_getElem?_getD, List.getElem?_eq_getElem hl]; rfl
    rw [bt_bb]
    refine evb (rback_c (bb_lt s i)) (evs rfl ?_)
    rw [show strOfNums [((bN (bb s i) : Nat) : Int)] = mkB [bN (bb s i)] from strOfNums_cast [bN (bb s i)]]
    refine evp (by rw [mkB_size, mkB_size, List.length_map, List.length_take]; simp; omega) ?_
    rw [wrap_id (by omega) (by omega), e]
    exact hh
theorem rBacks_c (s : ByteArray) (hs : s.size ≤ 140737488355328) : Ev (fun k => clavigerref06_Backs.f k s) (mkB ((nb s).map bN)) := rBacksL s.size 0 s hs (by omega) (by omega)
theorem table_all : sbox_Table.f 300 = some (mkB sT) := by decide +kernel
theorem table_c : Ev (fun k => sbox_Table.f k) (mkB sT) := Ev.of sbox_Table.mono (k := 300) table_all
end Go.Proofs.Ytokkhnjedmlbhaa.M
end
