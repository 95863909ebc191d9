/-
  equal.Scan tells whether two texts are the same. Plain.
-/
import Derived.Test.YtokkhnjedmlbhaaZEqScan
import Derived.Test.YtokkhnjedmlbhaaZXorP
import Derived.Laws.BitsAllLaws
import Derived.Test.YtokkhnjedmlbhaaZPrg01x
namespace Go.Proofs.Ytokkhnjedmlbhaa.M
open Go.RowKit Go.Proofs.Ytokkhnjedmlbhaa.Pr Go.Proofs.YtokkhnjedmlbhaaW.PrintWords Go.Proofs.YtokkhnjedmlbhaaW.PrintLast Go.Proofs.YtokkhnjedmlbhaaW.PrintMore Go.Proofs.YtokkhnjedmlbhaaGf
def n0 (s : ByteArray) (i : Nat) : Nat := if i < s.size then bb s i else 0
def n1 (s : ByteArray) (i : Nat) : Nat := if i < s.size then 1 else 0
theorem at0_n (s : ByteArray) (i : Nat) : at0 s (i : Int) = ((n0 s i : Nat) : Int) := by
  unfold at0 n0
  by_cases h : i < s.size
  · rw [if_pos (by omega), if_pos h, bt_bb]
  · rw [if_neg (by omega), if_neg h]; rfl
theorem at1_n (s : ByteArray) (i : Nat) : at1 s (i : Int) = ((n1 s i : Nat) : Int) := by
  unfold at1 n1
  by_cases h : i < s.size
  · rw [if_pos (by omega), if_pos h]; rfl
  · rw [if_neg (by omega), if_neg h]; rfl
theorem n0_lt (s : ByteArray) (i : Nat) : n0 s i < 256 := by
  unfold n0
  split
  · exact bb_lt s i
  · omega
theorem n1_lt (s : ByteArray) (i : Nat) : n1 s i < 256 := by unfold n1; split <;> omega
theorem or_lt8 {a b : Nat} (ha : a < 256) (hb : b < 256) : a ||| b < 256 := Nat.or_lt_two_pow (n := 8) ha hb
def scN (a b : ByteArray) : Nat → Nat
  | 0 => 0
  | k + 1 => scN a b k ||| ((n0 a k ^^^ n0 b k) ||| (n1 a k ^^^ n1 b k))
theorem scN_lt (a b : ByteArray) (k : Nat) : scN a b k < 256 := by
  induction k with
  | zero => show 0 < 256; omega
  | succ k ih => exact or_lt8 ih (or_lt8 (xor_lt (n0_lt a k) (n0_lt b k)) (xor_lt (n1_lt a k) (n1_lt b k)))
theorem scan_n (a b : ByteArray) (k : Nat) : scanTo a b k = ((scN a b k : Nat) : Int) := by
  induction k with
  | zero => rfl
  | succ k ih =>
    show Go.bits .or .u8 (scanTo a b k) (Go.bits .or .u8 (Go.bits .xor .u8 (at0 a k) (at0 b k)) (Go.bits .xor .u8 (at1 a k) (at1 b k))) = _
    rw [ih, at0_n, at0_n, at1_n, at1_n, u8_xor_nat _ _ (n0_lt a k) (n0_lt b k), u8_xor_nat _ _ (n1_lt a k) (n1_lt b k), u8_or_nat _ _ (xor_lt (n0_lt a k) (n0_lt b k)) (xor_lt (n1_lt a k) (n1_lt b k)), u8_or_nat _ _ (scN_lt a b k) (or_lt8 (xor_lt (n0_lt a k) (n0_lt b k)) (xor_lt (n1_lt a k) (n1_lt b k)))]
    rfl
theorem xor_zero_iff {a b : Nat} : a ^^^ b = 0 ↔ a = b := by
  constructor
  · intro h
    have : (a ^^^ b) ^^^ b = 0 ^^^ b := by rw [h]
    rwa [Nat.xor_assoc, Nat.xor_self, Nat.xor_zero, Nat.zero_xor] at this
  · rintro rfl; exact Nat.xor_self a
theorem scN_zero (a b : ByteArray) (k : Nat) : scN a b k = 0 ↔ ∀ j, j < k → n0 a j = n0 b j ∧ n1 a j = n1 b j := by
  induction k with
  | zero => exact ⟨fun _ j hj => absurd hj (by omega), fun _ => rfl⟩
  | succ k ih =>
    show (scN a b k ||| ((n0 a k ^^^ n0 b k) ||| (n1 a k ^^^ n1 b k))) = 0 ↔ _
    rw [Nat.or_eq_zero_iff, Nat.or_eq_zero_iff, ih, xor_zero_iff, xor_zero_iff]
    constructor
    · rintro ⟨h1, h2⟩ j hj
      by_cases e : j = k
      · subst e; exact h2
      · exact h1 j (by omega)
    · intro h
      exact ⟨fun j hj => h j (by omega), h k (by omega)⟩
theorem same_of {a b : ByteArray} (hs : a.size = b.size) (h : ∀ j, j < a.size → bb a j = bb b j) : a = b := by
  rw [← mkB_nb a, ← mkB_nb b]
  congr 1
  apply List.ext_getElem (by rw [nb_length, nb_length, hs])
  intro i h1 h2
  have := h i (by rw [nb_length] at h1; exact h1)
  rw [bb_nb, bb_nb, List.getD_eq_getElem?_getD, List.getD_eq_getElem?_getD, List.getElem?_eq_getElem h1, List.getElem?_eq_getElem h2] at this
  exact this
theorem scan_c (a b : ByteArray) (ha : a.size < 1000000000) (hb : b.size < 1000000000) : equal_Scan.f a b = some (decide (a = b), mx (a.size : Int) (b.size : Int)) := by
  unfold equal_Scan.f
  rw [if_pos (by omega), if_pos (by omega), scan_n]
  congr 2
  by_cases e : a = b
  · rw [decide_eq_true e]
    have : scN a b (max a.size b.size) = 0 := (scN_zero _ _ _).2 (fun j _ => by rw [e]; exact ⟨rfl, rfl⟩)
    rw [this]; rfl
  · rw [decide_eq_false e]
    refine beq_eq_false_iff_ne.mpr (fun h => e ?_)
    have h0 : scN a b (max a.size b.size) = 0 := by omega
    have hh := (scN_zero _ _ _).1 h0
    have hs : a.size = b.size := by
      by_cases h1 : a.size < b.size
      · have := (hh a.size (by omega)).2
        unfold n1 at this
        rw [if_neg (by omega), if_pos h1] at this
        omega
      · by_cases h2 : b.size < a.size
        · have := (hh b.size (by omega)).2
          unfold n1 at this
          rw [if_pos h2, if_neg (by omega)] at this
          omega
        · omega
    refine same_of hs (fun j hj => ?_)
    have := (hh j (by omega)).1
    unfold n0 at this
    rwa [if_pos hj, if_pos (by omega)] at this
end Go.Proofs.Ytokkhnjedmlbhaa.M
