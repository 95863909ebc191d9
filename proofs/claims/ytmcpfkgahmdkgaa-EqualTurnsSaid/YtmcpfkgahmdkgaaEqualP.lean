/-
  The two laws of equal, plain: what is printed comes to true.
-/
import Derived.Test.YtmcpfkgahmdkgaaPlain
import Derived.Test.YtmcpfkgahmdkgaaUnl
import Derived.Test.YtmcpfkgahmdkgaaEqScan
import Derived.Laws.BitsAllLaws
import Derived.Test.YtmcpfkgahmdkgaaPrx0
import Derived.Test.YtmcpfkgahmdkgaaPrx6
import Derived.Test.YtmcpfkgahmdkgaaPrx7
namespace Go.Proofs.Ytmcpfkgahmdkgaa.M
open Go.RowKit Go.Proofs.Ytmcpfkgahmdkgaa.Pr Go.Proofs.YtmcpfkgahmdkgaaW.PrintWords Go.Proofs.YtmcpfkgahmdkgaaW.PrintLast Go.Proofs.YtmcpfkgahmdkgaaW.PrintMore
/-- The byte at a place and whether there is one, as natural numbers. -/
def n0 (s : ByteArray) (i : Nat) : Nat := if i < s.size then bb s i else 0
def n1 (s : ByteArray) (i : Nat) : Nat := if i < s.size then 1 else 0
theorem at0_n (s : ByteArray) (i : Nat) : at0 s (i : Int) = ((n0 s i : Nat) : Int) := by
  unfold at0 n0
  by_cases h : i < s.size
  · rw [if_pos (by omega), if_pos h]; exact bt_bb s i
  · rw [if_neg (by omega), if_neg h]; rfl
theorem at1_n (s : ByteArray) (i : Nat) : at1 s (i : Int) = ((n1 s i : Nat) : Int) := by
  unfold at1 n1
  by_cases h : i < s.size
  · rw [if_pos (by omega), if_pos h]; rfl
  · rw [if_neg (by omega), if_neg h]; rfl
theorem n0_lt (s : ByteArray) (i : Nat) : n0 s i < 256 := by
  unfold n0
  split
  · exact bb_lt s i
  · omega
theorem n1_lt (s : ByteArray) (i : Nat) : n1 s i < 256 := by unfold n1; split <;> omega
theorem unl_false (a b : ByteArray) (i : Nat) : unl a b (i : Int) = false ↔ n0 a i = n0 b i ∧ n1 a i = n1 b i := by
  show ((!(at0 a i == at0 b i)) || !(at1 a i == at1 b i)) = false ↔ _
  rw [at0_n, at1_n, at0_n, at1_n]
  simp
  omega
theorem unl_comm (a b : ByteArray) (i : Int) : unl a b i = unl b a i := by
  show (!(at0 a i == at0 b i) || !(at1 a i == at1 b i)) = (!(at0 b i == at0 a i) || !(at1 b i == at1 a i))
  rw [Bool.beq_comm (a := at0 a i), Bool.beq_comm (a := at1 a i)]
theorem or_lt {a b : Nat} (ha : a < 256) (hb : b < 256) : a ||| b < 256 := Nat.or_lt_two_pow (n := 8) ha hb
theorem xr_lt {a b : Nat} (ha : a < 256) (hb : b < 256) : a ^^^ b < 256 := Nat.xor_lt_two_pow (n := 8) ha hb
def scN (a b : ByteArray) : Nat → Nat
  | 0 => 0
  | k + 1 => scN a b k ||| ((n0 a k ^^^ n0 b k) ||| (n1 a k ^^^ n1 b k))
theorem scN_lt (a b : ByteArray) (k : Nat) : scN a b k < 256 := by
  induction k with
  | zero => show 0 < 256; omega
  | succ k ih => exact or_lt ih (or_lt (xr_lt (n0_lt a k) (n0_lt b k)) (xr_lt (n1_lt a k) (n1_lt b k)))
theorem scan_n (a b : ByteArray) (k : Nat) : scanTo a b k = ((scN a b k : Nat) : Int) := by
  induction k with
  | zero => rfl
  | succ k ih =>
    show Go.bits .or .u8 (scanTo a b k) (Go.bits .or .u8 (Go.bits .xor .u8 (at0 a k) (at0 b k)) (Go.bits .xor .u8 (at1 a k) (at1 b k))) = _
    rw [ih, at0_n, at0_n, at1_n, at1_n, u8_xor_nat _ _ (n0_lt a k) (n0_lt b k), u8_xor_nat _ _ (n1_lt a k) (n1_lt b k), u8_or_nat _ _ (xr_lt (n0_lt a k) (n0_lt b k)) (xr_lt (n1_lt a k) (n1_lt b k)), u8_or_nat _ _ (scN_lt a b k) (or_lt (xr_lt (n0_lt a k) (n0_lt b k)) (xr_lt (n1_lt a k) (n1_lt b k)))]
    rfl
theorem xor_zero {a b : Nat} : a ^^^ b = 0 ↔ a = b := by
  constructor
  · intro h
    have : (a ^^^ b) ^^^ b = 0 ^^^ b := by rw [h]
    rwa [Nat.xor_assoc, Nat.xor_self, Nat.xor_zero, Nat.zero_xor] at this
  · rintro rfl; exact Nat.xor_self a
theorem scN_zero (a b : ByteArray) (k : Nat) : scN a b k = 0 ↔ ∀ j, j < k → unl a b (j : Int) = false := by
  induction k with
  | zero => exact ⟨fun _ j hj => absurd hj (by omega), fun _ => rfl⟩
  | succ k ih =>
    show (scN a b k ||| ((n0 a k ^^^ n0 b k) ||| (n1 a k ^^^ n1 b k))) = 0 ↔ _
    rw [Nat.or_eq_zero_iff, Nat.or_eq_zero_iff, ih, xor_zero, xor_zero, ← unl_false]
    constructor
    · rintro ⟨h1, h2⟩ j hj
      by_cases e : j = k
      · subst e; exact h2
      · exact h1 j (by omega)
    · intro h
      exact ⟨fun j hj => h j (by omega), h k (by omega)⟩
/-- At how many places two are unlike. -/
def cnN (a b : ByteArray) : Nat → Nat
  | 0 => 0
  | k + 1 => if unl a b (k : Int) = true then cnN a b k + 1 else cnN a b k
theorem cnN_le (a b : ByteArray) (k : Nat) : cnN a b k ≤ k := by
  induction k with
  | zero => exact Nat.le_refl _
  | succ k ih =>
    unfold cnN
    split <;> omega
theorem cnt_n (a b : ByteArray) (k : Nat) (hk : k ≤ 140737488351232) : cntU a b k = ((cnN a b k : Nat) : Int) := by
  induction k with
  | zero => rfl
  | succ k ih =>
    have := cnN_le a b k
    have ih := ih (by omega)
    by_cases h : unl a b (k : Int) = true
    · rw [show cntU a b (k + 1) = wrap64 (cntU a b k + 1) from if_pos h, show cnN a b (k + 1) = cnN a b k + 1 from if_pos h, ih, wrap_id (by omega) (by omega)]
      rfl
    · rw [show cntU a b (k + 1) = cntU a b k from if_neg h, show cnN a b (k + 1) = cnN a b k from if_neg h, ih]
theorem cnN_zero (a b : ByteArray) (k : Nat) : cnN a b k = 0 ↔ ∀ j, j < k → unl a b (j : Int) = false := by
  induction k with
  | zero => exact ⟨fun _ j hj => absurd hj (by omega), fun _ => rfl⟩
  | succ k ih =>
    by_cases h : unl a b (k : Int) = true
    · rw [show cnN a b (k + 1) = cnN a b k + 1 from if_pos h]
      exact ⟨fun e => by omega, fun e => by rw [e k (by omega)] at h; cases h⟩
    · rw [show cnN a b (k + 1) = cnN a b k from if_neg h, ih]
      constructor
      · intro h1 j hj
        by_cases e : j = k
        · subst e; simpa using h
        · exact h1 j (by omega)
      · exact fun h1 j hj => h1 j (by omega)
theorem cnN_comm (a b : ByteArray) (k : Nat) : cnN a b k = cnN b a k := by
  induction k with
  | zero => rfl
  | succ k ih => unfold cnN; rw [ih, unl_comm]
theorem fst_comm (a b : ByteArray) (k : Nat) : fstU a b k = fstU b a k := by
  induction k with
  | zero => rfl
  | succ k ih => unfold fstU; rw [ih, unl_comm]
theorem fst_none {a b : ByteArray} {k : Nat} (h : ∀ j, j < k → unl a b (j : Int) = false) : fstU a b k = -1 := by
  induction k with
  | zero => rfl
  | succ k ih =>
    rw [show fstU a b (k + 1) = fstU a b k from if_neg (by rw [h k (by omega)]; simp)]
    exact ih (fun j hj => h j (by omega))
theorem fst_some {a b : ByteArray} {i : Nat} (hi : unl a b (i : Int) = true) (h : ∀ j, j < i → unl a b (j : Int) = false) : ∀ k, i < k → fstU a b k = (i : Int) := by
  intro k hk
  induction k with
  | zero => omega
  | succ k ih =>
    by_cases e : i = k
    · subst e
      rw [show fstU a b (i + 1) = (i : Int) from (if_pos hi).trans (if_pos (by rw [fst_none h]; omega))]
    · have ih := ih (by omega)
      by_cases hu : unl a b (k : Int) = true
      · rw [show fstU a b (k + 1) = fstU a b k from (if_pos hu).trans (if_neg (by rw [ih]; omega)), ih]
      · rw [show fstU a b (k + 1) = fstU a b k from if_neg hu, ih]
/-- Whether two are the same. -/
def same (a b : ByteArray) : Bool := scN a b (max a.size b.size) == 0
theorem same_all {a b : ByteArray} : same a b = true ↔ ∀ j, j < max a.size b.size → unl a b (j : Int) = false := by
  unfold same
  rw [beq_iff_eq]
  exact scN_zero a b _
theorem same_comm (a b : ByteArray) : same b a = same a b := by
  have h1 := @same_all a b
  have h2 := @same_all b a
  rw [Nat.max_comm] at h2
  have : same b a = true ↔ same a b = true := by
    rw [h1, h2]
    exact ⟨fun h j hj => (unl_comm a b j).trans (h j hj), fun h j hj => (unl_comm b a j).trans (h j hj)⟩
  cases h : same a b <;> cases h' : same b a <;> simp_all
theorem same_eq {a b : ByteArray} : same a b = true ↔ a = b := by
  rw [same_all]
  constructor
  · intro h
    have hs : a.size = b.size := by
      by_cases h1 : a.size < b.size
      · have := ((unl_false a b a.size).1 (h a.size (by omega))).2
        unfold n1 at this
        rw [if_neg (by omega), if_pos h1] at this
        omega
      · by_cases h2 : b.size < a.size
        · have := ((unl_false a b b.size).1 (h b.size (by omega))).2
          unfold n1 at this
          rw [if_pos h2, if_neg (by omega)] at this
          omega
        · omega
    rw [← mkB_nb a, ← mkB_nb b]
    congr 1
    apply List.ext_getElem (by rw [nb_length, nb_length, hs])
    intro i h1 h2
    rw [nb_length] at h1 h2
    have := ((unl_false a b i).1 (h i (by omega))).1
    unfold n0 at this
    rw [if_pos h1, if_pos h2, bb_nb, bb_nb, List.getD_eq_getElem?_getD, List.getD_eq_getElem?_getD, List.getElem?_eq_getElem (by rw [nb_length]; exact h1), List.getElem?_eq_getElem (by rw [nb_length]; exact h2)] at this
    exact this
  · rintro rfl j _
    exact (unl_false a a j).2 ⟨rfl, rfl⟩
theorem same_beq (a b : ByteArray) : same a b = (a.toList == b.toList) := by
  have : same a b = true ↔ (a.toList == b.toList) = true := by
    rw [same_eq, beq_iff_eq]
    constructor
    · rintro rfl; rfl
    · intro h; exact ByteArray.ext (by simpa [ByteArray.toList_eq] using h)
  cases h : same a b <;> cases h' : (a.toList == b.toList) <;> simp_all
theorem same_cn (a b : ByteArray) : same a b = (((cnN a b (max a.size b.size) : Nat) : Int) == 0) := by
  have : same a b = true ↔ (((cnN a b (max a.size b.size) : Nat) : Int) == 0) = true := by
    rw [same_all, beq_iff_eq, ← cnN_zero]
    omega
  cases h : same a b <;> cases h' : (((cnN a b (max a.size b.size) : Nat) : Int) == 0) <;> simp_all
theorem mx_c (a b : Nat) : mx (a : Int) (b : Int) = ((max a b : Nat) : Int) := by unfold mx; omega
theorem scan_c {a b : ByteArray} (ha : a.size ≤ 140737488351232) (hb : b.size ≤ 140737488351232) : equal_Scan.f a b = some (same a b, ((max a.size b.size : Nat) : Int)) := by
  unfold equal_Scan.f
  rw [if_pos (by omega), if_pos (by omega), scan_n, mx_c]
  congr 2
  unfold same
  cases h : scN a b (max a.size b.size) == 0
  · simp at h ⊢; omega
  · simp at h ⊢; omega
theorem unlike_c {a b : ByteArray} (ha : a.size ≤ 140737488351232) (hb : b.size ≤ 140737488351232) : equal_Unlike.f a b = some ((cnN a b (max a.size b.size) : Nat) : Int) := by
  unfold equal_Unlike.f
  rw [if_pos (by omega), if_pos (by omega), cnt_n a b _ (by omega)]
theorem first_c {a b : ByteArray} (ha : a.size ≤ 140737488351232) (hb : b.size ≤ 140737488351232) : equal_First.f a b = some (fstU a b (max a.size b.size)) := by
  unfold equal_First.f
  rw [if_pos (by omega), if_pos (by omega)]
theorem awake04 : Ev (fun k => clavigerlaw04_awake.f k) true := Ev.of clavigerlaw04_awake.mono (k := 20) (by decide +kernel)
theorem turns1 {a b c : ByteArray} (ha : a.size ≤ 140737488351232) (hc : c.size ≤ 140737488351232) : Ev (fun k => clavigerlaw04_EqualTurns.j1 k a b c ((max a.size b.size : Nat) : Int) false) true := by
  refine Ev.step (f := fun k => (equal_Scan.f a c).bind fun bt129 => (if (b.size : Int) = (c.size : Int) then (if bt129.2 = ((max a.size b.size : Nat) : Int) then ((clavigerlaw04_awake.f k).bind fun t131 => (some t131)) else (some false)) else ((clavigerlaw04_awake.f k).bind fun t132 => (some t132)))) (fun k => by simp only [clavigerlaw04_EqualTurns.j1]; rw [if_neg (by simp)]) ?_
  refine evs (scan_c ha hc) ?_
  by_cases h : b.size = c.size
  · exact evp (by omega) (evp (by show ((max a.size c.size : Nat) : Int) = _; rw [h]) (evb awake04 (Ev.now _)))
  · exact evn (by omega) (evb awake04 (Ev.now _))
theorem turns0 {a b c : ByteArray} (ha : a.size ≤ 140737488351232) (hb : b.size ≤ 140737488351232) (hc : c.size ≤ 140737488351232) (x : Bool) : Ev (fun k => clavigerlaw04_EqualTurns.j0 k a b c x) true := by
  cases x with
  | true => exact Ev.step (f := fun k => (clavigerlaw04_awake.f k).bind fun t119 => (some t119)) (fun k => by simp only [clavigerlaw04_EqualTurns.j0]; exact if_pos True.intro) (evb awake04 (Ev.now _))
  | false =>
    have s2 := scan_c hb ha
    rw [same_comm a b, Nat.max_comm] at s2
    have u2 := unlike_c hb ha
    rw [cnN_comm b a, Nat.max_comm] at u2
    have f2 := first_c hb ha
    rw [fst_comm b a, Nat.max_comm] at f2
    refine Ev.step (f := fun k => (equal_Scan.f a b).bind fun bt120 => ((equal_Scan.f b a).bind fun bt122 => (if (bt120.1 != bt122.1) = true then (clavigerlaw04_EqualTurns.j1 k a b c bt120.2 true) else (if bt120.2 = bt122.2 then (if (bt120.1 != (a.toList == b.toList)) = true then (clavigerlaw04_EqualTurns.j1 k a b c bt120.2 true) else ((equal_Unlike.f a b).bind fun t124 => (if (bt120.1 != (t124 == 0)) = true then (clavigerlaw04_EqualTurns.j1 k a b c bt120.2 true) else ((equal_Unlike.f a b).bind fun t125 => ((equal_Unlike.f b a).bind fun t126 => (if t125 = t126 then ((equal_First.f a b).bind fun t127 => ((equal_First.f b a).bind fun t128 => (clavigerlaw04_EqualTurns.j1 k a b c bt120.2 (t127 != t128)))) else (clavigerlaw04_EqualTurns.j1 k a b c bt120.2 true))))))) else (clavigerlaw04_EqualTurns.j1 k a b c bt120.2 true))))) (fun k => by simp only [clavigerlaw04_EqualTurns.j0]; rw [if_neg (by simp)]) ?_
    refine evs (scan_c ha hb) (evs s2 (evn (by simp) (evp rfl (evn (by rw [same_beq]; simp) (evs (unlike_c ha hb) (evn (by rw [same_cn]; simp) (evs (unlike_c ha hb) (evs u2 (evp rfl (evs (first_c ha hb) (evs f2 ?_)))))))))))
    have := turns1 (b := b) ha hc
    simpa using this
theorem EqualTurns : clavigerlaw04_EqualTurns.Pure := by
  intro a b c ha hb hc
  refine Ev.rounds (?_ : Ev _ true)
  unfold clavigerlaw04_EqualTurns.f
  by_cases h1 : (a.size : Int) > 500
  · exact evp h1 (turns0 ha hb hc true)
  · refine evn h1 ?_
    by_cases h2 : (b.size : Int) > 500
    · exact evp h2 (turns0 ha hb hc true)
    · exact evn h2 (turns0 ha hb hc _)
/-- All bits that are in any. -/
def orN (s : ByteArray) : Nat → Nat
  | 0 => 0
  | k + 1 => orN s k ||| bb s k
theorem orN_lt (s : ByteArray) (k : Nat) : orN s k < 256 := by
  induction k with
  | zero => show 0 < 256; omega
  | succ k ih => exact or_lt ih (bb_lt s k)
theorem noughtL (s : ByteArray) (hs : s.size ≤ 140737488351232) (d : Nat) : ∀ i : Nat, i ≤ s.size → s.size - i = d → Ev (fun k => equal_Nought.l0 k s ((orN s i : Nat) : Int) (s.size : Int) (i : Int)) ((((orN s s.size : Nat) : Int) == 0), (s.size : Int)) := by
  induction d with
  | zero =>
    intro i hi hd
    obtain rfl : i = s.size := by omega
    exact Ev.step (f := fun _ => some ((((orN s s.size : Nat) : Int) == 0), (s.size : Int))) (fun k => by simp only [equal_Nought.l0]; rw [if_neg (by omega)]) (Ev.now _)
  | succ d ih =>
    intro i hi hd
    have hh := ih (i + 1) (by omega) (by omega)
    rw [show ((i + 1 : Nat) : Int) = (i : Int) + 1 from rfl] at hh
    refine Ev.step (f := fun k => equal_Nought.l0 k s ((orN s (i + 1) : Nat) : Int) (s.size : Int) ((i : Int) + 1)) (fun k => ?_) hh
    simp only [equal_Nought.l0]
    rw [if_pos (by omega), if_pos (by omega), if_pos (by omega), bt_bb, wrap_id (by omega) (by omega), u8_or_nat _ _ (orN_lt s i) (bb_lt s i)]
    rfl
theorem rnoughtL (s : ByteArray) (hs : s.size ≤ 140737488351232) (d : Nat) : ∀ i : Nat, i ≤ s.size → s.size - i = d → Ev (fun k => clavigerref04_Nought.l0 k s (((orN s i : Nat) : Int) == 0) (i : Int)) ((((orN s s.size : Nat) : Int) == 0), (s.size : Int)) := by
  induction d with
  | zero =>
    intro i hi hd
    obtain rfl : i = s.size := by omega
    exact Ev.step (f := fun _ => some ((((orN s s.size : Nat) : Int) == 0), (s.size : Int))) (fun k => by simp only [clavigerref04_Nought.l0]; rw [if_neg (by omega)]) (Ev.now _)
  | succ d ih =>
    intro i hi hd
    have hh := ih (i + 1) (by omega) (by omega)
    rw [show ((i + 1 : Nat) : Int) = (i : Int) + 1 from rfl] at hh
    refine Ev.step (f := fun k => clavigerref04_Nought.l0 k s (((orN s (i + 1) : Nat) : Int) == 0) ((i : Int) + 1)) (fun k => ?_) hh
    have e : orN s (i + 1) = orN s i ||| bb s i := rfl
    simp only [clavigerref04_Nought.l0]
    rw [if_pos (by omega), if_pos (by omega), bt_bb, wrap_id (by omega) (by omega)]
    by_cases h : bb s i = 0
    · rw [if_pos (by omega), e, h, Nat.or_zero]
    · rw [if_neg (by omega), show (((orN s (i + 1) : Nat) : Int) == 0) = false from beq_eq_false_iff_ne.mpr (by
        intro h0
        have : orN s i ||| bb s i = 0 := by rw [← e]; omega
        exact h (Nat.or_eq_zero_iff.1 this).2)]
theorem runlL (a b : ByteArray) (ha : a.size ≤ 140737488351232) (hb : b.size ≤ 140737488351232) (d : Nat) : ∀ i : Nat, i ≤ max a.size b.size → max a.size b.size - i = d → Ev (fun k => clavigerref04_Unlike.l0 k a b ((cnN a b i : Nat) : Int) (i : Int)) ((cnN a b (max a.size b.size) : Nat) : Int) := by
  induction d with
  | zero =>
    intro i hi hd
    obtain rfl : i = max a.size b.size := by omega
    refine Ev.step (f := fun k => clavigerref04_Unlike.j1 k a b ((cnN a b (max a.size b.size) : Nat) : Int) ((max a.size b.size : Nat) : Int) false) (fun k => by simp only [clavigerref04_Unlike.l0]; rw [if_neg (by omega), decide_eq_false (by omega)]) ?_
    exact Ev.step (f := fun _ => some ((cnN a b (max a.size b.size) : Nat) : Int)) (fun k => by simp only [clavigerref04_Unlike.j1]; rw [if_neg (by simp)]) (Ev.now _)
  | succ d ih =>
    intro i hi hd
    have hh := ih (i + 1) (by omega) (by omega)
    have hc := cnN_le a b i
    refine Ev.step (f := fun k => clavigerref04_Unlike.j1 k a b ((cnN a b i : Nat) : Int) (i : Int) true) (fun k => by
      simp only [clavigerref04_Unlike.l0]
      by_cases h : i < a.size
      · rw [if_pos (by omega)]
      · rw [if_neg (by omega), decide_eq_true (by omega)]) ?_
    rw [show ((i + 1 : Nat) : Int) = (i : Int) + 1 from rfl] at hh
    refine Ev.step (f := fun k => clavigerref04_Unlike.l0 k a b ((cnN a b (i + 1) : Nat) : Int) ((i : Int) + 1)) (fun k => ?_) hh
    have up : unl a b (i : Int) = true → ((cnN a b (i + 1) : Nat) : Int) = ((cnN a b i : Nat) : Int) + 1 := fun h => by rw [show cnN a b (i + 1) = cnN a b i + 1 from if_pos h]; rfl
    have st : unl a b (i : Int) = false → ((cnN a b (i + 1) : Nat) : Int) = ((cnN a b i : Nat) : Int) := fun h => by rw [show cnN a b (i + 1) = cnN a b i from if_neg (by rw [h]; simp)]
    have tr : ¬ (n0 a i = n0 b i ∧ n1 a i = n1 b i) → unl a b (i : Int) = true := fun h => by
      cases hu : unl a b (i : Int)
      · exact absurd ((unl_false a b i).1 hu) h
      · rfl
    simp only [clavigerref04_Unlike.j1]
    rw [if_pos True.intro]
    by_cases h1 : i < a.size
    · rw [if_neg (by omega)]
      by_cases h2 : i < b.size
      · rw [if_neg (by omega), if_pos (by omega), if_pos (by omega), if_pos (by omega), bt_bb, bt_bb, wrap_id (by omega) (by omega), wrap_id (by omega) (by omega)]
        have e0 : n0 a i = bb a i := if_pos h1
        have e1 : n0 b i = bb b i := if_pos h2
        have e2 : n1 a i = n1 b i := by unfold n1; rw [if_pos h1, if_pos h2]
        by_cases h : bb a i = bb b i
        · rw [if_pos (by omega), st ((unl_false a b i).2 ⟨by omega, e2⟩)]
        · rw [if_neg (by omega), up (tr (by omega))]
      · rw [if_pos (by omega), wrap_id (by omega) (by omega), wrap_id (by omega) (by omega), up (tr (by unfold n1; rw [if_pos h1, if_neg h2]; omega))]
    · rw [if_pos (by omega), wrap_id (by omega) (by omega), wrap_id (by omega) (by omega), up (tr (by unfold n1; rw [if_neg h1, if_pos (by omega)]; omega))]
theorem rfstL (a b : ByteArray) (ha : a.size ≤ 140737488351232) (d : Nat) : ∀ i : Nat, i ≤ max a.size b.size → max a.size b.size - i = d → (∀ j, j < i → unl a b (j : Int) = false) → Ev (fun k => clavigerref04_First.l0 k a b (i : Int)) (fstU a b (max a.size b.size)) := by
  induction d with
  | zero =>
    intro i hi hd hn
    obtain rfl : i = max a.size b.size := by omega
    refine Ev.step (f := fun k => clavigerref04_First.j1 k a b ((max a.size b.size : Nat) : Int) false) (fun k => by simp only [clavigerref04_First.l0]; rw [if_neg (by omega), decide_eq_false (by omega)]) ?_
    exact Ev.step (f := fun _ => some (fstU a b (max a.size b.size))) (fun k => by simp only [clavigerref04_First.j1]; rw [if_neg (by simp), fst_none hn]) (Ev.now _)
  | succ d ih =>
    intro i hi hd hn
    refine Ev.step (f := fun k => clavigerref04_First.j1 k a b (i : Int) true) (fun k => by
      simp only [clavigerref04_First.l0]
      by_cases h : i < a.size
      · rw [if_pos (by omega)]
      · rw [if_neg (by omega), decide_eq_true (by omega)]) ?_
    have tr : ¬ (n0 a i = n0 b i ∧ n1 a i = n1 b i) → fstU a b (max a.size b.size) = (i : Int) := fun h => by
      cases hu : unl a b (i : Int)
      · exact absurd ((unl_false a b i).1 hu) h
      · exact fst_some hu hn _ (by omega)
    by_cases h1 : i < a.size
    · by_cases h2 : i < b.size
      · have e0 : n0 a i = bb a i := if_pos h1
        have e1 : n0 b i = bb b i := if_pos h2
        have e2 : n1 a i = n1 b i := by unfold n1; rw [if_pos h1, if_pos h2]
        by_cases h : bb a i = bb b i
        · have hh := ih (i + 1) (by omega) (by omega) (fun j hj => by
            by_cases e : j = i
            · subst e; exact (unl_false a b j).2 ⟨by omega, e2⟩
            · exact hn j (by omega))
          rw [show ((i + 1 : Nat) : Int) = (i : Int) + 1 from rfl] at hh
          refine Ev.step (f := fun k => clavigerref04_First.l0 k a b ((i : Int) + 1)) (fun k => ?_) hh
          simp only [clavigerref04_First.j1]
          rw [if_pos True.intro, if_neg (by omega), if_neg (by omega), if_pos (by omega), if_pos (by omega), if_pos (by omega), bt_bb, bt_bb, if_pos (by omega), wrap_id (by omega) (by omega)]
        · refine Ev.step (f := fun _ => some (fstU a b (max a.size b.size))) (fun k => ?_) (Ev.now _)
          simp only [clavigerref04_First.j1]
          rw [if_pos True.intro, if_neg (by omega), if_neg (by omega), if_pos (by omega), if_pos (by omega), if_pos (by omega), bt_bb, bt_bb, if_neg (by omega), tr (by omega)]
      · refine Ev.step (f := fun _ => some (fstU a b (max a.size b.size))) (fun k => ?_) (Ev.now _)
        simp only [clavigerref04_First.j1]
        rw [if_pos True.intro, if_neg (by omega), if_pos (by omega), tr (by unfold n1; rw [if_pos h1, if_neg h2]; omega)]
    · refine Ev.step (f := fun _ => some (fstU a b (max a.size b.size))) (fun k => ?_) (Ev.now _)
      simp only [clavigerref04_First.j1]
      rw [if_pos True.intro, if_pos (by omega), tr (by unfold n1; rw [if_neg h1, if_pos (by omega)]; omega)]
theorem str_of (s : ByteArray) (y : List Int) (hl : y.length = s.size) (hy : ∀ j, j < s.size → y[j]? = some ((bb s j : Nat) : Int)) : strOfNums y = s := by
  have e : y = (nb s).map Int.ofNat := by
    apply List.ext_getElem (by rw [List.length_map, nb_length, hl])
    intro i h1 h2
    have h := hy i (by omega)
    rw [List.getElem?_eq_getElem h1] at h
    rw [Option.some.inj h, bb_nb, List.getD_eq_getElem?_getD, List.getElem?_eq_getElem (by rw [nb_length]; omega), List.getElem_map]
    rfl
  rw [e, strOfNums_cast, mkB_nb]
theorem pickL (a b t : ByteArray) (m : Int) (hs : a.size = b.size) (ht : t.size = a.size) (ha : a.size ≤ 140737488351232) (hm : ∀ i : Nat, i < a.size → Go.bits .or .u8 (Go.bits .and .u8 ((bb a i : Nat) : Int) m) (Go.bits .andNot .u8 ((bb b i : Nat) : Int) m) = ((bb t i : Nat) : Int)) (d : Nat) : ∀ (i : Nat) (y : List Int), i ≤ a.size → a.size - i = d → y.length = a.size → (∀ j, j < i → y[j]? = some ((bb t j : Nat) : Int)) → Ev (fun k => equal_Pick.l0 k a b m y (a.size : Int) (i : Int)) t := by
  induction d with
  | zero =>
    intro i y hi hd hl hy
    obtain rfl : i = a.size := by omega
    exact Ev.step (f := fun _ => some t) (fun k => by simp only [equal_Pick.l0]; rw [if_neg (by omega), str_of t y (by omega) (by rw [ht]; exact hy)]) (Ev.now _)
  | succ d ih =>
    intro i y hi hd hl hy
    have hh := ih (i + 1) (y.set i ((bb t i : Nat) : Int)) (by omega) (by omega) (by rw [List.length_set]; exact hl) (fun j hj => by
      by_cases e : j = i
      · subst e; rw [List.getElem?_set_self (by omega)]
      · rw [List.getElem?_set_ne (by omega)]; exact hy j (by omega))
    rw [show ((i + 1 : Nat) : Int) = (i : Int) + 1 from rfl] at hh
    refine Ev.step (f := fun k => equal_Pick.l0 k a b m (y.set i ((bb t i : Nat) : Int)) (a.size : Int) ((i : Int) + 1)) (fun k => ?_) hh
    simp only [equal_Pick.l0]
    rw [if_pos (by omega), if_pos (by omega), if_pos (by omega), if_pos (by omega), if_pos (by omega), bt_bb, bt_bb, hm i (by omega), wrap_id (by omega) (by omega), Int.toNat_natCast]
theorem picked (a b t : ByteArray) (m : Int) (hs : a.size = b.size) (ht : t.size = a.size) (ha : a.size ≤ 140737488351232) (hm : ∀ i : Nat, i < a.size → Go.bits .or .u8 (Go.bits .and .u8 ((bb a i : Nat) : Int) m) (Go.bits .andNot .u8 ((bb b i : Nat) : Int) m) = ((bb t i : Nat) : Int)) : Ev (fun k => equal_Pick.j0 k a b m) t := by
  have hh := pickL a b t m hs ht ha hm a.size 0 (List.replicate a.size 0) (by omega) (by omega) (by simp) (fun j hj => by omega)
  refine Ev.step (f := fun k => equal_Pick.l0 k a b m (List.replicate a.size 0) (a.size : Int) 0) (fun k => ?_) hh
  simp only [equal_Pick.j0]
  rw [if_pos (by omega), if_pos (by omega)]
  simp
theorem pick_c {a b : ByteArray} (x : Bool) (ha : a.size ≤ 140737488351232) : ∃ r, Ev (fun k => equal_Pick.f k x a b) r ∧ clavigerref04_Pick.f x a b = some r := by
  unfold equal_Pick.f clavigerref04_Pick.f
  by_cases hs : (a.size : Int) = (b.size : Int)
  · rw [if_pos hs]
    cases x with
    | true =>
      refine ⟨a, evp hs (evp rfl (picked a b a 255 (by omega) rfl ha (fun i hi => ?_))), rfl⟩
      have h1 := bb_lt a i
      have h2 := bb_lt b i
      have e1 : Go.bits .and .u8 ((bb a i : Nat) : Int) 255 = ((bb a i : Nat) : Int) := by
        have := u8_and_nat (bb a i) 255 h1 (by omega)
        rw [Nat.and_two_pow_sub_one_eq_mod _ 8, Nat.mod_eq_of_lt h1] at this
        exact this
      have e2 : Go.bits .andNot .u8 ((bb b i : Nat) : Int) 255 = ((0 : Nat) : Int) := by
        have := u8_andNot_nat (bb b i) 255 h2 (by omega)
        rw [Nat.sub_self, Nat.and_zero] at this
        exact this
      rw [e1, e2, u8_or_nat _ _ h1 (by omega), Nat.or_zero]
    | false =>
      refine ⟨b, evp hs (evn (by simp) (picked a b b 0 (by omega) (by omega) ha (fun i hi => ?_))), rfl⟩
      have h1 := bb_lt a i
      have h2 := bb_lt b i
      have e1 : Go.bits .and .u8 ((bb a i : Nat) : Int) 0 = ((0 : Nat) : Int) := by
        have := u8_and_nat (bb a i) 0 h1 (by omega)
        rw [Nat.and_zero] at this
        exact this
      have e2 : Go.bits .andNot .u8 ((bb b i : Nat) : Int) 0 = ((bb b i : Nat) : Int) := by
        have := u8_andNot_nat (bb b i) 0 h2 (by omega)
        rw [Nat.sub_zero, Nat.and_two_pow_sub_one_eq_mod _ 8, Nat.mod_eq_of_lt h2] at this
        exact this
      rw [e1, e2, u8_or_nat _ _ (by omega) h2, Nat.zero_or]
  · rw [if_neg hs]
    exact ⟨_, evn hs (Ev.now _), rfl⟩
theorem rscan_c {a b : ByteArray} (ha : a.size ≤ 140737488351232) (hb : b.size ≤ 140737488351232) : Ev (fun k => clavigerref04_Scan.f k a b) (same a b, ((max a.size b.size : Nat) : Int)) := by
  have hu := runlL a b ha hb (max a.size b.size) 0 (by omega) (by omega)
  unfold clavigerref04_Scan.f
  rw [same_cn]
  by_cases h : (b.size : Int) > (a.size : Int)
  · refine evp h (evb hu ?_)
    rw [show ((max a.size b.size : Nat) : Int) = (b.size : Int) by omega]
    exact Ev.now _
  · refine evn h (evb hu ?_)
    rw [show ((max a.size b.size : Nat) : Int) = (a.size : Int) by omega]
    exact Ev.now _
theorem tells0 {a b : ByteArray} (y : Bool) (ha : a.size ≤ 140737488351232) (hb : b.size ≤ 140737488351232) (x : Bool) : Ev (fun k => clavigerlaw04_EqualTells.j0 k a b y x) true := by
  cases x with
  | true => exact Ev.step (f := fun k => (clavigerlaw04_awake.f k).bind fun t135 => (some t135)) (fun k => by simp only [clavigerlaw04_EqualTells.j0]; exact if_pos True.intro) (evb awake04 (Ev.now _))
  | false =>
    obtain ⟨r, h1, h2⟩ := pick_c (b := b) y ha
    refine Ev.step (f := fun k => (equal_Scan.f a b).bind fun bt136 => ((clavigerref04_Scan.f k a b).bind fun bt138 => ((equal_Nought.f k a).bind fun bt140 => ((clavigerref04_Nought.f k a).bind fun bt142 => (if (bt136.1 == bt138.1) = true then (if bt136.2 = bt138.2 then (if (bt140.1 == bt142.1) = true then (if bt140.2 = bt142.2 then ((equal_Unlike.f a b).bind fun t144 => ((clavigerref04_Unlike.f k a b).bind fun t145 => (if t144 = t145 then ((equal_First.f a b).bind fun t146 => ((clavigerref04_First.f k a b).bind fun t147 => (if t146 = t147 then ((equal_Pick.f k y a b).bind fun t148 => ((clavigerref04_Pick.f y a b).bind fun t149 => (if t148.toList = t149.toList then ((clavigerlaw04_awake.f k).bind fun t150 => (some t150)) else (some false)))) else (some false)))) else (some false)))) else (some false)) else (some false)) else (some false)) else (some false)))))) (fun k => by simp only [clavigerlaw04_EqualTells.j0]; rw [if_neg (by simp)]) ?_
    refine evs (scan_c ha hb) (evb (rscan_c ha hb) (evb (noughtL a ha a.size 0 (by omega) (by omega)) (evb (rnoughtL a ha a.size 0 (by omega) (by omega)) (evp (by simp) (evp rfl (evp (by simp) (evp rfl ?_)))))))
    refine evs (unlike_c ha hb) (evb (runlL a b ha hb (max a.size b.size) 0 (by omega) (by omega)) (evp rfl (evs (first_c ha hb) (evb (rfstL a b ha (max a.size b.size) 0 (by omega) (by omega) (fun j hj => by omega)) (evp rfl (evb h1 (evs h2 (evp rfl (evb awake04 (Ev.now _))))))))))
theorem EqualTells : clavigerlaw04_EqualTells.Pure := by
  intro a b y ha hb
  refine Ev.rounds (?_ : Ev _ true)
  unfold clavigerlaw04_EqualTells.f
  by_cases h1 : (a.size : Int) > 500
  · exact evp h1 (tells0 y ha hb true)
  · exact evn h1 (tells0 y ha hb _)
end Go.Proofs.Ytmcpfkgahmdkgaa.M
