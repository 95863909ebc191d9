/-
  What the printed functions of sbox and its reference come to, on natural numbers. Plain.
-/
import Derived.Test.YtokkhnjedmlbhaaBytes
import Derived.Test.YtokkhnjedmlbhaaEach
import Derived.Test.YtokkhnjedmlbhaaPrg06
import Derived.Test.YtokkhnjedmlbhaaPrg06t
import Derived.Test.YtokkhnjedmlbhaaPrk
import Derived.Test.YtokkhnjedmlbhaaTable
namespace Go.Proofs.Ytokkhnjedmlbhaa.M
open Go.RowKit Go.Proofs.Ytokkhnjedmlbhaa.Pr Go.Proofs.YtokkhnjedmlbhaaW.PrintWords Go.Proofs.YtokkhnjedmlbhaaW.PrintLast Go.Proofs.YtokkhnjedmlbhaaW.PrintMore Go.Proofs.YtokkhnjedmlbhaaGf
/-- A byte, turned by m. -/
def rot (a m : Nat) : Nat := (a * 2 ^ m) % 256 + a / 2 ^ (8 - m)
theorem rot_lt {a : Nat} (ha : a < 256) {m : Nat} (hm : m < 8) : rot a m < 256 := by
  have h : allB 256 (fun a => allB 8 fun m => Nat.blt (rot a m) 256) = true := by decide +kernel
  have := allB_of (allB_of h a ha) m hm
  exact Nat.le_of_ble_eq_true this
theorem turn_all : allB 256 (fun a => allB 8 fun m => decide (Go.bits .or .u8 (shl .u8 (a : Int) (m : Int)) (shr .u8 (a : Int) (wrap64 (8 - (m : Int)))) = ((rot a m : Nat) : Int))) = true := by decide +kernel
theorem and7 (n : Int) : Go.bits .and .i64 n 7 = n % 8 := by
  have h0 : 0 ≤ n % 18446744073709551616 := Int.emod_nonneg _ (by omega)
  have h1 : n % 18446744073709551616 < 18446744073709551616 := Int.emod_lt_of_pos _ (by omega)
  show IntKind.i64.wrap (((BitVec.ofInt 64 n) &&& (BitVec.ofInt 64 7)).toNat : Int) = _
  have h7 : (BitVec.ofInt 64 7).toNat = 2 ^ 3 - 1 := by decide
  rw [BitVec.toNat_and, h7, Nat.and_two_pow_sub_one_eq_mod, BitVec.toNat_ofInt, IntKind.wrap_i64]
  rw [show ((2 ^ 64 : Nat) : Int) = 18446744073709551616 from rfl]
  omega
theorem turn_c {a : Nat} (ha : a < 256) (n : Int) : sbox_Turn.f (a : Int) n = some ((rot a (n % 8).toNat : Nat) : Int) := by
  unfold sbox_Turn.f
  rw [and7]
  obtain ⟨m, hm⟩ : ∃ m : Nat, n % 8 = (m : Int) := ⟨(n % 8).toNat, by omega⟩
  have hm8 : m < 8 := by omega
  rw [hm, if_pos (by omega), if_pos (by unfold wrap64; omega), of_decide_eq_true (allB_of (allB_of turn_all a ha) m hm8)]
  rfl
theorem rturn_all : allB 256 (fun a => allB 8 fun m => decide (clavigerref06_Turn.j0 12 (a : Int) (m : Int) = some ((rot a m : Nat) : Int))) = true := by decide +kernel
theorem rturn_c {a : Nat} (ha : a < 256) (n : Int) (h0 : -9223372036854775808 ≤ n) (h1 : n ≤ 9223372036854775807) : Ev (fun k => clavigerref06_Turn.f k (a : Int) n) ((rot a (n % 8).toNat : Nat) : Int) := by
  refine Ev.of (fun k => clavigerref06_Turn.mono _ _ k) (k := 12) ?_
  obtain ⟨m, hm⟩ : ∃ m : Nat, n % 8 = (m : Int) := ⟨(n % 8).toNat, by omega⟩
  have hm8 : m < 8 := by omega
  have h := of_decide_eq_true (allB_of (allB_of rturn_all a ha) m hm8)
  unfold clavigerref06_Turn.f
  have ht : Int.tmod n 8 = if n < 0 then (if n % 8 = 0 then 0 else n % 8 - 8) else n % 8 := by
    split
    · rw [Int.tmod_eq_emod]
      have : ¬ (0 ≤ n) := by omega
      simp [this]
      split <;> split <;> omega
    · exact Int.tmod_eq_emod_of_nonneg (by omega)
  have e : (n % 8).toNat = m := by omega
  rw [e]
  by_cases hn : Int.tmod n 8 < 0
  · rw [if_pos hn, show wrap64 (Int.tmod n 8 + 8) = (m : Int) from by unfold wrap64; split at ht <;> (try split at ht) <;> omega]
    exact h
  · rw [if_neg hn, show Int.tmod n 8 = (m : Int) from by split at ht <;> (try split at ht) <;> omega]
    exact h
def mixN (b : Nat) : Nat := b ^^^ rot b 1 ^^^ rot b 2 ^^^ rot b 3 ^^^ rot b 4 ^^^ 99
theorem mixed_all : allB 256 (fun b => decide (sbox_mixed.f (b : Int) = some ((mixN b : Nat) : Int)) && Nat.blt (mixN b) 256) = true := by decide +kernel
theorem mixed_c {b : Nat} (hb : b < 256) : sbox_mixed.f (b : Int) = some ((mixN b : Nat) : Int) := by
  have := allB_of mixed_all b hb
  simp only [Bool.and_eq_true] at this
  exact of_decide_eq_true this.1
theorem mixN_lt {b : Nat} (hb : b < 256) : mixN b < 256 := by
  have := allB_of mixed_all b hb
  simp only [Bool.and_eq_true] at this
  exact Nat.le_of_ble_eq_true this.2
def sN (a : Nat) : Nat := mixN (inv a)
theorem sN_lt (a : Nat) : sN a < 256 := mixN_lt (inv_lt a)
theorem sub_c {a : Nat} (ha : a < 256) : Ev (fun k => sbox_Sub.f k (a : Int)) ((sN a : Nat) : Int) :=
  evb (inv_c ha) (evs (mixed_c (inv_lt a)) (Ev.now _))
def backN (a : Nat) : Nat := rot a 1 ^^^ rot a 3 ^^^ rot a 6 ^^^ 5
theorem backN_lt {a : Nat} (ha : a < 256) : backN a < 256 := xor_lt (xor_lt (xor_lt (rot_lt ha (by omega)) (rot_lt ha (by omega))) (rot_lt ha (by omega))) (by omega)
def bN (a : Nat) : Nat := inv (backN a)
theorem bN_lt (a : Nat) : bN a < 256 := inv_lt _
theorem back_c {a : Nat} (ha : a < 256) : Ev (fun k => sbox_Back.f k (a : Int)) ((bN a : Nat) : Int) := by
  have h1 := turn_c ha 1
  have h3 := turn_c ha 3
  have h6 := turn_c ha 6
  unfold sbox_Back.f
  refine evs h1 (evs h3 (evs h6 ?_))
  show Ev (fun k => (field_Inv.f k (Go.bits .xor .u8 (Go.bits .xor .u8 (Go.bits .xor .u8 ((rot a 1 : Nat) : Int) ((rot a 3 : Nat) : Int)) ((rot a 6 : Nat) : Int)) ((5 : Nat) : Int))).bind fun t171 => some t171) _
  rw [bx (rot_lt ha (by omega)) (rot_lt ha (by omega)), bx (xor_lt (rot_lt ha (by omega)) (rot_lt ha (by omega))) (rot_lt ha (by omega)), bx (xor_lt (xor_lt (rot_lt ha (by omega)) (rot_lt ha (by omega))) (rot_lt ha (by omega))) (by omega)]
  exact evb (inv_c (backN_lt ha)) (Ev.now _)
/-- All bytes for which bytes stand. -/
def sT : List Nat := (List.range 256).map sN
def bT : List Nat := (List.range 256).map bN
theorem back_all : allB 256 (fun a => Nat.beq (bN (sN a)) a && Nat.beq (sN (bN a)) a && !Nat.beq (sN a) a && !Nat.beq (sN a ^^^ a) 255) = true := by decide +kernel
theorem bs_id {a : Nat} (ha : a < 256) : bN (sN a) = a ∧ sN (bN a) = a ∧ sN a ≠ a ∧ sN a ^^^ a ≠ 255 := by
  have h := allB_of back_all a ha
  simp only [Bool.and_eq_true, Bool.not_eq_true'] at h
  exact ⟨Nat.eq_of_beq_eq_true h.1.1.1, Nat.eq_of_beq_eq_true h.1.1.2, (fun e => by have h2 := h.1.2; rw [e, Nat.beq_refl] at h2; cases h2), (fun e => by have h2 := h.2; rw [e] at h2; exact absurd h2 (by decide))⟩
theorem mapM_ev {g : Nat → Int → Option Int} {h : Nat → Nat} : ∀ {l : List Nat}, (∀ x : Nat, x ∈ l → Ev (fun k => g k (x : Int)) ((h x : Nat) : Int)) → Ev (fun k => (l.map Int.ofNat).mapM (g k)) ((l.map h).map Int.ofNat)
  | [], _ => by simp only [List.map_nil, List.mapM_nil]; exact Ev.now _
  | x :: l, hl => by
    simp only [List.map_cons, List.mapM_cons]
    refine evb (hl x (by simp)) (evb (mapM_ev (l := l) (fun y hy => hl y (by simp [hy]))) ?_)
    exact Ev.now _
theorem inBytes_of {l : List Nat} (h : isB l) : inBytes (l.map Int.ofNat) = true := by
  simp only [inBytes, List.all_eq_true, List.mem_map]
  rintro _ ⟨n, hn, rfl⟩
  have := h n hn
  simp
  omega
theorem isB_map {f : Nat → Nat} (h : ∀ a, f a < 256) (l : List Nat) : isB (l.map f) := by
  intro x hx
  obtain ⟨a, _, rfl⟩ := List.mem_map.1 hx
  exact h a
theorem eachF_c {g : Nat → Int → Option Int} {h : Nat → Nat} (hb : ∀ a, h a < 256) (s : ByteArray) (hs : s.size ≤ 140737488355328) (hg : ∀ x : Nat, x < 256 → Ev (fun k => g k (x : Int)) ((h x : Nat) : Int)) : Ev (fun k => eachF (g k) s) (mkB ((nb s).map h)) := by
  unfold eachF
  refine evp hs ?_
  rw [bytesOf_nb]
  refine evb (mapM_ev (fun x hx => hg x (isB_nb s x hx))) (evp (inBytes_of (isB_map hb _)) ?_)
  rw [strOfNums_cast]
  exact Ev.now _
theorem subs_c (s : ByteArray) (hs : s.size ≤ 140737488355328) : Ev (fun k => sbox_Subs.f k s) (mkB ((nb s).map sN)) := eachF_c sN_lt s hs (fun _ h => sub_c h)
theorem backs_c (s : ByteArray) (hs : s.size ≤ 140737488355328) : Ev (fun k => sbox_Backs.f k s) (mkB ((nb s).map bN)) := eachF_c bN_lt s hs (fun _ h => back_c h)
theorem rsub_all : allB 256 (fun a => decide (clavigerref06_Sub.f 20 (a : Int) = some ((sN a : Nat) : Int))) = true := by decide +kernel
theorem rsub_c {a : Nat} (ha : a < 256) : Ev (fun k => clavigerref06_Sub.f k (a : Int)) ((sN a : Nat) : Int) := Ev.of (fun k => clavigerref06_Sub.mono _ k) (k := 20) (of_decide_eq_true (allB_of rsub_all a ha))
theorem rback_all : allB 256 (fun a => decide (clavigerref06_Back.f 20 (a : Int) = some ((bN a : Nat) : Int))) = true := by decide +kernel
theorem rback_c {a : Nat} (ha : a < 256) : Ev (fun k => clavigerref06_Back.f k (a : Int)) ((bN a : Nat) : Int) := Ev.of (fun k => clavigerref06_Back.mono _ k) (k := 20) (of_decide_eq_true (allB_of rback_all a ha))
end Go.Proofs.Ytokkhnjedmlbhaa.M
