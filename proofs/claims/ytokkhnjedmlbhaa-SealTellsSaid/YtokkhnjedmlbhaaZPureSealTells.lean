-- several texts in one (by the session's program shake.py)
import Derived.Test.YtokkhnjedmlbhaaZPrg01x
import Derived.Test.YtokkhnjedmlbhaaZPrg12
import Derived.Test.YtokkhnjedmlbhaaZPrL12awake
import Derived.Test.YtokkhnjedmlbhaaZDeriveK
import Derived.Test.YtokkhnjedmlbhaaZPrg11b
import Derived.Test.YtokkhnjedmlbhaaZRowC
import Derived.Laws.BitsAllLaws
import Derived.Test.YtokkhnjedmlbhaaZCmac
import Derived.Test.YtokkhnjedmlbhaaZWordM
import Derived.Test.YtokkhnjedmlbhaaZXor
import Derived.Test.YtokkhnjedmlbhaaZPrg37
import Derived.Test.YtokkhnjedmlbhaaZPrL37awake
section
namespace Go.Proofs.Ytokkhnjedmlbhaa.Pr
open Go.RowKit Go.Proofs.YtokkhnjedmlbhaaW.PrintWords Go.Proofs.YtokkhnjedmlbhaaW.PrintLast Go.Proofs.YtokkhnjedmlbhaaW.PrintMore
attribute [local go_sem] max2_int min2_int max_two min_two max_three min_three max_four min_four   -- for this text's walks alone
set_option linter.unusedVariables false
set_option linter.unusedSimpArgs false

def clavigerlaw12_KdfBegins.j0 : Nat → ByteArray → ByteArray → Int → Int → Bool → Option (Bool)
 | 0, _, _, _, _, _ => none
 | k + 1, x0, x1, x2, x3, x20 => if x20 = true then ((clavigerlaw12_awake.f k).bind fun t1 => (some t1)) else ((kdf_Counter.f k x0 x1 (wrap64 (x2))).bind fun bt2 => ((kdf_Counter.f k x0 x1 (wrap64 ((wrap64 (x2)) + (wrap64 (x3))))).bind fun bt3 => (if bt2.2 = 0 then (if bt3.2 = 0 then (if (bt2.1.size : Int) = (wrap64 (x2)) then (if (bt3.1.size : Int) = (wrap64 ((wrap64 (x2)) + (wrap64 (x3)))) then (if 0 ≤ (bt2.1.size : Int) then (if (bt2.1.size : Int) ≤ (bt3.1.size : Int) then (if (bt3.1.extract 0 ((bt2.1.size : Int) : Int).toNat).toList = bt2.1.toList then ((clavigerlaw12_awake.f k).bind fun t4 => (some t4)) else (some false)) else (none)) else (none)) else (some false)) else (some false)) else (some false)) else (if bt2.1.toList = ([] : List UInt8) then ((clavigerlaw12_awake.f k).bind fun t5 => (some t5)) else (some false)))))
def clavigerlaw12_KdfBegins.f (k : Nat) (a0 : ByteArray) (a1 : ByteArray) (a2 : Int) (a3 : Int) : Option (Bool) := if (a0.size : Int) > 100 then (clavigerlaw12_KdfBegins.j0 k a0 a1 a2 a3 true) else (clavigerlaw12_KdfBegins.j0 k a0 a1 a2 a3 (decide ((a1.size : Int) > 100)))
theorem clavigerlaw12_KdfBegins.mono_l : ∀ k, (∀ y6 y7 y8 y9 y10, LeO (clavigerlaw12_KdfBegins.j0 k y6 y7 y8 y9 y10) (clavigerlaw12_KdfBegins.j0 (k + 1) y6 y7 y8 y9 y10))
 | 0 => fun _ _ _ _ _ r h => by simp [clavigerlaw12_KdfBegins.j0] at h
 | k + 1 => by
  have ih0 := clavigerlaw12_KdfBegins.mono_l k
  ·intro y6 y7 y8 y9 y10
   unfold clavigerlaw12_KdfBegins.j0
   repeat' first
   | (with_reducible exact ih0 _ _ _ _ _)
   | (with_reducible exact clavigerlaw12_awake.mono _)
   | (with_reducible exact kdf_Counter.mono _ _ _ _)
   | (with_reducible exact LeO.refl _)
   | (with_reducible exact LeO.none _)
   | (with_reducible refine LeO.ite ?_ ?_)
   | (with_reducible refine LeO.bind ?_ (fun _ => ?_))
theorem clavigerlaw12_KdfBegins.mono : ∀ a0 a1 a2 a3 k, LeO (clavigerlaw12_KdfBegins.f k a0 a1 a2 a3) (clavigerlaw12_KdfBegins.f (k + 1) a0 a1 a2 a3) := by
 intro a0 a1 a2 a3 k
 have ih0 := clavigerlaw12_KdfBegins.mono_l k
 unfold clavigerlaw12_KdfBegins.f
 repeat' first
   | (with_reducible exact ih0 _ _ _ _ _)
   | (with_reducible exact clavigerlaw12_awake.mono _)
   | (with_reducible exact kdf_Counter.mono _ _ _ _)
   | (with_reducible exact LeO.refl _)
   | (with_reducible exact LeO.none _)
   | (with_reducible refine LeO.ite ?_ ?_)
   | (with_reducible refine LeO.bind ?_ (fun _ => ?_))
/-- THE ONE PURE STATEMENT of clavigerlaw12_KdfBegins: yours. -/
def clavigerlaw12_KdfBegins.Pure : Prop := ∀ (a0 : ByteArray) (a1 : ByteArray) (a2 : Int) (a3 : Int), a0.size ≤ 140737488351232 → a1.size ≤ 140737488351232 → (Lit.int .u8 a2).wf = true → (Lit.int .u8 a3).wf = true → ∃ k, clavigerlaw12_KdfBegins.f k a0 a1 a2 a3 = some true
end Go.Proofs.Ytokkhnjedmlbhaa.Pr
end
section
namespace Go.Proofs.Ytokkhnjedmlbhaa.Pr
open Go.RowKit Go.Proofs.YtokkhnjedmlbhaaW.PrintWords Go.Proofs.YtokkhnjedmlbhaaW.PrintLast Go.Proofs.YtokkhnjedmlbhaaW.PrintMore
attribute [local go_sem] max2_int min2_int max_two min_two max_three min_three max_four min_four   -- for this text's walks alone
set_option linter.unusedVariables false
set_option linter.unusedSimpArgs false

def clavigerlaw12_KdfTells.j0 : Nat → ByteArray → ByteArray → ByteArray → Int → Bool → Option (Bool)
 | 0, _, _, _, _, _ => none
 | k + 1, x0, x1, x2, x3, x33 => if x33 = true then ((kdf_Rounds.f x3).bind fun t1 => ((clavigerref12_Rounds.f k x3).bind fun t2 => (if t1 = t2 then ((clavigerlaw12_awake.f k).bind fun t3 => (some t3)) else (some false)))) else ((kdf_Counter.f k x0 x1 x3).bind fun bt4 => ((clavigerref12_Counter.f k x0 x1 x3).bind fun bt5 => (if bt4.1.toList = bt5.1.toList then (if bt4.2 = bt5.2 then ((kdf_Rounds.f x3).bind fun t6 => ((clavigerref12_Rounds.f k x3).bind fun t7 => (if t6 = t7 then ((kdf_Fixed.f x1 x2 x3).bind fun t8 => ((clavigerref12_Fixed.f k x1 x2 x3).bind fun t9 => (if t8.toList = t9.toList then ((clavigerlaw12_awake.f k).bind fun t10 => (some t10)) else (some false)))) else (some false)))) else (some false)) else (some false))))
def clavigerlaw12_KdfTells.f (k : Nat) (a0 : ByteArray) (a1 : ByteArray) (a2 : ByteArray) (a3 : Int) : Option (Bool) := if (a0.size : Int) > 100 then (clavigerlaw12_KdfTells.j0 k a0 a1 a2 a3 true) else (if (a1.size : Int) > 100 then (clavigerlaw12_KdfTells.j0 k a0 a1 a2 a3 true) else (if (a2.size : Int) > 100 then (clavigerlaw12_KdfTells.j0 k a0 a1 a2 a3 true) else (if a3 > 100 then (clavigerlaw12_KdfTells.j0 k a0 a1 a2 a3 (decide (a3 ≤ 4080))) else (clavigerlaw12_KdfTells.j0 k a0 a1 a2 a3 false))))
theorem clavigerlaw12_KdfTells.mono_l : ∀ k, (∀ y11 y12 y13 y14 y15, LeO (clavigerlaw12_KdfTells.j0 k y11 y12 y13 y14 y15) (clavigerlaw12_KdfTells.j0 (k + 1) y11 y12 y13 y14 y15))
 | 0 => fun _ _ _ _ _ r h => by simp [clavigerlaw12_KdfTells.j0] at h
 | k + 1 => by
  have ih0 := clavigerlaw12_KdfTells.mono_l k
  ·intro y11 y12 y13 y14 y15
   unfold clavigerlaw12_KdfTells.j0
   repeat' first
   | (with_reducible exact ih0 _ _ _ _ _)
   | (with_reducible exact clavigerlaw12_awake.mono _)
   | (with_reducible exact clavigerref12_Counter.mono _ _ _ _)
   | (with_reducible exact clavigerref12_Fixed.mono _ _ _ _)
   | (with_reducible exact clavigerref12_Rounds.mono _ _)
   | (with_reducible exact kdf_Counter.mono _ _ _ _)
   | (with_reducible exact LeO.refl _)
   | (with_reducible exact LeO.none _)
   | (with_reducible refine LeO.ite ?_ ?_)
   | (with_reducible refine LeO.bind ?_ (fun _ => ?_))
theorem clavigerlaw12_KdfTells.mono : ∀ a0 a1 a2 a3 k, LeO (clavigerlaw12_KdfTells.f k a0 a1 a2 a3) (clavigerlaw12_KdfTells.f (k + 1) a0 a1 a2 a3) := by
 intro a0 a1 a2 a3 k
 have ih0 := clavigerlaw12_KdfTells.mono_l k
 unfold clavigerlaw12_KdfTells.f
 repeat' first
   | (with_reducible exact ih0 _ _ _ _ _)
   | (with_reducible exact clavigerlaw12_awake.mono _)
   | (with_reducible exact clavigerref12_Counter.mono _ _ _ _)
   | (with_reducible exact clavigerref12_Fixed.mono _ _ _ _)
   | (with_reducible exact clavigerref12_Rounds.mono _ _)
   | (with_reducible exact kdf_Counter.mono _ _ _ _)
   | (with_reducible exact LeO.refl _)
   | (with_reducible exact LeO.none _)
   | (with_reducible refine LeO.ite ?_ ?_)
   | (with_reducible refine LeO.bind ?_ (fun _ => ?_))
/-- THE ONE PURE STATEMENT of clavigerlaw12_KdfTells: yours. -/
def clavigerlaw12_KdfTells.Pure : Prop := ∀ (a0 : ByteArray) (a1 : ByteArray) (a2 : ByteArray) (a3 : Int), a0.size ≤ 140737488351232 → a1.size ≤ 140737488351232 → a2.size ≤ 140737488351232 → (Lit.int .i64 a3).wf = true → ∃ k, clavigerlaw12_KdfTells.f k a0 a1 a2 a3 = some true
end Go.Proofs.Ytokkhnjedmlbhaa.Pr
end
section
namespace Go.Proofs.Ytokkhnjedmlbhaa.M
open Go.RowKit Go.Proofs.Ytokkhnjedmlbhaa.Pr Go.Proofs.YtokkhnjedmlbhaaW.PrintWords Go.Proofs.YtokkhnjedmlbhaaW.PrintLast Go.Proofs.YtokkhnjedmlbhaaW.PrintMore Go.Proofs.YtokkhnjedmlbhaaGf
set_option linter.unusedSimpArgs false
theorem ctr_pre {key fixed : ByteArray} (ok : okN key.size) {n m : Nat} (h1 : 1 ≤ n) (h2 : n + m ≤ 4080) : ((ctrX key fixed ((n + m : Nat) : Int)).1.extract 0 n) = (ctrX key fixed (n : Int)).1 ∧ (ctrX key fixed (n : Int)).1.size = n ∧ (ctrX key fixed (n : Int)).2 = 0 := by
  have hk := (ks_facts ok).2.1
  have r (q : Nat) (hq : 1 ≤ q) (hq2 : q ≤ 4080) : ctrX key fixed (q : Int) = ((catB (kTs (ksB key) fixed ((q + 15) / 16))).extract 0 q, 0) := by
    have e : rndK (q : Int) = (q + 15) / 16 := by unfold rndK; rw [if_neg (by omega), if_neg (by omega), Int.toNat_natCast]
    unfold ctrX
    rw [if_pos ok, e, if_neg (by omega), Int.toNat_natCast]
  have z (q : Nat) : (catB (kTs (ksB key) fixed q)).size = 16 * q := kTs_size hk fixed q
  rw [r n h1 (by omega), r (n + m) (by omega) h2]
  refine ⟨?_, by rw [ByteArray.size_extract, z]; omega, rfl⟩
  have e : kTs (ksB key) fixed ((n + m + 15) / 16) = kTs (ksB key) fixed ((n + 15) / 16) ++ (List.range ((n + m + 15) / 16 - (n + 15) / 16)).map fun i => kT (ksB key) fixed ((n + 15) / 16 + i) := by
    have hq : (n + m + 15) / 16 = (n + 15) / 16 + ((n + m + 15) / 16 - (n + 15) / 16) := by omega
    conv => lhs; rw [hq]
    unfold kTs
    rw [List.range_add, List.map_append, List.map_map]
    rfl
  show ((catB (kTs (ksB key) fixed ((n + m + 15) / 16))).extract 0 (n + m)).extract 0 n = _
  have hz := z ((n + 15) / 16)
  rw [e, cat_app, extract_nb, extract_nb, extract_nb, nb_mkB (isB_drop (isB_take (isB_nb _) _) _), nb_append, List.drop_zero, List.drop_zero, List.drop_zero, List.take_take, Nat.min_eq_left (by omega), List.take_append_of_le_length (by rw [nb_length]; omega)]
end Go.Proofs.Ytokkhnjedmlbhaa.M
end
section
namespace Go.Proofs.Ytokkhnjedmlbhaa.M
open Go.RowKit Go.Proofs.Ytokkhnjedmlbhaa.Pr Go.Proofs.YtokkhnjedmlbhaaW.PrintWords Go.Proofs.YtokkhnjedmlbhaaW.PrintLast Go.Proofs.YtokkhnjedmlbhaaW.PrintMore Go.Proofs.YtokkhnjedmlbhaaGf
set_option linter.unusedSimpArgs false
/-- The key of a purpose. -/
def dkT (kek : ByteArray) (p : Int) : ByteArray := (ctrX kek (inX p (kek.size : Int)) (kek.size : Int)).1
def dkX (kek : ByteArray) (p : Int) : ByteArray × Int := if okN kek.size then if p = 0 ∨ p = 1 then (dkT kek p, 0) else (⟨#[]⟩, 1) else (⟨#[]⟩, 2)
def dksX (kek : ByteArray) : ByteArray × ByteArray × Int := if okN kek.size then (dkT kek 0, dkT kek 1, 0) else (⟨#[]⟩, ⟨#[]⟩, 2)
theorem okI {n : Nat} (h : okN n) : (n : Int) = 16 ∨ (n : Int) = 24 ∨ (n : Int) = 32 := by rcases h with h | h | h <;> omega
theorem inX_size (p n : Int) : (inX p n).size ≤ 7 := by
  unfold inX
  split
  · rw [mkB_size]; exact Nat.le_refl 7
  · decide
theorem inX_ne {p n : Int} (hp : p = 0 ∨ p = 1) (hn : n = 16 ∨ n = 24 ∨ n = 32) : (inX p n).toList ≠ ([] : List UInt8) := by
  have hs : (inX p n).size = 7 := by unfold inX; rw [if_pos ⟨hp, hn⟩, mkB_size]; rfl
  rw [tl_eq]
  intro e
  have := congrArg List.length e
  rw [Array.length_toList] at this
  have h2 : (inX p n).data.size = (inX p n).size := rfl
  rw [h2, hs] at this
  cases this
theorem dk_ok {kek : ByteArray} (ok : okN kek.size) (p : Int) : ctrX kek (inX p (kek.size : Int)) (kek.size : Int) = (dkT kek p, 0) ∧ (dkT kek p).size = kek.size := by
  have h1 : 1 ≤ kek.size := by rcases ok with h | h | h <;> omega
  have h2 : kek.size + 0 ≤ 4080 := by rcases ok with h | h | h <;> omega
  obtain ⟨_, q2, q3⟩ := ctr_pre (fixed := inX p (kek.size : Int)) ok h1 h2
  exact ⟨Prod.ext rfl q3, q2⟩
theorem dk_okN {kek : ByteArray} (ok : okN kek.size) (p : Int) : okN (dkT kek p).size := by rw [(dk_ok ok p).2]; exact ok
theorem dkey_c (kek : ByteArray) (p : Int) : Ev (fun k => derive_Key.f k kek p) (dkX kek p) := by
  unfold derive_Key.f dkX
  refine evs (rounds_i _) ?_
  by_cases ok : okN kek.size
  · rw [if_pos ok]
    refine evn (by rw [rnd_ok ok]; omega) (evs (g := derive_Input.f p (kek.size : Int)) rfl ?_)
    by_cases hp : p = 0 ∨ p = 1
    · rw [if_pos hp]
      have h := kctr_c kek (inX p (kek.size : Int)) (by have := inX_size p (kek.size : Int); omega) (kek.size : Int)
      rw [(dk_ok ok p).1] at h
      exact evn (inX_ne hp (okI ok)) (evb h (Ev.now _))
    · rw [if_neg hp]
      have e : inX p (kek.size : Int) = ⟨#[]⟩ := by unfold inX; rw [if_neg (fun h => hp h.1)]
      rw [e]
      exact evp nil_list (Ev.now _)
  · rw [if_neg ok]
    exact evp (rnd_no ok) (Ev.now _)
theorem dkeys_c (kek : ByteArray) : Ev (fun k => derive_Keys.f k kek) (dksX kek) := by
  unfold derive_Keys.f dksX
  have h0 := dkey_c kek 0
  have h1 := dkey_c kek 1
  unfold dkX at h0 h1
  by_cases ok : okN kek.size
  · rw [if_pos ok, if_pos (.inl rfl)] at h0
    rw [if_pos ok, if_pos (.inr rfl)] at h1
    rw [if_pos ok]
    exact evb h0 (evp rfl (evb h1 (evp rfl (Ev.now _))))
  · rw [if_neg ok] at h0 ⊢
    exact evb h0 (evn (by decide) (Ev.now _))
theorem rin_c (p n : Int) : Ev (fun k => clavigerref35_Input.f k p n) (inX p n) := by
  have bad (h : ¬ ((p = 0 ∨ p = 1) ∧ (n = 16 ∨ n = 24 ∨ n = 32))) : Ev (fun k => clavigerref35_Input.j0 k p n true) (inX p n) := by
    have e : inX p n = ⟨#[]⟩ := by unfold inX; rw [if_neg h]
    rw [e]
    exact Ev.step (f := fun _ => some (⟨#[]⟩ : ByteArray)) (fun k => by simp only [clavigerref35_Input.j0]; rw [if_pos True.intro]) (Ev.now _)
  have good (hp : p = 0 ∨ p = 1) (hn : n = 16 ∨ n = 24 ∨ n = 32) : Ev (fun k => clavigerref35_Input.j0 k p n false) (inX p n) := by
    obtain ⟨q, hq, rfl⟩ : ∃ q : Nat, q < 2 ∧ p = (q : Int) := ⟨p.toNat, by omega, by omega⟩
    obtain ⟨m, hm, rfl⟩ : ∃ m : Nat, (m = 16 ∨ m = 24 ∨ m = 32) ∧ n = (m : Int) := ⟨n.toNat, by omega, by omega⟩
    have e1 : IntKind.u64.wrap ((q : Nat) : Int) = ((q : Nat) : Int) := by rw [IntKind.wrap_u64]; omega
    have e2 : IntKind.u64.wrap (wrap64 (Int.tdiv (m : Int) 8)) = ((m / 8 : Nat) : Int) := by rw [Int.tdiv_eq_ediv_of_nonneg (by omega), wrap_id (by omega) (by omega), IntKind.wrap_u64]; omega
    have e3 : IntKind.u64.wrap (wrap64 (8 * (m : Int))) = ((8 * m : Nat) : Int) := by rw [wrap_id (by omega) (by omega), IntKind.wrap_u64]; omega
    have l (u : Nat) : (mkB (lowL u 2)).size = 2 := by rw [mkB_size, lowL_length]
    have r : ((mkB (lowL q 2) ++ (⟨#[0]⟩ : ByteArray)) ++ mkB (lowL (m / 8) 2)) ++ mkB (lowL (8 * m) 2) = inX (q : Int) (m : Int) := by
      obtain rfl | rfl : q = 0 ∨ q = 1 := by omega
      · rcases hm with rfl | rfl | rfl <;> decide +kernel
      · rcases hm with rfl | rfl | rfl <;> decide +kernel
    rw [← r]
    refine Ev.step (f := fun k => (clavigerref01_Put.f k ((q : Nat) : Int) 2).bind fun t1 => (if t1.size + 1 ≤ 9223372036854775807 then ((clavigerref01_Put.f k ((m / 8 : Nat) : Int) 2).bind fun t2 => (if (t1 ++ (⟨#[0]⟩ : ByteArray)).size + t2.size ≤ 9223372036854775807 then ((clavigerref01_Put.f k ((8 * m : Nat) : Int) 2).bind fun t3 => (if ((t1 ++ (⟨#[0]⟩ : ByteArray)) ++ t2).size + t3.size ≤ 9223372036854775807 then (some (((t1 ++ (⟨#[0]⟩ : ByteArray)) ++ t2) ++ t3)) else (none))) else (none))) else (none))) (fun k => by simp only [clavigerref35_Input.j0, e1, e2, e3]; rw [if_neg (by simp)]) ?_
    have z1 : (⟨#[0]⟩ : ByteArray).size = 1 := rfl
    refine evb (rput_c q 2 (by omega) (by omega) (by omega)) (evp (by rw [l]; omega) (evb (rput_c (m / 8) 2 (by omega) (by omega) (by omega)) (evp (by rw [ByteArray.size_append, l, l, z1]; omega) (evb (rput_c (8 * m) 2 (by omega) (by omega) (by omega)) (evp (by rw [ByteArray.size_append, ByteArray.size_append, l, l, l, z1]; omega) (Ev.now _))))))
  unfold clavigerref35_Input.f
  by_cases h1 : p < 0
  · exact evp h1 (bad (fun h => by omega))
  · refine evn h1 ?_
    by_cases h2 : p > 1
    · exact evp h2 (bad (fun h => by omega))
    · refine evn h2 ?_
      by_cases h3 : n = 16
      · exact evp h3 (good (by omega) (by omega))
      · refine evn h3 ?_
        by_cases h4 : n = 24
        · exact evp h4 (good (by omega) (by omega))
        · refine evn h4 ?_
          by_cases h5 : n = 32
          · rw [show (n != 32) = false by rw [h5]; rfl]; exact good (by omega) (by omega)
          · rw [show (n != 32) = true from bne_iff_ne.mpr h5]; exact bad (fun h => by omega)
theorem rdkey_c (kek : ByteArray) (p : Int) : Ev (fun k => clavigerref35_Key.f k kek p) (dkX kek p) := by
  have go (ok : okN kek.size) : Ev (fun k => clavigerref35_Key.j0 k kek p false) (if p = 0 ∨ p = 1 then (dkT kek p, 0) else (⟨#[]⟩, 1)) := by
    have bad (h : ¬ (p = 0 ∨ p = 1)) : Ev (fun k => clavigerref35_Key.j1 k kek p true) (if p = 0 ∨ p = 1 then (dkT kek p, 0) else (⟨#[]⟩, 1)) := by
      rw [if_neg h]
      exact Ev.step (f := fun _ => some ((⟨#[]⟩ : ByteArray), 1)) (fun k => by simp only [clavigerref35_Key.j1]; rw [if_pos True.intro]) (Ev.now _)
    refine Ev.step (f := fun k => if p < 0 then clavigerref35_Key.j1 k kek p true else clavigerref35_Key.j1 k kek p (decide (p > 1))) (fun k => by simp only [clavigerref35_Key.j0]; rw [if_neg (by simp)]) ?_
    by_cases h1 : p < 0
    · exact evp h1 (bad (by omega))
    · refine evn h1 ?_
      by_cases h2 : p > 1
      · rw [decide_eq_true h2]; exact bad (by omega)
      · rw [decide_eq_false h2, if_pos (show p = 0 ∨ p = 1 by omega)]
        refine Ev.step (f := fun k => (clavigerref35_Input.f k p (kek.size : Int)).bind fun t1 => ((clavigerref12_Counter.f k kek t1 (kek.size : Int)).bind fun bt2 => (some (bt2.1, bt2.2)))) (fun k => by simp only [clavigerref35_Key.j1]; rw [if_neg (by simp)]) ?_
        have h := rctr_c kek (inX p (kek.size : Int)) (by have := inX_size p (kek.size : Int); omega) (kek.size : Int)
        rw [(dk_ok ok p).1] at h
        exact evb (rin_c p _) (evb h (Ev.now _))
  unfold clavigerref35_Key.f dkX
  by_cases h1 : kek.size = 16
  · rw [if_pos (.inl h1)]
    exact evp (by omega) (go (.inl h1))
  · refine evn (by omega) ?_
    by_cases h2 : kek.size = 24
    · rw [if_pos (.inr (.inl h2))]
      exact evp (by omega) (go (.inr (.inl h2)))
    · refine evn (by omega) ?_
      by_cases h3 : kek.size = 32
      · rw [if_pos (.inr (.inr h3)), show ((kek.size : Int) != 32) = false by rw [h3]; rfl]
        exact go (.inr (.inr h3))
      · rw [if_neg (by unfold okN; omega), show ((kek.size : Int) != 32) = true from bne_iff_ne.mpr (by omega)]
        exact Ev.step (f := fun _ => some ((⟨#[]⟩ : ByteArray), 2)) (fun k => by simp only [clavigerref35_Key.j0]; rw [if_pos True.intro]) (Ev.now _)
theorem rdkeys_c (kek : ByteArray) : Ev (fun k => clavigerref35_Keys.f k kek) (dksX kek) := by
  unfold clavigerref35_Keys.f dksX
  have h0 := rdkey_c kek 0
  have h1 := rdkey_c kek 1
  unfold dkX at h0 h1
  by_cases ok : okN kek.size
  · rw [if_pos ok, if_pos (.inl rfl)] at h0
    rw [if_pos ok, if_pos (.inr rfl)] at h1
    rw [if_pos ok]
    exact evb h0 (evb h1 (Ev.now _))
  · rw [if_neg ok] at h0 h1 ⊢
    exact evb h0 (evb h1 (Ev.now _))
end Go.Proofs.Ytokkhnjedmlbhaa.M
end
section
namespace Go.Proofs.Ytokkhnjedmlbhaa.M
open Go.RowKit Go.Proofs.Ytokkhnjedmlbhaa.Pr Go.Proofs.YtokkhnjedmlbhaaW.PrintWords Go.Proofs.YtokkhnjedmlbhaaW.PrintLast Go.Proofs.YtokkhnjedmlbhaaW.PrintMore Go.Proofs.YtokkhnjedmlbhaaGf
set_option linter.unusedSimpArgs false
def cbcE (key iv s : ByteArray) : ByteArray × Int := if rdyE key iv s = 0 then (outJ (ksB key) s iv (s.size / 16), 0) else (⟨#[]⟩, rdyE key iv s)
theorem cenc_x (key iv s : ByteArray) (h : s.size < 1000000) : cbc_Encrypt.f key iv s = some (cbcE key iv s) := by
  unfold cbc_Encrypt.f; rw [if_pos h]; rfl
theorem bad_c (key iv s : ByteArray) : Ev (fun k => clavigerref10_bad.f k key iv s) (rdyE key iv s) := by
  have j : ∀ b : Bool, Ev (fun k => clavigerref10_bad.j0 k iv s b) (if b = true then 2 else if iv.size = 16 then if s.size % 16 = 0 then 0 else 4 else 1) := fun b => by
    cases b with
    | true => exact Ev.step (f := fun _ => some 2) (fun k => by simp only [clavigerref10_bad.j0]; rw [if_pos True.intro]) (Ev.now _)
    | false =>
      refine Ev.step (f := fun _ => some (if iv.size = 16 then if s.size % 16 = 0 then 0 else 4 else 1)) (fun k => ?_) (Ev.now _)
      simp only [clavigerref10_bad.j0]
      rw [if_neg (by simp)]
      by_cases h1 : iv.size = 16
      · rw [if_pos (by omega), if_pos h1]
        by_cases h2 : s.size % 16 = 0
        · rw [if_pos (by omega), if_pos h2]
        · rw [if_neg (by omega), if_neg h2]
      · rw [if_neg (by omega), if_neg h1]
  unfold clavigerref10_bad.f rdyE
  by_cases h1 : key.size = 16
  · rw [if_pos (.inl h1)]
    exact evp (by omega) (j false)
  · refine evn (by omega) ?_
    by_cases h2 : key.size = 24
    · rw [if_pos (.inr (.inl h2))]
      exact evp (by omega) (j false)
    · refine evn (by omega) ?_
      by_cases h3 : key.size = 32
      · rw [if_pos (.inr (.inr h3)), show ((key.size : Int) != 32) = false by rw [h3]; rfl]
        exact j false
      · rw [if_neg (by unfold okN; omega), show ((key.size : Int) != 32) = true from bne_iff_ne.mpr (by omega)]
        exact j true
theorem rcencL {key : ByteArray} (ok : okN key.size) (iv s : ByteArray) (hi : iv.size = 16) (m : Nat) (hm : s.size = 16 * m) (hb : m < 100000000) (d : Nat) : ∀ j, m - j = d → j ≤ m →
    Ev (fun k => clavigerref10_Encrypt.l0 k key (ivJ (ksB key) s iv j) s (outJ (ksB key) s iv j) ((16 * j : Nat) : Int)) (outJ (ksB key) s iv m, 0) := by
  have hk := (ks_facts ok).2.1
  induction d with
  | zero =>
    intro j hd hj
    obtain rfl : j = m := by omega
    refine Ev.step (f := fun _ => some (outJ (ksB key) s iv j, 0)) (fun k => ?_) (Ev.now _)
    simp only [clavigerref10_Encrypt.l0]
    rw [if_neg (by omega)]
  | succ d ih =>
    intro j hd hj
    have hh := ih (j + 1) (by omega) (by omega)
    have e : wrap64 (((16 * j : Nat) : Int) + 16) = ((16 * j + 16 : Nat) : Int) := by rw [wrap_id (by omega) (by omega)]; omega
    rw [show ((16 * (j + 1) : Nat) : Int) = ((16 * j + 16 : Nat) : Int) by omega] at hh
    have h1 := ivJ_size hk (s := s) hi j (by omega)
    have hz : (s.extract (16 * j) (16 * j + 16)).size = 16 := by rw [ByteArray.size_extract]; omega
    have hx : (xorT (s.extract (16 * j) (16 * j + 16)) (ivJ (ksB key) s iv j)).size = 16 := by rw [xorT_size, h1, hz]; rfl
    refine Ev.step (f := fun k => (clavigerref01_Xor.f k (s.extract (16 * j) (16 * j + 16)) (ivJ (ksB key) s iv j)).bind fun t322 => ((clavigerref09_Encrypt.f k key t322).bind fun bt323 => (if (outJ (ksB key) s iv j).size + bt323.1.size ≤ 9223372036854775807 then (clavigerref10_Encrypt.l0 k key bt323.1 s (outJ (ksB key) s iv j ++ bt323.1) ((16 * j + 16 : Nat) : Int)) else (none)))) (fun k => ?_) ?_
    · simp only [clavigerref10_Encrypt.l0]
      rw [if_pos (by omega), if_pos (by omega), e, if_pos (by omega), if_pos (by omega), Int.toNat_natCast, Int.toNat_natCast]
    · have he := renc_c key (xorT (s.extract (16 * j) (16 * j + 16)) (ivJ (ksB key) s iv j))
      rw [encX_ok ok hx] at he
      refine evb (rxor_c _ _ (by omega) (by omega)) (evb he (evp ?_ hh))
      show (outJ (ksB key) s iv j).size + (encT (ksB key) _).size ≤ _
      rw [outJ_size hk hi j (by omega), enc_size hk hx]
      omega
theorem rcenc_c (key iv s : ByteArray) (h : s.size < 1000000) : Ev (fun k => clavigerref10_Encrypt.f k key iv s) (cbcE key iv s) := by
  unfold clavigerref10_Encrypt.f cbcE
  refine evb (bad_c key iv s) ?_
  by_cases hr : rdyE key iv s = 0
  · obtain ⟨hk, hi, hs⟩ := rdy_ok hr
    rw [if_pos hr]
    exact evp hr (rcencL hk iv s hi (s.size / 16) (by omega) (by omega) _ 0 rfl (by omega))
  · rw [if_neg hr]
    exact evn hr (Ev.now _)
end Go.Proofs.Ytokkhnjedmlbhaa.M
end
section
namespace Go.Proofs.Ytokkhnjedmlbhaa.M
open Go.RowKit Go.Proofs.Ytokkhnjedmlbhaa.Pr Go.Proofs.YtokkhnjedmlbhaaW.PrintWords Go.Proofs.YtokkhnjedmlbhaaW.PrintLast Go.Proofs.YtokkhnjedmlbhaaW.PrintMore Go.Proofs.YtokkhnjedmlbhaaGf
def n1 (s : ByteArray) (i : Nat) : Nat := if i < s.size then 1 else 0
end Go.Proofs.Ytokkhnjedmlbhaa.M
end
section
namespace Go.Proofs.Ytokkhnjedmlbhaa.Pr
open Go.RowKit Go.Proofs.YtokkhnjedmlbhaaW.PrintWords Go.Proofs.YtokkhnjedmlbhaaW.PrintLast Go.Proofs.YtokkhnjedmlbhaaW.PrintMore
attribute [local go_sem] max2_int min2_int max_two min_two max_three min_three max_four min_four   -- for this text's walks alone
set_option linter.unusedVariables false
set_option linter.unusedSimpArgs false

def clavigerlaw11_awake.f  : Option (Bool) := (cmac_Tag.f (⟨#[43, 126, 21, 22, 40, 174, 210, 166, 171, 247, 21, 136, 9, 207, 79, 60]⟩ : ByteArray) (⟨#[]⟩ : ByteArray)).bind fun bt1 => (if bt1.1.toList = ([187, 29, 105, 41, 233, 89, 55, 40, 127, 163, 125, 18, 155, 117, 103, 70] : List UInt8) then (if bt1.2 = 0 then ((cmac_Blocks.f 17).bind fun t2 => (some (t2 == 2))) else (some false)) else (some false))
end Go.Proofs.Ytokkhnjedmlbhaa.Pr
end
section
namespace Go.Proofs.Ytokkhnjedmlbhaa.Pr
open Go.RowKit Go.Proofs.YtokkhnjedmlbhaaW.PrintWords Go.Proofs.YtokkhnjedmlbhaaW.PrintLast Go.Proofs.YtokkhnjedmlbhaaW.PrintMore
attribute [local go_sem] max2_int min2_int max_two min_two max_three min_three max_four min_four   -- for this text's walks alone
set_option linter.unusedVariables false
set_option linter.unusedSimpArgs false

def clavigerlaw11_CmacChecks.j0 : Nat → ByteArray → ByteArray → ByteArray → Bool → Option (Bool)
 | 0, _, _, _, _ => none
 | k + 1, x0, x1, x2, x25 => if x25 = true then ((clavigerlaw11_awake.f).bind fun t1 => (some t1)) else ((clavigerref11_Tag.f k x0 x1).bind fun bt2 => ((cmac_Check.f x0 x1 x2).bind fun bt3 => ((cmac_Check.f x0 x1 bt2.1).bind fun bt4 => (if bt2.2 = bt3.2 then (if bt2.2 = bt4.2 then (if bt2.2 = 0 then (if (bt3.1 == (x2.toList == bt2.1.toList)) = true then (if (bt4.1 == (bt2.2 == 0)) = true then ((clavigerlaw11_awake.f).bind fun t5 => (some t5)) else (some false)) else (some false)) else (if (bt3.1 == false) = true then (if (bt4.1 == (bt2.2 == 0)) = true then ((clavigerlaw11_awake.f).bind fun t6 => (some t6)) else (some false)) else (some false))) else (some false)) else (some false)))))
def clavigerlaw11_CmacChecks.f (k : Nat) (a0 : ByteArray) (a1 : ByteArray) (a2 : ByteArray) : Option (Bool) := if (a0.size : Int) > 100 then (clavigerlaw11_CmacChecks.j0 k a0 a1 a2 true) else (if (a1.size : Int) > 160 then (clavigerlaw11_CmacChecks.j0 k a0 a1 a2 true) else (clavigerlaw11_CmacChecks.j0 k a0 a1 a2 (decide ((a2.size : Int) > 100))))
theorem clavigerlaw11_CmacChecks.mono_l : ∀ k, (∀ y7 y8 y9 y10, LeO (clavigerlaw11_CmacChecks.j0 k y7 y8 y9 y10) (clavigerlaw11_CmacChecks.j0 (k + 1) y7 y8 y9 y10))
 | 0 => fun _ _ _ _ r h => by simp [clavigerlaw11_CmacChecks.j0] at h
 | k + 1 => by
  have ih0 := clavigerlaw11_CmacChecks.mono_l k
  ·intro y7 y8 y9 y10
   unfold clavigerlaw11_CmacChecks.j0
   repeat' first
   | (with_reducible exact ih0 _ _ _ _)
   | (with_reducible exact clavigerref11_Tag.mono _ _ _)
   | (with_reducible exact LeO.refl _)
   | (with_reducible exact LeO.none _)
   | (with_reducible refine LeO.ite ?_ ?_)
   | (with_reducible refine LeO.bind ?_ (fun _ => ?_))
theorem clavigerlaw11_CmacChecks.mono : ∀ a0 a1 a2 k, LeO (clavigerlaw11_CmacChecks.f k a0 a1 a2) (clavigerlaw11_CmacChecks.f (k + 1) a0 a1 a2) := by
 intro a0 a1 a2 k
 have ih0 := clavigerlaw11_CmacChecks.mono_l k
 unfold clavigerlaw11_CmacChecks.f
 repeat' first
   | (with_reducible exact ih0 _ _ _ _)
   | (with_reducible exact clavigerref11_Tag.mono _ _ _)
   | (with_reducible exact LeO.refl _)
   | (with_reducible exact LeO.none _)
   | (with_reducible refine LeO.ite ?_ ?_)
   | (with_reducible refine LeO.bind ?_ (fun _ => ?_))
/-- THE ONE PURE STATEMENT of clavigerlaw11_CmacChecks: yours. -/
def clavigerlaw11_CmacChecks.Pure : Prop := ∀ (a0 : ByteArray) (a1 : ByteArray) (a2 : ByteArray), a0.size ≤ 140737488351232 → a1.size ≤ 140737488351232 → a2.size ≤ 140737488351232 → ∃ k, clavigerlaw11_CmacChecks.f k a0 a1 a2 = some true
end Go.Proofs.Ytokkhnjedmlbhaa.Pr
end
section
namespace Go.Proofs.Ytokkhnjedmlbhaa.Pr
open Go.RowKit Go.Proofs.YtokkhnjedmlbhaaW.PrintWords Go.Proofs.YtokkhnjedmlbhaaW.PrintLast Go.Proofs.YtokkhnjedmlbhaaW.PrintMore
attribute [local go_sem] max2_int min2_int max_two min_two max_three min_three max_four min_four   -- for this text's walks alone
set_option linter.unusedVariables false
set_option linter.unusedSimpArgs false

def clavigerlaw11_CmacTells.j0 : Nat → ByteArray → ByteArray → ByteArray → Int → Bool → Option (Bool)
 | 0, _, _, _, _, _ => none
 | k + 1, x0, x1, x2, x3, x31 => if x31 = true then ((clavigerlaw11_awake.f).bind fun t1 => (some t1)) else ((cmac_Tag.f x0 x1).bind fun bt2 => ((clavigerref11_Tag.f k x0 x1).bind fun bt3 => ((cmac_Subkeys.f x0).bind fun bt4 => ((clavigerref11_Subkeys.f k x0).bind fun bt5 => (if bt2.1.toList = bt3.1.toList then (if bt2.2 = bt3.2 then (if bt4.1.toList = bt5.1.toList then (if bt4.2.1.toList = bt5.2.1.toList then (if bt4.2.2 = bt5.2.2 then ((cmac_Double.f k x2).bind fun t6 => ((clavigerref11_Double.f x2).bind fun t7 => (if t6.toList = t7.toList then ((cmac_Blocks.f x3).bind fun t8 => ((clavigerref11_Blocks.f x3).bind fun t9 => (if t8 = t9 then ((clavigerlaw11_awake.f).bind fun t10 => (some t10)) else (some false)))) else (some false)))) else (some false)) else (some false)) else (some false)) else (some false)) else (some false))))))
def clavigerlaw11_CmacTells.f (k : Nat) (a0 : ByteArray) (a1 : ByteArray) (a2 : ByteArray) (a3 : Int) : Option (Bool) := if (a0.size : Int) > 100 then (clavigerlaw11_CmacTells.j0 k a0 a1 a2 a3 true) else (if (a1.size : Int) > 160 then (clavigerlaw11_CmacTells.j0 k a0 a1 a2 a3 true) else (clavigerlaw11_CmacTells.j0 k a0 a1 a2 a3 (decide ((a2.size : Int) > 100))))
theorem clavigerlaw11_CmacTells.mono_l : ∀ k, (∀ y11 y12 y13 y14 y15, LeO (clavigerlaw11_CmacTells.j0 k y11 y12 y13 y14 y15) (clavigerlaw11_CmacTells.j0 (k + 1) y11 y12 y13 y14 y15))
 | 0 => fun _ _ _ _ _ r h => by simp [clavigerlaw11_CmacTells.j0] at h
 | k + 1 => by
  have ih0 := clavigerlaw11_CmacTells.mono_l k
  ·intro y11 y12 y13 y14 y15
   unfold clavigerlaw11_CmacTells.j0
   repeat' first
   | (with_reducible exact ih0 _ _ _ _ _)
   | (with_reducible exact clavigerref11_Subkeys.mono _ _)
   | (with_reducible exact clavigerref11_Tag.mono _ _ _)
   | (with_reducible exact cmac_Double.mono _ _)
   | (with_reducible exact LeO.refl _)
   | (with_reducible exact LeO.none _)
   | (with_reducible refine LeO.ite ?_ ?_)
   | (with_reducible refine LeO.bind ?_ (fun _ => ?_))
theorem clavigerlaw11_CmacTells.mono : ∀ a0 a1 a2 a3 k, LeO (clavigerlaw11_CmacTells.f k a0 a1 a2 a3) (clavigerlaw11_CmacTells.f (k + 1) a0 a1 a2 a3) := by
 intro a0 a1 a2 a3 k
 have ih0 := clavigerlaw11_CmacTells.mono_l k
 unfold clavigerlaw11_CmacTells.f
 repeat' first
   | (with_reducible exact ih0 _ _ _ _ _)
   | (with_reducible exact clavigerref11_Subkeys.mono _ _)
   | (with_reducible exact clavigerref11_Tag.mono _ _ _)
   | (with_reducible exact cmac_Double.mono _ _)
   | (with_reducible exact LeO.refl _)
   | (with_reducible exact LeO.none _)
   | (with_reducible refine LeO.ite ?_ ?_)
   | (with_reducible refine LeO.bind ?_ (fun _ => ?_))
/-- THE ONE PURE STATEMENT of clavigerlaw11_CmacTells: yours. -/
def clavigerlaw11_CmacTells.Pure : Prop := ∀ (a0 : ByteArray) (a1 : ByteArray) (a2 : ByteArray) (a3 : Int), a0.size ≤ 140737488351232 → a1.size ≤ 140737488351232 → a2.size ≤ 140737488351232 → (Lit.int .i64 a3).wf = true → ∃ k, clavigerlaw11_CmacTells.f k a0 a1 a2 a3 = some true
end Go.Proofs.Ytokkhnjedmlbhaa.Pr
end
section
namespace Go.Proofs.Ytokkhnjedmlbhaa.M
open Go.RowKit Go.Proofs.Ytokkhnjedmlbhaa.Pr Go.Proofs.YtokkhnjedmlbhaaW.PrintWords Go.Proofs.YtokkhnjedmlbhaaW.PrintLast Go.Proofs.YtokkhnjedmlbhaaW.PrintMore Go.Proofs.YtokkhnjedmlbhaaGf
set_option linter.unusedSimpArgs false
theorem blocks_c (n : Int) (h2 : n ≤ 9223372036854775807) : cmac_Blocks.f n = clavigerref11_Blocks.f n := by
  unfold cmac_Blocks.f clavigerref11_Blocks.f
  by_cases h : n < 0
  · rw [if_pos h, if_pos h]
  · rw [if_neg h, if_neg h]
    by_cases h0 : n = 0
    · subst h0; decide +kernel
    · rw [if_neg h0, Int.tdiv_eq_ediv_of_nonneg (by omega), Int.tmod_eq_emod_of_nonneg (by omega), wrap_id (x := n - 1) (by omega) (by omega), Int.tdiv_eq_ediv_of_nonneg (by omega), wrap_id (x := n / 16) (by omega) (by omega), wrap_id (x := (n - 1) / 16) (by omega) (by omega)]
      congr 1
      unfold mx mn wrap64
      omega
end Go.Proofs.Ytokkhnjedmlbhaa.M
end
section
namespace Go.Proofs.Ytokkhnjedmlbhaa.Pr
open Go.RowKit Go.Proofs.YtokkhnjedmlbhaaW.PrintWords Go.Proofs.YtokkhnjedmlbhaaW.PrintLast Go.Proofs.YtokkhnjedmlbhaaW.PrintMore
attribute [local go_sem] max2_int min2_int max_two min_two max_three min_three max_four min_four   -- for this text's walks alone
set_option linter.unusedVariables false
set_option linter.unusedSimpArgs false

def clavigerlaw37_SealHolds.j0 : Nat → ByteArray → ByteArray → ByteArray → Bool → Option (Bool)
 | 0, _, _, _, _ => none
 | k + 1, x0, x1, x2, x29 => if x29 = true then ((clavigerlaw37_awake.f k).bind fun t1 => (some t1)) else ((seal_Seal.f k x0 x1 x2).bind fun bt2 => (if bt2.2.2 = 0 then ((clavigerref35_Keys.f k x0).bind fun bt3 => ((clavigerref10_Decrypt.f k bt3.1 bt2.2.1 bt2.1).bind fun bt4 => (if x1.size + bt4.1.size ≤ 9223372036854775807 then ((clavigerref11_Tag.f k bt3.2.1 (x1 ++ bt4.1)).bind fun bt5 => (if bt4.1.toList = x2.toList then (if bt4.2 = 0 then (if bt5.1.toList = bt2.2.1.toList then (if bt5.2 = 0 then ((clavigerlaw37_awake.f k).bind fun t6 => (some t6)) else (some false)) else (some false)) else (some false)) else (some false))) else (none)))) else (if bt2.1.toList = ([] : List UInt8) then (if bt2.2.1.toList = ([] : List UInt8) then (if bt2.2.2 = 2 then ((clavigerlaw37_awake.f k).bind fun t7 => (some t7)) else (if bt2.2.2 = 4 then ((clavigerlaw37_awake.f k).bind fun t8 => (some t8)) else (some false))) else (some false)) else (some false))))
def clavigerlaw37_SealHolds.f (k : Nat) (a0 : ByteArray) (a1 : ByteArray) (a2 : ByteArray) : Option (Bool) := if (a0.size : Int) > 100 then (clavigerlaw37_SealHolds.j0 k a0 a1 a2 true) else (if (a1.size : Int) > 300 then (clavigerlaw37_SealHolds.j0 k a0 a1 a2 true) else (clavigerlaw37_SealHolds.j0 k a0 a1 a2 (decide ((a2.size : Int) > 160))))
theorem clavigerlaw37_SealHolds.mono_l : ∀ k, (∀ y9 y10 y11 y12, LeO (clavigerlaw37_SealHolds.j0 k y9 y10 y11 y12) (clavigerlaw37_SealHolds.j0 (k + 1) y9 y10 y11 y12))
 | 0 => fun _ _ _ _ r h => by simp [clavigerlaw37_SealHolds.j0] at h
 | k + 1 => by
  have ih0 := clavigerlaw37_SealHolds.mono_l k
  ·intro y9 y10 y11 y12
   unfold clavigerlaw37_SealHolds.j0
   repeat' first
   | (with_reducible exact ih0 _ _ _ _)
   | (with_reducible exact clavigerlaw37_awake.mono _)
   | (with_reducible exact clavigerref10_Decrypt.mono _ _ _ _)
   | (with_reducible exact clavigerref11_Tag.mono _ _ _)
   | (with_reducible exact clavigerref35_Keys.mono _ _)
   | (with_reducible exact seal_Seal.mono _ _ _ _)
   | (with_reducible exact LeO.refl _)
   | (with_reducible exact LeO.none _)
   | (with_reducible refine LeO.ite ?_ ?_)
   | (with_reducible refine LeO.bind ?_ (fun _ => ?_))
theorem clavigerlaw37_SealHolds.mono : ∀ a0 a1 a2 k, LeO (clavigerlaw37_SealHolds.f k a0 a1 a2) (clavigerlaw37_SealHolds.f (k + 1) a0 a1 a2) := by
 intro a0 a1 a2 k
 have ih0 := clavigerlaw37_SealHolds.mono_l k
 unfold clavigerlaw37_SealHolds.f
 repeat' first
   | (with_reducible exact ih0 _ _ _ _)
   | (with_reducible exact clavigerlaw37_awake.mono _)
   | (with_reducible exact clavigerref10_Decrypt.mono _ _ _ _)
   | (with_reducible exact clavigerref11_Tag.mono _ _ _)
   | (with_reducible exact clavigerref35_Keys.mono _ _)
   | (with_reducible exact seal_Seal.mono _ _ _ _)
   | (with_reducible exact LeO.refl _)
   | (with_reducible exact LeO.none _)
   | (with_reducible refine LeO.ite ?_ ?_)
   | (with_reducible refine LeO.bind ?_ (fun _ => ?_))
/-- THE ONE PURE STATEMENT of clavigerlaw37_SealHolds: yours. -/
def clavigerlaw37_SealHolds.Pure : Prop := ∀ (a0 : ByteArray) (a1 : ByteArray) (a2 : ByteArray), a0.size ≤ 140737488351232 → a1.size ≤ 140737488351232 → a2.size ≤ 140737488351232 → ∃ k, clavigerlaw37_SealHolds.f k a0 a1 a2 = some true
end Go.Proofs.Ytokkhnjedmlbhaa.Pr
end
section
namespace Go.Proofs.Ytokkhnjedmlbhaa.M
open Go.RowKit Go.Proofs.Ytokkhnjedmlbhaa.Pr Go.Proofs.YtokkhnjedmlbhaaW.PrintWords Go.Proofs.YtokkhnjedmlbhaaW.PrintLast Go.Proofs.YtokkhnjedmlbhaaW.PrintMore Go.Proofs.YtokkhnjedmlbhaaGf
set_option linter.unusedSimpArgs false
/-- The tag of a payload with its top; its cipher. -/
def bnT (kek top p : ByteArray) : ByteArray := tagT (ksB (dkT kek 1)) (top ++ p)
def ciT (kek top p : ByteArray) : ByteArray := outJ (ksB (dkT kek 0)) p (bnT kek top p) (p.size / 16)
def bndX (kek top p : ByteArray) : ByteArray × Int := if okN kek.size then if p.size = 0 then (⟨#[]⟩, 4) else if p.size % 16 = 0 then (bnT kek top p, 0) else (⟨#[]⟩, 4) else (⟨#[]⟩, 2)
def slX (kek top p : ByteArray) : ByteArray × ByteArray × Int := if okN kek.size then if p.size = 0 then (⟨#[]⟩, ⟨#[]⟩, 4) else if p.size % 16 = 0 then (ciT kek top p, bnT kek top p, 0) else (⟨#[]⟩, ⟨#[]⟩, 4) else (⟨#[]⟩, ⟨#[]⟩, 2)
def rdX (kek p : ByteArray) : ByteArray × ByteArray × Int := if okN kek.size then if p.size = 0 then (⟨#[]⟩, ⟨#[]⟩, 4) else if p.size % 16 = 0 then (dkT kek 0, dkT kek 1, 0) else (⟨#[]⟩, ⟨#[]⟩, 4) else (⟨#[]⟩, ⟨#[]⟩, 2)
theorem nil_iff (s : ByteArray) : s.toList = ([] : List UInt8) ↔ s.size = 0 := by
  rw [tl_eq]
  refine ⟨fun e => ?_, fun h => List.eq_nil_of_length_eq_zero (by rw [Array.length_toList]; exact h)⟩
  have := congrArg List.length e
  rw [Array.length_toList] at this
  exact this
theorem ready_c (kek p : ByteArray) : Ev (fun k => seal_ready.f k kek p) (rdX kek p) := by
  unfold seal_ready.f rdX
  refine evb (dkeys_c kek) ?_
  unfold dksX
  by_cases ok : okN kek.size
  · rw [if_pos ok, if_pos ok]
    refine evp rfl ?_
    by_cases h0 : p.size = 0
    · rw [if_pos h0]
      exact evp ((nil_iff p).2 h0) (Ev.now _)
    · rw [if_neg h0]
      refine evn (fun e => h0 ((nil_iff p).1 e)) ?_
      by_cases h1 : p.size % 16 = 0
      · rw [if_pos h1]
        exact evp (by omega) (Ev.now _)
      · rw [if_neg h1]
        exact evn (by omega) (Ev.now _)
  · rw [if_neg ok, if_neg ok]
    exact evn (by decide) (Ev.now _)
theorem bn_size {kek : ByteArray} (ok : okN kek.size) (top p : ByteArray) : (bnT kek top p).size = 16 := tagT_size (ks_facts (dk_okN ok 1)).2.1 _
theorem tag_b {kek : ByteArray} (ok : okN kek.size) (top p : ByteArray) : tagX (dkT kek 1) (top ++ p) = (bnT kek top p, 0) := by unfold tagX; rw [if_pos (dk_okN ok 1)]; rfl
theorem enc_b {kek : ByteArray} (ok : okN kek.size) (top : ByteArray) {p : ByteArray} (h : p.size % 16 = 0) : cbcE (dkT kek 0) (bnT kek top p) p = (ciT kek top p, 0) := by
  unfold cbcE
  rw [if_pos (by unfold rdyE; rw [if_pos (dk_okN ok 0), if_pos (bn_size ok top p), if_pos h])]
  rfl
theorem seal_c (kek top p : ByteArray) (ht : top.size < 100000) (hp : p.size < 100000) : Ev (fun k => seal_Seal.f k kek top p) (slX kek top p) := by
  unfold seal_Seal.f slX
  refine evb (ready_c kek p) ?_
  unfold rdX
  by_cases ok : okN kek.size
  · rw [if_pos ok, if_pos ok]
    by_cases h0 : p.size = 0
    · rw [if_pos h0, if_pos h0]
      exact evn (by decide) (Ev.now _)
    · rw [if_neg h0, if_neg h0]
      by_cases h1 : p.size % 16 = 0
      · rw [if_pos h1, if_pos h1]
        have hz : (top ++ p).size < 1000000 := by rw [ByteArray.size_append]; omega
        exact evp rfl (evp (by omega) (evs ((ctag_x _ _ hz).trans (congrArg some (tag_b ok top p))) (evs ((cenc_x _ _ _ (by omega)).trans (congrArg some (enc_b ok top h1))) (Ev.now _))))
      · rw [if_neg h1, if_neg h1]
        exact evn (by decide) (Ev.now _)
  · rw [if_neg ok, if_neg ok]
    exact evn (by decide) (Ev.now _)
theorem bind_c (kek top p : ByteArray) (ht : top.size < 100000) (hp : p.size < 100000) : Ev (fun k => seal_Bind.f k kek top p) (bndX kek top p) := by
  unfold seal_Bind.f bndX
  refine evb (ready_c kek p) ?_
  unfold rdX
  by_cases ok : okN kek.size
  · rw [if_pos ok, if_pos ok]
    by_cases h0 : p.size = 0
    · rw [if_pos h0, if_pos h0]
      exact evn (by decide) (Ev.now _)
    · rw [if_neg h0, if_neg h0]
      by_cases h1 : p.size % 16 = 0
      · rw [if_pos h1, if_pos h1]
        have hz : (top ++ p).size < 1000000 := by rw [ByteArray.size_append]; omega
        exact evp rfl (evp (by omega) (evs ((ctag_x _ _ hz).trans (congrArg some (tag_b ok top p))) (Ev.now _)))
      · rw [if_neg h1, if_neg h1]
        exact evn (by decide) (Ev.now _)
  · rw [if_neg ok, if_neg ok]
    exact evn (by decide) (Ev.now _)
theorem rbind_c (kek top p : ByteArray) (ht : top.size < 100000) (hp : p.size < 100000) : Ev (fun k => clavigerref37_Bind.f k kek top p) (bndX kek top p) := by
  unfold clavigerref37_Bind.f bndX
  refine evb (rdkeys_c kek) ?_
  unfold dksX
  by_cases ok : okN kek.size
  · rw [if_pos ok, if_pos ok]
    refine evp rfl ?_
    by_cases h0 : p.size = 0
    · rw [if_pos h0]
      exact evp ((nil_iff p).2 h0) (Ev.now _)
    · rw [if_neg h0]
      refine evn (fun e => h0 ((nil_iff p).1 e)) ?_
      by_cases h1 : p.size % 16 = 0
      · rw [if_pos h1]
        have hz : (top ++ p).size < 1000000 := by rw [ByteArray.size_append]; omega
        have ht := rtag_c (dkT kek 1) (top ++ p) hz
        rw [tag_b ok top p] at ht
        exact evp (by omega) (evp (by omega) (evb ht (Ev.now _)))
      · rw [if_neg h1]
        exact evn (by omega) (Ev.now _)
  · rw [if_neg ok, if_neg ok]
    exact evn (by decide) (Ev.now _)
theorem rseal_c (kek top p : ByteArray) (ht : top.size < 100000) (hp : p.size < 100000) : Ev (fun k => clavigerref37_Seal.f k kek top p) (slX kek top p) := by
  unfold clavigerref37_Seal.f slX
  refine evb (rbind_c kek top p ht hp) ?_
  unfold bndX
  by_cases ok : okN kek.size
  · rw [if_pos ok, if_pos ok]
    by_cases h0 : p.size = 0
    · rw [if_pos h0, if_pos h0]
      exact evn (by decide) (Ev.now _)
    · rw [if_neg h0, if_neg h0]
      by_cases h1 : p.size % 16 = 0
      · rw [if_pos h1, if_pos h1]
        have hk := rdkeys_c kek
        unfold dksX at hk
        rw [if_pos ok] at hk
        have he := rcenc_c (dkT kek 0) (bnT kek top p) p (by omega)
        rw [enc_b ok top h1] at he
        exact evp rfl (evb hk (evb he (Ev.now _)))
      · rw [if_neg h1, if_neg h1]
        exact evn (by decide) (Ev.now _)
  · rw [if_neg ok, if_neg ok]
    exact evn (by decide) (Ev.now _)
theorem sblocks_c (n m : Int) : ∃ r, seal_Blocks.f n m = some r ∧ clavigerref37_Blocks.f n m = some r := by
  unfold seal_Blocks.f clavigerref37_Blocks.f
  by_cases h1 : n < 0
  · rw [if_pos (show mn n m < 0 by unfold mn; omega), if_pos h1]
    exact ⟨_, rfl, rfl⟩
  · rw [if_neg h1]
    by_cases h2 : m < 0
    · rw [if_pos (show mn n m < 0 by unfold mn; omega), if_pos h2]
      exact ⟨_, rfl, rfl⟩
    · rw [if_neg (show ¬ mn n m < 0 by unfold mn; omega), if_neg h2]
      by_cases h3 : n > 65552
      · rw [if_pos (show mx n m > 65552 by unfold mx; omega), if_pos h3]
        exact ⟨_, rfl, rfl⟩
      · rw [if_neg h3]
        by_cases h4 : m > 65552
        · rw [if_pos (show mx n m > 65552 by unfold mx; omega), if_pos h4]
          exact ⟨_, rfl, rfl⟩
        · rw [if_neg (show ¬ mx n m > 65552 by unfold mx; omega), if_neg h4, wrap_id (x := n + m) (by omega) (by omega), blocks_c _ (by omega)]
          obtain ⟨q, hq, hq1, hq2⟩ : ∃ q, clavigerref11_Blocks.f (n + m) = some q ∧ 0 ≤ q ∧ q ≤ 1000000 := by
            unfold clavigerref11_Blocks.f
            rw [if_neg (by omega)]
            by_cases h5 : n + m = 0
            · rw [if_pos h5]; exact ⟨1, rfl, by omega, by omega⟩
            · rw [if_neg h5, wrap_id (x := n + m - 1) (by omega) (by omega), Int.tdiv_eq_ediv_of_nonneg (by omega), wrap_id (x := (n + m - 1) / 16) (by omega) (by omega), wrap_id (by omega) (by omega)]
              exact ⟨_, rfl, by omega, by omega⟩
          rw [hq]
          simp only [Option.bind_some]
          rw [Int.tdiv_eq_ediv_of_nonneg (by omega), wrap_id (x := m / 16) (by omega) (by omega), wrap_id (x := q + m / 16) (by omega) (by omega), wrap_id (x := q + 1) (by omega) (by omega), wrap_id (by omega) (by omega), wrap_id (by omega) (by omega)]
          exact ⟨_, rfl, by congr 1; omega⟩
theorem awake37 : Ev (fun k => clavigerlaw37_awake.f k) true := by
  unfold clavigerlaw37_awake.f
  have e : (⟨#[116, 111, 112, 102, 101, 100, 99, 98, 97, 57, 56, 55, 54, 53, 52, 51, 50, 49, 48]⟩ : ByteArray) = (⟨#[116, 111, 112]⟩ : ByteArray) ++ (⟨#[102, 101, 100, 99, 98, 97, 57, 56, 55, 54, 53, 52, 51, 50, 49, 48]⟩ : ByteArray) := by decide +kernel
  rw [e]
  generalize hK : (⟨#[48, 49, 50, 51, 52, 53, 54, 55, 56, 57, 97, 98, 99, 100, 101, 102]⟩ : ByteArray) = K
  generalize hT : (⟨#[116, 111, 112]⟩ : ByteArray) = t
  generalize hP : (⟨#[102, 101, 100, 99, 98, 97, 57, 56, 55, 54, 53, 52, 51, 50, 49, 48]⟩ : ByteArray) = p
  have ok : okN K.size := by rw [← hK]; exact .inl rfl
  have ht : t.size = 3 := by rw [← hT]; rfl
  have hp : p.size = 16 := by rw [← hP]; rfl
  have h1 := seal_c K t p (by omega) (by omega)
  have h2 := bind_c K t p (by omega) (by omega)
  have h3 := rdkeys_c K
  have h4 := rtag_c (dkT K 1) (t ++ p) (by rw [ByteArray.size_append]; omega)
  unfold slX at h1
  unfold bndX at h2
  unfold dksX at h3
  rw [if_pos ok, if_neg (by omega), if_pos (by omega)] at h1 h2
  rw [if_pos ok] at h3
  rw [tag_b ok t p] at h4
  have hc : (ciT K t p).size = 16 := by
    unfold ciT
    rw [outJ_size (ks_facts (dk_okN ok 0)).2.1 (bn_size ok t p) _ (by omega), hp]
  refine evb h1 (evb h2 (evb h3 (evb h4 (evp (by show ((ciT K t p).size : Int) = 16; omega) (evp rfl (evp rfl (evp rfl (evp rfl ?_))))))))
  exact evs (show seal_Blocks.f 3 16 = some 4 by decide +kernel) (Ev.now _)
theorem SealTells : clavigerlaw37_SealTells.Pure := by
  intro kek top p n m _ _ _ _ _
  refine Ev.rounds (?_ : Ev _ true)
  have aw : ∀ x : Bool, x = true → Ev (fun k => clavigerlaw37_SealTells.j0 k kek top p n m x) true := fun x hx => by
    subst hx
    exact Ev.step (f := fun k => (clavigerlaw37_awake.f k).bind fun t => some t) (fun k => by simp only [clavigerlaw37_SealTells.j0]; rw [if_pos True.intro]) (evb awake37 (Ev.now _))
  unfold clavigerlaw37_SealTells.f
  by_cases h : (kek.size : Int) > 100
  · exact evp h (aw true rfl)
  · refine evn h ?_
    by_cases h' : (top.size : Int) > 300
    · exact evp h' (aw true rfl)
    · refine evn h' ?_
      by_cases h'' : (p.size : Int) > 160
      · exact aw _ (decide_eq_true h'')
      · rw [decide_eq_false h'']
        obtain ⟨q, q1, q2⟩ := sblocks_c n m
        refine Ev.step (f := fun k => (seal_Seal.f k kek top p).bind fun bt2 => ((clavigerref37_Seal.f k kek top p).bind fun bt3 => ((seal_Bind.f k kek top p).bind fun bt4 => ((clavigerref37_Bind.f k kek top p).bind fun bt5 => (if bt2.1.toList = bt3.1.toList then (if bt2.2.1.toList = bt3.2.1.toList then (if bt2.2.2 = bt3.2.2 then (if bt4.1.toList = bt5.1.toList then (if bt4.2 = bt5.2 then ((seal_Blocks.f n m).bind fun t6 => ((clavigerref37_Blocks.f n m).bind fun t7 => (if t6 = t7 then ((clavigerlaw37_awake.f k).bind fun t8 => (some t8)) else (some false)))) else (some false)) else (some false)) else (some false)) else (some false)) else (some false)))))) (fun k => by simp only [clavigerlaw37_SealTells.j0]; rw [if_neg (by simp)]) ?_
        exact evb (seal_c _ _ _ (by omega) (by omega)) (evb (rseal_c _ _ _ (by omega) (by omega)) (evb (bind_c _ _ _ (by omega) (by omega)) (evb (rbind_c _ _ _ (by omega) (by omega)) (evp rfl (evp rfl (evp rfl (evp rfl (evp rfl (evs q1 (evs q2 (evp rfl (evb awake37 (Ev.now _)))))))))))))
end Go.Proofs.Ytokkhnjedmlbhaa.M
end
section
namespace Go.Proofs.Ytokkhnjedmlbhaa.Pure
open Go.RowKit Go.Proofs.Ytokkhnjedmlbhaa.Pr Go.Proofs.YtokkhnjedmlbhaaW.PrintWords Go.Proofs.YtokkhnjedmlbhaaW.PrintLast

theorem SealTells : clavigerlaw37_SealTells.Pure := M.SealTells

end Go.Proofs.Ytokkhnjedmlbhaa.Pure
end
