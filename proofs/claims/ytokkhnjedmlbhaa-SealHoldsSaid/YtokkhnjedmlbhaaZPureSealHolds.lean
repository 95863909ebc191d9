-- several texts in one (by the session's program shake.py)
import Derived.Test.YtokkhnjedmlbhaaZPrg01x
import Derived.Test.YtokkhnjedmlbhaaZPrg12
import Derived.Test.YtokkhnjedmlbhaaZPrL12awake
import Derived.Test.YtokkhnjedmlbhaaZDeriveK
import Derived.Test.YtokkhnjedmlbhaaZPrg11b
import Derived.Test.YtokkhnjedmlbhaaZRowC
import Derived.Laws.BitsAllLaws
import Derived.Test.YtokkhnjedmlbhaaZCmac
import Derived.Test.YtokkhnjedmlbhaaZWordM
import Derived.Test.YtokkhnjedmlbhaaZXor
import Derived.Test.YtokkhnjedmlbhaaZPrL37awake
import Derived.Test.YtokkhnjedmlbhaaZPrg37
section
namespace Go.Proofs.Ytokkhnjedmlbhaa.Pr
open Go.RowKit Go.Proofs.YtokkhnjedmlbhaaW.PrintWords Go.Proofs.YtokkhnjedmlbhaaW.PrintLast Go.Proofs.YtokkhnjedmlbhaaW.PrintMore
attribute [local go_sem] max2_int min2_int max_two min_two max_three min_three max_four min_four   -- for this text's walks alone
set_option linter.unusedVariables false
set_option linter.unusedSimpArgs false

def clavigerlaw12_KdfBegins.j0 : Nat → ByteArray → ByteArray → Int → Int → Bool → Option (Bool)
 | 0, _, _, _, _, _ => none
 | k + 1, x0, x1, x2, x3, x20 => if x20 = true then ((clavigerlaw12_awake.f k).bind fun t1 => (some t1)) else ((kdf_Counter.f k x0 x1 (wrap64 (x2))).bind fun bt2 => ((kdf_Counter.f k x0 x1 (wrap64 ((wrap64 (x2)) + (wrap64 (x3))))).bind fun bt3 => (if bt2.2 = 0 then (if bt3.2 = 0 then (if (bt2.1.size : Int) = (wrap64 (x2)) then (if (bt3.1.size : Int) = (wrap64 ((wrap64 (x2)) + (wrap64 (x3)))) then (if 0 ≤ (bt2.1.size : Int) then (if (bt2.1.size : Int) ≤ (bt3.1.size : Int) then (if (bt3.1.extract 0 ((bt2.1.size : Int) : Int).toNat).toList = bt2.1.toList then ((clavigerlaw12_awake.f k).bind fun t4 => (some t4)) else (some false)) else (none)) else (none)) else (some false)) else (some false)) else (some false)) else (if bt2.1.toList = ([] : List UInt8) then ((clavigerlaw12_awake.f k).bind fun t5 => (some t5)) else (some false)))))
def clavigerlaw12_KdfBegins.f (k : Nat) (a0 : ByteArray) (a1 : ByteArray) (a2 : Int) (a3 : Int) : Option (Bool) := if (a0.size : Int) > 100 then (clavigerlaw12_KdfBegins.j0 k a0 a1 a2 a3 true) else (clavigerlaw12_KdfBegins.j0 k a0 a1 a2 a3 (decide ((a1.size : Int) > 100)))
theorem clavigerlaw12_KdfBegins.mono_l : ∀ k, (∀ y6 y7 y8 y9 y10, LeO (clavigerlaw12_KdfBegins.j0 k y6 y7 y8 y9 y10) (clavigerlaw12_KdfBegins.j0 (k + 1) y6 y7 y8 y9 y10))
 | 0 => fun _ _ _ _ _ r h => by simp [clavigerlaw12_KdfBegins.j0] at h
 | k + 1 => by
  have ih0 := clavigerlaw12_KdfBegins.mono_l k
  ·intro y6 y7 y8 y9 y10
   unfold clavigerlaw12_KdfBegins.j0
   repeat' first
   | (with_reducible exact ih0 _ _ _ _ _)
   | (with_reducible exact clavigerlaw12_awake.mono _)
   | (with_reducible exact kdf_Counter.mono _ _ _ _)
   | (with_reducible exact LeO.refl _)
   | (with_reducible exact LeO.none _)
   | (with_reducible refine LeO.ite ?_ ?_)
   | (with_reducible refine LeO.bind ?_ (fun _ => ?_))
theorem clavigerlaw12_KdfBegins.mono : ∀ a0 a1 a2 a3 k, LeO (clavigerlaw12_KdfBegins.f k a0 a1 a2 a3) (clavigerlaw12_KdfBegins.f (k + 1) a0 a1 a2 a3) := by
 intro a0 a1 a2 a3 k
 have ih0 := clavigerlaw12_KdfBegins.mono_l k
 unfold clavigerlaw12_KdfBegins.f
 repeat' first
   | (with_reducible exact ih0 _ _ _ _ _)
   | (with_reducible exact clavigerlaw12_awake.mono _)
   | (with_reducible exact kdf_Counter.mono _ _ _ _)
   | (with_reducible exact LeO.refl _)
   | (with_reducible exact LeO.none _)
   | (with_reducible refine LeO.ite ?_ ?_)
   | (with_reducible refine LeO.bind ?_ (fun _ => ?_))
/-- THE ONE PURE STATEMENT of clavigerlaw12_KdfBegins: yours. -/
def clavigerlaw12_KdfBegins.Pure : Prop := ∀ (a0 : ByteArray) (a1 : ByteArray) (a2 : Int) (a3 : Int), a0.size ≤ 140737488351232 → a1.size ≤ 140737488351232 → (Lit.int .u8 a2).wf = true → (Lit.int .u8 a3).wf = true → ∃ k, clavigerlaw12_KdfBegins.f k a0 a1 a2 a3 = some true
end Go.Proofs.Ytokkhnjedmlbhaa.Pr
end
section
namespace Go.Proofs.Ytokkhnjedmlbhaa.Pr
open Go.RowKit Go.Proofs.YtokkhnjedmlbhaaW.PrintWords Go.Proofs.YtokkhnjedmlbhaaW.PrintLast Go.Proofs.YtokkhnjedmlbhaaW.PrintMore
attribute [local go_sem] max2_int min2_int max_two min_two max_three min_three max_four min_four   -- for this text's walks alone
set_option linter.unusedVariables false
set_option linter.unusedSimpArgs false

def clavigerlaw12_KdfTells.j0 : Nat → ByteArray → ByteArray → ByteArray → Int → Bool → Option (Bool)
 | 0, _, _, _, _, _ => none
 | k + 1, x0, x1, x2, x3, x33 => if x33 = true then ((kdf_Rounds.f x3).bind fun t1 => ((clavigerref12_Rounds.f k x3).bind fun t2 => (if t1 = t2 then ((clavigerlaw12_awake.f k).bind fun t3 => (some t3)) else (some false)))) else ((kdf_Counter.f k x0 x1 x3).bind fun bt4 => ((clavigerref12_Counter.f k x0 x1 x3).bind fun bt5 => (if bt4.1.toList = bt5.1.toList then (if bt4.2 = bt5.2 then ((kdf_Rounds.f x3).bind fun t6 => ((clavigerref12_Rounds.f k x3).bind fun t7 => (if t6 = t7 then ((kdf_Fixed.f x1 x2 x3).bind fun t8 => ((clavigerref12_Fixed.f k x1 x2 x3).bind fun t9 => (if t8.toList = t9.toList then ((clavigerlaw12_awake.f k).bind fun t10 => (some t10)) else (some false)))) else (some false)))) else (some false)) else (some false))))
def clavigerlaw12_KdfTells.f (k : Nat) (a0 : ByteArray) (a1 : ByteArray) (a2 : ByteArray) (a3 : Int) : Option (Bool) := if (a0.size : Int) > 100 then (clavigerlaw12_KdfTells.j0 k a0 a1 a2 a3 true) else (if (a1.size : Int) > 100 then (clavigerlaw12_KdfTells.j0 k a0 a1 a2 a3 true) else (if (a2.size : Int) > 100 then (clavigerlaw12_KdfTells.j0 k a0 a1 a2 a3 true) else (if a3 > 100 then (clavigerlaw12_KdfTells.j0 k a0 a1 a2 a3 (decide (a3 ≤ 4080))) else (clavigerlaw12_KdfTells.j0 k a0 a1 a2 a3 false))))
theorem clavigerlaw12_KdfTells.mono_l : ∀ k, (∀ y11 y12 y13 y14 y15, LeO (clavigerlaw12_KdfTells.j0 k y11 y12 y13 y14 y15) (clavigerlaw12_KdfTells.j0 (k + 1) y11 y12 y13 y14 y15))
 | 0 => fun _ _ _ _ _ r h => by simp [clavigerlaw12_KdfTells.j0] at h
 | k + 1 => by
  have ih0 := clavigerlaw12_KdfTells.mono_l k
  ·intro y11 y12 y13 y14 y15
   unfold clavigerlaw12_KdfTells.j0
   repeat' first
   | (with_reducible exact ih0 _ _ _ _ _)
   | (with_reducible exact clavigerlaw12_awake.mono _)
   | (with_reducible exact clavigerref12_Counter.mono _ _ _ _)
   | (with_reducible exact clavigerref12_Fixed.mono _ _ _ _)
   | (with_reducible exact clavigerref12_Rounds.mono _ _)
   | (with_reducible exact kdf_Counter.mono _ _ _ _)
   | (with_reducible exact LeO.refl _)
   | (with_reducible exact LeO.none _)
   | (with_reducible refine LeO.ite ?_ ?_)
   | (with_reducible refine LeO.bind ?_ (fun _ => ?_))
theorem clavigerlaw12_KdfTells.mono : ∀ a0 a1 a2 a3 k, LeO (clavigerlaw12_KdfTells.f k a0 a1 a2 a3) (clavigerlaw12_KdfTells.f (k + 1) a0 a1 a2 a3) := by
 intro a0 a1 a2 a3 k
 have ih0 := clavigerlaw12_KdfTells.mono_l k
 unfold clavigerlaw12_KdfTells.f
 repeat' first
   | (with_reducible exact ih0 _ _ _ _ _)
   | (with_reducible exact clavigerlaw12_awake.mono _)
   | (with_reducible exact clavigerref12_Counter.mono _ _ _ _)
   | (with_reducible exact clavigerref12_Fixed.mono _ _ _ _)
   | (with_reducible exact clavigerref12_Rounds.mono _ _)
   | (with_reducible exact kdf_Counter.mono _ _ _ _)
   | (with_reducible exact LeO.refl _)
   | (with_reducible exact LeO.none _)
   | (with_reducible refine LeO.ite ?_ ?_)
   | (with_reducible refine LeO.bind ?_ (fun _ => ?_))
/-- THE ONE PURE STATEMENT of clavigerlaw12_KdfTells: yours. -/
def clavigerlaw12_KdfTells.Pure : Prop := ∀ (a0 : ByteArray) (a1 : ByteArray) (a2 : ByteArray) (a3 : Int), a0.size ≤ 140737488351232 → a1.size ≤ 140737488351232 → a2.size ≤ 140737488351232 → (Lit.int .i64 a3).wf = true → ∃ k, clavigerlaw12_KdfTells.f k a0 a1 a2 a3 = some true
end Go.Proofs.Ytokkhnjedmlbhaa.Pr
end
section
namespace Go.Proofs.Ytokkhnjedmlbhaa.M
open Go.RowKit Go.Proofs.Ytokkhnjedmlbhaa.Pr Go.Proofs.YtokkhnjedmlbhaaW.PrintWords Go.Proofs.YtokkhnjedmlbhaaW.PrintLast Go.Proofs.YtokkhnjedmlbhaaW.PrintMore Go.Proofs.YtokkhnjedmlbhaaGf
set_option linter.unusedSimpArgs false
theorem ctr_pre {key fixed : ByteArray} (ok : okN key.size) {n m : Nat} (h1 : 1 ≤ n) (h2 : n + m ≤ 4080) : ((ctrX key fixed ((n + m : Nat) : Int)).1.extract 0 n) = (ctrX key fixed (n : Int)).1 ∧ (ctrX key fixed (n : Int)).1.size = n ∧ (ctrX key fixed (n : Int)).2 = 0 := by
  have hk := (ks_facts ok).2.1
  have r (q : Nat) (hq : 1 ≤ q) (hq2 : q ≤ 4080) : ctrX key fixed (q : Int) = ((catB (kTs (ksB key) fixed ((q + 15) / 16))).extract 0 q, 0) := by
    have e : rndK (q : Int) = (q + 15) / 16 := by unfold rndK; rw [if_neg (by omega), if_neg (by omega), Int.toNat_natCast]
    unfold ctrX
    rw [if_pos ok, e, if_neg (by omega), Int.toNat_natCast]
  have z (q : Nat) : (catB (kTs (ksB key) fixed q)).size = 16 * q := kTs_size hk fixed q
  rw [r n h1 (by omega), r (n + m) (by omega) h2]
  refine ⟨?_, by rw [ByteArray.size_extract, z]; omega, rfl⟩
  have e : kTs (ksB key) fixed ((n + m + 15) / 16) = kTs (ksB key) fixed ((n + 15) / 16) ++ (List.range ((n + m + 15) / 16 - (n + 15) / 16)).map fun i => kT (ksB key) fixed ((n + 15) / 16 + i) := by
    have hq : (n + m + 15) / 16 = (n + 15) / 16 + ((n + m + 15) / 16 - (n + 15) / 16) := by omega
    conv => lhs; rw [hq]
    unfold kTs
    rw [List.range_add, List.map_append, List.map_map]
    rfl
  show ((catB (kTs (ksB key) fixed ((n + m + 15) / 16))).extract 0 (n + m)).extract 0 n = _
  have hz := z ((n + 15) / 16)
  rw [e, cat_app, extract_nb, extract_nb, extract_nb, nb_mkB (isB_drop (isB_take (isB_nb _) _) _), nb_append, List.drop_zero, List.drop_zero, List.drop_zero, List.take_take, Nat.min_eq_left (by omega), List.take_append_of_le_length (by rw [nb_length]; omega)]
end Go.Proofs.Ytokkhnjedmlbhaa.M
end
section
namespace Go.Proofs.Ytokkhnjedmlbhaa.M
open Go.RowKit Go.Proofs.Ytokkhnjedmlbhaa.Pr Go.Proofs.YtokkhnjedmlbhaaW.PrintWords Go.Proofs.YtokkhnjedmlbhaaW.PrintLast Go.Proofs.YtokkhnjedmlbhaaW.PrintMore Go.Proofs.YtokkhnjedmlbhaaGf
set_option linter.unusedSimpArgs false
/-- The key of a purpose. -/
def dkT (kek : ByteArray) (p : Int) : ByteArray := (ctrX kek (inX p (kek.size : Int)) (kek.size : Int)).1
def dkX (kek : ByteArray) (p : Int) : ByteArray × Int := if okN kek.size then if p = 0 ∨ p = 1 then (dkT kek p, 0) else (⟨#[]⟩, 1) else (⟨#[]⟩, 2)
def dksX (kek : ByteArray) : ByteArray × ByteArray × Int := if okN kek.size then (dkT kek 0, dkT kek 1, 0) else (⟨#[]⟩, ⟨#[]⟩, 2)
theorem okI {n : Nat} (h : okN n) : (n : Int) = 16 ∨ (n : Int) = 24 ∨ (n : Int) = 32 := by rcases h with h | h | h <;> omega
theorem inX_size (p n : Int) : (inX p n).size ≤ 7 := by
  unfold inX
  split
  · rw [mkB_size]; exact Nat.le_refl 7
  · decide
theorem inX_ne {p n : Int} (hp : p = 0 ∨ p = 1) (hn : n = 16 ∨ n = 24 ∨ n = 32) : (inX p n).toList ≠ ([] : List UInt8) := by
  have hs : (inX p n).size = 7 := by unfold inX; rw [if_pos ⟨hp, hn⟩, mkB_size]; rfl
  rw [tl_eq]
  intro e
  have := congrArg List.length e
  rw [Array.length_toList] at this
  have h2 : (inX p n).data.size = (inX p n).size := rfl
  rw [h2, hs] at this
  cases this
theorem dk_ok {kek : ByteArray} (ok : okN kek.size) (p : Int) : ctrX kek (inX p (kek.size : Int)) (kek.size : Int) = (dkT kek p, 0) ∧ (dkT kek p).size = kek.size := by
  have h1 : 1 ≤ kek.size := by rcases ok with h | h | h <;> omega
  have h2 : kek.size + 0 ≤ 4080 := by rcases ok with h | h | h <;> omega
  obtain ⟨_, q2, q3⟩ := ctr_pre (fixed := inX p (kek.size : Int)) ok h1 h2
  exact ⟨Prod.ext rfl q3, q2⟩
theorem dk_okN {kek : ByteArray} (ok : okN kek.size) (p : Int) : okN (dkT kek p).size := by rw [(dk_ok ok p).2]; exact ok
theorem dkey_c (kek : ByteArray) (p : Int) : Ev (fun k => derive_Key.f k kek p) (dkX kek p) := by
  unfold derive_Key.f dkX
  refine evs (rounds_i _) ?_
  by_cases ok : okN kek.size
  · rw [if_pos ok]
    refine evn (by rw [rnd_ok ok]; omega) (evs (g := derive_Input.f p (kek.size : Int)) rfl ?_)
    by_cases hp : p = 0 ∨ p = 1
    · rw [if_pos hp]
      have h := kctr_c kek (inX p (kek.size : Int)) (by have := inX_size p (kek.size : Int); omega) (kek.size : Int)
      rw [(dk_ok ok p).1] at h
      exact evn (inX_ne hp (okI ok)) (evb h (Ev.now _))
    · rw [if_neg hp]
      have e : inX p (kek.size : Int) = ⟨#[]⟩ := by unfold inX; rw [if_neg (fun h => hp h.1)]
      rw [e]
      exact evp nil_list (Ev.now _)
  · rw [if_neg ok]
    exact evp (rnd_no ok) (Ev.now _)
theorem dkeys_c (kek : ByteArray) : Ev (fun k => derive_Keys.f k kek) (dksX kek) := by
  unfold derive_Keys.f dksX
  have h0 := dkey_c kek 0
  have h1 := dkey_c kek 1
  unfold dkX at h0 h1
  by_cases ok : okN kek.size
  · rw [if_pos ok, if_pos (.inl rfl)] at h0
    rw [if_pos ok, if_pos (.inr rfl)] at h1
    rw [if_pos ok]
    exact evb h0 (evp rfl (evb h1 (evp rfl (Ev.now _))))
  · rw [if_neg ok] at h0 ⊢
    exact evb h0 (evn (by decide) (Ev.now _))
theorem rin_c (p n : Int) : Ev (fun k => clavigerref35_Input.f k p n) (inX p n) := by
  have bad (h : ¬ ((p = 0 ∨ p = 1) ∧ (n = 16 ∨ n = 24 ∨ n = 32))) : Ev (fun k => clavigerref35_Input.j0 k p n true) (inX p n) := by
    have e : inX p n = ⟨#[]⟩ := by unfold inX; rw [if_neg h]
    rw [e]
    exact Ev.step (f := fun _ => some (⟨#[]⟩ : ByteArray)) (fun k => by simp only [clavigerref35_Input.j0]; rw [if_pos True.intro]) (Ev.now _)
  have good (hp : p = 0 ∨ p = 1) (hn : n = 16 ∨ n = 24 ∨ n = 32) : Ev (fun k => clavigerref35_Input.j0 k p n false) (inX p n) := by
    obtain ⟨q, hq, rfl⟩ : ∃ q : Nat, q < 2 ∧ p = (q : Int) := ⟨p.toNat, by omega, by omega⟩
    obtain ⟨m, hm, rfl⟩ : ∃ m : Nat, (m = 16 ∨ m = 24 ∨ m = 32) ∧ n = (m : Int) := ⟨n.toNat, by omega, by omega⟩
    have e1 : IntKind.u64.wrap ((q : Nat) : Int) = ((q : Nat) : Int) := by rw [IntKind.wrap_u64]; omega
    have e2 : IntKind.u64.wrap (wrap64 (Int.tdiv (m : Int) 8)) = ((m / 8 : Nat) : Int) := by rw [Int.tdiv_eq_ediv_of_nonneg (by omega), wrap_id (by omega) (by omega), IntKind.wrap_u64]; omega
    have e3 : IntKind.u64.wrap (wrap64 (8 * (m : Int))) = ((8 * m : Nat) : Int) := by rw [wrap_id (by omega) (by omega), IntKind.wrap_u64]; omega
    have l (u : Nat) : (mkB (lowL u 2)).size = 2 := by rw [mkB_size, lowL_length]
    have r : ((mkB (lowL q 2) ++ (⟨#[0]⟩ : ByteArray)) ++ mkB (lowL (m / 8) 2)) ++ mkB (lowL (8 * m) 2) = inX (q : Int) (m : Int) := by
      obtain rfl | rfl : q = 0 ∨ q = 1 := by omega
      · rcases hm with rfl | rfl | rfl <;> decide +kernel
      · rcases hm with rfl | rfl | rfl <;> decide +kernel
    rw [← r]
    refine Ev.step (f := fun k => (clavigerref01_Put.f k ((q : Nat) : Int) 2).bind fun t1 => (if t1.size + 1 ≤ 9223372036854775807 then ((clavigerref01_Put.f k ((m / 8 : Nat) : Int) 2).bind fun t2 => (if (t1 ++ (⟨#[0]⟩ : ByteArray)).size + t2.size ≤ 9223372036854775807 then ((clavigerref01_Put.f k ((8 * m : Nat) : Int) 2).bind fun t3 => (if ((t1 ++ (⟨#[0]⟩ : ByteArray)) ++ t2).size + t3.size ≤ 9223372036854775807 then (some (((t1 ++ (⟨#[0]⟩ : ByteArray)) ++ t2) ++ t3)) else (none))) else (none))) else (none))) (fun k => by simp only [clavigerref35_Input.j0, e1, e2, e3]; rw [if_neg (by simp)]) ?_
    have z1 : (⟨#[0]⟩ : ByteArray).size = 1 := rfl
    refine evb (rput_c q 2 (by omega) (by omega) (by omega)) (evp (by rw [l]; omega) (evb (rput_c (m / 8) 2 (by omega) (by omega) (by omega)) (evp (by rw [ByteArray.size_append, l, l, z1]; omega) (evb (rput_c (8 * m) 2 (by omega) (by omega) (by omega)) (evp (by rw [ByteArray.size_append, ByteArray.size_append, l, l, l, z1]; omega) (Ev.now _))))))
  unfold clavigerref35_Input.f
  by_cases h1 : p < 0
  · exact evp h1 (bad (fun h => by omega))
  · refine evn h1 ?_
    by_cases h2 : p > 1
    · exact evp h2 (bad (fun h => by omega))
    · refine evn h2 ?_
      by_cases h3 : n = 16
      · exact evp h3 (good (by omega) (by omega))
      · refine evn h3 ?_
        by_cases h4 : n = 24
        · exact evp h4 (good (by omega) (by omega))
        · refine evn h4 ?_
          by_cases h5 : n = 32
          · rw [show (n != 32) = false by rw [h5]; rfl]; exact good (by omega) (by omega)
          · rw [show (n != 32) = true from bne_iff_ne.mpr h5]; exact bad (fun h => by omega)
theorem rdkey_c (kek : ByteArray) (p : Int) : Ev (fun k => clavigerref35_Key.f k kek p) (dkX kek p) := by
  have go (ok : okN kek.size) : Ev (fun k => clavigerref35_Key.j0 k kek p false) (if p = 0 ∨ p = 1 then (dkT kek p, 0) else (⟨#[]⟩, 1)) := by
    have bad (h : ¬ (p = 0 ∨ p = 1)) : Ev (fun k => clavigerref35_Key.j1 k kek p true) (if p = 0 ∨ p = 1 then (dkT kek p, 0) else (⟨#[]⟩, 1)) := by
      rw [if_neg h]
      exact Ev.step (f := fun _ => some ((⟨#[]⟩ : ByteArray), 1)) (fun k => by simp only [clavigerref35_Key.j1]; rw [if_pos True.intro]) (Ev.now _)
    refine Ev.step (f := fun k => if p < 0 then clavigerref35_Key.j1 k kek p true else clavigerref35_Key.j1 k kek p (decide (p > 1))) (fun k => by simp only [clavigerref35_Key.j0]; rw [if_neg (by simp)]) ?_
    by_cases h1 : p < 0
    · exact evp h1 (bad (by omega))
    · refine evn h1 ?_
      by_cases h2 : p > 1
      · rw [decide_eq_true h2]; exact bad (by omega)
      · rw [decide_eq_false h2, if_pos (show p = 0 ∨ p = 1 by omega)]
        refine Ev.step (f := fun k => (clavigerref35_Input.f k p (kek.size : Int)).bind fun t1 => ((clavigerref12_Counter.f k kek t1 (kek.size : Int)).bind fun bt2 => (some (bt2.1, bt2.2)))) (fun k => by simp only [clavigerref35_Key.j1]; rw [if_neg (by simp)]) ?_
        have h := rctr_c kek (inX p (kek.size : Int)) (by have := inX_size p (kek.size : Int); omega) (kek.size : Int)
        rw [(dk_ok ok p).1] at h
        exact evb (rin_c p _) (evb h (Ev.now _))
  unfold clavigerref35_Key.f dkX
  by_cases h1 : kek.size = 16
  · rw [if_pos (.inl h1)]
    exact evp (by omega) (go (.inl h1))
  · refine evn (by omega) ?_
    by_cases h2 : kek.size = 24
    · rw [if_pos (.inr (.inl h2))]
      exact evp (by omega) (go (.inr (.inl h2)))
    · refine evn (by omega) ?_
      by_cases h3 : kek.size = 32
      · rw [if_pos (.inr (.inr h3)), show ((kek.size : Int) != 32) = false by rw [h3]; rfl]
        exact go (.inr (.inr h3))
      · rw [if_neg (by unfold okN; omega), show ((kek.size : Int) != 32) = true from bne_iff_ne.mpr (by omega)]
        exact Ev.step (f := fun _ => some ((⟨#[]⟩ : ByteArray), 2)) (fun k => by simp only [clavigerref35_Key.j0]; rw [if_pos True.intro]) (Ev.now _)
theorem rdkeys_c (kek : ByteArray) : Ev (fun k => clavigerref35_Keys.f k kek) (dksX kek) := by
  unfold clavigerref35_Keys.f dksX
  have h0 := rdkey_c kek 0
  have h1 := rdkey_c kek 1
  unfold dkX at h0 h1
  by_cases ok : okN kek.size
  · rw [if_pos ok, if_pos (.inl rfl)] at h0
    rw [if_pos ok, if_pos (.inr rfl)] at h1
    rw [if_pos ok]
    exact evb h0 (evb h1 (Ev.now _))
  · rw [if_neg ok] at h0 h1 ⊢
    exact evb h0 (evb h1 (Ev.now _))
end Go.Proofs.Ytokkhnjedmlbhaa.M
end
section
namespace Go.Proofs.Ytokkhnjedmlbhaa.M
open Go.RowKit Go.Proofs.Ytokkhnjedmlbhaa.Pr Go.Proofs.YtokkhnjedmlbhaaW.PrintWords Go.Proofs.YtokkhnjedmlbhaaW.PrintLast Go.Proofs.YtokkhnjedmlbhaaW.PrintMore Go.Proofs.YtokkhnjedmlbhaaGf
set_option linter.unusedSimpArgs false
def cbcE (key iv s : ByteArray) : ByteArray × Int := if rdyE key iv s = 0 then (outJ (ksB key) s iv (s.size / 16), 0) else (⟨#[]⟩, rdyE key iv s)
def cbcD (key iv s : ByteArray) : ByteArray × Int := if rdyE key iv s = 0 then (xorT (manyB (ksB key) true (s.size / 16) s) (iv ++ s), 0) else (⟨#[]⟩, rdyE key iv s)
theorem cenc_x (key iv s : ByteArray) (h : s.size < 1000000) : cbc_Encrypt.f key iv s = some (cbcE key iv s) := by
  unfold cbc_Encrypt.f; rw [if_pos h]; rfl
theorem bad_c (key iv s : ByteArray) : Ev (fun k => clavigerref10_bad.f k key iv s) (rdyE key iv s) := by
  have j : ∀ b : Bool, Ev (fun k => clavigerref10_bad.j0 k iv s b) (if b = true then 2 else if iv.size = 16 then if s.size % 16 = 0 then 0 else 4 else 1) := fun b => by
    cases b with
    | true => exact Ev.step (f := fun _ => some 2) (fun k => by simp only [clavigerref10_bad.j0]; rw [if_pos True.intro]) (Ev.now _)
    | false =>
      refine Ev.step (f := fun _ => some (if iv.size = 16 then if s.size % 16 = 0 then 0 else 4 else 1)) (fun k => ?_) (Ev.now _)
      simp only [clavigerref10_bad.j0]
      rw [if_neg (by simp)]
      by_cases h1 : iv.size = 16
      · rw [if_pos (by omega), if_pos h1]
        by_cases h2 : s.size % 16 = 0
        · rw [if_pos (by omega), if_pos h2]
        · rw [if_neg (by omega), if_neg h2]
      · rw [if_neg (by omega), if_neg h1]
  unfold clavigerref10_bad.f rdyE
  by_cases h1 : key.size = 16
  · rw [if_pos (.inl h1)]
    exact evp (by omega) (j false)
  · refine evn (by omega) ?_
    by_cases h2 : key.size = 24
    · rw [if_pos (.inr (.inl h2))]
      exact evp (by omega) (j false)
    · refine evn (by omega) ?_
      by_cases h3 : key.size = 32
      · rw [if_pos (.inr (.inr h3)), show ((key.size : Int) != 32) = false by rw [h3]; rfl]
        exact j false
      · rw [if_neg (by unfold okN; omega), show ((key.size : Int) != 32) = true from bne_iff_ne.mpr (by omega)]
        exact j true
def blk (s : ByteArray) (j : Nat) : ByteArray := s.extract (16 * j) (16 * j + 16)
def prv (s iv : ByteArray) : Nat → ByteArray
  | 0 => iv
  | j + 1 => blk s j
theorem bb_app (a b : ByteArray) (i : Nat) : bb (a ++ b) i = if i < a.size then bb a i else bb b (i - a.size) := by
  rw [bb_nb, nb_append, List.getD_eq_getElem?_getD]
  by_cases h : i < a.size
  · rw [if_pos h, List.getElem?_append_left (by rw [nb_length]; exact h), bb_nb, List.getD_eq_getElem?_getD]
  · rw [if_neg h, List.getElem?_append_right (by rw [nb_length]; omega), nb_length, bb_nb, List.getD_eq_getElem?_getD]
theorem xor_app {a b : ByteArray} (x y : ByteArray) (h : a.size = b.size) : xorT (a ++ x) (b ++ y) = xorT a b ++ xorT x y := by
  unfold xorT
  rw [mkB_append, ByteArray.size_append, ByteArray.size_append, ← h, show min (a.size + x.size) (a.size + y.size) = a.size + min x.size y.size by omega, Nat.min_self, List.range_add, List.map_append, List.map_map]
  congr 2
  · refine List.map_congr_left (fun i hi => ?_)
    have := List.mem_range.1 hi
    rw [bb_app, bb_app, if_pos this, if_pos (by omega)]
  · refine List.map_congr_left (fun i _ => ?_)
    show bb (a ++ x) (a.size + i) ^^^ bb (b ++ y) (a.size + i) = _
    rw [bb_app, bb_app, if_neg (by omega), if_neg (by omega), show a.size + i - a.size = i by omega, show a.size + i - b.size = i by omega]
theorem xor_empty (y : ByteArray) : xorT ⟨#[]⟩ y = ⟨#[]⟩ := by
  unfold xorT
  rw [show (⟨#[]⟩ : ByteArray).size = 0 from rfl, Nat.zero_min]
  rfl
theorem xor_cat (n : Nat) : ∀ (l m : List ByteArray), allS n l → allS n m → l.length ≤ m.length → xorT (catB l) (catB m) = catB (List.zipWith xorT l m)
  | [], _, _, _, _ => xor_empty _
  | a :: l, [], _, _, h => by simp at h
  | a :: l, b :: m, hl, hm, h => by
    show xorT (a ++ catB l) (b ++ catB m) = xorT a b ++ catB (List.zipWith xorT l m)
    rw [xor_app _ _ ((hl a (by simp)).trans (hm b (by simp)).symm), xor_cat n l m (fun x hx => hl x (by simp [hx])) (fun x hx => hm x (by simp [hx])) (by simpa using h)]
theorem zip_rng (f g : Nat → ByteArray) (m n : Nat) (h : m ≤ n) : List.zipWith xorT ((List.range m).map f) ((List.range n).map g) = (List.range m).map fun j => xorT (f j) (g j) := by
  apply List.ext_getElem
  · simp; omega
  · intro i h1 h2
    simp
theorem rng_cat (f : Nat → ByteArray) (m : Nat) : catB ((List.range (m + 1)).map f) = catB ((List.range m).map f) ++ f m := by
  rw [List.range_succ, List.map_append, cat_app, List.map_singleton, cat_one]
theorem prv_cat (s iv : ByteArray) : ∀ m, catB ((List.range (m + 1)).map (prv s iv)) = iv ++ catB (pcs 16 m s)
  | 0 => by
    show iv ++ (⟨#[]⟩ : ByteArray) = iv ++ (⟨#[]⟩ : ByteArray)
    rfl
  | m + 1 => by
    rw [rng_cat, prv_cat s iv m, pcs_succ, cat_app, cat_one, ByteArray.append_assoc]
    rfl
theorem prv_all {s iv : ByteArray} (hi : iv.size = 16) {m : Nat} (hs : 16 * m ≤ s.size) : allS 16 ((List.range (m + 1)).map (prv s iv)) := by
  intro x hx
  obtain ⟨j, hj, rfl⟩ := List.mem_map.1 hx
  have hj := List.mem_range.1 hj
  cases j with
  | zero => exact hi
  | succ j =>
    show (blk s j).size = 16
    unfold blk
    rw [ByteArray.size_extract]; omega
theorem many_rng (ks : List ByteArray) (back : Bool) (m : Nat) (s : ByteArray) : manyB ks back m s = catB ((List.range m).map fun j => cryT ks back (blk s j)) := by
  unfold manyB pcs
  rw [List.map_map]
  rfl
theorem dec_list {ks : List ByteArray} (hk : all16 ks) {s iv : ByteArray} (hi : iv.size = 16) {m : Nat} (hs : s.size = 16 * m) : xorT (manyB ks true m s) (iv ++ s) = catB ((List.range m).map fun j => xorT (decT ks (blk s j)) (prv s iv j)) := by
  have h1 : iv ++ s = catB ((List.range (m + 1)).map (prv s iv)) := by rw [prv_cat, pcs_all hs]
  rw [h1, many_rng, xor_cat 16 _ _ (fun x hx => ?_) (prv_all hi (by omega)) (by simp), zip_rng _ _ _ _ (by omega)]
  · rfl
  · obtain ⟨j, hj, rfl⟩ := List.mem_map.1 hx
    have hj := List.mem_range.1 hj
    exact cry_size hk true (by unfold blk; rw [ByteArray.size_extract]; omega)
theorem cat_get (n : Nat) : ∀ (l : List ByteArray) (j : Nat) (x : ByteArray), allS n l → l[j]? = some x → (catB l).extract (n * j) (n * j + n) = x
  | [], j, x, _, h => by simp at h
  | a :: l, 0, x, hs, h => by
    have ha := hs a (by simp)
    have : a = x := by simpa using h
    subst this
    show (a ++ catB l).extract (n * 0) (n * 0 + n) = a
    rw [Nat.mul_zero, Nat.zero_add, ← ha]
    exact ext_left a _
  | a :: l, j + 1, x, hs, h => by
    have ha := hs a (by simp)
    have hh := cat_get n l j x (fun y hy => hs y (by simp [hy])) (by simpa using h)
    show (a ++ catB l).extract (n * (j + 1)) (n * (j + 1) + n) = x
    rw [← hh, Nat.mul_succ, extract_nb, extract_nb, nb_append]
    congr 1
    have hl := nb_length a
    rw [show n * j + n + n = (nb a).length + (n * j + n) by omega, show n * j + n = (nb a).length + n * j by omega, List.take_length_add_append, List.drop_length_add_append]
theorem many_blk {ks : List ByteArray} (hk : all16 ks) (back : Bool) {s : ByteArray} {m j : Nat} (hs : 16 * m ≤ s.size) (hj : j < m) : (manyB ks back m s).extract (16 * j) (16 * j + 16) = cryT ks back (blk s j) := by
  refine cat_get 16 _ j _ (many_all hk back hs) ?_
  simp [pcs, hj, blk]
def decL (ks : List ByteArray) (s iv : ByteArray) (j : Nat) : ByteArray := catB ((List.range j).map fun j => xorT (decT ks (blk s j)) (prv s iv j))
theorem decL_size {ks : List ByteArray} (hk : all16 ks) {s iv : ByteArray} (hi : iv.size = 16) (j : Nat) (hj : 16 * j ≤ s.size) : (decL ks s iv j).size = 16 * j := by
  unfold decL
  rw [cat_size 16 _ (fun x hx => ?_), List.length_map, List.length_range]
  obtain ⟨q, hq, rfl⟩ := List.mem_map.1 hx
  have hq := List.mem_range.1 hq
  have := prv_all (s := s) hi (m := q) (by omega) (prv s iv q) (List.mem_map_of_mem (List.mem_range.2 (by omega)))
  rw [xorT_size, this, dec_size hk (by unfold blk; rw [ByteArray.size_extract]; omega)]
  rfl
theorem rcdecL {ks : List ByteArray} (hk : all16 ks) (iv s : ByteArray) (hi : iv.size = 16) (m : Nat) (hm : s.size = 16 * m) (hb : m < 100000000) (d : Nat) : ∀ j, m - j = d → j ≤ m →
    Ev (fun k => clavigerref10_Decrypt.l0 k (prv s iv j) s (decL ks s iv j) (manyB ks true m s) ((16 * j : Nat) : Int)) (decL ks s iv m, 0) := by
  have hD := many_size hk true (m := m) (s := s) (by omega)
  induction d with
  | zero =>
    intro j hd hj
    obtain rfl : j = m := by omega
    refine Ev.step (f := fun _ => some (decL ks s iv j, 0)) (fun k => ?_) (Ev.now _)
    simp only [clavigerref10_Decrypt.l0]
    rw [if_neg (by omega)]
  | succ d ih =>
    intro j hd hj
    have hh := ih (j + 1) (by omega) (by omega)
    have e : wrap64 (((16 * j : Nat) : Int) + 16) = ((16 * j + 16 : Nat) : Int) := by rw [wrap_id (by omega) (by omega)]; omega
    rw [show ((16 * (j + 1) : Nat) : Int) = ((16 * j + 16 : Nat) : Int) by omega] at hh
    have hz := decL_size hk (s := s) hi j (by omega)
    have hp := prv_all (s := s) hi (m := j) (by omega) (prv s iv j) (List.mem_map_of_mem (List.mem_range.2 (by omega)))
    have hd2 : (decT ks (blk s j)).size = 16 := dec_size hk (by unfold blk; rw [ByteArray.size_extract]; omega)
    refine Ev.step (f := fun k => (clavigerref01_Xor.f k (decT ks (blk s j)) (prv s iv j)).bind fun t442 => (if (decL ks s iv j).size + t442.size ≤ 9223372036854775807 then (if ((16 * j + 16 : Nat) : Int) ≤ (s.size : Int) then (clavigerref10_Decrypt.l0 k (s.extract (16 * j) (16 * j + 16)) s (decL ks s iv j ++ t442) (manyB ks true m s) ((16 * j + 16 : Nat) : Int)) else (none)) else (none))) (fun k => ?_) ?_
    · simp only [clavigerref10_Decrypt.l0]
      rw [if_pos (by omega), if_pos (by omega), e, if_pos (by omega), if_pos (by omega), Int.toNat_natCast, Int.toNat_natCast, many_blk hk true (by omega) (show j < m by omega)]
      rfl
    · refine evb (rxor_c _ _ (by omega) (by omega)) (evp (by rw [xorT_size]; omega) (evp (by omega) ?_))
      have : decL ks s iv (j + 1) = decL ks s iv j ++ xorT (decT ks (blk s j)) (prv s iv j) := by unfold decL; rw [rng_cat]
      rw [← this]
      exact hh
theorem rcdec_c (key iv s : ByteArray) (h : s.size < 1000000) : Ev (fun k => clavigerref10_Decrypt.f k key iv s) (cbcD key iv s) := by
  unfold clavigerref10_Decrypt.f cbcD
  refine evb (bad_c key iv s) ?_
  by_cases hr : rdyE key iv s = 0
  · obtain ⟨hk, hi, hs⟩ := rdy_ok hr
    have hm := rmany_c key s true (by omega)
    unfold manyX at hm
    rw [if_pos hk, if_pos hs] at hm
    rw [if_pos hr, dec_list (ks_facts hk).2.1 hi (by omega)]
    exact evp hr (evb hm (rcdecL (ks_facts hk).2.1 iv s hi (s.size / 16) (by omega) (by omega) _ 0 rfl (by omega)))
  · rw [if_neg hr]
    exact evn hr (Ev.now _)
theorem out_rng (ks : List ByteArray) (s iv : ByteArray) : ∀ m, outJ ks s iv m = catB ((List.range m).map fun j => ivJ ks s iv (j + 1))
  | 0 => rfl
  | m + 1 => by rw [rng_cat, ← out_rng ks s iv m]; rfl
theorem out_blk {ks : List ByteArray} (hk : all16 ks) {s iv : ByteArray} (hi : iv.size = 16) {m j : Nat} (hs : 16 * m ≤ s.size) (hj : j < m) : blk (outJ ks s iv m) j = ivJ ks s iv (j + 1) := by
  unfold blk
  rw [out_rng]
  refine cat_get 16 _ j _ (fun x hx => ?_) (by simp [hj])
  obtain ⟨q, hq, rfl⟩ := List.mem_map.1 hx
  have hq := List.mem_range.1 hq
  exact ivJ_size hk hi (q + 1) (by omega)
theorem xor_xor {a b : ByteArray} (h : a.size = b.size) : xorT (xorT a b) b = a := by
  have hs : (xorT a b).size = a.size := by rw [xorT_size, h, Nat.min_self]
  have hb : ∀ i, i < a.size → bb (xorT a b) i = bb a i ^^^ bb b i := fun i hi => by
    unfold xorT
    rw [bb_mkB (isB_rng (fun i => xor_lt (bb_lt a i) (bb_lt b i)) _), h, Nat.min_self]
    simp [show i < b.size by omega]
  conv => rhs; rw [← mkB_nb a]
  have e : xorT (xorT a b) b = mkB ((List.range a.size).map fun i => bb (xorT a b) i ^^^ bb b i) := by
    show mkB ((List.range (min (xorT a b).size b.size)).map _) = _
    rw [hs, h, Nat.min_self]
  rw [e]
  congr 1
  apply List.ext_getElem (by rw [List.length_map, List.length_range, nb_length])
  intro i h1 h2
  have hi : i < a.size := by rw [nb_length] at h2; exact h2
  rw [List.getElem_map, List.getElem_range, hb i hi, Nat.xor_assoc, Nat.xor_self, Nat.xor_zero, bb_nb, List.getD_eq_getElem?_getD, List.getElem?_eq_getElem h2]
  rfl
theorem cbc_back {ks : List ByteArray} (hk : all16 ks) {s iv : ByteArray} (hi : iv.size = 16) {m : Nat} (hs : s.size = 16 * m) : xorT (manyB ks true m (outJ ks s iv m)) (iv ++ outJ ks s iv m) = s := by
  have hz := outJ_size hk (s := s) hi m (by omega)
  rw [dec_list hk hi hz]
  conv => rhs; rw [← pcs_all hs]
  unfold pcs
  congr 1
  refine List.map_congr_left (fun j hj => ?_)
  have hj := List.mem_range.1 hj
  have h1 := ivJ_size hk (s := s) hi j (by omega)
  have h2 : (s.extract (16 * j) (16 * j + 16)).size = 16 := by rw [ByteArray.size_extract]; omega
  have h3 : prv (outJ ks s iv m) iv j = ivJ ks s iv j := by
    cases j with
    | zero => rfl
    | succ j => exact out_blk hk hi (by omega) (by omega)
  rw [out_blk hk hi (by omega) hj, h3]
  show xorT (decT ks (encT ks (xorT (s.extract (16 * j) (16 * j + 16)) (ivJ ks s iv j)))) (ivJ ks s iv j) = _
  rw [dec_enc hk (by rw [xorT_size, h1, h2]; rfl), xor_xor (by omega)]
end Go.Proofs.Ytokkhnjedmlbhaa.M
end
section
namespace Go.Proofs.Ytokkhnjedmlbhaa.M
open Go.RowKit Go.Proofs.Ytokkhnjedmlbhaa.Pr Go.Proofs.YtokkhnjedmlbhaaW.PrintWords Go.Proofs.YtokkhnjedmlbhaaW.PrintLast Go.Proofs.YtokkhnjedmlbhaaW.PrintMore Go.Proofs.YtokkhnjedmlbhaaGf
def n1 (s : ByteArray) (i : Nat) : Nat := if i < s.size then 1 else 0
end Go.Proofs.Ytokkhnjedmlbhaa.M
end
section
namespace Go.Proofs.Ytokkhnjedmlbhaa.Pr
open Go.RowKit Go.Proofs.YtokkhnjedmlbhaaW.PrintWords Go.Proofs.YtokkhnjedmlbhaaW.PrintLast Go.Proofs.YtokkhnjedmlbhaaW.PrintMore
attribute [local go_sem] max2_int min2_int max_two min_two max_three min_three max_four min_four   -- for this text's walks alone
set_option linter.unusedVariables false
set_option linter.unusedSimpArgs false

def clavigerlaw11_awake.f  : Option (Bool) := (cmac_Tag.f (⟨#[43, 126, 21, 22, 40, 174, 210, 166, 171, 247, 21, 136, 9, 207, 79, 60]⟩ : ByteArray) (⟨#[]⟩ : ByteArray)).bind fun bt1 => (if bt1.1.toList = ([187, 29, 105, 41, 233, 89, 55, 40, 127, 163, 125, 18, 155, 117, 103, 70] : List UInt8) then (if bt1.2 = 0 then ((cmac_Blocks.f 17).bind fun t2 => (some (t2 == 2))) else (some false)) else (some false))
end Go.Proofs.Ytokkhnjedmlbhaa.Pr
end
section
namespace Go.Proofs.Ytokkhnjedmlbhaa.Pr
open Go.RowKit Go.Proofs.YtokkhnjedmlbhaaW.PrintWords Go.Proofs.YtokkhnjedmlbhaaW.PrintLast Go.Proofs.YtokkhnjedmlbhaaW.PrintMore
attribute [local go_sem] max2_int min2_int max_two min_two max_three min_three max_four min_four   -- for this text's walks alone
set_option linter.unusedVariables false
set_option linter.unusedSimpArgs false

def clavigerlaw11_CmacChecks.j0 : Nat → ByteArray → ByteArray → ByteArray → Bool → Option (Bool)
 | 0, _, _, _, _ => none
 | k + 1, x0, x1, x2, x25 => if x25 = true then ((clavigerlaw11_awake.f).bind fun t1 => (some t1)) else ((clavigerref11_Tag.f k x0 x1).bind fun bt2 => ((cmac_Check.f x0 x1 x2).bind fun bt3 => ((cmac_Check.f x0 x1 bt2.1).bind fun bt4 => (if bt2.2 = bt3.2 then (if bt2.2 = bt4.2 then (if bt2.2 = 0 then (if (bt3.1 == (x2.toList == bt2.1.toList)) = true then (if (bt4.1 == (bt2.2 == 0)) = true then ((clavigerlaw11_awake.f).bind fun t5 => (some t5)) else (some false)) else (some false)) else (if (bt3.1 == false) = true then (if (bt4.1 == (bt2.2 == 0)) = true then ((clavigerlaw11_awake.f).bind fun t6 => (some t6)) else (some false)) else (some false))) else (some false)) else (some false)))))
def clavigerlaw11_CmacChecks.f (k : Nat) (a0 : ByteArray) (a1 : ByteArray) (a2 : ByteArray) : Option (Bool) := if (a0.size : Int) > 100 then (clavigerlaw11_CmacChecks.j0 k a0 a1 a2 true) else (if (a1.size : Int) > 160 then (clavigerlaw11_CmacChecks.j0 k a0 a1 a2 true) else (clavigerlaw11_CmacChecks.j0 k a0 a1 a2 (decide ((a2.size : Int) > 100))))
theorem clavigerlaw11_CmacChecks.mono_l : ∀ k, (∀ y7 y8 y9 y10, LeO (clavigerlaw11_CmacChecks.j0 k y7 y8 y9 y10) (clavigerlaw11_CmacChecks.j0 (k + 1) y7 y8 y9 y10))
 | 0 => fun _ _ _ _ r h => by simp [clavigerlaw11_CmacChecks.j0] at h
 | k + 1 => by
  have ih0 := clavigerlaw11_CmacChecks.mono_l k
  ·intro y7 y8 y9 y10
   unfold clavigerlaw11_CmacChecks.j0
   repeat' first
   | (with_reducible exact ih0 _ _ _ _)
   | (with_reducible exact clavigerref11_Tag.mono _ _ _)
   | (with_reducible exact LeO.refl _)
   | (with_reducible exact LeO.none _)
   | (with_reducible refine LeO.ite ?_ ?_)
   | (with_reducible refine LeO.bind ?_ (fun _ => ?_))
theorem clavigerlaw11_CmacChecks.mono : ∀ a0 a1 a2 k, LeO (clavigerlaw11_CmacChecks.f k a0 a1 a2) (clavigerlaw11_CmacChecks.f (k + 1) a0 a1 a2) := by
 intro a0 a1 a2 k
 have ih0 := clavigerlaw11_CmacChecks.mono_l k
 unfold clavigerlaw11_CmacChecks.f
 repeat' first
   | (with_reducible exact ih0 _ _ _ _)
   | (with_reducible exact clavigerref11_Tag.mono _ _ _)
   | (with_reducible exact LeO.refl _)
   | (with_reducible exact LeO.none _)
   | (with_reducible refine LeO.ite ?_ ?_)
   | (with_reducible refine LeO.bind ?_ (fun _ => ?_))
/-- THE ONE PURE STATEMENT of clavigerlaw11_CmacChecks: yours. -/
def clavigerlaw11_CmacChecks.Pure : Prop := ∀ (a0 : ByteArray) (a1 : ByteArray) (a2 : ByteArray), a0.size ≤ 140737488351232 → a1.size ≤ 140737488351232 → a2.size ≤ 140737488351232 → ∃ k, clavigerlaw11_CmacChecks.f k a0 a1 a2 = some true
end Go.Proofs.Ytokkhnjedmlbhaa.Pr
end
section
namespace Go.Proofs.Ytokkhnjedmlbhaa.Pr
open Go.RowKit Go.Proofs.YtokkhnjedmlbhaaW.PrintWords Go.Proofs.YtokkhnjedmlbhaaW.PrintLast Go.Proofs.YtokkhnjedmlbhaaW.PrintMore
attribute [local go_sem] max2_int min2_int max_two min_two max_three min_three max_four min_four   -- for this text's walks alone
set_option linter.unusedVariables false
set_option linter.unusedSimpArgs false

def clavigerlaw11_CmacTells.j0 : Nat → ByteArray → ByteArray → ByteArray → Int → Bool → Option (Bool)
 | 0, _, _, _, _, _ => none
 | k + 1, x0, x1, x2, x3, x31 => if x31 = true then ((clavigerlaw11_awake.f).bind fun t1 => (some t1)) else ((cmac_Tag.f x0 x1).bind fun bt2 => ((clavigerref11_Tag.f k x0 x1).bind fun bt3 => ((cmac_Subkeys.f x0).bind fun bt4 => ((clavigerref11_Subkeys.f k x0).bind fun bt5 => (if bt2.1.toList = bt3.1.toList then (if bt2.2 = bt3.2 then (if bt4.1.toList = bt5.1.toList then (if bt4.2.1.toList = bt5.2.1.toList then (if bt4.2.2 = bt5.2.2 then ((cmac_Double.f k x2).bind fun t6 => ((clavigerref11_Double.f x2).bind fun t7 => (if t6.toList = t7.toList then ((cmac_Blocks.f x3).bind fun t8 => ((clavigerref11_Blocks.f x3).bind fun t9 => (if t8 = t9 then ((clavigerlaw11_awake.f).bind fun t10 => (some t10)) else (some false)))) else (some false)))) else (some false)) else (some false)) else (some false)) else (some false)) else (some false))))))
def clavigerlaw11_CmacTells.f (k : Nat) (a0 : ByteArray) (a1 : ByteArray) (a2 : ByteArray) (a3 : Int) : Option (Bool) := if (a0.size : Int) > 100 then (clavigerlaw11_CmacTells.j0 k a0 a1 a2 a3 true) else (if (a1.size : Int) > 160 then (clavigerlaw11_CmacTells.j0 k a0 a1 a2 a3 true) else (clavigerlaw11_CmacTells.j0 k a0 a1 a2 a3 (decide ((a2.size : Int) > 100))))
theorem clavigerlaw11_CmacTells.mono_l : ∀ k, (∀ y11 y12 y13 y14 y15, LeO (clavigerlaw11_CmacTells.j0 k y11 y12 y13 y14 y15) (clavigerlaw11_CmacTells.j0 (k + 1) y11 y12 y13 y14 y15))
 | 0 => fun _ _ _ _ _ r h => by simp [clavigerlaw11_CmacTells.j0] at h
 | k + 1 => by
  have ih0 := clavigerlaw11_CmacTells.mono_l k
  ·intro y11 y12 y13 y14 y15
   unfold clavigerlaw11_CmacTells.j0
   repeat' first
   | (with_reducible exact ih0 _ _ _ _ _)
   | (with_reducible exact clavigerref11_Subkeys.mono _ _)
   | (with_reducible exact clavigerref11_Tag.mono _ _ _)
   | (with_reducible exact cmac_Double.mono _ _)
   | (with_reducible exact LeO.refl _)
   | (with_reducible exact LeO.none _)
   | (with_reducible refine LeO.ite ?_ ?_)
   | (with_reducible refine LeO.bind ?_ (fun _ => ?_))
theorem clavigerlaw11_CmacTells.mono : ∀ a0 a1 a2 a3 k, LeO (clavigerlaw11_CmacTells.f k a0 a1 a2 a3) (clavigerlaw11_CmacTells.f (k + 1) a0 a1 a2 a3) := by
 intro a0 a1 a2 a3 k
 have ih0 := clavigerlaw11_CmacTells.mono_l k
 unfold clavigerlaw11_CmacTells.f
 repeat' first
   | (with_reducible exact ih0 _ _ _ _ _)
   | (with_reducible exact clavigerref11_Subkeys.mono _ _)
   | (with_reducible exact clavigerref11_Tag.mono _ _ _)
   | (with_reducible exact cmac_Double.mono _ _)
   | (with_reducible exact LeO.refl _)
   | (with_reducible exact LeO.none _)
   | (with_reducible refine LeO.ite ?_ ?_)
   | (with_reducible refine LeO.bind ?_ (fun _ => ?_))
/-- THE ONE PURE STATEMENT of clavigerlaw11_CmacTells: yours. -/
def clavigerlaw11_CmacTells.Pure : Prop := ∀ (a0 : ByteArray) (a1 : ByteArray) (a2 : ByteArray) (a3 : Int), a0.size ≤ 140737488351232 → a1.size ≤ 140737488351232 → a2.size ≤ 140737488351232 → (Lit.int .i64 a3).wf = true → ∃ k, clavigerlaw11_CmacTells.f k a0 a1 a2 a3 = some true
end Go.Proofs.Ytokkhnjedmlbhaa.Pr
end
section
namespace Go.Proofs.Ytokkhnjedmlbhaa.M
open Go.RowKit Go.Proofs.Ytokkhnjedmlbhaa.Pr Go.Proofs.YtokkhnjedmlbhaaW.PrintWords Go.Proofs.YtokkhnjedmlbhaaW.PrintLast Go.Proofs.YtokkhnjedmlbhaaW.PrintMore Go.Proofs.YtokkhnjedmlbhaaGf
set_option linter.unusedSimpArgs false
/-- The tag of a payload with its top; its cipher. -/
def bnT (kek top p : ByteArray) : ByteArray := tagT (ksB (dkT kek 1)) (top ++ p)
def ciT (kek top p : ByteArray) : ByteArray := outJ (ksB (dkT kek 0)) p (bnT kek top p) (p.size / 16)
def bndX (kek top p : ByteArray) : ByteArray × Int := if okN kek.size then if p.size = 0 then (⟨#[]⟩, 4) else if p.size % 16 = 0 then (bnT kek top p, 0) else (⟨#[]⟩, 4) else (⟨#[]⟩, 2)
def slX (kek top p : ByteArray) : ByteArray × ByteArray × Int := if okN kek.size then if p.size = 0 then (⟨#[]⟩, ⟨#[]⟩, 4) else if p.size % 16 = 0 then (ciT kek top p, bnT kek top p, 0) else (⟨#[]⟩, ⟨#[]⟩, 4) else (⟨#[]⟩, ⟨#[]⟩, 2)
def rdX (kek p : ByteArray) : ByteArray × ByteArray × Int := if okN kek.size then if p.size = 0 then (⟨#[]⟩, ⟨#[]⟩, 4) else if p.size % 16 = 0 then (dkT kek 0, dkT kek 1, 0) else (⟨#[]⟩, ⟨#[]⟩, 4) else (⟨#[]⟩, ⟨#[]⟩, 2)
theorem nil_iff (s : ByteArray) : s.toList = ([] : List UInt8) ↔ s.size = 0 := by
  rw [tl_eq]
  refine ⟨fun e => ?_, fun h => List.eq_nil_of_length_eq_zero (by rw [Array.length_toList]; exact h)⟩
  have := congrArg List.length e
  rw [Array.length_toList] at this
  exact this
theorem ready_c (kek p : ByteArray) : Ev (fun k => seal_ready.f k kek p) (rdX kek p) := by
  unfold seal_ready.f rdX
  refine evb (dkeys_c kek) ?_
  unfold dksX
  by_cases ok : okN kek.size
  · rw [if_pos ok, if_pos ok]
    refine evp rfl ?_
    by_cases h0 : p.size = 0
    · rw [if_pos h0]
      exact evp ((nil_iff p).2 h0) (Ev.now _)
    · rw [if_neg h0]
      refine evn (fun e => h0 ((nil_iff p).1 e)) ?_
      by_cases h1 : p.size % 16 = 0
      · rw [if_pos h1]
        exact evp (by omega) (Ev.now _)
      · rw [if_neg h1]
        exact evn (by omega) (Ev.now _)
  · rw [if_neg ok, if_neg ok]
    exact evn (by decide) (Ev.now _)
theorem bn_size {kek : ByteArray} (ok : okN kek.size) (top p : ByteArray) : (bnT kek top p).size = 16 := tagT_size (ks_facts (dk_okN ok 1)).2.1 _
theorem tag_b {kek : ByteArray} (ok : okN kek.size) (top p : ByteArray) : tagX (dkT kek 1) (top ++ p) = (bnT kek top p, 0) := by unfold tagX; rw [if_pos (dk_okN ok 1)]; rfl
theorem enc_b {kek : ByteArray} (ok : okN kek.size) (top : ByteArray) {p : ByteArray} (h : p.size % 16 = 0) : cbcE (dkT kek 0) (bnT kek top p) p = (ciT kek top p, 0) := by
  unfold cbcE
  rw [if_pos (by unfold rdyE; rw [if_pos (dk_okN ok 0), if_pos (bn_size ok top p), if_pos h])]
  rfl
theorem seal_c (kek top p : ByteArray) (ht : top.size < 100000) (hp : p.size < 100000) : Ev (fun k => seal_Seal.f k kek top p) (slX kek top p) := by
  unfold seal_Seal.f slX
  refine evb (ready_c kek p) ?_
  unfold rdX
  by_cases ok : okN kek.size
  · rw [if_pos ok, if_pos ok]
    by_cases h0 : p.size = 0
    · rw [if_pos h0, if_pos h0]
      exact evn (by decide) (Ev.now _)
    · rw [if_neg h0, if_neg h0]
      by_cases h1 : p.size % 16 = 0
      · rw [if_pos h1, if_pos h1]
        have hz : (top ++ p).size < 1000000 := by rw [ByteArray.size_append]; omega
        exact evp rfl (evp (by omega) (evs ((ctag_x _ _ hz).trans (congrArg some (tag_b ok top p))) (evs ((cenc_x _ _ _ (by omega)).trans (congrArg some (enc_b ok top h1))) (Ev.now _))))
      · rw [if_neg h1, if_neg h1]
        exact evn (by decide) (Ev.now _)
  · rw [if_neg ok, if_neg ok]
    exact evn (by decide) (Ev.now _)
theorem bind_c (kek top p : ByteArray) (ht : top.size < 100000) (hp : p.size < 100000) : Ev (fun k => seal_Bind.f k kek top p) (bndX kek top p) := by
  unfold seal_Bind.f bndX
  refine evb (ready_c kek p) ?_
  unfold rdX
  by_cases ok : okN kek.size
  · rw [if_pos ok, if_pos ok]
    by_cases h0 : p.size = 0
    · rw [if_pos h0, if_pos h0]
      exact evn (by decide) (Ev.now _)
    · rw [if_neg h0, if_neg h0]
      by_cases h1 : p.size % 16 = 0
      · rw [if_pos h1, if_pos h1]
        have hz : (top ++ p).size < 1000000 := by rw [ByteArray.size_append]; omega
        exact evp rfl (evp (by omega) (evs ((ctag_x _ _ hz).trans (congrArg some (tag_b ok top p))) (Ev.now _)))
      · rw [if_neg h1, if_neg h1]
        exact evn (by decide) (Ev.now _)
  · rw [if_neg ok, if_neg ok]
    exact evn (by decide) (Ev.now _)
theorem awake37 : Ev (fun k => clavigerlaw37_awake.f k) true := by
  unfold clavigerlaw37_awake.f
  have e : (⟨#[116, 111, 112, 102, 101, 100, 99, 98, 97, 57, 56, 55, 54, 53, 52, 51, 50, 49, 48]⟩ : ByteArray) = (⟨#[116, 111, 112]⟩ : ByteArray) ++ (⟨#[102, 101, 100, 99, 98, 97, 57, 56, 55, 54, 53, 52, 51, 50, 49, 48]⟩ : ByteArray) := by decide +kernel
  rw [e]
  generalize hK : (⟨#[48, 49, 50, 51, 52, 53, 54, 55, 56, 57, 97, 98, 99, 100, 101, 102]⟩ : ByteArray) = K
  generalize hT : (⟨#[116, 111, 112]⟩ : ByteArray) = t
  generalize hP : (⟨#[102, 101, 100, 99, 98, 97, 57, 56, 55, 54, 53, 52, 51, 50, 49, 48]⟩ : ByteArray) = p
  have ok : okN K.size := by rw [← hK]; exact .inl rfl
  have ht : t.size = 3 := by rw [← hT]; rfl
  have hp : p.size = 16 := by rw [← hP]; rfl
  have h1 := seal_c K t p (by omega) (by omega)
  have h2 := bind_c K t p (by omega) (by omega)
  have h3 := rdkeys_c K
  have h4 := rtag_c (dkT K 1) (t ++ p) (by rw [ByteArray.size_append]; omega)
  unfold slX at h1
  unfold bndX at h2
  unfold dksX at h3
  rw [if_pos ok, if_neg (by omega), if_pos (by omega)] at h1 h2
  rw [if_pos ok] at h3
  rw [tag_b ok t p] at h4
  have hc : (ciT K t p).size = 16 := by
    unfold ciT
    rw [outJ_size (ks_facts (dk_okN ok 0)).2.1 (bn_size ok t p) _ (by omega), hp]
  refine evb h1 (evb h2 (evb h3 (evb h4 (evp (by show ((ciT K t p).size : Int) = 16; omega) (evp rfl (evp rfl (evp rfl (evp rfl ?_))))))))
  exact evs (show seal_Blocks.f 3 16 = some 4 by decide +kernel) (Ev.now _)
end Go.Proofs.Ytokkhnjedmlbhaa.M
end
section
namespace Go.Proofs.Ytokkhnjedmlbhaa.M
open Go.RowKit Go.Proofs.Ytokkhnjedmlbhaa.Pr Go.Proofs.YtokkhnjedmlbhaaW.PrintWords Go.Proofs.YtokkhnjedmlbhaaW.PrintLast Go.Proofs.YtokkhnjedmlbhaaW.PrintMore Go.Proofs.YtokkhnjedmlbhaaGf
set_option linter.unusedSimpArgs false
theorem SealHolds : clavigerlaw37_SealHolds.Pure := by
  intro kek top p _ _ _
  refine Ev.rounds (?_ : Ev _ true)
  have aw : ∀ x : Bool, x = true → Ev (fun k => clavigerlaw37_SealHolds.j0 k kek top p x) true := fun x hx => by
    subst hx
    exact Ev.step (f := fun k => (clavigerlaw37_awake.f k).bind fun t => some t) (fun k => by simp only [clavigerlaw37_SealHolds.j0]; rw [if_pos True.intro]) (evb awake37 (Ev.now _))
  unfold clavigerlaw37_SealHolds.f
  by_cases h : (kek.size : Int) > 100
  · exact evp h (aw true rfl)
  · refine evn h ?_
    by_cases h' : (top.size : Int) > 300
    · exact evp h' (aw true rfl)
    · refine evn h' ?_
      by_cases h'' : (p.size : Int) > 160
      · exact aw _ (decide_eq_true h'')
      · rw [decide_eq_false h'']
        refine Ev.step (f := fun k => (seal_Seal.f k kek top p).bind fun bt2 => (if bt2.2.2 = 0 then ((clavigerref35_Keys.f k kek).bind fun bt3 => ((clavigerref10_Decrypt.f k bt3.1 bt2.2.1 bt2.1).bind fun bt4 => (if top.size + bt4.1.size ≤ 9223372036854775807 then ((clavigerref11_Tag.f k bt3.2.1 (top ++ bt4.1)).bind fun bt5 => (if bt4.1.toList = p.toList then (if bt4.2 = 0 then (if bt5.1.toList = bt2.2.1.toList then (if bt5.2 = 0 then ((clavigerlaw37_awake.f k).bind fun t6 => (some t6)) else (some false)) else (some false)) else (some false)) else (some false))) else (none)))) else (if bt2.1.toList = ([] : List UInt8) then (if bt2.2.1.toList = ([] : List UInt8) then (if bt2.2.2 = 2 then ((clavigerlaw37_awake.f k).bind fun t7 => (some t7)) else (if bt2.2.2 = 4 then ((clavigerlaw37_awake.f k).bind fun t8 => (some t8)) else (some false))) else (some false)) else (some false)))) (fun k => by simp only [clavigerlaw37_SealHolds.j0]; rw [if_neg (by simp)]) ?_
        refine evb (seal_c _ _ _ (by omega) (by omega)) ?_
        unfold slX
        by_cases ok : okN kek.size
        · rw [if_pos ok]
          by_cases h0 : p.size = 0
          · rw [if_pos h0]
            exact evn (by decide) (evp nil_list (evp nil_list (evn (by decide) (evp rfl (evb awake37 (Ev.now _))))))
          · rw [if_neg h0]
            by_cases h1 : p.size % 16 = 0
            · rw [if_pos h1]
              have hk := rdkeys_c kek
              unfold dksX at hk
              rw [if_pos ok] at hk
              have ak := (ks_facts (dk_okN ok 0)).2.1
              have hb := bn_size ok top p
              have hz : (ciT kek top p).size = p.size := by
                unfold ciT
                rw [outJ_size ak hb _ (by omega)]
                omega
              have hd := rcdec_c (dkT kek 0) (bnT kek top p) (ciT kek top p) (by omega)
              have he : cbcD (dkT kek 0) (bnT kek top p) (ciT kek top p) = (p, 0) := by
                unfold cbcD
                rw [if_pos (by unfold rdyE; rw [if_pos (dk_okN ok 0), if_pos hb, if_pos (by omega)]), hz]
                exact Prod.ext (cbc_back ak hb (by omega)) rfl
              rw [he] at hd
              have ht := rtag_c (dkT kek 1) (top ++ p) (by rw [ByteArray.size_append]; omega)
              rw [tag_b ok top p] at ht
              exact evp rfl (evb hk (evb hd (evp (by show top.size + p.size ≤ _; omega) (evb ht (evp rfl (evp rfl (evp rfl (evp rfl (evb awake37 (Ev.now _))))))))))
            · rw [if_neg h1]
              exact evn (by decide) (evp nil_list (evp nil_list (evn (by decide) (evp rfl (evb awake37 (Ev.now _))))))
        · rw [if_neg ok]
          exact evn (by decide) (evp nil_list (evp nil_list (evp rfl (evb awake37 (Ev.now _)))))
end Go.Proofs.Ytokkhnjedmlbhaa.M
end
section
namespace Go.Proofs.Ytokkhnjedmlbhaa.Pure
open Go.RowKit Go.Proofs.Ytokkhnjedmlbhaa.Pr Go.Proofs.YtokkhnjedmlbhaaW.PrintWords Go.Proofs.YtokkhnjedmlbhaaW.PrintLast

theorem SealHolds : clavigerlaw37_SealHolds.Pure := M.SealHolds

end Go.Proofs.Ytokkhnjedmlbhaa.Pure
end
