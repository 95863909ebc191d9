-- several texts in one (by the session's program shake.py)
import Derived.Test.YtokkhnjedmlbhaaZPadW
import Derived.Test.YtokkhnjedmlbhaaZWrapM
import Derived.Test.YtokkhnjedmlbhaaZPrg13
import Derived.Test.YtokkhnjedmlbhaaZPrg05
import Derived.Test.YtokkhnjedmlbhaaZPrg01
import Derived.Test.YtokkhnjedmlbhaaZFieldP
import Derived.Test.YtokkhnjedmlbhaaZPrg14b
section
namespace Go.Proofs.Ytokkhnjedmlbhaa.M
open Go.RowKit Go.Proofs.Ytokkhnjedmlbhaa.Pr Go.Proofs.YtokkhnjedmlbhaaW.PrintWords Go.Proofs.YtokkhnjedmlbhaaW.PrintLast Go.Proofs.YtokkhnjedmlbhaaW.PrintMore Go.Proofs.YtokkhnjedmlbhaaGf
set_option linter.unusedSimpArgs false
theorem evu {α : Type} {g : Nat → Option α} {r : α} (h : Ev (fun k => g (k + 1)) r) : Ev g r := Ev.step (f := fun k => g (k + 1)) (fun _ => rfl) h
theorem u64_id (n : Nat) (h : n < 18446744073709551616) : IntKind.u64.wrap (n : Int) = (n : Int) := by rw [IntKind.wrap_u64]; omega
theorem rsteps_c (n : Int) : clavigerref13_Steps.f n = some ((stpN n : Nat) : Int) := by
  unfold clavigerref13_Steps.f stpN
  by_cases h1 : n < 16
  · rw [if_pos h1, if_neg (by omega)]; rfl
  · rw [if_neg h1]
    by_cases h2 : n > 65536
    · rw [if_pos h2, if_neg (by omega)]; rfl
    · rw [if_neg h2, Int.tmod_eq_emod_of_nonneg (by omega)]
      by_cases h3 : n % 8 = 0
      · have e : wrap64 (n / 8) = n / 8 := wrap_id (by omega) (by omega)
        rw [if_pos h3, if_pos ⟨by omega, by omega, h3⟩, Int.tdiv_eq_ediv_of_nonneg (by omega), e, wrap_id (by omega) (by omega)]
        congr 1
        omega
      · rw [if_neg h3, if_neg (by omega)]; rfl
theorem rkey_c (key : ByteArray) : clavigerref13_key.f key = some (decide (okN key.size)) := by
  unfold clavigerref13_key.f
  by_cases h1 : key.size = 16
  · rw [if_pos (by omega), decide_eq_true (show okN key.size from .inl h1)]
  · rw [if_neg (by omega)]
    by_cases h2 : key.size = 24
    · rw [if_pos (by omega), decide_eq_true (show okN key.size from .inr (.inl h2))]
    · rw [if_neg (by omega)]
      by_cases h3 : key.size = 32
      · rw [decide_eq_true (show okN key.size from .inr (.inr h3)), h3]; rfl
      · rw [decide_eq_false (show ¬ okN key.size by unfold okN; omega)]
        congr 1
        exact beq_eq_false_iff_ne.mpr (by omega)
theorem cat_cons (a : ByteArray) (l : List ByteArray) : catB (a :: l) = a ++ catB l := rfl
theorem sz_app (a b : ByteArray) : (a ++ b).size = a.size + b.size := ByteArray.size_append
theorem left_8 {a b : ByteArray} (h : a.size = 8) : (a ++ b).extract 0 8 = a := by
  have := ext_left a b
  rwa [h] at this
theorem right_8 {a b : ByteArray} (h : a.size = 8) : (a ++ b).extract 8 (a ++ b).size = b := by
  have := ext_right a b
  rwa [h] at this
theorem runW_0 (ks : List ByteArray) (n : Nat) (p : ByteArray × List ByteArray) : runW ks n p 0 = p := rfl
theorem rrawL {key : ByteArray} (ok : okN key.size) (iv s : ByteArray) (hi : iv.size = 8) (m : Nat) (hs : s.size = 8 * m) (h2 : 2 ≤ m) (h3 : m ≤ 8192) (d : Nat) : ∀ t, 6 * m - t = d → t ≤ 6 * m →
    Ev (fun k => clavigerref13_Raw.l0 k key s (runW (ksB key) m (iv, pcs 8 m s) t).1 (catB (rotL m t (runW (ksB key) m (iv, pcs 8 m s) t).2)) ((t + 1 : Nat) : Int)) (rawT (ksB key) iv s m, 0) := by
  have hk := (ks_facts ok).2.1
  have hm : 0 < m := by omega
  have hst : clavigerref13_Steps.f (s.size : Int) = some ((6 * m : Nat) : Int) := by rw [rsteps_c, hs, steps_8 h2 h3]
  induction d with
  | zero =>
    intro t hd ht
    obtain rfl : t = 6 * m := by omega
    have ho := runW_ok hk hm (ok_0 hi hs) (6 * m)
    rw [rot_6]
    refine evu ?_
    simp only [clavigerref13_Raw.l0]
    refine evs hst (evn (by omega) (evp ?_ (Ev.now _)))
    rw [cat_size 8 _ ho.2.2, ho.2.1, ho.1]
    omega
  | succ d ih =>
    intro t hd ht
    have ho := runW_ok hk hm (ok_0 hi hs) t
    have hh := ih (t + 1) (by omega) (by omega)
    have hr : runW (ksB key) m (iv, pcs 8 m s) (t + 1) = stW (ksB key) m t (runW (ksB key) m (iv, pcs 8 m s) t) := rfl
    rw [hr] at hh
    clear hr ih
    generalize runW (ksB key) m (iv, pcs 8 m s) t = p at *
    obtain ⟨h1, hl, ha⟩ := ho
    have hx := getD_8 (t := t) hm hl ha
    have hms := mid_size (t := t) hm hl ha
    rw [rot_at hm hl, cat_cons]
    have hst2 : stW (ksB key) m t p = (cntX ((encT (ksB key) (p.1 ++ p.2.getD (t % m) ⟨#[]⟩)).extract 0 8) (t + 1), p.2.set (t % m) ((encT (ksB key) (p.1 ++ p.2.getD (t % m) ⟨#[]⟩)).extract 8 16)) := rfl
    rw [hst2] at hh
    clear hst2
    generalize p.2.getD (t % m) ⟨#[]⟩ = x at *
    have hax : (p.1 ++ x).size = 16 := by rw [sz_app]; omega
    have hb := enc_size hk hax
    have he := renc_c key (p.1 ++ x)
    rw [encX_ok ok hax] at he
    generalize encT (ksB key) (p.1 ++ x) = b at *
    have hb8 : (b.extract 0 8).size = 8 := by rw [ByteArray.size_extract]; omega
    have hb16 : (b.extract 8 16).size = 8 := by rw [ByteArray.size_extract]; omega
    have hmz : (catB (midL (t % m) p.2)).size ≤ 100000 := by omega
    rw [rot_next hm hl, cat_app, cat_one, ← xor_cnt _ _ hb8, ← low8] at hh
    generalize catB (midL (t % m) p.2) = mid at *
    have hp := rput_c (t + 1) 8 (by omega) (by omega) (by omega)
    have hlz : (mkB (lowL (t + 1) 8)).size = 8 := by rw [mkB_size, lowL_length]
    have hxr := rxor_c (b.extract 0 8) (mkB (lowL (t + 1) 8)) (by omega) (by omega)
    have hxm : (x ++ mid).size = 8 + mid.size := by rw [sz_app, hx]
    refine evu ?_
    simp only [clavigerref13_Raw.l0]
    rw [left_8 hx, right_8 hx, u64_id (t + 1) (by omega), wrap_id (x := (((t + 1 : Nat) : Int) + 1)) (by omega) (by omega), show (((t + 1 : Nat) : Int) + 1) = ((t + 1 + 1 : Nat) : Int) by omega]
    refine evs hst (evp (by omega) (evp (by decide) (evp (by omega) (evp (by omega) (evb he (evp (by show (8 : Int) ≤ ((b.size : Nat) : Int); omega) (evb hp (evb hxr (evp (by show mid.size + (b.extract 8 b.size).size ≤ _; rw [hb]; omega) ?_)))))))))
    show Ev (fun k => clavigerref13_Raw.l0 k key s _ (mid ++ b.extract 8 b.size) _) _
    rw [hb]
    exact hh
theorem rraw_c (key iv s : ByteArray) : Ev (fun k => clavigerref13_Raw.f k key iv s) (rawX key iv s) := by
  unfold clavigerref13_Raw.f rawX
  refine evs (rkey_c key) ?_
  by_cases ok : okN key.size
  · rw [if_pos ok]
    refine evp (decide_eq_true ok) ?_
    by_cases hi : iv.size = 8
    · rw [if_pos hi]
      refine evp (by omega) (evs (rsteps_c _) ?_)
      by_cases hs : stpN (s.size : Int) = 0
      · rw [if_pos hs]
        exact evp (by omega) (Ev.now _)
      · rw [if_neg hs]
        refine evn (by omega) ?_
        have hn := stp_ne hs
        have h := rrawL ok iv s hi (s.size / 8) (by omega) (by omega) (by omega) _ 0 rfl (by omega)
        rw [runW_0, rot_0, pcs_all (by omega)] at h
        exact h
    · rw [if_neg hi]
      exact evn (by omega) (Ev.now _)
  · rw [if_neg ok]
    exact evn (by simp [ok]) (Ev.now _)
theorem bkW_0 (ks : List ByteArray) (n : Nat) (p : ByteArray × List ByteArray) (T : Nat) : bkW ks n p T 0 = p := rfl
theorem runL {key : ByteArray} (ok : okN key.size) (p0 : ByteArray × List ByteArray) (m : Nat) (h0 : okW m p0) (h2 : 2 ≤ m) (h3 : m ≤ 8192) : ∀ t, t ≤ 6 * m →
    Ev (fun k => clavigerref13_Unraw.l0 k key (bkW (ksB key) m p0 (6 * m) (6 * m - t)).1 (catB (rotL m t (bkW (ksB key) m p0 (6 * m) (6 * m - t)).2)) (t : Int)) ((backW (ksB key) m p0 (6 * m)).1, catB (backW (ksB key) m p0 (6 * m)).2, 0) := by
  have hk := (ks_facts ok).2.1
  have hm : 0 < m := by omega
  intro t
  induction t with
  | zero =>
    intro _
    rw [Nat.sub_zero, rot_0, bkW_all]
    refine evu ?_
    simp only [clavigerref13_Unraw.l0]
    exact evn (by omega) (Ev.now _)
  | succ t ih =>
    intro ht
    have hh := ih (by omega)
    have ho := bkW_ok hk hm (6 * m) h0 (6 * m - (t + 1))
    have hr : bkW (ksB key) m p0 (6 * m) (6 * m - t) = unW (ksB key) m t (bkW (ksB key) m p0 (6 * m) (6 * m - (t + 1))) := by
      rw [show 6 * m - t = (6 * m - (t + 1)) + 1 by omega]
      show unW (ksB key) m (6 * m - (6 * m - (t + 1) + 1)) _ = _
      rw [show 6 * m - (6 * m - (t + 1) + 1) = t by omega]
    rw [hr] at hh
    clear hr ih
    generalize bkW (ksB key) m p0 (6 * m) (6 * m - (t + 1)) = p at *
    generalize ((backW (ksB key) m p0 (6 * m)).1, catB (backW (ksB key) m p0 (6 * m)).2, (0 : Int)) = res at *
    obtain ⟨h1, hl, ha⟩ := ho
    have hx := getD_8 (t := t) hm hl ha
    have hms := mid_size (t := t) hm hl ha
    rw [rot_last hm hl, cat_app, cat_one]
    have hun : unW (ksB key) m t p = ((decT (ksB key) (cntX p.1 (t + 1) ++ p.2.getD (t % m) ⟨#[]⟩)).extract 0 8, p.2.set (t % m) ((decT (ksB key) (cntX p.1 (t + 1) ++ p.2.getD (t % m) ⟨#[]⟩)).extract 8 16)) := rfl
    rw [hun] at hh
    clear hun
    generalize p.2.getD (t % m) ⟨#[]⟩ = x at *
    have hcz := cntX_size p.1 (t + 1)
    have hax : (cntX p.1 (t + 1) ++ x).size = 16 := by rw [sz_app]; omega
    have hb := dec_size hk hax
    have he := rdec_c key (cntX p.1 (t + 1) ++ x)
    rw [decX_ok ok hax] at he
    generalize decT (ksB key) (cntX p.1 (t + 1) ++ x) = b at *
    have hb16 : (b.extract 8 16).size = 8 := by rw [ByteArray.size_extract]; omega
    have hmz : (catB (midL (t % m) p.2)).size ≤ 100000 := by omega
    rw [rot_set hm hl, cat_cons] at hh
    generalize catB (midL (t % m) p.2) = mid at *
    have hp := rput_c (t + 1) 8 (by omega) (by omega) (by omega)
    have hlz : (mkB (lowL (t + 1) 8)).size = 8 := by rw [mkB_size, lowL_length]
    have hxr := rxor_c p.1 (mkB (lowL (t + 1) 8)) (by omega) (by omega)
    rw [low8] at hp hxr
    rw [xor_cnt _ _ h1] at hxr
    have hxm : (mid ++ x).size = mid.size + 8 := by rw [sz_app, hx]
    have e1 : wrap64 (((mid ++ x).size : Int) - 8) = (mid.size : Int) := by rw [hxm, wrap_id (by omega) (by omega)]; omega
    have e2 : (mid ++ x).extract mid.size (mid ++ x).size = x := ext_right mid x
    have e3 : (mid ++ x).extract 0 mid.size = mid := ext_left mid x
    refine evu ?_
    simp only [clavigerref13_Unraw.l0]
    rw [e1, Int.toNat_natCast, e2, e3, u64_id (t + 1) (by omega), wrap_id (x := (((t + 1 : Nat) : Int) - 1)) (by omega) (by omega), show (((t + 1 : Nat) : Int) - 1) = (t : Int) by omega]
    refine evp (by omega) (evb hp (evb hxr (evp (by omega) (evp (by omega) (evp (by omega) (evb he (evp (by decide) (evp (by show (8 : Int) ≤ ((b.size : Nat) : Int); omega) (evp (by show (b.extract 8 b.size).size + mid.size ≤ _; rw [hb]; omega) ?_)))))))))
    show Ev (fun k => clavigerref13_Unraw.l0 k key (b.extract 0 8) (b.extract 8 b.size ++ mid) _) _
    rw [hb]
    exact hh
theorem tail_cat {c : ByteArray} {m : Nat} (hs : c.size = 8 * (m + 1)) : catB ((pcs 8 (m + 1) c).drop 1) = c.extract 8 c.size := by
  have h := pcs_all (n := 8) (m := m + 1) (s := c) (by omega)
  rw [pcs_cons, cat_cons] at h
  have hz : (c.extract 0 8).size = 8 := by rw [ByteArray.size_extract]; omega
  have h2 := right_8 (b := catB ((pcs 8 (m + 1) c).drop 1)) hz
  rw [h] at h2
  exact h2.symm
theorem runraw_c (key c : ByteArray) (hc : c.size < 1000000) : Ev (fun k => clavigerref13_Unraw.f k key c) (unX key c) := by
  unfold clavigerref13_Unraw.f unX
  refine evs (rkey_c key) ?_
  by_cases ok : okN key.size
  · rw [if_pos ok]
    refine evp (decide_eq_true ok) ?_
    rw [wrap_id (x := (c.size : Int) - 8) (by omega) (by omega)]
    refine evs (rsteps_c _) ?_
    by_cases hs : stpN ((c.size : Int) - 8) = 0
    · rw [if_pos hs]
      exact evp (by omega) (Ev.now _)
    · rw [if_neg hs]
      refine evn (by omega) (evp (by decide) ?_)
      have hn := stp_ne hs
      obtain ⟨m, hm⟩ : ∃ m, c.size = 8 * (m + 1) := ⟨c.size / 8 - 1, by omega⟩
      have hm1 : c.size / 8 - 1 = m := by omega
      have hz : ((c.extract 8 c.size).size : Int) = ((8 * m : Nat) : Int) := by rw [ByteArray.size_extract]; omega
      have h := runL ok (c.extract 0 8, (pcs 8 (m + 1) c).drop 1) m (ok_1 hm) (by omega) (by omega) (6 * m) (Nat.le_refl _)
      rw [Nat.sub_self, bkW_0, rot_6, tail_cat hm] at h
      rw [hm1]
      refine evp (by omega) (evs (rsteps_c _) ?_)
      rw [hz, steps_8 (by omega) (by omega)]
      exact h
  · rw [if_neg ok]
    exact evn (by simp [ok]) (Ev.now _)
end Go.Proofs.Ytokkhnjedmlbhaa.M
end
section
namespace Go.Proofs.Ytokkhnjedmlbhaa.M
open Go.RowKit Go.Proofs.Ytokkhnjedmlbhaa.Pr Go.Proofs.YtokkhnjedmlbhaaW.PrintWords Go.Proofs.YtokkhnjedmlbhaaW.PrintLast Go.Proofs.YtokkhnjedmlbhaaW.PrintMore Go.Proofs.YtokkhnjedmlbhaaGf
set_option linter.unusedSimpArgs false
theorem rzeros_c (z : Nat) (hz : z ≤ 65552) : clavigerref01_Zeros.f (z : Int) = some (zeros z) := by
  have := zeros_c z hz
  unfold octets_Zeros.f at this
  exact this
theorem rpadL (s : ByteArray) (n z : Nat) (h1 : 1 ≤ n) (h2 : n ≤ 65535) (hz : z < n) (hs : s.size < 1000000000) (h : (s.size + z) % n = 0) (hn : ∀ i, i < z → (s.size + i) % n ≠ 0) (d : Nat) : ∀ i, z - i = d → i ≤ z → Ev (fun k => clavigerref01_Pad.l0 k s (n : Int) (i : Int)) (s ++ zeros z) := by
  have e (i : Nat) (hi : i ≤ z) : Int.tmod (wrap64 ((s.size : Int) + (i : Int))) (n : Int) = (((s.size + i) % n : Nat) : Int) := by
    rw [wrap_id (by omega) (by omega), Int.tmod_eq_emod_of_nonneg (by omega), ← Int.natCast_add, ← Int.natCast_emod]
  induction d with
  | zero =>
    intro i hd hi
    obtain rfl : i = z := by omega
    refine Ev.step (f := fun _ => some (s ++ zeros i)) (fun k => ?_) (Ev.now _)
    simp only [clavigerref01_Pad.l0]
    rw [if_neg (by omega), e i (Nat.le_refl _), h, if_pos (by omega), rzeros_c _ (by omega)]
    simp only [Option.bind_some]
    rw [if_pos (by rw [zeros_size]; omega)]
  | succ d ih =>
    intro i hd hi
    have hh := ih (i + 1) (by omega) (by omega)
    have := hn i (by omega)
    refine Ev.step (fun k => ?_) hh
    simp only [clavigerref01_Pad.l0]
    rw [if_neg (by omega), e i hi, if_neg (by omega), wrap_id (by omega) (by omega)]
    rfl
end Go.Proofs.Ytokkhnjedmlbhaa.M
end
section
namespace Go.Proofs.Ytokkhnjedmlbhaa.M
open Go.RowKit Go.Proofs.Ytokkhnjedmlbhaa.Pr Go.Proofs.YtokkhnjedmlbhaaW.PrintWords Go.Proofs.YtokkhnjedmlbhaaW.PrintLast Go.Proofs.YtokkhnjedmlbhaaW.PrintMore Go.Proofs.YtokkhnjedmlbhaaGf
set_option linter.unusedSimpArgs false
theorem and_8 (x : Nat) (h : x < 18446744073709551616) : (x &&& 18446744073709551608) + x % 8 = x := by
  have h1 : (x &&& 18446744073709551608) ||| (x % 8) = x := by
    have e := Nat.and_two_pow_sub_one_eq_mod x 3
    have e2 := Nat.and_two_pow_sub_one_eq_mod x 64
    rw [show x % 8 = x &&& 7 from e.symm, ← Nat.and_or_distrib_left, show 18446744073709551608 ||| 7 = 2 ^ 64 - 1 by decide, e2]
    exact Nat.mod_eq_of_lt h
  have h2 : (x &&& 18446744073709551608) % 2 ^ 3 = 0 := by
    rw [Nat.and_mod_two_pow, show 18446744073709551608 % 2 ^ 3 = 0 by decide, Nat.and_zero]
  have h3 := or_add (a := (x &&& 18446744073709551608) / 8) (b := x % 8) (k := 3) (by omega)
  have h4 : 2 ^ 3 * ((x &&& 18446744073709551608) / 8) = x &&& 18446744073709551608 := by omega
  rw [h4, h1] at h3
  exact h3.symm
theorem not7 (x : Nat) (h : x < 9223372036854775808) : bits .andNot .i64 (x : Int) 7 = ((x - x % 8 : Nat) : Int) := by
  show IntKind.i64.wrap ((BitVec.ofInt 64 (x : Int) &&& ~~~BitVec.ofInt 64 7).toNat : Int) = _
  have h1 : (~~~BitVec.ofInt 64 7).toNat = 18446744073709551608 := by decide
  have h2 := and_8 x (by omega)
  rw [BitVec.toNat_and, h1, ofInt_u64 x (by omega), IntKind.wrap_i64]
  omega
def pszI (n : Int) : Int := if 1 ≤ n ∧ n ≤ 65535 then 8 * ((n + 7) / 8) + 8 else 0
theorem size_c (n : Int) : padwrap_Size.f n = some (pszI n) := by
  unfold padwrap_Size.f pszI
  by_cases h1 : n < 1
  · rw [if_pos h1, if_neg (by omega)]
  · rw [if_neg h1]
    by_cases h2 : n > 65535
    · rw [if_pos h2, if_neg (by omega)]
    · rw [if_neg h2, if_pos (by omega)]
      obtain ⟨m, rfl⟩ : ∃ m : Nat, n = (m : Int) := ⟨n.toNat, by omega⟩
      have e1 : wrap64 ((m : Int) + 7) = ((m + 7 : Nat) : Int) := by rw [wrap_id (by omega) (by omega)]; omega
      rw [e1, not7 _ (by omega), wrap_id (by omega) (by omega)]
      congr 1
      omega
theorem rsize_c (n : Int) : clavigerref14_Size.f n = some (pszI n) := by
  unfold clavigerref14_Size.f pszI
  by_cases h1 : n < 1
  · rw [if_pos h1, if_neg (by omega)]
  · rw [if_neg h1]
    by_cases h2 : n > 65535
    · rw [if_pos h2, if_neg (by omega)]
    · rw [if_neg h2, if_pos (by omega)]
      have e1 : wrap64 (n + 7) = n + 7 := wrap_id (by omega) (by omega)
      have e2 : wrap64 ((n + 7) / 8) = (n + 7) / 8 := wrap_id (by omega) (by omega)
      have e3 : wrap64 (8 * ((n + 7) / 8)) = 8 * ((n + 7) / 8) := wrap_id (by omega) (by omega)
      rw [e1, Int.tdiv_eq_ediv_of_nonneg (by omega), e2, e3, wrap_id (by omega) (by omega)]
def mk4 : ByteArray := ⟨#[166, 89, 89, 166]⟩
theorem low_wB (m : Nat) : mkB (lowL m 4) = wB m := by
  unfold wB
  simp only [lowL, wL, Nat.reducePow, Nat.div_one]
theorem beT_wB {m : Nat} (h : m < 4294967296) : beT (wB m) 4 = m := by
  have e : beT (wB m) 4 = ((bb (wB m) 0 * 256 + bb (wB m) 1) * 256 + bb (wB m) 2) * 256 + bb (wB m) 3 := by simp [beT]
  rw [e]
  unfold wB
  simp only [bb_mkB (isB_wL m)]
  simp only [wL, List.getD_eq_getElem?_getD, List.getElem?_cons_zero, List.getElem?_cons_succ, Option.getD_some]
  omega
theorem vl_eq (m : Nat) : vlT m = mk4 ++ wB m := by unfold vlT; rw [low_wB]; rfl
theorem vl_iff {v : ByteArray} {m : Nat} (hm : m < 4294967296) : v = vlT m ↔ v.size = 8 ∧ v.extract 0 4 = mk4 ∧ beT (v.extract 4 8) 4 = m := by
  constructor
  · rintro rfl
    have hz := vl_size m
    rw [vl_eq] at hz ⊢
    have h1 : (mk4 ++ wB m).extract 0 4 = mk4 := ext_left mk4 (wB m)
    have h2 : (mk4 ++ wB m).extract 4 8 = wB m := by
      have := ext_right mk4 (wB m)
      rw [hz] at this
      exact this
    exact ⟨hz, h1, by rw [h2, beT_wB hm]⟩
  · rintro ⟨h1, h2, h3⟩
    have e := ext_join v 4 8 (by omega)
    have ea := ext_all v
    rw [h1] at ea
    rw [ea, h2] at e
    have hz : (v.extract 4 8).size = 4 := by rw [ByteArray.size_extract]; omega
    have hb := (be4 _ hz).1
    rw [h3] at hb
    rw [vl_eq, hb, e]
theorem rvl_c (n : Int) : ∃ r, padwrap_Value.f n = some r ∧ Ev (fun k => clavigerref14_Value.f k n) r := by
  by_cases h : 1 ≤ n ∧ n ≤ 65535
  · obtain ⟨m, rfl⟩ : ∃ m : Nat, n = (m : Int) := ⟨n.toNat, by omega⟩
    refine ⟨vlT m, vl_c m (by omega) (by omega), ?_⟩
    unfold clavigerref14_Value.f
    rw [wrap_u m (by omega)]
    refine evn (by omega) (evn (by omega) (evb (rput_c m 4 (by omega) (by omega) (by omega)) (evp ?_ (Ev.now _))))
    rw [low4z]
    omega
  · refine ⟨⟨#[]⟩, vl_n n h, ?_⟩
    unfold clavigerref14_Value.f
    by_cases h1 : n < 1
    · exact evp h1 (Ev.now _)
    · exact evn h1 (evp (by omega) (Ev.now _))
theorem rvl_m (m : Nat) (h1 : 1 ≤ m) (h2 : m ≤ 65535) : Ev (fun k => clavigerref14_Value.f k (m : Int)) (vlT m) := by
  obtain ⟨r, h, h3⟩ := rvl_c (m : Int)
  rw [vl_c m h1 h2] at h
  rwa [← Option.some.inj h] at h3
def lnX (v : ByteArray) (n : Int) : Int × Bool :=
  if v.size = 8 ∧ v.extract 0 4 = mk4 ∧ n % 8 = 0 ∧ 1 ≤ beT (v.extract 4 8) 4 ∧ beT (v.extract 4 8) 4 ≤ 65535 ∧ ((beT (v.extract 4 8) 4 : Nat) : Int) ≤ n ∧ n - ((beT (v.extract 4 8) 4 : Nat) : Int) ≤ 7 then (((beT (v.extract 4 8) 4 : Nat) : Int), true) else (0, false)
theorem cut_any (s : ByteArray) (a n : Nat) (hn : 1 ≤ n) (hs : s.size < 1000000) (ha : a < 1000000) (hn2 : n < 1000000) : octets_Cut.f s (a : Int) (n : Int) = some (if s.size ≤ a then ⟨#[]⟩ else s.extract a (a + min n (s.size - a))) := by
  unfold octets_Cut.f
  rw [if_neg (by omega)]
  by_cases h : s.size ≤ a
  · rw [if_pos (by omega), if_pos h]
  · have e1 : wrap64 ((s.size : Int) - (a : Int)) = ((s.size - a : Nat) : Int) := by rw [wrap_id (by omega) (by omega)]; omega
    have e2 : wrap64 ((a : Int) + ((min n (s.size - a) : Nat) : Int)) = ((a + min n (s.size - a) : Nat) : Int) := by rw [wrap_id (by omega) (by omega)]; omega
    rw [if_neg (by omega), if_neg (by omega), e1, mn_c, e2, if_pos (by omega), if_pos (by omega), if_pos (by omega), if_neg h]
    rfl
theorem get_any (t : ByteArray) : ∃ r, Ev (fun k => octets_Get.f k t) r := by
  by_cases h0 : t.size = 0
  · refine ⟨(0, false), ?_⟩
    unfold octets_Get.f
    refine evp (by omega) (evu ?_)
    simp only [octets_Get.j0]
    exact evp True.intro (Ev.now _)
  · by_cases h8 : t.size ≤ 8
    · exact ⟨_, get_c t (by omega) h8⟩
    · refine ⟨(0, false), ?_⟩
      unfold octets_Get.f
      refine evn (by omega) ?_
      rw [decide_eq_true (show (t.size : Int) > 8 by omega)]
      refine evu ?_
      simp only [octets_Get.j0]
      exact evp True.intro (Ev.now _)
theorem len_no (n x : Int) : Ev (fun k => padwrap_Length.j0 k n x true) (0, false) := by
  refine evu ?_
  simp only [padwrap_Length.j0]
  exact evp True.intro (Ev.now _)
theorem length_c (v : ByteArray) (n : Int) (hv : v.size < 1000000) (hn : -9223372036854775808 ≤ n) (hn2 : n ≤ 9223372036854775807) : Ev (fun k => padwrap_Length.f k v n) (lnX v n) := by
  unfold padwrap_Length.f
  have c1 := cut_any v 4 9 (by omega) hv (by omega) (by omega)
  have c2 := cut_any v 0 4 (by omega) hv (by omega) (by omega)
  refine evs c1 ?_
  by_cases hs : v.size = 8
  · have hz : (v.extract 4 8).size = 4 := by rw [ByteArray.size_extract]; omega
    have hg := get_c (v.extract 4 8) (by omega) (by omega)
    rw [hz] at hg
    have hlt := (be4 _ hz).2
    rw [if_neg (by omega), show 4 + min 9 (v.size - 4) = 8 by omega]
    refine evb hg (evs c2 ?_)
    rw [if_neg (by omega), show 0 + min 4 (v.size - 0) = 4 by omega]
    have hz4 : (v.extract 0 4).size = 4 := by rw [ByteArray.size_extract]; omega
    refine evs (scan_c (v.extract 0 4) mk4 (by omega) (by decide)) ?_
    unfold lnX
    generalize beT (v.extract 4 8) 4 = m at *
    by_cases h1 : v.extract 0 4 = mk4
    · refine evp (decide_eq_true h1) (evp (by omega) ?_)
      rw [and7]
      by_cases h2 : n % 8 = 0
      · refine evp h2 ?_
        by_cases h3 : m = 0
        · rw [if_neg (by omega)]
          exact evp (by show (m : Int) = 0; omega) (len_no _ _)
        · refine evn (by show ¬ (m : Int) = 0; omega) ?_
          show Ev (fun k => padwrap_Length.j0 k n (m : Int) (decide ((m : Int) > 65535))) _
          by_cases h4 : (m : Int) > 65535
          · rw [decide_eq_true h4, if_neg (by omega)]
            exact len_no _ _
          · rw [decide_eq_false h4]
            refine evu ?_
            simp only [padwrap_Length.j0]
            rw [wrap_id (x := (m : Int)) (by omega) (by omega)]
            refine evn (by decide) ?_
            by_cases h5 : (m : Int) > n
            · rw [if_neg (show ¬ (v.size = 8 ∧ v.extract 0 4 = mk4 ∧ n % 8 = 0 ∧ 1 ≤ m ∧ m ≤ 65535 ∧ (m : Int) ≤ n ∧ n - (m : Int) ≤ 7) from fun h => absurd h.2.2.2.2.2.1 (by omega))]
              exact evp h5 (Ev.now _)
            · refine evn h5 ?_
              rw [wrap_id (x := n - (m : Int)) (by omega) (by omega)]
              by_cases h6 : n - (m : Int) > 7
              · rw [if_neg (show ¬ (v.size = 8 ∧ v.extract 0 4 = mk4 ∧ n % 8 = 0 ∧ 1 ≤ m ∧ m ≤ 65535 ∧ (m : Int) ≤ n ∧ n - (m : Int) ≤ 7) from fun h => absurd h.2.2.2.2.2.2 (by omega))]
                exact evp h6 (Ev.now _)
              · rw [if_pos (show v.size = 8 ∧ v.extract 0 4 = mk4 ∧ n % 8 = 0 ∧ 1 ≤ m ∧ m ≤ 65535 ∧ (m : Int) ≤ n ∧ n - (m : Int) ≤ 7 from ⟨hs, h1, h2, by omega, by omega, by omega, by omega⟩)]
                exact evn h6 (Ev.now _)
      · rw [if_neg (fun h => h2 h.2.2.1)]
        exact evn h2 (len_no _ _)
    · rw [if_neg (fun h => h1 h.2.1)]
      exact evn (by simp [h1]) (len_no _ _)
  · have hx : lnX v n = (0, false) := by unfold lnX; rw [if_neg (fun h => hs h.1)]
    rw [hx]
    obtain ⟨r, hr⟩ := get_any (if v.size ≤ 4 then ⟨#[]⟩ else v.extract 4 (4 + min 9 (v.size - 4)))
    refine evb hr (evs c2 ?_)
    have hsm : (if v.size ≤ 0 then (⟨#[]⟩ : ByteArray) else v.extract 0 (0 + min 4 (v.size - 0))).size < 1000000000 := by
      split
      · decide
      · rw [ByteArray.size_extract]; omega
    refine evs (scan_c _ mk4 hsm (by decide)) ?_
    generalize (if v.size ≤ 0 then (⟨#[]⟩ : ByteArray) else v.extract 0 (0 + min 4 (v.size - 0))) = t at *
    by_cases h1 : t = mk4
    · exact evp (decide_eq_true h1) (evn (by omega) (len_no _ _))
    · exact evn (by simp [h1]) (len_no _ _)
theorem ln_spec {v : ByteArray} {n : Int} {m : Nat} (h1 : 1 ≤ m) (h2 : m ≤ 65535) (hv : v = vlT m) (h3 : n % 8 = 0) (h4 : (m : Int) ≤ n) (h5 : n - (m : Int) ≤ 7) : lnX v n = ((m : Int), true) := by
  obtain ⟨a, b, c⟩ := (vl_iff (by omega)).1 hv
  unfold lnX
  rw [c, if_pos ⟨a, b, h3, h1, h2, h4, h5⟩]
theorem ln_cases (v : ByteArray) (n : Int) : (lnX v n = (0, false) ∧ ∀ m : Nat, 1 ≤ m → m ≤ 65535 → n % 8 = 0 → (m : Int) ≤ n → n - (m : Int) ≤ 7 → v ≠ vlT m) ∨ ∃ m : Nat, 1 ≤ m ∧ m ≤ 65535 ∧ v = vlT m ∧ n % 8 = 0 ∧ (m : Int) ≤ n ∧ n - (m : Int) ≤ 7 ∧ lnX v n = ((m : Int), true) := by
  by_cases h : v.size = 8 ∧ v.extract 0 4 = mk4 ∧ n % 8 = 0 ∧ 1 ≤ beT (v.extract 4 8) 4 ∧ beT (v.extract 4 8) 4 ≤ 65535 ∧ ((beT (v.extract 4 8) 4 : Nat) : Int) ≤ n ∧ n - ((beT (v.extract 4 8) 4 : Nat) : Int) ≤ 7
  · obtain ⟨a, b, c, d, e, f, g⟩ := h
    have hv := (vl_iff (v := v) (m := beT (v.extract 4 8) 4) (by omega)).2 ⟨a, b, rfl⟩
    exact .inr ⟨_, d, e, hv, c, f, g, ln_spec d e hv c f g⟩
  · refine .inl ⟨by unfold lnX; rw [if_neg h], fun m h1 h2 h3 h4 h5 hv => h ?_⟩
    obtain ⟨a, b, c⟩ := (vl_iff (by omega)).1 hv
    rw [c]
    exact ⟨a, b, h3, h1, h2, h4, h5⟩
theorem rlenL (v : ByteArray) (n : Int) (hn : -9223372036854775800 ≤ n) (hn2 : n ≤ 9223372036854775800) (h8 : n % 8 = 0) (d : Nat) : ∀ x : Int, (n + 1 - x).toNat = d → n - 7 ≤ x → x ≤ n + 1 → (∀ m : Nat, (m : Int) < x → 1 ≤ m → m ≤ 65535 → (m : Int) ≤ n → n - (m : Int) ≤ 7 → v ≠ vlT m) → Ev (fun k => clavigerref14_Length.l0 k v n x) (lnX v n) := by
  have no : ∀ x, Ev (fun k => clavigerref14_Length.j1 k v n x false) (0, false) := fun x => by
    refine evu ?_
    simp only [clavigerref14_Length.j1]
    exact evn (by decide) (Ev.now _)
  induction d with
  | zero =>
    intro x hd h1 h2 hno
    obtain rfl : x = n + 1 := by omega
    refine evu ?_
    simp only [clavigerref14_Length.l0]
    refine evn (by omega) ?_
    rcases ln_cases v n with ⟨h, _⟩ | ⟨m, a, b, c, _, e, f, _⟩
    · rw [h]; exact no _
    · exact absurd c (hno m (by omega) a b e f)
  | succ d ih =>
    intro x hd h1 h2 hno
    have hx : x ≤ n := by omega
    have e1 : wrap64 (x + 1) = x + 1 := wrap_id (by omega) (by omega)
    have e2 : wrap64 (n - 8) = n - 8 := wrap_id (by omega) (by omega)
    refine evu ?_
    simp only [clavigerref14_Length.l0]
    refine evp hx ?_
    rw [e2, decide_eq_true (show x > n - 8 by omega)]
    refine evu ?_
    simp only [clavigerref14_Length.j1]
    refine evp True.intro ?_
    rw [e1]
    by_cases h3 : x > 0
    · refine evp h3 ?_
      by_cases h4 : x < 65536
      · refine evp h4 ?_
        obtain ⟨m, rfl⟩ : ∃ m : Nat, x = (m : Int) := ⟨x.toNat, by omega⟩
        refine evb (rvl_m m (by omega) (by omega)) ?_
        by_cases h5 : v = vlT m
        · rw [ln_spec (by omega) (by omega) h5 h8 hx (by omega)]
          exact evp (congrArg ByteArray.toList h5) (Ev.now _)
        · refine evn (fun h => h5 ((tl_iff _ _).1 h)) (ih _ (by omega) (by omega) (by omega) (fun q hq a b c e => ?_))
          by_cases h6 : q = m
          · rw [h6]; exact h5
          · exact hno q (by omega) a b c e
      · exact evn h4 (ih _ (by omega) (by omega) (by omega) (fun q hq a b c e => hno q (by omega) a b c e))
    · exact evn h3 (ih _ (by omega) (by omega) (by omega) (fun q hq a b c e => hno q (by omega) a b c e))
theorem rlength_c (v : ByteArray) (n : Int) (hn : -9223372036854775808 ≤ n) (hn2 : n ≤ 9223372036854775807) : Ev (fun k => clavigerref14_Length.f k v n) (lnX v n) := by
  unfold clavigerref14_Length.f
  by_cases h8 : n % 8 = 0
  · refine evp (Int.tmod_eq_zero_of_dvd (Int.dvd_of_emod_eq_zero h8)) ?_
    by_cases hm : n = -9223372036854775808
    · subst hm
      have hx : lnX v (-9223372036854775808) = (0, false) := by
        unfold lnX
        rw [if_neg (by omega)]
      rw [hx, show wrap64 (-9223372036854775808 - 7) = 9223372036854775801 by decide +kernel]
      refine evu ?_
      simp only [clavigerref14_Length.l0]
      refine evn (by decide) (evu ?_)
      simp only [clavigerref14_Length.j1]
      exact evn (by decide) (Ev.now _)
    · rw [wrap_id (by omega) (by omega)]
      exact rlenL v n (by omega) (by omega) h8 _ _ rfl (by omega) (by omega) (fun m h1 h2 h3 h4 h5 => by omega)
  · have hx : lnX v n = (0, false) := by unfold lnX; rw [if_neg (fun h => h8 h.2.2.1)]
    rw [hx]
    exact evn (fun h => h8 (Int.emod_eq_zero_of_dvd (Int.dvd_of_tmod_eq_zero h))) (Ev.now _)
def nzP (s : ByteArray) (i : Nat) : Prop := ∀ j, j < i → bb s j = 0
theorem nouL (s : ByteArray) (hs : s.size < 1000000) (d : Nat) : ∀ i a : Nat, s.size - i = d → i ≤ s.size → a < 256 → (a = 0 ↔ nzP s i) → ∃ b, (b = true ↔ nzP s s.size) ∧ Ev (fun k => equal_Nought.l0 k s (a : Int) (s.size : Int) (i : Int)) (b, (s.size : Int)) := by
  induction d with
  | zero =>
    intro i a hd hi ha h
    obtain rfl : i = s.size := by omega
    refine ⟨((a : Int) == 0), ?_, ?_⟩
    · rw [← h, beq_iff_eq]; omega
    · refine evu ?_
      simp only [equal_Nought.l0]
      exact evn (by omega) (Ev.now _)
  | succ d ih =>
    intro i a hd hi ha h
    have hb := bb_lt s i
    obtain ⟨b, h1, h2⟩ := ih (i + 1) (a ||| bb s i) (by omega) (by omega) (or_lt8 ha hb) (by
      rw [Nat.or_eq_zero_iff, h]
      constructor
      · rintro ⟨x, y⟩ j hj
        by_cases e : j = i
        · rw [e]; exact y
        · exact x j (by omega)
      · intro x
        exact ⟨fun j hj => x j (by omega), x i (by omega)⟩)
    refine ⟨b, h1, ?_⟩
    refine evu ?_
    simp only [equal_Nought.l0]
    rw [bt_bb, u8_or_nat _ _ ha hb, wrap_id (x := (i : Int) + 1) (by omega) (by omega), show (i : Int) + 1 = ((i + 1 : Nat) : Int) by omega]
    exact evp (by omega) (evp (by omega) (evp (by omega) h2))
theorem nought_c (s : ByteArray) (hs : s.size < 1000000) : ∃ b, (b = true ↔ nzP s s.size) ∧ Ev (fun k => equal_Nought.f k s) (b, (s.size : Int)) := by
  unfold equal_Nought.f
  exact nouL s hs _ 0 0 rfl (by omega) (by omega) ⟨fun _ j hj => absurd hj (by omega), fun _ => rfl⟩
theorem rpad8 (s : ByteArray) (hs : s.size < 1000000000) : Ev (fun k => clavigerref01_Pad.f k s 8) (padT s 8) := by
  unfold clavigerref01_Pad.f
  refine evn (by decide) ?_
  refine Ev.step (f := fun k => clavigerref01_Pad.l0 k s ((8 : Nat) : Int) ((0 : Nat) : Int)) (fun k => by simp only [clavigerref01_Pad.j0]; rw [if_neg (by decide)]; rfl) ?_
  exact rpadL s 8 ((8 - s.size % 8) % 8) (by omega) (by omega) (by omega) hs (by omega) (fun i hi => by omega) _ 0 rfl (by omega)
theorem rkey14_c (key : ByteArray) : clavigerref14_key.f key = some (decide (okN key.size)) := rkey_c key
theorem padw_c (key s : ByteArray) (hs : s.size < 1000000) : padwrap_Wrap.f key s = some (padX key s) := by unfold padwrap_Wrap.f; rw [if_pos hs]
theorem rpadw_c (key s : ByteArray) (hs : s.size < 1000000) : Ev (fun k => clavigerref14_Wrap.f k key s) (padX key s) := by
  unfold clavigerref14_Wrap.f
  refine evs (rkey14_c key) ?_
  by_cases ok : okN key.size
  · refine evp (decide_eq_true ok) (evs (rsize_c _) ?_)
    by_cases hn : 1 ≤ s.size ∧ s.size ≤ 65535
    · have hp : pszI (s.size : Int) ≠ 0 := by unfold pszI; rw [if_pos (by omega)]; omega
      refine evn hp (evb (rpad8 s (by omega)) ?_)
      have hz := pad_8 s
      have hv := vl_size s.size
      have hvl := rvl_m s.size hn.1 hn.2
      by_cases h8 : s.size ≤ 8
      · have hx : padX key s = (encT (ksB key) (vlT s.size ++ padT s 8), 0) := by unfold padX; rw [if_pos ok, if_pos hn, if_pos h8]
        have hc : (vlT s.size ++ padT s 8).size = 16 := by rw [sz_app]; omega
        have he := renc_c key (vlT s.size ++ padT s 8)
        rw [encX_ok ok hc] at he
        rw [hx]
        exact evp (by omega) (evb hvl (evp (by omega) (evb he (Ev.now _))))
      · have hx : padX key s = rawX key (vlT s.size) (padT s 8) := by
          unfold padX rawX
          have hp2 : ((padT s 8).size : Int) = ((8 * ((s.size + 7) / 8) : Nat) : Int) := by rw [hz]
          rw [if_pos ok, if_pos hn, if_neg h8, if_pos ok, if_pos hv, hp2, steps_8 (by omega) (by omega), if_neg (by omega), hz, Nat.mul_div_cancel_left _ (by omega)]
        rw [hx]
        exact evn (by omega) (evb hvl (evb (rraw_c key _ _) (Ev.now _)))
    · have hx : padX key s = (⟨#[]⟩, 4) := by unfold padX; rw [if_pos ok, if_neg hn]
      rw [hx]
      exact evp (by unfold pszI; rw [if_neg (by omega)]) (Ev.now _)
  · have hx : padX key s = (⟨#[]⟩, 2) := by unfold padX; rw [if_neg ok]
    rw [hx]
    exact evn (by simp [ok]) (Ev.now _)
end Go.Proofs.Ytokkhnjedmlbhaa.M
end
section
namespace Go.Proofs.Ytokkhnjedmlbhaa.M
open Go.RowKit Go.Proofs.Ytokkhnjedmlbhaa.Pr Go.Proofs.YtokkhnjedmlbhaaW.PrintWords Go.Proofs.YtokkhnjedmlbhaaW.PrintLast Go.Proofs.YtokkhnjedmlbhaaW.PrintMore Go.Proofs.YtokkhnjedmlbhaaGf
set_option maxRecDepth 100000 in
theorem pk_0 : encT (ksB (mkB [88, 64, 223, 110, 41, 176, 42, 241, 171, 73, 59, 112, 91, 241, 110, 161, 174, 131, 56, 244, 220, 193, 118, 168])) (mkB [166, 89, 89, 166, 0, 0, 0, 7, 70, 111, 114, 80, 97, 115, 105, 0]) = mkB [175, 190, 176, 240, 125, 251, 245, 65, 146, 0, 242, 204, 181, 11, 178, 79] := run_enc 6 (by omega) rfl (by decide +kernel) (by decide +kernel) (by decide +kernel) rfl (by decide +kernel)
end Go.Proofs.Ytokkhnjedmlbhaa.M
end
section
namespace Go.Proofs.Ytokkhnjedmlbhaa.M
open Go.RowKit Go.Proofs.Ytokkhnjedmlbhaa.Pr Go.Proofs.YtokkhnjedmlbhaaW.PrintWords Go.Proofs.YtokkhnjedmlbhaaW.PrintLast Go.Proofs.YtokkhnjedmlbhaaW.PrintMore Go.Proofs.YtokkhnjedmlbhaaGf
def w0 : ByteArray × List ByteArray := (mkB [166, 166, 166, 166, 166, 166, 166, 166], [mkB [0, 17, 34, 51, 68, 85, 102, 119], mkB [136, 153, 170, 187, 204, 221, 238, 255]])
end Go.Proofs.Ytokkhnjedmlbhaa.M
end
section
namespace Go.Proofs.Ytokkhnjedmlbhaa.Pr
open Go.RowKit Go.Proofs.YtokkhnjedmlbhaaW.PrintWords Go.Proofs.YtokkhnjedmlbhaaW.PrintLast Go.Proofs.YtokkhnjedmlbhaaW.PrintMore
attribute [local go_sem] max2_int min2_int max_two min_two max_three min_three max_four min_four   -- for this text's walks alone
set_option linter.unusedVariables false
set_option linter.unusedSimpArgs false

def wrap_Wrap.f (a0 : ByteArray) (a1 : ByteArray) : Option (ByteArray × Int) := (wrap_Value.f).bind fun t1 => ((wrap_Raw.f a0 t1 a1).bind fun bt2 => (some (bt2.1, bt2.2)))
def clavigerref13_Value.f  : Option (ByteArray) := some (⟨#[166, 166, 166, 166, 166, 166, 166, 166]⟩ : ByteArray)
def clavigerref13_Wrap.f (k : Nat) (a0 : ByteArray) (a1 : ByteArray) : Option (ByteArray × Int) := (clavigerref13_Value.f).bind fun t1 => ((clavigerref13_Raw.f k a0 t1 a1).bind fun bt2 => (some (bt2.1, bt2.2)))
theorem clavigerref13_Wrap.mono : ∀ a0 a1 k, LeO (clavigerref13_Wrap.f k a0 a1) (clavigerref13_Wrap.f (k + 1) a0 a1) := by
 intro a0 a1 k
 unfold clavigerref13_Wrap.f
 repeat' first
   | (with_reducible exact clavigerref13_Raw.mono _ _ _ _)
   | (with_reducible exact LeO.refl _)
   | (with_reducible exact LeO.none _)
   | (with_reducible refine LeO.ite ?_ ?_)
   | (with_reducible refine LeO.bind ?_ (fun _ => ?_))
def wrap_Unwrap.f (a0 : ByteArray) (a1 : ByteArray) : Option (ByteArray × Int) := (wrap_Unraw.f a0 a1).bind fun bt1 => (if bt1.2.2 = 0 then ((wrap_Value.f).bind fun t2 => ((equal_Scan.f bt1.1 t2).bind fun bt3 => (if bt3.1 = true then (some (bt1.2.1, 0)) else (some ((⟨#[]⟩ : ByteArray), 7))))) else (some ((⟨#[]⟩ : ByteArray), bt1.2.2)))
def clavigerref13_Unwrap.f (k : Nat) (a0 : ByteArray) (a1 : ByteArray) : Option (ByteArray × Int) := (clavigerref13_Unraw.f k a0 a1).bind fun bt1 => (if bt1.2.2 = 0 then ((clavigerref13_Value.f).bind fun t2 => (if bt1.1.toList = t2.toList then (some (bt1.2.1, 0)) else (some ((⟨#[]⟩ : ByteArray), 7)))) else (some ((⟨#[]⟩ : ByteArray), bt1.2.2)))
theorem clavigerref13_Unwrap.mono : ∀ a0 a1 k, LeO (clavigerref13_Unwrap.f k a0 a1) (clavigerref13_Unwrap.f (k + 1) a0 a1) := by
 intro a0 a1 k
 unfold clavigerref13_Unwrap.f
 repeat' first
   | (with_reducible exact clavigerref13_Unraw.mono _ _ _)
   | (with_reducible exact LeO.refl _)
   | (with_reducible exact LeO.none _)
   | (with_reducible refine LeO.ite ?_ ?_)
   | (with_reducible refine LeO.bind ?_ (fun _ => ?_))
end Go.Proofs.Ytokkhnjedmlbhaa.Pr
end
section
namespace Go.Proofs.Ytokkhnjedmlbhaa.Pr
open Go.RowKit Go.Proofs.YtokkhnjedmlbhaaW.PrintWords Go.Proofs.YtokkhnjedmlbhaaW.PrintLast Go.Proofs.YtokkhnjedmlbhaaW.PrintMore
attribute [local go_sem] max2_int min2_int max_two min_two max_three min_three max_four min_four   -- for this text's walks alone
set_option linter.unusedVariables false
set_option linter.unusedSimpArgs false

def clavigerlaw13_awake.f  : Option (Bool) := (wrap_Wrap.f (⟨#[0, 1, 2, 3, 4, 5, 6, 7, 8, 9, 10, 11, 12, 13, 14, 15]⟩ : ByteArray) (⟨#[0, 17, 34, 51, 68, 85, 102, 119, 136, 153, 170, 187, 204, 221, 238, 255]⟩ : ByteArray)).bind fun bt1 => (if bt1.1.toList = ([31, 166, 139, 10, 129, 18, 180, 71, 174, 243, 75, 216, 251, 90, 123, 130, 157, 62, 134, 35, 113, 210, 207, 229] : List UInt8) then (if bt1.2 = 0 then ((wrap_Steps.f 16).bind fun t2 => (some (t2 == 12))) else (some false)) else (some false))
end Go.Proofs.Ytokkhnjedmlbhaa.Pr
end
section
namespace Go.Proofs.Ytokkhnjedmlbhaa.M
open Go.RowKit Go.Proofs.Ytokkhnjedmlbhaa.Pr Go.Proofs.YtokkhnjedmlbhaaW.PrintWords Go.Proofs.YtokkhnjedmlbhaaW.PrintLast Go.Proofs.YtokkhnjedmlbhaaW.PrintMore Go.Proofs.YtokkhnjedmlbhaaGf
set_option linter.unusedSimpArgs false
theorem uw_ok {key c : ByteArray} {m : Nat} (ok : okN key.size) (hc : c.size = 8 * (m + 1)) (h2 : 2 ≤ m) : okW m (uwT (ksB key) c m) := backW_ok (ks_facts ok).2.1 (by omega) _ (ok_1 hc)
theorem un_one {key c : ByteArray} (ok : okN key.size) {m : Nat} (hc : c.size = 8 * (m + 1)) (h2 : 2 ≤ m) (h3 : m ≤ 8192) : unX key c = ((uwT (ksB key) c m).1, catB (uwT (ksB key) c m).2, 0) := by
  unfold unX
  rw [if_pos ok, show ((c.size : Int) - 8) = ((8 * m : Nat) : Int) by omega, steps_8 h2 h3, if_neg (by omega), show c.size / 8 - 1 = m by omega]
/-- A list of pieces of eight bytes, joined and cut again. -/
theorem pcs_back {l : List ByteArray} (h : allS 8 l) : pcs 8 l.length (catB l) = l := by
  apply List.ext_getElem
  · rw [pcs_length]
  · intro i h1 h2
    have := cat_get 8 l i l[i] h (List.getElem?_eq_getElem h2)
    simp only [pcs, List.getElem_map, List.getElem_range]
    exact this
theorem raw_size {ks : List ByteArray} (hk : all16 ks) {iv s : ByteArray} (hi : iv.size = 8) {m : Nat} (hs : s.size = 8 * m) (h2 : 2 ≤ m) : (rawT ks iv s m).size = 8 * (m + 1) := by
  have ho := runW_ok hk (n := m) (by omega) (ok_0 hi hs) (6 * m)
  unfold rawT
  rw [sz_app, ho.1, cat_size 8 _ ho.2.2, ho.2.1]
  omega
theorem un_raw {ks : List ByteArray} (hk : all16 ks) {iv s : ByteArray} (hi : iv.size = 8) {m : Nat} (hs : s.size = 8 * m) (h2 : 2 ≤ m) (h3 : m ≤ 8192) : uwT ks (rawT ks iv s m) m = (iv, pcs 8 m s) := by
  have h0 := ok_0 hi hs
  have ho := runW_ok hk (n := m) (by omega) h0 (6 * m)
  unfold uwT rawT
  have e1 : ((runW ks m (iv, pcs 8 m s) (6 * m)).1 ++ catB (runW ks m (iv, pcs 8 m s) (6 * m)).2).extract 0 8 = (runW ks m (iv, pcs 8 m s) (6 * m)).1 := left_8 ho.1
  have e2 := pcs_back (l := (runW ks m (iv, pcs 8 m s) (6 * m)).1 :: (runW ks m (iv, pcs 8 m s) (6 * m)).2) (fun x hx => by
    rcases List.mem_cons.1 hx with rfl | hx
    · exact ho.1
    · exact ho.2.2 x hx)
  rw [List.length_cons, ho.2.1, cat_cons] at e2
  rw [e1, e2]
  exact back_run hk (by omega) h0 (6 * m) (by omega)
theorem raw_un {ks : List ByteArray} (hk : all16 ks) {c : ByteArray} {m : Nat} (hc : c.size = 8 * (m + 1)) (h2 : 2 ≤ m) (h3 : m ≤ 8192) : rawT ks (uwT ks c m).1 (catB (uwT ks c m).2) m = c := by
  have ho : okW m (uwT ks c m) := backW_ok hk (by omega) _ (ok_1 hc)
  have e := pcs_back ho.2.2
  rw [ho.2.1] at e
  unfold rawT
  rw [e]
  have hr := run_back hk (n := m) (by omega) (6 * m) (p := (c.extract 0 8, (pcs 8 (m + 1) c).drop 1)) (by omega) (ok_1 hc)
  have hu : uwT ks c m = backW ks m (c.extract 0 8, (pcs 8 (m + 1) c).drop 1) (6 * m) := rfl
  rw [show ((uwT ks c m).1, (uwT ks c m).2) = uwT ks c m from rfl, hu, hr]
  show c.extract 0 8 ++ catB ((pcs 8 (m + 1) c).drop 1) = c
  have h := pcs_all (n := 8) (m := m + 1) (s := c) (by omega)
  rw [pcs_cons, cat_cons] at h
  exact h
end Go.Proofs.Ytokkhnjedmlbhaa.M
end
section
namespace Go.Proofs.Ytokkhnjedmlbhaa.M
open Go.RowKit Go.Proofs.Ytokkhnjedmlbhaa.Pr Go.Proofs.YtokkhnjedmlbhaaW.PrintWords Go.Proofs.YtokkhnjedmlbhaaW.PrintLast Go.Proofs.YtokkhnjedmlbhaaW.PrintMore Go.Proofs.YtokkhnjedmlbhaaGf
set_option linter.unusedSimpArgs false
instance (s : ByteArray) (i : Nat) : Decidable (nzP s i) := by unfold nzP; exact Nat.decidableBallLT i (fun j _ => bb s j = 0)
/-- A text out of a value and what is behind it. -/
def outX (v p : ByteArray) : ByteArray × Int := if (lnX v (p.size : Int)).2 = true ∧ nzP (p.extract (lnX v (p.size : Int)).1.toNat p.size) (p.extract (lnX v (p.size : Int)).1.toNat p.size).size then (p.extract 0 (lnX v (p.size : Int)).1.toNat, 0) else (⟨#[]⟩, 7)
def upX (key c : ByteArray) : ByteArray × Int := if (ptX key c).2.2 = 0 then outX (ptX key c).1 (ptX key c).2.1 else (⟨#[]⟩, (ptX key c).2.2)
/-- What a text comes apart to. -/
theorem pt_cases (key c : ByteArray) : (ptX key c = (⟨#[]⟩, ⟨#[]⟩, 2) ∧ ¬ okN key.size) ∨ (ptX key c = (⟨#[]⟩, ⟨#[]⟩, 4) ∧ okN key.size ∧ ¬ (c.size % 8 = 0 ∧ 16 ≤ c.size ∧ c.size ≤ 65544)) ∨ (okN key.size ∧ c.size % 8 = 0 ∧ 16 ≤ c.size ∧ c.size ≤ 65544 ∧ ∃ v p, ptX key c = (v, p, 0) ∧ v.size = 8 ∧ p.size + 8 = c.size) := by
  unfold ptX
  by_cases ok : okN key.size
  · rw [if_pos ok]
    by_cases h16 : c.size = 16
    · rw [if_pos h16]
      have hd := dec_size (ks_facts ok).2.1 h16
      exact .inr (.inr ⟨ok, by omega, by omega, by omega, _, _, rfl, by rw [ByteArray.size_extract]; omega, by rw [ByteArray.size_extract]; omega⟩)
    · rw [if_neg h16]
      by_cases hs : stpN ((c.size : Int) - 8) = 0
      · refine .inr (.inl ⟨by unfold unX; rw [if_pos ok, if_pos hs], ok, fun ⟨a, b, d⟩ => ?_⟩)
        unfold stpN at hs
        rw [if_pos (by omega)] at hs
        omega
      · have hn := stp_ne hs
        obtain ⟨m, hm⟩ : ∃ m, c.size = 8 * (m + 1) := ⟨c.size / 8 - 1, by omega⟩
        have ho := uw_ok ok hm (by omega)
        exact .inr (.inr ⟨ok, by omega, by omega, by omega, _, _, un_one ok hm (by omega) (by omega), ho.1, by rw [cat_size 8 _ ho.2.2, ho.2.1]; omega⟩)
  · exact .inl ⟨if_neg ok, ok⟩
theorem ln_le (v : ByteArray) (n : Int) (h0 : 0 ≤ n) : 0 ≤ (lnX v n).1 ∧ (lnX v n).1 ≤ n := by
  rcases ln_cases v n with ⟨h, _⟩ | ⟨m, _, _, _, _, e, _, h⟩
  · rw [h]; exact ⟨Int.le_refl _, h0⟩
  · rw [h]; exact ⟨Int.natCast_nonneg m, e⟩
theorem out_c (v p : ByteArray) (hv : v.size < 1000000) (hp : p.size < 1000000) : Ev (fun k => (padwrap_Length.f k v (p.size : Int)).bind fun bt2 => (if 0 ≤ bt2.1 then (if bt2.1 ≤ (p.size : Int) then ((equal_Nought.f k (p.extract (bt2.1 : Int).toNat p.size)).bind fun bt3 => (if bt2.2 = true then (if bt3.1 = true then (some (p.extract 0 (bt2.1 : Int).toNat, (0 : Int))) else (some ((⟨#[]⟩ : ByteArray), 7))) else (some ((⟨#[]⟩ : ByteArray), 7)))) else (none)) else (none))) (outX v p) := by
  have hl := ln_le v (p.size : Int) (by omega)
  refine evb (length_c v _ hv (by omega) (by omega)) (evp hl.1 (evp hl.2 ?_))
  have hox : outX v p = if (lnX v (p.size : Int)).2 = true ∧ nzP (p.extract (lnX v (p.size : Int)).1.toNat p.size) (p.extract (lnX v (p.size : Int)).1.toNat p.size).size then (p.extract 0 (lnX v (p.size : Int)).1.toNat, 0) else (⟨#[]⟩, 7) := rfl
  generalize lnX v (p.size : Int) = r at *
  obtain ⟨b, hb, he⟩ := nought_c (p.extract r.1.toNat p.size) (by rw [ByteArray.size_extract]; omega)
  refine evb he ?_
  by_cases h1 : r.2 = true
  · refine evp h1 ?_
    by_cases h2 : b = true
    · rw [hox, if_pos (show r.2 = true ∧ _ from ⟨h1, hb.1 h2⟩)]
      exact evp h2 (Ev.now _)
    · rw [hox, if_neg (show ¬ (r.2 = true ∧ nzP (p.extract r.1.toNat p.size) (p.extract r.1.toNat p.size).size) from fun h => h2 (hb.2 h.2))]
      exact evn h2 (Ev.now _)
  · rw [hox, if_neg (show ¬ (r.2 = true ∧ nzP (p.extract r.1.toNat p.size) (p.extract r.1.toNat p.size).size) from fun h => h1 h.1)]
    exact evn h1 (Ev.now _)
theorem upw_c (key c : ByteArray) (hc : c.size < 1000000) : Ev (fun k => padwrap_Unwrap.f k key c) (upX key c) := by
  unfold padwrap_Unwrap.f
  refine evs (a := ptX key c) (by unfold padwrap_parted.f; rw [if_pos hc]) ?_
  rcases pt_cases key c with ⟨h, _⟩ | ⟨h, _, _⟩ | ⟨_, _, _, _, v, p, h, hv, hp⟩
  · rw [show upX key c = (⟨#[]⟩, 2) by unfold upX; rw [h]; rfl, h]
    exact evn (by decide) (Ev.now _)
  · rw [show upX key c = (⟨#[]⟩, 4) by unfold upX; rw [h]; rfl, h]
    exact evn (by decide) (Ev.now _)
  · rw [show upX key c = outX v p by unfold upX; rw [h]; rfl, h]
    exact evp rfl (out_c v p (by omega) (by omega))
theorem rzL (p : ByteArray) (m : Nat) (hm : m ≤ p.size) (hp : p.size < 1000000) (d : Nat) : ∀ i, p.size - i = d → m ≤ i → i ≤ p.size → (∀ j, m ≤ j → j < i → bb p j = 0) →
    ((∀ j, m ≤ j → j < p.size → bb p j = 0) → Ev (fun k => clavigerref14_Unwrap.l0 k p (m : Int) (i : Int)) (p.extract 0 m, 0)) ∧ (¬ (∀ j, m ≤ j → j < p.size → bb p j = 0) → Ev (fun k => clavigerref14_Unwrap.l0 k p (m : Int) (i : Int)) (⟨#[]⟩, 7)) := by
  induction d with
  | zero =>
    intro i hd h1 h2 hz
    obtain rfl : i = p.size := by omega
    refine ⟨fun _ => ?_, fun h => absurd hz h⟩
    refine evu ?_
    simp only [clavigerref14_Unwrap.l0]
    exact evn (by omega) (evp (by omega) (evp (by omega) (Ev.now _)))
  | succ d ih =>
    intro i hd h1 h2 hz
    by_cases h : bb p i = 0
    · have hh := ih (i + 1) (by omega) (by omega) (by omega) (fun j a b => by
        by_cases e : j = i
        · rw [e]; exact h
        · exact hz j a (by omega))
      have go : ∀ r, Ev (fun k => clavigerref14_Unwrap.l0 k p (m : Int) ((i + 1 : Nat) : Int)) r → Ev (fun k => clavigerref14_Unwrap.l0 k p (m : Int) (i : Int)) r := fun r hr => by
        refine evu ?_
        simp only [clavigerref14_Unwrap.l0]
        rw [bt_bb, wrap_id (x := (i : Int) + 1) (by omega) (by omega), show (i : Int) + 1 = ((i + 1 : Nat) : Int) by omega]
        exact evp (by omega) (evp (by omega) (evp (by omega) hr))
      exact ⟨fun a => go _ (hh.1 a), fun a => go _ (hh.2 a)⟩
    · refine ⟨fun a => absurd (a i h1 (by omega)) h, fun _ => ?_⟩
      refine evu ?_
      simp only [clavigerref14_Unwrap.l0]
      rw [bt_bb]
      exact evp (by omega) (evp (by omega) (evn (by omega) (Ev.now _)))
theorem nz_ext {p : ByteArray} {m : Nat} (hm : m ≤ p.size) : nzP (p.extract m p.size) (p.extract m p.size).size ↔ ∀ j, m ≤ j → j < p.size → bb p j = 0 := by
  have hz : (p.extract m p.size).size = p.size - m := by rw [ByteArray.size_extract]; omega
  unfold nzP
  rw [hz]
  constructor
  · intro h j a b
    have := h (j - m) (by omega)
    rwa [bb_ext p m p.size (j - m) (Nat.le_refl _) (by omega), show m + (j - m) = j by omega] at this
  · intro h j a
    rw [bb_ext p m p.size j (Nat.le_refl _) (by omega)]
    exact h (m + j) (by omega) (by omega)
theorem rout_c (v p : ByteArray) (hp : p.size < 1000000) : Ev (fun k => clavigerref14_Unwrap.j1 k v p) (outX v p) := by
  refine evu ?_
  simp only [clavigerref14_Unwrap.j1]
  refine evb (rlength_c v (p.size : Int) (by omega) (by omega)) ?_
  unfold outX
  rcases ln_cases v (p.size : Int) with ⟨h, _⟩ | ⟨m, _, _, _, _, e, _, h⟩
  · rw [h, if_neg (fun h => absurd h.1 (by decide))]
    exact evn (by decide) (Ev.now _)
  · rw [h]
    refine evp rfl ?_
    show Ev (fun k => clavigerref14_Unwrap.l0 k p (m : Int) (m : Int)) _
    have hz := rzL p m (by omega) hp _ m rfl (Nat.le_refl _) (by omega) (fun j a b => by omega)
    have hn := nz_ext (p := p) (m := m) (by omega)
    simp only [Int.toNat_natCast]
    by_cases h1 : ∀ j, m ≤ j → j < p.size → bb p j = 0
    · rw [if_pos ⟨trivial, hn.2 h1⟩]
      exact hz.1 h1
    · rw [if_neg (fun hh => h1 (hn.1 hh.2))]
      exact hz.2 h1
theorem rupw_c (key c : ByteArray) (hc : c.size < 1000000) : Ev (fun k => clavigerref14_Unwrap.f k key c) (upX key c) := by
  unfold clavigerref14_Unwrap.f
  refine evs (rkey14_c key) ?_
  have bad : Ev (fun k => clavigerref14_Unwrap.j0 k key c true) (⟨#[]⟩, 4) := by
    refine evu ?_
    simp only [clavigerref14_Unwrap.j0]
    exact evp True.intro (Ev.now _)
  rcases pt_cases key c with ⟨h, no⟩ | ⟨h, ok, no⟩ | ⟨ok, h8, h16, hmx, v, p, h, hv, hp⟩
  · rw [show upX key c = (⟨#[]⟩, 2) by unfold upX; rw [h]; rfl]
    exact evn (by simp [no]) (Ev.now _)
  · rw [show upX key c = (⟨#[]⟩, 4) by unfold upX; rw [h]; rfl]
    refine evp (decide_eq_true ok) ?_
    by_cases a : c.size % 8 = 0
    · refine evp (by omega) ?_
      by_cases b : c.size < 16
      · exact evp (by omega) bad
      · refine evn (by omega) ?_
        rw [decide_eq_true (show (c.size : Int) > 65544 by omega)]
        exact bad
    · exact evn (by omega) bad
  · rw [show upX key c = outX v p by unfold upX; rw [h]; rfl]
    refine evp (decide_eq_true ok) (evp (by omega) (evn (by omega) ?_))
    rw [decide_eq_false (show ¬ (c.size : Int) > 65544 by omega)]
    refine evu ?_
    simp only [clavigerref14_Unwrap.j0]
    refine evn (by decide) ?_
    unfold ptX at h
    rw [if_pos ok] at h
    by_cases h1 : c.size = 16
    · rw [if_pos h1] at h
      have h' := Prod.mk.inj h
      have hv' := h'.1
      have hp' := (Prod.mk.inj h'.2).1
      clear h h'
      have he := rdec_c key c
      rw [decX_ok ok h1] at he
      have hd := dec_size (ks_facts ok).2.1 h1
      generalize decT (ksB key) c = b at *
      subst hv' hp'
      refine evp (by omega) (evb he (evp (by decide) (evp (by show (8 : Int) ≤ ((b.size : Nat) : Int); omega) ?_)))
      show Ev (fun k => clavigerref14_Unwrap.j1 k (b.extract 0 8) (b.extract 8 b.size)) _
      rw [hd]
      exact rout_c _ _ (by omega)
    · rw [if_neg h1] at h
      have hu := runraw_c key c hc
      rw [h] at hu
      exact evn (by omega) (evb hu (rout_c v p (by omega)))
theorem bb_zero (z j : Nat) : bb (zeros z) j = 0 := by
  unfold zeros
  rw [bb_mkB (fun x hx => by rw [(List.mem_replicate.1 hx).2]; omega), List.getD_eq_getElem?_getD, List.getElem?_replicate]
  split <;> rfl
theorem out_pad {s : ByteArray} (h1 : 1 ≤ s.size) (h2 : s.size ≤ 65535) : outX (vlT s.size) (padT s 8) = (s, 0) := by
  have hz := pad_8 s
  have hl := ln_spec (v := vlT s.size) (n := ((padT s 8).size : Int)) h1 h2 rfl (by omega) (by omega) (by omega)
  unfold outX
  rw [hl]
  simp only [Int.toNat_natCast]
  have e0 : (padT s 8).extract 0 s.size = s := ext_left s _
  have hzz : ∀ j, s.size ≤ j → j < (padT s 8).size → bb (padT s 8) j = 0 := fun j a b => by
    unfold padT
    rw [bb_app, if_neg (by omega)]
    exact bb_zero _ _
  rw [if_pos ⟨trivial, (nz_ext (by omega)).2 hzz⟩, e0]
/-- What is wrapped so, unwrapped. -/
theorem up_pad {key s : ByteArray} (ok : okN key.size) (h1 : 1 ≤ s.size) (h2 : s.size ≤ 65535) : upX key (padX key s).1 = (s, 0) ∧ (padX key s).2 = 0 ∧ ((padX key s).1.size : Int) = pszI (s.size : Int) := by
  have hk := (ks_facts ok).2.1
  have hz := pad_8 s
  have hv := vl_size s.size
  have hps : pszI (s.size : Int) = ((8 * ((s.size + 7) / 8) + 8 : Nat) : Int) := by unfold pszI; rw [if_pos (by omega)]; omega
  rw [hps]
  unfold padX
  rw [if_pos ok, if_pos ⟨h1, h2⟩]
  by_cases h8 : s.size ≤ 8
  · rw [if_pos h8]
    have hc : (vlT s.size ++ padT s 8).size = 16 := by rw [sz_app]; omega
    have he := enc_size hk hc
    have hp : ptX key (encT (ksB key) (vlT s.size ++ padT s 8)) = (vlT s.size, padT s 8, 0) := by
      unfold ptX
      rw [if_pos ok, if_pos he, dec_enc hk hc, half_l hv, half_r hv (by omega)]
    refine ⟨?_, rfl, by show ((encT (ksB key) (vlT s.size ++ padT s 8)).size : Int) = _; omega⟩
    show upX key (encT (ksB key) (vlT s.size ++ padT s 8)) = _
    unfold upX
    rw [hp]
    exact out_pad h1 h2
  · rw [if_neg h8]
    have hm2 : 2 ≤ (s.size + 7) / 8 := by omega
    have hm3 : (s.size + 7) / 8 ≤ 8192 := by omega
    have hrz := raw_size hk hv hz hm2
    have hu := un_raw hk hv hz hm2 hm3
    have h3 := un_one ok hrz hm2 hm3
    rw [hu, pcs_all (by omega)] at h3
    generalize (s.size + 7) / 8 = m at *
    have hp : ptX key (rawT (ksB key) (vlT s.size) (padT s 8) m) = (vlT s.size, padT s 8, 0) := by
      unfold ptX
      rw [if_pos ok, if_neg (by omega), h3]
    refine ⟨?_, rfl, by show ((rawT (ksB key) (vlT s.size) (padT s 8) m).size : Int) = _; omega⟩
    show upX key (rawT (ksB key) (vlT s.size) (padT s 8) m) = _
    unfold upX
    rw [hp]
    exact out_pad h1 h2
/-- Whatever is unwrapped, wrapped again. -/
theorem pad_up {key c : ByteArray} (h : (upX key c).2 = 0) : padX key (upX key c).1 = (c, 0) ∧ (upX key c).1.size < 1000000 := by
  rcases pt_cases key c with ⟨e, _⟩ | ⟨e, _, _⟩ | ⟨ok, h8, h16, hmx, v, p, e, hv, hp⟩
  · rw [show upX key c = (⟨#[]⟩, 2) by unfold upX; rw [e]; rfl] at h; exact absurd h (by decide)
  · rw [show upX key c = (⟨#[]⟩, 4) by unfold upX; rw [e]; rfl] at h; exact absurd h (by decide)
  · have hx : upX key c = outX v p := by unfold upX; rw [e]; rfl
    rw [hx] at h ⊢
    have hk := (ks_facts ok).2.1
    unfold outX at h ⊢
    rcases ln_cases v (p.size : Int) with ⟨hl, _⟩ | ⟨m, hm1, hm2, hvm, hp8, hmp, hpm, hl⟩
    · rw [hl, if_neg (fun h => absurd h.1 (by decide))] at h
      exact absurd h (by decide)
    · rw [hl] at h ⊢
      simp only [Int.toNat_natCast] at h ⊢
      by_cases hn : nzP (p.extract m p.size) (p.extract m p.size).size
      · rw [if_pos ⟨trivial, hn⟩]
        have hmp2 : m ≤ p.size := by omega
        have hsz : (p.extract 0 m).size = m := by rw [ByteArray.size_extract]; omega
        have hnz := (nz_ext hmp2).1 hn
        have hpad : padT (p.extract 0 m) 8 = p := by
          unfold padT
          rw [hsz]
          refine same_of (by rw [sz_app, hsz, zeros_size]; omega) (fun j hj => ?_)
          rw [sz_app, hsz, zeros_size] at hj
          rw [bb_app, hsz]
          by_cases hjm : j < m
          · rw [if_pos hjm, bb_ext p 0 m j hmp2 (by omega), Nat.zero_add]
          · rw [if_neg hjm, bb_zero, hnz j (by omega) (by omega)]
        refine ⟨?_, by show (p.extract 0 m).size < _; omega⟩
        show padX key (p.extract 0 m) = _
        unfold padX
        rw [if_pos ok, hsz, if_pos ⟨hm1, hm2⟩, hpad, ← hvm]
        unfold ptX at e
        rw [if_pos ok] at e
        by_cases h1 : c.size = 16
        · rw [if_pos h1] at e
          have e' := Prod.mk.inj e
          have hd := dec_size hk h1
          rw [if_pos (by omega), ← e'.1, ← (Prod.mk.inj e'.2).1, halves hd, enc_dec hk h1]
        · rw [if_neg h1] at e
          obtain ⟨q, hq⟩ : ∃ q, c.size = 8 * (q + 1) := ⟨c.size / 8 - 1, by omega⟩
          rw [un_one ok hq (by omega) (by omega)] at e
          obtain ⟨e1, e⟩ := Prod.mk.inj e
          obtain ⟨e2, _⟩ := Prod.mk.inj e
          have hr := raw_un hk hq (by omega) (by omega)
          rw [e1, e2] at hr
          rw [if_neg (by omega), show (m + 7) / 8 = q by omega, hr]
      · rw [if_neg (fun h => hn h.2)] at h
        exact absurd h (by decide)
set_option maxRecDepth 100000 in
theorem awake14 : clavigerlaw14_awake.f = some true := by
  unfold clavigerlaw14_awake.f
  have h : padX (⟨#[88, 64, 223, 110, 41, 176, 42, 241, 171, 73, 59, 112, 91, 241, 110, 161, 174, 131, 56, 244, 220, 193, 118, 168]⟩ : ByteArray) (⟨#[70, 111, 114, 80, 97, 115, 105]⟩ : ByteArray) = (mkB [175, 190, 176, 240, 125, 251, 245, 65, 146, 0, 242, 204, 181, 11, 178, 79], 0) := by
    unfold padX
    rw [if_pos (.inr (.inl rfl)), if_pos (by decide), if_pos (by decide)]
    rw [show (vlT (⟨#[70, 111, 114, 80, 97, 115, 105]⟩ : ByteArray).size ++ padT (⟨#[70, 111, 114, 80, 97, 115, 105]⟩ : ByteArray) 8) = mkB [166, 89, 89, 166, 0, 0, 0, 7, 70, 111, 114, 80, 97, 115, 105, 0] by decide +kernel]
    rw [show (⟨#[88, 64, 223, 110, 41, 176, 42, 241, 171, 73, 59, 112, 91, 241, 110, 161, 174, 131, 56, 244, 220, 193, 118, 168]⟩ : ByteArray) = mkB [88, 64, 223, 110, 41, 176, 42, 241, 171, 73, 59, 112, 91, 241, 110, 161, 174, 131, 56, 244, 220, 193, 118, 168] from rfl, pk_0]
  rw [padw_c _ _ (by decide), h]
  simp only [Option.bind_some]
  rw [if_pos (by decide +kernel), if_pos True.intro, size_c]
  decide +kernel
end Go.Proofs.Ytokkhnjedmlbhaa.M
end
