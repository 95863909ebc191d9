/-
  Keys out of keys: the program's and the reference's. Plain.
-/
import Derived.Test.YtokkhnjedmlbhaaZCmacP
import Derived.Test.YtokkhnjedmlbhaaZPutM
import Derived.Test.YtokkhnjedmlbhaaZPrg01
import Derived.Test.YtokkhnjedmlbhaaZPrg12
import Derived.Test.YtokkhnjedmlbhaaZPrg01x
namespace Go.Proofs.Ytokkhnjedmlbhaa.M
open Go.RowKit Go.Proofs.Ytokkhnjedmlbhaa.Pr Go.Proofs.YtokkhnjedmlbhaaW.PrintWords Go.Proofs.YtokkhnjedmlbhaaW.PrintLast Go.Proofs.YtokkhnjedmlbhaaW.PrintMore Go.Proofs.YtokkhnjedmlbhaaGf
set_option linter.unusedSimpArgs false
def rndK (n : Int) : Nat := if n < 1 then 0 else if n > 4080 then 0 else (n.toNat + 15) / 16
theorem krnd_c (n : Int) : kdf_Rounds.f n = some ((rndK n : Nat) : Int) := by
  unfold kdf_Rounds.f rndK
  by_cases h1 : n < 1
  · rw [if_pos h1, if_pos h1]; rfl
  · rw [if_neg h1, if_neg h1]
    by_cases h2 : n > 4080
    · rw [if_pos h2, if_pos h2]; rfl
    · rw [if_neg h2, if_neg h2, wrap_id (x := n + 15) (by omega) (by omega), Int.tdiv_eq_ediv_of_nonneg (by omega), wrap_id (by omega) (by omega)]
      congr 1
      omega
theorem rrndL (n : Nat) (hn : 1 ≤ n) (hn2 : n ≤ 4080) (d : Nat) : ∀ i, (n + 15) / 16 - i = d → i ≤ (n + 15) / 16 → Ev (fun k => clavigerref12_Rounds.l0 k (n : Int) (i : Int)) (((n + 15) / 16 : Nat) : Int) := by
  induction d with
  | zero =>
    intro i hd hi
    obtain rfl : i = (n + 15) / 16 := by omega
    refine Ev.step (f := fun _ => some (((n + 15) / 16 : Nat) : Int)) (fun k => ?_) (Ev.now _)
    simp only [clavigerref12_Rounds.l0]
    rw [wrap_id (by omega) (by omega), if_neg (by omega)]
  | succ d ih =>
    intro i hd hi
    have hh := ih (i + 1) (by omega) (by omega)
    refine Ev.step (fun k => ?_) hh
    simp only [clavigerref12_Rounds.l0]
    rw [wrap_id (x := 16 * (i : Int)) (by omega) (by omega), if_pos (by omega), wrap_id (by omega) (by omega)]
    rfl
theorem rrnd_c (n : Int) : Ev (fun k => clavigerref12_Rounds.f k n) ((rndK n : Nat) : Int) := by
  unfold clavigerref12_Rounds.f rndK
  have z : Ev (fun k => clavigerref12_Rounds.j0 k n true) 0 := Ev.step (f := fun _ => some 0) (fun k => by simp only [clavigerref12_Rounds.j0]; rw [if_pos True.intro]) (Ev.now _)
  by_cases h1 : n < 1
  · rw [if_pos h1]
    exact evp h1 z
  · rw [if_neg h1]
    refine evn h1 ?_
    by_cases h2 : n > 4080
    · rw [if_pos h2, decide_eq_true h2]; exact z
    · rw [if_neg h2, decide_eq_false h2]
      obtain ⟨m, rfl⟩ : ∃ m : Nat, n = (m : Int) := ⟨n.toNat, by omega⟩
      rw [Int.toNat_natCast]
      refine Ev.step (f := fun k => clavigerref12_Rounds.l0 k (m : Int) ((0 : Nat) : Int)) (fun k => by simp only [clavigerref12_Rounds.j0]; rw [if_neg (by simp)]; rfl) (rrndL m (by omega) (by omega) _ 0 rfl (by omega))
/-- Tag i of a key's; so many of them, joined. -/
def kT (ks : List ByteArray) (fixed : ByteArray) (i : Nat) : ByteArray := tagT ks (mkB (lowL (i + 1) 1) ++ fixed)
def kTs (ks : List ByteArray) (fixed : ByteArray) (r : Nat) : List ByteArray := (List.range r).map (kT ks fixed)
def ctrX (key fixed : ByteArray) (n : Int) : ByteArray × Int := if okN key.size then if rndK n = 0 then (⟨#[]⟩, 4) else ((catB (kTs (ksB key) fixed (rndK n))).extract 0 n.toNat, 0) else (⟨#[]⟩, 2)
theorem kTs_all {ks : List ByteArray} (h : all16 ks) (fixed : ByteArray) (r : Nat) : allS 16 (kTs ks fixed r) := by
  intro x hx
  obtain ⟨i, _, rfl⟩ := List.mem_map.1 hx
  exact tagT_size h _
theorem kTs_size {ks : List ByteArray} (h : all16 ks) (fixed : ByteArray) (r : Nat) : (catB (kTs ks fixed r)).size = 16 * r := by
  rw [cat_size 16 _ (kTs_all h fixed r)]; simp [kTs]
theorem kTs_succ (ks : List ByteArray) (fixed : ByteArray) (r : Nat) : kTs ks fixed (r + 1) = kTs ks fixed r ++ [kT ks fixed r] := by
  unfold kTs; rw [List.range_succ, List.map_append]; rfl
theorem cut_c (s : ByteArray) (n : Nat) (h1 : 1 ≤ n) (h2 : n ≤ s.size) (hs : s.size < 1000000000) : octets_Cut.f s 0 (n : Int) = some (s.extract 0 n) := by
  have e1 : wrap64 ((s.size : Int) - 0) = (s.size : Int) := by unfold wrap64; omega
  have e2 : mn (n : Int) (s.size : Int) = (n : Int) := by unfold mn; omega
  have e3 : wrap64 (0 + (n : Int)) = (n : Int) := by unfold wrap64; omega
  unfold octets_Cut.f
  rw [if_neg (by decide), if_neg (by omega), if_neg (by omega), if_pos (by decide), e1, e2, e3, if_pos (by omega), if_pos (by omega), Int.toNat_natCast]
  rfl
theorem rnd_facts {n : Int} (h : rndK n ≠ 0) : ∃ m : Nat, n = (m : Int) ∧ 1 ≤ m ∧ m ≤ 4080 ∧ rndK n = (m + 15) / 16 := by
  unfold rndK at h ⊢
  by_cases h1 : n < 1
  · rw [if_pos h1] at h; exact absurd rfl h
  · by_cases h2 : n > 4080
    · rw [if_neg h1, if_pos h2] at h; exact absurd rfl h
    · exact ⟨n.toNat, by omega, by omega, by omega, by rw [if_neg h1, if_neg h2]⟩
theorem low1 (i : Nat) : (mkB (lowL (i + 1) 1)).size = 1 := by rw [mkB_size, lowL_length]
theorem kctrL {key : ByteArray} (ok : okN key.size) (fixed : ByteArray) (hf : fixed.size < 100000) (m r : Nat) (hm : 1 ≤ m) (hm2 : m ≤ 16 * r) (hr : r ≤ 255) (d : Nat) : ∀ i, r - i = d → i ≤ r → Ev (fun k => kdf_Counter.l0 k key fixed (m : Int) (kTs (ksB key) fixed i) (r : Int) (i : Int)) ((catB (kTs (ksB key) fixed r)).extract 0 m, 0) := by
  have hk := (ks_facts ok).2.1
  induction d with
  | zero =>
    intro i hd hi
    obtain rfl : i = r := by omega
    have hz := kTs_size hk fixed i
    refine Ev.step (f := fun _ => (octets_Join.f (kTs (ksB key) fixed i)).bind fun t4 => ((octets_Cut.f t4 0 (m : Int)).bind fun t5 => (some (t5, 0)))) (fun k => ?_) ?_
    · simp only [kdf_Counter.l0]
      rw [if_neg (by omega)]
    · exact evs (join_c _ (by simp [kTs]; omega) (by omega)) (evs (cut_c _ m hm (by omega) (by omega)) (Ev.now _))
  | succ d ih =>
    intro i hd hi
    have hh := ih (i + 1) (by omega) (by omega)
    have e1 : IntKind.u64.wrap (wrap64 ((i : Int) + 1)) = ((i + 1 : Nat) : Int) := by rw [IntKind.wrap_u64, wrap_id (by omega) (by omega)]; omega
    have e2 : wrap64 ((i : Int) + 1) = ((i + 1 : Nat) : Int) := by unfold wrap64; omega
    have l1 := low1 i
    have e3 : catB [mkB (lowL (i + 1) 1), fixed] = mkB (lowL (i + 1) 1) ++ fixed := by show _ ++ (fixed ++ (⟨#[]⟩ : ByteArray)) = _; rw [append_empty]
    have hs : (mkB (lowL (i + 1) 1) ++ fixed).size = 1 + fixed.size := by rw [ByteArray.size_append, l1]
    have ht : cmac_Tag.f key (mkB (lowL (i + 1) 1) ++ fixed) = some (kT (ksB key) fixed i, 0) := by
      rw [ctag_x _ _ (by omega)]; unfold tagX; rw [if_pos ok]; rfl
    rw [kTs_succ] at hh
    refine Ev.step (fun k => ?_) hh
    simp only [kdf_Counter.l0]
    rw [if_pos (by omega), e1, e2, put_1]
    simp only [Option.bind_some]
    rw [join_c _ (by simp) (by rw [e3]; omega), e3]
    simp only [Option.bind_some]
    rw [ht]
    simp only [Option.bind_some]
    rw [if_pos (by simp [kTs]; omega)]
theorem kctr_c (key fixed : ByteArray) (hf : fixed.size < 100000) (n : Int) : Ev (fun k => kdf_Counter.f k key fixed n) (ctrX key fixed n) := by
  unfold kdf_Counter.f ctrX
  refine evs (ctag_x key ⟨#[]⟩ (by decide)) ?_
  unfold tagX
  by_cases ok : okN key.size
  · rw [if_pos ok, if_pos ok]
    refine evp rfl (evs (krnd_c n) ?_)
    by_cases h : rndK n = 0
    · rw [if_pos h, h]
      exact evp rfl (Ev.now _)
    · obtain ⟨m, rfl, h1, h2, h3⟩ := rnd_facts h
      rw [if_neg h]
      refine evn (by omega) ?_
      rw [h3, Int.toNat_natCast]
      exact kctrL ok fixed hf m ((m + 15) / 16) h1 (by omega) (by omega) _ 0 rfl (by omega)
  · rw [if_neg ok, if_neg ok]
    exact evn (by decide) (Ev.now _)
theorem rctrL {key : ByteArray} (ok : okN key.size) (fixed : ByteArray) (hf : fixed.size < 100000) (m r : Nat) (hm : 1 ≤ m) (hm2 : m ≤ 16 * r) (hr : r ≤ 255) (hrr : rndK (m : Int) = r) (d : Nat) : ∀ i, r - i = d → i ≤ r → Ev (fun k => clavigerref12_Counter.l0 k key fixed (m : Int) (catB (kTs (ksB key) fixed i)) ((i + 1 : Nat) : Int)) ((catB (kTs (ksB key) fixed r)).extract 0 m, 0) := by
  have hk := (ks_facts ok).2.1
  have hrc := rrnd_c (m : Int)
  rw [hrr] at hrc
  induction d with
  | zero =>
    intro i hd hi
    obtain rfl : i = r := by omega
    have hz := kTs_size hk fixed i
    refine Ev.step (f := (fun k => (clavigerref12_Rounds.f k (m : Int)).bind fun t2 => (if ((i + 1 : Nat) : Int) ≤ t2 then ((some (([(((i + 1 : Nat) : Int)) % 256] : List Int) : List Int)).bind fun y3 => (if (strOfNums y3).size + fixed.size ≤ 9223372036854775807 then ((clavigerref11_Tag.f k key ((strOfNums y3) ++ fixed)).bind fun bt4 => (if (catB (kTs (ksB key) fixed i)).size + bt4.1.size ≤ 9223372036854775807 then (clavigerref12_Counter.l0 k key fixed (m : Int) (catB (kTs (ksB key) fixed i) ++ bt4.1) (wrap64 (((i + 1 : Nat) : Int) + 1))) else (none))) else (none))) else (if 0 ≤ (m : Int) then (if (m : Int) ≤ ((catB (kTs (ksB key) fixed i)).size : Int) then (some ((catB (kTs (ksB key) fixed i)).extract 0 ((m : Int) : Int).toNat, 0)) else (none)) else (none))))) (fun k => rfl) ?_
    refine evb hrc (evn (by omega) (evp (by omega) (evp (by omega) ?_)))
    rw [Int.toNat_natCast]
    exact Ev.now _
  | succ d ih =>
    intro i hd hi
    have hh := ih (i + 1) (by omega) (by omega)
    have e1 : ((i + 1 : Nat) : Int) % 256 = ((i + 1 : Nat) : Int) := by omega
    have e2 : wrap64 (((i + 1 : Nat) : Int) + 1) = ((i + 1 + 1 : Nat) : Int) := by unfold wrap64; omega
    have e3 : strOfNums [((i + 1 : Nat) : Int)] = mkB (lowL (i + 1) 1) := by
      rw [sNs1]
      show mkB [i + 1] = mkB [(i + 1) / 1 % 256]
      rw [Nat.div_one, Nat.mod_eq_of_lt (by omega)]
    have l1 := low1 i
    have hs : (mkB (lowL (i + 1) 1) ++ fixed).size = 1 + fixed.size := by rw [ByteArray.size_append, l1]
    have ht := rtag_c key (mkB (lowL (i + 1) 1) ++ fixed) (by omega)
    unfold tagX at ht
    rw [if_pos ok] at ht
    have hz := kTs_size hk fixed i
    have hz1 : (kT (ksB key) fixed i).size = 16 := tagT_size hk _
    rw [kTs_succ, cat_app, cat_one] at hh
    refine Ev.step (f := (fun k => (clavigerref12_Rounds.f k (m : Int)).bind fun t2 => (if ((i + 1 : Nat) : Int) ≤ t2 then ((some (([(((i + 1 : Nat) : Int)) % 256] : List Int) : List Int)).bind fun y3 => (if (strOfNums y3).size + fixed.size ≤ 9223372036854775807 then ((clavigerref11_Tag.f k key ((strOfNums y3) ++ fixed)).bind fun bt4 => (if (catB (kTs (ksB key) fixed i)).size + bt4.1.size ≤ 9223372036854775807 then (clavigerref12_Counter.l0 k key fixed (m : Int) (catB (kTs (ksB key) fixed i) ++ bt4.1) (wrap64 (((i + 1 : Nat) : Int) + 1))) else (none))) else (none))) else (if 0 ≤ (m : Int) then (if (m : Int) ≤ ((catB (kTs (ksB key) fixed i)).size : Int) then (some ((catB (kTs (ksB key) fixed i)).extract 0 ((m : Int) : Int).toNat, 0)) else (none)) else (none))))) (fun k => rfl) ?_
    refine evb hrc (evp (by omega) (evs (a := [((i + 1 : Nat) : Int)]) (by rw [e1]) ?_))
    rw [e2, e3]
    exact evp (by omega) (evb ht (evp (by show _ + (kT (ksB key) fixed i).size ≤ _; omega) hh))
theorem rctr_c (key fixed : ByteArray) (hf : fixed.size < 100000) (n : Int) : Ev (fun k => clavigerref12_Counter.f k key fixed n) (ctrX key fixed n) := by
  have go (ok : okN key.size) : Ev (fun k => clavigerref12_Counter.j0 k key fixed n false) (if rndK n = 0 then (⟨#[]⟩, 4) else ((catB (kTs (ksB key) fixed (rndK n))).extract 0 n.toNat, 0)) := by
    refine Ev.step (f := fun k => (clavigerref12_Rounds.f k n).bind fun t1 => (if t1 = 0 then (some ((⟨#[]⟩ : ByteArray), 4)) else (clavigerref12_Counter.l0 k key fixed n (⟨#[]⟩ : ByteArray) 1))) (fun k => by simp only [clavigerref12_Counter.j0]; rw [if_neg (by simp)]) ?_
    refine evb (rrnd_c n) ?_
    by_cases h : rndK n = 0
    · rw [if_pos h, h]
      exact evp rfl (Ev.now _)
    · obtain ⟨m, rfl, h1, h2, h3⟩ := rnd_facts h
      rw [if_neg h]
      refine evn (by omega) ?_
      rw [h3, Int.toNat_natCast]
      exact rctrL ok fixed hf m ((m + 15) / 16) h1 (by omega) (by omega) h3 _ 0 rfl (by omega)
  unfold clavigerref12_Counter.f ctrX
  by_cases h1 : key.size = 16
  · rw [if_pos (.inl h1)]
    exact evp (by omega) (go (.inl h1))
  · refine evn (by omega) ?_
    by_cases h2 : key.size = 24
    · rw [if_pos (.inr (.inl h2))]
      exact evp (by omega) (go (.inr (.inl h2)))
    · refine evn (by omega) ?_
      by_cases h3 : key.size = 32
      · rw [if_pos (.inr (.inr h3)), show ((key.size : Int) != 32) = false by rw [h3]; rfl]
        exact go (.inr (.inr h3))
      · rw [if_neg (by unfold okN; omega), show ((key.size : Int) != 32) = true from bne_iff_ne.mpr (by omega)]
        exact Ev.step (f := fun _ => some ((⟨#[]⟩ : ByteArray), 2)) (fun k => by simp only [clavigerref12_Counter.j0]; rw [if_pos True.intro]) (Ev.now _)
def fixX (a b : ByteArray) (n : Int) : ByteArray := ((a ++ (⟨#[0]⟩ : ByteArray)) ++ b) ++ mkB (lowL (max 0 n).toNat 4)
theorem low4 (u : Nat) : (mkB (lowL u 4)).size = 4 := by rw [mkB_size, lowL_length]
theorem kfix_c (a b : ByteArray) (n : Int) (ha : a.size < 100000) (hb : b.size < 100000) (hn : n ≤ 9223372036854775807) : kdf_Fixed.f a b n = some (fixX a b n) := by
  unfold kdf_Fixed.f fixX
  have e1 : IntKind.u64.wrap (mx 0 n) = (((max 0 n).toNat : Nat) : Int) := by rw [IntKind.wrap_u64]; unfold mx; omega
  have l4 := low4 (max 0 n).toNat
  have e2 : catB [a, (⟨#[0]⟩ : ByteArray), b, mkB (lowL (max 0 n).toNat 4)] = ((a ++ (⟨#[0]⟩ : ByteArray)) ++ b) ++ mkB (lowL (max 0 n).toNat 4) := by
    show a ++ ((⟨#[0]⟩ : ByteArray) ++ (b ++ (_ ++ (⟨#[]⟩ : ByteArray)))) = _
    rw [append_empty, ByteArray.append_assoc, ByteArray.append_assoc]
  have hz : ((((a ++ (⟨#[0]⟩ : ByteArray)) ++ b) ++ mkB (lowL (max 0 n).toNat 4))).size = a.size + 1 + b.size + 4 := by
    rw [ByteArray.size_append, ByteArray.size_append, ByteArray.size_append, l4]; rfl
  rw [show octets_Zeros.f 1 = some (⟨#[0]⟩ : ByteArray) from zeros_c 1 (by omega)]
  simp only [Option.bind_some]
  rw [e1, put_4]
  simp only [Option.bind_some]
  rw [join_c _ (by simp) (by rw [e2, hz]; omega), e2]
  rfl
theorem rfix_c (a b : ByteArray) (n : Int) (ha : a.size < 100000) (hb : b.size < 100000) (hn : n ≤ 9223372036854775807) : Ev (fun k => clavigerref12_Fixed.f k a b n) (fixX a b n) := by
  unfold clavigerref12_Fixed.f fixX
  have s1 : (a ++ (⟨#[0]⟩ : ByteArray)).size = a.size + 1 := by rw [ByteArray.size_append]; rfl
  have s2 : ((a ++ (⟨#[0]⟩ : ByteArray)) ++ b).size = a.size + 1 + b.size := by rw [ByteArray.size_append, s1]
  by_cases h : n < 0
  · have l4 := low4 0
    refine evp h (evp (by omega) (evp (by omega) (evb (rput_c 0 4 (by omega) (by omega) (by omega)) (evp (by omega) ?_))))
    rw [show (max 0 n).toNat = 0 by omega]
    exact Ev.now _
  · have l4 := low4 n.toNat
    refine evn h (evp (by omega) (evp (by omega) ?_))
    rw [show IntKind.u64.wrap n = ((n.toNat : Nat) : Int) by rw [IntKind.wrap_u64]; omega, show (max 0 n).toNat = n.toNat by omega]
    exact evb (rput_c n.toNat 4 (by omega) (by omega) (by omega)) (evp (by omega) (Ev.now _))
end Go.Proofs.Ytokkhnjedmlbhaa.M
