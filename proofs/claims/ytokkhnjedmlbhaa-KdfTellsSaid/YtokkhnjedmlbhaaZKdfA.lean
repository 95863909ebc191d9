/-
  Laws of kdf, plain.
-/
import Derived.Test.YtokkhnjedmlbhaaZKdfP
import Derived.Test.YtokkhnjedmlbhaaZPrL12KdfBegins
import Derived.Test.YtokkhnjedmlbhaaZPrL12KdfTells
import Derived.Test.YtokkhnjedmlbhaaZPrL12awake
import Derived.Test.YtokkhnjedmlbhaaZPrg01x
namespace Go.Proofs.Ytokkhnjedmlbhaa.M
open Go.RowKit Go.Proofs.Ytokkhnjedmlbhaa.Pr Go.Proofs.YtokkhnjedmlbhaaW.PrintWords Go.Proofs.YtokkhnjedmlbhaaW.PrintLast Go.Proofs.YtokkhnjedmlbhaaW.PrintMore Go.Proofs.YtokkhnjedmlbhaaGf
set_option linter.unusedSimpArgs false
theorem ctr_one {key : ByteArray} (ok : okN key.size) (fixed : ByteArray) : ctrX key fixed 16 = (tagT (ksB key) ((⟨#[1]⟩ : ByteArray) ++ fixed), 0) := by
  have hr : rndK 16 = 1 := rfl
  unfold ctrX
  rw [if_pos ok, hr, if_neg (by decide)]
  have hz := tagT_size (ks_facts ok).2.1 ((⟨#[1]⟩ : ByteArray) ++ fixed)
  have e : catB (kTs (ksB key) fixed 1) = tagT (ksB key) ((⟨#[1]⟩ : ByteArray) ++ fixed) := append_empty _
  rw [e, show (16 : Int).toNat = (tagT (ksB key) ((⟨#[1]⟩ : ByteArray) ++ fixed)).size from hz.symm, ext_all]
theorem awake12 : Ev (fun k => clavigerlaw12_awake.f k) true := by
  unfold clavigerlaw12_awake.f
  have ok : okN (⟨#[48, 49, 50, 51, 52, 53, 54, 55, 56, 57, 97, 98, 99, 100, 101, 102]⟩ : ByteArray).size := .inl rfl
  have h1 := kctr_c (⟨#[48, 49, 50, 51, 52, 53, 54, 55, 56, 57, 97, 98, 99, 100, 101, 102]⟩ : ByteArray) (⟨#[120]⟩ : ByteArray) (by decide) 16
  rw [ctr_one ok, show (⟨#[1]⟩ : ByteArray) ++ (⟨#[120]⟩ : ByteArray) = ⟨#[1, 120]⟩ by decide +kernel] at h1
  have h2 := rtag_c (⟨#[48, 49, 50, 51, 52, 53, 54, 55, 56, 57, 97, 98, 99, 100, 101, 102]⟩ : ByteArray) (⟨#[1, 120]⟩ : ByteArray) (by decide)
  unfold tagX at h2
  rw [if_pos ok] at h2
  generalize tagT (ksB (⟨#[48, 49, 50, 51, 52, 53, 54, 55, 56, 57, 97, 98, 99, 100, 101, 102]⟩ : ByteArray)) (⟨#[1, 120]⟩ : ByteArray) = z at h1 h2
  refine evb h1 (evb h2 (evp rfl (evp rfl (evs (krnd_c 17) (evp (by decide +kernel) (evs (kfix_c _ _ _ (by decide) (by decide) (by decide)) ?_))))))
  · rw [show ((fixX (⟨#[97]⟩ : ByteArray) (⟨#[98]⟩ : ByteArray) 128).toList == ([97, 0, 98, 0, 0, 0, 128] : List UInt8)) = true by decide +kernel]
    exact Ev.now _
theorem KdfTells : clavigerlaw12_KdfTells.Pure := by
  intro key fixed ctx n _ _ _ hn
  refine Ev.rounds (?_ : Ev _ true)
  obtain ⟨_, hn2⟩ := of_i64 hn
  have skip : ∀ x : Bool, x = true → Ev (fun k => clavigerlaw12_KdfTells.j0 k key fixed ctx n x) true := fun x hx => by
    subst hx
    exact Ev.step (f := fun k => (kdf_Rounds.f n).bind fun t1 => ((clavigerref12_Rounds.f k n).bind fun t2 => (if t1 = t2 then ((clavigerlaw12_awake.f k).bind fun t3 => (some t3)) else (some false)))) (fun k => by simp only [clavigerlaw12_KdfTells.j0]; rw [if_pos True.intro]) (evs (krnd_c n) (evb (rrnd_c n) (evp rfl (evb awake12 (Ev.now _)))))
  unfold clavigerlaw12_KdfTells.f
  by_cases h : (key.size : Int) > 100
  · exact evp h (skip true rfl)
  · refine evn h ?_
    by_cases h' : (fixed.size : Int) > 100
    · exact evp h' (skip true rfl)
    · refine evn h' ?_
      by_cases h'' : (ctx.size : Int) > 100
      · exact evp h'' (skip true rfl)
      · refine evn h'' ?_
        have hf : fixed.size < 100000 := by omega
        have hc : ctx.size < 100000 := by omega
        have go : Ev (fun k => clavigerlaw12_KdfTells.j0 k key fixed ctx n false) true := by
          refine Ev.step (f := fun k => (kdf_Counter.f k key fixed n).bind fun bt4 => ((clavigerref12_Counter.f k key fixed n).bind fun bt5 => (if bt4.1.toList = bt5.1.toList then (if bt4.2 = bt5.2 then ((kdf_Rounds.f n).bind fun t6 => ((clavigerref12_Rounds.f k n).bind fun t7 => (if t6 = t7 then ((kdf_Fixed.f fixed ctx n).bind fun t8 => ((clavigerref12_Fixed.f k fixed ctx n).bind fun t9 => (if t8.toList = t9.toList then ((clavigerlaw12_awake.f k).bind fun t10 => (some t10)) else (some false)))) else (some false)))) else (some false)) else (some false)))) (fun k => by simp only [clavigerlaw12_KdfTells.j0]; rw [if_neg (by simp)]) ?_
          exact evb (kctr_c key fixed hf n) (evb (rctr_c key fixed hf n) (evp rfl (evp rfl (evs (krnd_c n) (evb (rrnd_c n) (evp rfl (evs (kfix_c _ _ _ hf hc hn2) (evb (rfix_c _ _ _ hf hc hn2) (evp rfl (evb awake12 (Ev.now _)))))))))))
        by_cases h3 : n > 100
        · refine evp h3 ?_
          by_cases h4 : n ≤ 4080
          · exact skip _ (decide_eq_true h4)
          · rw [decide_eq_false h4]; exact go
        · exact evn h3 go
theorem ctr_pre {key fixed : ByteArray} (ok : okN key.size) {n m : Nat} (h1 : 1 ≤ n) (h2 : n + m ≤ 4080) : ((ctrX key fixed ((n + m : Nat) : Int)).1.extract 0 n) = (ctrX key fixed (n : Int)).1 ∧ (ctrX key fixed (n : Int)).1.size = n ∧ (ctrX key fixed (n : Int)).2 = 0 := by
  have hk := (ks_facts ok).2.1
  have r (q : Nat) (hq : 1 ≤ q) (hq2 : q ≤ 4080) : ctrX key fixed (q : Int) = ((catB (kTs (ksB key) fixed ((q + 15) / 16))).extract 0 q, 0) := by
    have e : rndK (q : Int) = (q + 15) / 16 := by unfold rndK; rw [if_neg (by omega), if_neg (by omega), Int.toNat_natCast]
    unfold ctrX
    rw [if_pos ok, e, if_neg (by omega), Int.toNat_natCast]
  have z (q : Nat) : (catB (kTs (ksB key) fixed q)).size = 16 * q := kTs_size hk fixed q
  rw [r n h1 (by omega), r (n + m) (by omega) h2]
  refine ⟨?_, by rw [ByteArray.size_extract, z]; omega, rfl⟩
  have e : kTs (ksB key) fixed ((n + m + 15) / 16) = kTs (ksB key) fixed ((n + 15) / 16) ++ (List.range ((n + m + 15) / 16 - (n + 15) / 16)).map fun i => kT (ksB key) fixed ((n + 15) / 16 + i) := by
    have hq : (n + m + 15) / 16 = (n + 15) / 16 + ((n + m + 15) / 16 - (n + 15) / 16) := by omega
    conv => lhs; rw [hq]
    unfold kTs
    rw [List.range_add, List.map_append, List.map_map]
    rfl
  show ((catB (kTs (ksB key) fixed ((n + m + 15) / 16))).extract 0 (n + m)).extract 0 n = _
  have hz := z ((n + 15) / 16)
  rw [e, cat_app, extract_nb, extract_nb, extract_nb, nb_mkB (isB_drop (isB_take (isB_nb _) _) _), nb_append, List.drop_zero, List.drop_zero, List.drop_zero, List.take_take, Nat.min_eq_left (by omega), List.take_append_of_le_length (by rw [nb_length]; omega)]
theorem KdfBegins : clavigerlaw12_KdfBegins.Pure := by
  intro key fixed a b _ _ ha hb
  refine Ev.rounds (?_ : Ev _ true)
  obtain ⟨n, hn, rfl⟩ := of_byte ha
  obtain ⟨m, hm, rfl⟩ := of_byte hb
  have aw : ∀ x : Bool, x = true → Ev (fun k => clavigerlaw12_KdfBegins.j0 k key fixed (n : Int) (m : Int) x) true := fun x hx => by
    subst hx
    exact Ev.step (f := fun k => (clavigerlaw12_awake.f k).bind fun t => some t) (fun k => by simp only [clavigerlaw12_KdfBegins.j0]; rw [if_pos True.intro]) (evb awake12 (Ev.now _))
  unfold clavigerlaw12_KdfBegins.f
  by_cases h : (key.size : Int) > 100
  · exact evp h (aw true rfl)
  · refine evn h ?_
    by_cases h' : (fixed.size : Int) > 100
    · exact aw _ (decide_eq_true h')
    · rw [decide_eq_false h']
      have hf : fixed.size < 100000 := by omega
      have w1 : wrap64 (n : Int) = (n : Int) := by unfold wrap64; omega
      have w2 : wrap64 (wrap64 (n : Int) + wrap64 (m : Int)) = ((n + m : Nat) : Int) := by unfold wrap64; omega
      refine Ev.step (f := fun k => (kdf_Counter.f k key fixed (n : Int)).bind fun bt2 => ((kdf_Counter.f k key fixed ((n + m : Nat) : Int)).bind fun bt3 => (if bt2.2 = 0 then (if bt3.2 = 0 then (if (bt2.1.size : Int) = (n : Int) then (if (bt3.1.size : Int) = ((n + m : Nat) : Int) then (if 0 ≤ (bt2.1.size : Int) then (if (bt2.1.size : Int) ≤ (bt3.1.size : Int) then (if (bt3.1.extract 0 ((bt2.1.size : Int) : Int).toNat).toList = bt2.1.toList then ((clavigerlaw12_awake.f k).bind fun t4 => (some t4)) else (some false)) else (none)) else (none)) else (some false)) else (some false)) else (some false)) else (if bt2.1.toList = ([] : List UInt8) then ((clavigerlaw12_awake.f k).bind fun t5 => (some t5)) else (some false))))) (fun k => by simp only [clavigerlaw12_KdfBegins.j0]; rw [if_neg (by simp), w2, w1]) ?_
      refine evb (kctr_c key fixed hf (n : Int)) (evb (kctr_c key fixed hf ((n + m : Nat) : Int)) ?_)
      have bad : ∀ e : Int, e ≠ 0 → ctrX key fixed (n : Int) = (⟨#[]⟩, e) → Ev (fun k => if (ctrX key fixed (n : Int)).2 = 0 then (if (ctrX key fixed ((n + m : Nat) : Int)).2 = 0 then (if ((ctrX key fixed (n : Int)).1.size : Int) = (n : Int) then (if ((ctrX key fixed ((n + m : Nat) : Int)).1.size : Int) = ((n + m : Nat) : Int) then (if 0 ≤ ((ctrX key fixed (n : Int)).1.size : Int) then (if ((ctrX key fixed (n : Int)).1.size : Int) ≤ ((ctrX key fixed ((n + m : Nat) : Int)).1.size : Int) then (if ((ctrX key fixed ((n + m : Nat) : Int)).1.extract 0 (((ctrX key fixed (n : Int)).1.size : Int) : Int).toNat).toList = (ctrX key fixed (n : Int)).1.toList then ((clavigerlaw12_awake.f k).bind fun t4 => (some t4)) else (some false)) else (none)) else (none)) else (some false)) else (some false)) else (some false)) else (if (ctrX key fixed (n : Int)).1.toList = ([] : List UInt8) then ((clavigerlaw12_awake.f k).bind fun t5 => (some t5)) else (some false))) true := fun e he hx => by
        rw [hx]
        exact evn he (evp nil_list (evb awake12 (Ev.now _)))
      by_cases ok : okN key.size
      · by_cases h1 : 1 ≤ n
        · obtain ⟨p1, p2, p3⟩ := ctr_pre (fixed := fixed) ok h1 (show n + m ≤ 4080 by omega)
          obtain ⟨_, q2, q3⟩ := ctr_pre (fixed := fixed) (n := n + m) (m := 0) ok (by omega) (by omega)
          refine evp p3 (evp q3 (evp (by rw [p2]) (evp (by rw [q2]) (evp (by omega) (evp (by rw [p2, q2]; omega) (evp ?_ (evb awake12 (Ev.now _))))))))
          rw [p2, Int.toNat_natCast, p1]
        · refine bad 4 (by decide) ?_
          have : rndK (n : Int) = 0 := by unfold rndK; rw [if_pos (by omega)]
          unfold ctrX
          rw [if_pos ok, if_pos this]
      · refine bad 2 (by decide) ?_
        unfold ctrX
        rw [if_neg ok]
end Go.Proofs.Ytokkhnjedmlbhaa.M
