-- several texts in one (by the session's program shake.py)
import Derived.Test.YtokkhnjedmlbhaaZCbcP
import Derived.Test.YtokkhnjedmlbhaaZPrL10CbcBack
import Derived.Test.YtokkhnjedmlbhaaZPrL10awake
import Derived.Test.YtokkhnjedmlbhaaZPrg01x
import Derived.Test.YtokkhnjedmlbhaaRows
import Derived.JoinedOf
import Derived.KernelRfl
section
namespace Go.Proofs.Ytokkhnjedmlbhaa.M
open Go.RowKit Go.Proofs.Ytokkhnjedmlbhaa.Pr Go.Proofs.YtokkhnjedmlbhaaW.PrintWords Go.Proofs.YtokkhnjedmlbhaaW.PrintLast Go.Proofs.YtokkhnjedmlbhaaW.PrintMore Go.Proofs.YtokkhnjedmlbhaaGf
set_option linter.unusedSimpArgs false
theorem xor_zero (a : ByteArray) (h : a.size = 16) : xorT a (mkB [0, 0, 0, 0, 0, 0, 0, 0, 0, 0, 0, 0, 0, 0, 0, 0]) = a := by
  rw [xorT_16 h (by rw [mkB_size]; rfl)]
  conv => rhs; rw [← T_of a h]
  refine T_congr (fun i hi => ?_)
  have : bb (mkB [0, 0, 0, 0, 0, 0, 0, 0, 0, 0, 0, 0, 0, 0, 0, 0]) i = 0 := by
    rw [bb_mkB (show isB [0, 0, 0, 0, 0, 0, 0, 0, 0, 0, 0, 0, 0, 0, 0, 0] from fun x hx => by simp at hx; omega)]
    show (List.replicate 16 0).getD i 0 = 0
    rw [List.getD_eq_getElem?_getD, List.getElem?_replicate, if_pos hi]
    rfl
  rw [this, Nat.xor_zero]
theorem awake10 : Ev (fun k => clavigerlaw10_awake.f k) true := by
  unfold clavigerlaw10_awake.f
  generalize hK : (⟨#[48, 49, 50, 51, 52, 53, 54, 55, 56, 57, 97, 98, 99, 100, 101, 102]⟩ : ByteArray) = K
  generalize hP : (⟨#[102, 101, 100, 99, 98, 97, 57, 56, 55, 54, 53, 52, 51, 50, 49, 48]⟩ : ByteArray) = P
  have ok : okN K.size := by rw [← hK]; exact .inl rfl
  have hs : P.size = 16 := by rw [← hP]; rfl
  have h1 : cbcE K (mkB [0, 0, 0, 0, 0, 0, 0, 0, 0, 0, 0, 0, 0, 0, 0, 0]) P = (encT (ksB K) P, 0) := by
    have hr : rdyE K (mkB [0, 0, 0, 0, 0, 0, 0, 0, 0, 0, 0, 0, 0, 0, 0, 0]) P = 0 := by
      unfold rdyE; rw [if_pos ok, if_pos (by rw [mkB_size]; rfl), if_pos (by rw [hs])]
    unfold cbcE
    rw [if_pos hr, hs]
    have hx : P.extract (16 * 0) (16 * 0 + 16) = P := by conv => rhs; rw [← ext_all P, hs]
    show ((⟨#[]⟩ : ByteArray) ++ encT (ksB K) (xorT (P.extract (16 * 0) (16 * 0 + 16)) _), (0 : Int)) = _
    rw [hx, empty_append']
    congr 2
    exact xor_zero P hs
  have h2 := renc_c K P
  rw [encX_ok ok hs] at h2
  refine evs ((cenc_x K (mkB [0, 0, 0, 0, 0, 0, 0, 0, 0, 0, 0, 0, 0, 0, 0, 0]) P (by omega)).trans (congrArg some h1)) (evb h2 (evp rfl ?_))
  exact Ev.now _
theorem CbcTells : clavigerlaw10_CbcTells.Pure := by
  intro key iv s _ _ _
  refine Ev.rounds (?_ : Ev _ true)
  have aw : ∀ b : Bool, b = true → Ev (fun n => clavigerlaw10_CbcTells.j0 n key iv s b) true := fun b hb => by
    subst hb
    exact Ev.step (f := fun n => (clavigerlaw10_awake.f n).bind fun t => some t) (fun n => by simp only [clavigerlaw10_CbcTells.j0]; rw [if_pos True.intro]) (evb awake10 (Ev.now _))
  unfold clavigerlaw10_CbcTells.f
  by_cases h : (key.size : Int) > 100
  · exact evp h (aw true rfl)
  · refine evn h ?_
    by_cases h' : (iv.size : Int) > 100
    · exact evp h' (aw true rfl)
    · refine evn h' ?_
      by_cases h'' : (s.size : Int) > 128
      · exact aw _ (decide_eq_true h'')
      · rw [decide_eq_false h'']
        refine Ev.step (f := fun k => (cbc_Encrypt.f key iv s).bind fun bt578 => ((clavigerref10_Encrypt.f k key iv s).bind fun bt580 => ((cbc_Decrypt.f key iv s).bind fun bt582 => ((clavigerref10_Decrypt.f k key iv s).bind fun bt584 => (if bt578.1.toList = bt580.1.toList then (if bt578.2 = bt580.2 then (if bt582.1.toList = bt584.1.toList then (if bt582.2 = bt584.2 then ((cbc_Last.f iv s).bind fun t586 => ((clavigerref10_Last.f iv s).bind fun t587 => (if t586.toList = t587.toList then ((clavigerlaw10_awake.f k).bind fun t588 => (some t588)) else (some false)))) else (some false)) else (some false)) else (some false)) else (some false)))))) (fun n => by simp only [clavigerlaw10_CbcTells.j0]; rw [if_neg (by simp)]) ?_
        obtain ⟨l, hl⟩ : ∃ l, cbc_Last.f iv s = some l := by
          unfold cbc_Last.f
          by_cases h1 : (s.size : Int) < 16
          · exact ⟨_, if_pos h1⟩
          · rw [if_neg h1, wrap_id (by omega) (by omega), if_pos (by omega), if_pos (by omega)]; exact ⟨_, rfl⟩
        have hl2 : clavigerref10_Last.f iv s = some l := hl
        exact evs (cenc_x _ _ _ (by omega)) (evb (rcenc_c _ _ _ (by omega)) (evs (cdec_x _ _ _ (by omega)) (evb (rcdec_c _ _ _ (by omega)) (evp rfl (evp rfl (evp rfl (evp rfl (evs hl (evs hl2 (evp rfl (evb awake10 (Ev.now _))))))))))))
theorem cut_d {z m : Nat} (h : z = 16 * m) (hm : m < 100) : wrap64 (wrap64 ((z : Int) / 16) + 1) = ((m + 1 : Nat) : Int) := by
  have : (z : Int) / 16 = (m : Int) := by omega
  rw [this]
  unfold wrap64
  omega
theorem cut_w {n m t : Nat} (hn : n < 256) (hm : m < 100) (ht : t = n % (m + 1)) : wrap64 (16 * (Int.tmod (wrap64 (n : Int)) ((m + 1 : Nat) : Int))) = ((16 * t : Nat) : Int) := by
  have htm : t < m + 1 := by rw [ht]; exact Nat.mod_lt n (by omega)
  have e : Int.tmod (n : Int) ((m + 1 : Nat) : Int) = (t : Int) := by rw [Int.tmod_eq_emod_of_nonneg (Int.natCast_nonneg n), ← Int.natCast_emod, ← ht]
  clear ht
  rw [show wrap64 (n : Int) = (n : Int) by unfold wrap64; omega, e]
  unfold wrap64
  omega
theorem ce_x {key : ByteArray} (ok : okN key.size) {v x : ByteArray} {n : Nat} (hv : v.size = 16) (hx : x.size = 16 * n) : cbcE key v x = (outJ (ksB key) x v n, 0) := by
  have h0 : x.size % 16 = 0 := by omega
  have h1 : x.size / 16 = n := by omega
  unfold cbcE
  rw [if_pos (by unfold rdyE; rw [if_pos ok, if_pos hv, if_pos h0]), h1]
theorem cd_x {key : ByteArray} (ok : okN key.size) {v x : ByteArray} {n : Nat} (hv : v.size = 16) (hx : x.size = 16 * n) : cbcD key v x = (xorT (manyB (ksB key) true n x) (v ++ x), 0) := by
  have h0 : x.size % 16 = 0 := by omega
  have h1 : x.size / 16 = n := by omega
  unfold cbcD
  rw [if_pos (by unfold rdyE; rw [if_pos ok, if_pos hv, if_pos h0]), h1]
theorem back_facts {key iv s : ByteArray} (ok : okN key.size) (hi : iv.size = 16) {m t : Nat} (hm : s.size = 16 * m) (hm2 : m < 100) (htm : t ≤ m) :
    cbcE key iv s = (outJ (ksB key) s iv m, 0) ∧ (outJ (ksB key) s iv m).size = 16 * m ∧ cbcD key iv (outJ (ksB key) s iv m) = (s, 0) ∧ (s.extract 0 (16 * t)).size = 16 * t ∧ (s.extract (16 * t) s.size).size = 16 * (m - t) ∧
    cbcE key iv (s.extract 0 (16 * t)) = (outJ (ksB key) (s.extract 0 (16 * t)) iv t, 0) ∧ cbc_Last.f iv (outJ (ksB key) (s.extract 0 (16 * t)) iv t) = some (ivJ (ksB key) s iv t) ∧
    cbcE key (ivJ (ksB key) s iv t) (s.extract (16 * t) s.size) = (outJ (ksB key) (s.extract (16 * t) s.size) (ivJ (ksB key) s iv t) (m - t), 0) ∧
    (outJ (ksB key) (s.extract 0 (16 * t)) iv t).size = 16 * t ∧ (outJ (ksB key) (s.extract (16 * t) s.size) (ivJ (ksB key) s iv t) (m - t)).size = 16 * (m - t) := by
  have hk := (ks_facts ok).2.1
  have hle : 16 * t ≤ s.size := by omega
  have hz := outJ_size hk (s := s) hi m (Nat.le_of_eq hm.symm)
  have s1 : (s.extract 0 (16 * t)).size = 16 * t := by rw [ByteArray.size_extract]; omega
  have s2 : (s.extract (16 * t) s.size).size = 16 * (m - t) := by rw [ByteArray.size_extract]; omega
  have hv := ivJ_size hk (s := s) hi t hle
  have hx := ivJ_pre (ksB key) s iv (16 * t) hle t (Nat.le_refl _)
  have hl := last_t hk (s := s.extract 0 (16 * t)) hi t (Nat.le_of_eq s1.symm) (by omega)
  rw [hx] at hl
  exact ⟨ce_x ok hi hm, hz, (cd_x ok hi hz).trans (Prod.ext (cbc_back hk hi hm) rfl), s1, s2, ce_x ok hi s1, hl, ce_x ok hv s2, outJ_size hk (s := s.extract 0 (16 * t)) hi t (Nat.le_of_eq s1.symm), outJ_size hk (s := s.extract (16 * t) s.size) hv (m - t) (Nat.le_of_eq s2.symm)⟩
set_option maxHeartbeats 1000000 in
theorem CbcBack : clavigerlaw10_CbcBack.Pure := by
  intro key iv s c _ _ _ hc
  refine Ev.rounds (?_ : Ev _ true)
  obtain ⟨n, hn, rfl⟩ := of_byte hc
  have aw : ∀ b : Bool, b = true → Ev (fun k => clavigerlaw10_CbcBack.j0 k key iv s (n : Int) b) true := fun b hb => by
    subst hb
    exact Ev.step (f := fun n => (clavigerlaw10_awake.f n).bind fun t => some t) (fun n => by simp only [clavigerlaw10_CbcBack.j0]; rw [if_pos True.intro]) (evb awake10 (Ev.now _))
  unfold clavigerlaw10_CbcBack.f
  by_cases h : (key.size : Int) > 100
  · exact evp h (aw true rfl)
  · refine evn h ?_
    by_cases h' : (iv.size : Int) > 100
    · exact evp h' (aw true rfl)
    · refine evn h' ?_
      by_cases h'' : (s.size : Int) > 128
      · exact aw _ (decide_eq_true h'')
      · rw [decide_eq_false h'']
        by_cases hr : rdyE key iv s = 0
        · obtain ⟨ok, hi, hs⟩ := rdy_ok hr
          obtain ⟨m, hm⟩ : ∃ m, s.size = 16 * m := ⟨s.size / 16, by omega⟩
          have hm2 : m < 100 := by omega
          obtain ⟨t, ht⟩ : ∃ t, t = n % (m + 1) := ⟨_, rfl⟩
          have htm : t ≤ m := by rw [ht]; exact Nat.le_of_lt_succ (Nat.mod_lt n (Nat.succ_pos m))
          have w1 := cut_d hm hm2
          have w2 := cut_w hn hm2 ht
          have hsz : s.size < 1000000 := by omega
          clear ht aw hr hs h h' h'' hn
          obtain ⟨e1, hz, e2, s1, s2, e3, hl, e4, hz3, hz4⟩ := back_facts ok hi hm hm2 htm
          have b1 : (s.extract 0 (16 * t)).size < 1000000 := by omega
          have b2 : (s.extract (16 * t) s.size).size < 1000000 := by omega
          have b3 : (outJ (ksB key) s iv m).size < 1000000 := by omega
          have b4 : (outJ (ksB key) (s.extract 0 (16 * t)) iv t).size + (outJ (ksB key) (s.extract (16 * t) s.size) (ivJ (ksB key) s iv t) (m - t)).size ≤ 9223372036854775807 := by omega
          refine Ev.step (f := fun k => (cbc_Encrypt.f key iv s).bind fun bt590 => (if bt590.2 = 0 then ((cbc_Decrypt.f key iv bt590.1).bind fun bt595 => ((cbc_Encrypt.f key iv (s.extract 0 (16 * t))).bind fun bt597 => ((cbc_Last.f iv bt597.1).bind fun t599 => ((cbc_Encrypt.f key t599 (s.extract (16 * t) s.size)).bind fun bt600 => (if bt595.1.toList = s.toList then (if bt595.2 = 0 then (if bt597.2 = 0 then (if bt600.2 = 0 then (if bt597.1.size + bt600.1.size ≤ 9223372036854775807 then (if (bt597.1 ++ bt600.1).toList = bt590.1.toList then ((clavigerlaw10_awake.f k).bind fun t602 => (some t602)) else (some false)) else (none)) else (some false)) else (some false)) else (some false)) else (some false)))))) else ((cbc_Decrypt.f key iv s).bind fun bt592 => (if bt590.2 = bt592.2 then (if bt590.1.toList = ([] : List UInt8) then ((clavigerlaw10_awake.f k).bind fun t594 => (some t594)) else (some false)) else (some false))))) (fun k => ?_) ?_
          · simp only [clavigerlaw10_CbcBack.j0]
            rw [if_neg (by simp)]
            refine congrArg (Option.bind _) (funext fun q => ?_)
            by_cases hq : q.2 = 0
            · rw [if_pos hq, if_pos hq]
              refine congrArg (Option.bind _) (funext fun q2 => ?_)
              rw [w1, w2, if_neg (by omega), if_pos (Int.natCast_nonneg _), if_pos (by omega), Int.toNat_natCast]
            · rw [if_neg hq, if_neg hq]
          · exact evs ((cenc_x _ _ _ hsz).trans (congrArg some e1)) (evp rfl (evs ((cdec_x _ _ _ b3).trans (congrArg some e2)) (evs ((cenc_x _ _ _ b1).trans (congrArg some e3)) (evs hl (evs ((cenc_x _ _ _ b2).trans (congrArg some e4)) (evp rfl (evp rfl (evp rfl (evp rfl (evp b4 (evp ((tl_iff _ _).2 (out_two hm htm)) (evb awake10 (Ev.now _)))))))))))))
        · have e1 : cbcE key iv s = (⟨#[]⟩, rdyE key iv s) := by unfold cbcE; rw [if_neg hr]
          have e2 : cbcD key iv s = (⟨#[]⟩, rdyE key iv s) := by unfold cbcD; rw [if_neg hr]
          refine Ev.step (f := fun k => (cbc_Decrypt.f key iv s).bind fun bt592 => (if rdyE key iv s = bt592.2 then (if (⟨#[]⟩ : ByteArray).toList = ([] : List UInt8) then ((clavigerlaw10_awake.f k).bind fun t594 => (some t594)) else (some false)) else (some false))) (fun k => ?_) ?_
          · simp only [clavigerlaw10_CbcBack.j0]
            rw [if_neg (by simp), cenc_x _ _ _ (by omega), e1]
            simp only [Option.bind_some]
            rw [if_neg hr]
          · exact evs ((cdec_x _ _ _ (by omega)).trans (congrArg some e2)) (evp rfl (evp nil_list (evb awake10 (Ev.now _))))
end Go.Proofs.Ytokkhnjedmlbhaa.M
end
section
namespace Go.Proofs.Ytokkhnjedmlbhaa.RowAid
set_option maxRecDepth 100000
def c (n : Nat) : Char := Char.ofNat n
def L : List Char := [c 104, c 97, c 114, c 110, c 101, c 115, c 115, c 32, c 50, c 53, c 55, c 48, c 97, c 52, c 51, c 49, c 101, c 53, c 52, c 48, c 48, c 98, c 97, c 54, c 51, c 101, c 54, c 102, c 101, c 53, c 55, c 55, c 55, c 56, c 102, c 97, c 52, c 56, c 50, c 99, c 57, c 102, c 56, c 101, c 100, c 98, c 57, c 99, c 53, c 50, c 50, c 51, c 53, c 48, c 97, c 101, c 101, c 53, c 51, c 48, c 98, c 102, c 54, c 97, c 50, c 53, c 49, c 99, c 57, c 50, c 99, c 52, c 32, c 99, c 117, c 116, c 32, c 97, c 116, c 32, c 99, c 108, c 97, c 118, c 105, c 103, c 101, c 114, c 47, c 99, c 108, c 97, c 118, c 105, c 103, c 101, c 114, c 108, c 97, c 119, c 48, c 53, c 46, c 70, c 105, c 101, c 108, c 100, c 84, c 101, c 108, c 108, c 115, c 32, c 99, c 108, c 97, c 118, c 105, c 103, c 101, c 114, c 47, c 99, c 108, c 97, c 118, c 105, c 103, c 101, c 114, c 108, c 97, c 119, c 48, c 53, c 46, c 70, c 105, c 101, c 108, c 100, c 76, c 97, c 119, c 115, c 32, c 99, c 108, c 97, c 118, c 105, c 103, c 101, c 114, c 47, c 99, c 108, c 97, c 118, c 105, c 103, c 101, c 114, c 108, c 97, c 119, c 48, c 53, c 46, c 70, c 105, c 101, c 108, c 100, c 68, c 111, c 116, c 115, c 32, c 99, c 108, c 97, c 118, c 105, c 103, c 101, c 114, c 47, c 99, c 108, c 97, c 118, c 105, c 103, c 101, c 114, c 108, c 97, c 119, c 48, c 55, c 46, c 82, c 111, c 117, c 110, c 100, c 65, c 100, c 100, c 115, c 32, c 99, c 108, c 97, c 118, c 105, c 103, c 101, c 114, c 47, c 99, c 108, c 97, c 118, c 105, c 103, c 101, c 114, c 108, c 97, c 119, c 48, c 54, c 46, c 83, c 98, c 111, c 120, c 66, c 121, c 32, c 99, c 108, c 97, c 118, c 105, c 103, c 101, c 114, c 47, c 99, c 108, c 97, c 118, c 105, c 103, c 101, c 114, c 108, c 97, c 119, c 51, c 56, c 46, c 79, c 112, c 101, c 110, c 66, c 97, c 99, c 107, c 32, c 99, c 108, c 97, c 118, c 105, c 103, c 101, c 114, c 47, c 99, c 108, c 97, c 118, c 105, c 103, c 101, c 114, c 108, c 97, c 119, c 48, c 54, c 46, c 83, c 98, c 111, c 120, c 84, c 101, c 108, c 108, c 115, c 32, c 99, c 108, c 97, c 118, c 105, c 103, c 101, c 114, c 47, c 99, c 108, c 97, c 118, c 105, c 103, c 101, c 114, c 108, c 97, c 119, c 48, c 54, c 46, c 83, c 98, c 111, c 120, c 79, c 110, c 99, c 101, c 32, c 99, c 108, c 97, c 118, c 105, c 103, c 101, c 114, c 47, c 99, c 108, c 97, c 118, c 105, c 103, c 101, c 114, c 108, c 97, c 119, c 51, c 56, c 46, c 79, c 112, c 101, c 110, c 66, c 105, c 110, c 100, c 115, c 32, c 99, c 108, c 97, c 118, c 105, c 103, c 101, c 114, c 47, c 99, c 108, c 97, c 118, c 105, c 103, c 101, c 114, c 108, c 97, c 119, c 48, c 55, c 46, c 82, c 111, c 117, c 110, c 100, c 84, c 101, c 108, c 108, c 115, c 32, c 99, c 108, c 97, c 118, c 105, c 103, c 101, c 114, c 47, c 99, c 108, c 97, c 118, c 105, c 103, c 101, c 114, c 108, c 97, c 119, c 48, c 55, c 46, c 82, c 111, c 117, c 110, c 100, c 66, c 97, c 99, c 107, c 32, c 99, c 108, c 97, c 118, c 105, c 103, c 101, c 114, c 47, c 99, c 108, c 97, c 118, c 105, c 103, c 101, c 114, c 108, c 97, c 119, c 48, c 56, c 46, c 83, c 99, c 104, c 101, c 100, c 66, c 101, c 103, c 105, c 110, c 115, c 32, c 99, c 108, c 97, c 118, c 105, c 103, c 101, c 114, c 47, c 99, c 108, c 97, c 118, c 105, c 103, c 101, c 114, c 108, c 97, c 119, c 48, c 56, c 46, c 83, c 99, c 104, c 101, c 100, c 84, c 101, c 108, c 108, c 115, c 32, c 99, c 108, c 97, c 118, c 105, c 103, c 101, c 114, c 47, c 99, c 108, c 97, c 118, c 105, c 103, c 101, c 114, c 108, c 97, c 119, c 48, c 57, c 46, c 65, c 101, c 115, c 84, c 101, c 108, c 108, c 115, c 32, c 99, c 108, c 97, c 118, c 105, c 103, c 101, c 114, c 47, c 99, c 108, c 97, c 118, c 105, c 103, c 101, c 114, c 108, c 97, c 119, c 48, c 57, c 46, c 65, c 101, c 115, c 66, c 97, c 99, c 107, c 32, c 99, c 108, c 97, c 118, c 105, c 103, c 101, c 114, c 47, c 99, c 108, c 97, c 118, c 105, c 103, c 101, c 114, c 108, c 97, c 119, c 48, c 57, c 46, c 65, c 101, c 115, c 77, c 97, c 110, c 121, c 32, c 99, c 108, c 97, c 118, c 105, c 103, c 101, c 114, c 47, c 99, c 108, c 97, c 118, c 105, c 103, c 101, c 114, c 108, c 97, c 119, c 49, c 49, c 46, c 67, c 109, c 97, c 99, c 68, c 111, c 117, c 98, c 108, c 101, c 115, c 32, c 99, c 108, c 97, c 118, c 105, c 103, c 101, c 114, c 47, c 99, c 108, c 97, c 118, c 105, c 103, c 101, c 114, c 108, c 97, c 119, c 49, c 49, c 46, c 67, c 109, c 97, c 99, c 84, c 101, c 108, c 108, c 115, c 32, c 99, c 108, c 97, c 118, c 105, c 103, c 101, c 114, c 47, c 99, c 108, c 97, c 118, c 105, c 103, c 101, c 114, c 108, c 97, c 119, c 49, c 48, c 46, c 67, c 98, c 99, c 84, c 101, c 108, c 108, c 115, c 32, c 99, c 108, c 97, c 118, c 105, c 103, c 101, c 114, c 47, c 99, c 108, c 97, c 118, c 105, c 103, c 101, c 114, c 108, c 97, c 119, c 49, c 48, c 46, c 67, c 98, c 99, c 66, c 97, c 99, c 107, c 32, c 99, c 108, c 97, c 118, c 105, c 103, c 101, c 114, c 47, c 99, c 108, c 97, c 118, c 105, c 103, c 101, c 114, c 108, c 97, c 119, c 49, c 49, c 46, c 67, c 109, c 97, c 99, c 67, c 104, c 101, c 99, c 107, c 115, c 32, c 99, c 108, c 97, c 118, c 105, c 103, c 101, c 114, c 47, c 99, c 108, c 97, c 118, c 105, c 103, c 101, c 114, c 108, c 97, c 119, c 49, c 50, c 46, c 75, c 100, c 102, c 84, c 101, c 108, c 108, c 115, c 32, c 99, c 108, c 97, c 118, c 105, c 103, c 101, c 114, c 47, c 99, c 108, c 97, c 118, c 105, c 103, c 101, c 114, c 108, c 97, c 119, c 49, c 50, c 46, c 75, c 100, c 102, c 66, c 101, c 103, c 105, c 110, c 115, c 32, c 99, c 108, c 97, c 118, c 105, c 103, c 101, c 114, c 47, c 99, c 108, c 97, c 118, c 105, c 103, c 101, c 114, c 108, c 97, c 119, c 51, c 53, c 46, c 68, c 101, c 114, c 105, c 118, c 101, c 84, c 101, c 108, c 108, c 115, c 32, c 99, c 108, c 97, c 118, c 105, c 103, c 101, c 114, c 47, c 99, c 108, c 97, c 118, c 105, c 103, c 101, c 114, c 108, c 97, c 119, c 51, c 53, c 46, c 68, c 101, c 114, c 105, c 118, c 101, c 83, c 105, c 122, c 101, c 115, c 32, c 99, c 108, c 97, c 118, c 105, c 103, c 101, c 114, c 47, c 99, c 108, c 97, c 118, c 105, c 103, c 101, c 114, c 108, c 97, c 119, c 49, c 52, c 46, c 80, c 97, c 100, c 119, c 114, c 97, c 112, c 84, c 101, c 108, c 108, c 115, c 32, c 99, c 108, c 97, c 118, c 105, c 103, c 101, c 114, c 47, c 99, c 108, c 97, c 118, c 105, c 103, c 101, c 114, c 108, c 97, c 119, c 49, c 52, c 46, c 80, c 97, c 100, c 119, c 114, c 97, c 112, c 66, c 97, c 99, c 107, c 32, c 99, c 108, c 97, c 118, c 105, c 103, c 101, c 114, c 47, c 99, c 108, c 97, c 118, c 105, c 103, c 101, c 114, c 108, c 97, c 119, c 49, c 52, c 46, c 80, c 97, c 100, c 119, c 114, c 97, c 112, c 79, c 110, c 101, c 32, c 99, c 108, c 97, c 118, c 105, c 103, c 101, c 114, c 47, c 99, c 108, c 97, c 118, c 105, c 103, c 101, c 114, c 108, c 97, c 119, c 51, c 55, c 46, c 83, c 101, c 97, c 108, c 84, c 101, c 108, c 108, c 115, c 32, c 99, c 108, c 97, c 118, c 105, c 103, c 101, c 114, c 47, c 99, c 108, c 97, c 118, c 105, c 103, c 101, c 114, c 108, c 97, c 119, c 51, c 55, c 46, c 83, c 101, c 97, c 108, c 72, c 111, c 108, c 100, c 115, c 32, c 99, c 108, c 97, c 118, c 105, c 103, c 101, c 114, c 47, c 99, c 108, c 97, c 118, c 105, c 103, c 101, c 114, c 108, c 97, c 119, c 49, c 51, c 46, c 87, c 114, c 97, c 112, c 84, c 101, c 108, c 108, c 115, c 32, c 99, c 108, c 97, c 118, c 105, c 103, c 101, c 114, c 47, c 99, c 108, c 97, c 118, c 105, c 103, c 101, c 114, c 108, c 97, c 119, c 49, c 51, c 46, c 87, c 114, c 97, c 112, c 66, c 97, c 99, c 107, c 32, c 99, c 108, c 97, c 118, c 105, c 103, c 101, c 114, c 47, c 99, c 108, c 97, c 118, c 105, c 103, c 101, c 114, c 108, c 97, c 119, c 49, c 51, c 46, c 87, c 114, c 97, c 112, c 79, c 110, c 101, c 32, c 99, c 108, c 97, c 118, c 105, c 103, c 101, c 114, c 47, c 99, c 108, c 97, c 118, c 105, c 103, c 101, c 114, c 108, c 97, c 119, c 51, c 56, c 46, c 79, c 112, c 101, c 110, c 84, c 101, c 108, c 108, c 115]
def WL : List (List Char) := [[c 97, c 116], [c 99, c 108, c 97, c 118, c 105, c 103, c 101, c 114, c 47, c 99, c 108, c 97, c 118, c 105, c 103, c 101, c 114, c 108, c 97, c 119, c 48, c 53, c 46, c 70, c 105, c 101, c 108, c 100, c 84, c 101, c 108, c 108, c 115], [c 99, c 108, c 97, c 118, c 105, c 103, c 101, c 114, c 47, c 99, c 108, c 97, c 118, c 105, c 103, c 101, c 114, c 108, c 97, c 119, c 48, c 53, c 46, c 70, c 105, c 101, c 108, c 100, c 76, c 97, c 119, c 115], [c 99, c 108, c 97, c 118, c 105, c 103, c 101, c 114, c 47, c 99, c 108, c 97, c 118, c 105, c 103, c 101, c 114, c 108, c 97, c 119, c 48, c 53, c 46, c 70, c 105, c 101, c 108, c 100, c 68, c 111, c 116, c 115], [c 99, c 108, c 97, c 118, c 105, c 103, c 101, c 114, c 47, c 99, c 108, c 97, c 118, c 105, c 103, c 101, c 114, c 108, c 97, c 119, c 48, c 55, c 46, c 82, c 111, c 117, c 110, c 100, c 65, c 100, c 100, c 115], [c 99, c 108, c 97, c 118, c 105, c 103, c 101, c 114, c 47, c 99, c 108, c 97, c 118, c 105, c 103, c 101, c 114, c 108, c 97, c 119, c 48, c 54, c 46, c 83, c 98, c 111, c 120, c 66, c 121], [c 99, c 108, c 97, c 118, c 105, c 103, c 101, c 114, c 47, c 99, c 108, c 97, c 118, c 105, c 103, c 101, c 114, c 108, c 97, c 119, c 51, c 56, c 46, c 79, c 112, c 101, c 110, c 66, c 97, c 99, c 107], [c 99, c 108, c 97, c 118, c 105, c 103, c 101, c 114, c 47, c 99, c 108, c 97, c 118, c 105, c 103, c 101, c 114, c 108, c 97, c 119, c 48, c 54, c 46, c 83, c 98, c 111, c 120, c 84, c 101, c 108, c 108, c 115], [c 99, c 108, c 97, c 118, c 105, c 103, c 101, c 114, c 47, c 99, c 108, c 97, c 118, c 105, c 103, c 101, c 114, c 108, c 97, c 119, c 48, c 54, c 46, c 83, c 98, c 111, c 120, c 79, c 110, c 99, c 101], [c 99, c 108, c 97, c 118, c 105, c 103, c 101, c 114, c 47, c 99, c 108, c 97, c 118, c 105, c 103, c 101, c 114, c 108, c 97, c 119, c 51, c 56, c 46, c 79, c 112, c 101, c 110, c 66, c 105, c 110, c 100, c 115], [c 99, c 108, c 97, c 118, c 105, c 103, c 101, c 114, c 47, c 99, c 108, c 97, c 118, c 105, c 103, c 101, c 114, c 108, c 97, c 119, c 48, c 55, c 46, c 82, c 111, c 117, c 110, c 100, c 84, c 101, c 108, c 108, c 115], [c 99, c 108, c 97, c 118, c 105, c 103, c 101, c 114, c 47, c 99, c 108, c 97, c 118, c 105, c 103, c 101, c 114, c 108, c 97, c 119, c 48, c 55, c 46, c 82, c 111, c 117, c 110, c 100, c 66, c 97, c 99, c 107], [c 99, c 108, c 97, c 118, c 105, c 103, c 101, c 114, c 47, c 99, c 108, c 97, c 118, c 105, c 103, c 101, c 114, c 108, c 97, c 119, c 48, c 56, c 46, c 83, c 99, c 104, c 101, c 100, c 66, c 101, c 103, c 105, c 110, c 115], [c 99, c 108, c 97, c 118, c 105, c 103, c 101, c 114, c 47, c 99, c 108, c 97, c 118, c 105, c 103, c 101, c 114, c 108, c 97, c 119, c 48, c 56, c 46, c 83, c 99, c 104, c 101, c 100, c 84, c 101, c 108, c 108, c 115], [c 99, c 108, c 97, c 118, c 105, c 103, c 101, c 114, c 47, c 99, c 108, c 97, c 118, c 105, c 103, c 101, c 114, c 108, c 97, c 119, c 48, c 57, c 46, c 65, c 101, c 115, c 84, c 101, c 108, c 108, c 115], [c 99, c 108, c 97, c 118, c 105, c 103, c 101, c 114, c 47, c 99, c 108, c 97, c 118, c 105, c 103, c 101, c 114, c 108, c 97, c 119, c 48, c 57, c 46, c 65, c 101, c 115, c 66, c 97, c 99, c 107], [c 99, c 108, c 97, c 118, c 105, c 103, c 101, c 114, c 47, c 99, c 108, c 97, c 118, c 105, c 103, c 101, c 114, c 108, c 97, c 119, c 48, c 57, c 46, c 65, c 101, c 115, c 77, c 97, c 110, c 121], [c 99, c 108, c 97, c 118, c 105, c 103, c 101, c 114, c 47, c 99, c 108, c 97, c 118, c 105, c 103, c 101, c 114, c 108, c 97, c 119, c 49, c 49, c 46, c 67, c 109, c 97, c 99, c 68, c 111, c 117, c 98, c 108, c 101, c 115], [c 99, c 108, c 97, c 118, c 105, c 103, c 101, c 114, c 47, c 99, c 108, c 97, c 118, c 105, c 103, c 101, c 114, c 108, c 97, c 119, c 49, c 49, c 46, c 67, c 109, c 97, c 99, c 84, c 101, c 108, c 108, c 115], [c 99, c 108, c 97, c 118, c 105, c 103, c 101, c 114, c 47, c 99, c 108, c 97, c 118, c 105, c 103, c 101, c 114, c 108, c 97, c 119, c 49, c 48, c 46, c 67, c 98, c 99, c 84, c 101, c 108, c 108, c 115], [c 99, c 108, c 97, c 118, c 105, c 103, c 101, c 114, c 47, c 99, c 108, c 97, c 118, c 105, c 103, c 101, c 114, c 108, c 97, c 119, c 49, c 48, c 46, c 67, c 98, c 99, c 66, c 97, c 99, c 107], [c 99, c 108, c 97, c 118, c 105, c 103, c 101, c 114, c 47, c 99, c 108, c 97, c 118, c 105, c 103, c 101, c 114, c 108, c 97, c 119, c 49, c 49, c 46, c 67, c 109, c 97, c 99, c 67, c 104, c 101, c 99, c 107, c 115], [c 99, c 108, c 97, c 118, c 105, c 103, c 101, c 114, c 47, c 99, c 108, c 97, c 118, c 105, c 103, c 101, c 114, c 108, c 97, c 119, c 49, c 50, c 46, c 75, c 100, c 102, c 84, c 101, c 108, c 108, c 115], [c 99, c 108, c 97, c 118, c 105, c 103, c 101, c 114, c 47, c 99, c 108, c 97, c 118, c 105, c 103, c 101, c 114, c 108, c 97, c 119, c 49, c 50, c 46, c 75, c 100, c 102, c 66, c 101, c 103, c 105, c 110, c 115], [c 99, c 108, c 97, c 118, c 105, c 103, c 101, c 114, c 47, c 99, c 108, c 97, c 118, c 105, c 103, c 101, c 114, c 108, c 97, c 119, c 51, c 53, c 46, c 68, c 101, c 114, c 105, c 118, c 101, c 84, c 101, c 108, c 108, c 115], [c 99, c 108, c 97, c 118, c 105, c 103, c 101, c 114, c 47, c 99, c 108, c 97, c 118, c 105, c 103, c 101, c 114, c 108, c 97, c 119, c 51, c 53, c 46, c 68, c 101, c 114, c 105, c 118, c 101, c 83, c 105, c 122, c 101, c 115], [c 99, c 108, c 97, c 118, c 105, c 103, c 101, c 114, c 47, c 99, c 108, c 97, c 118, c 105, c 103, c 101, c 114, c 108, c 97, c 119, c 49, c 52, c 46, c 80, c 97, c 100, c 119, c 114, c 97, c 112, c 84, c 101, c 108, c 108, c 115], [c 99, c 108, c 97, c 118, c 105, c 103, c 101, c 114, c 47, c 99, c 108, c 97, c 118, c 105, c 103, c 101, c 114, c 108, c 97, c 119, c 49, c 52, c 46, c 80, c 97, c 100, c 119, c 114, c 97, c 112, c 66, c 97, c 99, c 107], [c 99, c 108, c 97, c 118, c 105, c 103, c 101, c 114, c 47, c 99, c 108, c 97, c 118, c 105, c 103, c 101, c 114, c 108, c 97, c 119, c 49, c 52, c 46, c 80, c 97, c 100, c 119, c 114, c 97, c 112, c 79, c 110, c 101], [c 99, c 108, c 97, c 118, c 105, c 103, c 101, c 114, c 47, c 99, c 108, c 97, c 118, c 105, c 103, c 101, c 114, c 108, c 97, c 119, c 51, c 55, c 46, c 83, c 101, c 97, c 108, c 84, c 101, c 108, c 108, c 115], [c 99, c 108, c 97, c 118, c 105, c 103, c 101, c 114, c 47, c 99, c 108, c 97, c 118, c 105, c 103, c 101, c 114, c 108, c 97, c 119, c 51, c 55, c 46, c 83, c 101, c 97, c 108, c 72, c 111, c 108, c 100, c 115], [c 99, c 108, c 97, c 118, c 105, c 103, c 101, c 114, c 47, c 99, c 108, c 97, c 118, c 105, c 103, c 101, c 114, c 108, c 97, c 119, c 49, c 51, c 46, c 87, c 114, c 97, c 112, c 84, c 101, c 108, c 108, c 115], [c 99, c 108, c 97, c 118, c 105, c 103, c 101, c 114, c 47, c 99, c 108, c 97, c 118, c 105, c 103, c 101, c 114, c 108, c 97, c 119, c 49, c 51, c 46, c 87, c 114, c 97, c 112, c 66, c 97, c 99, c 107], [c 99, c 108, c 97, c 118, c 105, c 103, c 101, c 114, c 47, c 99, c 108, c 97, c 118, c 105, c 103, c 101, c 114, c 108, c 97, c 119, c 49, c 51, c 46, c 87, c 114, c 97, c 112, c 79, c 110, c 101], [c 99, c 108, c 97, c 118, c 105, c 103, c 101, c 114, c 47, c 99, c 108, c 97, c 118, c 105, c 103, c 101, c 114, c 108, c 97, c 119, c 51, c 56, c 46, c 79, c 112, c 101, c 110, c 84, c 101, c 108, c 108, c 115]]
theorem z0 : Try.prog.initOrder = String.ofList L := by kernel_rfl
theorem z1 : Try.prog.initOrder.toList = L := by rw [z0]; exact String.toList_ofList
theorem z2 : behindMainWord (wordsSigns L) = "cut".toList :: WL := by kernel_rfl
theorem z3 : behindMainWord (wordsSigns Try.prog.initOrder.toList) = "cut".toList :: WL := (congrArg (fun x => behindMainWord (wordsSigns x)) z1).trans z2
theorem strip_cut (r : List (List Char)) : stripLifts liftWords ("cut".toList :: r) = ([], "cut".toList :: r) := by
  unfold liftWords
  simp [stripLifts]
theorem make_cut {P : Program} {r : List (List Char)} (h : behindMainWord (wordsSigns P.initOrder.toList) = "cut".toList :: r) : P.make = some .cut := by
  unfold Program.make
  rw [h]
  simp
theorem lifts_cut {P : Program} {r : List (List Char)} (h : behindMainWord (wordsSigns P.initOrder.toList) = "cut".toList :: r) : P.headLifts = [] := by
  unfold Program.headLifts
  rw [h, strip_cut]
  simp
theorem final_cut {P : Program} {r : List (List Char)} (h : behindMainWord (wordsSigns P.initOrder.toList) = "cut".toList :: r) : P.liftsFinal = false := by
  unfold Program.liftsFinal
  rw [lifts_cut h, h]
  simp
theorem enter_cut {P : Program} {r : List (List Char)} (h : behindMainWord (wordsSigns P.initOrder.toList) = "cut".toList :: r) (h1 : P.laysLater = false) (h2 : P.bearsReflect = false) (h3 : P.doorFits [] = true) : P.mayEnter = true := by
  unfold Program.mayEnter
  rw [h]
  simp only [strip_cut]
  simp [h1, h2, h3]
theorem enter : Try.prog.mayEnter = true := enter_cut z3 (by as_aux_lemma => kernel_rfl) (by as_aux_lemma => kernel_rfl) (by as_aux_lemma => kernel_rfl)
theorem final : Try.prog.liftsFinal = false := final_cut z3
theorem make : Try.prog.make = some .cut := make_cut z3
theorem laid : laidOutB Try.prog = true := by kernel_rfl
theorem rowed : mapsRowed Try.prog = true := by kernel_rfl
theorem heard : Try.prog.stopsHeard = true := by kernel_rfl
theorem plain : Try.prog.plainKeys = true := by kernel_rfl
theorem and_mk {a b : Bool} (h : a = true) (k : b = true) : (a && b) = true := by rw [h, k]; rfl
end Go.Proofs.Ytokkhnjedmlbhaa.RowAid
end
