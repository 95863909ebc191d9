/-
  Laws of cmac, plain.
-/
import Derived.Test.YtokkhnjedmlbhaaZCmacP
import Derived.Test.YtokkhnjedmlbhaaZEqM
import Derived.Test.YtokkhnjedmlbhaaZPrL11CmacChecks
import Derived.Test.YtokkhnjedmlbhaaZPrL11CmacTells
import Derived.Test.YtokkhnjedmlbhaaZPrL11awake
import Derived.Test.YtokkhnjedmlbhaaZPrg11b
import Derived.Test.YtokkhnjedmlbhaaZPrg01x
namespace Go.Proofs.Ytokkhnjedmlbhaa.M
open Go.RowKit Go.Proofs.Ytokkhnjedmlbhaa.Pr Go.Proofs.YtokkhnjedmlbhaaW.PrintWords Go.Proofs.YtokkhnjedmlbhaaW.PrintLast Go.Proofs.YtokkhnjedmlbhaaW.PrintMore Go.Proofs.YtokkhnjedmlbhaaGf
set_option linter.unusedSimpArgs false
set_option maxRecDepth 100000 in
theorem rfc_zero : encT (ksB (mkB [43, 126, 21, 22, 40, 174, 210, 166, 171, 247, 21, 136, 9, 207, 79, 60])) (mkB [0, 0, 0, 0, 0, 0, 0, 0, 0, 0, 0, 0, 0, 0, 0, 0]) = mkB [125, 247, 107, 12, 26, 184, 153, 179, 62, 66, 240, 71, 185, 27, 84, 111] :=
  run_enc 4 (by omega) rfl (by decide +kernel) (by decide +kernel) (by decide +kernel) rfl (by decide +kernel)
set_option maxRecDepth 100000 in
theorem rfc_last : encT (ksB (mkB [43, 126, 21, 22, 40, 174, 210, 166, 171, 247, 21, 136, 9, 207, 79, 60])) (mkB [119, 221, 172, 48, 106, 226, 102, 204, 249, 11, 193, 30, 228, 109, 81, 59]) = mkB [187, 29, 105, 41, 233, 89, 55, 40, 127, 163, 125, 18, 155, 117, 103, 70] :=
  run_enc 4 (by omega) rfl (by decide +kernel) (by decide +kernel) (by decide +kernel) rfl (by decide +kernel)
set_option maxRecDepth 100000 in
theorem rfc_mid : xorT (zeros 16) (lastX (⟨#[]⟩ : ByteArray) (dblT (mkB [125, 247, 107, 12, 26, 184, 153, 179, 62, 66, 240, 71, 185, 27, 84, 111])) (dblT (dblT (mkB [125, 247, 107, 12, 26, 184, 153, 179, 62, 66, 240, 71, 185, 27, 84, 111])))) = mkB [119, 221, 172, 48, 106, 226, 102, 204, 249, 11, 193, 30, 228, 109, 81, 59] := by decide +kernel
theorem tag_empty (ks : List ByteArray) : tagT ks ⟨#[]⟩ = encT ks (xorT (zeros 16) (lastX (⟨#[]⟩ : ByteArray) (dblT (encT ks (mkB [0, 0, 0, 0, 0, 0, 0, 0, 0, 0, 0, 0, 0, 0, 0, 0]))) (dblT (dblT (encT ks (mkB [0, 0, 0, 0, 0, 0, 0, 0, 0, 0, 0, 0, 0, 0, 0, 0])))))) := rfl
theorem awake11 : clavigerlaw11_awake.f = some true := by
  unfold clavigerlaw11_awake.f
  have ok : okN (mkB [43, 126, 21, 22, 40, 174, 210, 166, 171, 247, 21, 136, 9, 207, 79, 60]).size := .inl (by rw [mkB_size]; rfl)
  have h : cmac_Tag.f (⟨#[43, 126, 21, 22, 40, 174, 210, 166, 171, 247, 21, 136, 9, 207, 79, 60]⟩ : ByteArray) (⟨#[]⟩ : ByteArray) = some (mkB [187, 29, 105, 41, 233, 89, 55, 40, 127, 163, 125, 18, 155, 117, 103, 70], 0) := by
    rw [show (⟨#[43, 126, 21, 22, 40, 174, 210, 166, 171, 247, 21, 136, 9, 207, 79, 60]⟩ : ByteArray) = mkB [43, 126, 21, 22, 40, 174, 210, 166, 171, 247, 21, 136, 9, 207, 79, 60] from rfl, ctag_x _ _ (by decide)]
    unfold tagX
    rw [if_pos ok, tag_empty, rfc_zero, rfc_mid, rfc_last]
  rw [h]
  simp only [Option.bind_some]
  rw [if_pos (by decide +kernel)]
  decide +kernel
theorem blocks_c (n : Int) (h2 : n ≤ 9223372036854775807) : cmac_Blocks.f n = clavigerref11_Blocks.f n := by
  unfold cmac_Blocks.f clavigerref11_Blocks.f
  by_cases h : n < 0
  · rw [if_pos h, if_pos h]
  · rw [if_neg h, if_neg h]
    by_cases h0 : n = 0
    · subst h0; decide +kernel
    · rw [if_neg h0, Int.tdiv_eq_ediv_of_nonneg (by omega), Int.tmod_eq_emod_of_nonneg (by omega), wrap_id (x := n - 1) (by omega) (by omega), Int.tdiv_eq_ediv_of_nonneg (by omega), wrap_id (x := n / 16) (by omega) (by omega), wrap_id (x := (n - 1) / 16) (by omega) (by omega)]
      congr 1
      unfold mx mn wrap64
      omega
theorem CmacTells : clavigerlaw11_CmacTells.Pure := by
  intro key s b n _ _ _ hn
  refine Ev.rounds (?_ : Ev _ true)
  obtain ⟨_, hn2⟩ := of_i64 hn
  have aw : ∀ x : Bool, x = true → Ev (fun k => clavigerlaw11_CmacTells.j0 k key s b n x) true := fun x hx => by
    subst hx
    exact Ev.step (f := fun _ => (clavigerlaw11_awake.f).bind fun t => some t) (fun k => by simp only [clavigerlaw11_CmacTells.j0]; rw [if_pos True.intro]) (evs awake11 (Ev.now _))
  unfold clavigerlaw11_CmacTells.f
  by_cases h : (key.size : Int) > 100
  · exact evp h (aw true rfl)
  · refine evn h ?_
    by_cases h' : (s.size : Int) > 160
    · exact evp h' (aw true rfl)
    · refine evn h' ?_
      by_cases h'' : (b.size : Int) > 100
      · exact aw _ (decide_eq_true h'')
      · rw [decide_eq_false h'']
        have hs : s.size < 1000000 := by omega
        obtain ⟨q, hq⟩ : ∃ q, clavigerref11_Blocks.f n = some q := by
          unfold clavigerref11_Blocks.f
          split
          · exact ⟨_, rfl⟩
          · split <;> exact ⟨_, rfl⟩
        have hq2 := (blocks_c n hn2).trans hq
        refine Ev.step (f := fun k => (cmac_Tag.f key s).bind fun bt2 => ((clavigerref11_Tag.f k key s).bind fun bt3 => ((cmac_Subkeys.f key).bind fun bt4 => ((clavigerref11_Subkeys.f k key).bind fun bt5 => (if bt2.1.toList = bt3.1.toList then (if bt2.2 = bt3.2 then (if bt4.1.toList = bt5.1.toList then (if bt4.2.1.toList = bt5.2.1.toList then (if bt4.2.2 = bt5.2.2 then ((cmac_Double.f k b).bind fun t6 => ((clavigerref11_Double.f b).bind fun t7 => (if t6.toList = t7.toList then ((cmac_Blocks.f n).bind fun t8 => ((clavigerref11_Blocks.f n).bind fun t9 => (if t8 = t9 then ((clavigerlaw11_awake.f).bind fun t10 => (some t10)) else (some false)))) else (some false)))) else (some false)) else (some false)) else (some false)) else (some false)) else (some false)))))) (fun k => by simp only [clavigerlaw11_CmacTells.j0]; rw [if_neg (by simp)]) ?_
        refine evs (ctag_x _ _ hs) (evb (rtag_c _ _ hs) (evs (csub_x _) (evb (rsub_t _) (evp rfl (evp rfl (evp rfl (evp rfl (evp rfl ?_))))))))
        exact evb (dbl_c b) (evs (g := clavigerref11_Double.f b) rfl (evp rfl (evs hq2 (evs hq (evp rfl (evs awake11 (Ev.now _)))))))
theorem chk_c (key s t : ByteArray) (hs : s.size < 1000000) (ht : t.size < 1000000) (hT : (tagX key s).1.size < 1000000) : cmac_Check.f key s t = some (if okN key.size then (decide ((tagX key s).1 = t), 0) else (false, 2)) := by
  unfold cmac_Check.f
  rw [ctag_x _ _ hs]
  simp only [Option.bind_some]
  by_cases ok : okN key.size
  · have : (tagX key s).2 = 0 := by unfold tagX; rw [if_pos ok]
    rw [if_pos this, scan_c _ _ (by omega) (by omega), if_pos ok]
    rfl
  · have : (tagX key s).2 = 2 := by unfold tagX; rw [if_neg ok]
    rw [if_neg (by rw [this]; decide), if_neg ok, this]
theorem tagX_size (key s : ByteArray) : (tagX key s).1.size ≤ 16 := by
  unfold tagX
  by_cases ok : okN key.size
  · rw [if_pos ok]; exact Nat.le_of_eq (tagT_size (ks_facts ok).2.1 s)
  · rw [if_neg ok]; decide
theorem CmacChecks : clavigerlaw11_CmacChecks.Pure := by
  intro key s t _ _ _
  refine Ev.rounds (?_ : Ev _ true)
  have aw : ∀ x : Bool, x = true → Ev (fun k => clavigerlaw11_CmacChecks.j0 k key s t x) true := fun x hx => by
    subst hx
    exact Ev.step (f := fun _ => (clavigerlaw11_awake.f).bind fun t => some t) (fun k => by simp only [clavigerlaw11_CmacChecks.j0]; rw [if_pos True.intro]) (evs awake11 (Ev.now _))
  unfold clavigerlaw11_CmacChecks.f
  by_cases h : (key.size : Int) > 100
  · exact evp h (aw true rfl)
  · refine evn h ?_
    by_cases h' : (s.size : Int) > 160
    · exact evp h' (aw true rfl)
    · refine evn h' ?_
      by_cases h'' : (t.size : Int) > 100
      · exact aw _ (decide_eq_true h'')
      · rw [decide_eq_false h'']
        have hs : s.size < 1000000 := by omega
        have hz := tagX_size key s
        refine Ev.step (f := fun k => (clavigerref11_Tag.f k key s).bind fun bt2 => ((cmac_Check.f key s t).bind fun bt3 => ((cmac_Check.f key s bt2.1).bind fun bt4 => (if bt2.2 = bt3.2 then (if bt2.2 = bt4.2 then (if bt2.2 = 0 then (if (bt3.1 == (t.toList == bt2.1.toList)) = true then (if (bt4.1 == (bt2.2 == 0)) = true then ((clavigerlaw11_awake.f).bind fun t5 => (some t5)) else (some false)) else (some false)) else (if (bt3.1 == false) = true then (if (bt4.1 == (bt2.2 == 0)) = true then ((clavigerlaw11_awake.f).bind fun t6 => (some t6)) else (some false)) else (some false))) else (some false)) else (some false))))) (fun k => by simp only [clavigerlaw11_CmacChecks.j0]; rw [if_neg (by simp)]) ?_
        refine evb (rtag_c _ _ hs) (evs (chk_c key s t hs (by omega) (by omega)) (evs (chk_c key s _ hs (by omega) (by omega)) ?_))
        by_cases ok : okN key.size
        · have e : (tagX key s).2 = 0 := by unfold tagX; rw [if_pos ok]
          rw [e, if_pos ok, if_pos ok, decide_eq_true rfl]
          refine evp rfl (evp rfl (evp rfl (evp ?_ (evp (by decide) (evs awake11 (Ev.now _))))))
          rw [beq_tl, show decide (t = (tagX key s).1) = decide ((tagX key s).1 = t) from decide_eq_decide.2 eq_comm]
          exact beq_self_eq_true _
        · have e : (tagX key s).2 = 2 := by unfold tagX; rw [if_neg ok]
          rw [e, if_neg ok, if_neg ok]
          exact evp rfl (evp rfl (evn (by decide) (evp rfl (evp (by decide) (evs awake11 (Ev.now _))))))
end Go.Proofs.Ytokkhnjedmlbhaa.M
