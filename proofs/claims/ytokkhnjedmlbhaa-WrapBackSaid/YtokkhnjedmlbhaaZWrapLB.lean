/-
  What is wrapped, unwrapped, is what it was.
-/
import Derived.Test.YtokkhnjedmlbhaaZWrapL
import Derived.Test.YtokkhnjedmlbhaaZPrL13WrapBack
import Derived.Test.YtokkhnjedmlbhaaZPrg01x
namespace Go.Proofs.Ytokkhnjedmlbhaa.M
open Go.RowKit Go.Proofs.Ytokkhnjedmlbhaa.Pr Go.Proofs.YtokkhnjedmlbhaaW.PrintWords Go.Proofs.YtokkhnjedmlbhaaW.PrintLast Go.Proofs.YtokkhnjedmlbhaaW.PrintMore Go.Proofs.YtokkhnjedmlbhaaGf
set_option linter.unusedSimpArgs false
theorem WrapBack : clavigerlaw13_WrapBack.Pure := by
  intro key iv s _ _ _
  refine Ev.rounds (?_ : Ev _ true)
  have aw : ∀ x : Bool, x = true → Ev (fun k => clavigerlaw13_WrapBack.j0 k key iv s x) true := fun x hx => by
    subst hx
    refine evu ?_
    simp only [clavigerlaw13_WrapBack.j0]
    exact evp True.intro (evs awake13 (Ev.now _))
  have j1 : s.size ≤ 96 → Ev (fun k => clavigerlaw13_WrapBack.j1 k key s) true := fun hb => by
    refine evu ?_
    simp only [clavigerlaw13_WrapBack.j1]
    refine evs (wrap_c key s) ?_
    rcases raw_cases key a6 s with h | h | h | ⟨ok, hi, m, hs, h2, h3⟩
    · rw [h]; exact evn (by decide) (evp nil_list (evs awake13 (Ev.now _)))
    · rw [h]; exact evn (by decide) (evp nil_list (evs awake13 (Ev.now _)))
    · rw [h]; exact evn (by decide) (evp nil_list (evs awake13 (Ev.now _)))
    · have hk := (ks_facts ok).2.1
      rw [raw_one ok hi hs h2 h3]
      have hz := raw_size hk hi hs h2
      have hu := un_raw hk hi hs h2 h3
      have he : uwX key (rawT (ksB key) a6 s m) = (s, 0) := by
        have h1 := un_one ok hz h2 h3
        rw [hu, pcs_all (by omega)] at h1
        unfold uwX
        rw [h1]
        rfl
      refine evp rfl (evs ((uwrap_c key (rawT (ksB key) a6 s m) (by omega)).trans (congrArg some he)) (evp rfl (evp rfl (evs awake13 (Ev.now _)))))
  unfold clavigerlaw13_WrapBack.f
  by_cases h : (key.size : Int) > 100
  · exact evp h (aw true rfl)
  · refine evn h ?_
    by_cases h' : (iv.size : Int) > 100
    · exact evp h' (aw true rfl)
    · refine evn h' ?_
      by_cases h'' : (s.size : Int) > 96
      · exact aw _ (decide_eq_true h'')
      · rw [decide_eq_false h'']
        refine evu ?_
        simp only [clavigerlaw13_WrapBack.j0]
        refine evn (by decide) (evs (a := rawX key iv s) rfl ?_)
        rcases raw_cases key iv s with h | h | h | ⟨ok, hi, m, hs, h2, h3⟩
        · rw [h]; exact evn (by decide) (j1 (by omega))
        · rw [h]; exact evn (by decide) (j1 (by omega))
        · rw [h]; exact evn (by decide) (j1 (by omega))
        · have hk := (ks_facts ok).2.1
          rw [raw_one ok hi hs h2 h3]
          have hz := raw_size hk hi hs h2
          have hu := un_raw hk hi hs h2 h3
          have h1 := un_one ok hz h2 h3
          rw [hu, pcs_all (by omega)] at h1
          refine evp rfl (evs (a := (iv, s, 0)) (by unfold wrap_Unraw.f; rw [if_pos (by show (rawT (ksB key) iv s m).size < 1000000; omega)]; exact congrArg some h1) (evp rfl (evp rfl (evp rfl (evp ?_ (j1 (by omega)))))))
          show ((rawT (ksB key) iv s m).size : Int) = wrap64 ((s.size : Int) + 8)
          rw [wrap_id (by omega) (by omega)]
          omega
end Go.Proofs.Ytokkhnjedmlbhaa.M
