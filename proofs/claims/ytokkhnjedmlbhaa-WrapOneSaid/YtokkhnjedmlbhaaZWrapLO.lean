/-
  Whatever bytes are unwrapped: wrapped again they are just these.
-/
import Derived.Test.YtokkhnjedmlbhaaZWrapL
import Derived.Test.YtokkhnjedmlbhaaZPrL13WrapOne
import Derived.Test.YtokkhnjedmlbhaaZPrg01x
namespace Go.Proofs.Ytokkhnjedmlbhaa.M
open Go.RowKit Go.Proofs.Ytokkhnjedmlbhaa.Pr Go.Proofs.YtokkhnjedmlbhaaW.PrintWords Go.Proofs.YtokkhnjedmlbhaaW.PrintLast Go.Proofs.YtokkhnjedmlbhaaW.PrintMore Go.Proofs.YtokkhnjedmlbhaaGf
set_option linter.unusedSimpArgs false
theorem WrapOne : clavigerlaw13_WrapOne.Pure := by
  intro key c _ _
  refine Ev.rounds (?_ : Ev _ true)
  have aw : ∀ x : Bool, x = true → Ev (fun k => clavigerlaw13_WrapOne.j0 k key c x) true := fun x hx => by
    subst hx
    refine evu ?_
    simp only [clavigerlaw13_WrapOne.j0]
    exact evp True.intro (evs awake13 (Ev.now _))
  unfold clavigerlaw13_WrapOne.f
  by_cases h : (key.size : Int) > 100
  · exact evp h (aw true rfl)
  · refine evn h ?_
    by_cases h' : (c.size : Int) > 96
    · exact aw _ (decide_eq_true h')
    · rw [decide_eq_false h']
      refine evu ?_
      simp only [clavigerlaw13_WrapOne.j0]
      refine evn (by decide) (evs (uwrap_c key c (by omega)) ?_)
      rcases un_cases key c with ⟨e, _⟩ | ⟨e, _⟩ | ⟨ok, m, hc, h2, h3⟩
      · rw [show uwX key c = (⟨#[]⟩, 2) by unfold uwX; rw [e]; rfl]
        exact evn (by decide) (evp nil_list (evp rfl (evs awake13 (Ev.now _))))
      · rw [show uwX key c = (⟨#[]⟩, 4) by unfold uwX; rw [e]; rfl]
        exact evn (by decide) (evp nil_list (evn (by decide) (evp rfl (evs awake13 (Ev.now _)))))
      · have hk := (ks_facts ok).2.1
        have ho := uw_ok ok hc h2
        have hr := raw_un hk hc h2 h3
        have hu := un_one ok hc h2 h3
        generalize uwT (ksB key) c m = u at *
        by_cases e : u.1 = a6
        · have hz : (catB u.2).size = 8 * m := by rw [cat_size 8 _ ho.2.2, ho.2.1]
          have hx := raw_one ok a6_size hz h2 h3
          rw [e] at hr
          rw [hr] at hx
          rw [show uwX key c = (catB u.2, 0) by unfold uwX; rw [hu, if_pos rfl, if_pos e]]
          exact evp rfl (evs ((wrap_c key (catB u.2)).trans (congrArg some hx)) (evp rfl (evp rfl (evs awake13 (Ev.now _)))))
        · rw [show uwX key c = (⟨#[]⟩, 7) by unfold uwX; rw [hu, if_pos rfl, if_neg e]]
          exact evn (by decide) (evp nil_list (evn (by decide) (evn (by decide) (evp rfl (evs awake13 (Ev.now _))))))
end Go.Proofs.Ytokkhnjedmlbhaa.M
