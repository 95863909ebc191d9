/-
  Wrapping and unwrapping are as the reference says.
-/
import Derived.Test.YtokkhnjedmlbhaaZWrapL
import Derived.Test.YtokkhnjedmlbhaaZPrL13WrapTells
import Derived.Test.YtokkhnjedmlbhaaZPrg01x
namespace Go.Proofs.Ytokkhnjedmlbhaa.M
open Go.RowKit Go.Proofs.Ytokkhnjedmlbhaa.Pr Go.Proofs.YtokkhnjedmlbhaaW.PrintWords Go.Proofs.YtokkhnjedmlbhaaW.PrintLast Go.Proofs.YtokkhnjedmlbhaaW.PrintMore Go.Proofs.YtokkhnjedmlbhaaGf
set_option linter.unusedSimpArgs false
theorem WrapTells : clavigerlaw13_WrapTells.Pure := by
  intro key iv s n _ _ _ _
  refine Ev.rounds (?_ : Ev _ true)
  have aw : ∀ x : Bool, x = true → Ev (fun k => clavigerlaw13_WrapTells.j0 k key iv s n x) true := fun x hx => by
    subst hx
    refine evu ?_
    simp only [clavigerlaw13_WrapTells.j0]
    exact evp True.intro (evs awake13 (Ev.now _))
  unfold clavigerlaw13_WrapTells.f
  by_cases h : (key.size : Int) > 100
  · exact evp h (aw true rfl)
  · refine evn h ?_
    by_cases h' : (iv.size : Int) > 100
    · exact evp h' (aw true rfl)
    · refine evn h' ?_
      by_cases h'' : (s.size : Int) > 96
      · exact aw _ (decide_eq_true h'')
      · rw [decide_eq_false h'']
        refine evu ?_
        simp only [clavigerlaw13_WrapTells.j0]
        have hu : wrap_Unraw.f key s = some (unX key s) := by unfold wrap_Unraw.f; rw [if_pos (by omega)]
        refine evn (by decide) (evs (a := rawX key iv s) rfl (evb (rraw_c key iv s) (evs hu (evb (runraw_c key s (by omega)) (evp rfl (evp rfl (evp rfl (evp rfl ?_))))))))
        rw [show ((unX key s).2.2 != (unX key s).2.2) = false from bne_self_eq_false _]
        refine evu ?_
        simp only [clavigerlaw13_WrapTells.j1]
        exact evn (by decide) (evs (wrap_c key s) (evb (rwrap_c key s) (evs (uwrap_c key s (by omega)) (evb (ruwrap_c key s (by omega)) (evp rfl (evp rfl (evp rfl (evp rfl (evs (steps_c n) (evs (rsteps_c n) (evp rfl (evs (a := a6) rfl (evs (a := a6) rfl (evp rfl (evs awake13 (Ev.now _))))))))))))))))
end Go.Proofs.Ytokkhnjedmlbhaa.M
