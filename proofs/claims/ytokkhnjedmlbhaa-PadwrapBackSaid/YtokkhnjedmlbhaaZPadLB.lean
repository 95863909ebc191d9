/-
  What is wrapped, padded, unwrapped, is what it was.
-/
import Derived.Test.YtokkhnjedmlbhaaZPadL
import Derived.Test.YtokkhnjedmlbhaaZPrL14PadwrapBack
import Derived.Test.YtokkhnjedmlbhaaZPrg05
namespace Go.Proofs.Ytokkhnjedmlbhaa.M
open Go.RowKit Go.Proofs.Ytokkhnjedmlbhaa.Pr Go.Proofs.YtokkhnjedmlbhaaW.PrintWords Go.Proofs.YtokkhnjedmlbhaaW.PrintLast Go.Proofs.YtokkhnjedmlbhaaW.PrintMore Go.Proofs.YtokkhnjedmlbhaaGf
set_option linter.unusedSimpArgs false
theorem PadwrapBack : clavigerlaw14_PadwrapBack.Pure := by
  intro key s _ _
  refine Ev.rounds (?_ : Ev _ true)
  have aw : ∀ x : Bool, x = true → Ev (fun k => clavigerlaw14_PadwrapBack.j0 k key s x) true := fun x hx => by
    subst hx
    refine evu ?_
    simp only [clavigerlaw14_PadwrapBack.j0]
    exact evp True.intro (evs awake14 (Ev.now _))
  unfold clavigerlaw14_PadwrapBack.f
  by_cases h : (key.size : Int) > 100
  · exact evp h (aw true rfl)
  · refine evn h ?_
    by_cases h' : (s.size : Int) > 96
    · exact aw _ (decide_eq_true h')
    · rw [decide_eq_false h']
      refine evu ?_
      simp only [clavigerlaw14_PadwrapBack.j0]
      refine evn (by decide) (evs (padw_c key s (by omega)) ?_)
      by_cases ok : okN key.size
      · by_cases h1 : 1 ≤ s.size
        · obtain ⟨a, b, c⟩ := up_pad ok h1 (show s.size ≤ 65535 by omega)
          have hz : (padX key s).1.size < 1000000 := by
            have : pszI (s.size : Int) ≤ 200 := by unfold pszI; rw [if_pos (by omega)]; omega
            omega
          have hu := upw_c key (padX key s).1 hz
          rw [a] at hu
          exact evp b (evb hu (evp rfl (evp rfl (evs (size_c _) (evp c (evs awake14 (Ev.now _)))))))
        · rw [show padX key s = (⟨#[]⟩, 4) by unfold padX; rw [if_pos ok, if_neg (by omega)]]
          have he : s = ⟨#[]⟩ := by rw [← ext_all s, show s.size = 0 by omega, extract_nb]; rfl
          exact evn (by decide) (evp nil_list (evn (by decide) (evp rfl (evp (by rw [he]; exact nil_list) (evs awake14 (Ev.now _))))))
      · rw [show padX key s = (⟨#[]⟩, 2) by unfold padX; rw [if_neg ok]]
        exact evn (by decide) (evp nil_list (evp rfl (evs awake14 (Ev.now _))))
end Go.Proofs.Ytokkhnjedmlbhaa.M
