/-
  Padded wrapping and unwrapping are as the reference says.
-/
import Derived.Test.YtokkhnjedmlbhaaZPadL
import Derived.Test.YtokkhnjedmlbhaaZPrL14PadwrapTells
import Derived.Test.YtokkhnjedmlbhaaZPrg05
namespace Go.Proofs.Ytokkhnjedmlbhaa.M
open Go.RowKit Go.Proofs.Ytokkhnjedmlbhaa.Pr Go.Proofs.YtokkhnjedmlbhaaW.PrintWords Go.Proofs.YtokkhnjedmlbhaaW.PrintLast Go.Proofs.YtokkhnjedmlbhaaW.PrintMore Go.Proofs.YtokkhnjedmlbhaaGf
set_option linter.unusedSimpArgs false
theorem PadwrapTells : clavigerlaw14_PadwrapTells.Pure := by
  intro key s v n _ _ _ hn
  obtain ⟨n1, n2⟩ := of_i64 hn
  refine Ev.rounds (?_ : Ev _ true)
  have aw : ∀ x : Bool, x = true → Ev (fun k => clavigerlaw14_PadwrapTells.j0 k key s v n x) true := fun x hx => by
    subst hx
    refine evu ?_
    simp only [clavigerlaw14_PadwrapTells.j0]
    exact evp True.intro (evs awake14 (Ev.now _))
  unfold clavigerlaw14_PadwrapTells.f
  by_cases h : (key.size : Int) > 100
  · exact evp h (aw true rfl)
  · refine evn h ?_
    by_cases h' : (s.size : Int) > 96
    · exact evp h' (aw true rfl)
    · refine evn h' ?_
      by_cases h'' : (v.size : Int) > 100
      · exact aw _ (decide_eq_true h'')
      · rw [decide_eq_false h'']
        refine evu ?_
        simp only [clavigerlaw14_PadwrapTells.j0]
        obtain ⟨r, hr, hrr⟩ := rvl_c n
        exact evn (by decide) (evs (padw_c key s (by omega)) (evb (rpadw_c key s (by omega)) (evb (upw_c key s (by omega)) (evb (rupw_c key s (by omega)) (evb (length_c v n (by omega) n1 n2) (evb (rlength_c v n n1 n2) (evp rfl (evp rfl (evp rfl (evp rfl (evp rfl (evp (beq_self_eq_true _) (evs hr (evb hrr (evp rfl (evs (size_c n) (evs (rsize_c n) (evp rfl (evs awake14 (Ev.now _))))))))))))))))))))
end Go.Proofs.Ytokkhnjedmlbhaa.M
