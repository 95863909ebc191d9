/-
  Whatever bytes are unwrapped: wrapped again they are just these.
-/
import Derived.Test.YtokkhnjedmlbhaaZPadL
import Derived.Test.YtokkhnjedmlbhaaZPrL14PadwrapOne
import Derived.Test.YtokkhnjedmlbhaaZPrg05
namespace Go.Proofs.Ytokkhnjedmlbhaa.M
open Go.RowKit Go.Proofs.Ytokkhnjedmlbhaa.Pr Go.Proofs.YtokkhnjedmlbhaaW.PrintWords Go.Proofs.YtokkhnjedmlbhaaW.PrintLast Go.Proofs.YtokkhnjedmlbhaaW.PrintMore Go.Proofs.YtokkhnjedmlbhaaGf
set_option linter.unusedSimpArgs false
theorem up_err {key c : ByteArray} (h : ¬ (upX key c).2 = 0) : upX key c = (⟨#[]⟩, 2) ∨ upX key c = (⟨#[]⟩, 4) ∨ upX key c = (⟨#[]⟩, 7) := by
  rcases pt_cases key c with ⟨e, _⟩ | ⟨e, _, _⟩ | ⟨ok, h8, h16, hmx, v, p, e, hv, hp⟩
  · exact .inl (by unfold upX; rw [e]; rfl)
  · exact .inr (.inl (by unfold upX; rw [e]; rfl))
  · have hx : upX key c = outX v p := by unfold upX; rw [e]; rfl
    rw [hx] at h ⊢
    unfold outX at h ⊢
    split at h
    · exact absurd rfl h
    · next hn => rw [if_neg hn]; exact .inr (.inr rfl)
theorem PadwrapOne : clavigerlaw14_PadwrapOne.Pure := by
  intro key c _ _
  refine Ev.rounds (?_ : Ev _ true)
  have aw : ∀ x : Bool, x = true → Ev (fun k => clavigerlaw14_PadwrapOne.j0 k key c x) true := fun x hx => by
    subst hx
    refine evu ?_
    simp only [clavigerlaw14_PadwrapOne.j0]
    exact evp True.intro (evs awake14 (Ev.now _))
  unfold clavigerlaw14_PadwrapOne.f
  by_cases h : (key.size : Int) > 100
  · exact evp h (aw true rfl)
  · refine evn h ?_
    by_cases h' : (c.size : Int) > 96
    · exact aw _ (decide_eq_true h')
    · rw [decide_eq_false h']
      refine evu ?_
      simp only [clavigerlaw14_PadwrapOne.j0]
      refine evn (by decide) (evb (upw_c key c (by omega)) ?_)
      by_cases hu : (upX key c).2 = 0
      · obtain ⟨a, b⟩ := pad_up hu
        exact evp hu (evs ((padw_c key _ b).trans (congrArg some a)) (evp rfl (evp rfl (evs awake14 (Ev.now _)))))
      · rcases up_err hu with e | e | e
        · rw [e]
          exact evn (by decide) (evp nil_list (evp rfl (evs awake14 (Ev.now _))))
        · rw [e]
          exact evn (by decide) (evp nil_list (evn (by decide) (evp rfl (evs awake14 (Ev.now _)))))
        · rw [e]
          exact evn (by decide) (evp nil_list (evn (by decide) (evn (by decide) (evp rfl (evs awake14 (Ev.now _))))))
end Go.Proofs.Ytokkhnjedmlbhaa.M
