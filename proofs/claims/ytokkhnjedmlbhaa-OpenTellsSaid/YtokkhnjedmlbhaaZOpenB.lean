/-
  What opening tells, as the document says.
-/
import Derived.Test.YtokkhnjedmlbhaaZRowAid
import Derived.Test.YtokkhnjedmlbhaaZPrL38OpenTells
import Derived.Test.YtokkhnjedmlbhaaZPrg01x
namespace Go.Proofs.Ytokkhnjedmlbhaa.M
open Go.RowKit Go.Proofs.Ytokkhnjedmlbhaa.Pr Go.Proofs.YtokkhnjedmlbhaaW.PrintWords Go.Proofs.YtokkhnjedmlbhaaW.PrintLast Go.Proofs.YtokkhnjedmlbhaaW.PrintMore Go.Proofs.YtokkhnjedmlbhaaGf
set_option linter.unusedSimpArgs false
theorem OpenTells : clavigerlaw38_OpenTells.Pure := by
  intro kek top ci tag _ _ _ _
  refine Ev.rounds (?_ : Ev _ true)
  have aw : ∀ x : Bool, x = true → Ev (fun k => clavigerlaw38_OpenTells.j0 k kek top ci tag x) true := fun x hx => by
    subst hx
    exact Ev.step (f := fun k => (clavigerlaw38_awake.f k).bind fun t => some t) (fun k => by simp only [clavigerlaw38_OpenTells.j0]; rw [if_pos True.intro]) (evb awake38 (Ev.now _))
  unfold clavigerlaw38_OpenTells.f
  by_cases h : (kek.size : Int) > 100
  · exact evp h (aw true rfl)
  · refine evn h ?_
    by_cases h' : (top.size : Int) > 300
    · exact evp h' (aw true rfl)
    · refine evn h' ?_
      by_cases h'' : (ci.size : Int) > 160
      · exact evp h'' (aw true rfl)
      · refine evn h'' ?_
        by_cases h3 : (tag.size : Int) > 100
        · exact aw _ (decide_eq_true h3)
        · rw [decide_eq_false h3]
          refine Ev.step (f := fun k => (open_Open.f k kek top ci tag).bind fun bt2 => ((clavigerref38_Open.f k kek top ci tag).bind fun bt3 => (if bt2.1.toList = bt3.1.toList then (if bt2.2 = bt3.2 then ((open_Right.f k kek top ci tag).bind fun t4 => (if (t4 == (bt3.2 == 0)) = true then ((clavigerlaw38_awake.f k).bind fun t5 => (some t5)) else (some false))) else (some false)) else (some false)))) (fun k => by simp only [clavigerlaw38_OpenTells.j0]; rw [if_neg (by simp)]) ?_
          exact evb (open_c _ _ _ _ (by omega) (by omega)) (evb (ropen_c _ _ _ _ (by omega) (by omega)) (evp rfl (evp rfl (evb (right_c _ _ _ _ (by omega) (by omega)) (evp (beq_self_eq_true _) (evb awake38 (Ev.now _)))))))
end Go.Proofs.Ytokkhnjedmlbhaa.M
