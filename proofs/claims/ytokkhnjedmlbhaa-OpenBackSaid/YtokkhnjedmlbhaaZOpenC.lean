/-
  Back and forth.
-/
import Derived.Test.YtokkhnjedmlbhaaZRowAid
import Derived.Test.YtokkhnjedmlbhaaZPrL38OpenBack
import Derived.Test.YtokkhnjedmlbhaaZPrg01x
namespace Go.Proofs.Ytokkhnjedmlbhaa.M
open Go.RowKit Go.Proofs.Ytokkhnjedmlbhaa.Pr Go.Proofs.YtokkhnjedmlbhaaW.PrintWords Go.Proofs.YtokkhnjedmlbhaaW.PrintLast Go.Proofs.YtokkhnjedmlbhaaW.PrintMore Go.Proofs.YtokkhnjedmlbhaaGf
set_option linter.unusedSimpArgs false
theorem OpenBack : clavigerlaw38_OpenBack.Pure := by
  intro kek top p ci tag _ _ _ _ _
  refine Ev.rounds (?_ : Ev _ true)
  have aw : ∀ x : Bool, x = true → Ev (fun k => clavigerlaw38_OpenBack.j0 k kek top p ci tag x) true := fun x hx => by
    subst hx
    exact Ev.step (f := fun k => (clavigerlaw38_awake.f k).bind fun t => some t) (fun k => by simp only [clavigerlaw38_OpenBack.j0]; rw [if_pos True.intro]) (evb awake38 (Ev.now _))
  unfold clavigerlaw38_OpenBack.f
  by_cases h : (kek.size : Int) > 100
  · exact evp h (aw true rfl)
  · refine evn h ?_
    by_cases h' : (top.size : Int) > 300
    · exact evp h' (aw true rfl)
    · refine evn h' ?_
      by_cases h'' : (p.size : Int) > 160
      · exact evp h'' (aw true rfl)
      · refine evn h'' ?_
        by_cases h3 : (ci.size : Int) > 160
        · exact evp h3 (aw true rfl)
        · refine evn h3 ?_
          by_cases h4 : (tag.size : Int) > 100
          · exact aw _ (decide_eq_true h4)
          · rw [decide_eq_false h4]
            have second : Ev (fun k => clavigerlaw38_OpenBack.j1 k kek top ci tag) true := by
              refine Ev.step (f := fun k => (open_Open.f k kek top ci tag).bind fun bt4 => (if bt4.2 = 0 then ((clavigerref37_Seal.f k kek top bt4.1).bind fun bt5 => (if bt5.1.toList = ci.toList then (if bt5.2.1.toList = tag.toList then (if bt5.2.2 = 0 then ((clavigerlaw38_awake.f k).bind fun t6 => (some t6)) else (some false)) else (some false)) else (some false))) else (if bt4.1.toList = ([] : List UInt8) then ((clavigerlaw38_awake.f k).bind fun t7 => (some t7)) else (some false)))) (fun k => by simp only [clavigerlaw38_OpenBack.j1]) ?_
              refine evb (open_c _ _ _ _ (by omega) (by omega)) ?_
              unfold opX
              by_cases ok : okN kek.size
              · rw [if_pos ok]
                by_cases hf : tag.size = 16 ∧ ci.size ≠ 0 ∧ ci.size % 16 = 0
                · rw [if_pos hf]
                  by_cases e : bnT kek top (opT kek ci tag) = tag
                  · rw [if_pos e]
                    have hz := opT_size ok hf.1 hf.2.2
                    have hs := rseal_c kek top (opT kek ci tag) (by omega) (by omega)
                    rw [sl_ok ok top (by rw [hz]; exact hf.2.1) (by rw [hz]; exact hf.2.2), op_forth ok hf.1 hf.2.2 e, e] at hs
                    exact evp rfl (evb hs (evp rfl (evp rfl (evp rfl (evb awake38 (Ev.now _))))))
                  · rw [if_neg e]
                    exact evn (by decide) (evp nil_list (evb awake38 (Ev.now _)))
                · rw [if_neg hf]
                  exact evn (by decide) (evp nil_list (evb awake38 (Ev.now _)))
              · rw [if_neg ok]
                exact evn (by decide) (evp nil_list (evb awake38 (Ev.now _)))
            refine Ev.step (f := fun k => (clavigerref37_Seal.f k kek top p).bind fun bt2 => (if bt2.2.2 = 0 then ((open_Open.f k kek top bt2.1 bt2.2.1).bind fun bt3 => (if bt3.1.toList = p.toList then (if bt3.2 = 0 then (clavigerlaw38_OpenBack.j1 k kek top ci tag) else (some false)) else (some false))) else (clavigerlaw38_OpenBack.j1 k kek top ci tag))) (fun k => by simp only [clavigerlaw38_OpenBack.j0]; rw [if_neg (by simp)]) ?_
            refine evb (rseal_c _ _ _ (by omega) (by omega)) ?_
            by_cases hc : okN kek.size ∧ p.size ≠ 0 ∧ p.size % 16 = 0
            · rw [sl_ok hc.1 top hc.2.1 hc.2.2]
              have hz := (op_back hc.1 top hc.2.2).2
              have ho := open_c kek top (ciT kek top p) (bnT kek top p) (by omega) (by omega)
              rw [op_sealed hc.1 top hc.2.1 hc.2.2] at ho
              exact evp rfl (evb ho (evp rfl (evp rfl second)))
            · exact evn (sl_bad hc) second
end Go.Proofs.Ytokkhnjedmlbhaa.M
