/-
  A right tag binds.
-/
import Derived.Test.YtokkhnjedmlbhaaZRowAid
import Derived.Test.YtokkhnjedmlbhaaZPrL38OpenBinds
import Derived.Test.YtokkhnjedmlbhaaZPrg01x
namespace Go.Proofs.Ytokkhnjedmlbhaa.M
open Go.RowKit Go.Proofs.Ytokkhnjedmlbhaa.Pr Go.Proofs.YtokkhnjedmlbhaaW.PrintWords Go.Proofs.YtokkhnjedmlbhaaW.PrintLast Go.Proofs.YtokkhnjedmlbhaaW.PrintMore Go.Proofs.YtokkhnjedmlbhaaGf
set_option linter.unusedSimpArgs false
theorem OpenBinds : clavigerlaw38_OpenBinds.Pure := by
  intro kek top p other ci _ _ _ _ _
  refine Ev.rounds (?_ : Ev _ true)
  have aw : ∀ x : Bool, x = true → Ev (fun k => clavigerlaw38_OpenBinds.j0 k kek top p other ci x) true := fun x hx => by
    subst hx
    exact Ev.step (f := fun k => (clavigerlaw38_awake.f k).bind fun t => some t) (fun k => by simp only [clavigerlaw38_OpenBinds.j0]; rw [if_pos True.intro]) (evb awake38 (Ev.now _))
  unfold clavigerlaw38_OpenBinds.f
  by_cases h : (kek.size : Int) > 100
  · exact evp h (aw true rfl)
  · refine evn h ?_
    by_cases h' : (top.size : Int) > 300
    · exact evp h' (aw true rfl)
    · refine evn h' ?_
      by_cases h'' : (p.size : Int) > 160
      · exact evp h'' (aw true rfl)
      · refine evn h'' ?_
        by_cases h3 : (other.size : Int) > 300
        · exact evp h3 (aw true rfl)
        · refine evn h3 ?_
          by_cases h4 : (ci.size : Int) > 160
          · exact aw _ (decide_eq_true h4)
          · rw [decide_eq_false h4]
            refine Ev.step (f := fun k => (clavigerref37_Seal.f k kek top p).bind fun bt2 => (if bt2.2.2 = 0 then ((open_Open.f k kek other ci bt2.2.1).bind fun bt3 => (if bt3.2 = 0 then ((clavigerref35_Keys.f k kek).bind fun bt4 => ((clavigerref10_Decrypt.f k bt4.1 bt2.2.1 ci).bind fun bt5 => (if top.size + p.size ≤ 9223372036854775807 then ((clavigerref11_Tag.f k bt4.2.1 (top ++ p)).bind fun bt6 => (if other.size + bt3.1.size ≤ 9223372036854775807 then ((clavigerref11_Tag.f k bt4.2.1 (other ++ bt3.1)).bind fun bt7 => (if bt3.1.toList = bt5.1.toList then (if bt6.1.toList = bt2.2.1.toList then (if bt7.1.toList = bt2.2.1.toList then ((clavigerlaw38_awake.f k).bind fun t8 => (some t8)) else (some false)) else (some false)) else (some false))) else (none))) else (none)))) else (if bt3.1.toList = ([] : List UInt8) then (if bt3.2 = 4 then ((clavigerlaw38_awake.f k).bind fun t9 => (some t9)) else (if bt3.2 = 7 then ((clavigerlaw38_awake.f k).bind fun t10 => (some t10)) else (some false))) else (some false)))) else ((clavigerlaw38_awake.f k).bind fun t11 => (some t11)))) (fun k => by simp only [clavigerlaw38_OpenBinds.j0]; rw [if_neg (by simp)]) ?_
            refine evb (rseal_c _ _ _ (by omega) (by omega)) ?_
            by_cases hc : okN kek.size ∧ p.size ≠ 0 ∧ p.size % 16 = 0
            · have ok := hc.1
              rw [sl_ok ok top hc.2.1 hc.2.2]
              have hb := bn_size ok top p
              refine evp rfl (evb (open_c _ _ _ _ (by omega) (by omega)) ?_)
              show Ev (fun k => _) true
              unfold opX
              rw [if_pos ok]
              by_cases hf : (bnT kek top p).size = 16 ∧ ci.size ≠ 0 ∧ ci.size % 16 = 0
              · rw [if_pos hf]
                by_cases e : bnT kek other (opT kek ci (bnT kek top p)) = bnT kek top p
                · rw [if_pos e]
                  have hz := opT_size ok hb hf.2.2
                  have hk := rdkeys_c kek
                  unfold dksX at hk
                  rw [if_pos ok] at hk
                  have hd := rcdec_c (dkT kek 0) (bnT kek top p) ci (by omega)
                  rw [dec_b ok hb hf.2.2] at hd
                  have g1 := rtag_c (dkT kek 1) (top ++ p) (by rw [ByteArray.size_append]; omega)
                  have g2 := rtag_c (dkT kek 1) (other ++ opT kek ci (bnT kek top p)) (by rw [ByteArray.size_append]; omega)
                  rw [tag_b ok] at g1 g2
                  exact evp rfl (evb hk (evb hd (evp (by omega) (evb g1 (evp (by show other.size + (opT kek ci (bnT kek top p)).size ≤ _; omega) (evb g2 (evp rfl (evp rfl (evp (congrArg ByteArray.toList e) (evb awake38 (Ev.now _)))))))))))
                · rw [if_neg e]
                  exact evn (by decide) (evp nil_list (evn (by decide) (evp rfl (evb awake38 (Ev.now _)))))
              · rw [if_neg hf]
                exact evn (by decide) (evp nil_list (evp rfl (evb awake38 (Ev.now _))))
            · exact evn (sl_bad hc) (evb awake38 (Ev.now _))
end Go.Proofs.Ytokkhnjedmlbhaa.M
