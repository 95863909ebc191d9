/-
  The three laws of round, plain.
-/
import Derived.Test.YtokkhnjedmlbhaaRoundQ
import Derived.Test.YtokkhnjedmlbhaaPrL07RoundAdds
import Derived.Test.YtokkhnjedmlbhaaPrL07RoundBack
import Derived.Test.YtokkhnjedmlbhaaPrL07RoundTells
import Derived.Test.YtokkhnjedmlbhaaPrL07awake
import Derived.Test.YtokkhnjedmlbhaaPrk
namespace Go.Proofs.Ytokkhnjedmlbhaa.M
open Go.RowKit Go.Proofs.Ytokkhnjedmlbhaa.Pr Go.Proofs.YtokkhnjedmlbhaaW.PrintWords Go.Proofs.YtokkhnjedmlbhaaW.PrintLast Go.Proofs.YtokkhnjedmlbhaaW.PrintMore Go.Proofs.YtokkhnjedmlbhaaGf
set_option linter.unusedSimpArgs false
set_option maxRecDepth 100000 in
theorem awake07 : clavigerlaw07_awake.f = some true := by
  unfold clavigerlaw07_awake.f
  rw [mix_t]; simp only [Option.bind_some]
  rw [if_pos (by decide +kernel), if_pos (by decide), if_pos (by decide +kernel), if_pos (by decide +kernel), unmix_t]; simp only [Option.bind_some]
  rw [if_pos (by decide +kernel), shift_t]; simp only [Option.bind_some]
  rw [if_pos (by decide +kernel), key_t]; simp only [Option.bind_some]
  decide +kernel
theorem RoundTells : clavigerlaw07_RoundTells.Pure := by
  intro s k l hs hk
  refine Ev.rounds (?_ : Ev _ true)
  have aw : ∀ b : Bool, b = true → Ev (fun n => clavigerlaw07_RoundTells.j0 n s k l b) true := fun b hb => by
    subst hb
    exact Ev.step (f := fun n => (clavigerlaw07_awake.f).bind fun t => some t) (fun n => by simp only [clavigerlaw07_RoundTells.j0]; rw [if_pos True.intro]) (evs awake07 (Ev.now _))
  unfold clavigerlaw07_RoundTells.f
  by_cases h : (s.size : Int) > 100
  · exact evp h (aw true rfl)
  · refine evn h ?_
    by_cases h' : (k.size : Int) > 100
    · exact aw _ (decide_eq_true h')
    · refine Ev.step (f := fun k0 => ((round_Shift.f s).bind fun t400 => ((clavigerref07_Shift.f k0 s).bind fun t401 => (if t400.toList = t401.toList then ((round_Unshift.f s).bind fun t402 => ((clavigerref07_Unshift.f k0 s).bind fun t403 => (if t402.toList = t403.toList then ((round_Mix.f s).bind fun t404 => ((clavigerref07_Mix.f k0 s).bind fun t405 => (if t404.toList = t405.toList then ((round_Unmix.f s).bind fun t406 => ((clavigerref07_Unmix.f k0 s).bind fun t407 => (if t406.toList = t407.toList then ((round_Key.f s k).bind fun t408 => ((clavigerref07_Key.f k0 s k).bind fun t409 => (if t408.toList = t409.toList then ((round_Do.f k0 s k l).bind fun t410 => ((clavigerref07_Do.f k0 s k l).bind fun t411 => (if t410.toList = t411.toList then ((round_Undo.f k0 s k l).bind fun t412 => ((clavigerref07_Undo.f k0 s k l).bind fun t413 => (if t412.toList = t413.toList then ((clavigerlaw07_awake.f).bind fun t414 => (some t414)) else (some false)))) else (some false)))) else (some false)))) else (some false)))) else (some false)))) else (some false)))) else (some false))))) (fun n => by simp only [clavigerlaw07_RoundTells.j0]; rw [if_neg (by simp; omega)]) ?_
      refine evs (shift_t s) (evb (rshift_t s) (evp rfl (evs (unshift_t s) (evb (runshift_t s) (evp rfl (evs (mix_t s) (evb (rmix_t s) (evp rfl (evs (unmix_t s) (evb (runmix_t s) (evp rfl ?_)))))))))))
      exact evs (key_t s k) (evb (rkey_t s k) (evp rfl (evb (do_t s k l) (evb (rdo_t s k l) (evp rfl (evb (un_t s k l) (evb (run_t s k l) (evp rfl (evs awake07 (Ev.now _))))))))))
theorem nil_of {t : ByteArray} (h : t = ⟨#[]⟩) : t.toList = ([] : List UInt8) := by rw [h]; decide +kernel
theorem back_no (s k : ByteArray) (l : Bool) (h : ¬ (s.size = 16 ∧ k.size = 16)) : Ev (fun n => clavigerlaw07_RoundBack.j0 n s k l true) true := by
  refine Ev.step (f := fun k0 => ((round_Do.f k0 s k l).bind fun t415 => (if t415.toList = ([] : List UInt8) then ((round_Undo.f k0 s k l).bind fun t416 => (if t416.toList = ([] : List UInt8) then ((clavigerlaw07_awake.f).bind fun t417 => (some t417)) else (some false))) else (some false)))) (fun n => by simp only [clavigerlaw07_RoundBack.j0]; rw [if_pos True.intro]) ?_
  have e : doT s k l = ⟨#[]⟩ := by
    unfold doT
    by_cases h1 : s.size = 16
    · rw [if_pos h1, if_neg (fun h2 => h ⟨h1, h2⟩)]
    · rw [if_neg h1]
  exact evb (do_t s k l) (evp (nil_of e) (evb (un_t s k l) (evp (nil_of (un_none s k l h)) (evs awake07 (Ev.now _)))))
theorem RoundBack : clavigerlaw07_RoundBack.Pure := by
  intro s k l hs hk
  refine Ev.rounds (?_ : Ev _ true)
  unfold clavigerlaw07_RoundBack.f
  by_cases h : s.size = 16
  · refine evp (by omega) ?_
    by_cases h' : k.size = 16
    · refine Ev.step (f := fun k0 => ((round_Shift.f s).bind fun t418 => ((round_Shift.f t418).bind fun t419 => ((round_Shift.f t419).bind fun t420 => ((round_Shift.f t420).bind fun t421 => ((round_Do.f k0 s k l).bind fun t422 => ((round_Undo.f k0 t422 k l).bind fun t423 => (if t423.toList = s.toList then ((round_Undo.f k0 s k l).bind fun t424 => ((round_Do.f k0 t424 k l).bind fun t425 => (if t425.toList = s.toList then ((round_Mix.f s).bind fun t426 => ((round_Unmix.f t426).bind fun t427 => (if t427.toList = s.toList then ((round_Shift.f s).bind fun t428 => ((round_Unshift.f t428).bind fun t429 => (if t429.toList = s.toList then (if t421.toList = s.toList then ((clavigerlaw07_awake.f).bind fun t430 => (some t430)) else (some false)) else (some false)))) else (some false)))) else (some false)))) else (some false))))))))) (fun n => by simp only [clavigerlaw07_RoundBack.j0]; rw [if_neg (by simp; omega)]) ?_
      refine evs (shift_t _) (evs (shift_t _) (evs (shift_t _) (evs (shift_t _) (evb (do_t _ _ _) (evb (un_t _ _ _) (evp (by rw [un_do h h']) ?_))))))
      refine evb (un_t _ _ _) (evb (do_t _ _ _) (evp (by rw [do_un h h']) (evs (mix_t _) (evs (unmix_t _) (evp (by rw [um_mx h]) ?_)))))
      exact evs (shift_t _) (evs (unshift_t _) (evp (by rw [uh_sh h]) (evp (by rw [sh_4 h]) (evs awake07 (Ev.now _)))))
    · have := back_no s k l (fun e => h' e.2)
      rw [show ((k.size : Int) != 16) = true from bne_iff_ne.mpr (by omega)]
      exact this
  · exact evn (by omega) (back_no s k l (fun e => h e.1))
theorem adds_no (s t : ByteArray) : Ev (fun n => clavigerlaw07_RoundAdds.j0 n s t true) true :=
  Ev.step (f := fun n => (clavigerlaw07_awake.f).bind fun t => some t) (fun n => by simp only [clavigerlaw07_RoundAdds.j0]; rw [if_pos True.intro]) (evs awake07 (Ev.now _))
theorem RoundAdds : clavigerlaw07_RoundAdds.Pure := by
  intro s t hs ht
  refine Ev.rounds (?_ : Ev _ true)
  unfold clavigerlaw07_RoundAdds.f
  by_cases h : s.size = 16
  · refine evp (by omega) ?_
    by_cases h' : t.size = 16
    · refine Ev.step (f := fun _ => ((round_Key.f s t).bind fun t167 => ((round_Mix.f t167).bind fun t168 => ((round_Mix.f s).bind fun t169 => ((round_Mix.f t).bind fun t170 => ((round_Key.f t169 t170).bind fun t171 => (if t168.toList = t171.toList then ((round_Key.f s t).bind fun t172 => ((round_Unmix.f t172).bind fun t173 => ((round_Unmix.f s).bind fun t174 => ((round_Unmix.f t).bind fun t175 => ((round_Key.f t174 t175).bind fun t176 => (if t173.toList = t176.toList then ((clavigerlaw07_awake.f).bind fun t177 => (some t177)) else (some false))))))) else (some false)))))))) (fun n => by simp only [clavigerlaw07_RoundAdds.j0]; rw [if_neg (by simp; omega)]) ?_
      refine evs (key_t _ _) (evs (mix_t _) (evs (mix_t _) (evs (mix_t _) (evs (key_t _ _) (evp (by rw [mx_add h h']) ?_)))))
      exact evs (key_t _ _) (evs (unmix_t _) (evs (unmix_t _) (evs (unmix_t _) (evs (key_t _ _) (evp (by rw [um_add h h']) (evs awake07 (Ev.now _)))))))
    · rw [show ((t.size : Int) != 16) = true from bne_iff_ne.mpr (by omega)]
      exact adds_no s t
  · exact evn (by omega) (adds_no s t)
end Go.Proofs.Ytokkhnjedmlbhaa.M
