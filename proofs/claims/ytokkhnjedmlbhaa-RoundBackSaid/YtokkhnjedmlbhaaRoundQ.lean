/-
  The program's steps of a round as texts. Plain.
-/
import Derived.Test.YtokkhnjedmlbhaaRoundP
import Derived.Test.YtokkhnjedmlbhaaXorP
import Derived.Test.YtokkhnjedmlbhaaPrg07
import Derived.Test.YtokkhnjedmlbhaaPrk
namespace Go.Proofs.Ytokkhnjedmlbhaa.M
open Go.RowKit Go.Proofs.Ytokkhnjedmlbhaa.Pr Go.Proofs.YtokkhnjedmlbhaaW.PrintWords Go.Proofs.YtokkhnjedmlbhaaW.PrintLast Go.Proofs.YtokkhnjedmlbhaaW.PrintMore Go.Proofs.YtokkhnjedmlbhaaGf
set_option linter.unusedSimpArgs false
theorem colsum (g : Nat → Nat) (i : Nat) : ((g (4 * (i / 4)) ^^^ g (4 * (i / 4) + 1)) ^^^ g (4 * (i / 4) + 2)) ^^^ g (4 * (i / 4) + 3) = g i ^^^ (g (nx i 1) ^^^ (g (nx i 2) ^^^ g (nx i 3))) := by
  obtain h | h | h | h : i % 4 = 0 ∨ i % 4 = 1 ∨ i % 4 = 2 ∨ i % 4 = 3 := by omega
  · rw [show g i = g (4 * (i / 4)) from congrArg g (by omega), show nx i 1 = 4 * (i / 4) + 1 by unfold nx; omega, show nx i 2 = 4 * (i / 4) + 2 by unfold nx; omega, show nx i 3 = 4 * (i / 4) + 3 by unfold nx; omega]
    simp only [Nat.xor_assoc]
  · rw [show g i = g (4 * (i / 4) + 1) from congrArg g (by omega), show nx i 1 = 4 * (i / 4) + 2 by unfold nx; omega, show nx i 2 = 4 * (i / 4) + 3 by unfold nx; omega, show nx i 3 = 4 * (i / 4) by unfold nx; omega]
    generalize g (4 * (i / 4)) = a; generalize g (4 * (i / 4) + 1) = b; generalize g (4 * (i / 4) + 2) = c; generalize g (4 * (i / 4) + 3) = d
    simp only [Nat.xor_assoc, Nat.xor_comm, xor_lc]
  · rw [show g i = g (4 * (i / 4) + 2) from congrArg g (by omega), show nx i 1 = 4 * (i / 4) + 3 by unfold nx; omega, show nx i 2 = 4 * (i / 4) by unfold nx; omega, show nx i 3 = 4 * (i / 4) + 1 by unfold nx; omega]
    generalize g (4 * (i / 4)) = a; generalize g (4 * (i / 4) + 1) = b; generalize g (4 * (i / 4) + 2) = c; generalize g (4 * (i / 4) + 3) = d
    simp only [Nat.xor_assoc, Nat.xor_comm, xor_lc]
  · rw [show g i = g (4 * (i / 4) + 3) from congrArg g (by omega), show nx i 1 = 4 * (i / 4) by unfold nx; omega, show nx i 2 = 4 * (i / 4) + 1 by unfold nx; omega, show nx i 3 = 4 * (i / 4) + 2 by unfold nx; omega]
    generalize g (4 * (i / 4)) = a; generalize g (4 * (i / 4) + 1) = b; generalize g (4 * (i / 4) + 2) = c; generalize g (4 * (i / 4) + 3) = d
    simp only [Nat.xor_assoc, Nat.xor_comm, xor_lc]
theorem mxG_MX {g : Nat → Nat} (hg : ∀ i, g i < 256) (i : Nat) : mxG g i = MX g i := by
  unfold mxG MX m0
  rw [colsum, show 4 * (i / 4) + (i % 4 + 1) % 4 = nx i 1 from rfl, xt_lin (hg _) (hg _)]
  generalize g i = a; generalize g (nx i 1) = b; generalize g (nx i 2) = c; generalize g (nx i 3) = d
  generalize xt a = a1; generalize xt b = b1
  simp only [Nat.xor_assoc, Nat.xor_comm, xor_lc, Nat.xor_self, Nat.xor_zero, Nat.zero_xor, xor_xc]
theorem prG_nx (g : Nat → Nat) (i : Nat) : prG g i = g i ^^^ xt (xt (g i ^^^ g (nx i 2))) := by
  unfold prG
  obtain h | h : i % 4 < 2 ∨ 2 ≤ i % 4 := by omega
  · rw [show g (4 * (i / 4) + i % 2) = g i from congrArg g (by omega), show 4 * (i / 4) + i % 2 + 2 = nx i 2 by unfold nx; omega]
  · rw [show g (4 * (i / 4) + i % 2 + 2) = g i from congrArg g (by omega), show 4 * (i / 4) + i % 2 = nx i 2 by unfold nx; omega, Nat.xor_comm (g (nx i 2))]
theorem prM_u0 {a b c d : Nat} (ha : a < 256) (hb : b < 256) (hc : c < 256) (hd : d < 256) : m0 (a ^^^ xt (xt (a ^^^ c))) (b ^^^ xt (xt (b ^^^ d))) (c ^^^ xt (xt (c ^^^ a))) (d ^^^ xt (xt (d ^^^ b))) = u0 a b c d := by
  unfold m0 u0
  simp only [gm_sm ha, gm_sm hb, gm_sm hc, gm_sm hd]
  have ha1 := xt_lt ha; have ha2 := xt_lt ha1; have ha3 := xt_lt ha2
  have hb1 := xt_lt hb; have hb2 := xt_lt hb1; have hb3 := xt_lt hb2
  have hc1 := xt_lt hc; have hc2 := xt_lt hc1; have hc3 := xt_lt hc2
  have hd1 := xt_lt hd; have hd2 := xt_lt hd1; have hd3 := xt_lt hd2
  simp (config := {maxDischargeDepth := 30}) only [xt_lin, xor_lt, ha, hb, hc, hd, ha1, ha2, ha3, hb1, hb2, hb3, hc1, hc2, hc3, hd1, hd2, hd3]
  clear ha1 ha2 ha3 hb1 hb2 hb3 hc1 hc2 hc3 hd1 hd2 hd3
  generalize xt (xt (xt a)) = a3; generalize xt (xt a) = a2; generalize xt a = a1
  generalize xt (xt (xt b)) = b3; generalize xt (xt b) = b2; generalize xt b = b1
  generalize xt (xt (xt c)) = c3; generalize xt (xt c) = c2; generalize xt c = c1
  generalize xt (xt (xt d)) = d3; generalize xt (xt d) = d2; generalize xt d = d1
  simp only [Nat.xor_assoc, Nat.xor_comm, xor_lc, Nat.xor_self, Nat.xor_zero, Nat.zero_xor, xor_xc]
theorem mxprG_UX {g : Nat → Nat} (hg : ∀ i, g i < 256) (i : Nat) : mxG (prG g) i = UX g i := by
  rw [mxG_MX (prG_lt hg)]
  unfold MX UX
  rw [prG_nx, prG_nx, prG_nx, prG_nx]
  simp only [nx_nx]
  rw [nx14, nx15]
  exact prM_u0 (hg _) (hg _) (hg _) (hg _)

theorem shift_t (s : ByteArray) : round_Shift.f s = some (shT s) := by
  unfold shT
  by_cases h : s.size = 16
  · rw [if_pos h]; exact shift_c h
  · rw [if_neg h]; unfold round_Shift.f; rw [if_neg h]
theorem unshift_t (s : ByteArray) : round_Unshift.f s = some (uhT s) := by
  unfold uhT
  by_cases h : s.size = 16
  · rw [if_pos h]; exact unshift_c h
  · rw [if_neg h]; unfold round_Unshift.f; rw [if_neg h]
theorem mix_t (s : ByteArray) : round_Mix.f s = some (mxT s) := by
  unfold mxT
  by_cases h : s.size = 16
  · rw [if_pos h, mix_c h, T_ge (fun i => mxG_MX (bb_lt s) i)]
  · rw [if_neg h]; unfold round_Mix.f; rw [if_neg h]
theorem unmix_t (s : ByteArray) : round_Unmix.f s = some (umT s) := by
  unfold umT
  by_cases h : s.size = 16
  · rw [if_pos h, unmix_c h, T_ge (fun i => mxprG_UX (bb_lt s) i)]
  · rw [if_neg h]; unfold round_Unmix.f; rw [if_neg h]
theorem key_t (s k : ByteArray) : round_Key.f s k = some (kyT s k) := by
  unfold round_Key.f kyT
  by_cases h : s.size = 16
  · by_cases h' : k.size = 16
    · rw [if_pos (by omega), if_pos (by omega), if_pos h, if_pos h', xor_c s k (by omega)]; rfl
    · rw [if_pos (by omega), if_neg (by omega), if_pos h, if_neg h']
  · rw [if_neg (by omega), if_neg h]
theorem do_t (s k : ByteArray) (l : Bool) : Ev (fun n => round_Do.f n s k l) (doT s k l) := by
  unfold round_Do.f doT
  by_cases h : s.size = 16
  · rw [if_pos h]
    refine evp (by omega) ?_
    by_cases h' : k.size = 16
    · rw [if_pos h']
      refine Ev.step (f := fun n => (sbox_Subs.f n s).bind fun t388 => ((round_Shift.f t388).bind fun t389 => (if l = true then ((round_Key.f t389 k).bind fun t390 => (some t390)) else ((round_Mix.f t389).bind fun t391 => ((round_Key.f t391 k).bind fun t392 => (some t392)))))) (fun n => by simp only [round_Do.j0]; rw [if_neg (by simp; omega)]) ?_
      refine evb (subs_c s (by omega)) (evs (shift_t _) ?_)
      cases l with
      | true => exact evp rfl (evs (key_t _ _) (Ev.now _))
      | false => exact evn (by simp) (evs (mix_t _) (evs (key_t _ _) (Ev.now _)))
    · rw [if_neg h']
      exact Ev.step (f := fun _ => some ⟨#[]⟩) (fun n => by simp only [round_Do.j0]; rw [if_pos (by simp; omega)]) (Ev.now _)
  · rw [if_neg h]
    refine evn (by omega) ?_
    exact Ev.step (f := fun _ => some ⟨#[]⟩) (fun n => by simp only [round_Do.j0]; rw [if_pos True.intro]) (Ev.now _)
theorem un_t (s k : ByteArray) (l : Bool) : Ev (fun n => round_Undo.f n s k l) (unT s k l) := by
  unfold round_Undo.f unT
  refine evs (key_t _ _) ?_
  cases l with
  | true => exact evp rfl (evs (unshift_t _) (evb (backs_c _ (by have := uhT_le (kyT s k); omega)) (Ev.now _)))
  | false => exact evn (by simp) (evs (unmix_t _) (evs (unshift_t _) (evb (backs_c _ (by have := uhT_le (umT (kyT s k)); omega)) (Ev.now _))))
end Go.Proofs.Ytokkhnjedmlbhaa.M
