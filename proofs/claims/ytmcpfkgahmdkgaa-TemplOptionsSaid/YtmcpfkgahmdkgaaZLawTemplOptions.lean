/-
  The row of TemplOptions. Conditions: those of the row.
-/
import Derived.Test.YtmcpfkgahmdkgaaRows
import Derived.Test.YtmcpfkgahmdkgaaZRowAttr
import Derived.WalkKit
import Derived.ProofKit
import Derived.OpenShut
import Derived.ShutString
import Derived.ChangeOld
import Derived.Below
import Derived.SizedLaws
namespace Go.Proofs.Ytmcpfkgahmdkgaa.templOptions
open Go.ChangeShapes Go.WideShapes Go.ChangeAt Go.RowKit
open Go.ChangeMaps (open_string shut_string)
set_option linter.unusedVariables false
theorem own : ownKnob Try.prog.godebug = none := by kernel_rfl
theorem laidOut : laidOutB Try.prog = true := by kernel_rfl
set_option maxRecDepth 100000 in
theorem lifted (os : Os) (started : os.Started) (H : Type) (enc : TypeId × Value → H) :
  ReturnsInHanded {} Try.checked os 12 .any (Rows.templOptionsSpec.pre6 enc Try.prog Try.f12 Rows.templOptionsRow.domain false) (Rows.templOptionsSpec.post enc Try.prog Try.f12 false true false false) := by
 refine returnsInHanded_of_change_sized (C := Try.checked) own started (by kernel_rfl) Try.func12
  (ChangeSpec.witness6 (enc := enc) (C := Try.checked) false ⟨#[], #[.slice none 0 0, .slice none 0 0], []⟩ 8 (by kernel_rfl) (by kernel_rfl) (by kernel_rfl) (by kernel_rfl)) ?_
 intro W base args ds gs before hval0 hW hcnd hsz0 _
 have hsz : (DataW.weightsEach Try.prog (Try.f12.params.toList ++ Rows.templOptionsSpec.plain.varTypes Try.prog) (ds ++ gs)).all (· ≤ reachBytes) = true := hsz0
 have hval : ∀ (j : Nat) t v, Try.f12.params[j]? = some t → args[j]? = some v → Value.okWide Try.prog W .any base t v := hval0
 have hW' := hW
 obtain ⟨p, q, hA0, hV, rfl, hfz, hnd⟩ := hW
 have hA : DataW.TrodAll enc Try.prog W 0 (fun _ => true) true Try.f12.params.toList args.toList ds p := hA0
 rw [Try.params12] at hA hval hsz
 obtain ⟨v0, vs0, d0, ds0, p0, q0, hargs, rfl, rfl, h0, r0⟩ := trodAll_cons hA
 obtain ⟨v1, vs1, d1, ds1, p1, q1, rfl, rfl, rfl, h1, r1⟩ := trodAll_cons r0
 obtain ⟨rfl, rfl, rfl⟩ := trodAll_nil r1
 obtain rfl : args = #[v0, v1] := by cases args; simp_all
 obtain ⟨rfl, rfl⟩ := trodVars_none hV
 have k0 := h0
 have lt0 : ∀ x ∈ p0, x.block < W.heap.size := by obtain ⟨m, hm⟩ := k0; exact DataW.trod_lt m _ _ _ hm
 obtain ⟨A0, l0, c0, rfl, w0⟩ := RowMem.open_attrs (hval 0 66 v0 rfl rfl) h0
 have k1 := h1
 have lt1 : ∀ x ∈ p1, x.block < W.heap.size := by obtain ⟨m, hm⟩ := k1; exact DataW.trod_lt m _ _ _ hm
 obtain ⟨A1, l1, c1, rfl, w1⟩ := RowMem.open_opts (hval 1 73 v1 rfl rfl) h1
 clear hA0 hval0 hsz0 hsz
 refine (Pr.templOptions_walk A0 c0 l0 A1 c1 l1 W w0 w1).mono fun e W' ⟨he, bel⟩ => ?_
 subst he
 exact ⟨_, rfl, _, _, _, [], _, [], hW', trodAll_mk1 (shut_bool Try.underlying4 _), (trodAll_cons_mk (Below.trod laidOut (by kernel_rfl) (of_decide_eq_true (by kernel_rfl)) k0 bel lt0) (trodAll_cons_mk (Below.trod laidOut (by kernel_rfl) (of_decide_eq_true (by kernel_rfl)) k1 bel lt1) trodAll_mk0)), rfl, bel.frame _, fun h => by cases h⟩
theorem named : Try.prog.funcNamed Rows.templOptionsRow.func = some 12 := by kernel_rfl
set_option maxHeartbeats 8000000 in
theorem closed : joinedFacts Try.prog 12 Try.f12 Rows.templOptionsSpec Rows.templOptionsRow = true := by
 unfold joinedFacts
 repeat' (with_reducible apply RowAid.and_mk)
 all_goals first
  | (with_reducible exact RowAid.enter)
  | (with_reducible exact RowAid.laid)
  | (with_reducible exact RowAid.rowed)
  | (with_reducible exact RowAid.heard)
  | (rw [RowAid.final]; as_aux_lemma => kernel_rfl)
  | (rw [RowAid.make]; as_aux_lemma => kernel_rfl)
  | (rw [RowAid.plain]; as_aux_lemma => kernel_rfl)
  | (as_aux_lemma => kernel_rfl)
theorem inst : Try.f12.isInstance Try.prog Rows.templOptionsRow.origin Rows.templOptionsRow.targs := of_decide_eq_true (by kernel_rfl)
theorem wrap : Try.f12.isWrapper Try.prog Rows.templOptionsRow.wrapper Rows.templOptionsRow.mainSum := (by unfold Func.isWrapper; first | (rw [if_pos (by decide +kernel)]; kernel_rfl) | (rw [if_neg (by decide +kernel)]; exact ⟨rfl, rfl⟩))
theorem over : Rows.templOptionsRow.holds Try.pinned (OpenSpec.ofChange Rows.templOptionsSpec) :=
 OpenClaim.holds_of_wide 12 Try.f12 rfl rfl rfl rfl rfl rfl rfl ⟨rfl, rfl, rfl, rfl, rfl⟩ rfl rfl rfl rfl rfl named Try.func12 closed
  inst wrap
  (fun os started H enc _ => lifted os started H enc)
theorem proved : Rows.TemplOptionsSaid := over
end Go.Proofs.Ytmcpfkgahmdkgaa.templOptions
namespace Go.Proofs.Ytmcpfkgahmdkgaa
/-- The row, under a short name, for the claim. -/
theorem templOptions_holds : Rows.TemplOptionsSaid := templOptions.proved
end Go.Proofs.Ytmcpfkgahmdkgaa
