-- written by the session's program wip/hp.py over the kit's print; Lean checks it
import Derived.Test.YtokkhnjedmlbhaaRows
import Derived.Test.YtokkhnjedmlbhaaZRowAid
import Derived.WalkKit
import Derived.ProofKit
import Derived.OpenShut
import Derived.ShutString
import Derived.ChangeOld
import Derived.Below
import Derived.SizedLaws
namespace Go.Proofs.Ytokkhnjedmlbhaa.cmacDoubles
open Go.ChangeShapes Go.WideShapes Go.ChangeAt Go.RowKit
open Go.ChangeMaps (open_string shut_string)
set_option linter.unusedVariables false
theorem own : ownKnob Try.prog.godebug = none := by kernel_rfl
set_option maxRecDepth 100000 in
theorem lifted (os : Os) (started : os.Started) (H : Type) (enc : TypeId × Value → H) :
  ReturnsInHanded {} Try.checked os 19 .any (Rows.cmacDoublesSpec.pre6 enc Try.prog Try.f19 Rows.cmacDoublesRow.domain false) (Rows.cmacDoublesSpec.post enc Try.prog Try.f19 false true false false) := by
 refine returnsInHanded_of_change_sized (C := Try.checked) own started (by kernel_rfl) Try.func19
  (ChangeSpec.witness6 (enc := enc) (C := Try.checked) false ⟨#[], #[.string ByteArray.empty, .string ByteArray.empty], []⟩ 8 (by kernel_rfl) (by kernel_rfl) (by kernel_rfl) (by kernel_rfl)) ?_
 intro W base args ds gs before hval0 hW hcnd hsz0 _
 have hsz : (DataW.weightsEach Try.prog (Try.f19.params.toList ++ Rows.cmacDoublesSpec.plain.varTypes Try.prog) (ds ++ gs)).all (· ≤ reachBytes) = true := hsz0
 have hval : ∀ (j : Nat) t v, Try.f19.params[j]? = some t → args[j]? = some v → Value.okWide Try.prog W .any base t v := hval0
 have hW' := hW
 obtain ⟨p, q, hA0, hV, rfl, hfz, hnd⟩ := hW
 have hA : DataW.TrodAll enc Try.prog W 0 (fun _ => true) true Try.f19.params.toList args.toList ds p := hA0
 rw [Try.params19] at hA hval hsz
 obtain ⟨v0, vs0, d0, ds0, p0, q0, hargs, rfl, rfl, h0, r0⟩ := trodAll_cons hA
 obtain ⟨v1, vs1, d1, ds1, p1, q1, rfl, rfl, rfl, h1, r1⟩ := trodAll_cons r0
 obtain ⟨rfl, rfl, rfl⟩ := trodAll_nil r1
 obtain rfl : args = #[v0, v1] := by cases args; simp_all
 obtain ⟨rfl, rfl⟩ := trodVars_none hV
 obtain ⟨a0, rfl, rfl, rfl, y0⟩ := open_string Try.underlying9 (hval 0 9 v0 rfl rfl) h0
 obtain ⟨a1, rfl, rfl, rfl, y1⟩ := open_string Try.underlying9 (hval 1 9 v1 rfl rfl) h1
 clear hA0 hval0 hsz0 hsz
 refine (Pr.cmacDb_walk a0 a1 W).mono fun e W' ⟨he, bel⟩ => ?_
 subst he
 exact ⟨_, rfl, _, _, _, [], _, [], hW', trodAll_mk1 (shut_bool Try.underlying4 _), (trodAll_cons_mk (shut_string Try.underlying9 y0) (trodAll_cons_mk (shut_string Try.underlying9 y1) trodAll_mk0)), rfl, bel.frame _, fun h => by cases h⟩
theorem named : Try.prog.funcNamed Rows.cmacDoublesRow.func = some 19 := by kernel_rfl
set_option maxHeartbeats 8000000 in
theorem closed : joinedFacts Try.prog 19 Try.f19 Rows.cmacDoublesSpec Rows.cmacDoublesRow = true := by
 unfold joinedFacts
 repeat' (with_reducible apply RowAid.and_mk)
 all_goals first
  | (with_reducible exact RowAid.enter)
  | (with_reducible exact RowAid.laid)
  | (with_reducible exact RowAid.rowed)
  | (with_reducible exact RowAid.heard)
  | (rw [RowAid.final]; as_aux_lemma => kernel_rfl)
  | (rw [RowAid.make]; as_aux_lemma => kernel_rfl)
  | (rw [RowAid.plain]; as_aux_lemma => kernel_rfl)
  | (as_aux_lemma => kernel_rfl)
theorem inst : Try.f19.isInstance Try.prog Rows.cmacDoublesRow.origin Rows.cmacDoublesRow.targs := of_decide_eq_true (by kernel_rfl)
theorem wrap : Try.f19.isWrapper Try.prog Rows.cmacDoublesRow.wrapper Rows.cmacDoublesRow.mainSum := (by unfold Func.isWrapper; first | (rw [if_pos (by decide +kernel)]; kernel_rfl) | (rw [if_neg (by decide +kernel)]; exact ⟨rfl, rfl⟩))
theorem over : Rows.cmacDoublesRow.holds Try.pinned (OpenSpec.ofChange Rows.cmacDoublesSpec) :=
 OpenClaim.holds_of_wide 19 Try.f19 rfl rfl rfl rfl rfl rfl rfl ⟨rfl, rfl, rfl, rfl, rfl⟩ rfl rfl rfl rfl rfl named Try.func19 closed
  inst wrap
  (fun os started H enc _ => lifted os started H enc)
theorem proved : Rows.CmacDoublesSaid := over
#print axioms proved
end Go.Proofs.Ytokkhnjedmlbhaa.cmacDoubles
namespace Go.Proofs.Ytokkhnjedmlbhaa
/-- The row, under a short name, for the claim. -/
theorem cmacDoubles_holds : Rows.CmacDoublesSaid := cmacDoubles.proved
end Go.Proofs.Ytokkhnjedmlbhaa
