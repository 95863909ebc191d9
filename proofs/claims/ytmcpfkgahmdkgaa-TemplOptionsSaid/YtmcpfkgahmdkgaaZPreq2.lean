-- several texts in one (by the session's program shake.py)
import Derived.Test.YtmcpfkgahmdkgaaZPreq3
import Derived.Test.YtmcpfkgahmdkgaaZTempM
import Derived.Test.YtmcpfkgahmdkgaaZPrg33
import Derived.Test.YtmcpfkgahmdkgaaZPrL33awake
import Derived.Test.YtmcpfkgahmdkgaaZTempD
section
namespace Go.Proofs.Ytmcpfkgahmdkgaa.Pr
open Go.RowKit Go.Proofs.YtmcpfkgahmdkgaaW.PrintWords Go.Proofs.YtmcpfkgahmdkgaaW.PrintLast Go.Proofs.YtmcpfkgahmdkgaaW.PrintMore
attribute [local go_sem] max2_int min2_int max_two min_two max_three min_three max_four min_four   -- for this text's walks alone
set_option linter.unusedVariables false
set_option linter.unusedSimpArgs false

mutual
def clavigerlaw33_TemplBack.j0 : Nat → List (S102) → ByteArray → Bool → Option (Bool)
 | 0, _, _, _ => none
 | k + 1, x0, x1, x24 => if x24 = true then ((clavigerlaw33_awake.f k).bind fun t1 => (some t1)) else ((templ_Encode.f k x0).bind fun bt2 => (if bt2.2 = 0 then ((templ_Decode.f k bt2.1).bind fun bt3 => (if bt3.2 = 0 then ((clavigerplain_Attrs.f k bt3.1 x0).bind fun t4 => (if t4 = true then (clavigerlaw33_TemplBack.j1 k x0 x1) else (some false))) else (some false))) else (clavigerlaw33_TemplBack.j1 k x0 x1)))
def clavigerlaw33_TemplBack.j1 : Nat → List (S102) → ByteArray → Option (Bool)
 | 0, _, _ => none
 | k + 1, x0, x1 => (templ_Options.f k x0).bind fun bt5 => (if bt5.2 = 0 then ((templ_From.f k bt5.1).bind fun bt6 => (if bt6.2 = 0 then ((clavigerplain_Attrs.f k bt6.1 x0).bind fun t7 => (clavigerlaw33_TemplBack.j2 k x1 (!t7))) else (clavigerlaw33_TemplBack.j2 k x1 true))) else ((templ_Decode.f k x1).bind fun bt8 => ((templ_Encode.f k bt8.1).bind fun bt9 => (if bt8.2 = 0 then (if bt9.1.toList = x1.toList then (if bt9.2 = 0 then ((clavigerlaw33_awake.f k).bind fun t10 => (some t10)) else (some false)) else (some false)) else (if (bt8.1.length : Int) = 0 then ((clavigerlaw33_awake.f k).bind fun t11 => (some t11)) else (if bt9.1.toList = x1.toList then (if bt9.2 = 0 then ((clavigerlaw33_awake.f k).bind fun t12 => (some t12)) else (some false)) else (some false)))))))
def clavigerlaw33_TemplBack.j2 : Nat → ByteArray → Bool → Option (Bool)
 | 0, _, _ => none
 | k + 1, x1, x65 => if x65 = true then (some false) else ((templ_Decode.f k x1).bind fun bt13 => ((templ_Encode.f k bt13.1).bind fun bt14 => (if bt13.2 = 0 then (if bt14.1.toList = x1.toList then (if bt14.2 = 0 then ((clavigerlaw33_awake.f k).bind fun t15 => (some t15)) else (some false)) else (some false)) else (if (bt13.1.length : Int) = 0 then ((clavigerlaw33_awake.f k).bind fun t16 => (some t16)) else (if bt14.1.toList = x1.toList then (if bt14.2 = 0 then ((clavigerlaw33_awake.f k).bind fun t17 => (some t17)) else (some false)) else (some false))))))
end
def clavigerlaw33_TemplBack.f (k : Nat) (l0 : List (S102)) (a1 : ByteArray) : Option (Bool) := (clavigerplain_Few.f k l0 60).bind fun t18 => (if t18 = true then (clavigerlaw33_TemplBack.j0 k l0 a1 (decide ((a1.size : Int) > 2000))) else (clavigerlaw33_TemplBack.j0 k l0 a1 true))
theorem clavigerlaw33_TemplBack.mono_l : ∀ k, (∀ y19 y20 y21, LeO (clavigerlaw33_TemplBack.j0 k y19 y20 y21) (clavigerlaw33_TemplBack.j0 (k + 1) y19 y20 y21)) ∧ (∀ y19 y20, LeO (clavigerlaw33_TemplBack.j1 k y19 y20) (clavigerlaw33_TemplBack.j1 (k + 1) y19 y20)) ∧ (∀ y19 y20, LeO (clavigerlaw33_TemplBack.j2 k y19 y20) (clavigerlaw33_TemplBack.j2 (k + 1) y19 y20))
 | 0 => ⟨fun _ _ _ r h => by simp [clavigerlaw33_TemplBack.j0] at h, fun _ _ r h => by simp [clavigerlaw33_TemplBack.j1] at h, fun _ _ r h => by simp [clavigerlaw33_TemplBack.j2] at h⟩
 | k + 1 => by
  obtain ⟨ih0, ih1, ih2⟩ := clavigerlaw33_TemplBack.mono_l k
  refine ⟨?_, ?_, ?_⟩
  ·intro y19 y20 y21
   unfold clavigerlaw33_TemplBack.j0
   repeat' first
   | (with_reducible exact ih0 _ _ _)
   | (with_reducible exact ih1 _ _)
   | (with_reducible exact ih2 _ _)
   | (with_reducible exact clavigerlaw33_awake.mono _)
   | (with_reducible exact clavigerplain_Attrs.mono _ _ _)
   | (with_reducible exact clavigerplain_Few.mono _ _ _)
   | (with_reducible exact templ_Decode.mono _ _)
   | (with_reducible exact templ_Encode.mono _ _)
   | (with_reducible exact templ_From.mono _ _)
   | (with_reducible exact templ_Options.mono _ _)
   | (with_reducible exact LeO.refl _)
   | (with_reducible exact LeO.none _)
   | (with_reducible refine LeO.ite ?_ ?_)
   | (with_reducible refine LeO.bind ?_ (fun _ => ?_))
  ·intro y19 y20
   unfold clavigerlaw33_TemplBack.j1
   repeat' first
   | (with_reducible exact ih0 _ _ _)
   | (with_reducible exact ih1 _ _)
   | (with_reducible exact ih2 _ _)
   | (with_reducible exact clavigerlaw33_awake.mono _)
   | (with_reducible exact clavigerplain_Attrs.mono _ _ _)
   | (with_reducible exact clavigerplain_Few.mono _ _ _)
   | (with_reducible exact templ_Decode.mono _ _)
   | (with_reducible exact templ_Encode.mono _ _)
   | (with_reducible exact templ_From.mono _ _)
   | (with_reducible exact templ_Options.mono _ _)
   | (with_reducible exact LeO.refl _)
   | (with_reducible exact LeO.none _)
   | (with_reducible refine LeO.ite ?_ ?_)
   | (with_reducible refine LeO.bind ?_ (fun _ => ?_))
  ·intro y19 y20
   unfold clavigerlaw33_TemplBack.j2
   repeat' first
   | (with_reducible exact ih0 _ _ _)
   | (with_reducible exact ih1 _ _)
   | (with_reducible exact ih2 _ _)
   | (with_reducible exact clavigerlaw33_awake.mono _)
   | (with_reducible exact clavigerplain_Attrs.mono _ _ _)
   | (with_reducible exact clavigerplain_Few.mono _ _ _)
   | (with_reducible exact templ_Decode.mono _ _)
   | (with_reducible exact templ_Encode.mono _ _)
   | (with_reducible exact templ_From.mono _ _)
   | (with_reducible exact templ_Options.mono _ _)
   | (with_reducible exact LeO.refl _)
   | (with_reducible exact LeO.none _)
   | (with_reducible refine LeO.ite ?_ ?_)
   | (with_reducible refine LeO.bind ?_ (fun _ => ?_))
theorem clavigerlaw33_TemplBack.mono : ∀ a0 a1 k, LeO (clavigerlaw33_TemplBack.f k a0 a1) (clavigerlaw33_TemplBack.f (k + 1) a0 a1) := by
 intro a0 a1 k
 obtain ⟨ih0, ih1, ih2⟩ := clavigerlaw33_TemplBack.mono_l k
 unfold clavigerlaw33_TemplBack.f
 repeat' first
   | (with_reducible exact ih0 _ _ _)
   | (with_reducible exact ih1 _ _)
   | (with_reducible exact ih2 _ _)
   | (with_reducible exact clavigerlaw33_awake.mono _)
   | (with_reducible exact clavigerplain_Attrs.mono _ _ _)
   | (with_reducible exact clavigerplain_Few.mono _ _ _)
   | (with_reducible exact templ_Decode.mono _ _)
   | (with_reducible exact templ_Encode.mono _ _)
   | (with_reducible exact templ_From.mono _ _)
   | (with_reducible exact templ_Options.mono _ _)
   | (with_reducible exact LeO.refl _)
   | (with_reducible exact LeO.none _)
   | (with_reducible refine LeO.ite ?_ ?_)
   | (with_reducible refine LeO.bind ?_ (fun _ => ?_))
end Go.Proofs.Ytmcpfkgahmdkgaa.Pr
end
section
namespace Go.Proofs.Ytmcpfkgahmdkgaa.Pr
open Go.RowKit Go.Proofs.YtmcpfkgahmdkgaaW.PrintWords Go.Proofs.YtmcpfkgahmdkgaaW.PrintLast Go.Proofs.YtmcpfkgahmdkgaaW.PrintMore
attribute [local go_sem] max2_int min2_int max_two min_two max_three min_three max_four min_four   -- for this text's walks alone
set_option linter.unusedVariables false
set_option linter.unusedSimpArgs false

def clavigerlaw33_TemplTells.j0 : Nat → List (S102) → ByteArray → Bool → Option (Bool)
 | 0, _, _, _ => none
 | k + 1, x0, x1, x20 => if x20 = true then ((clavigerlaw33_awake.f k).bind fun t1 => (some t1)) else ((templ_Encode.f k x0).bind fun bt2 => ((clavigerref33_Encode.f k x0).bind fun bt3 => ((templ_Decode.f k x1).bind fun bt4 => ((clavigerref33_Decode.f k x1).bind fun bt5 => (if bt2.1.toList = bt3.1.toList then (if bt2.2 = bt3.2 then ((clavigerplain_Attrs.f k bt4.1 bt5.1).bind fun t6 => (if t6 = true then (if bt4.2 = bt5.2 then ((clavigerlaw33_awake.f k).bind fun t7 => (some t7)) else (some false)) else (some false))) else (some false)) else (some false))))))
def clavigerlaw33_TemplTells.f (k : Nat) (l0 : List (S102)) (a1 : ByteArray) : Option (Bool) := (clavigerplain_Few.f k l0 60).bind fun t8 => (if t8 = true then (clavigerlaw33_TemplTells.j0 k l0 a1 (decide ((a1.size : Int) > 2000))) else (clavigerlaw33_TemplTells.j0 k l0 a1 true))
theorem clavigerlaw33_TemplTells.mono_l : ∀ k, (∀ y9 y10 y11, LeO (clavigerlaw33_TemplTells.j0 k y9 y10 y11) (clavigerlaw33_TemplTells.j0 (k + 1) y9 y10 y11))
 | 0 => fun _ _ _ r h => by simp [clavigerlaw33_TemplTells.j0] at h
 | k + 1 => by
  have ih0 := clavigerlaw33_TemplTells.mono_l k
  ·intro y9 y10 y11
   unfold clavigerlaw33_TemplTells.j0
   repeat' first
   | (with_reducible exact ih0 _ _ _)
   | (with_reducible exact clavigerlaw33_awake.mono _)
   | (with_reducible exact clavigerplain_Attrs.mono _ _ _)
   | (with_reducible exact clavigerplain_Few.mono _ _ _)
   | (with_reducible exact clavigerref33_Decode.mono _ _)
   | (with_reducible exact clavigerref33_Encode.mono _ _)
   | (with_reducible exact templ_Decode.mono _ _)
   | (with_reducible exact templ_Encode.mono _ _)
   | (with_reducible exact LeO.refl _)
   | (with_reducible exact LeO.none _)
   | (with_reducible refine LeO.ite ?_ ?_)
   | (with_reducible refine LeO.bind ?_ (fun _ => ?_))
theorem clavigerlaw33_TemplTells.mono : ∀ a0 a1 k, LeO (clavigerlaw33_TemplTells.f k a0 a1) (clavigerlaw33_TemplTells.f (k + 1) a0 a1) := by
 intro a0 a1 k
 have ih0 := clavigerlaw33_TemplTells.mono_l k
 unfold clavigerlaw33_TemplTells.f
 repeat' first
   | (with_reducible exact ih0 _ _ _)
   | (with_reducible exact clavigerlaw33_awake.mono _)
   | (with_reducible exact clavigerplain_Attrs.mono _ _ _)
   | (with_reducible exact clavigerplain_Few.mono _ _ _)
   | (with_reducible exact clavigerref33_Decode.mono _ _)
   | (with_reducible exact clavigerref33_Encode.mono _ _)
   | (with_reducible exact templ_Decode.mono _ _)
   | (with_reducible exact templ_Encode.mono _ _)
   | (with_reducible exact LeO.refl _)
   | (with_reducible exact LeO.none _)
   | (with_reducible refine LeO.ite ?_ ?_)
   | (with_reducible refine LeO.bind ?_ (fun _ => ?_))
end Go.Proofs.Ytmcpfkgahmdkgaa.Pr
end
section
namespace Go.Proofs.Ytmcpfkgahmdkgaa.M
open Go.RowKit Go.Proofs.Ytmcpfkgahmdkgaa.Pr Go.Proofs.YtmcpfkgahmdkgaaW.PrintWords Go.Proofs.YtmcpfkgahmdkgaaW.PrintLast Go.Proofs.YtmcpfkgahmdkgaaW.PrintMore
set_option linter.unusedSimpArgs false
theorem awake33 : Ev (fun k => clavigerlaw33_awake.f k) true := Ev.of clavigerlaw33_awake.mono (k := 60) (by kernel_rfl)
theorem body_ge : ∀ l : List At, l.length ≤ (bodyL l).length
  | [] => Nat.le_refl _
  | a :: r => by
    show _ ≤ (pieceL a ++ bodyL r).length
    have := body_ge r
    rw [List.length_append, pieceL_len, List.length_cons]
    omega
theorem decA_cases (t : ByteArray) : ((decA t).2 ≠ 0 ∧ (decA t).1 = []) ∨ ((decA t).2 = 0 ∧ (decA t).1.length ≤ 32 ∧ encA (decA t).1 = (t, 0)) := by
  unfold decA
  cases h : unhexL (nb t) with
  | none => exact .inl ⟨by show (5 : Int) ≠ 0; omega, rfl⟩
  | some S =>
    obtain ⟨h1, h2, -⟩ := hex_unhex h
    show ((decS S).2 ≠ 0 ∧ (decS S).1 = []) ∨ ((decS S).2 = 0 ∧ (decS S).1.length ≤ 32 ∧ encA (decS S).1 = (t, 0))
    unfold decS
    cases hp : parseF S.length S with
    | none => exact .inl ⟨by show (5 : Int) ≠ 0; omega, rfl⟩
    | some l =>
      show ((fin l).2 ≠ 0 ∧ (fin l).1 = []) ∨ ((fin l).2 = 0 ∧ (fin l).1.length ≤ 32 ∧ encA (fin l).1 = (t, 0))
      unfold fin
      by_cases hc : checkA l = 0
      · rw [if_pos hc]
        refine .inr ⟨rfl, (checkA_ok hc).1, ?_⟩
        unfold encA
        rw [if_pos hc, body_parse _ S l h2 hp, h1, mkB_nb]
      · rw [if_neg hc]
        exact .inl ⟨hc, rfl⟩
theorem decA_len (t : ByteArray) : (decA t).1.length ≤ 32 := by
  rcases decA_cases t with ⟨-, h⟩ | ⟨-, h, -⟩
  · rw [h]; simp
  · exact h
/-- What Options answers. -/
def optA (l : List At) : List S77 × Int :=
  if (encA l).2 = 0 then (if (encA l).1.toList = [] then ([], 0) else if (encA l).1.size > 9000 then ([], 4) else ([⟨⟨#[49, 48]⟩, (encA l).1⟩], 0)) else ([], (encA l).2)
theorem opt_stop (x : ByteArray) (e : Int) : Ev (fun k => templ_Options.j0 k x e true) ([], e) := by
  refine evu ?_
  simp only [templ_Options.j0]
  exact evp trivial (Ev.now _)
theorem opt_c (l : List At) : Ev (fun k => templ_Options.f k l) (optA l) := by
  unfold templ_Options.f optA
  refine evb (enc_c l) ?_
  by_cases h : (encA l).2 = 0
  · rw [if_pos h]
    refine evp h ?_
    by_cases g : (encA l).1.toList = []
    · rw [if_pos g, beq_iff_eq.2 g, h]
      exact opt_stop _ _
    · rw [if_neg g, beq_eq_false_iff_ne.2 g]
      refine evu ?_
      simp only [templ_Options.j0]
      refine evn (by decide) ?_
      by_cases q : (encA l).1.size > 9000
      · rw [if_pos q]
        exact evp (by omega) (Ev.now _)
      · rw [if_neg q]
        exact evn (by omega) (Ev.now _)
  · rw [if_neg h]
    exact evn h (opt_stop _ _)
theorem from_nil : Ev (fun k => templ_From.f k []) ([], 0) := by
  unfold templ_From.f
  exact evp rfl (Ev.now _)
theorem encA_err {l : List At} (h : (encA l).2 = 0) : checkA l = 0 ∧ encA l = (mkB (hexL (bodyL l)), 0) := by
  unfold encA at h ⊢
  by_cases g : checkA l = 0
  · rw [if_pos g]
    exact ⟨g, rfl⟩
  · rw [if_neg g] at h
    exact absurd h g
end Go.Proofs.Ytmcpfkgahmdkgaa.M
namespace Go.Proofs.Ytmcpfkgahmdkgaa.Pr
open Go Go.RowKit Go.Proofs.YtmcpfkgahmdkgaaW.PrintWords Go.Proofs.YtmcpfkgahmdkgaaW.PrintLast Go.Proofs.YtmcpfkgahmdkgaaW.PrintMore
end Go.Proofs.Ytmcpfkgahmdkgaa.Pr
end
section
namespace Go.Proofs.Ytmcpfkgahmdkgaa.Pr
open Go.RowKit Go.Proofs.YtmcpfkgahmdkgaaW.PrintWords Go.Proofs.YtmcpfkgahmdkgaaW.PrintLast Go.Proofs.YtmcpfkgahmdkgaaW.PrintMore
attribute [local go_sem] max2_int min2_int max_two min_two max_three min_three max_four min_four   -- for this text's walks alone
set_option linter.unusedVariables false
set_option linter.unusedSimpArgs false

theorem eqA77 (d : Nat) (w : World) (x0 y0 : ByteArray) (x1 y1 : ByteArray) :
  (Op.equalIn (d + 2) 77 (.agg #[.string x0, .string x1]) (.agg #[.string y0, .string y1])).run Try.prog w = .ok (x0.toList == y0.toList && (x1.toList == y1.toList)) w := by
 refine eqA_of Try.underlying77 (by kernel_rfl) ?_
 refine eqf_cons (by rfl) (by go_simp; rfl) (by go_simp; rfl) (by go_simp) ?_
 exact eqf_last (by rfl) (by go_simp; rfl) (by go_simp; rfl) (by go_simp)
end Go.Proofs.Ytmcpfkgahmdkgaa.Pr
end
