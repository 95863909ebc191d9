-- several texts in one (by the session's program shake.py)
import Derived.Test.YtmcpfkgahmdkgaaZPreq2
import Derived.Test.YtmcpfkgahmdkgaaZPrL33TemplOptions
import Derived.Test.YtmcpfkgahmdkgaaZPrL33awake
import Derived.Test.YtmcpfkgahmdkgaaZPrg33
import Derived.Test.YtmcpfkgahmdkgaaZPreq3
import Derived.Test.YtmcpfkgahmdkgaaRows
import Derived.JoinedOf
import Derived.KernelRfl
import Derived.OpenShut
import Derived.Deep.Slices
import Derived.ChangeSame
import Derived.Lib.SmallJoins
section
namespace Go.Proofs.Ytmcpfkgahmdkgaa.M
open Go.RowKit Go.Proofs.Ytmcpfkgahmdkgaa.Pr Go.Proofs.YtmcpfkgahmdkgaaW.PrintWords Go.Proofs.YtmcpfkgahmdkgaaW.PrintLast Go.Proofs.YtmcpfkgahmdkgaaW.PrintMore
set_option linter.unusedSimpArgs false
abbrev Op := S76
abbrev Oq := S77
def conv (a : Op) : Oq := ⟨a.f0, a.f1⟩
theorem rdo_drop {l r : List Op} {a : Op} {i : Nat} (h : l.drop i = a :: r) : rd_T76 l (i : Int) = a ∧ i < l.length ∧ l.drop (i + 1) = r ∧ l.take (i + 1) = l.take i ++ [a] := by
  have hi : i < l.length := by
    rcases Nat.lt_or_ge i l.length with g | g
    · exact g
    · rw [List.drop_of_length_le g] at h; cases h
  have h' := h
  rw [List.drop_eq_getElem_cons hi] at h
  injection h with h1 h2
  refine ⟨?_, hi, h2, ?_⟩
  · show l.getD (Int.toNat (i : Int)) _ = a
    rw [Int.toNat_natCast, List.getD_eq_getElem?_getD, List.getElem?_eq_getElem hi]
    exact h1
  · rw [List.take_add_one, List.getElem?_eq_getElem hi, h1]
    rfl
/-- What the reference's Options answers. -/
def roptA (l : List At) : List Op × Int :=
  if (encA l).2 = 0 then (if l.length = 0 then ([], 0) else if (encA l).1.size > 9000 then ([], 4) else ([⟨⟨#[49, 48]⟩, (encA l).1⟩], 0)) else ([], (encA l).2)
theorem ropt_stop (x : ByteArray) (e : Int) : Ev (fun k => clavigerref33_Options.j0 k x e true) ([], e) := by
  refine evu ?_
  simp only [clavigerref33_Options.j0]
  exact evp trivial (Ev.now _)
theorem ropt_c (l : List At) : Ev (fun k => clavigerref33_Options.f k l) (roptA l) := by
  unfold clavigerref33_Options.f roptA
  refine evb (renc_c l) ?_
  by_cases h : (encA l).2 = 0
  · rw [if_pos h]
    refine evp h ?_
    by_cases g : l.length = 0
    · rw [if_pos g, show ((l.length : Int) == 0) = true from beq_iff_eq.2 (by omega), h]
      exact ropt_stop _ _
    · rw [if_neg g, show ((l.length : Int) == 0) = false from beq_eq_false_iff_ne.2 (by omega)]
      refine evu ?_
      simp only [clavigerref33_Options.j0]
      refine evn (by decide) ?_
      by_cases q : (encA l).1.size > 9000
      · rw [if_pos q]
        exact evp (by omega) (Ev.now _)
      · rw [if_neg q]
        exact evn (by omega) (Ev.now _)
  · rw [if_neg h]
    exact evn h (ropt_stop _ _)
theorem enc_nil {l : List At} (h : (encA l).2 = 0) : (encA l).1.toList = [] ↔ l.length = 0 := by
  obtain ⟨hc, he⟩ := encA_err h
  rw [he]
  show (mkB (hexL (bodyL l))).toList = [] ↔ _
  rw [toList_nil]
  refine ⟨fun g => ?_, fun g => by rw [List.eq_nil_of_length_eq_zero g]; rfl⟩
  have h2 := congrArg List.length g
  rw [hexL_len, List.length_nil] at h2
  have h3 := body_ge l
  omega
/-- The two answers are the same: none, or the same one. -/
theorem opts_same (l : List At) : ((optA l).1 = [] ∧ (roptA l).1 = [] ∨ ∃ x : ByteArray, (optA l).1 = [⟨⟨#[49, 48]⟩, x⟩] ∧ (roptA l).1 = [⟨⟨#[49, 48]⟩, x⟩]) ∧ (optA l).2 = (roptA l).2 := by
  unfold optA roptA
  by_cases h : (encA l).2 = 0
  · rw [if_pos h, if_pos h]
    by_cases g : l.length = 0
    · rw [if_pos ((enc_nil h).2 g), if_pos g]
      exact ⟨.inl ⟨rfl, rfl⟩, rfl⟩
    · rw [if_neg (fun e => g ((enc_nil h).1 e)), if_neg g]
      by_cases q : (encA l).1.size > 9000
      · rw [if_pos q, if_pos q]
        exact ⟨.inl ⟨rfl, rfl⟩, rfl⟩
      · rw [if_neg q, if_neg q]
        exact ⟨.inr ⟨_, rfl, rfl⟩, rfl⟩
  · rw [if_neg h, if_neg h]
    exact ⟨.inl ⟨rfl, rfl⟩, rfl⟩
theorem from_same (l : List Op) (hs : ∀ a ∈ l, a.f1.size ≤ 1000) (hl : l.length ≤ 10) : ∃ r : List At × Int, r.1.length ≤ 32 ∧ Ev (fun k => templ_From.f k (l.map conv)) r ∧ Ev (fun k => clavigerref33_From.f k l) r := by
  match l, hs, hl with
  | [], _, _ =>
    refine ⟨([], 0), by simp, from_nil, ?_⟩
    unfold clavigerref33_From.f
    exact evp rfl (Ev.now _)
  | [a], hs, _ =>
    have ha := hs a (by simp)
    by_cases h1 : a.f0.toList = ([49, 48] : List UInt8)
    · by_cases h2 : a.f1.toList = ([] : List UInt8)
      · refine ⟨([], 5), by simp, ?_, ?_⟩
        · unfold templ_From.f
          exact evn (by simp) (evn (by simp) (evp (by simp) (evp h1 (evp h2 (Ev.now _)))))
        · unfold clavigerref33_From.f
          exact evn (by simp) (evn (by simp) (evp (by simp) (evp h1 (evp h2 (Ev.now _)))))
      · refine ⟨decA a.f1, decA_len _, ?_, ?_⟩
        · unfold templ_From.f
          exact evn (by simp) (evn (by simp) (evp (by simp) (evp h1 (evn h2 (evb (dec_c a.f1 (by omega)) (Ev.now _))))))
        · unfold clavigerref33_From.f
          exact evn (by simp) (evn (by simp) (evp (by simp) (evp h1 (evn h2 (evb (rdec_c a.f1 (by omega)) (Ev.now _))))))
    · refine ⟨([], 5), by simp, ?_, ?_⟩
      · unfold templ_From.f
        exact evn (by simp) (evn (by simp) (evp (by simp) (evn h1 (Ev.now _))))
      · unfold clavigerref33_From.f
        exact evn (by simp) (evn (by simp) (evp (by simp) (evn h1 (Ev.now _))))
  | a :: b :: r, _, _ =>
    refine ⟨([], 5), by simp, ?_, ?_⟩
    · unfold templ_From.f
      exact evn (by simp; omega) (evp (by simp; omega) (Ev.now _))
    · unfold clavigerref33_From.f
      exact evn (by simp; omega) (evp (by simp; omega) (Ev.now _))
theorem opts_j2 (r : List At) (e : Int) (h : r.length ≤ 32) : Ev (fun k => clavigerlaw33_TemplOptions.j2 k r e r e false) true := by
  refine evu ?_
  simp only [clavigerlaw33_TemplOptions.j2]
  exact evn (by decide) (evb (attrs_c r (by omega)) (evp rfl (evp trivial (evb awake33 (Ev.now _)))))
theorem opts_end (l0 : List At) (l1 : List Op) (hs : ∀ a ∈ l1, a.f1.size ≤ 1000) (hl : l1.length ≤ 10) : Ev (fun k => clavigerlaw33_TemplOptions.l0 k l0 l1 (l1.map conv) l1 (l1.length : Int) (l1.length : Int)) true := by
  obtain ⟨r, hr, hf, hg⟩ := from_same l1 hs hl
  obtain ⟨ho, he⟩ := opts_same l0
  refine evu ?_
  simp only [clavigerlaw33_TemplOptions.l0]
  refine evn (by omega) (evb (opt_c l0) (evb (ropt_c l0) (evb hf (evb hg ?_))))
  rcases ho with ⟨o1, o2⟩ | ⟨x, o1, o2⟩
  · rw [o1, o2]
    exact evp rfl (evp he (evn (by simp) (opts_j2 r.1 r.2 hr)))
  · rw [o1, o2]
    refine evp rfl (evp he (evp rfl (evp (by simp) (evp (by simp) ?_))))
    have e : ((!((((rd_T77 [(⟨⟨#[49, 48]⟩, x⟩ : Oq)] 0).f0).toList) == (((rd_T76 [(⟨⟨#[49, 48]⟩, x⟩ : Op)] 0).f0).toList)) || (!((((rd_T77 [(⟨⟨#[49, 48]⟩, x⟩ : Oq)] 0).f1).toList) == (((rd_T76 [(⟨⟨#[49, 48]⟩, x⟩ : Op)] 0).f1).toList)))) : Bool) = false := by
      show ((!((⟨#[49, 48]⟩ : ByteArray).toList == (⟨#[49, 48]⟩ : ByteArray).toList)) || !(x.toList == x.toList)) = false
      rw [beq_self_eq_true, beq_self_eq_true]
      rfl
    rw [e]
    exact opts_j2 r.1 r.2 hr
theorem opts_loop (l0 : List At) (l1 : List Op) (hl : l1.length ≤ 10) : ∀ (R : List Op) (i : Nat), l1.drop i = R → i ≤ l1.length → (∀ a ∈ l1.take i, a.f1.size ≤ 1000) → Ev (fun k => clavigerlaw33_TemplOptions.l0 k l0 l1 ((l1.take i).map conv) l1 (l1.length : Int) (i : Int)) true
  | [], i, h, hi, hs => by
    have hd : i = l1.length := by
      have := congrArg List.length h
      rw [List.length_drop] at this
      simp at this
      omega
    subst hd
    rw [List.take_length] at hs ⊢
    exact opts_end l0 l1 hs hl
  | a :: R, i, h, hi, hs => by
    obtain ⟨h1, h2, h3, h4⟩ := rdo_drop h
    refine evu ?_
    simp only [clavigerlaw33_TemplOptions.l0]
    rw [h1]
    refine evp (by omega) (evp (by omega) (evp (by omega) ?_))
    by_cases c1 : (a.f0.size : Int) > 20
    · exact evp c1 (evb awake33 (Ev.now _))
    · refine evn c1 ?_
      by_cases c2 : (a.f1.size : Int) > 1000
      · exact evp c2 (evb awake33 (Ev.now _))
      · refine evn c2 (evp (by rw [List.length_map, List.length_take]; omega) ?_)
        have ih := opts_loop l0 l1 hl R (i + 1) h3 h2 (fun b hb => by
          rw [h4] at hb
          rcases List.mem_append.1 hb with hb | hb
          · exact hs b hb
          · rw [List.mem_singleton.1 hb]; omega)
        rw [h4, List.map_append] at ih
        rw [wrap_id (by omega) (by omega)]
        exact ih
theorem opts_yes (l0 : List At) (l1 : List Op) : Ev (fun k => clavigerlaw33_TemplOptions.j0 k l0 l1 true) true := by
  refine evu ?_
  simp only [clavigerlaw33_TemplOptions.j0]
  exact evp trivial (evb awake33 (Ev.now _))
theorem opts_ev (l0 : List At) (l1 : List Op) : Ev (fun k => clavigerlaw33_TemplOptions.f k l0 l1) true := by
  unfold clavigerlaw33_TemplOptions.f
  obtain ⟨b, hb, -⟩ := few_c l0 60 (by omega)
  refine evb hb ?_
  cases b with
  | false => exact evn (by decide) (opts_yes l0 l1)
  | true =>
    refine evp rfl ?_
    by_cases h : (l1.length : Int) > 10
    · rw [decide_eq_true h]
      exact opts_yes l0 l1
    · rw [decide_eq_false h]
      refine evu ?_
      simp only [clavigerlaw33_TemplOptions.j0]
      refine evn (by decide) ?_
      exact opts_loop l0 l1 (by omega) l1 0 rfl (by omega) (fun a ha => by simp at ha)
end Go.Proofs.Ytmcpfkgahmdkgaa.M
namespace Go.Proofs.Ytmcpfkgahmdkgaa.Pr
open Go Go.RowKit Go.Proofs.YtmcpfkgahmdkgaaW.PrintWords Go.Proofs.YtmcpfkgahmdkgaaW.PrintLast Go.Proofs.YtmcpfkgahmdkgaaW.PrintMore
theorem templOptions_walk (A0 : Option Addr) (c0 : Nat) (l0 : List S102) (A1 : Option Addr) (c1 : Nat) (l1 : List S76) (w : World) (h : Kd.C k102 w A0 l0.length l0 ∧ l0.length ≤ c0) (g : Kd.C k76 w A1 l1.length l1 ∧ l1.length ≤ c1) : Calls Try.prog 12 #[.slice A0 l0.length c0, .slice A1 l1.length c1] w fun e w' => e = .returned (.bool true) ∧ Below w.heap.size w w' := by
  obtain ⟨n, hn⟩ := (M.opts_ev l0 l1).rounds
  exact clavigerlaw33_TemplOptions.calls n A0 c0 l0 A1 c1 l1 true w h.1 h.2 g.1 g.2 hn
end Go.Proofs.Ytmcpfkgahmdkgaa.Pr
end
section
namespace Go.Proofs.Ytmcpfkgahmdkgaa.RowAid
set_option maxRecDepth 100000
def c (n : Nat) : Char := Char.ofNat n
def L : List Char := [c 104, c 97, c 114, c 110, c 101, c 115, c 115, c 32, c 52, c 51, c 50, c 56, c 48, c 98, c 101, c 100, c 50, c 51, c 98, c 48, c 100, c 55, c 50, c 52, c 101, c 53, c 56, c 49, c 56, c 53, c 102, c 51, c 102, c 97, c 101, c 51, c 99, c 101, c 98, c 51, c 100, c 49, c 49, c 53, c 99, c 51, c 98, c 57, c 97, c 50, c 102, c 99, c 100, c 56, c 50, c 99, c 97, c 54, c 50, c 57, c 102, c 57, c 97, c 49, c 50, c 56, c 51, c 56, c 99, c 52, c 49, c 97, c 32, c 99, c 117, c 116, c 32, c 97, c 116, c 32, c 99, c 108, c 97, c 118, c 105, c 103, c 101, c 114, c 47, c 99, c 108, c 97, c 118, c 105, c 103, c 101, c 114, c 108, c 97, c 119, c 48, c 51, c 46, c 83, c 112, c 97, c 110, c 84, c 101, c 108, c 108, c 115, c 32, c 99, c 108, c 97, c 118, c 105, c 103, c 101, c 114, c 47, c 99, c 108, c 97, c 118, c 105, c 103, c 101, c 114, c 108, c 97, c 119, c 48, c 51, c 46, c 83, c 112, c 97, c 110, c 80, c 97, c 105, c 114, c 115, c 32, c 99, c 108, c 97, c 118, c 105, c 103, c 101, c 114, c 47, c 99, c 108, c 97, c 118, c 105, c 103, c 101, c 114, c 108, c 97, c 119, c 48, c 51, c 46, c 83, c 112, c 97, c 110, c 66, c 97, c 99, c 107, c 32, c 99, c 108, c 97, c 118, c 105, c 103, c 101, c 114, c 47, c 99, c 108, c 97, c 118, c 105, c 103, c 101, c 114, c 108, c 97, c 119, c 48, c 52, c 46, c 69, c 113, c 117, c 97, c 108, c 84, c 117, c 114, c 110, c 115, c 32, c 99, c 108, c 97, c 118, c 105, c 103, c 101, c 114, c 47, c 99, c 108, c 97, c 118, c 105, c 103, c 101, c 114, c 108, c 97, c 119, c 48, c 52, c 46, c 69, c 113, c 117, c 97, c 108, c 84, c 101, c 108, c 108, c 115, c 32, c 99, c 108, c 97, c 118, c 105, c 103, c 101, c 114, c 47, c 99, c 108, c 97, c 118, c 105, c 103, c 101, c 114, c 108, c 97, c 119, c 49, c 53, c 46, c 72, c 101, c 97, c 100, c 66, c 97, c 99, c 107, c 32, c 99, c 108, c 97, c 118, c 105, c 103, c 101, c 114, c 47, c 99, c 108, c 97, c 118, c 105, c 103, c 101, c 114, c 108, c 97, c 119, c 49, c 53, c 46, c 72, c 101, c 97, c 100, c 83, c 104, c 111, c 114, c 116, c 32, c 99, c 108, c 97, c 118, c 105, c 103, c 101, c 114, c 47, c 99, c 108, c 97, c 118, c 105, c 103, c 101, c 114, c 108, c 97, c 119, c 49, c 53, c 46, c 72, c 101, c 97, c 100, c 84, c 101, c 108, c 108, c 115, c 32, c 99, c 108, c 97, c 118, c 105, c 103, c 101, c 114, c 47, c 99, c 108, c 97, c 118, c 105, c 103, c 101, c 114, c 108, c 97, c 119, c 51, c 51, c 46, c 84, c 101, c 109, c 112, c 108, c 84, c 101, c 108, c 108, c 115, c 32, c 99, c 108, c 97, c 118, c 105, c 103, c 101, c 114, c 47, c 99, c 108, c 97, c 118, c 105, c 103, c 101, c 114, c 108, c 97, c 119, c 51, c 51, c 46, c 84, c 101, c 109, c 112, c 108, c 79, c 112, c 116, c 105, c 111, c 110, c 115, c 32, c 99, c 108, c 97, c 118, c 105, c 103, c 101, c 114, c 47, c 99, c 108, c 97, c 118, c 105, c 103, c 101, c 114, c 108, c 97, c 119, c 51, c 51, c 46, c 84, c 101, c 109, c 112, c 108, c 66, c 97, c 99, c 107]
def WL : List (List Char) := [[c 97, c 116], [c 99, c 108, c 97, c 118, c 105, c 103, c 101, c 114, c 47, c 99, c 108, c 97, c 118, c 105, c 103, c 101, c 114, c 108, c 97, c 119, c 48, c 51, c 46, c 83, c 112, c 97, c 110, c 84, c 101, c 108, c 108, c 115], [c 99, c 108, c 97, c 118, c 105, c 103, c 101, c 114, c 47, c 99, c 108, c 97, c 118, c 105, c 103, c 101, c 114, c 108, c 97, c 119, c 48, c 51, c 46, c 83, c 112, c 97, c 110, c 80, c 97, c 105, c 114, c 115], [c 99, c 108, c 97, c 118, c 105, c 103, c 101, c 114, c 47, c 99, c 108, c 97, c 118, c 105, c 103, c 101, c 114, c 108, c 97, c 119, c 48, c 51, c 46, c 83, c 112, c 97, c 110, c 66, c 97, c 99, c 107], [c 99, c 108, c 97, c 118, c 105, c 103, c 101, c 114, c 47, c 99, c 108, c 97, c 118, c 105, c 103, c 101, c 114, c 108, c 97, c 119, c 48, c 52, c 46, c 69, c 113, c 117, c 97, c 108, c 84, c 117, c 114, c 110, c 115], [c 99, c 108, c 97, c 118, c 105, c 103, c 101, c 114, c 47, c 99, c 108, c 97, c 118, c 105, c 103, c 101, c 114, c 108, c 97, c 119, c 48, c 52, c 46, c 69, c 113, c 117, c 97, c 108, c 84, c 101, c 108, c 108, c 115], [c 99, c 108, c 97, c 118, c 105, c 103, c 101, c 114, c 47, c 99, c 108, c 97, c 118, c 105, c 103, c 101, c 114, c 108, c 97, c 119, c 49, c 53, c 46, c 72, c 101, c 97, c 100, c 66, c 97, c 99, c 107], [c 99, c 108, c 97, c 118, c 105, c 103, c 101, c 114, c 47, c 99, c 108, c 97, c 118, c 105, c 103, c 101, c 114, c 108, c 97, c 119, c 49, c 53, c 46, c 72, c 101, c 97, c 100, c 83, c 104, c 111, c 114, c 116], [c 99, c 108, c 97, c 118, c 105, c 103, c 101, c 114, c 47, c 99, c 108, c 97, c 118, c 105, c 103, c 101, c 114, c 108, c 97, c 119, c 49, c 53, c 46, c 72, c 101, c 97, c 100, c 84, c 101, c 108, c 108, c 115], [c 99, c 108, c 97, c 118, c 105, c 103, c 101, c 114, c 47, c 99, c 108, c 97, c 118, c 105, c 103, c 101, c 114, c 108, c 97, c 119, c 51, c 51, c 46, c 84, c 101, c 109, c 112, c 108, c 84, c 101, c 108, c 108, c 115], [c 99, c 108, c 97, c 118, c 105, c 103, c 101, c 114, c 47, c 99, c 108, c 97, c 118, c 105, c 103, c 101, c 114, c 108, c 97, c 119, c 51, c 51, c 46, c 84, c 101, c 109, c 112, c 108, c 79, c 112, c 116, c 105, c 111, c 110, c 115], [c 99, c 108, c 97, c 118, c 105, c 103, c 101, c 114, c 47, c 99, c 108, c 97, c 118, c 105, c 103, c 101, c 114, c 108, c 97, c 119, c 51, c 51, c 46, c 84, c 101, c 109, c 112, c 108, c 66, c 97, c 99, c 107]]
theorem z0 : Try.prog.initOrder = String.ofList L := by kernel_rfl
theorem z1 : Try.prog.initOrder.toList = L := by rw [z0]; exact String.toList_ofList
theorem z2 : behindMainWord (wordsSigns L) = "cut".toList :: WL := by kernel_rfl
theorem z3 : behindMainWord (wordsSigns Try.prog.initOrder.toList) = "cut".toList :: WL := (congrArg (fun x => behindMainWord (wordsSigns x)) z1).trans z2
theorem strip_cut (r : List (List Char)) : stripLifts liftWords ("cut".toList :: r) = ([], "cut".toList :: r) := by
  unfold liftWords
  simp [stripLifts]
theorem make_cut {P : Program} {r : List (List Char)} (h : behindMainWord (wordsSigns P.initOrder.toList) = "cut".toList :: r) : P.make = some .cut := by
  unfold Program.make
  rw [h]
  simp
theorem lifts_cut {P : Program} {r : List (List Char)} (h : behindMainWord (wordsSigns P.initOrder.toList) = "cut".toList :: r) : P.headLifts = [] := by
  unfold Program.headLifts
  rw [h, strip_cut]
  simp
theorem final_cut {P : Program} {r : List (List Char)} (h : behindMainWord (wordsSigns P.initOrder.toList) = "cut".toList :: r) : P.liftsFinal = false := by
  unfold Program.liftsFinal
  rw [lifts_cut h, h]
  simp
theorem enter_cut {P : Program} {r : List (List Char)} (h : behindMainWord (wordsSigns P.initOrder.toList) = "cut".toList :: r) (h1 : P.laysLater = false) (h2 : P.bearsReflect = false) (h3 : P.doorFits [] = true) : P.mayEnter = true := by
  unfold Program.mayEnter
  rw [h]
  simp only [strip_cut]
  simp [h1, h2, h3]
theorem enter : Try.prog.mayEnter = true := enter_cut z3 (by as_aux_lemma => kernel_rfl) (by as_aux_lemma => kernel_rfl) (by as_aux_lemma => kernel_rfl)
theorem final : Try.prog.liftsFinal = false := final_cut z3
theorem make : Try.prog.make = some .cut := make_cut z3
theorem laid : laidOutB Try.prog = true := by kernel_rfl
theorem rowed : mapsRowed Try.prog = true := by kernel_rfl
theorem heard : Try.prog.stopsHeard = true := by kernel_rfl
theorem plain : Try.prog.plainKeys = true := by kernel_rfl
theorem and_mk {a b : Bool} (h : a = true) (k : b = true) : (a && b) = true := by rw [h, k]; rfl
end Go.Proofs.Ytmcpfkgahmdkgaa.RowAid
end
section
namespace Go.Proofs.Ytmcpfkgahmdkgaa.RowMem
open Go Go.ChangeShapes Go.WideShapes Go.RowKit Go.Proofs.Ytmcpfkgahmdkgaa.Pr Go.Proofs.YtmcpfkgahmdkgaaW.PrintWords Go.Proofs.YtmcpfkgahmdkgaaW.PrintLast Go.Proofs.YtmcpfkgahmdkgaaW.PrintMore
set_option linter.unusedVariables false
set_option linter.constructorNameAsVariable false
set_option maxRecDepth 10000
variable {H : Type} {enc : TypeId × Value → H} {W : World} {r : Reach} {b0 base : Nat} {spare : Nat → Bool} {held : Bool} {v : Value} {d : DataW H} {p : List MemPlace}
theorem two {α : Type} : ∀ {l : List α}, l.length = 2 → ∃ a b, l = [a, b]
  | [a, b], _ => ⟨a, b, rfl⟩
theorem cells_2 {a : Addr} {x y : Value} (h : W.cells? base a 2 = some [x, y]) : W.cell? a = some x ∧ W.cell? (a.add 1) = some y := by
  obtain ⟨_, hl, hc⟩ := World.cells?_some h
  have h0 := hc 0 (by omega)
  have h1 := hc 1 (by omega)
  exact ⟨by simpa [Addr.add] using h0, by simpa using h1⟩
theorem attr_cells {fuel : Nat} {cs : List Value} {x : DataW H × List MemPlace} (h : DataW.trod enc Try.prog W base spare held fuel 102 cs = some x) : ∃ a s, cs = [.int .i64 a, .string s] := by
  obtain ⟨y0, y1, n, -, hl, h0, h1⟩ := trod_struct2 Try.underlying102 h
  have e0 : Try.prog.cellsOf 102 = 2 := by kernel_rfl
  rw [e0] at hl
  obtain ⟨c0, c1, rfl⟩ := two hl
  have e1 : Try.prog.cellsOf 3 = 1 := by kernel_rfl
  have e2 : Try.prog.cellsOf 9 = 1 := by kernel_rfl
  simp only [e1, e2, List.drop_zero, List.drop_succ_cons, List.take_succ_cons, List.take_zero] at h0 h1
  obtain ⟨a, ha, _, _⟩ := DataW.trod_int Try.underlying3 h0
  obtain ⟨s, hs, _, _⟩ := DataW.trod_string Try.underlying9 h1
  exact ⟨a, s, by rw [List.singleton_inj.1 ha, List.singleton_inj.1 hs]⟩
/-- Two cells of a row, as one of these. -/
def attrAt (W : World) (a : Addr) (i : Nat) : S102 := match W.cell? (a.add (i * 2)), W.cell? (a.add (i * 2 + 1)) with
  | some (.int _ x), some (.string y) => ⟨x, y⟩
  | _, _ => z102
theorem open_attrs (hv : Value.okWide Try.prog W r b0 66 v) (h : DataW.Trod enc Try.prog W base (fun _ => true) held 66 v d p) : ∃ (A : Option Addr) (l : List S102) (c : Nat), v = .slice A l.length c ∧ (Kd.C k102 W A l.length l ∧ l.length ≤ c) := by
  obtain ⟨a0, len, cap, rfl⟩ := okWide_slice Try.underlying66 hv
  obtain ⟨fuel, hf⟩ := h
  have e1 : Try.prog.cellsOf 102 = 2 := by kernel_rfl
  rcases Go.Deep.open_slice Try.underlying66 hf with ⟨hcs, hx⟩ | ⟨a, len', cap', m, n, D, Pl, hcs, hb, hl, hm, hmm, hx, hcell⟩
  · have hcs2 : Value.slice a0 len cap = .slice none 0 0 := List.singleton_inj.1 hcs
    injection hcs2 with g0 g1 g2
    subst g0 g1 g2
    exact ⟨none, [], 0, rfl, ⟨rfl, Nat.zero_le _, fun hp => absurd hp (by simp)⟩, Nat.le_refl _⟩
  · have hcs2 : Value.slice a0 len cap = .slice (some a) len' cap' := List.singleton_inj.1 hcs
    injection hcs2 with g0 g1 g2
    subst g0 g1 g2
    have hlm : len ≤ m := by rw [hmm]; split <;> omega
    have each : ∀ i, i < len → W.cell? (a.add (i * 2)) = some (.int .i64 (attrAt W a i).f0) ∧ W.cell? (a.add (i * 2 + 1)) = some (.string (attrAt W a i).f1) := by
      intro i hi
      obtain ⟨cs', h1, h2⟩ := hcell i (by omega)
      obtain ⟨x, y, rfl⟩ := attr_cells h2
      rw [e1] at h1
      obtain ⟨k0, k1⟩ := cells_2 h1
      rw [Addr.add_add] at k1
      unfold attrAt
      rw [k0, k1]
      exact ⟨rfl, rfl⟩
    refine ⟨some a, (List.range len).map (attrAt W a), cap, by rw [List.length_map, List.length_range], ⟨rfl, by rw [List.length_map, List.length_range]; simp only [maxLen] at hm; omega, fun hp => ⟨a, rfl, fun j q hq => ?_⟩⟩, by rw [List.length_map, List.length_range]; exact hl⟩
    rw [List.getElem?_map] at hq
    have hj : j < len := by
      rcases Nat.lt_or_ge j len with h | h
      · exact h
      · rw [List.getElem?_eq_none (by simpa using h)] at hq
        cases hq
    rw [List.getElem?_range hj] at hq
    obtain rfl : attrAt W a j = q := by simpa using hq
    obtain ⟨k1, k2⟩ := each j hj
    refine ⟨[.int .i64 (attrAt W a j).f0, .string (attrAt W a j).f1], rfl, k102_mk W _, fun i u hu => ?_⟩
    match i, hu with
    | 0, hu =>
      obtain rfl := Option.some.inj hu
      exact k1
    | 1, hu =>
      obtain rfl := Option.some.inj hu
      exact k2
    | i + 2, hu => exact absurd hu (by simp)
theorem opt_cells {fuel : Nat} {cs : List Value} {x : DataW H × List MemPlace} (h : DataW.trod enc Try.prog W base spare held fuel 76 cs = some x) : ∃ a s, cs = [.string a, .string s] := by
  obtain ⟨y0, y1, n, -, hl, h0, h1⟩ := trod_struct2 Try.underlying76 h
  have e0 : Try.prog.cellsOf 76 = 2 := by kernel_rfl
  rw [e0] at hl
  obtain ⟨c0, c1, rfl⟩ := two hl
  have e2 : Try.prog.cellsOf 9 = 1 := by kernel_rfl
  simp only [e2, List.drop_zero, List.drop_succ_cons, List.take_succ_cons, List.take_zero] at h0 h1
  obtain ⟨a, ha, _, _⟩ := DataW.trod_string Try.underlying9 h0
  obtain ⟨s, hs, _, _⟩ := DataW.trod_string Try.underlying9 h1
  exact ⟨a, s, by rw [List.singleton_inj.1 ha, List.singleton_inj.1 hs]⟩
/-- Two cells of a row, as one of these. -/
def optAt (W : World) (a : Addr) (i : Nat) : S76 := match W.cell? (a.add (i * 2)), W.cell? (a.add (i * 2 + 1)) with
  | some (.string x), some (.string y) => ⟨x, y⟩
  | _, _ => z76
theorem open_opts (hv : Value.okWide Try.prog W r b0 73 v) (h : DataW.Trod enc Try.prog W base (fun _ => true) held 73 v d p) : ∃ (A : Option Addr) (l : List S76) (c : Nat), v = .slice A l.length c ∧ (Kd.C k76 W A l.length l ∧ l.length ≤ c) := by
  obtain ⟨a0, len, cap, rfl⟩ := okWide_slice Try.underlying73 hv
  obtain ⟨fuel, hf⟩ := h
  have e1 : Try.prog.cellsOf 76 = 2 := by kernel_rfl
  rcases Go.Deep.open_slice Try.underlying73 hf with ⟨hcs, hx⟩ | ⟨a, len', cap', m, n, D, Pl, hcs, hb, hl, hm, hmm, hx, hcell⟩
  · have hcs2 : Value.slice a0 len cap = .slice none 0 0 := List.singleton_inj.1 hcs
    injection hcs2 with g0 g1 g2
    subst g0 g1 g2
    exact ⟨none, [], 0, rfl, ⟨rfl, Nat.zero_le _, fun hp => absurd hp (by simp)⟩, Nat.le_refl _⟩
  · have hcs2 : Value.slice a0 len cap = .slice (some a) len' cap' := List.singleton_inj.1 hcs
    injection hcs2 with g0 g1 g2
    subst g0 g1 g2
    have hlm : len ≤ m := by rw [hmm]; split <;> omega
    have each : ∀ i, i < len → W.cell? (a.add (i * 2)) = some (.string (optAt W a i).f0) ∧ W.cell? (a.add (i * 2 + 1)) = some (.string (optAt W a i).f1) := by
      intro i hi
      obtain ⟨cs', h1, h2⟩ := hcell i (by omega)
      obtain ⟨x, y, rfl⟩ := opt_cells h2
      rw [e1] at h1
      obtain ⟨k0, k1⟩ := cells_2 h1
      rw [Addr.add_add] at k1
      unfold optAt
      rw [k0, k1]
      exact ⟨rfl, rfl⟩
    refine ⟨some a, (List.range len).map (optAt W a), cap, by rw [List.length_map, List.length_range], ⟨rfl, by rw [List.length_map, List.length_range]; simp only [maxLen] at hm; omega, fun hp => ⟨a, rfl, fun j q hq => ?_⟩⟩, by rw [List.length_map, List.length_range]; exact hl⟩
    rw [List.getElem?_map] at hq
    have hj : j < len := by
      rcases Nat.lt_or_ge j len with h | h
      · exact h
      · rw [List.getElem?_eq_none (by simpa using h)] at hq
        cases hq
    rw [List.getElem?_range hj] at hq
    obtain rfl : optAt W a j = q := by simpa using hq
    obtain ⟨k1, k2⟩ := each j hj
    refine ⟨[.string (optAt W a j).f0, .string (optAt W a j).f1], rfl, k76_mk W _, fun i u hu => ?_⟩
    match i, hu with
    | 0, hu =>
      obtain rfl := Option.some.inj hu
      exact k1
    | 1, hu =>
      obtain rfl := Option.some.inj hu
      exact k2
    | i + 2, hu => exact absurd hu (by simp)
end Go.Proofs.Ytmcpfkgahmdkgaa.RowMem
end
