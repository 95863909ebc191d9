-- several texts in one (by the session's program shake.py)
import Derived.Test.YtokkhnjedmlbhaaZPrg01x
import Derived.Test.YtokkhnjedmlbhaaZPrg11
import Derived.Test.YtokkhnjedmlbhaaZPrg38
import Derived.Test.YtokkhnjedmlbhaaZPrL11CmacChecks
import Derived.Test.YtokkhnjedmlbhaaZCmac
import Derived.Test.YtokkhnjedmlbhaaZXor
import Derived.Test.YtokkhnjedmlbhaaZCmacP
import Derived.Test.YtokkhnjedmlbhaaZPrg10
import Derived.Test.YtokkhnjedmlbhaaRows
import Derived.JoinedOf
import Derived.KernelRfl
section
namespace Go.Proofs.Ytokkhnjedmlbhaa.Pr
open Go.RowKit Go.Proofs.YtokkhnjedmlbhaaW.PrintWords Go.Proofs.YtokkhnjedmlbhaaW.PrintLast Go.Proofs.YtokkhnjedmlbhaaW.PrintMore
attribute [local go_sem] max2_int min2_int max_two min_two max_three min_three max_four min_four   -- for this text's walks alone
set_option linter.unusedVariables false
set_option linter.unusedSimpArgs false

def clavigerlaw11_CmacTells.j0 : Nat → ByteArray → ByteArray → ByteArray → Int → Bool → Option (Bool)
 | 0, _, _, _, _, _ => none
 | k + 1, x0, x1, x2, x3, x31 => if x31 = true then ((clavigerlaw11_awake.f).bind fun t1 => (some t1)) else ((cmac_Tag.f x0 x1).bind fun bt2 => ((clavigerref11_Tag.f k x0 x1).bind fun bt3 => ((cmac_Subkeys.f x0).bind fun bt4 => ((clavigerref11_Subkeys.f k x0).bind fun bt5 => (if bt2.1.toList = bt3.1.toList then (if bt2.2 = bt3.2 then (if bt4.1.toList = bt5.1.toList then (if bt4.2.1.toList = bt5.2.1.toList then (if bt4.2.2 = bt5.2.2 then ((cmac_Double.f k x2).bind fun t6 => ((clavigerref11_Double.f x2).bind fun t7 => (if t6.toList = t7.toList then ((cmac_Blocks.f x3).bind fun t8 => ((clavigerref11_Blocks.f x3).bind fun t9 => (if t8 = t9 then ((clavigerlaw11_awake.f).bind fun t10 => (some t10)) else (some false)))) else (some false)))) else (some false)) else (some false)) else (some false)) else (some false)) else (some false))))))
def clavigerlaw11_CmacTells.f (k : Nat) (a0 : ByteArray) (a1 : ByteArray) (a2 : ByteArray) (a3 : Int) : Option (Bool) := if (a0.size : Int) > 100 then (clavigerlaw11_CmacTells.j0 k a0 a1 a2 a3 true) else (if (a1.size : Int) > 160 then (clavigerlaw11_CmacTells.j0 k a0 a1 a2 a3 true) else (clavigerlaw11_CmacTells.j0 k a0 a1 a2 a3 (decide ((a2.size : Int) > 100))))
theorem clavigerlaw11_CmacTells.mono_l : ∀ k, (∀ y11 y12 y13 y14 y15, LeO (clavigerlaw11_CmacTells.j0 k y11 y12 y13 y14 y15) (clavigerlaw11_CmacTells.j0 (k + 1) y11 y12 y13 y14 y15))
 | 0 => fun _ _ _ _ _ r h => by simp [clavigerlaw11_CmacTells.j0] at h
 | k + 1 => by
  have ih0 := clavigerlaw11_CmacTells.mono_l k
  ·intro y11 y12 y13 y14 y15
   unfold clavigerlaw11_CmacTells.j0
   repeat' first
   | (with_reducible exact ih0 _ _ _ _ _)
   | (with_reducible exact clavigerref11_Subkeys.mono _ _)
   | (with_reducible exact clavigerref11_Tag.mono _ _ _)
   | (with_reducible exact cmac_Double.mono _ _)
   | (with_reducible exact LeO.refl _)
   | (with_reducible exact LeO.none _)
   | (with_reducible refine LeO.ite ?_ ?_)
   | (with_reducible refine LeO.bind ?_ (fun _ => ?_))
theorem clavigerlaw11_CmacTells.mono : ∀ a0 a1 a2 a3 k, LeO (clavigerlaw11_CmacTells.f k a0 a1 a2 a3) (clavigerlaw11_CmacTells.f (k + 1) a0 a1 a2 a3) := by
 intro a0 a1 a2 a3 k
 have ih0 := clavigerlaw11_CmacTells.mono_l k
 unfold clavigerlaw11_CmacTells.f
 repeat' first
   | (with_reducible exact ih0 _ _ _ _ _)
   | (with_reducible exact clavigerref11_Subkeys.mono _ _)
   | (with_reducible exact clavigerref11_Tag.mono _ _ _)
   | (with_reducible exact cmac_Double.mono _ _)
   | (with_reducible exact LeO.refl _)
   | (with_reducible exact LeO.none _)
   | (with_reducible refine LeO.ite ?_ ?_)
   | (with_reducible refine LeO.bind ?_ (fun _ => ?_))
/-- THE ONE PURE STATEMENT of clavigerlaw11_CmacTells: yours. -/
def clavigerlaw11_CmacTells.Pure : Prop := ∀ (a0 : ByteArray) (a1 : ByteArray) (a2 : ByteArray) (a3 : Int), a0.size ≤ 140737488351232 → a1.size ≤ 140737488351232 → a2.size ≤ 140737488351232 → (Lit.int .i64 a3).wf = true → ∃ k, clavigerlaw11_CmacTells.f k a0 a1 a2 a3 = some true
end Go.Proofs.Ytokkhnjedmlbhaa.Pr
end
section
namespace Go.Proofs.Ytokkhnjedmlbhaa.M
open Go.RowKit Go.Proofs.Ytokkhnjedmlbhaa.Pr Go.Proofs.YtokkhnjedmlbhaaW.PrintWords Go.Proofs.YtokkhnjedmlbhaaW.PrintLast Go.Proofs.YtokkhnjedmlbhaaW.PrintMore Go.Proofs.YtokkhnjedmlbhaaGf
set_option linter.unusedSimpArgs false
theorem chk_c (key s t : ByteArray) (hs : s.size < 1000000) (ht : t.size < 1000000) (hT : (tagX key s).1.size < 1000000) : cmac_Check.f key s t = some (if okN key.size then (decide ((tagX key s).1 = t), 0) else (false, 2)) := by
  unfold cmac_Check.f
  rw [ctag_x _ _ hs]
  simp only [Option.bind_some]
  by_cases ok : okN key.size
  · have : (tagX key s).2 = 0 := by unfold tagX; rw [if_pos ok]
    rw [if_pos this, scan_c _ _ (by omega) (by omega), if_pos ok]
    rfl
  · have : (tagX key s).2 = 2 := by unfold tagX; rw [if_neg ok]
    rw [if_neg (by rw [this]; decide), if_neg ok, this]
end Go.Proofs.Ytokkhnjedmlbhaa.M
end
section
namespace Go.Proofs.Ytokkhnjedmlbhaa.Pr
open Go.RowKit Go.Proofs.YtokkhnjedmlbhaaW.PrintWords Go.Proofs.YtokkhnjedmlbhaaW.PrintLast Go.Proofs.YtokkhnjedmlbhaaW.PrintMore
attribute [local go_sem] max2_int min2_int max_two min_two max_three min_three max_four min_four   -- for this text's walks alone
set_option linter.unusedVariables false
set_option linter.unusedSimpArgs false

def clavigerlaw37_awake.f (k : Nat)  : Option (Bool) := (seal_Seal.f k (⟨#[48, 49, 50, 51, 52, 53, 54, 55, 56, 57, 97, 98, 99, 100, 101, 102]⟩ : ByteArray) (⟨#[116, 111, 112]⟩ : ByteArray) (⟨#[102, 101, 100, 99, 98, 97, 57, 56, 55, 54, 53, 52, 51, 50, 49, 48]⟩ : ByteArray)).bind fun bt1 => ((seal_Bind.f k (⟨#[48, 49, 50, 51, 52, 53, 54, 55, 56, 57, 97, 98, 99, 100, 101, 102]⟩ : ByteArray) (⟨#[116, 111, 112]⟩ : ByteArray) (⟨#[102, 101, 100, 99, 98, 97, 57, 56, 55, 54, 53, 52, 51, 50, 49, 48]⟩ : ByteArray)).bind fun bt2 => ((clavigerref35_Keys.f k (⟨#[48, 49, 50, 51, 52, 53, 54, 55, 56, 57, 97, 98, 99, 100, 101, 102]⟩ : ByteArray)).bind fun bt3 => ((clavigerref11_Tag.f k bt3.2.1 (⟨#[116, 111, 112, 102, 101, 100, 99, 98, 97, 57, 56, 55, 54, 53, 52, 51, 50, 49, 48]⟩ : ByteArray)).bind fun bt4 => (if (bt1.1.size : Int) = 16 then (if bt1.2.1.toList = bt4.1.toList then (if bt2.1.toList = bt4.1.toList then (if bt1.2.2 = 0 then (if bt2.2 = 0 then ((seal_Blocks.f 3 16).bind fun t5 => (some (t5 == 4))) else (some false)) else (some false)) else (some false)) else (some false)) else (some false)))))
theorem clavigerlaw37_awake.mono : ∀ k, LeO (clavigerlaw37_awake.f k ) (clavigerlaw37_awake.f (k + 1) ) := by
 intro  k
 unfold clavigerlaw37_awake.f
 repeat' first
   | (with_reducible exact clavigerref11_Tag.mono _ _ _)
   | (with_reducible exact clavigerref35_Keys.mono _ _)
   | (with_reducible exact seal_Bind.mono _ _ _ _)
   | (with_reducible exact seal_Seal.mono _ _ _ _)
   | (with_reducible exact LeO.refl _)
   | (with_reducible exact LeO.none _)
   | (with_reducible refine LeO.ite ?_ ?_)
   | (with_reducible refine LeO.bind ?_ (fun _ => ?_))
end Go.Proofs.Ytokkhnjedmlbhaa.Pr
end
section
namespace Go.Proofs.Ytokkhnjedmlbhaa.M
open Go.RowKit Go.Proofs.Ytokkhnjedmlbhaa.Pr Go.Proofs.YtokkhnjedmlbhaaW.PrintWords Go.Proofs.YtokkhnjedmlbhaaW.PrintLast Go.Proofs.YtokkhnjedmlbhaaW.PrintMore Go.Proofs.YtokkhnjedmlbhaaGf
set_option linter.unusedSimpArgs false
/-- The tag of a payload with its top; its cipher. -/
def bnT (kek top p : ByteArray) : ByteArray := tagT (ksB (dkT kek 1)) (top ++ p)
def ciT (kek top p : ByteArray) : ByteArray := outJ (ksB (dkT kek 0)) p (bnT kek top p) (p.size / 16)
def bndX (kek top p : ByteArray) : ByteArray × Int := if okN kek.size then if p.size = 0 then (⟨#[]⟩, 4) else if p.size % 16 = 0 then (bnT kek top p, 0) else (⟨#[]⟩, 4) else (⟨#[]⟩, 2)
def slX (kek top p : ByteArray) : ByteArray × ByteArray × Int := if okN kek.size then if p.size = 0 then (⟨#[]⟩, ⟨#[]⟩, 4) else if p.size % 16 = 0 then (ciT kek top p, bnT kek top p, 0) else (⟨#[]⟩, ⟨#[]⟩, 4) else (⟨#[]⟩, ⟨#[]⟩, 2)
theorem nil_iff (s : ByteArray) : s.toList = ([] : List UInt8) ↔ s.size = 0 := by
  rw [tl_eq]
  refine ⟨fun e => ?_, fun h => List.eq_nil_of_length_eq_zero (by rw [Array.length_toList]; exact h)⟩
  have := congrArg List.length e
  rw [Array.length_toList] at this
  exact this
theorem bn_size {kek : ByteArray} (ok : okN kek.size) (top p : ByteArray) : (bnT kek top p).size = 16 := tagT_size (ks_facts (dk_okN ok 1)).2.1 _
theorem tag_b {kek : ByteArray} (ok : okN kek.size) (top p : ByteArray) : tagX (dkT kek 1) (top ++ p) = (bnT kek top p, 0) := by unfold tagX; rw [if_pos (dk_okN ok 1)]; rfl
theorem enc_b {kek : ByteArray} (ok : okN kek.size) (top : ByteArray) {p : ByteArray} (h : p.size % 16 = 0) : cbcE (dkT kek 0) (bnT kek top p) p = (ciT kek top p, 0) := by
  unfold cbcE
  rw [if_pos (by unfold rdyE; rw [if_pos (dk_okN ok 0), if_pos (bn_size ok top p), if_pos h])]
  rfl
theorem rbind_c (kek top p : ByteArray) (ht : top.size < 100000) (hp : p.size < 100000) : Ev (fun k => clavigerref37_Bind.f k kek top p) (bndX kek top p) := by
  unfold clavigerref37_Bind.f bndX
  refine evb (rdkeys_c kek) ?_
  unfold dksX
  by_cases ok : okN kek.size
  · rw [if_pos ok, if_pos ok]
    refine evp rfl ?_
    by_cases h0 : p.size = 0
    · rw [if_pos h0]
      exact evp ((nil_iff p).2 h0) (Ev.now _)
    · rw [if_neg h0]
      refine evn (fun e => h0 ((nil_iff p).1 e)) ?_
      by_cases h1 : p.size % 16 = 0
      · rw [if_pos h1]
        have hz : (top ++ p).size < 1000000 := by rw [ByteArray.size_append]; omega
        have ht := rtag_c (dkT kek 1) (top ++ p) hz
        rw [tag_b ok top p] at ht
        exact evp (by omega) (evp (by omega) (evb ht (Ev.now _)))
      · rw [if_neg h1]
        exact evn (by omega) (Ev.now _)
  · rw [if_neg ok, if_neg ok]
    exact evn (by decide) (Ev.now _)
theorem rseal_c (kek top p : ByteArray) (ht : top.size < 100000) (hp : p.size < 100000) : Ev (fun k => clavigerref37_Seal.f k kek top p) (slX kek top p) := by
  unfold clavigerref37_Seal.f slX
  refine evb (rbind_c kek top p ht hp) ?_
  unfold bndX
  by_cases ok : okN kek.size
  · rw [if_pos ok, if_pos ok]
    by_cases h0 : p.size = 0
    · rw [if_pos h0, if_pos h0]
      exact evn (by decide) (Ev.now _)
    · rw [if_neg h0, if_neg h0]
      by_cases h1 : p.size % 16 = 0
      · rw [if_pos h1, if_pos h1]
        have hk := rdkeys_c kek
        unfold dksX at hk
        rw [if_pos ok] at hk
        have he := rcenc_c (dkT kek 0) (bnT kek top p) p (by omega)
        rw [enc_b ok top h1] at he
        exact evp rfl (evb hk (evb he (Ev.now _)))
      · rw [if_neg h1, if_neg h1]
        exact evn (by decide) (Ev.now _)
  · rw [if_neg ok, if_neg ok]
    exact evn (by decide) (Ev.now _)
end Go.Proofs.Ytokkhnjedmlbhaa.M
end
section
namespace Go.Proofs.Ytokkhnjedmlbhaa.M
open Go.RowKit Go.Proofs.Ytokkhnjedmlbhaa.Pr Go.Proofs.YtokkhnjedmlbhaaW.PrintWords Go.Proofs.YtokkhnjedmlbhaaW.PrintLast Go.Proofs.YtokkhnjedmlbhaaW.PrintMore Go.Proofs.YtokkhnjedmlbhaaGf
set_option linter.unusedSimpArgs false
/-- The payload under a cipher; what opening tells. -/
def opT (kek ci tag : ByteArray) : ByteArray := xorT (manyB (ksB (dkT kek 0)) true (ci.size / 16) ci) (tag ++ ci)
def opX (kek top ci tag : ByteArray) : ByteArray × Int := if okN kek.size then if tag.size = 16 ∧ ci.size ≠ 0 ∧ ci.size % 16 = 0 then if bnT kek top (opT kek ci tag) = tag then (opT kek ci tag, 0) else (⟨#[]⟩, 7) else (⟨#[]⟩, 4) else (⟨#[]⟩, 2)
theorem opT_size {kek ci tag : ByteArray} (ok : okN kek.size) (h1 : tag.size = 16) (h2 : ci.size % 16 = 0) : (opT kek ci tag).size = ci.size := by
  unfold opT
  rw [xorT_size, many_size (ks_facts (dk_okN ok 0)).2.1 true (by omega), ByteArray.size_append]
  omega
theorem dec_b {kek ci tag : ByteArray} (ok : okN kek.size) (h1 : tag.size = 16) (h2 : ci.size % 16 = 0) : cbcD (dkT kek 0) tag ci = (opT kek ci tag, 0) := by
  unfold cbcD
  rw [if_pos (by unfold rdyE; rw [if_pos (dk_okN ok 0), if_pos h1, if_pos h2])]
  rfl
theorem chk_b {kek : ByteArray} (ok : okN kek.size) (top pl : ByteArray) {tag : ByteArray} (hz : (top ++ pl).size < 1000000) (h1 : tag.size = 16) : cmac_Check.f (dkT kek 1) (top ++ pl) tag = some (decide (bnT kek top pl = tag), 0) := by
  rw [chk_c _ _ _ hz (by omega) (by rw [tag_b ok top pl]; show (bnT kek top pl).size < _; rw [bn_size ok]; omega), if_pos (dk_okN ok 1), tag_b ok top pl]
theorem tl_inj {a b : ByteArray} (h : a.toList = b.toList) : a = b := by
  rw [tl_eq, tl_eq] at h
  exact ByteArray.ext (Array.toList_inj.1 h)
theorem open_c (kek top ci tag : ByteArray) (ht : top.size < 100000) (hc : ci.size < 100000) : Ev (fun k => open_Open.f k kek top ci tag) (opX kek top ci tag) := by
  unfold open_Open.f opX
  refine evb (dkeys_c kek) ?_
  unfold dksX
  by_cases ok : okN kek.size
  · rw [if_pos ok, if_pos ok]
    refine evp rfl ?_
    by_cases hf : tag.size = 16 ∧ ci.size ≠ 0 ∧ ci.size % 16 = 0
    · rw [if_pos hf, if_pos hf]
      have hz := opT_size ok hf.1 hf.2.2
      refine evs ((cdec_x _ _ _ (by omega)).trans (congrArg some (dec_b ok hf.1 hf.2.2))) ?_
      have hk := chk_b ok top (opT kek ci tag) (by rw [ByteArray.size_append]; omega) hf.1
      generalize opT kek ci tag = pl at *
      show Ev (fun k => if top.size + pl.size ≤ 9223372036854775807 then (cmac_Check.f (dkT kek 1) (top ++ pl) tag).bind fun r => some (if r.1 = true then (if (0 : Int) = 0 then pl else ⟨#[]⟩) else ⟨#[]⟩, if r.1 = true then (0 : Int) else 7) else none) _
      refine evp (by omega) (evs hk ?_)
      by_cases e : bnT kek top pl = tag
      · rw [if_pos e, decide_eq_true e]
        show Ev (fun k => some (if true = true then (if (0 : Int) = 0 then pl else ⟨#[]⟩) else ⟨#[]⟩, if true = true then (0 : Int) else 7)) _
        rw [if_pos rfl, if_pos rfl, if_pos rfl]
        exact Ev.now _
      · rw [if_neg e, decide_eq_false e]
        show Ev (fun k => some (if false = true then (if (0 : Int) = 0 then pl else ⟨#[]⟩) else ⟨#[]⟩, if false = true then (0 : Int) else 7)) _
        rw [if_neg (by decide), if_neg (by decide)]
        exact Ev.now _
    · rw [if_neg hf, if_neg hf]
      exact Ev.now _
  · rw [if_neg ok, if_neg ok]
    exact evn (by decide) (Ev.now _)
theorem right_c (kek top ci tag : ByteArray) (ht : top.size < 100000) (hc : ci.size < 100000) : Ev (fun k => open_Right.f k kek top ci tag) ((opX kek top ci tag).2 == 0) := by
  unfold open_Right.f
  exact evb (open_c kek top ci tag ht hc) (Ev.now _)
theorem ropen_c (kek top ci tag : ByteArray) (ht : top.size < 100000) (hc : ci.size < 100000) : Ev (fun k => clavigerref38_Open.f k kek top ci tag) (opX kek top ci tag) := by
  have bad : ∀ x y : ByteArray, Ev (fun k => clavigerref38_Open.j0 k top ci tag x y true) (⟨#[]⟩, 4) := fun x y =>
    Ev.step (f := fun _ => some ((⟨#[]⟩ : ByteArray), (4 : Int))) (fun k => by simp only [clavigerref38_Open.j0]; rw [if_pos True.intro]) (Ev.now _)
  unfold clavigerref38_Open.f opX
  refine evb (rdkeys_c kek) ?_
  unfold dksX
  by_cases ok : okN kek.size
  · rw [if_pos ok, if_pos ok]
    refine evp rfl ?_
    by_cases h0 : ci.size = 0
    · rw [if_neg (fun h => h.2.1 h0)]
      exact evp ((nil_iff ci).2 h0) (bad _ _)
    · refine evn (fun e => h0 ((nil_iff ci).1 e)) ?_
      by_cases h1 : ci.size % 16 = 0
      · refine evp (by omega) ?_
        by_cases h2 : tag.size = 16
        · rw [if_pos ⟨h2, h0, h1⟩, show ((tag.size : Int) != 16) = false by rw [h2]; rfl]
          refine Ev.step (f := fun k => (clavigerref10_Decrypt.f k (dkT kek 0) tag ci).bind fun bt1 => (if top.size + bt1.1.size ≤ 9223372036854775807 then ((clavigerref11_Tag.f k (dkT kek 1) (top ++ bt1.1)).bind fun bt2 => (if bt2.1.toList = tag.toList then (some (bt1.1, 0)) else (some ((⟨#[]⟩ : ByteArray), 7)))) else (none))) (fun k => by simp only [clavigerref38_Open.j0]; rw [if_neg (by simp)]) ?_
          have hz := opT_size ok h2 h1
          have hd := rcdec_c (dkT kek 0) tag ci (by omega)
          rw [dec_b ok h2 h1] at hd
          have hg := rtag_c (dkT kek 1) (top ++ opT kek ci tag) (by rw [ByteArray.size_append]; omega)
          rw [tag_b ok] at hg
          refine evb hd (evp (by show top.size + (opT kek ci tag).size ≤ _; omega) (evb hg ?_))
          by_cases e : bnT kek top (opT kek ci tag) = tag
          · rw [if_pos e]
            exact evp (congrArg ByteArray.toList e) (Ev.now _)
          · rw [if_neg e]
            exact evn (fun h => e (tl_inj h)) (Ev.now _)
        · rw [if_neg (fun h => h2 h.1), show ((tag.size : Int) != 16) = true by simp; omega]
          exact bad _ _
      · rw [if_neg (fun h => h1 h.2.2)]
        exact evn (by omega) (bad _ _)
  · rw [if_neg ok, if_neg ok]
    exact evn (by decide) (Ev.now _)
theorem op_back {kek : ByteArray} (ok : okN kek.size) (top : ByteArray) {p : ByteArray} (h1 : p.size % 16 = 0) : opT kek (ciT kek top p) (bnT kek top p) = p ∧ (ciT kek top p).size = p.size := by
  have ak := (ks_facts (dk_okN ok 0)).2.1
  have hb := bn_size ok top p
  have hz : (ciT kek top p).size = p.size := by
    unfold ciT
    rw [outJ_size ak hb _ (by omega)]
    omega
  refine ⟨?_, hz⟩
  unfold opT
  rw [hz]
  exact cbc_back ak hb (by omega)
theorem op_sealed {kek : ByteArray} (ok : okN kek.size) (top : ByteArray) {p : ByteArray} (h0 : p.size ≠ 0) (h1 : p.size % 16 = 0) : opX kek top (ciT kek top p) (bnT kek top p) = (p, 0) := by
  have h := op_back ok top h1
  have hb := bn_size ok top p
  unfold opX
  rw [if_pos ok, if_pos ⟨hb, by omega, by omega⟩, h.1, if_pos rfl]
theorem dec_ivJ {ks : List ByteArray} (hk : all16 ks) {s iv : ByteArray} (hi : iv.size = 16) {m : Nat} (hs : s.size = 16 * m) : ∀ j, j ≤ m → ivJ ks (decL ks s iv m) iv j = prv s iv j
  | 0, _ => rfl
  | j + 1, h => by
    have hp : ∀ q, q ≤ m → (prv s iv q).size = 16 := fun q hq => prv_all (s := s) hi (m := m) (by omega) (prv s iv q) (List.mem_map_of_mem (List.mem_range.2 (by omega)))
    have hb : ∀ q, q < m → (blk s q).size = 16 := fun q hq => by unfold blk; rw [ByteArray.size_extract]; omega
    have hg : (decL ks s iv m).extract (16 * j) (16 * j + 16) = xorT (decT ks (blk s j)) (prv s iv j) := by
      unfold decL
      refine cat_get 16 _ j _ (fun x hx => ?_) (by simp [show j < m by omega])
      obtain ⟨q, hq, rfl⟩ := List.mem_map.1 hx
      have hq := List.mem_range.1 hq
      rw [xorT_size, hp q (by omega), dec_size hk (hb q hq)]
      rfl
    show encT ks (xorT ((decL ks s iv m).extract (16 * j) (16 * j + 16)) (ivJ ks (decL ks s iv m) iv j)) = blk s j
    rw [dec_ivJ hk hi hs j (by omega), hg, xor_xor (by rw [dec_size hk (hb j (by omega)), hp j (by omega)]), enc_dec hk (hb j (by omega))]
theorem cbc_forth {ks : List ByteArray} (hk : all16 ks) {s iv : ByteArray} (hi : iv.size = 16) {m : Nat} (hs : s.size = 16 * m) : outJ ks (xorT (manyB ks true m s) (iv ++ s)) iv m = s := by
  rw [dec_list hk hi hs, out_rng]
  conv => rhs; rw [← pcs_all hs]
  unfold pcs
  congr 1
  refine List.map_congr_left (fun j hj => ?_)
  exact dec_ivJ hk hi hs (j + 1) (List.mem_range.1 hj)
theorem op_forth {kek : ByteArray} (ok : okN kek.size) {top ci tag : ByteArray} (h1 : tag.size = 16) (h2 : ci.size % 16 = 0) (e : bnT kek top (opT kek ci tag) = tag) : ciT kek top (opT kek ci tag) = ci := by
  have hz := opT_size ok h1 h2
  unfold ciT
  rw [e, hz]
  exact cbc_forth (ks_facts (dk_okN ok 0)).2.1 h1 (by omega)
theorem sl_ok {kek : ByteArray} (ok : okN kek.size) (top : ByteArray) {p : ByteArray} (h0 : p.size ≠ 0) (h1 : p.size % 16 = 0) : slX kek top p = (ciT kek top p, bnT kek top p, 0) := by
  unfold slX
  rw [if_pos ok, if_neg h0, if_pos h1]
theorem sl_bad {kek top p : ByteArray} (h : ¬ (okN kek.size ∧ p.size ≠ 0 ∧ p.size % 16 = 0)) : (slX kek top p).2.2 ≠ 0 := by
  unfold slX
  by_cases ok : okN kek.size
  · rw [if_pos ok]
    by_cases h0 : p.size = 0
    · rw [if_pos h0]; exact by decide
    · rw [if_neg h0]
      by_cases h1 : p.size % 16 = 0
      · exact absurd ⟨ok, h0, h1⟩ h
      · rw [if_neg h1]; exact by decide
  · rw [if_neg ok]; exact by decide
theorem awake38 : Ev (fun k => clavigerlaw38_awake.f k) true := by
  unfold clavigerlaw38_awake.f
  generalize hK : (⟨#[48, 49, 50, 51, 52, 53, 54, 55, 56, 57, 97, 98, 99, 100, 101, 102]⟩ : ByteArray) = K
  generalize hT : (⟨#[116, 111, 112]⟩ : ByteArray) = t
  generalize hP : (⟨#[102, 101, 100, 99, 98, 97, 57, 56, 55, 54, 53, 52, 51, 50, 49, 48]⟩ : ByteArray) = p
  generalize hS : (⟨#[115, 104, 111, 114, 116]⟩ : ByteArray) = z
  have ok : okN K.size := by rw [← hK]; exact .inl rfl
  have ht : t.size = 3 := by rw [← hT]; rfl
  have hp : p.size = 16 := by rw [← hP]; rfl
  have hz : z.size = 5 := by rw [← hS]; rfl
  have hl : p.toList = ([102, 101, 100, 99, 98, 97, 57, 56, 55, 54, 53, 52, 51, 50, 49, 48] : List UInt8) := by rw [← hP, tl_eq]
  have h1 := rseal_c K t p (by omega) (by omega)
  rw [sl_ok ok t (by omega) (by omega)] at h1
  have hc := (op_back ok t (p := p) (by omega)).2
  have h2 := open_c K t (ciT K t p) (bnT K t p) (by omega) (by omega)
  have h3 := open_c K t (ciT K t p) z (by omega) (by omega)
  have h4 := right_c K t (ciT K t p) (bnT K t p) (by omega) (by omega)
  rw [op_sealed ok t (by omega) (by omega)] at h2 h4
  rw [show opX K t (ciT K t p) z = (⟨#[]⟩, 4) by unfold opX; rw [if_pos ok, if_neg (fun h => by have := h.1; omega)]] at h3
  exact evb h1 (evb h2 (evb h3 (evp hl (evp rfl (evp nil_list (evp rfl (evb h4 (Ev.now _))))))))
end Go.Proofs.Ytokkhnjedmlbhaa.M
end
section
namespace Go.Proofs.Ytokkhnjedmlbhaa.RowAid
set_option maxRecDepth 100000
def c (n : Nat) : Char := Char.ofNat n
def L : List Char := [c 104, c 97, c 114, c 110, c 101, c 115, c 115, c 32, c 50, c 53, c 55, c 48, c 97, c 52, c 51, c 49, c 101, c 53, c 52, c 48, c 48, c 98, c 97, c 54, c 51, c 101, c 54, c 102, c 101, c 53, c 55, c 55, c 55, c 56, c 102, c 97, c 52, c 56, c 50, c 99, c 57, c 102, c 56, c 101, c 100, c 98, c 57, c 99, c 53, c 50, c 50, c 51, c 53, c 48, c 97, c 101, c 101, c 53, c 51, c 48, c 98, c 102, c 54, c 97, c 50, c 53, c 49, c 99, c 57, c 50, c 99, c 52, c 32, c 99, c 117, c 116, c 32, c 97, c 116, c 32, c 99, c 108, c 97, c 118, c 105, c 103, c 101, c 114, c 47, c 99, c 108, c 97, c 118, c 105, c 103, c 101, c 114, c 108, c 97, c 119, c 48, c 53, c 46, c 70, c 105, c 101, c 108, c 100, c 84, c 101, c 108, c 108, c 115, c 32, c 99, c 108, c 97, c 118, c 105, c 103, c 101, c 114, c 47, c 99, c 108, c 97, c 118, c 105, c 103, c 101, c 114, c 108, c 97, c 119, c 48, c 53, c 46, c 70, c 105, c 101, c 108, c 100, c 76, c 97, c 119, c 115, c 32, c 99, c 108, c 97, c 118, c 105, c 103, c 101, c 114, c 47, c 99, c 108, c 97, c 118, c 105, c 103, c 101, c 114, c 108, c 97, c 119, c 48, c 53, c 46, c 70, c 105, c 101, c 108, c 100, c 68, c 111, c 116, c 115, c 32, c 99, c 108, c 97, c 118, c 105, c 103, c 101, c 114, c 47, c 99, c 108, c 97, c 118, c 105, c 103, c 101, c 114, c 108, c 97, c 119, c 48, c 55, c 46, c 82, c 111, c 117, c 110, c 100, c 65, c 100, c 100, c 115, c 32, c 99, c 108, c 97, c 118, c 105, c 103, c 101, c 114, c 47, c 99, c 108, c 97, c 118, c 105, c 103, c 101, c 114, c 108, c 97, c 119, c 48, c 54, c 46, c 83, c 98, c 111, c 120, c 66, c 121, c 32, c 99, c 108, c 97, c 118, c 105, c 103, c 101, c 114, c 47, c 99, c 108, c 97, c 118, c 105, c 103, c 101, c 114, c 108, c 97, c 119, c 51, c 56, c 46, c 79, c 112, c 101, c 110, c 66, c 97, c 99, c 107, c 32, c 99, c 108, c 97, c 118, c 105, c 103, c 101, c 114, c 47, c 99, c 108, c 97, c 118, c 105, c 103, c 101, c 114, c 108, c 97, c 119, c 48, c 54, c 46, c 83, c 98, c 111, c 120, c 84, c 101, c 108, c 108, c 115, c 32, c 99, c 108, c 97, c 118, c 105, c 103, c 101, c 114, c 47, c 99, c 108, c 97, c 118, c 105, c 103, c 101, c 114, c 108, c 97, c 119, c 48, c 54, c 46, c 83, c 98, c 111, c 120, c 79, c 110, c 99, c 101, c 32, c 99, c 108, c 97, c 118, c 105, c 103, c 101, c 114, c 47, c 99, c 108, c 97, c 118, c 105, c 103, c 101, c 114, c 108, c 97, c 119, c 51, c 56, c 46, c 79, c 112, c 101, c 110, c 66, c 105, c 110, c 100, c 115, c 32, c 99, c 108, c 97, c 118, c 105, c 103, c 101, c 114, c 47, c 99, c 108, c 97, c 118, c 105, c 103, c 101, c 114, c 108, c 97, c 119, c 48, c 55, c 46, c 82, c 111, c 117, c 110, c 100, c 84, c 101, c 108, c 108, c 115, c 32, c 99, c 108, c 97, c 118, c 105, c 103, c 101, c 114, c 47, c 99, c 108, c 97, c 118, c 105, c 103, c 101, c 114, c 108, c 97, c 119, c 48, c 55, c 46, c 82, c 111, c 117, c 110, c 100, c 66, c 97, c 99, c 107, c 32, c 99, c 108, c 97, c 118, c 105, c 103, c 101, c 114, c 47, c 99, c 108, c 97, c 118, c 105, c 103, c 101, c 114, c 108, c 97, c 119, c 48, c 56, c 46, c 83, c 99, c 104, c 101, c 100, c 66, c 101, c 103, c 105, c 110, c 115, c 32, c 99, c 108, c 97, c 118, c 105, c 103, c 101, c 114, c 47, c 99, c 108, c 97, c 118, c 105, c 103, c 101, c 114, c 108, c 97, c 119, c 48, c 56, c 46, c 83, c 99, c 104, c 101, c 100, c 84, c 101, c 108, c 108, c 115, c 32, c 99, c 108, c 97, c 118, c 105, c 103, c 101, c 114, c 47, c 99, c 108, c 97, c 118, c 105, c 103, c 101, c 114, c 108, c 97, c 119, c 48, c 57, c 46, c 65, c 101, c 115, c 84, c 101, c 108, c 108, c 115, c 32, c 99, c 108, c 97, c 118, c 105, c 103, c 101, c 114, c 47, c 99, c 108, c 97, c 118, c 105, c 103, c 101, c 114, c 108, c 97, c 119, c 48, c 57, c 46, c 65, c 101, c 115, c 66, c 97, c 99, c 107, c 32, c 99, c 108, c 97, c 118, c 105, c 103, c 101, c 114, c 47, c 99, c 108, c 97, c 118, c 105, c 103, c 101, c 114, c 108, c 97, c 119, c 48, c 57, c 46, c 65, c 101, c 115, c 77, c 97, c 110, c 121, c 32, c 99, c 108, c 97, c 118, c 105, c 103, c 101, c 114, c 47, c 99, c 108, c 97, c 118, c 105, c 103, c 101, c 114, c 108, c 97, c 119, c 49, c 49, c 46, c 67, c 109, c 97, c 99, c 68, c 111, c 117, c 98, c 108, c 101, c 115, c 32, c 99, c 108, c 97, c 118, c 105, c 103, c 101, c 114, c 47, c 99, c 108, c 97, c 118, c 105, c 103, c 101, c 114, c 108, c 97, c 119, c 49, c 49, c 46, c 67, c 109, c 97, c 99, c 84, c 101, c 108, c 108, c 115, c 32, c 99, c 108, c 97, c 118, c 105, c 103, c 101, c 114, c 47, c 99, c 108, c 97, c 118, c 105, c 103, c 101, c 114, c 108, c 97, c 119, c 49, c 48, c 46, c 67, c 98, c 99, c 84, c 101, c 108, c 108, c 115, c 32, c 99, c 108, c 97, c 118, c 105, c 103, c 101, c 114, c 47, c 99, c 108, c 97, c 118, c 105, c 103, c 101, c 114, c 108, c 97, c 119, c 49, c 48, c 46, c 67, c 98, c 99, c 66, c 97, c 99, c 107, c 32, c 99, c 108, c 97, c 118, c 105, c 103, c 101, c 114, c 47, c 99, c 108, c 97, c 118, c 105, c 103, c 101, c 114, c 108, c 97, c 119, c 49, c 49, c 46, c 67, c 109, c 97, c 99, c 67, c 104, c 101, c 99, c 107, c 115, c 32, c 99, c 108, c 97, c 118, c 105, c 103, c 101, c 114, c 47, c 99, c 108, c 97, c 118, c 105, c 103, c 101, c 114, c 108, c 97, c 119, c 49, c 50, c 46, c 75, c 100, c 102, c 84, c 101, c 108, c 108, c 115, c 32, c 99, c 108, c 97, c 118, c 105, c 103, c 101, c 114, c 47, c 99, c 108, c 97, c 118, c 105, c 103, c 101, c 114, c 108, c 97, c 119, c 49, c 50, c 46, c 75, c 100, c 102, c 66, c 101, c 103, c 105, c 110, c 115, c 32, c 99, c 108, c 97, c 118, c 105, c 103, c 101, c 114, c 47, c 99, c 108, c 97, c 118, c 105, c 103, c 101, c 114, c 108, c 97, c 119, c 51, c 53, c 46, c 68, c 101, c 114, c 105, c 118, c 101, c 84, c 101, c 108, c 108, c 115, c 32, c 99, c 108, c 97, c 118, c 105, c 103, c 101, c 114, c 47, c 99, c 108, c 97, c 118, c 105, c 103, c 101, c 114, c 108, c 97, c 119, c 51, c 53, c 46, c 68, c 101, c 114, c 105, c 118, c 101, c 83, c 105, c 122, c 101, c 115, c 32, c 99, c 108, c 97, c 118, c 105, c 103, c 101, c 114, c 47, c 99, c 108, c 97, c 118, c 105, c 103, c 101, c 114, c 108, c 97, c 119, c 49, c 52, c 46, c 80, c 97, c 100, c 119, c 114, c 97, c 112, c 84, c 101, c 108, c 108, c 115, c 32, c 99, c 108, c 97, c 118, c 105, c 103, c 101, c 114, c 47, c 99, c 108, c 97, c 118, c 105, c 103, c 101, c 114, c 108, c 97, c 119, c 49, c 52, c 46, c 80, c 97, c 100, c 119, c 114, c 97, c 112, c 66, c 97, c 99, c 107, c 32, c 99, c 108, c 97, c 118, c 105, c 103, c 101, c 114, c 47, c 99, c 108, c 97, c 118, c 105, c 103, c 101, c 114, c 108, c 97, c 119, c 49, c 52, c 46, c 80, c 97, c 100, c 119, c 114, c 97, c 112, c 79, c 110, c 101, c 32, c 99, c 108, c 97, c 118, c 105, c 103, c 101, c 114, c 47, c 99, c 108, c 97, c 118, c 105, c 103, c 101, c 114, c 108, c 97, c 119, c 51, c 55, c 46, c 83, c 101, c 97, c 108, c 84, c 101, c 108, c 108, c 115, c 32, c 99, c 108, c 97, c 118, c 105, c 103, c 101, c 114, c 47, c 99, c 108, c 97, c 118, c 105, c 103, c 101, c 114, c 108, c 97, c 119, c 51, c 55, c 46, c 83, c 101, c 97, c 108, c 72, c 111, c 108, c 100, c 115, c 32, c 99, c 108, c 97, c 118, c 105, c 103, c 101, c 114, c 47, c 99, c 108, c 97, c 118, c 105, c 103, c 101, c 114, c 108, c 97, c 119, c 49, c 51, c 46, c 87, c 114, c 97, c 112, c 84, c 101, c 108, c 108, c 115, c 32, c 99, c 108, c 97, c 118, c 105, c 103, c 101, c 114, c 47, c 99, c 108, c 97, c 118, c 105, c 103, c 101, c 114, c 108, c 97, c 119, c 49, c 51, c 46, c 87, c 114, c 97, c 112, c 66, c 97, c 99, c 107, c 32, c 99, c 108, c 97, c 118, c 105, c 103, c 101, c 114, c 47, c 99, c 108, c 97, c 118, c 105, c 103, c 101, c 114, c 108, c 97, c 119, c 49, c 51, c 46, c 87, c 114, c 97, c 112, c 79, c 110, c 101, c 32, c 99, c 108, c 97, c 118, c 105, c 103, c 101, c 114, c 47, c 99, c 108, c 97, c 118, c 105, c 103, c 101, c 114, c 108, c 97, c 119, c 51, c 56, c 46, c 79, c 112, c 101, c 110, c 84, c 101, c 108, c 108, c 115]
def WL : List (List Char) := [[c 97, c 116], [c 99, c 108, c 97, c 118, c 105, c 103, c 101, c 114, c 47, c 99, c 108, c 97, c 118, c 105, c 103, c 101, c 114, c 108, c 97, c 119, c 48, c 53, c 46, c 70, c 105, c 101, c 108, c 100, c 84, c 101, c 108, c 108, c 115], [c 99, c 108, c 97, c 118, c 105, c 103, c 101, c 114, c 47, c 99, c 108, c 97, c 118, c 105, c 103, c 101, c 114, c 108, c 97, c 119, c 48, c 53, c 46, c 70, c 105, c 101, c 108, c 100, c 76, c 97, c 119, c 115], [c 99, c 108, c 97, c 118, c 105, c 103, c 101, c 114, c 47, c 99, c 108, c 97, c 118, c 105, c 103, c 101, c 114, c 108, c 97, c 119, c 48, c 53, c 46, c 70, c 105, c 101, c 108, c 100, c 68, c 111, c 116, c 115], [c 99, c 108, c 97, c 118, c 105, c 103, c 101, c 114, c 47, c 99, c 108, c 97, c 118, c 105, c 103, c 101, c 114, c 108, c 97, c 119, c 48, c 55, c 46, c 82, c 111, c 117, c 110, c 100, c 65, c 100, c 100, c 115], [c 99, c 108, c 97, c 118, c 105, c 103, c 101, c 114, c 47, c 99, c 108, c 97, c 118, c 105, c 103, c 101, c 114, c 108, c 97, c 119, c 48, c 54, c 46, c 83, c 98, c 111, c 120, c 66, c 121], [c 99, c 108, c 97, c 118, c 105, c 103, c 101, c 114, c 47, c 99, c 108, c 97, c 118, c 105, c 103, c 101, c 114, c 108, c 97, c 119, c 51, c 56, c 46, c 79, c 112, c 101, c 110, c 66, c 97, c 99, c 107], [c 99, c 108, c 97, c 118, c 105, c 103, c 101, c 114, c 47, c 99, c 108, c 97, c 118, c 105, c 103, c 101, c 114, c 108, c 97, c 119, c 48, c 54, c 46, c 83, c 98, c 111, c 120, c 84, c 101, c 108, c 108, c 115], [c 99, c 108, c 97, c 118, c 105, c 103, c 101, c 114, c 47, c 99, c 108, c 97, c 118, c 105, c 103, c 101, c 114, c 108, c 97, c 119, c 48, c 54, c 46, c 83, c 98, c 111, c 120, c 79, c 110, c 99, c 101], [c 99, c 108, c 97, c 118, c 105, c 103, c 101, c 114, c 47, c 99, c 108, c 97, c 118, c 105, c 103, c 101, c 114, c 108, c 97, c 119, c 51, c 56, c 46, c 79, c 112, c 101, c 110, c 66, c 105, c 110, c 100, c 115], [c 99, c 108, c 97, c 118, c 105, c 103, c 101, c 114, c 47, c 99, c 108, c 97, c 118, c 105, c 103, c 101, c 114, c 108, c 97, c 119, c 48, c 55, c 46, c 82, c 111, c 117, c 110, c 100, c 84, c 101, c 108, c 108, c 115], [c 99, c 108, c 97, c 118, c 105, c 103, c 101, c 114, c 47, c 99, c 108, c 97, c 118, c 105, c 103, c 101, c 114, c 108, c 97, c 119, c 48, c 55, c 46, c 82, c 111, c 117, c 110, c 100, c 66, c 97, c 99, c 107], [c 99, c 108, c 97, c 118, c 105, c 103, c 101, c 114, c 47, c 99, c 108, c 97, c 118, c 105, c 103, c 101, c 114, c 108, c 97, c 119, c 48, c 56, c 46, c 83, c 99, c 104, c 101, c 100, c 66, c 101, c 103, c 105, c 110, c 115], [c 99, c 108, c 97, c 118, c 105, c 103, c 101, c 114, c 47, c 99, c 108, c 97, c 118, c 105, c 103, c 101, c 114, c 108, c 97, c 119, c 48, c 56, c 46, c 83, c 99, c 104, c 101, c 100, c 84, c 101, c 108, c 108, c 115], [c 99, c 108, c 97, c 118, c 105, c 103, c 101, c 114, c 47, c 99, c 108, c 97, c 118, c 105, c 103, c 101, c 114, c 108, c 97, c 119, c 48, c 57, c 46, c 65, c 101, c 115, c 84, c 101, c 108, c 108, c 115], [c 99, c 108, c 97, c 118, c 105, c 103, c 101, c 114, c 47, c 99, c 108, c 97, c 118, c 105, c 103, c 101, c 114, c 108, c 97, c 119, c 48, c 57, c 46, c 65, c 101, c 115, c 66, c 97, c 99, c 107], [c 99, c 108, c 97, c 118, c 105, c 103, c 101, c 114, c 47, c 99, c 108, c 97, c 118, c 105, c 103, c 101, c 114, c 108, c 97, c 119, c 48, c 57, c 46, c 65, c 101, c 115, c 77, c 97, c 110, c 121], [c 99, c 108, c 97, c 118, c 105, c 103, c 101, c 114, c 47, c 99, c 108, c 97, c 118, c 105, c 103, c 101, c 114, c 108, c 97, c 119, c 49, c 49, c 46, c 67, c 109, c 97, c 99, c 68, c 111, c 117, c 98, c 108, c 101, c 115], [c 99, c 108, c 97, c 118, c 105, c 103, c 101, c 114, c 47, c 99, c 108, c 97, c 118, c 105, c 103, c 101, c 114, c 108, c 97, c 119, c 49, c 49, c 46, c 67, c 109, c 97, c 99, c 84, c 101, c 108, c 108, c 115], [c 99, c 108, c 97, c 118, c 105, c 103, c 101, c 114, c 47, c 99, c 108, c 97, c 118, c 105, c 103, c 101, c 114, c 108, c 97, c 119, c 49, c 48, c 46, c 67, c 98, c 99, c 84, c 101, c 108, c 108, c 115], [c 99, c 108, c 97, c 118, c 105, c 103, c 101, c 114, c 47, c 99, c 108, c 97, c 118, c 105, c 103, c 101, c 114, c 108, c 97, c 119, c 49, c 48, c 46, c 67, c 98, c 99, c 66, c 97, c 99, c 107], [c 99, c 108, c 97, c 118, c 105, c 103, c 101, c 114, c 47, c 99, c 108, c 97, c 118, c 105, c 103, c 101, c 114, c 108, c 97, c 119, c 49, c 49, c 46, c 67, c 109, c 97, c 99, c 67, c 104, c 101, c 99, c 107, c 115], [c 99, c 108, c 97, c 118, c 105, c 103, c 101, c 114, c 47, c 99, c 108, c 97, c 118, c 105, c 103, c 101, c 114, c 108, c 97, c 119, c 49, c 50, c 46, c 75, c 100, c 102, c 84, c 101, c 108, c 108, c 115], [c 99, c 108, c 97, c 118, c 105, c 103, c 101, c 114, c 47, c 99, c 108, c 97, c 118, c 105, c 103, c 101, c 114, c 108, c 97, c 119, c 49, c 50, c 46, c 75, c 100, c 102, c 66, c 101, c 103, c 105, c 110, c 115], [c 99, c 108, c 97, c 118, c 105, c 103, c 101, c 114, c 47, c 99, c 108, c 97, c 118, c 105, c 103, c 101, c 114, c 108, c 97, c 119, c 51, c 53, c 46, c 68, c 101, c 114, c 105, c 118, c 101, c 84, c 101, c 108, c 108, c 115], [c 99, c 108, c 97, c 118, c 105, c 103, c 101, c 114, c 47, c 99, c 108, c 97, c 118, c 105, c 103, c 101, c 114, c 108, c 97, c 119, c 51, c 53, c 46, c 68, c 101, c 114, c 105, c 118, c 101, c 83, c 105, c 122, c 101, c 115], [c 99, c 108, c 97, c 118, c 105, c 103, c 101, c 114, c 47, c 99, c 108, c 97, c 118, c 105, c 103, c 101, c 114, c 108, c 97, c 119, c 49, c 52, c 46, c 80, c 97, c 100, c 119, c 114, c 97, c 112, c 84, c 101, c 108, c 108, c 115], [c 99, c 108, c 97, c 118, c 105, c 103, c 101, c 114, c 47, c 99, c 108, c 97, c 118, c 105, c 103, c 101, c 114, c 108, c 97, c 119, c 49, c 52, c 46, c 80, c 97, c 100, c 119, c 114, c 97, c 112, c 66, c 97, c 99, c 107], [c 99, c 108, c 97, c 118, c 105, c 103, c 101, c 114, c 47, c 99, c 108, c 97, c 118, c 105, c 103, c 101, c 114, c 108, c 97, c 119, c 49, c 52, c 46, c 80, c 97, c 100, c 119, c 114, c 97, c 112, c 79, c 110, c 101], [c 99, c 108, c 97, c 118, c 105, c 103, c 101, c 114, c 47, c 99, c 108, c 97, c 118, c 105, c 103, c 101, c 114, c 108, c 97, c 119, c 51, c 55, c 46, c 83, c 101, c 97, c 108, c 84, c 101, c 108, c 108, c 115], [c 99, c 108, c 97, c 118, c 105, c 103, c 101, c 114, c 47, c 99, c 108, c 97, c 118, c 105, c 103, c 101, c 114, c 108, c 97, c 119, c 51, c 55, c 46, c 83, c 101, c 97, c 108, c 72, c 111, c 108, c 100, c 115], [c 99, c 108, c 97, c 118, c 105, c 103, c 101, c 114, c 47, c 99, c 108, c 97, c 118, c 105, c 103, c 101, c 114, c 108, c 97, c 119, c 49, c 51, c 46, c 87, c 114, c 97, c 112, c 84, c 101, c 108, c 108, c 115], [c 99, c 108, c 97, c 118, c 105, c 103, c 101, c 114, c 47, c 99, c 108, c 97, c 118, c 105, c 103, c 101, c 114, c 108, c 97, c 119, c 49, c 51, c 46, c 87, c 114, c 97, c 112, c 66, c 97, c 99, c 107], [c 99, c 108, c 97, c 118, c 105, c 103, c 101, c 114, c 47, c 99, c 108, c 97, c 118, c 105, c 103, c 101, c 114, c 108, c 97, c 119, c 49, c 51, c 46, c 87, c 114, c 97, c 112, c 79, c 110, c 101], [c 99, c 108, c 97, c 118, c 105, c 103, c 101, c 114, c 47, c 99, c 108, c 97, c 118, c 105, c 103, c 101, c 114, c 108, c 97, c 119, c 51, c 56, c 46, c 79, c 112, c 101, c 110, c 84, c 101, c 108, c 108, c 115]]
theorem z0 : Try.prog.initOrder = String.ofList L := by kernel_rfl
theorem z1 : Try.prog.initOrder.toList = L := by rw [z0]; exact String.toList_ofList
theorem z2 : behindMainWord (wordsSigns L) = "cut".toList :: WL := by kernel_rfl
theorem z3 : behindMainWord (wordsSigns Try.prog.initOrder.toList) = "cut".toList :: WL := (congrArg (fun x => behindMainWord (wordsSigns x)) z1).trans z2
theorem strip_cut (r : List (List Char)) : stripLifts liftWords ("cut".toList :: r) = ([], "cut".toList :: r) := by
  unfold liftWords
  simp [stripLifts]
theorem make_cut {P : Program} {r : List (List Char)} (h : behindMainWord (wordsSigns P.initOrder.toList) = "cut".toList :: r) : P.make = some .cut := by
  unfold Program.make
  rw [h]
  simp
theorem lifts_cut {P : Program} {r : List (List Char)} (h : behindMainWord (wordsSigns P.initOrder.toList) = "cut".toList :: r) : P.headLifts = [] := by
  unfold Program.headLifts
  rw [h, strip_cut]
  simp
theorem final_cut {P : Program} {r : List (List Char)} (h : behindMainWord (wordsSigns P.initOrder.toList) = "cut".toList :: r) : P.liftsFinal = false := by
  unfold Program.liftsFinal
  rw [lifts_cut h, h]
  simp
theorem enter_cut {P : Program} {r : List (List Char)} (h : behindMainWord (wordsSigns P.initOrder.toList) = "cut".toList :: r) (h1 : P.laysLater = false) (h2 : P.bearsReflect = false) (h3 : P.doorFits [] = true) : P.mayEnter = true := by
  unfold Program.mayEnter
  rw [h]
  simp only [strip_cut]
  simp [h1, h2, h3]
theorem enter : Try.prog.mayEnter = true := enter_cut z3 (by as_aux_lemma => kernel_rfl) (by as_aux_lemma => kernel_rfl) (by as_aux_lemma => kernel_rfl)
theorem final : Try.prog.liftsFinal = false := final_cut z3
theorem make : Try.prog.make = some .cut := make_cut z3
theorem laid : laidOutB Try.prog = true := by kernel_rfl
theorem rowed : mapsRowed Try.prog = true := by kernel_rfl
theorem heard : Try.prog.stopsHeard = true := by kernel_rfl
theorem plain : Try.prog.plainKeys = true := by kernel_rfl
theorem and_mk {a b : Bool} (h : a = true) (k : b = true) : (a && b) = true := by rw [h, k]; rfl
end Go.Proofs.Ytokkhnjedmlbhaa.RowAid
end
