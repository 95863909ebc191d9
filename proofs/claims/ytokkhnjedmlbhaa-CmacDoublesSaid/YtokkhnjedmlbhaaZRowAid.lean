-- several texts in one (by the session's program shake.py)
import Derived.Test.YtokkhnjedmlbhaaZShelf
import Derived.Test.YtokkhnjedmlbhaaZPrg11
import Derived.Test.YtokkhnjedmlbhaaZPrL11CmacChecks
import Derived.Test.YtokkhnjedmlbhaaZSchedP
import Derived.Test.YtokkhnjedmlbhaaZRoundM
import Derived.Deep.QuietTactic
import Derived.BigQuiet
import Derived.Deep.RegionHeld3
import Derived.Deep.DrawnRows
import Derived.Test.YtokkhnjedmlbhaaRows
import Derived.JoinedOf
import Derived.KernelRfl
section
namespace Go.Proofs.Ytokkhnjedmlbhaa.Pr
open Go.RowKit Go.Proofs.YtokkhnjedmlbhaaW.PrintWords Go.Proofs.YtokkhnjedmlbhaaW.PrintLast Go.Proofs.YtokkhnjedmlbhaaW.PrintMore
attribute [local go_sem] max2_int min2_int max_two min_two max_three min_three max_four min_four   -- for this text's walks alone
set_option linter.unusedVariables false
set_option linter.unusedSimpArgs false

def clavigerlaw11_CmacTells.j0 : Nat → ByteArray → ByteArray → ByteArray → Int → Bool → Option (Bool)
 | 0, _, _, _, _, _ => none
 | k + 1, x0, x1, x2, x3, x31 => if x31 = true then ((clavigerlaw11_awake.f).bind fun t1 => (some t1)) else ((cmac_Tag.f x0 x1).bind fun bt2 => ((clavigerref11_Tag.f k x0 x1).bind fun bt3 => ((cmac_Subkeys.f x0).bind fun bt4 => ((clavigerref11_Subkeys.f k x0).bind fun bt5 => (if bt2.1.toList = bt3.1.toList then (if bt2.2 = bt3.2 then (if bt4.1.toList = bt5.1.toList then (if bt4.2.1.toList = bt5.2.1.toList then (if bt4.2.2 = bt5.2.2 then ((cmac_Double.f k x2).bind fun t6 => ((clavigerref11_Double.f x2).bind fun t7 => (if t6.toList = t7.toList then ((cmac_Blocks.f x3).bind fun t8 => ((clavigerref11_Blocks.f x3).bind fun t9 => (if t8 = t9 then ((clavigerlaw11_awake.f).bind fun t10 => (some t10)) else (some false)))) else (some false)))) else (some false)) else (some false)) else (some false)) else (some false)) else (some false))))))
def clavigerlaw11_CmacTells.f (k : Nat) (a0 : ByteArray) (a1 : ByteArray) (a2 : ByteArray) (a3 : Int) : Option (Bool) := if (a0.size : Int) > 100 then (clavigerlaw11_CmacTells.j0 k a0 a1 a2 a3 true) else (if (a1.size : Int) > 160 then (clavigerlaw11_CmacTells.j0 k a0 a1 a2 a3 true) else (clavigerlaw11_CmacTells.j0 k a0 a1 a2 a3 (decide ((a2.size : Int) > 100))))
theorem clavigerlaw11_CmacTells.mono_l : ∀ k, (∀ y11 y12 y13 y14 y15, LeO (clavigerlaw11_CmacTells.j0 k y11 y12 y13 y14 y15) (clavigerlaw11_CmacTells.j0 (k + 1) y11 y12 y13 y14 y15))
 | 0 => fun _ _ _ _ _ r h => by simp [clavigerlaw11_CmacTells.j0] at h
 | k + 1 => by
  have ih0 := clavigerlaw11_CmacTells.mono_l k
  ·intro y11 y12 y13 y14 y15
   unfold clavigerlaw11_CmacTells.j0
   repeat' first
   | (with_reducible exact ih0 _ _ _ _ _)
   | (with_reducible exact clavigerref11_Subkeys.mono _ _)
   | (with_reducible exact clavigerref11_Tag.mono _ _ _)
   | (with_reducible exact cmac_Double.mono _ _)
   | (with_reducible exact LeO.refl _)
   | (with_reducible exact LeO.none _)
   | (with_reducible refine LeO.ite ?_ ?_)
   | (with_reducible refine LeO.bind ?_ (fun _ => ?_))
theorem clavigerlaw11_CmacTells.mono : ∀ a0 a1 a2 a3 k, LeO (clavigerlaw11_CmacTells.f k a0 a1 a2 a3) (clavigerlaw11_CmacTells.f (k + 1) a0 a1 a2 a3) := by
 intro a0 a1 a2 a3 k
 have ih0 := clavigerlaw11_CmacTells.mono_l k
 unfold clavigerlaw11_CmacTells.f
 repeat' first
   | (with_reducible exact ih0 _ _ _ _ _)
   | (with_reducible exact clavigerref11_Subkeys.mono _ _)
   | (with_reducible exact clavigerref11_Tag.mono _ _ _)
   | (with_reducible exact cmac_Double.mono _ _)
   | (with_reducible exact LeO.refl _)
   | (with_reducible exact LeO.none _)
   | (with_reducible refine LeO.ite ?_ ?_)
   | (with_reducible refine LeO.bind ?_ (fun _ => ?_))
end Go.Proofs.Ytokkhnjedmlbhaa.Pr
end
section
namespace Go.Proofs.Ytokkhnjedmlbhaa.M
open Go.RowKit Go.Proofs.Ytokkhnjedmlbhaa.Pr Go.Proofs.YtokkhnjedmlbhaaW.PrintWords Go.Proofs.YtokkhnjedmlbhaaW.PrintLast Go.Proofs.YtokkhnjedmlbhaaW.PrintMore Go.Proofs.YtokkhnjedmlbhaaGf
set_option linter.unusedSimpArgs false
set_option maxRecDepth 100000 in
theorem rfc_zero : encT (ksB (mkB [43, 126, 21, 22, 40, 174, 210, 166, 171, 247, 21, 136, 9, 207, 79, 60])) (mkB [0, 0, 0, 0, 0, 0, 0, 0, 0, 0, 0, 0, 0, 0, 0, 0]) = mkB [125, 247, 107, 12, 26, 184, 153, 179, 62, 66, 240, 71, 185, 27, 84, 111] :=
  run_enc 4 (by omega) rfl (by decide +kernel) (by decide +kernel) (by decide +kernel) rfl (by decide +kernel)
set_option maxRecDepth 100000 in
theorem rfc_last : encT (ksB (mkB [43, 126, 21, 22, 40, 174, 210, 166, 171, 247, 21, 136, 9, 207, 79, 60])) (mkB [119, 221, 172, 48, 106, 226, 102, 204, 249, 11, 193, 30, 228, 109, 81, 59]) = mkB [187, 29, 105, 41, 233, 89, 55, 40, 127, 163, 125, 18, 155, 117, 103, 70] :=
  run_enc 4 (by omega) rfl (by decide +kernel) (by decide +kernel) (by decide +kernel) rfl (by decide +kernel)
set_option maxRecDepth 100000 in
theorem rfc_mid : xorT (zeros 16) (lastX (⟨#[]⟩ : ByteArray) (dblT (mkB [125, 247, 107, 12, 26, 184, 153, 179, 62, 66, 240, 71, 185, 27, 84, 111])) (dblT (dblT (mkB [125, 247, 107, 12, 26, 184, 153, 179, 62, 66, 240, 71, 185, 27, 84, 111])))) = mkB [119, 221, 172, 48, 106, 226, 102, 204, 249, 11, 193, 30, 228, 109, 81, 59] := by decide +kernel
theorem tag_empty (ks : List ByteArray) : tagT ks ⟨#[]⟩ = encT ks (xorT (zeros 16) (lastX (⟨#[]⟩ : ByteArray) (dblT (encT ks (mkB [0, 0, 0, 0, 0, 0, 0, 0, 0, 0, 0, 0, 0, 0, 0, 0]))) (dblT (dblT (encT ks (mkB [0, 0, 0, 0, 0, 0, 0, 0, 0, 0, 0, 0, 0, 0, 0, 0])))))) := rfl
theorem awake11 : clavigerlaw11_awake.f = some true := by
  unfold clavigerlaw11_awake.f
  have ok : okN (mkB [43, 126, 21, 22, 40, 174, 210, 166, 171, 247, 21, 136, 9, 207, 79, 60]).size := .inl (by rw [mkB_size]; rfl)
  have h : cmac_Tag.f (⟨#[43, 126, 21, 22, 40, 174, 210, 166, 171, 247, 21, 136, 9, 207, 79, 60]⟩ : ByteArray) (⟨#[]⟩ : ByteArray) = some (mkB [187, 29, 105, 41, 233, 89, 55, 40, 127, 163, 125, 18, 155, 117, 103, 70], 0) := by
    rw [show (⟨#[43, 126, 21, 22, 40, 174, 210, 166, 171, 247, 21, 136, 9, 207, 79, 60]⟩ : ByteArray) = mkB [43, 126, 21, 22, 40, 174, 210, 166, 171, 247, 21, 136, 9, 207, 79, 60] from rfl, ctag_x _ _ (by decide)]
    unfold tagX
    rw [if_pos ok, tag_empty, rfc_zero, rfc_mid, rfc_last]
  rw [h]
  simp only [Option.bind_some]
  rw [if_pos (by decide +kernel)]
  decide +kernel
end Go.Proofs.Ytokkhnjedmlbhaa.M
end
section
namespace Go.Proofs.Ytokkhnjedmlbhaa.M
open Go.Proofs.YtokkhnjedmlbhaaGf
theorem lo_xor : ∀ a, a < 256 → ∀ b, b < 256 → 2 * (a ^^^ b) % 256 = (2 * a % 256) ^^^ (2 * b % 256) := by decide +kernel
theorem hi_xor : ∀ a, a < 256 → ∀ b, b < 256 → (a ^^^ b) / 128 = (a / 128) ^^^ (b / 128) := by decide +kernel
theorem add_bit : ∀ u, u < 128 → ∀ s, s < 2 → 2 * u + s = (2 * u) ^^^ s := by decide +kernel
theorem m135 : ∀ s, s < 2 → ∀ t, t < 2 → (s ^^^ t) * 135 = (s * 135) ^^^ (t * 135) := by decide
theorem x4 (a b c d : Nat) : (a ^^^ b) ^^^ (c ^^^ d) = (a ^^^ c) ^^^ (b ^^^ d) := by
  rw [Nat.xor_assoc, Nat.xor_assoc, ← Nat.xor_assoc b c d, Nat.xor_comm b c, Nat.xor_assoc c b d]
theorem dbN_x (g : Nat → Nat) (i : Nat) (hg : ∀ j, g j < 256) : dbN g i = if i < 15 then (2 * g i % 256) ^^^ (g (i + 1) / 128) else (2 * g 15 % 256) ^^^ (g 0 / 128 * 135) := by
  unfold dbN
  by_cases h : i < 15
  · rw [if_pos h, if_pos h]
    have h1 := hg i
    have h2 := hg (i + 1)
    have e : 2 * g i % 256 = 2 * (g i % 128) := by omega
    rw [e]
    exact add_bit _ (by omega) _ (by omega)
  · rw [if_neg h, if_neg h]
theorem dbN_lt (g : Nat → Nat) (i : Nat) (hg : ∀ j, g j < 256) : dbN g i < 256 := by
  have h0 := hg 0
  have h2 := hg (i + 1)
  unfold dbN
  by_cases h : i < 15
  · rw [if_pos h]; omega
  · rw [if_neg h]
    exact xor_lt (by omega) (by omega)
theorem dbN_xor (g h : Nat → Nat) (i : Nat) (hg : ∀ j, g j < 256) (hh : ∀ j, h j < 256) : dbN (fun j => g j ^^^ h j) i = dbN g i ^^^ dbN h i := by
  rw [dbN_x _ i (fun j => xor_lt (hg j) (hh j)), dbN_x g i hg, dbN_x h i hh]
  by_cases hi : i < 15
  · rw [if_pos hi, if_pos hi, if_pos hi, lo_xor _ (hg i) _ (hh i), hi_xor _ (hg (i + 1)) _ (hh (i + 1)), x4]
  · rw [if_neg hi, if_neg hi, if_neg hi, lo_xor _ (hg 15) _ (hh 15), hi_xor _ (hg 0) _ (hh 0), m135 _ (by have := hg 0; omega) _ (by have := hh 0; omega), x4]
theorem xor_16 {a b : ByteArray} (ha : a.size = 16) (hb : b.size = 16) : xorT a b = T (fun q => bb a q ^^^ bb b q) := by unfold xorT; rw [ha, hb]; rfl
theorem dbl_xor {a b : ByteArray} (ha : a.size = 16) (hb : b.size = 16) : dblT (xorT a b) = xorT (dblT a) (dblT b) := by
  have hx : (xorT a b).size = 16 := by rw [xorT_size, ha, hb]; rfl
  unfold dblT
  rw [if_pos hx, if_pos ha, if_pos hb, xor_16 (T_size _) (T_size _)]
  refine T_congr (fun q hq => ?_)
  rw [T_bb (fun i _ => dbN_lt _ i (bb_lt a)) q hq, T_bb (fun i _ => dbN_lt _ i (bb_lt b)) q hq, ← dbN_xor _ _ q (bb_lt a) (bb_lt b)]
  have hj : ∀ j, j < 16 → bb (xorT a b) j = bb a j ^^^ bb b j := fun j h => by
    rw [xor_16 ha hb, T_bb (fun i _ => xor_lt (bb_lt a i) (bb_lt b i)) j h]
  unfold dbN
  by_cases h : q < 15
  · rw [if_pos h, if_pos h, hj q (by omega), hj (q + 1) (by omega)]
  · rw [if_neg h, if_neg h, hj 15 (by omega), hj 0 (by omega)]
/-- What is doubled tells what it was. -/
theorem odd135 : ∀ v, v < 128 → ((2 * v) ^^^ 135) % 2 = 1 := by decide +kernel
theorem twice135 : ∀ v, v < 128 → ((2 * v) ^^^ 135) ^^^ 135 = 2 * v := by decide +kernel
theorem back15 (s t u v : Nat) (hs : s < 2) (ht : t < 2) (hu : u < 128) (hv : v < 128) (h : (2 * u) ^^^ (s * 135) = (2 * v) ^^^ (t * 135)) : s = t ∧ u = v := by
  have ou := odd135 u hu
  have ov := odd135 v hv
  have tu := twice135 u hu
  have tv := twice135 v hv
  rcases (show s = 0 ∨ s = 1 by omega) with rfl | rfl <;> rcases (show t = 0 ∨ t = 1 by omega) with rfl | rfl
  · simp only [Nat.zero_mul, Nat.xor_zero] at h
    omega
  · simp only [Nat.zero_mul, Nat.xor_zero, Nat.one_mul] at h
    omega
  · simp only [Nat.zero_mul, Nat.xor_zero, Nat.one_mul] at h
    omega
  · simp only [Nat.one_mul] at h
    rw [h] at tu
    omega
theorem dbl_inj {a b : ByteArray} (ha : a.size = 16) (hb : b.size = 16) (h : dblT a = dblT b) : a = b := by
  have hq : ∀ q, q < 16 → dbN (bb a) q = dbN (bb b) q := fun q hq => by
    have e := congrArg (fun s => bb s q) h
    unfold dblT at e
    simp only [if_pos ha, if_pos hb] at e
    rw [T_bb (fun i _ => dbN_lt _ i (bb_lt a)) q hq, T_bb (fun i _ => dbN_lt _ i (bb_lt b)) q hq] at e
    exact e
  have h15 := hq 15 (by omega)
  unfold dbN at h15
  rw [if_neg (by omega), if_neg (by omega)] at h15
  have a0 := bb_lt a 0
  have b0 := bb_lt b 0
  have a15 := bb_lt a 15
  have b15 := bb_lt b 15
  have e15 := back15 (bb a 0 / 128) (bb b 0 / 128) (bb a 15 % 128) (bb b 15 % 128) (by omega) (by omega) (by omega) (by omega) (by
    rw [show 2 * (bb a 15 % 128) = 2 * bb a 15 % 256 by omega, show 2 * (bb b 15 % 128) = 2 * bb b 15 % 256 by omega]; exact h15)
  have low : ∀ q, q < 15 → bb a q % 128 = bb b q % 128 ∧ bb a (q + 1) / 128 = bb b (q + 1) / 128 := fun q hl => by
    have e := hq q (by omega)
    unfold dbN at e
    rw [if_pos hl, if_pos hl] at e
    have := bb_lt a q
    have := bb_lt b q
    have := bb_lt a (q + 1)
    have := bb_lt b (q + 1)
    omega
  have all : ∀ q, q < 16 → bb a q = bb b q := fun q hl => by
    have h1 : bb a q % 128 = bb b q % 128 := by
      by_cases e : q < 15
      · exact (low q e).1
      · rw [show q = 15 by omega]; exact e15.2
    have h2 : bb a q / 128 = bb b q / 128 := by
      by_cases e : q = 0
      · rw [e]; exact e15.1
      · have := (low (q - 1) (by omega)).2
        rwa [show q - 1 + 1 = q by omega] at this
    omega
  exact same_of (by omega) (fun j hj => all j (by omega))
end Go.Proofs.Ytokkhnjedmlbhaa.M
end
section
namespace Go.Proofs.Ytokkhnjedmlbhaa.Pr
open Go.RowKit Go.Proofs.YtokkhnjedmlbhaaW.PrintWords Go.Proofs.YtokkhnjedmlbhaaW.PrintLast Go.Proofs.YtokkhnjedmlbhaaW.PrintMore Go.Proofs.YtokkhnjedmlbhaaHw Go.Proofs.YtokkhnjedmlbhaaGf
theorem ne_dbl {a : ByteArray} (h : a.size = 16) : (M.dblT a).toList.isEmpty = false := by
  have hs := M.dblT_size h
  rw [M.tl_eq]
  cases e : (M.dblT a).data.toList with
  | nil => exact absurd (by have := congrArg List.length e; rw [Array.length_toList] at this; exact this) (show ¬ (M.dblT a).size = 0 by omega)
  | cons _ _ => rfl
theorem no_dbl {a : ByteArray} (h : ¬ a.size = 16) : M.dblT a = ⟨#[]⟩ := by unfold M.dblT; rw [if_neg h]
set_option maxHeartbeats 1000000 in
theorem cmacDb_a (k : Nat) (a b : ByteArray) (w : World) (h0 : cmac_Double.f k a = some (M.dblT a)) (haw : clavigerlaw11_awake.f = some true) (hs : ¬ a.size = 16) :
    Calls Try.prog 19 #[.string a, .string b] w fun e w' => e = .returned (.bool true) ∧ Below w.heap.size w w' := by
  rw [no_dbl hs] at h0
  have H0 := Aside0.mk h0
  have HA := Aside0.mk haw
  have e1 : (((a.size : Nat) : Int) != 16) = true := by simp; omega
  have e2 : (((a.size : Nat) : Int) == 16) = false := by simp; omega
  clear h0 haw hs
  go_enter Try.func19, Try.ntmps19
  go_wp2_with (first
    | (go_at_call 108; (with_reducible refine (cmac_Double.calls k a _ _ H0.out).mono ?_); rintro e w2 ⟨rfl, hb2⟩; have HB2 := Aside0.mk hb2; clear hb2)
    | (go_at_call 109; (with_reducible refine (clavigerlaw11_awake.calls _ _ HA.out).mono ?_); rintro e w3 ⟨rfl, hb3⟩; have HB3 := Aside0.mk (below_then HB2.out HB2.out.size hb3); clear hb3))
  go_ret
  exact ⟨rfl, HB3.out⟩
set_option maxHeartbeats 1000000 in
theorem cmacDb_b (k : Nat) (a b : ByteArray) (w : World) (h0 : cmac_Double.f k a = some (M.dblT a)) (haw : clavigerlaw11_awake.f = some true) (hs : a.size = 16) (ht : ¬ b.size = 16) :
    Calls Try.prog 19 #[.string a, .string b] w fun e w' => e = .returned (.bool true) ∧ Below w.heap.size w w' := by
  have H0 := Aside0.mk h0
  have HA := Aside0.mk haw
  have e1 : (((a.size : Nat) : Int) != 16) = false := by simp; omega
  have e2 : (((a.size : Nat) : Int) == 16) = true := by simp; omega
  have e3 : (((b.size : Nat) : Int) != 16) = true := by simp; omega
  have e4 := ne_dbl hs
  clear h0 haw ht
  go_enter Try.func19, Try.ntmps19
  go_wp2_with (first
    | (go_at_call 108; (with_reducible refine (cmac_Double.calls k a _ _ H0.out).mono ?_); rintro e w2 ⟨rfl, hb2⟩; have HB2 := Aside0.mk hb2; clear hb2)
    | (go_at_call 109; (with_reducible refine (clavigerlaw11_awake.calls _ _ HA.out).mono ?_); rintro e w3 ⟨rfl, hb3⟩; have HB3 := Aside0.mk (below_then HB2.out HB2.out.size hb3); clear hb3))
  go_ret
  exact ⟨rfl, HB3.out⟩
theorem two_new (w : World) : BY ((w.alloc (.cells #[.int .u8 0, .int .u8 0, .int .u8 0, .int .u8 0, .int .u8 0, .int .u8 0, .int .u8 0, .int .u8 0, .int .u8 0, .int .u8 0, .int .u8 0, .int .u8 0, .int .u8 0, .int .u8 0, .int .u8 0, .int .u8 0] 65)).alloc (.cells #[.int .u8 0, .int .u8 0, .int .u8 0, .int .u8 0, .int .u8 0, .int .u8 0, .int .u8 0, .int .u8 0, .int .u8 0, .int .u8 0, .int .u8 0, .int .u8 0, .int .u8 0, .int .u8 0, .int .u8 0, .int .u8 0] 65)) w.heap.size 65 (L16 fun _ => 0) ∧ BY ((w.alloc (.cells #[.int .u8 0, .int .u8 0, .int .u8 0, .int .u8 0, .int .u8 0, .int .u8 0, .int .u8 0, .int .u8 0, .int .u8 0, .int .u8 0, .int .u8 0, .int .u8 0, .int .u8 0, .int .u8 0, .int .u8 0, .int .u8 0] 65)).alloc (.cells #[.int .u8 0, .int .u8 0, .int .u8 0, .int .u8 0, .int .u8 0, .int .u8 0, .int .u8 0, .int .u8 0, .int .u8 0, .int .u8 0, .int .u8 0, .int .u8 0, .int .u8 0, .int .u8 0, .int .u8 0, .int .u8 0] 65)) (w.heap.size + 1) 65 (L16 fun _ => 0) ∧ Below w.heap.size w ((w.alloc (.cells #[.int .u8 0, .int .u8 0, .int .u8 0, .int .u8 0, .int .u8 0, .int .u8 0, .int .u8 0, .int .u8 0, .int .u8 0, .int .u8 0, .int .u8 0, .int .u8 0, .int .u8 0, .int .u8 0, .int .u8 0, .int .u8 0] 65)).alloc (.cells #[.int .u8 0, .int .u8 0, .int .u8 0, .int .u8 0, .int .u8 0, .int .u8 0, .int .u8 0, .int .u8 0, .int .u8 0, .int .u8 0, .int .u8 0, .int .u8 0, .int .u8 0, .int .u8 0, .int .u8 0, .int .u8 0] 65)) := by
  have h1 : BY (w.alloc (.cells #[.int .u8 0, .int .u8 0, .int .u8 0, .int .u8 0, .int .u8 0, .int .u8 0, .int .u8 0, .int .u8 0, .int .u8 0, .int .u8 0, .int .u8 0, .int .u8 0, .int .u8 0, .int .u8 0, .int .u8 0, .int .u8 0] 65)) w.heap.size 65 (L16 fun _ => 0) := heap_alloc_new w _
  have hs : (w.alloc (.cells #[.int .u8 0, .int .u8 0, .int .u8 0, .int .u8 0, .int .u8 0, .int .u8 0, .int .u8 0, .int .u8 0, .int .u8 0, .int .u8 0, .int .u8 0, .int .u8 0, .int .u8 0, .int .u8 0, .int .u8 0, .int .u8 0] 65)).heap.size = w.heap.size + 1 := World.size_alloc ..
  have b1 := below_alloc (Below.refl w.heap.size w) (.cells #[.int .u8 0, .int .u8 0, .int .u8 0, .int .u8 0, .int .u8 0, .int .u8 0, .int .u8 0, .int .u8 0, .int .u8 0, .int .u8 0, .int .u8 0, .int .u8 0, .int .u8 0, .int .u8 0, .int .u8 0, .int .u8 0] 65)
  have h2 := heap_alloc_new (w.alloc (.cells #[.int .u8 0, .int .u8 0, .int .u8 0, .int .u8 0, .int .u8 0, .int .u8 0, .int .u8 0, .int .u8 0, .int .u8 0, .int .u8 0, .int .u8 0, .int .u8 0, .int .u8 0, .int .u8 0, .int .u8 0, .int .u8 0] 65)) (.cells #[.int .u8 0, .int .u8 0, .int .u8 0, .int .u8 0, .int .u8 0, .int .u8 0, .int .u8 0, .int .u8 0, .int .u8 0, .int .u8 0, .int .u8 0, .int .u8 0, .int .u8 0, .int .u8 0, .int .u8 0, .int .u8 0] 65)
  have b2 := below_alloc (Below.refl _ (w.alloc (.cells #[.int .u8 0, .int .u8 0, .int .u8 0, .int .u8 0, .int .u8 0, .int .u8 0, .int .u8 0, .int .u8 0, .int .u8 0, .int .u8 0, .int .u8 0, .int .u8 0, .int .u8 0, .int .u8 0, .int .u8 0, .int .u8 0] 65))) (.cells #[.int .u8 0, .int .u8 0, .int .u8 0, .int .u8 0, .int .u8 0, .int .u8 0, .int .u8 0, .int .u8 0, .int .u8 0, .int .u8 0, .int .u8 0, .int .u8 0, .int .u8 0, .int .u8 0, .int .u8 0, .int .u8 0] 65)
  rw [hs] at h2 b2
  exact ⟨h1.same (b2.block w.heap.size (by omega)), h2, below_alloc b1 _⟩
attribute [local go_sem ↓] Go.wp_at_zero Go.wp_at_succ
set_option maxHeartbeats 4000000 in
set_option maxRecDepth 100000 in
theorem cmacDb_c (k : Nat) (a b : ByteArray) (w : World) (h0 : cmac_Double.f k a = some (M.dblT a)) (h1 : cmac_Double.f k b = some (M.dblT b)) (h2 : cmac_Double.f k (M.xorT a b) = some (M.dblT (M.xorT a b))) (haw : clavigerlaw11_awake.f = some true) (hs : a.size = 16) (ht : b.size = 16) :
    Calls Try.prog 19 #[.string a, .string b] w fun e w' => e = .returned (.bool true) ∧ Below w.heap.size w w' := by
  have H0 := Aside0.mk h0
  have H1 := Aside0.mk h1
  have H2 := Aside0.mk h2
  have HA := Aside0.mk haw
  have e1 : (((a.size : Nat) : Int) != 16) = false := by simp; omega
  have e3 : (((b.size : Nat) : Int) != 16) = false := by simp; omega
  have HX := Aside0.mk (M.dblT_size hs)
  have HY := Aside0.mk (M.dblT_size ht)
  have HS := Aside0.mk hs
  have HT := Aside0.mk ht
  generalize hx : M.dblT a = x at *
  generalize hy : M.dblT b = y at *
  have e5 : (((x.size : Nat) : Int) != 16) = false := by have := HX.out; simp; omega
  have e6 : (((y.size : Nat) : Int) != 16) = false := by have := HY.out; simp; omega
  have EX := Aside0.mk hx
  have EY := Aside0.mk hy
  clear h0 h1 h2 haw hs ht hx hy
  go_enter Try.func19, Try.ntmps19
  go_wp2_with (first
    | (go_at_call 108; (with_reducible refine (cmac_Double.calls k a _ _ H0.out).mono ?_); rintro e w2 ⟨rfl, hb2⟩; have HB2 := Aside0.mk hb2; clear hb2)
    | (go_at_call 108; (with_reducible refine (cmac_Double.calls k b _ _ H1.out).mono ?_); rintro e w3 ⟨rfl, hb3⟩; have HB3 := Aside0.mk hb3; clear hb3))
  have hc := ((two_new w).1.below HB2.out).below HB3.out
  have hd := ((two_new w).2.1.below HB2.out).below HB3.out
  have hb := below_then (below_then (two_new w).2.2 (two_new w).2.2.size HB2.out) (below_then (two_new w).2.2 (two_new w).2.2.size HB2.out).size HB3.out
  have HC := Aside0.mk hc
  have HD := Aside0.mk hd
  have HB := Aside0.mk hb
  clear hc hd hb HB2 HB3 e1 e3 e5 e6
  have hba := Aside0.mk (M.bb_lt a)
  have hbb := Aside0.mk (M.bb_lt b)
  have hbx := Aside0.mk (M.bb_lt x)
  have hby := Aside0.mk (M.bb_lt y)
  go_loopw [9] (fun iv wr => ∃ n : Nat, n ≤ 16 ∧ iv = .int .i64 (n : Int) ∧ Aside0 (BY wr w.heap.size 65 (L16 fun q => if q < n then M.bb a q ^^^ M.bb b q else 0)) ∧ Aside0 (BY wr (w.heap.size + 1) 65 (L16 fun q => if q < n then M.bb x q ^^^ M.bb y q else 0)) ∧ Aside0 (Below w.heap.size w wr)) (fun iv _ => (16 - intOf iv).toNat)
  case atStart => exact ⟨0, by omega, rfl, ⟨by rw [L16_congr (g := fun _ => 0) (fun q hq => by rw [if_neg (by omega)])]; exact HC.out⟩, ⟨by rw [L16_congr (g := fun _ => 0) (fun q hq => by rw [if_neg (by omega)])]; exact HD.out⟩, HB⟩
  case round =>
    clear HC HD HB
    obtain ⟨n, hn, rfl, HC, HD, HB⟩ := hrel
    by_cases hl : n < 16
    · have c0 := HC.out.cell n (by rw [L16_length]; omega)
      have f0 := HC.out.frozen n
      have c1 := HD.out.cell n (by rw [L16_length]; omega)
      have f1 := HD.out.frozen n
      have ga : ((a[n]'(by rw [HS.out]; omega)).toNat : Int) = ((M.bb a n : Nat) : Int) := by rw [← M.bt_bb]; exact bt_at a (n : Int) (by simpa [HS.out] using hl)
      have gb : ((b[n]'(by rw [HT.out]; omega)).toNat : Int) = ((M.bb b n : Nat) : Int) := by rw [← M.bt_bb]; exact bt_at b (n : Int) (by simpa [HT.out] using hl)
      have gx : ((x[n]'(by rw [HX.out]; omega)).toNat : Int) = ((M.bb x n : Nat) : Int) := by rw [← M.bt_bb]; exact bt_at x (n : Int) (by simpa [HX.out] using hl)
      have gy : ((y[n]'(by rw [HY.out]; omega)).toNat : Int) = ((M.bb y n : Nat) : Int) := by rw [← M.bt_bb]; exact bt_at y (n : Int) (by simpa [HY.out] using hl)
      have x0 : Go.bits .xor .u8 ((M.bb a n : Nat) : Int) ((M.bb b n : Nat) : Int) = ((M.bb a n ^^^ M.bb b n : Nat) : Int) := M.bx (hba.out n) (hbb.out n)
      have x1 : Go.bits .xor .u8 ((M.bb x n : Nat) : Int) ((M.bb y n : Nat) : Int) = ((M.bb x n ^^^ M.bb y n : Nat) : Int) := M.bx (hbx.out n) (hby.out n)
      have sa := HS.out
      have sb := HT.out
      have sx := HX.out
      have sy := HY.out
      go_wp2
      go_region
      go_wp2
      go_region
      go_wp2
      have hc2 := HC.out.set n ((M.bb a n ^^^ M.bb b n : Nat) : Int)
      rw [L16_set _ n _ hl, L16_congr (g := fun q => if q < n + 1 then M.bb a q ^^^ M.bb b q else 0) (fun q hq => by
        by_cases e : q = n
        · rw [if_pos e, if_pos (by omega), e]
        · rw [if_neg e]
          by_cases e2 : q < n
          · rw [if_pos e2, if_pos (by omega)]
          · rw [if_neg e2, if_neg (by omega)])] at hc2
      have hd1 : BY (wr.setCell ⟨w.heap.size, n, none⟩ (.int .u8 ((M.bb a n ^^^ M.bb b n : Nat) : Int))) (w.heap.size + 1) 65 (L16 fun q => if q < n then M.bb x q ^^^ M.bb y q else 0) :=
        HD.out.same (heap_setCell_other _ _ _ _ (by show w.heap.size + 1 ≠ w.heap.size; omega))
      have hd2 := hd1.set n ((M.bb x n ^^^ M.bb y n : Nat) : Int)
      rw [L16_set _ n _ hl, L16_congr (g := fun q => if q < n + 1 then M.bb x q ^^^ M.bb y q else 0) (fun q hq => by
        by_cases e : q = n
        · rw [if_pos e, if_pos (by omega), e]
        · rw [if_neg e]
          by_cases e2 : q < n
          · rw [if_pos e2, if_pos (by omega)]
          · rw [if_neg e2, if_neg (by omega)])] at hd2
      refine ⟨⟨n + 1, by omega, by rw [Int.natCast_add]; rfl, ⟨?_⟩, ⟨hd2⟩, ⟨?_⟩⟩, by simp [intOf]; omega⟩
      · exact hc2.same (heap_setCell_other _ _ _ _ (by show w.heap.size ≠ w.heap.size + 1; omega))
      · exact pw_below_drewN (below_set (below_set HB.out (Nat.le_refl _)) (Nat.le_succ _)) 2
    · obtain rfl : n = 16 := by omega
      have hc := HC.out
      have hd := HD.out
      rw [L16_congr (g := fun q => M.bb a q ^^^ M.bb b q) (fun q hq => if_pos hq)] at hc
      rw [L16_congr (g := fun q => M.bb x q ^^^ M.bb y q) (fun q hq => if_pos hq)] at hd
      have tc : M.T (fun q => M.bb a q ^^^ M.bb b q) = M.xorT a b := by unfold M.xorT; rw [HS.out, HT.out]; rfl
      have td : M.T (fun q => M.bb x q ^^^ M.bb y q) = M.dblT (M.xorT a b) := by rw [M.dbl_xor HS.out HT.out, EX.out, EY.out]; unfold M.xorT; rw [HX.out, HY.out]; rfl
      have HCV : Aside0 (∀ W, BY W w.heap.size 65 (L16 fun q => M.bb a q ^^^ M.bb b q) → (convert 66 9 (.slice (some ⟨w.heap.size, 0, none⟩) 16 16)).run Try.prog W = .ok (.string (M.xorT a b)) W) := ⟨fun W h => by rw [← tc]; exact conv_L16 h⟩
      have HDV : Aside0 (∀ W, BY W (w.heap.size + 1) 65 (L16 fun q => M.bb x q ^^^ M.bb y q) → (convert 66 9 (.slice (some ⟨w.heap.size + 1, 0, none⟩) 16 16)).run Try.prog W = .ok (.string (M.dblT (M.xorT a b))) W) := ⟨fun W h => by rw [← td]; exact conv_L16 h⟩
      have HC := Aside0.mk hc
      have HD := Aside0.mk hd
      clear hc hd tc td
      go_wp2
      have q1 : ((M.dblT (M.xorT a b)).toList == (M.dblT (M.xorT a b)).toList) = true := beq_self_eq_true _
      obtain ⟨z, q2, q3⟩ : ∃ z : Bool, (x.toList == y.toList) = z ∧ (a.toList == b.toList) = z := by
        refine ⟨_, rfl, ?_⟩
        by_cases e : a = b
        · have e2 : x = y := by rw [← EX.out, ← EY.out, e]
          rw [e, e2, beq_self_eq_true, beq_self_eq_true]
        · have e2 : x ≠ y := fun h => e (M.dbl_inj HS.out HT.out (by rw [EX.out, EY.out, h]))
          rw [beq_eq_false_iff_ne.mpr (fun h => e ((M.tl_iff _ _).1 h)), beq_eq_false_iff_ne.mpr (fun h => e2 ((M.tl_iff _ _).1 h))]
      have q4 : (z == z) = true := beq_self_eq_true _
      generalize M.dblT (M.xorT a b) = ds at *
      generalize M.xorT a b = cs at *
      have v3 := HCV.out wr.drew HC.out
      have v4 := HDV.out wr.drew HD.out
      clear EX EY HS HT HX HY hba hbb hbx hby H0 H1
      have HB := Aside0.mk (below_drew1 HB.out)
      have HC := Aside0.mk (show BY wr.drew _ _ _ from HC.out)
      have HD := Aside0.mk (show BY wr.drew _ _ _ from HD.out)
      go_region_held3 (fun W => (convert 66 9 (.slice (some ⟨w.heap.size, 0, none⟩) 16 16)).run Try.prog W = .ok (.string cs) W ∧ (convert 66 9 (.slice (some ⟨w.heap.size + 1, 0, none⟩) 16 16)).run Try.prog W = .ok (.string ds) W) (first | exact ⟨v3, v4⟩ | exact ⟨v5, v6⟩ | exact ⟨v7, v8⟩)
        (first
          | (go_at_call 108; (with_reducible refine (cmac_Double.calls k cs _ _ H2.out).mono ?_); rintro e w4 ⟨rfl, hb4⟩; have HB4 := Aside0.mk (below_then HB.out HB.out.size hb4); have HC4 := Aside0.mk (HC.out.below hb4); have HD4 := Aside0.mk (HD.out.below hb4); have v5 := HCV.out w4 HC4.out; have v6 := HDV.out w4 HD4.out; clear hb4)
          | (go_at_call 109; (with_reducible refine (clavigerlaw11_awake.calls _ _ HA.out).mono ?_); rintro e w5 ⟨rfl, hb5⟩; have HB5 := Aside0.mk (below_then HB4.out HB4.out.size hb5); have v7 := HCV.out w5 (HC4.out.below hb5); have v8 := HDV.out w5 (HD4.out.below hb5); clear hb5))
      all_goals
        go_wp2
        go_ret
        exact ⟨rfl, HB5.out⟩
theorem cmacDb_walk (a b : ByteArray) (w : World) :
    Calls Try.prog 19 #[.string a, .string b] w fun e w' => e = .returned (.bool true) ∧ Below w.heap.size w w' := by
  obtain ⟨k1, h1⟩ := M.dbl_c a
  obtain ⟨k2, h2⟩ := M.dbl_c b
  obtain ⟨k3, h3⟩ := M.dbl_c (M.xorT a b)
  have g1 := h1 (k1 + (k2 + k3)) (by omega)
  have g2 := h2 (k1 + (k2 + k3)) (by omega)
  have g3 := h3 (k1 + (k2 + k3)) (by omega)
  by_cases ha : a.size = 16
  · by_cases hb : b.size = 16
    · exact cmacDb_c _ a b w g1 g2 g3 M.awake11 ha hb
    · exact cmacDb_b _ a b w g1 M.awake11 ha hb
  · exact cmacDb_a _ a b w g1 M.awake11 ha
end Go.Proofs.Ytokkhnjedmlbhaa.Pr
end
section
namespace Go.Proofs.Ytokkhnjedmlbhaa.RowAid
set_option maxRecDepth 100000
def c (n : Nat) : Char := Char.ofNat n
def L : List Char := [c 104, c 97, c 114, c 110, c 101, c 115, c 115, c 32, c 50, c 53, c 55, c 48, c 97, c 52, c 51, c 49, c 101, c 53, c 52, c 48, c 48, c 98, c 97, c 54, c 51, c 101, c 54, c 102, c 101, c 53, c 55, c 55, c 55, c 56, c 102, c 97, c 52, c 56, c 50, c 99, c 57, c 102, c 56, c 101, c 100, c 98, c 57, c 99, c 53, c 50, c 50, c 51, c 53, c 48, c 97, c 101, c 101, c 53, c 51, c 48, c 98, c 102, c 54, c 97, c 50, c 53, c 49, c 99, c 57, c 50, c 99, c 52, c 32, c 99, c 117, c 116, c 32, c 97, c 116, c 32, c 99, c 108, c 97, c 118, c 105, c 103, c 101, c 114, c 47, c 99, c 108, c 97, c 118, c 105, c 103, c 101, c 114, c 108, c 97, c 119, c 48, c 53, c 46, c 70, c 105, c 101, c 108, c 100, c 84, c 101, c 108, c 108, c 115, c 32, c 99, c 108, c 97, c 118, c 105, c 103, c 101, c 114, c 47, c 99, c 108, c 97, c 118, c 105, c 103, c 101, c 114, c 108, c 97, c 119, c 48, c 53, c 46, c 70, c 105, c 101, c 108, c 100, c 76, c 97, c 119, c 115, c 32, c 99, c 108, c 97, c 118, c 105, c 103, c 101, c 114, c 47, c 99, c 108, c 97, c 118, c 105, c 103, c 101, c 114, c 108, c 97, c 119, c 48, c 53, c 46, c 70, c 105, c 101, c 108, c 100, c 68, c 111, c 116, c 115, c 32, c 99, c 108, c 97, c 118, c 105, c 103, c 101, c 114, c 47, c 99, c 108, c 97, c 118, c 105, c 103, c 101, c 114, c 108, c 97, c 119, c 48, c 55, c 46, c 82, c 111, c 117, c 110, c 100, c 65, c 100, c 100, c 115, c 32, c 99, c 108, c 97, c 118, c 105, c 103, c 101, c 114, c 47, c 99, c 108, c 97, c 118, c 105, c 103, c 101, c 114, c 108, c 97, c 119, c 48, c 54, c 46, c 83, c 98, c 111, c 120, c 66, c 121, c 32, c 99, c 108, c 97, c 118, c 105, c 103, c 101, c 114, c 47, c 99, c 108, c 97, c 118, c 105, c 103, c 101, c 114, c 108, c 97, c 119, c 51, c 56, c 46, c 79, c 112, c 101, c 110, c 66, c 97, c 99, c 107, c 32, c 99, c 108, c 97, c 118, c 105, c 103, c 101, c 114, c 47, c 99, c 108, c 97, c 118, c 105, c 103, c 101, c 114, c 108, c 97, c 119, c 48, c 54, c 46, c 83, c 98, c 111, c 120, c 84, c 101, c 108, c 108, c 115, c 32, c 99, c 108, c 97, c 118, c 105, c 103, c 101, c 114, c 47, c 99, c 108, c 97, c 118, c 105, c 103, c 101, c 114, c 108, c 97, c 119, c 48, c 54, c 46, c 83, c 98, c 111, c 120, c 79, c 110, c 99, c 101, c 32, c 99, c 108, c 97, c 118, c 105, c 103, c 101, c 114, c 47, c 99, c 108, c 97, c 118, c 105, c 103, c 101, c 114, c 108, c 97, c 119, c 51, c 56, c 46, c 79, c 112, c 101, c 110, c 66, c 105, c 110, c 100, c 115, c 32, c 99, c 108, c 97, c 118, c 105, c 103, c 101, c 114, c 47, c 99, c 108, c 97, c 118, c 105, c 103, c 101, c 114, c 108, c 97, c 119, c 48, c 55, c 46, c 82, c 111, c 117, c 110, c 100, c 84, c 101, c 108, c 108, c 115, c 32, c 99, c 108, c 97, c 118, c 105, c 103, c 101, c 114, c 47, c 99, c 108, c 97, c 118, c 105, c 103, c 101, c 114, c 108, c 97, c 119, c 48, c 55, c 46, c 82, c 111, c 117, c 110, c 100, c 66, c 97, c 99, c 107, c 32, c 99, c 108, c 97, c 118, c 105, c 103, c 101, c 114, c 47, c 99, c 108, c 97, c 118, c 105, c 103, c 101, c 114, c 108, c 97, c 119, c 48, c 56, c 46, c 83, c 99, c 104, c 101, c 100, c 66, c 101, c 103, c 105, c 110, c 115, c 32, c 99, c 108, c 97, c 118, c 105, c 103, c 101, c 114, c 47, c 99, c 108, c 97, c 118, c 105, c 103, c 101, c 114, c 108, c 97, c 119, c 48, c 56, c 46, c 83, c 99, c 104, c 101, c 100, c 84, c 101, c 108, c 108, c 115, c 32, c 99, c 108, c 97, c 118, c 105, c 103, c 101, c 114, c 47, c 99, c 108, c 97, c 118, c 105, c 103, c 101, c 114, c 108, c 97, c 119, c 48, c 57, c 46, c 65, c 101, c 115, c 84, c 101, c 108, c 108, c 115, c 32, c 99, c 108, c 97, c 118, c 105, c 103, c 101, c 114, c 47, c 99, c 108, c 97, c 118, c 105, c 103, c 101, c 114, c 108, c 97, c 119, c 48, c 57, c 46, c 65, c 101, c 115, c 66, c 97, c 99, c 107, c 32, c 99, c 108, c 97, c 118, c 105, c 103, c 101, c 114, c 47, c 99, c 108, c 97, c 118, c 105, c 103, c 101, c 114, c 108, c 97, c 119, c 48, c 57, c 46, c 65, c 101, c 115, c 77, c 97, c 110, c 121, c 32, c 99, c 108, c 97, c 118, c 105, c 103, c 101, c 114, c 47, c 99, c 108, c 97, c 118, c 105, c 103, c 101, c 114, c 108, c 97, c 119, c 49, c 49, c 46, c 67, c 109, c 97, c 99, c 68, c 111, c 117, c 98, c 108, c 101, c 115, c 32, c 99, c 108, c 97, c 118, c 105, c 103, c 101, c 114, c 47, c 99, c 108, c 97, c 118, c 105, c 103, c 101, c 114, c 108, c 97, c 119, c 49, c 49, c 46, c 67, c 109, c 97, c 99, c 84, c 101, c 108, c 108, c 115, c 32, c 99, c 108, c 97, c 118, c 105, c 103, c 101, c 114, c 47, c 99, c 108, c 97, c 118, c 105, c 103, c 101, c 114, c 108, c 97, c 119, c 49, c 48, c 46, c 67, c 98, c 99, c 84, c 101, c 108, c 108, c 115, c 32, c 99, c 108, c 97, c 118, c 105, c 103, c 101, c 114, c 47, c 99, c 108, c 97, c 118, c 105, c 103, c 101, c 114, c 108, c 97, c 119, c 49, c 48, c 46, c 67, c 98, c 99, c 66, c 97, c 99, c 107, c 32, c 99, c 108, c 97, c 118, c 105, c 103, c 101, c 114, c 47, c 99, c 108, c 97, c 118, c 105, c 103, c 101, c 114, c 108, c 97, c 119, c 49, c 49, c 46, c 67, c 109, c 97, c 99, c 67, c 104, c 101, c 99, c 107, c 115, c 32, c 99, c 108, c 97, c 118, c 105, c 103, c 101, c 114, c 47, c 99, c 108, c 97, c 118, c 105, c 103, c 101, c 114, c 108, c 97, c 119, c 49, c 50, c 46, c 75, c 100, c 102, c 84, c 101, c 108, c 108, c 115, c 32, c 99, c 108, c 97, c 118, c 105, c 103, c 101, c 114, c 47, c 99, c 108, c 97, c 118, c 105, c 103, c 101, c 114, c 108, c 97, c 119, c 49, c 50, c 46, c 75, c 100, c 102, c 66, c 101, c 103, c 105, c 110, c 115, c 32, c 99, c 108, c 97, c 118, c 105, c 103, c 101, c 114, c 47, c 99, c 108, c 97, c 118, c 105, c 103, c 101, c 114, c 108, c 97, c 119, c 51, c 53, c 46, c 68, c 101, c 114, c 105, c 118, c 101, c 84, c 101, c 108, c 108, c 115, c 32, c 99, c 108, c 97, c 118, c 105, c 103, c 101, c 114, c 47, c 99, c 108, c 97, c 118, c 105, c 103, c 101, c 114, c 108, c 97, c 119, c 51, c 53, c 46, c 68, c 101, c 114, c 105, c 118, c 101, c 83, c 105, c 122, c 101, c 115, c 32, c 99, c 108, c 97, c 118, c 105, c 103, c 101, c 114, c 47, c 99, c 108, c 97, c 118, c 105, c 103, c 101, c 114, c 108, c 97, c 119, c 49, c 52, c 46, c 80, c 97, c 100, c 119, c 114, c 97, c 112, c 84, c 101, c 108, c 108, c 115, c 32, c 99, c 108, c 97, c 118, c 105, c 103, c 101, c 114, c 47, c 99, c 108, c 97, c 118, c 105, c 103, c 101, c 114, c 108, c 97, c 119, c 49, c 52, c 46, c 80, c 97, c 100, c 119, c 114, c 97, c 112, c 66, c 97, c 99, c 107, c 32, c 99, c 108, c 97, c 118, c 105, c 103, c 101, c 114, c 47, c 99, c 108, c 97, c 118, c 105, c 103, c 101, c 114, c 108, c 97, c 119, c 49, c 52, c 46, c 80, c 97, c 100, c 119, c 114, c 97, c 112, c 79, c 110, c 101, c 32, c 99, c 108, c 97, c 118, c 105, c 103, c 101, c 114, c 47, c 99, c 108, c 97, c 118, c 105, c 103, c 101, c 114, c 108, c 97, c 119, c 51, c 55, c 46, c 83, c 101, c 97, c 108, c 84, c 101, c 108, c 108, c 115, c 32, c 99, c 108, c 97, c 118, c 105, c 103, c 101, c 114, c 47, c 99, c 108, c 97, c 118, c 105, c 103, c 101, c 114, c 108, c 97, c 119, c 51, c 55, c 46, c 83, c 101, c 97, c 108, c 72, c 111, c 108, c 100, c 115, c 32, c 99, c 108, c 97, c 118, c 105, c 103, c 101, c 114, c 47, c 99, c 108, c 97, c 118, c 105, c 103, c 101, c 114, c 108, c 97, c 119, c 49, c 51, c 46, c 87, c 114, c 97, c 112, c 84, c 101, c 108, c 108, c 115, c 32, c 99, c 108, c 97, c 118, c 105, c 103, c 101, c 114, c 47, c 99, c 108, c 97, c 118, c 105, c 103, c 101, c 114, c 108, c 97, c 119, c 49, c 51, c 46, c 87, c 114, c 97, c 112, c 66, c 97, c 99, c 107, c 32, c 99, c 108, c 97, c 118, c 105, c 103, c 101, c 114, c 47, c 99, c 108, c 97, c 118, c 105, c 103, c 101, c 114, c 108, c 97, c 119, c 49, c 51, c 46, c 87, c 114, c 97, c 112, c 79, c 110, c 101, c 32, c 99, c 108, c 97, c 118, c 105, c 103, c 101, c 114, c 47, c 99, c 108, c 97, c 118, c 105, c 103, c 101, c 114, c 108, c 97, c 119, c 51, c 56, c 46, c 79, c 112, c 101, c 110, c 84, c 101, c 108, c 108, c 115]
def WL : List (List Char) := [[c 97, c 116], [c 99, c 108, c 97, c 118, c 105, c 103, c 101, c 114, c 47, c 99, c 108, c 97, c 118, c 105, c 103, c 101, c 114, c 108, c 97, c 119, c 48, c 53, c 46, c 70, c 105, c 101, c 108, c 100, c 84, c 101, c 108, c 108, c 115], [c 99, c 108, c 97, c 118, c 105, c 103, c 101, c 114, c 47, c 99, c 108, c 97, c 118, c 105, c 103, c 101, c 114, c 108, c 97, c 119, c 48, c 53, c 46, c 70, c 105, c 101, c 108, c 100, c 76, c 97, c 119, c 115], [c 99, c 108, c 97, c 118, c 105, c 103, c 101, c 114, c 47, c 99, c 108, c 97, c 118, c 105, c 103, c 101, c 114, c 108, c 97, c 119, c 48, c 53, c 46, c 70, c 105, c 101, c 108, c 100, c 68, c 111, c 116, c 115], [c 99, c 108, c 97, c 118, c 105, c 103, c 101, c 114, c 47, c 99, c 108, c 97, c 118, c 105, c 103, c 101, c 114, c 108, c 97, c 119, c 48, c 55, c 46, c 82, c 111, c 117, c 110, c 100, c 65, c 100, c 100, c 115], [c 99, c 108, c 97, c 118, c 105, c 103, c 101, c 114, c 47, c 99, c 108, c 97, c 118, c 105, c 103, c 101, c 114, c 108, c 97, c 119, c 48, c 54, c 46, c 83, c 98, c 111, c 120, c 66, c 121], [c 99, c 108, c 97, c 118, c 105, c 103, c 101, c 114, c 47, c 99, c 108, c 97, c 118, c 105, c 103, c 101, c 114, c 108, c 97, c 119, c 51, c 56, c 46, c 79, c 112, c 101, c 110, c 66, c 97, c 99, c 107], [c 99, c 108, c 97, c 118, c 105, c 103, c 101, c 114, c 47, c 99, c 108, c 97, c 118, c 105, c 103, c 101, c 114, c 108, c 97, c 119, c 48, c 54, c 46, c 83, c 98, c 111, c 120, c 84, c 101, c 108, c 108, c 115], [c 99, c 108, c 97, c 118, c 105, c 103, c 101, c 114, c 47, c 99, c 108, c 97, c 118, c 105, c 103, c 101, c 114, c 108, c 97, c 119, c 48, c 54, c 46, c 83, c 98, c 111, c 120, c 79, c 110, c 99, c 101], [c 99, c 108, c 97, c 118, c 105, c 103, c 101, c 114, c 47, c 99, c 108, c 97, c 118, c 105, c 103, c 101, c 114, c 108, c 97, c 119, c 51, c 56, c 46, c 79, c 112, c 101, c 110, c 66, c 105, c 110, c 100, c 115], [c 99, c 108, c 97, c 118, c 105, c 103, c 101, c 114, c 47, c 99, c 108, c 97, c 118, c 105, c 103, c 101, c 114, c 108, c 97, c 119, c 48, c 55, c 46, c 82, c 111, c 117, c 110, c 100, c 84, c 101, c 108, c 108, c 115], [c 99, c 108, c 97, c 118, c 105, c 103, c 101, c 114, c 47, c 99, c 108, c 97, c 118, c 105, c 103, c 101, c 114, c 108, c 97, c 119, c 48, c 55, c 46, c 82, c 111, c 117, c 110, c 100, c 66, c 97, c 99, c 107], [c 99, c 108, c 97, c 118, c 105, c 103, c 101, c 114, c 47, c 99, c 108, c 97, c 118, c 105, c 103, c 101, c 114, c 108, c 97, c 119, c 48, c 56, c 46, c 83, c 99, c 104, c 101, c 100, c 66, c 101, c 103, c 105, c 110, c 115], [c 99, c 108, c 97, c 118, c 105, c 103, c 101, c 114, c 47, c 99, c 108, c 97, c 118, c 105, c 103, c 101, c 114, c 108, c 97, c 119, c 48, c 56, c 46, c 83, c 99, c 104, c 101, c 100, c 84, c 101, c 108, c 108, c 115], [c 99, c 108, c 97, c 118, c 105, c 103, c 101, c 114, c 47, c 99, c 108, c 97, c 118, c 105, c 103, c 101, c 114, c 108, c 97, c 119, c 48, c 57, c 46, c 65, c 101, c 115, c 84, c 101, c 108, c 108, c 115], [c 99, c 108, c 97, c 118, c 105, c 103, c 101, c 114, c 47, c 99, c 108, c 97, c 118, c 105, c 103, c 101, c 114, c 108, c 97, c 119, c 48, c 57, c 46, c 65, c 101, c 115, c 66, c 97, c 99, c 107], [c 99, c 108, c 97, c 118, c 105, c 103, c 101, c 114, c 47, c 99, c 108, c 97, c 118, c 105, c 103, c 101, c 114, c 108, c 97, c 119, c 48, c 57, c 46, c 65, c 101, c 115, c 77, c 97, c 110, c 121], [c 99, c 108, c 97, c 118, c 105, c 103, c 101, c 114, c 47, c 99, c 108, c 97, c 118, c 105, c 103, c 101, c 114, c 108, c 97, c 119, c 49, c 49, c 46, c 67, c 109, c 97, c 99, c 68, c 111, c 117, c 98, c 108, c 101, c 115], [c 99, c 108, c 97, c 118, c 105, c 103, c 101, c 114, c 47, c 99, c 108, c 97, c 118, c 105, c 103, c 101, c 114, c 108, c 97, c 119, c 49, c 49, c 46, c 67, c 109, c 97, c 99, c 84, c 101, c 108, c 108, c 115], [c 99, c 108, c 97, c 118, c 105, c 103, c 101, c 114, c 47, c 99, c 108, c 97, c 118, c 105, c 103, c 101, c 114, c 108, c 97, c 119, c 49, c 48, c 46, c 67, c 98, c 99, c 84, c 101, c 108, c 108, c 115], [c 99, c 108, c 97, c 118, c 105, c 103, c 101, c 114, c 47, c 99, c 108, c 97, c 118, c 105, c 103, c 101, c 114, c 108, c 97, c 119, c 49, c 48, c 46, c 67, c 98, c 99, c 66, c 97, c 99, c 107], [c 99, c 108, c 97, c 118, c 105, c 103, c 101, c 114, c 47, c 99, c 108, c 97, c 118, c 105, c 103, c 101, c 114, c 108, c 97, c 119, c 49, c 49, c 46, c 67, c 109, c 97, c 99, c 67, c 104, c 101, c 99, c 107, c 115], [c 99, c 108, c 97, c 118, c 105, c 103, c 101, c 114, c 47, c 99, c 108, c 97, c 118, c 105, c 103, c 101, c 114, c 108, c 97, c 119, c 49, c 50, c 46, c 75, c 100, c 102, c 84, c 101, c 108, c 108, c 115], [c 99, c 108, c 97, c 118, c 105, c 103, c 101, c 114, c 47, c 99, c 108, c 97, c 118, c 105, c 103, c 101, c 114, c 108, c 97, c 119, c 49, c 50, c 46, c 75, c 100, c 102, c 66, c 101, c 103, c 105, c 110, c 115], [c 99, c 108, c 97, c 118, c 105, c 103, c 101, c 114, c 47, c 99, c 108, c 97, c 118, c 105, c 103, c 101, c 114, c 108, c 97, c 119, c 51, c 53, c 46, c 68, c 101, c 114, c 105, c 118, c 101, c 84, c 101, c 108, c 108, c 115], [c 99, c 108, c 97, c 118, c 105, c 103, c 101, c 114, c 47, c 99, c 108, c 97, c 118, c 105, c 103, c 101, c 114, c 108, c 97, c 119, c 51, c 53, c 46, c 68, c 101, c 114, c 105, c 118, c 101, c 83, c 105, c 122, c 101, c 115], [c 99, c 108, c 97, c 118, c 105, c 103, c 101, c 114, c 47, c 99, c 108, c 97, c 118, c 105, c 103, c 101, c 114, c 108, c 97, c 119, c 49, c 52, c 46, c 80, c 97, c 100, c 119, c 114, c 97, c 112, c 84, c 101, c 108, c 108, c 115], [c 99, c 108, c 97, c 118, c 105, c 103, c 101, c 114, c 47, c 99, c 108, c 97, c 118, c 105, c 103, c 101, c 114, c 108, c 97, c 119, c 49, c 52, c 46, c 80, c 97, c 100, c 119, c 114, c 97, c 112, c 66, c 97, c 99, c 107], [c 99, c 108, c 97, c 118, c 105, c 103, c 101, c 114, c 47, c 99, c 108, c 97, c 118, c 105, c 103, c 101, c 114, c 108, c 97, c 119, c 49, c 52, c 46, c 80, c 97, c 100, c 119, c 114, c 97, c 112, c 79, c 110, c 101], [c 99, c 108, c 97, c 118, c 105, c 103, c 101, c 114, c 47, c 99, c 108, c 97, c 118, c 105, c 103, c 101, c 114, c 108, c 97, c 119, c 51, c 55, c 46, c 83, c 101, c 97, c 108, c 84, c 101, c 108, c 108, c 115], [c 99, c 108, c 97, c 118, c 105, c 103, c 101, c 114, c 47, c 99, c 108, c 97, c 118, c 105, c 103, c 101, c 114, c 108, c 97, c 119, c 51, c 55, c 46, c 83, c 101, c 97, c 108, c 72, c 111, c 108, c 100, c 115], [c 99, c 108, c 97, c 118, c 105, c 103, c 101, c 114, c 47, c 99, c 108, c 97, c 118, c 105, c 103, c 101, c 114, c 108, c 97, c 119, c 49, c 51, c 46, c 87, c 114, c 97, c 112, c 84, c 101, c 108, c 108, c 115], [c 99, c 108, c 97, c 118, c 105, c 103, c 101, c 114, c 47, c 99, c 108, c 97, c 118, c 105, c 103, c 101, c 114, c 108, c 97, c 119, c 49, c 51, c 46, c 87, c 114, c 97, c 112, c 66, c 97, c 99, c 107], [c 99, c 108, c 97, c 118, c 105, c 103, c 101, c 114, c 47, c 99, c 108, c 97, c 118, c 105, c 103, c 101, c 114, c 108, c 97, c 119, c 49, c 51, c 46, c 87, c 114, c 97, c 112, c 79, c 110, c 101], [c 99, c 108, c 97, c 118, c 105, c 103, c 101, c 114, c 47, c 99, c 108, c 97, c 118, c 105, c 103, c 101, c 114, c 108, c 97, c 119, c 51, c 56, c 46, c 79, c 112, c 101, c 110, c 84, c 101, c 108, c 108, c 115]]
theorem z0 : Try.prog.initOrder = String.ofList L := by kernel_rfl
theorem z1 : Try.prog.initOrder.toList = L := by rw [z0]; exact String.toList_ofList
theorem z2 : behindMainWord (wordsSigns L) = "cut".toList :: WL := by kernel_rfl
theorem z3 : behindMainWord (wordsSigns Try.prog.initOrder.toList) = "cut".toList :: WL := (congrArg (fun x => behindMainWord (wordsSigns x)) z1).trans z2
theorem strip_cut (r : List (List Char)) : stripLifts liftWords ("cut".toList :: r) = ([], "cut".toList :: r) := by
  unfold liftWords
  simp [stripLifts]
theorem make_cut {P : Program} {r : List (List Char)} (h : behindMainWord (wordsSigns P.initOrder.toList) = "cut".toList :: r) : P.make = some .cut := by
  unfold Program.make
  rw [h]
  simp
theorem lifts_cut {P : Program} {r : List (List Char)} (h : behindMainWord (wordsSigns P.initOrder.toList) = "cut".toList :: r) : P.headLifts = [] := by
  unfold Program.headLifts
  rw [h, strip_cut]
  simp
theorem final_cut {P : Program} {r : List (List Char)} (h : behindMainWord (wordsSigns P.initOrder.toList) = "cut".toList :: r) : P.liftsFinal = false := by
  unfold Program.liftsFinal
  rw [lifts_cut h, h]
  simp
theorem enter_cut {P : Program} {r : List (List Char)} (h : behindMainWord (wordsSigns P.initOrder.toList) = "cut".toList :: r) (h1 : P.laysLater = false) (h2 : P.bearsReflect = false) (h3 : P.doorFits [] = true) : P.mayEnter = true := by
  unfold Program.mayEnter
  rw [h]
  simp only [strip_cut]
  simp [h1, h2, h3]
theorem enter : Try.prog.mayEnter = true := enter_cut z3 (by as_aux_lemma => kernel_rfl) (by as_aux_lemma => kernel_rfl) (by as_aux_lemma => kernel_rfl)
theorem final : Try.prog.liftsFinal = false := final_cut z3
theorem make : Try.prog.make = some .cut := make_cut z3
theorem laid : laidOutB Try.prog = true := by kernel_rfl
theorem rowed : mapsRowed Try.prog = true := by kernel_rfl
theorem heard : Try.prog.stopsHeard = true := by kernel_rfl
theorem plain : Try.prog.plainKeys = true := by kernel_rfl
theorem and_mk {a b : Bool} (h : a = true) (k : b = true) : (a && b) = true := by rw [h, k]; rfl
end Go.Proofs.Ytokkhnjedmlbhaa.RowAid
end
