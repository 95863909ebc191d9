/-
  Columns of four bytes, mixed and back. Plain.
-/
import Derived.Test.YtokkhnjedmlbhaaGf
namespace Go.Proofs.Ytokkhnjedmlbhaa.M
open Go.Proofs.YtokkhnjedmlbhaaGf
set_option linter.unusedSimpArgs false
theorem xor_xc (a b : Nat) : a ^^^ (a ^^^ b) = b := by rw [← Nat.xor_assoc, Nat.xor_self, Nat.zero_xor]
theorem xor_lc (a b c : Nat) : a ^^^ (b ^^^ c) = b ^^^ (a ^^^ c) := by rw [← Nat.xor_assoc, Nat.xor_comm a, Nat.xor_assoc]
theorem gm_sm_all : allB 256 (fun a => Nat.beq (gm 1 a) a && Nat.beq (gm 2 a) (xt a) && Nat.beq (gm 3 a) (xt a ^^^ a) && Nat.beq (gm 9 a) (xt (xt (xt a)) ^^^ a) && Nat.beq (gm 11 a) (xt (xt (xt a)) ^^^ (xt a ^^^ a)) && Nat.beq (gm 13 a) (xt (xt (xt a)) ^^^ (xt (xt a) ^^^ a)) && Nat.beq (gm 14 a) (xt (xt (xt a)) ^^^ (xt (xt a) ^^^ xt a))) = true := by decide +kernel
theorem gm_sm {a : Nat} (ha : a < 256) : gm 1 a = a ∧ gm 2 a = xt a ∧ gm 3 a = xt a ^^^ a ∧ gm 9 a = xt (xt (xt a)) ^^^ a ∧ gm 11 a = xt (xt (xt a)) ^^^ (xt a ^^^ a) ∧ gm 13 a = xt (xt (xt a)) ^^^ (xt (xt a) ^^^ a) ∧ gm 14 a = xt (xt (xt a)) ^^^ (xt (xt a) ^^^ xt a) := by
  have h := allB_of gm_sm_all a ha
  simp only [Bool.and_eq_true] at h
  obtain ⟨⟨⟨⟨⟨⟨h1, h2⟩, h3⟩, h4⟩, h5⟩, h6⟩, h7⟩ := h
  exact ⟨Nat.eq_of_beq_eq_true h1, Nat.eq_of_beq_eq_true h2, Nat.eq_of_beq_eq_true h3, Nat.eq_of_beq_eq_true h4, Nat.eq_of_beq_eq_true h5, Nat.eq_of_beq_eq_true h6, Nat.eq_of_beq_eq_true h7⟩
/-- A byte of a column, mixed. -/
def m0 (a b c d : Nat) : Nat := xt a ^^^ (xt b ^^^ (b ^^^ (c ^^^ d)))
/-- A byte of a column, as it was. -/
def u0 (a b c d : Nat) : Nat := gm 14 a ^^^ (gm 11 b ^^^ (gm 13 c ^^^ gm 9 d))
theorem m0_lt {a b c d : Nat} (ha : a < 256) (hb : b < 256) (hc : c < 256) (hd : d < 256) : m0 a b c d < 256 := xor_lt (xt_lt ha) (xor_lt (xt_lt hb) (xor_lt hb (xor_lt hc hd)))
theorem u0_lt {a b c d : Nat} : u0 a b c d < 256 := xor_lt (gm_lt (by omega)) (xor_lt (gm_lt (by omega)) (xor_lt (gm_lt (by omega)) (gm_lt (by omega))))
set_option maxHeartbeats 4000000 in
theorem m0_u0 {a b c d : Nat} (ha : a < 256) (hb : b < 256) (hc : c < 256) (hd : d < 256) : m0 (u0 a b c d) (u0 b c d a) (u0 c d a b) (u0 d a b c) = a := by
  unfold m0 u0
  simp only [gm_sm ha, gm_sm hb, gm_sm hc, gm_sm hd]
  have ha1 := xt_lt ha; have ha2 := xt_lt ha1; have ha3 := xt_lt ha2
  have hb1 := xt_lt hb; have hb2 := xt_lt hb1; have hb3 := xt_lt hb2
  have hc1 := xt_lt hc; have hc2 := xt_lt hc1; have hc3 := xt_lt hc2
  have hd1 := xt_lt hd; have hd2 := xt_lt hd1; have hd3 := xt_lt hd2
  simp (config := {maxDischargeDepth := 30}) only [xt_lin, xor_lt, ha, hb, hc, hd, ha1, ha2, ha3, hb1, hb2, hb3, hc1, hc2, hc3, hd1, hd2, hd3]
  clear ha1 ha2 ha3 hb1 hb2 hb3 hc1 hc2 hc3 hd1 hd2 hd3
  generalize xt (xt (xt (xt a))) = a4
  generalize xt (xt (xt a)) = a3
  generalize xt (xt a) = a2
  generalize xt a = a1
  generalize xt (xt (xt (xt b))) = b4
  generalize xt (xt (xt b)) = b3
  generalize xt (xt b) = b2
  generalize xt b = b1
  generalize xt (xt (xt (xt c))) = c4
  generalize xt (xt (xt c)) = c3
  generalize xt (xt c) = c2
  generalize xt c = c1
  generalize xt (xt (xt (xt d))) = d4
  generalize xt (xt (xt d)) = d3
  generalize xt (xt d) = d2
  generalize xt d = d1
  simp only [Nat.xor_assoc, Nat.xor_comm, xor_lc, Nat.xor_self, Nat.xor_zero, Nat.zero_xor, xor_xc]
set_option maxHeartbeats 4000000 in
theorem u0_m0 {a b c d : Nat} (ha : a < 256) (hb : b < 256) (hc : c < 256) (hd : d < 256) : u0 (m0 a b c d) (m0 b c d a) (m0 c d a b) (m0 d a b c) = a := by
  have h1 := m0_lt ha hb hc hd
  have h2 := m0_lt hb hc hd ha
  have h3 := m0_lt hc hd ha hb
  have h4 := m0_lt hd ha hb hc
  unfold u0
  simp only [gm_sm h1, gm_sm h2, gm_sm h3, gm_sm h4]
  clear h1 h2 h3 h4
  unfold m0
  have ha1 := xt_lt ha; have ha2 := xt_lt ha1; have ha3 := xt_lt ha2
  have hb1 := xt_lt hb; have hb2 := xt_lt hb1; have hb3 := xt_lt hb2
  have hc1 := xt_lt hc; have hc2 := xt_lt hc1; have hc3 := xt_lt hc2
  have hd1 := xt_lt hd; have hd2 := xt_lt hd1; have hd3 := xt_lt hd2
  simp (config := {maxDischargeDepth := 30}) only [xt_lin, xor_lt, ha, hb, hc, hd, ha1, ha2, ha3, hb1, hb2, hb3, hc1, hc2, hc3, hd1, hd2, hd3]
  clear ha1 ha2 ha3 hb1 hb2 hb3 hc1 hc2 hc3 hd1 hd2 hd3
  generalize xt (xt (xt (xt a))) = a4
  generalize xt (xt (xt a)) = a3
  generalize xt (xt a) = a2
  generalize xt a = a1
  generalize xt (xt (xt (xt b))) = b4
  generalize xt (xt (xt b)) = b3
  generalize xt (xt b) = b2
  generalize xt b = b1
  generalize xt (xt (xt (xt c))) = c4
  generalize xt (xt (xt c)) = c3
  generalize xt (xt c) = c2
  generalize xt c = c1
  generalize xt (xt (xt (xt d))) = d4
  generalize xt (xt (xt d)) = d3
  generalize xt (xt d) = d2
  generalize xt d = d1
  simp only [Nat.xor_assoc, Nat.xor_comm, xor_lc, Nat.xor_self, Nat.xor_zero, Nat.zero_xor, xor_xc]
theorem m0_add {a b c d a' b' c' d' : Nat} (ha : a < 256) (hb : b < 256) (ha' : a' < 256) (hb' : b' < 256) : m0 (a ^^^ a') (b ^^^ b') (c ^^^ c') (d ^^^ d') = m0 a b c d ^^^ m0 a' b' c' d' := by
  unfold m0
  rw [xt_lin ha ha', xt_lin hb hb']
  simp only [Nat.xor_assoc, Nat.xor_comm, xor_lc]
theorem u0_add {a b c d a' b' c' d' : Nat} : u0 (a ^^^ a') (b ^^^ b') (c ^^^ c') (d ^^^ d') = u0 a b c d ^^^ u0 a' b' c' d' := by
  unfold u0
  rw [gm_addR, gm_addR, gm_addR, gm_addR]
  simp only [Nat.xor_assoc, Nat.xor_comm, xor_lc]
/-- The place j further in a column. -/
def nx (i j : Nat) : Nat := 4 * (i / 4) + (i % 4 + j) % 4
theorem nx_zero (i : Nat) : nx i 0 = i := by unfold nx; omega
theorem nx_nx (i j k : Nat) : nx (nx i j) k = nx i (j + k) := by unfold nx; omega
theorem nx_four (i j : Nat) : nx i (j + 4) = nx i j := by unfold nx; omega
theorem nx_lt {i : Nat} (hi : i < 16) (j : Nat) : nx i j < 16 := by unfold nx; omega
/-- A state, mixed; back. -/
def MX (g : Nat → Nat) (i : Nat) : Nat := m0 (g i) (g (nx i 1)) (g (nx i 2)) (g (nx i 3))
def UX (g : Nat → Nat) (i : Nat) : Nat := u0 (g i) (g (nx i 1)) (g (nx i 2)) (g (nx i 3))
theorem MX_lt {g : Nat → Nat} (hg : ∀ i, g i < 256) (i : Nat) : MX g i < 256 := m0_lt (hg _) (hg _) (hg _) (hg _)
theorem UX_lt (g : Nat → Nat) (i : Nat) : UX g i < 256 := u0_lt
theorem nx14 (i : Nat) : nx i 4 = i := by unfold nx; omega
theorem nx15 (i : Nat) : nx i 5 = nx i 1 := by unfold nx; omega
theorem nx16 (i : Nat) : nx i 6 = nx i 2 := by unfold nx; omega
theorem MX_UX {g : Nat → Nat} (hg : ∀ i, g i < 256) (i : Nat) : MX (UX g) i = g i := by
  unfold MX UX
  simp only [nx_nx]
  rw [nx14, nx15, nx16]
  exact m0_u0 (hg _) (hg _) (hg _) (hg _)
theorem UX_MX {g : Nat → Nat} (hg : ∀ i, g i < 256) (i : Nat) : UX (MX g) i = g i := by
  unfold MX UX
  simp only [nx_nx]
  rw [nx14, nx15, nx16]
  exact u0_m0 (hg _) (hg _) (hg _) (hg _)
theorem MX_add {g h : Nat → Nat} (hg : ∀ i, g i < 256) (hh : ∀ i, h i < 256) (i : Nat) : MX (fun j => g j ^^^ h j) i = MX g i ^^^ MX h i := m0_add (hg _) (hg _) (hh _) (hh _)
theorem UX_add (g h : Nat → Nat) (i : Nat) : UX (fun j => g j ^^^ h j) i = UX g i ^^^ UX h i := u0_add
theorem MX_congr {g h : Nat → Nat} (H : ∀ i, i < 16 → g i = h i) {i : Nat} (hi : i < 16) : MX g i = MX h i := by
  unfold MX; rw [H _ hi, H _ (nx_lt hi _), H _ (nx_lt hi _), H _ (nx_lt hi _)]
theorem UX_congr {g h : Nat → Nat} (H : ∀ i, i < 16 → g i = h i) {i : Nat} (hi : i < 16) : UX g i = UX h i := by
  unfold UX; rw [H _ hi, H _ (nx_lt hi _), H _ (nx_lt hi _), H _ (nx_lt hi _)]
/-- Rows moved, and back. -/
def SH (g : Nat → Nat) (i : Nat) : Nat := g (4 * ((i / 4 + i % 4) % 4) + i % 4)
def UH (g : Nat → Nat) (i : Nat) : Nat := g (4 * ((i / 4 + 4 - i % 4) % 4) + i % 4)
theorem SH_UH {g : Nat → Nat} {i : Nat} (hi : i < 16) : SH (UH g) i = g i := by simp only [SH, UH]; congr 1; omega
theorem UH_SH {g : Nat → Nat} {i : Nat} (hi : i < 16) : UH (SH g) i = g i := by simp only [SH, UH]; congr 1; omega
theorem SH_congr {g h : Nat → Nat} (H : ∀ i, i < 16 → g i = h i) (i : Nat) : SH g i = SH h i := H _ (by omega)
theorem UH_congr {g h : Nat → Nat} (H : ∀ i, i < 16 → g i = h i) (i : Nat) : UH g i = UH h i := H _ (by omega)
theorem SH_4 {g : Nat → Nat} {i : Nat} (hi : i < 16) : SH (SH (SH (SH g))) i = g i := by simp only [SH]; congr 1; omega
end Go.Proofs.Ytokkhnjedmlbhaa.M
