-- several texts in one (by the session's program shake.py)
import Derived.Test.YtokkhnjedmlbhaaZFieldP
section
namespace Go.Proofs.Ytokkhnjedmlbhaa.Pr
open Go.RowKit Go.Proofs.YtokkhnjedmlbhaaW.PrintWords Go.Proofs.YtokkhnjedmlbhaaW.PrintLast Go.Proofs.YtokkhnjedmlbhaaW.PrintMore
attribute [local go_sem] max2_int min2_int max_two min_two max_three min_three max_four min_four   -- for this text's walks alone
set_option linter.unusedVariables false
set_option linter.unusedSimpArgs false

def clavigerref01_Zeros.f (a0 : Int) : Option (ByteArray) := if a0 < 1 then (some (⟨#[]⟩ : ByteArray)) else (if a0 > 65552 then (some (⟨#[]⟩ : ByteArray)) else (if 0 ≤ a0 then (if (a0 : Int).toNat ≤ 281474976710656 then (some (strOfNums (List.replicate (a0 : Int).toNat 0))) else (none)) else (none)))
mutual
def clavigerref01_Pad.j0 : Nat → ByteArray → Int → Bool → Option (ByteArray)
 | 0, _, _, _ => none
 | k + 1, x0, x1, x11 => if x11 = true then (some x0) else (clavigerref01_Pad.l0 k x0 x1 0)
def clavigerref01_Pad.l0 : Nat → ByteArray → Int → Int → Option (ByteArray)
 | 0, _, _, _ => none
 | k + 1, x0, x1, x5 => if x1 = 0 then (none) else (if (Int.tmod (wrap64 ((x0.size : Int) + x5)) x1) = 0 then ((clavigerref01_Zeros.f x5).bind fun t1 => (if x0.size + t1.size ≤ 9223372036854775807 then (some (x0 ++ t1)) else (none))) else (clavigerref01_Pad.l0 k x0 x1 (wrap64 (x5 + 1))))
end
def clavigerref01_Pad.f (k : Nat) (a0 : ByteArray) (a1 : Int) : Option (ByteArray) := if a1 < 1 then (clavigerref01_Pad.j0 k a0 a1 true) else (clavigerref01_Pad.j0 k a0 a1 (decide (a1 > 65535)))
theorem clavigerref01_Pad.mono_l : ∀ k, (∀ y2 y3 y4, LeO (clavigerref01_Pad.j0 k y2 y3 y4) (clavigerref01_Pad.j0 (k + 1) y2 y3 y4)) ∧ (∀ y2 y3 y4, LeO (clavigerref01_Pad.l0 k y2 y3 y4) (clavigerref01_Pad.l0 (k + 1) y2 y3 y4))
 | 0 => ⟨fun _ _ _ r h => by simp [clavigerref01_Pad.j0] at h, fun _ _ _ r h => by simp [clavigerref01_Pad.l0] at h⟩
 | k + 1 => by
  obtain ⟨ih0, ih1⟩ := clavigerref01_Pad.mono_l k
  refine ⟨?_, ?_⟩
  ·intro y2 y3 y4
   unfold clavigerref01_Pad.j0
   repeat' first
   | (with_reducible exact ih0 _ _ _)
   | (with_reducible exact ih1 _ _ _)
   | (with_reducible exact LeO.refl _)
   | (with_reducible exact LeO.none _)
   | (with_reducible refine LeO.ite ?_ ?_)
   | (with_reducible refine LeO.bind ?_ (fun _ => ?_))
  ·intro y2 y3 y4
   unfold clavigerref01_Pad.l0
   repeat' first
   | (with_reducible exact ih0 _ _ _)
   | (with_reducible exact ih1 _ _ _)
   | (with_reducible exact LeO.refl _)
   | (with_reducible exact LeO.none _)
   | (with_reducible refine LeO.ite ?_ ?_)
   | (with_reducible refine LeO.bind ?_ (fun _ => ?_))
theorem clavigerref01_Pad.mono : ∀ a0 a1 k, LeO (clavigerref01_Pad.f k a0 a1) (clavigerref01_Pad.f (k + 1) a0 a1) := by
 intro a0 a1 k
 obtain ⟨ih0, ih1⟩ := clavigerref01_Pad.mono_l k
 unfold clavigerref01_Pad.f
 repeat' first
   | (with_reducible exact ih0 _ _ _)
   | (with_reducible exact ih1 _ _ _)
   | (with_reducible exact LeO.refl _)
   | (with_reducible exact LeO.none _)
   | (with_reducible refine LeO.ite ?_ ?_)
   | (with_reducible refine LeO.bind ?_ (fun _ => ?_))
mutual
def clavigerref01_Put.j0 : Nat → Int → Int → Bool → Option (ByteArray)
 | 0, _, _, _ => none
 | k + 1, x0, x1, x12 => if x12 = true then (some (⟨#[]⟩ : ByteArray)) else (clavigerref01_Put.l0 k x0 x1 (⟨#[]⟩ : ByteArray) 0)
def clavigerref01_Put.l0 : Nat → Int → Int → ByteArray → Int → Option (ByteArray)
 | 0, _, _, _, _ => none
 | k + 1, x0, x1, x5, x6 => if x6 < x1 then ((some (([(Int.tmod x0 256) % 256] : List Int) : List Int)).bind fun y1 => (if (strOfNums y1).size + x5.size ≤ 9223372036854775807 then (clavigerref01_Put.l0 k (IntKind.u64.wrap (Int.tdiv x0 256)) x1 ((strOfNums y1) ++ x5) (wrap64 (x6 + 1))) else (none))) else (some x5)
end
def clavigerref01_Put.f (k : Nat) (a0 : Int) (a1 : Int) : Option (ByteArray) := if a1 < 1 then (clavigerref01_Put.j0 k a0 a1 true) else (clavigerref01_Put.j0 k a0 a1 (decide (a1 > 8)))
theorem clavigerref01_Put.mono_l : ∀ k, (∀ y2 y3 y4, LeO (clavigerref01_Put.j0 k y2 y3 y4) (clavigerref01_Put.j0 (k + 1) y2 y3 y4)) ∧ (∀ y2 y3 y4 y5, LeO (clavigerref01_Put.l0 k y2 y3 y4 y5) (clavigerref01_Put.l0 (k + 1) y2 y3 y4 y5))
 | 0 => ⟨fun _ _ _ r h => by simp [clavigerref01_Put.j0] at h, fun _ _ _ _ r h => by simp [clavigerref01_Put.l0] at h⟩
 | k + 1 => by
  obtain ⟨ih0, ih1⟩ := clavigerref01_Put.mono_l k
  refine ⟨?_, ?_⟩
  ·intro y2 y3 y4
   unfold clavigerref01_Put.j0
   repeat' first
   | (with_reducible exact ih0 _ _ _)
   | (with_reducible exact ih1 _ _ _ _)
   | (with_reducible exact LeO.refl _)
   | (with_reducible exact LeO.none _)
   | (with_reducible refine LeO.ite ?_ ?_)
   | (with_reducible refine LeO.bind ?_ (fun _ => ?_))
  ·intro y2 y3 y4 y5
   unfold clavigerref01_Put.l0
   repeat' first
   | (with_reducible exact ih0 _ _ _)
   | (with_reducible exact ih1 _ _ _ _)
   | (with_reducible exact LeO.refl _)
   | (with_reducible exact LeO.none _)
   | (with_reducible refine LeO.ite ?_ ?_)
   | (with_reducible refine LeO.bind ?_ (fun _ => ?_))
theorem clavigerref01_Put.mono : ∀ a0 a1 k, LeO (clavigerref01_Put.f k a0 a1) (clavigerref01_Put.f (k + 1) a0 a1) := by
 intro a0 a1 k
 obtain ⟨ih0, ih1⟩ := clavigerref01_Put.mono_l k
 unfold clavigerref01_Put.f
 repeat' first
   | (with_reducible exact ih0 _ _ _)
   | (with_reducible exact ih1 _ _ _ _)
   | (with_reducible exact LeO.refl _)
   | (with_reducible exact LeO.none _)
   | (with_reducible refine LeO.ite ?_ ?_)
   | (with_reducible refine LeO.bind ?_ (fun _ => ?_))
mutual
def octets_Pieces.j0 : Nat → ByteArray → Int → Bool → Option (List ByteArray)
 | 0, _, _, _ => none
 | k + 1, x0, x1, x11 => if x11 = true then (some ([] : List ByteArray)) else (if x1 = 0 then (none) else (if 0 ≤ (wrap64 ((wrap64 ((x0.size : Int) / x1)) + 1)) then (if (wrap64 ((wrap64 ((x0.size : Int) / x1)) + 1)) ≤ 17592186044416 then (octets_Pieces.l0 k x0 x1 (([] : List ByteArray))) else (none)) else (none)))
def octets_Pieces.l0 : Nat → ByteArray → Int → List ByteArray → Option (List ByteArray)
 | 0, _, _, _ => none
 | k + 1, x0, x1, x5 => if (x0.size : Int) > x1 then (if 0 ≤ x1 then (if x1 ≤ (x0.size : Int) then (if x5.length < 8796093022208 then (octets_Pieces.l0 k (x0.extract (x1 : Int).toNat x0.size) x1 (x5 ++ [x0.extract 0 (x1 : Int).toNat])) else (none)) else (none)) else (none)) else (if x5.length < 8796093022208 then (some (x5 ++ [x0])) else (none))
end
def octets_Pieces.f (k : Nat) (a0 : ByteArray) (a1 : Int) : Option (List ByteArray) := if a1 < 1 then (octets_Pieces.j0 k a0 a1 true) else (octets_Pieces.j0 k a0 a1 (a0.toList == ([] : List UInt8)))
theorem octets_Pieces.mono_l : ∀ k, (∀ y1 y2 y3, LeO (octets_Pieces.j0 k y1 y2 y3) (octets_Pieces.j0 (k + 1) y1 y2 y3)) ∧ (∀ y1 y2 y3, LeO (octets_Pieces.l0 k y1 y2 y3) (octets_Pieces.l0 (k + 1) y1 y2 y3))
 | 0 => ⟨fun _ _ _ r h => by simp [octets_Pieces.j0] at h, fun _ _ _ r h => by simp [octets_Pieces.l0] at h⟩
 | k + 1 => by
  obtain ⟨ih0, ih1⟩ := octets_Pieces.mono_l k
  refine ⟨?_, ?_⟩
  ·intro y1 y2 y3
   unfold octets_Pieces.j0
   repeat' first
   | (with_reducible exact ih0 _ _ _)
   | (with_reducible exact ih1 _ _ _)
   | (with_reducible exact LeO.refl _)
   | (with_reducible exact LeO.none _)
   | (with_reducible refine LeO.ite ?_ ?_)
   | (with_reducible refine LeO.bind ?_ (fun _ => ?_))
  ·intro y1 y2 y3
   unfold octets_Pieces.l0
   repeat' first
   | (with_reducible exact ih0 _ _ _)
   | (with_reducible exact ih1 _ _ _)
   | (with_reducible exact LeO.refl _)
   | (with_reducible exact LeO.none _)
   | (with_reducible refine LeO.ite ?_ ?_)
   | (with_reducible refine LeO.bind ?_ (fun _ => ?_))
theorem octets_Pieces.mono : ∀ a0 a1 k, LeO (octets_Pieces.f k a0 a1) (octets_Pieces.f (k + 1) a0 a1) := by
 intro a0 a1 k
 obtain ⟨ih0, ih1⟩ := octets_Pieces.mono_l k
 unfold octets_Pieces.f
 repeat' first
   | (with_reducible exact ih0 _ _ _)
   | (with_reducible exact ih1 _ _ _)
   | (with_reducible exact LeO.refl _)
   | (with_reducible exact LeO.none _)
   | (with_reducible refine LeO.ite ?_ ?_)
   | (with_reducible refine LeO.bind ?_ (fun _ => ?_))
set_option maxHeartbeats 8000000 in
set_option maxRecDepth 100000 in
theorem octets_Pieces.calls (k : Nat) (a0 : ByteArray) (a1 : Int) (r : List ByteArray) (w : World) (h : octets_Pieces.f k a0 a1 = some r) :
  Calls Try.prog 186 #[.string a0, .int .i64 a1] w fun e w' => ∃ v0_ : Value, e = .returned (v0_) ∧ Kd.R Kd.string 9 w' w.heap.size (fun _ => True) v0_ r ∧ Below w.heap.size w w' := by
 have HB := Aside0.mk (Below.refl w.heap.size w)
 have H : (if a1 < 1 then (octets_Pieces.j0 k a0 a1 true) else (octets_Pieces.j0 k a0 a1 (a0.toList == ([] : List UInt8)))) = some r := h
 clear h
 have HC3 := Aside0.mk H
 clear H
 go_enter Try.func186, Try.ntmps186
 go_upto_region 1 with (fail)
 go_cut [11] (fun v11 wc => ∃ (kq : Nat) (x11_2 : Bool), v11 = .bool x11_2 ∧ Aside0 (octets_Pieces.j0 kq a0 a1 x11_2 = some r) ∧ Aside0 (kq ≤ k) ∧ Aside0 (Below w.heap.size w wc))
 case first =>
  have H := HC3.out
  clear HC3
  by_cases c4 : a1 < 1
  ·rw [if_pos c4] at H
   have c4b0 : decide (a1 < 1) = true := decide_eq_true c4
   clear c4
   (first | rw [c4b0] | (simp only [i64_w, i32_w]; rw [c4b0]) | skip)
   have H' := Aside0.mk H
   clear H
   go_wp2
   go_meet
   case rel => exact ⟨_, (true), (by first | rfl | (simp; done) | (simp [*]; done)), H', ⟨by first | omega | exact Nat.le_refl _⟩, ⟨by repeat first | with_reducible (first | exact HB.out | apply bA | apply bN | apply bD) | exact HB.out⟩⟩
  ·rw [if_neg c4] at H
   have c4b0 : decide (a1 < 1) = false := decide_eq_false c4
   clear c4
   (first | rw [c4b0] | (simp only [i64_w, i32_w]; rw [c4b0]) | skip)
   have H' := Aside0.mk H
   clear H
   go_wp2
   go_meet
   case rel => exact ⟨_, ((a0.toList == ([] : List UInt8))), (by first | rfl | (simp; done) | (simp [*]; done)), H', ⟨by first | omega | exact Nat.le_refl _⟩, ⟨by repeat first | with_reducible (first | exact HB.out | apply bA | apply bN | apply bD) | exact HB.out⟩⟩
 case rest =>
  clear HC3
  try clear c1
  try clear p2
  try clear c4
  try clear c4b0
  obtain ⟨kq, x11_2, rfl, HA, HJ2, HB⟩ := hcut
  cases kq with
  | zero => exact absurd HA.out (by simp [octets_Pieces.j0])
  | succ kj2 =>
   have H := HA.out
   clear HA
   simp only [octets_Pieces.j0] at H
   by_cases c5 : x11_2 = true
   ·subst c5
    have H1 : (some ([] : List ByteArray)) = some r := by rw [if_pos rfl] at H; exact H
    clear H
    have H := H1
    clear H1
    obtain rfl := Option.some.inj H
    go_wp2
    go_ret
    exact ⟨_, by first | rfl | (simp [*, errW_none, errW_some] <;> rfl), by first | exact Kd.R_nil _ _ _ _ _ | exact Kd.N_nil _ _ _ _ _ | exact Kd.V_nil _ _ _ _ _ | exact Kd.Q_nil _ _ _ _ _ | exact Kd.S_nil _ _ _ _ _, by repeat first | with_reducible (first | exact HB.out | apply bA | apply bN | apply bD) | exact HB.out⟩
   ·replace c5 := Bool.eq_false_iff.mpr c5
    subst c5
    have H1 : (if a1 = 0 then (none) else (if 0 ≤ (wrap64 ((wrap64 ((a0.size : Int) / a1)) + 1)) then (if (wrap64 ((wrap64 ((a0.size : Int) / a1)) + 1)) ≤ 17592186044416 then (octets_Pieces.l0 kj2 a0 a1 (([] : List ByteArray))) else (none)) else (none))) = some r := by rw [if_neg (show ¬ (false = true) by decide)] at H; exact H
    clear H
    have H := H1
    clear H1
    by_cases c6 : a1 = 0
    ·rw [if_pos c6] at H
     exact absurd H (by simp)
    ·rw [if_neg c6] at H
     have c6b0 : (a1 == 0) = false := beq_eq_false_iff_ne.mpr c6
     have c6b1 : (a1 != 0) = true := bne_iff_ne.mpr c6
     obtain ⟨ji7, hji7⟩ : ∃ j_ : Int, (wrap64 ((wrap64 ((a0.size : Int) / a1)) + 1)) = j_ := ⟨_, rfl⟩
     replace H : (if 0 ≤ (ji7) then (if (ji7) ≤ 17592186044416 then (octets_Pieces.l0 kj2 a0 a1 (([] : List ByteArray))) else (none)) else (none)) = some r := by first | (rw [hji7] at H; exact H) | (simp only [hji7] at H ⊢; exact H)
     have hji7w : (IntKind.i64.wrap ((wrap64 ((a0.size : Int) / a1)) + 1)) = ji7 := (i64_w _).trans hji7
     by_cases c8 : 0 ≤ (ji7)
     ·rw [if_pos c8] at H
      have c8b0 := eq_true c8
      have c8b1 : decide (0 ≤ (ji7)) = true := decide_eq_true c8
      clear c8
      by_cases c9 : (ji7) ≤ 17592186044416
      ·rw [if_pos c9] at H
       have c9b0 := eq_true c9
       have c9b1 : decide ((ji7) ≤ 17592186044416) = true := decide_eq_true c9
       clear c9
       obtain ⟨y4, hy4⟩ : ∃ y_ : List ByteArray, y_ = (([] : List ByteArray)) := ⟨_, rfl⟩
       replace H : (octets_Pieces.l0 kj2 a0 a1 y4) = some r := by first | (rw [hy4]; with_reducible exact H) | (have H2_ := (Option.bind_some _ _).symm.trans H; rw [hy4]; with_reducible exact H2_) | (have H2_ := (Option.bind_some _ _).symm.trans H; with_reducible exact H2_) | with_reducible exact H | (rw [hy4]; exact H) | exact H
       have Ny5001 := Aside0.mk hy4
       clear hy4
       have H' := Aside0.mk H
       clear H
       go_wp2_with (first | ((with_reducible refine gate_dst (N := 17) rfl ?_); refine Go.Proofs.YtokkhnjedmlbhaaHw.R_make0 Kd.string _ 9 rfl (N := 17) rfl 49 _ _ rfl ji7 rfl rfl Try.underlying49 (.string ⟨#[]⟩) 16 info9 rfl (by decide) (by decide) (ok := fun _ => True) (okp := fun _ => True) (fun _ hk => hk) trivial (of_decide_eq_true (by assumption)) (Int.le_trans (Int.mul_le_mul_of_nonneg_right (of_decide_eq_true (by assumption) : ji7 ≤ 17592186044416) (by omega)) (by omega)) (Below.refl _ _) (Nat.le_refl _) ?_; intro v338 w10 ho11 hb hg_ hnew_; clear hg_ hnew_; (first | rw [← Ny5001.out] at ho11 | (simp only [Int.reduceToNat] at ho11; rw [← Ny5001.out] at ho11)); have n0_ := Aside0.mk (Kd.R_lower ho11 (below_size (by repeat first | with_reducible (first | exact HB.out | apply bA | apply bN | apply bD) | exact HB.out))); have n1_ := Aside0.mk (below_step (by repeat first | with_reducible (first | exact HB.out | apply bA | apply bN | apply bD) | exact HB.out) hb); clear HB; have HO339 := n0_; have HB := n1_; clear n0_ n1_; clear hb ho11))
       go_loopg [0, 5] kj2 (fun kq v0 v5 w' => ∃ (x0_2 : ByteArray) (x5_2 : List ByteArray), v0 = .string x0_2 ∧ Aside0 (octets_Pieces.l0 kq x0_2 a1 x5_2 = some r) ∧ Aside0 (kq ≤ kj2) ∧ Aside0 (Kd.R Kd.string 9 w' w.heap.size (fun _ => True) v5 x5_2) ∧ Aside0 (Below w.heap.size w w'))
       case atStart => exact ⟨(a0), (y4), (by first | rfl | (simp; done) | (simp [*]; done)), H', ⟨Nat.le_refl _⟩, ⟨by (with_reducible repeat (first | apply Kd.R_alloc | apply Kd.R_drewN | apply Kd.R_drew)); exact HO339.out⟩, ⟨by repeat first | with_reducible (first | exact HB.out | apply bA | apply bN | apply bD) | exact HB.out⟩⟩
       case round =>
        clear H'
        try clear c1
        try clear p2
        try clear c4
        try clear c4b0
        try clear c5
        try clear c6
        try clear c6b0
        try clear c6b1
        try clear p6
        try clear c8
        try clear c8b0
        try clear c8b1
        try clear c9
        try clear c9b0
        try clear c9b1
        try clear p2
        obtain ⟨x0_2, x5_2, rfl, HA, HK2, HO_5, HB⟩ := hrel
        cases gk with
        | zero => exact absurd HA.out (by simp [octets_Pieces.l0])
        | succ k2 =>
         have H := HA.out
         clear HA
         simp only [octets_Pieces.l0] at H
         by_cases c12 : (x0_2.size : Int) > a1
         ·rw [if_pos c12] at H
          have c12b0 : decide (a1 < (x0_2.size : Int)) = true := decide_eq_true c12
          clear c12
          by_cases c13 : 0 ≤ a1
          ·rw [if_pos c13] at H
           have c13b0 := eq_true c13
           have c13b1 : decide (0 ≤ a1) = true := decide_eq_true c13
           clear c13
           by_cases c14 : a1 ≤ (x0_2.size : Int)
           ·rw [if_pos c14] at H
            have c14b0 := eq_true c14
            have c14b1 : decide (a1 ≤ (x0_2.size : Int)) = true := decide_eq_true c14
            clear c14
            by_cases c15 : x5_2.length < 8796093022208
            ·rw [if_pos c15] at H
             have LMc15 := Aside0.mk c15
             clear c15
             obtain ⟨y5, hy5⟩ : ∃ y_ : List ByteArray, y_ = (x5_2 ++ [x0_2.extract 0 (a1 : Int).toNat]) := ⟨_, rfl⟩
             replace H : (octets_Pieces.l0 k2 (x0_2.extract (a1 : Int).toNat x0_2.size) a1 y5) = some r := by first | (rw [hy5]; with_reducible exact H) | (have H2_ := (Option.bind_some _ _).symm.trans H; rw [hy5]; with_reducible exact H2_) | (have H2_ := (Option.bind_some _ _).symm.trans H; with_reducible exact H2_) | with_reducible exact H | (rw [hy5]; exact H) | exact H
             have Ny5002 := Aside0.mk hy5
             clear hy5
             have c16b0 := eq_true (of_decide_eq_true (by assumption) : 0 ≤ a1)
             have c17b0 := eq_true (of_decide_eq_true (by assumption) : a1 ≤ (x0_2.size : Int))
             have H' := Aside0.mk H
             clear H
             go_wp2_with (first | ((with_reducible refine gate_builtin (b := .append) (xs := #[.tmp 22, .tmp 26]) rfl ?_); at_builtin; refine Kd.R_append Kd.string (w0 := w) w.heap.size rfl (.tmp 22) (.tmp 26) 49 9 (.string ⟨#[]⟩) 16 rfl Try.underlying49 info9 rfl (by decide) (by omega) u5 x5_2 (x0_2.extract 0 (a1 : Int).toNat) [.string (x0_2.extract 0 (a1 : Int).toNat)] (fun _ => True) (fun _ => False) rfl rfl ?aP (fun _ hk => hk.elim) ?aF ?aO ?aB ?aS ?aL ?_; (case aP => exact rfl); (case aB => exact (by repeat first | with_reducible (first | exact HB.out | apply bA | apply bN | apply bD) | exact HB.out)); (case aF => exact (fun _ _ => trivial)); (case aO => exact (by (with_reducible repeat (first | apply Kd.R_alloc | apply Kd.R_drewN | apply Kd.R_drew)); exact HO_5.out)); (case aS => exact (below_size (by repeat first | with_reducible (first | exact HB.out | apply bA | apply bN | apply bD) | exact HB.out))); (case aL => have := LMc15.out; omega); intro v341 w18 ho hb hg hat; rw [← Ny5002.out] at ho; have n0_ := Aside0.mk (hb); have n1_ := Aside0.mk (ho); clear HB; clear HO_5; have HB := n0_; have HO342 := n1_; clear n0_ n1_; clear ho hb hg hat))
             go_roundg k2
             case measure => have := HJ2.out; have := HK2.out; omega
             case rel => exact ⟨(x0_2.extract (a1 : Int).toNat x0_2.size), (y5), (by first | rfl | (simp; done) | (simp [*]; done)), H', ⟨by have := HJ2.out; have := HK2.out; omega⟩, ⟨by (with_reducible repeat (first | apply Kd.R_alloc | apply Kd.R_drewN | apply Kd.R_drew)); exact HO342.out⟩, ⟨by repeat first | with_reducible (first | exact HB.out | apply bA | apply bN | apply bD) | exact HB.out⟩⟩
            ·rw [if_neg c15] at H
             exact absurd H (by simp)
           ·rw [if_neg c14] at H
            exact absurd H (by simp)
          ·rw [if_neg c13] at H
           exact absurd H (by simp)
         ·rw [if_neg c12] at H
          have c12b0 : decide (a1 < (x0_2.size : Int)) = false := decide_eq_false c12
          clear c12
          by_cases c19 : x5_2.length < 8796093022208
          ·rw [if_pos c19] at H
           have LMc19 := Aside0.mk c19
           clear c19
           obtain ⟨y6, hy6⟩ : ∃ y_ : List ByteArray, y_ = (x5_2 ++ [x0_2]) := ⟨_, rfl⟩
           replace H : (some y6) = some r := by first | (rw [hy6]; with_reducible exact H) | (have H2_ := (Option.bind_some _ _).symm.trans H; rw [hy6]; with_reducible exact H2_) | (have H2_ := (Option.bind_some _ _).symm.trans H; with_reducible exact H2_) | with_reducible exact H | (rw [hy6]; exact H) | exact H
           have Ny5003 := Aside0.mk hy6
           clear hy6
           obtain rfl := Option.some.inj H
           go_wp2_with (first | ((with_reducible refine gate_builtin (b := .append) (xs := #[.tmp 31, .tmp 33]) rfl ?_); at_builtin; refine Kd.R_append Kd.string (w0 := w) w.heap.size rfl (.tmp 31) (.tmp 33) 49 9 (.string ⟨#[]⟩) 16 rfl Try.underlying49 info9 rfl (by decide) (by omega) u5 x5_2 x0_2 [.string x0_2] (fun _ => True) (fun _ => False) rfl rfl ?aP (fun _ hk => hk.elim) ?aF ?aO ?aB ?aS ?aL ?_; (case aP => exact rfl); (case aB => exact (by repeat first | with_reducible (first | exact HB.out | apply bA | apply bN | apply bD) | exact HB.out)); (case aF => exact (fun _ _ => trivial)); (case aO => exact (by (with_reducible repeat (first | apply Kd.R_alloc | apply Kd.R_drewN | apply Kd.R_drew)); exact HO_5.out)); (case aS => exact (below_size (by repeat first | with_reducible (first | exact HB.out | apply bA | apply bN | apply bD) | exact HB.out))); (case aL => have := LMc19.out; omega); intro v344 w20 ho hb hg hat; rw [← Ny5003.out] at ho; have n0_ := Aside0.mk (hb); have n1_ := Aside0.mk (ho); clear HB; clear HO_5; have HB := n0_; have HO345 := n1_; clear n0_ n1_; clear ho hb hg hat))
           go_ret
           exact ⟨_, by first | rfl | (simp [errW_none, errW_some] <;> rfl) | (simp only [← hji7]; first | rfl | (simp [errW_none, errW_some] <;> rfl)) | (simp [*, errW_none, errW_some] <;> rfl), by (with_reducible repeat (first | apply Kd.R_alloc | apply Kd.R_drewN | apply Kd.R_drew)); exact HO345.out, by repeat first | with_reducible (first | exact HB.out | apply bA | apply bN | apply bD) | exact HB.out⟩
          ·rw [if_neg c19] at H
           exact absurd H (by simp)
      ·rw [if_neg c9] at H
       exact absurd H (by simp)
     ·rw [if_neg c8] at H
      exact absurd H (by simp)

mutual
def octets_Get.j0 : Nat → ByteArray → Bool → Option (Int × Bool)
 | 0, _, _ => none
 | k + 1, x0, x13 => if x13 = true then (some (0, false)) else (octets_Get.l0 k x0 0 (x0.size : Int) 0)
def octets_Get.l0 : Nat → ByteArray → Int → Int → Int → Option (Int × Bool)
 | 0, _, _, _, _ => none
 | k + 1, x0, x4, x15, x16 => if x16 < x15 then (if 0 ≤ x16 then (if x16 < (x0.size : Int) then (octets_Get.l0 k x0 (Go.bits .or .u64 (IntKind.u64.wrap (x4 * 256)) (IntKind.u64.wrap (bt x0 x16))) x15 (wrap64 (x16 + 1))) else (none)) else (none)) else (some (x4, true))
end
def octets_Get.f (k : Nat) (a0 : ByteArray) : Option (Int × Bool) := if (a0.size : Int) = 0 then (octets_Get.j0 k a0 true) else (octets_Get.j0 k a0 (decide ((a0.size : Int) > 8)))
theorem octets_Get.mono_l : ∀ k, (∀ y1 y2, LeO (octets_Get.j0 k y1 y2) (octets_Get.j0 (k + 1) y1 y2)) ∧ (∀ y1 y2 y3 y4, LeO (octets_Get.l0 k y1 y2 y3 y4) (octets_Get.l0 (k + 1) y1 y2 y3 y4))
 | 0 => ⟨fun _ _ r h => by simp [octets_Get.j0] at h, fun _ _ _ _ r h => by simp [octets_Get.l0] at h⟩
 | k + 1 => by
  obtain ⟨ih0, ih1⟩ := octets_Get.mono_l k
  refine ⟨?_, ?_⟩
  ·intro y1 y2
   unfold octets_Get.j0
   repeat' first
   | (with_reducible exact ih0 _ _)
   | (with_reducible exact ih1 _ _ _ _)
   | (with_reducible exact LeO.refl _)
   | (with_reducible exact LeO.none _)
   | (with_reducible refine LeO.ite ?_ ?_)
   | (with_reducible refine LeO.bind ?_ (fun _ => ?_))
  ·intro y1 y2 y3 y4
   unfold octets_Get.l0
   repeat' first
   | (with_reducible exact ih0 _ _)
   | (with_reducible exact ih1 _ _ _ _)
   | (with_reducible exact LeO.refl _)
   | (with_reducible exact LeO.none _)
   | (with_reducible refine LeO.ite ?_ ?_)
   | (with_reducible refine LeO.bind ?_ (fun _ => ?_))
theorem octets_Get.mono : ∀ a0 k, LeO (octets_Get.f k a0) (octets_Get.f (k + 1) a0) := by
 intro a0 k
 obtain ⟨ih0, ih1⟩ := octets_Get.mono_l k
 unfold octets_Get.f
 repeat' first
   | (with_reducible exact ih0 _ _)
   | (with_reducible exact ih1 _ _ _ _)
   | (with_reducible exact LeO.refl _)
   | (with_reducible exact LeO.none _)
   | (with_reducible refine LeO.ite ?_ ?_)
   | (with_reducible refine LeO.bind ?_ (fun _ => ?_))
set_option maxHeartbeats 8000000 in
set_option maxRecDepth 100000 in
theorem octets_Get.calls (k : Nat) (a0 : ByteArray) (r1 : Int) (r2 : Bool) (w : World) (h : octets_Get.f k a0 = some (r1, r2)) :
  Calls Try.prog 195 #[.string a0] w fun e w' => e = .returned (.tuple #[.int .u64 r1, .bool r2]) ∧ Drawn0 w w' := by
 have H : (if (a0.size : Int) = 0 then (octets_Get.j0 k a0 true) else (octets_Get.j0 k a0 (decide ((a0.size : Int) > 8)))) = some (r1, r2) := h
 clear h
 have HC2 := Aside0.mk H
 clear H
 go_enter Try.func195, Try.ntmps195
 go_upto_region 1 with (fail)
 go_cut [13] (fun v13 wc => ∃ (kq : Nat) (x13_1 : Bool), v13 = .bool x13_1 ∧ Aside0 (octets_Get.j0 kq a0 x13_1 = some (r1, r2)) ∧ Aside0 (kq ≤ k) ∧ Drawn0 w wc)
 case first =>
  have H := HC2.out
  clear HC2
  by_cases c3 : (a0.size : Int) = 0
  ·rw [if_pos c3] at H
   have c3b0 : ((a0.size : Int) == 0) = true := beq_iff_eq.mpr c3
   have c3b1 : ((a0.size : Int) != 0) = false := bne_eq_false_iff_eq.mpr c3
   clear c3
   (first | rw [c3b0] | (simp only [i64_w, i32_w]; rw [c3b0]) | skip)
   have H' := Aside0.mk H
   clear H
   go_wp2
   go_meet
   case rel => exact ⟨_, (true), (by first | rfl | (simp; done) | (simp [*]; done)), H', ⟨by first | omega | exact Nat.le_refl _⟩, by repeat (first | exact Drawn0.refl _ | apply Drawn0.step)⟩
  ·rw [if_neg c3] at H
   have c3b0 : ((a0.size : Int) == 0) = false := beq_eq_false_iff_ne.mpr c3
   have c3b1 : ((a0.size : Int) != 0) = true := bne_iff_ne.mpr c3
   (first | rw [c3b0] | (simp only [i64_w, i32_w]; rw [c3b0]) | skip)
   have H' := Aside0.mk H
   clear H
   go_wp2
   go_meet
   case rel => exact ⟨_, (decide ((a0.size : Int) > 8)), (by first | rfl | (simp; done) | (simp [*]; done)), H', ⟨by first | omega | exact Nat.le_refl _⟩, by repeat (first | exact Drawn0.refl _ | apply Drawn0.step)⟩
 case rest =>
  clear HC2
  try clear c1
  try clear p2
  try clear c3
  try clear c3b0
  try clear c3b1
  obtain ⟨kq, x13_1, rfl, HA, HJ1, ⟨mc1, rfl⟩⟩ := hcut
  cases kq with
  | zero => exact absurd HA.out (by simp [octets_Get.j0])
  | succ kj1 =>
   have H := HA.out
   clear HA
   simp only [octets_Get.j0] at H
   by_cases c4 : x13_1 = true
   ·subst c4
    have H1 : (some (0, false)) = some (r1, r2) := by rw [if_pos rfl] at H; exact H
    clear H
    have H := H1
    clear H1
    simp only [Option.some.injEq, Prod.mk.injEq] at H
    obtain ⟨rfl, rfl⟩ := H
    go_wp2
    go_ret2
    exact ⟨by first | rfl | (simp; done) | (simp [*]; done) | (simp [IntKind.wrap_u8, IntKind.wrap_i64, wrap64]; done), by repeat (first | exact Drawn0.refl _ | apply Drawn0.step)⟩
   ·replace c4 := Bool.eq_false_iff.mpr c4
    subst c4
    have H1 : (octets_Get.l0 kj1 a0 0 (a0.size : Int) 0) = some (r1, r2) := by rw [if_neg (show ¬ (false = true) by decide)] at H; exact H
    clear H
    have H := H1
    clear H1
    have H' := Aside0.mk H
    clear H
    go_wp2
    go_loopg [4, 16] kj1 (fun kq v4 v16 w' => ∃ (x4_2 : Int) (x16_2 : Int), v4 = .int .u64 x4_2 ∧ v16 = .int .i64 x16_2 ∧ Aside0 (octets_Get.l0 kq a0 x4_2 (a0.size : Int) x16_2 = some (r1, r2)) ∧ Aside0 (kq ≤ kj1) ∧ Drawn0 w w')
    case atStart => exact ⟨(0), (0), (by first | rfl | (simp; done) | (simp [*]; done)), (by first | rfl | (simp; done) | (simp [*]; done)), H', ⟨Nat.le_refl _⟩, by repeat (first | exact Drawn0.refl _ | apply Drawn0.step)⟩
    case round =>
     clear H'
     try clear c1
     try clear p2
     try clear c3
     try clear c3b0
     try clear c3b1
     try clear c4
     try clear p2
     obtain ⟨x4_2, x16_2, rfl, rfl, HA, HK2, ⟨m2, rfl⟩⟩ := hrel
     cases gk with
     | zero => exact absurd HA.out (by simp [octets_Get.l0])
     | succ k2 =>
      have H := HA.out
      clear HA
      simp only [octets_Get.l0] at H
      by_cases c5 : x16_2 < (a0.size : Int)
      ·rw [if_pos c5] at H
       have c5b0 : decide (x16_2 < (a0.size : Int)) = true := decide_eq_true c5
       clear c5
       by_cases c6 : 0 ≤ x16_2
       ·rw [if_pos c6] at H
        have c6b0 : decide (0 ≤ x16_2) = true := decide_eq_true c6
        clear c6
        by_cases c7 : x16_2 < (a0.size : Int)
        ·rw [if_pos c7] at H
         have c7b0 : decide (x16_2 < (a0.size : Int)) = true := decide_eq_true c7
         clear c7
         have H' := Aside0.mk H
         clear H
         have p8 : 0 ≤ (x16_2 : Int) := of_decide_eq_true (by assumption)
         have q8 : x16_2 < (a0.size : Int) := of_decide_eq_true (by assumption)
         have hx8 := bt_at a0 x16_2
         replace p8 := eq_true p8
         replace q8 := eq_true q8
         go_wp2
         go_roundg k2
         case measure => have := HJ1.out; have := HK2.out; omega
         case rel => exact ⟨(Go.bits .or .u64 (IntKind.u64.wrap (x4_2 * 256)) (IntKind.u64.wrap (bt a0 x16_2))), (wrap64 (x16_2 + 1)), (by first | rfl | (simp; done) | (simp [*]; done)), (by first | rfl | (simp; done) | (simp [*]; done)), H', ⟨by have := HJ1.out; have := HK2.out; omega⟩, by repeat (first | exact Drawn0.refl _ | apply Drawn0.step)⟩
        ·rw [if_neg c7] at H
         exact absurd H (by simp)
       ·rw [if_neg c6] at H
        exact absurd H (by simp)
      ·rw [if_neg c5] at H
       have c5b0 : decide (x16_2 < (a0.size : Int)) = false := decide_eq_false c5
       clear c5
       simp only [Option.some.injEq, Prod.mk.injEq] at H
       obtain ⟨rfl, rfl⟩ := H
       go_wp2
       go_ret2
       exact ⟨by first | rfl | (simp; done) | (simp [*]; done) | (simp [IntKind.wrap_u8, IntKind.wrap_i64, wrap64]; done), by repeat (first | exact Drawn0.refl _ | apply Drawn0.step)⟩

def octets_Zeros.f (a0 : Int) : Option (ByteArray) := if a0 < 1 then (some (⟨#[]⟩ : ByteArray)) else (if a0 > 65552 then (some (⟨#[]⟩ : ByteArray)) else (if 0 ≤ a0 then (if (a0 : Int).toNat ≤ 281474976710656 then (some (strOfNums (List.replicate (a0 : Int).toNat 0))) else (none)) else (none)))
def octets_Pad.f (a0 : ByteArray) (a1 : Int) : Option (ByteArray) := if a1 < 1 then (some a0) else (if a1 > 65535 then (some a0) else (if a1 = 0 then (none) else ((octets_Zeros.f (Int.tmod (wrap64 (a1 - ((a0.size : Int) % a1))) a1)).bind fun t1 => (if a0.size + t1.size ≤ 9223372036854775807 then (some (a0 ++ t1)) else (none)))))
def octets_Cut.f (a0 : ByteArray) (a1 : Int) (a2 : Int) : Option (ByteArray) := if a1 < 0 then (some (⟨#[]⟩ : ByteArray)) else (if a1 ≥ (a0.size : Int) then (some (⟨#[]⟩ : ByteArray)) else (if a2 < 1 then (some (⟨#[]⟩ : ByteArray)) else (if 0 ≤ a1 then (if a1 ≤ (wrap64 (a1 + (mn a2 (wrap64 ((a0.size : Int) - a1))))) then (if (wrap64 (a1 + (mn a2 (wrap64 ((a0.size : Int) - a1))))) ≤ (a0.size : Int) then (some (a0.extract (a1 : Int).toNat ((wrap64 (a1 + (mn a2 (wrap64 ((a0.size : Int) - a1))))) : Int).toNat)) else (none)) else (none)) else (none))))
def equal_Nought.l0 : Nat → ByteArray → Int → Int → Int → Option (Bool × Int)
 | 0, _, _, _, _ => none
 | k + 1, x0, x4, x7, x8 => if x8 < x7 then (if 0 ≤ x8 then (if x8 < (x0.size : Int) then (equal_Nought.l0 k x0 (Go.bits .or .u8 x4 (bt x0 x8)) x7 (wrap64 (x8 + 1))) else (none)) else (none)) else (some ((x4 == 0), (x0.size : Int)))
def equal_Nought.f (k : Nat) (a0 : ByteArray) : Option (Bool × Int) := equal_Nought.l0 k a0 0 (a0.size : Int) 0
theorem equal_Nought.mono_l : ∀ k, (∀ y1 y2 y3 y4, LeO (equal_Nought.l0 k y1 y2 y3 y4) (equal_Nought.l0 (k + 1) y1 y2 y3 y4))
 | 0 => fun _ _ _ _ r h => by simp [equal_Nought.l0] at h
 | k + 1 => by
  have ih0 := equal_Nought.mono_l k
  ·intro y1 y2 y3 y4
   unfold equal_Nought.l0
   repeat' first
   | (with_reducible exact ih0 _ _ _ _)
   | (with_reducible exact LeO.refl _)
   | (with_reducible exact LeO.none _)
   | (with_reducible refine LeO.ite ?_ ?_)
   | (with_reducible refine LeO.bind ?_ (fun _ => ?_))
theorem equal_Nought.mono : ∀ a0 k, LeO (equal_Nought.f k a0) (equal_Nought.f (k + 1) a0) := by
 intro a0 k
 have ih0 := equal_Nought.mono_l k
 unfold equal_Nought.f
 repeat' first
   | (with_reducible exact ih0 _ _ _ _)
   | (with_reducible exact LeO.refl _)
   | (with_reducible exact LeO.none _)
   | (with_reducible refine LeO.ite ?_ ?_)
   | (with_reducible refine LeO.bind ?_ (fun _ => ?_))
end Go.Proofs.Ytokkhnjedmlbhaa.Pr
end
section
namespace Go.Proofs.Ytokkhnjedmlbhaa.Pr
open Go.RowKit Go.Proofs.YtokkhnjedmlbhaaW.PrintWords Go.Proofs.YtokkhnjedmlbhaaW.PrintLast Go.Proofs.YtokkhnjedmlbhaaW.PrintMore
attribute [local go_sem] max2_int min2_int max_two min_two max_three min_three max_four min_four   -- for this text's walks alone
set_option linter.unusedVariables false
set_option linter.unusedSimpArgs false

mutual
def clavigerref01_Xor.l0 : Nat → ByteArray → ByteArray → ByteArray → Int → Option (ByteArray)
 | 0, _, _, _, _ => none
 | k + 1, x0, x1, x5, x6 => if x6 < (x0.size : Int) then (clavigerref01_Xor.j1 k x0 x1 x5 x6 (decide (x6 < (x1.size : Int)))) else (clavigerref01_Xor.j1 k x0 x1 x5 x6 false)
def clavigerref01_Xor.j1 : Nat → ByteArray → ByteArray → ByteArray → Int → Bool → Option (ByteArray)
 | 0, _, _, _, _, _ => none
 | k + 1, x0, x1, x5, x6, x20 => if x20 = true then (if 0 ≤ x6 then (if x6 < (x0.size : Int) then (if x6 < (x1.size : Int) then (clavigerref01_Xor.l1 k x0 x1 x5 x6 (wrap64 (bt x0 x6)) (wrap64 (bt x1 x6)) 0 1) else (none)) else (none)) else (none)) else (some x5)
def clavigerref01_Xor.l1 : Nat → ByteArray → ByteArray → ByteArray → Int → Int → Int → Int → Int → Option (ByteArray)
 | 0, _, _, _, _, _, _, _, _ => none
 | k + 1, x0, x1, x5, x6, x7, x8, x9, x10 => if x10 < 256 then (if x10 = 0 then (none) else (if (Int.tmod (wrap64 (Int.tdiv x7 x10)) 2) = (Int.tmod (wrap64 (Int.tdiv x8 x10)) 2) then (clavigerref01_Xor.l1 k x0 x1 x5 x6 x7 x8 x9 (wrap64 (2 * x10))) else (clavigerref01_Xor.l1 k x0 x1 x5 x6 x7 x8 (wrap64 (x9 + x10)) (wrap64 (2 * x10))))) else ((some (([(x9) % 256] : List Int) : List Int)).bind fun y1 => (if x5.size + (strOfNums y1).size ≤ 9223372036854775807 then (clavigerref01_Xor.l0 k x0 x1 (x5 ++ (strOfNums y1)) (wrap64 (x6 + 1))) else (none)))
end
def clavigerref01_Xor.f (k : Nat) (a0 : ByteArray) (a1 : ByteArray) : Option (ByteArray) := clavigerref01_Xor.l0 k a0 a1 (⟨#[]⟩ : ByteArray) 0
theorem clavigerref01_Xor.mono_l : ∀ k, (∀ y2 y3 y4 y5, LeO (clavigerref01_Xor.l0 k y2 y3 y4 y5) (clavigerref01_Xor.l0 (k + 1) y2 y3 y4 y5)) ∧ (∀ y2 y3 y4 y5 y6, LeO (clavigerref01_Xor.j1 k y2 y3 y4 y5 y6) (clavigerref01_Xor.j1 (k + 1) y2 y3 y4 y5 y6)) ∧ (∀ y2 y3 y4 y5 y6 y7 y8 y9, LeO (clavigerref01_Xor.l1 k y2 y3 y4 y5 y6 y7 y8 y9) (clavigerref01_Xor.l1 (k + 1) y2 y3 y4 y5 y6 y7 y8 y9))
 | 0 => ⟨fun _ _ _ _ r h => by simp [clavigerref01_Xor.l0] at h, fun _ _ _ _ _ r h => by simp [clavigerref01_Xor.j1] at h, fun _ _ _ _ _ _ _ _ r h => by simp [clavigerref01_Xor.l1] at h⟩
 | k + 1 => by
  obtain ⟨ih0, ih1, ih2⟩ := clavigerref01_Xor.mono_l k
  refine ⟨?_, ?_, ?_⟩
  ·intro y2 y3 y4 y5
   unfold clavigerref01_Xor.l0
   repeat' first
   | (with_reducible exact ih0 _ _ _ _)
   | (with_reducible exact ih1 _ _ _ _ _)
   | (with_reducible exact ih2 _ _ _ _ _ _ _ _)
   | (with_reducible exact LeO.refl _)
   | (with_reducible exact LeO.none _)
   | (with_reducible refine LeO.ite ?_ ?_)
   | (with_reducible refine LeO.bind ?_ (fun _ => ?_))
  ·intro y2 y3 y4 y5 y6
   unfold clavigerref01_Xor.j1
   repeat' first
   | (with_reducible exact ih0 _ _ _ _)
   | (with_reducible exact ih1 _ _ _ _ _)
   | (with_reducible exact ih2 _ _ _ _ _ _ _ _)
   | (with_reducible exact LeO.refl _)
   | (with_reducible exact LeO.none _)
   | (with_reducible refine LeO.ite ?_ ?_)
   | (with_reducible refine LeO.bind ?_ (fun _ => ?_))
  ·intro y2 y3 y4 y5 y6 y7 y8 y9
   unfold clavigerref01_Xor.l1
   repeat' first
   | (with_reducible exact ih0 _ _ _ _)
   | (with_reducible exact ih1 _ _ _ _ _)
   | (with_reducible exact ih2 _ _ _ _ _ _ _ _)
   | (with_reducible exact LeO.refl _)
   | (with_reducible exact LeO.none _)
   | (with_reducible refine LeO.ite ?_ ?_)
   | (with_reducible refine LeO.bind ?_ (fun _ => ?_))
theorem clavigerref01_Xor.mono : ∀ a0 a1 k, LeO (clavigerref01_Xor.f k a0 a1) (clavigerref01_Xor.f (k + 1) a0 a1) := by
 intro a0 a1 k
 obtain ⟨ih0, ih1, ih2⟩ := clavigerref01_Xor.mono_l k
 unfold clavigerref01_Xor.f
 repeat' first
   | (with_reducible exact ih0 _ _ _ _)
   | (with_reducible exact ih1 _ _ _ _ _)
   | (with_reducible exact ih2 _ _ _ _ _ _ _ _)
   | (with_reducible exact LeO.refl _)
   | (with_reducible exact LeO.none _)
   | (with_reducible refine LeO.ite ?_ ?_)
   | (with_reducible refine LeO.bind ?_ (fun _ => ?_))
set_option maxHeartbeats 8000000 in
set_option maxRecDepth 100000 in
theorem clavigerref01_Xor.calls (k : Nat) (a0 : ByteArray) (a1 : ByteArray) (r : ByteArray) (w : World) (h : clavigerref01_Xor.f k a0 a1 = some r) :
  Calls Try.prog 178 #[.string a0, .string a1] w fun e w' => e = .returned (.string r) ∧ Below w.heap.size w w' := by
 have HB := Aside0.mk (Below.refl w.heap.size w)
 have H : (clavigerref01_Xor.l0 k a0 a1 (⟨#[]⟩ : ByteArray) 0) = some r := h
 clear h
 have H' := Aside0.mk H
 clear H
 go_enter Try.func178, Try.ntmps178
 go_wp2
 repeat (go_quiet (fail); try go_wp2)
 go_loopg [5, 6] k (fun kq v5 v6 w' => ∃ (x5_1 : ByteArray) (x6_1 : Int), v5 = .string x5_1 ∧ v6 = .int .i64 x6_1 ∧ Aside0 (clavigerref01_Xor.l0 kq a0 a1 x5_1 x6_1 = some r) ∧ Aside0 (kq ≤ k) ∧ Aside0 (Below w.heap.size w w'))
 case atStart => exact ⟨((⟨#[]⟩ : ByteArray)), (0), (by first | rfl | (simp; done) | (simp [*]; done)), (by first | rfl | (simp; done) | (simp [*]; done)), H', ⟨Nat.le_refl _⟩, ⟨by repeat first | with_reducible (first | exact HB.out | apply bA | apply bN | apply bD) | exact HB.out⟩⟩
 case round =>
  clear H'
  try clear c1
  try clear p2
  obtain ⟨x5_1, x6_1, rfl, rfl, HA, HK1, HB⟩ := hrel
  cases gk with
  | zero => exact absurd HA.out (by simp [clavigerref01_Xor.l0])
  | succ k1 =>
   have H := HA.out
   clear HA
   simp only [clavigerref01_Xor.l0] at H
   have HC3 := Aside0.mk H
   clear H
   go_upto_region 3 with (fail)
   repeat (go_quiet (fail); go_upto_region 3 with (fail))
   go_cut [20] (fun v20 wc => ∃ (kq : Nat) (x20_2 : Bool), v20 = .bool x20_2 ∧ Aside0 (clavigerref01_Xor.j1 kq a0 a1 x5_1 x6_1 x20_2 = some r) ∧ Aside0 (kq ≤ k1) ∧ Aside0 (Below w.heap.size w wc))
   case first =>
    have H := HC3.out
    clear HC3
    by_cases c4 : x6_1 < (a0.size : Int)
    ·rw [if_pos c4] at H
     have c4b0 : decide (x6_1 < (a0.size : Int)) = true := decide_eq_true c4
     clear c4
     (first | rw [c4b0] | (simp only [i64_w, i32_w]; rw [c4b0]) | skip)
     have H' := Aside0.mk H
     clear H
     go_wp2
     repeat (go_quiet (fail); try go_wp2)
     go_meet
     case rel => exact ⟨_, (decide (x6_1 < (a1.size : Int))), (by first | rfl | (simp; done) | (simp [*]; done)), H', ⟨by have := HK1.out; first | omega | exact Nat.le_refl _⟩, ⟨by repeat first | with_reducible (first | exact HB.out | apply bA | apply bN | apply bD) | exact HB.out⟩⟩
    ·rw [if_neg c4] at H
     have c4b0 : decide (x6_1 < (a0.size : Int)) = false := decide_eq_false c4
     clear c4
     (first | rw [c4b0] | (simp only [i64_w, i32_w]; rw [c4b0]) | skip)
     have H' := Aside0.mk H
     clear H
     go_wp2
     repeat (go_quiet (fail); try go_wp2)
     go_meet
     case rel => exact ⟨_, (false), (by first | rfl | (simp; done) | (simp [*]; done)), H', ⟨by have := HK1.out; first | omega | exact Nat.le_refl _⟩, ⟨by repeat first | with_reducible (first | exact HB.out | apply bA | apply bN | apply bD) | exact HB.out⟩⟩
   case rest =>
    clear HC3
    try clear c1
    try clear p2
    try clear c4
    try clear c4b0
    try clear p2
    obtain ⟨kq, x20_2, rfl, HA, HJ2, HB⟩ := hcut
    cases kq with
    | zero => exact absurd HA.out (by simp [clavigerref01_Xor.j1])
    | succ kj2 =>
     have H := HA.out
     clear HA
     simp only [clavigerref01_Xor.j1] at H
     by_cases c5 : x20_2 = true
     ·subst c5
      have H1 : (if 0 ≤ x6_1 then (if x6_1 < (a0.size : Int) then (if x6_1 < (a1.size : Int) then (clavigerref01_Xor.l1 kj2 a0 a1 x5_1 x6_1 (wrap64 (bt a0 x6_1)) (wrap64 (bt a1 x6_1)) 0 1) else (none)) else (none)) else (none)) = some r := by rw [if_pos rfl] at H; exact H
      clear H
      have H := H1
      clear H1
      by_cases c6 : 0 ≤ x6_1
      ·rw [if_pos c6] at H
       have c6b0 : decide (0 ≤ x6_1) = true := decide_eq_true c6
       clear c6
       by_cases c7 : x6_1 < (a0.size : Int)
       ·rw [if_pos c7] at H
        have c7b0 : decide (x6_1 < (a0.size : Int)) = true := decide_eq_true c7
        clear c7
        by_cases c9 : x6_1 < (a1.size : Int)
        ·rw [if_pos c9] at H
         have c9b0 : decide (x6_1 < (a1.size : Int)) = true := decide_eq_true c9
         clear c9
         have H' := Aside0.mk H
         clear H
         have p8 : 0 ≤ (x6_1 : Int) := of_decide_eq_true (by assumption)
         have q8 : x6_1 < (a0.size : Int) := of_decide_eq_true (by assumption)
         have hx8 := bt_at a0 x6_1
         replace p8 := eq_true p8
         replace q8 := eq_true q8
         have p10 : 0 ≤ (x6_1 : Int) := of_decide_eq_true (by assumption)
         have q10 : x6_1 < (a1.size : Int) := of_decide_eq_true (by assumption)
         have hx10 := bt_at a1 x6_1
         replace p10 := eq_true p10
         replace q10 := eq_true q10
         go_wp2
         repeat (go_quiet (fail); try go_wp2)
         go_loopg [9, 10] kj2 (fun kq v9 v10 w' => ∃ (x9_3 : Int) (x10_3 : Int), v9 = .int .i64 x9_3 ∧ v10 = .int .i64 x10_3 ∧ Aside0 (clavigerref01_Xor.l1 kq a0 a1 x5_1 x6_1 (wrap64 (bt a0 x6_1)) (wrap64 (bt a1 x6_1)) x9_3 x10_3 = some r) ∧ Aside0 (kq ≤ kj2) ∧ Aside0 (Below w.heap.size w w'))
         case atStart => exact ⟨(0), (1), (by first | rfl | (simp; done) | (simp [*]; done)), (by first | rfl | (simp; done) | (simp [*]; done)), H', ⟨Nat.le_refl _⟩, ⟨by repeat first | with_reducible (first | exact HB.out | apply bA | apply bN | apply bD) | exact HB.out⟩⟩
         case round =>
          clear H'
          try clear c1
          try clear p1
          try clear q1
          try clear hx1
          try clear p2
          try clear c4
          try clear c4b0
          try clear c5
          try clear c6
          try clear c6b0
          try clear p6
          try clear c7
          try clear c7b0
          try clear p8
          try clear q8
          try clear hx8
          try clear c9
          try clear c9b0
          try clear p10
          try clear q10
          try clear hx10
          try clear p10
          try clear p2
          try clear p8
          try clear q10
          try clear q8
          obtain ⟨x9_3, x10_3, rfl, rfl, HA, HK3, HB⟩ := hrel
          cases gk with
          | zero => exact absurd HA.out (by simp [clavigerref01_Xor.l1])
          | succ k3 =>
           have H := HA.out
           clear HA
           simp only [clavigerref01_Xor.l1] at H
           by_cases c11 : x10_3 < 256
           ·rw [if_pos c11] at H
            have c11b0 : decide (x10_3 < 256) = true := decide_eq_true c11
            clear c11
            by_cases c12 : x10_3 = 0
            ·rw [if_pos c12] at H
             exact absurd H (by simp)
            ·rw [if_neg c12] at H
             have c12b0 : (x10_3 == 0) = false := beq_eq_false_iff_ne.mpr c12
             have c12b1 : (x10_3 != 0) = true := bne_iff_ne.mpr c12
             by_cases c13 : (Int.tmod (wrap64 (Int.tdiv (wrap64 (bt a0 x6_1)) x10_3)) 2) = (Int.tmod (wrap64 (Int.tdiv (wrap64 (bt a1 x6_1)) x10_3)) 2)
             ·rw [if_pos c13] at H
              have c13b0 : ((Int.tmod (wrap64 (Int.tdiv (wrap64 (bt a0 x6_1)) x10_3)) 2) == (Int.tmod (wrap64 (Int.tdiv (wrap64 (bt a1 x6_1)) x10_3)) 2)) = true := beq_iff_eq.mpr c13
              have c13b1 : ((Int.tmod (wrap64 (Int.tdiv (wrap64 (bt a0 x6_1)) x10_3)) 2) != (Int.tmod (wrap64 (Int.tdiv (wrap64 (bt a1 x6_1)) x10_3)) 2)) = false := bne_eq_false_iff_eq.mpr c13
              clear c13
              have H' := Aside0.mk H
              clear H
              go_wp2
              repeat (go_quiet (fail); try go_wp2)
              go_roundg k3
              case measure => have := HK1.out; have := HJ2.out; have := HK3.out; omega
              case rel => exact ⟨(x9_3), (wrap64 (2 * x10_3)), (by first | rfl | (simp; done) | (simp [*]; done)), (by first | rfl | (simp; done) | (simp [*]; done)), H', ⟨by have := HK1.out; have := HJ2.out; have := HK3.out; omega⟩, ⟨by repeat first | with_reducible (first | exact HB.out | apply bA | apply bN | apply bD) | exact HB.out⟩⟩
             ·rw [if_neg c13] at H
              have c13b0 : ((Int.tmod (wrap64 (Int.tdiv (wrap64 (bt a0 x6_1)) x10_3)) 2) == (Int.tmod (wrap64 (Int.tdiv (wrap64 (bt a1 x6_1)) x10_3)) 2)) = false := beq_eq_false_iff_ne.mpr c13
              have c13b1 : ((Int.tmod (wrap64 (Int.tdiv (wrap64 (bt a0 x6_1)) x10_3)) 2) != (Int.tmod (wrap64 (Int.tdiv (wrap64 (bt a1 x6_1)) x10_3)) 2)) = true := bne_iff_ne.mpr c13
              have H' := Aside0.mk H
              clear H
              go_wp2
              repeat (go_quiet (fail); try go_wp2)
              go_roundg k3
              case measure => have := HK1.out; have := HJ2.out; have := HK3.out; omega
              case rel => exact ⟨(wrap64 (x9_3 + x10_3)), (wrap64 (2 * x10_3)), (by first | rfl | (simp; done) | (simp [*]; done)), (by first | rfl | (simp; done) | (simp [*]; done)), H', ⟨by have := HK1.out; have := HJ2.out; have := HK3.out; omega⟩, ⟨by repeat first | with_reducible (first | exact HB.out | apply bA | apply bN | apply bD) | exact HB.out⟩⟩
           ·rw [if_neg c11] at H
            have c11b0 : decide (x10_3 < 256) = false := decide_eq_false c11
            clear c11
            obtain ⟨y1, hy1⟩ : ∃ y_ : List Int, y_ = (([(x9_3) % 256] : List Int)) := ⟨_, rfl⟩
            replace H : (if x5_1.size + (strOfNums y1).size ≤ 9223372036854775807 then (clavigerref01_Xor.l0 k3 a0 a1 (x5_1 ++ (strOfNums y1)) (wrap64 (x6_1 + 1))) else (none)) = some r := by first | (rw [hy1]; with_reducible exact H) | (have H2_ := (Option.bind_some _ _).symm.trans H; rw [hy1]; with_reducible exact H2_) | (have H2_ := (Option.bind_some _ _).symm.trans H; with_reducible exact H2_) | with_reducible exact H | (rw [hy1]; exact H) | exact H
            have Ny5001 := Aside0.mk hy1
            clear hy1
            by_cases c14 : x5_1.size + (strOfNums y1).size ≤ 9223372036854775807
            ·rw [if_pos c14] at H
             have c14b0 := eq_true c14
             have c14b1 : decide (x5_1.size + (strOfNums y1).size ≤ 9223372036854775807) = true := decide_eq_true c14
             try have c14b2 : (9223372036854775807 < x5_1.size + (strOfNums y1).size) = False := eq_false (Nat.not_lt.2 c14)
             have H' := Aside0.mk H
             clear H
             go_wp2_with (first | ((with_reducible refine gate_dst (N := 50) rfl ?_); (try (refine gate_guard (by rfl) ?_; dsimp only)); refine Kd.R_lit (Kd.int .u8) _ 5 ?hg (N := 50) ?hd (xs := ([(x9_3) % 256] : List Int)) (inner := [.int .u8 ((x9_3) % 256)]) (ok := fun _ => True) (okp := fun _ => True) ?hr ?hp (fun _ hk => hk) trivial (Below.refl _ _) (Nat.le_refl _) (by simp) ?_; (case hd => rfl); (case hg => rfl); (case hr => first | (go_simp; done) | (go_simp; rfl)); (case hp => exact (Reps.one (show Kd.M (Kd.int .u8) _ _ _ ((x9_3) % 256) [.int .u8 ((x9_3) % 256)] from rfl) (Reps.none _ _))); intro v207 w15 ho16 hb hg_ hnew_; clear hg_ hnew_; (first | rw [← Ny5001.out] at ho16 | (simp only [Int.reduceToNat] at ho16; rw [← Ny5001.out] at ho16)); have n0_ := Aside0.mk (Kd.R_lower ho16 (below_size (by repeat first | with_reducible (first | exact HB.out | apply bA | apply bN | apply bD) | exact HB.out))); have n1_ := Aside0.mk (below_step (by repeat first | with_reducible (first | exact HB.out | apply bA | apply bN | apply bD) | exact HB.out) hb); clear HB; have HO208 := n0_; have HB := n1_; clear n0_ n1_; clear hb ho16; have hcv17 := own_string (P := Try.prog) Try.underlying66 Try.underlying5 Try.underlying9 (Kd.own_of_R HO208.out)))
             repeat (go_quiet (first | ((with_reducible refine gate_dst (N := 50) rfl ?_); (try (refine gate_guard (by rfl) ?_; dsimp only)); refine Kd.R_lit (Kd.int .u8) _ 5 ?hg (N := 50) ?hd (xs := ([(x9_3) % 256] : List Int)) (inner := [.int .u8 ((x9_3) % 256)]) (ok := fun _ => True) (okp := fun _ => True) ?hr ?hp (fun _ hk => hk) trivial (Below.refl _ _) (Nat.le_refl _) (by simp) ?_; (case hd => rfl); (case hg => rfl); (case hr => first | (go_simp; done) | (go_simp; rfl)); (case hp => exact (Reps.one (show Kd.M (Kd.int .u8) _ _ _ ((x9_3) % 256) [.int .u8 ((x9_3) % 256)] from rfl) (Reps.none _ _))); intro v207 w15 ho16 hb hg_ hnew_; clear hg_ hnew_; (first | rw [← Ny5001.out] at ho16 | (simp only [Int.reduceToNat] at ho16; rw [← Ny5001.out] at ho16)); have n0_ := Aside0.mk (Kd.R_lower ho16 (below_size (by repeat first | with_reducible (first | exact HB.out | apply bA | apply bN | apply bD) | exact HB.out))); have n1_ := Aside0.mk (below_step (by repeat first | with_reducible (first | exact HB.out | apply bA | apply bN | apply bD) | exact HB.out) hb); clear HB; have HO208 := n0_; have HB := n1_; clear n0_ n1_; clear hb ho16; have hcv17 := own_string (P := Try.prog) Try.underlying66 Try.underlying5 Try.underlying9 (Kd.own_of_R HO208.out))); try go_wp2_with (first | ((with_reducible refine gate_dst (N := 50) rfl ?_); (try (refine gate_guard (by rfl) ?_; dsimp only)); refine Kd.R_lit (Kd.int .u8) _ 5 ?hg (N := 50) ?hd (xs := ([(x9_3) % 256] : List Int)) (inner := [.int .u8 ((x9_3) % 256)]) (ok := fun _ => True) (okp := fun _ => True) ?hr ?hp (fun _ hk => hk) trivial (Below.refl _ _) (Nat.le_refl _) (by simp) ?_; (case hd => rfl); (case hg => rfl); (case hr => first | (go_simp; done) | (go_simp; rfl)); (case hp => exact (Reps.one (show Kd.M (Kd.int .u8) _ _ _ ((x9_3) % 256) [.int .u8 ((x9_3) % 256)] from rfl) (Reps.none _ _))); intro v207 w15 ho16 hb hg_ hnew_; clear hg_ hnew_; (first | rw [← Ny5001.out] at ho16 | (simp only [Int.reduceToNat] at ho16; rw [← Ny5001.out] at ho16)); have n0_ := Aside0.mk (Kd.R_lower ho16 (below_size (by repeat first | with_reducible (first | exact HB.out | apply bA | apply bN | apply bD) | exact HB.out))); have n1_ := Aside0.mk (below_step (by repeat first | with_reducible (first | exact HB.out | apply bA | apply bN | apply bD) | exact HB.out) hb); clear HB; have HO208 := n0_; have HB := n1_; clear n0_ n1_; clear hb ho16; have hcv17 := own_string (P := Try.prog) Try.underlying66 Try.underlying5 Try.underlying9 (Kd.own_of_R HO208.out))))
             go_roundg k3
             case measure => have := HK1.out; have := HJ2.out; have := HK3.out; omega
             case rel => exact ⟨(x5_1 ++ (strOfNums y1)), (wrap64 (x6_1 + 1)), (by first | rfl | (simp; done) | (simp [*]; done)), (by first | rfl | (simp; done) | (simp [*]; done)), H', ⟨by have := HK1.out; have := HJ2.out; have := HK3.out; omega⟩, ⟨by repeat first | with_reducible (first | exact HB.out | apply bA | apply bN | apply bD) | exact HB.out⟩⟩
            ·rw [if_neg c14] at H
             exact absurd H (by simp)
        ·rw [if_neg c9] at H
         exact absurd H (by simp)
       ·rw [if_neg c7] at H
        exact absurd H (by simp)
      ·rw [if_neg c6] at H
       exact absurd H (by simp)
     ·replace c5 := Bool.eq_false_iff.mpr c5
      subst c5
      have H1 : (some x5_1) = some r := by rw [if_neg (show ¬ (false = true) by decide)] at H; exact H
      clear H
      have H := H1
      clear H1
      obtain rfl := Option.some.inj H
      go_wp2
      repeat (go_quiet (fail); try go_wp2)
      go_ret
      exact ⟨by first | rfl | (simp [*, errW_none, errW_some] <;> rfl), by repeat first | with_reducible (first | exact HB.out | apply bA | apply bN | apply bD) | exact HB.out⟩

end Go.Proofs.Ytokkhnjedmlbhaa.Pr
end
