-- written by the session's program wip/hp.py over the kit's print; Lean checks it
import Derived.Test.YtokkhnjedmlbhaaZPrg05
namespace Go.Proofs.Ytokkhnjedmlbhaa.Pr
open Go.RowKit Go.Proofs.YtokkhnjedmlbhaaW.PrintWords Go.Proofs.YtokkhnjedmlbhaaW.PrintLast Go.Proofs.YtokkhnjedmlbhaaW.PrintMore
attribute [local go_sem] max2_int min2_int max_two min_two max_three min_three max_four min_four   -- for this text's walks alone
set_option linter.unusedVariables false
set_option linter.unusedSimpArgs false

mutual
def clavigerref01_Xor.l0 : Nat → ByteArray → ByteArray → ByteArray → Int → Option (ByteArray)
 | 0, _, _, _, _ => none
 | k + 1, x0, x1, x5, x6 => if x6 < (x0.size : Int) then (clavigerref01_Xor.j1 k x0 x1 x5 x6 (decide (x6 < (x1.size : Int)))) else (clavigerref01_Xor.j1 k x0 x1 x5 x6 false)
def clavigerref01_Xor.j1 : Nat → ByteArray → ByteArray → ByteArray → Int → Bool → Option (ByteArray)
 | 0, _, _, _, _, _ => none
 | k + 1, x0, x1, x5, x6, x20 => if x20 = true then (if 0 ≤ x6 then (if x6 < (x0.size : Int) then (if x6 < (x1.size : Int) then (clavigerref01_Xor.l1 k x0 x1 x5 x6 (wrap64 (bt x0 x6)) (wrap64 (bt x1 x6)) 0 1) else (none)) else (none)) else (none)) else (some x5)
def clavigerref01_Xor.l1 : Nat → ByteArray → ByteArray → ByteArray → Int → Int → Int → Int → Int → Option (ByteArray)
 | 0, _, _, _, _, _, _, _, _ => none
 | k + 1, x0, x1, x5, x6, x7, x8, x9, x10 => if x10 < 256 then (if x10 = 0 then (none) else (if (Int.tmod (wrap64 (Int.tdiv x7 x10)) 2) = (Int.tmod (wrap64 (Int.tdiv x8 x10)) 2) then (clavigerref01_Xor.l1 k x0 x1 x5 x6 x7 x8 x9 (wrap64 (2 * x10))) else (clavigerref01_Xor.l1 k x0 x1 x5 x6 x7 x8 (wrap64 (x9 + x10)) (wrap64 (2 * x10))))) else ((some (([(x9) % 256] : List Int) : List Int)).bind fun y1 => (if x5.size + (strOfNums y1).size ≤ 9223372036854775807 then (clavigerref01_Xor.l0 k x0 x1 (x5 ++ (strOfNums y1)) (wrap64 (x6 + 1))) else (none)))
end
def clavigerref01_Xor.f (k : Nat) (a0 : ByteArray) (a1 : ByteArray) : Option (ByteArray) := clavigerref01_Xor.l0 k a0 a1 (⟨#[]⟩ : ByteArray) 0
theorem clavigerref01_Xor.mono_l : ∀ k, (∀ y2 y3 y4 y5, LeO (clavigerref01_Xor.l0 k y2 y3 y4 y5) (clavigerref01_Xor.l0 (k + 1) y2 y3 y4 y5)) ∧ (∀ y2 y3 y4 y5 y6, LeO (clavigerref01_Xor.j1 k y2 y3 y4 y5 y6) (clavigerref01_Xor.j1 (k + 1) y2 y3 y4 y5 y6)) ∧ (∀ y2 y3 y4 y5 y6 y7 y8 y9, LeO (clavigerref01_Xor.l1 k y2 y3 y4 y5 y6 y7 y8 y9) (clavigerref01_Xor.l1 (k + 1) y2 y3 y4 y5 y6 y7 y8 y9))
 | 0 => ⟨fun _ _ _ _ r h => by simp [clavigerref01_Xor.l0] at h, fun _ _ _ _ _ r h => by simp [clavigerref01_Xor.j1] at h, fun _ _ _ _ _ _ _ _ r h => by simp [clavigerref01_Xor.l1] at h⟩
 | k + 1 => by
  obtain ⟨ih0, ih1, ih2⟩ := clavigerref01_Xor.mono_l k
  refine ⟨?_, ?_, ?_⟩
  ·intro y2 y3 y4 y5
   unfold clavigerref01_Xor.l0
   repeat' first
   | (with_reducible exact ih0 _ _ _ _)
   | (with_reducible exact ih1 _ _ _ _ _)
   | (with_reducible exact ih2 _ _ _ _ _ _ _ _)
   | (with_reducible exact LeO.refl _)
   | (with_reducible exact LeO.none _)
   | (with_reducible refine LeO.ite ?_ ?_)
   | (with_reducible refine LeO.bind ?_ (fun _ => ?_))
  ·intro y2 y3 y4 y5 y6
   unfold clavigerref01_Xor.j1
   repeat' first
   | (with_reducible exact ih0 _ _ _ _)
   | (with_reducible exact ih1 _ _ _ _ _)
   | (with_reducible exact ih2 _ _ _ _ _ _ _ _)
   | (with_reducible exact LeO.refl _)
   | (with_reducible exact LeO.none _)
   | (with_reducible refine LeO.ite ?_ ?_)
   | (with_reducible refine LeO.bind ?_ (fun _ => ?_))
  ·intro y2 y3 y4 y5 y6 y7 y8 y9
   unfold clavigerref01_Xor.l1
   repeat' first
   | (with_reducible exact ih0 _ _ _ _)
   | (with_reducible exact ih1 _ _ _ _ _)
   | (with_reducible exact ih2 _ _ _ _ _ _ _ _)
   | (with_reducible exact LeO.refl _)
   | (with_reducible exact LeO.none _)
   | (with_reducible refine LeO.ite ?_ ?_)
   | (with_reducible refine LeO.bind ?_ (fun _ => ?_))
theorem clavigerref01_Xor.mono : ∀ a0 a1 k, LeO (clavigerref01_Xor.f k a0 a1) (clavigerref01_Xor.f (k + 1) a0 a1) := by
 intro a0 a1 k
 obtain ⟨ih0, ih1, ih2⟩ := clavigerref01_Xor.mono_l k
 unfold clavigerref01_Xor.f
 repeat' first
   | (with_reducible exact ih0 _ _ _ _)
   | (with_reducible exact ih1 _ _ _ _ _)
   | (with_reducible exact ih2 _ _ _ _ _ _ _ _)
   | (with_reducible exact LeO.refl _)
   | (with_reducible exact LeO.none _)
   | (with_reducible refine LeO.ite ?_ ?_)
   | (with_reducible refine LeO.bind ?_ (fun _ => ?_))
set_option maxHeartbeats 8000000 in
set_option maxRecDepth 100000 in
theorem clavigerref01_Xor.calls (k : Nat) (a0 : ByteArray) (a1 : ByteArray) (r : ByteArray) (w : World) (h : clavigerref01_Xor.f k a0 a1 = some r) :
  Calls Try.prog 178 #[.string a0, .string a1] w fun e w' => e = .returned (.string r) ∧ Below w.heap.size w w' := by
 have HB := Aside0.mk (Below.refl w.heap.size w)
 have H : (clavigerref01_Xor.l0 k a0 a1 (⟨#[]⟩ : ByteArray) 0) = some r := h
 clear h
 have H' := Aside0.mk H
 clear H
 go_enter Try.func178, Try.ntmps178
 go_wp2
 repeat (go_quiet (fail); try go_wp2)
 go_loopg [5, 6] k (fun kq v5 v6 w' => ∃ (x5_1 : ByteArray) (x6_1 : Int), v5 = .string x5_1 ∧ v6 = .int .i64 x6_1 ∧ Aside0 (clavigerref01_Xor.l0 kq a0 a1 x5_1 x6_1 = some r) ∧ Aside0 (kq ≤ k) ∧ Aside0 (Below w.heap.size w w'))
 case atStart => exact ⟨((⟨#[]⟩ : ByteArray)), (0), (by first | rfl | (simp; done) | (simp [*]; done)), (by first | rfl | (simp; done) | (simp [*]; done)), H', ⟨Nat.le_refl _⟩, ⟨by repeat first | with_reducible (first | exact HB.out | apply bA | apply bN | apply bD) | exact HB.out⟩⟩
 case round =>
  clear H'
  try clear c1
  try clear p2
  obtain ⟨x5_1, x6_1, rfl, rfl, HA, HK1, HB⟩ := hrel
  cases gk with
  | zero => exact absurd HA.out (by simp [clavigerref01_Xor.l0])
  | succ k1 =>
   have H := HA.out
   clear HA
   simp only [clavigerref01_Xor.l0] at H
   have HC3 := Aside0.mk H
   clear H
   go_upto_region 3 with (fail)
   repeat (go_quiet (fail); go_upto_region 3 with (fail))
   go_cut [20] (fun v20 wc => ∃ (kq : Nat) (x20_2 : Bool), v20 = .bool x20_2 ∧ Aside0 (clavigerref01_Xor.j1 kq a0 a1 x5_1 x6_1 x20_2 = some r) ∧ Aside0 (kq ≤ k1) ∧ Aside0 (Below w.heap.size w wc))
   case first =>
    have H := HC3.out
    clear HC3
    by_cases c4 : x6_1 < (a0.size : Int)
    ·rw [if_pos c4] at H
     have c4b0 : decide (x6_1 < (a0.size : Int)) = true := decide_eq_true c4
     clear c4
     (first | rw [c4b0] | (simp only [i64_w, i32_w]; rw [c4b0]) | skip)
     have H' := Aside0.mk H
     clear H
     go_wp2
     repeat (go_quiet (fail); try go_wp2)
     go_meet
     case rel => exact ⟨_, (decide (x6_1 < (a1.size : Int))), (by first | rfl | (simp; done) | (simp [*]; done)), H', ⟨by have := HK1.out; first | omega | exact Nat.le_refl _⟩, ⟨by repeat first | with_reducible (first | exact HB.out | apply bA | apply bN | apply bD) | exact HB.out⟩⟩
    ·rw [if_neg c4] at H
     have c4b0 : decide (x6_1 < (a0.size : Int)) = false := decide_eq_false c4
     clear c4
     (first | rw [c4b0] | (simp only [i64_w, i32_w]; rw [c4b0]) | skip)
     have H' := Aside0.mk H
     clear H
     go_wp2
     repeat (go_quiet (fail); try go_wp2)
     go_meet
     case rel => exact ⟨_, (false), (by first | rfl | (simp; done) | (simp [*]; done)), H', ⟨by have := HK1.out; first | omega | exact Nat.le_refl _⟩, ⟨by repeat first | with_reducible (first | exact HB.out | apply bA | apply bN | apply bD) | exact HB.out⟩⟩
   case rest =>
    clear HC3
    try clear c1
    try clear p2
    try clear c4
    try clear c4b0
    try clear p2
    obtain ⟨kq, x20_2, rfl, HA, HJ2, HB⟩ := hcut
    cases kq with
    | zero => exact absurd HA.out (by simp [clavigerref01_Xor.j1])
    | succ kj2 =>
     have H := HA.out
     clear HA
     simp only [clavigerref01_Xor.j1] at H
     by_cases c5 : x20_2 = true
     ·subst c5
      have H1 : (if 0 ≤ x6_1 then (if x6_1 < (a0.size : Int) then (if x6_1 < (a1.size : Int) then (clavigerref01_Xor.l1 kj2 a0 a1 x5_1 x6_1 (wrap64 (bt a0 x6_1)) (wrap64 (bt a1 x6_1)) 0 1) else (none)) else (none)) else (none)) = some r := by rw [if_pos rfl] at H; exact H
      clear H
      have H := H1
      clear H1
      by_cases c6 : 0 ≤ x6_1
      ·rw [if_pos c6] at H
       have c6b0 : decide (0 ≤ x6_1) = true := decide_eq_true c6
       clear c6
       by_cases c7 : x6_1 < (a0.size : Int)
       ·rw [if_pos c7] at H
        have c7b0 : decide (x6_1 < (a0.size : Int)) = true := decide_eq_true c7
        clear c7
        by_cases c9 : x6_1 < (a1.size : Int)
        ·rw [if_pos c9] at H
         have c9b0 : decide (x6_1 < (a1.size : Int)) = true := decide_eq_true c9
         clear c9
         have H' := Aside0.mk H
         clear H
         have p8 : 0 ≤ (x6_1 : Int) := of_decide_eq_true (by assumption)
         have q8 : x6_1 < (a0.size : Int) := of_decide_eq_true (by assumption)
         have hx8 := bt_at a0 x6_1
         replace p8 := eq_true p8
         replace q8 := eq_true q8
         have p10 : 0 ≤ (x6_1 : Int) := of_decide_eq_true (by assumption)
         have q10 : x6_1 < (a1.size : Int) := of_decide_eq_true (by assumption)
         have hx10 := bt_at a1 x6_1
         replace p10 := eq_true p10
         replace q10 := eq_true q10
         go_wp2
         repeat (go_quiet (fail); try go_wp2)
         go_loopg [9, 10] kj2 (fun kq v9 v10 w' => ∃ (x9_3 : Int) (x10_3 : Int), v9 = .int .i64 x9_3 ∧ v10 = .int .i64 x10_3 ∧ Aside0 (clavigerref01_Xor.l1 kq a0 a1 x5_1 x6_1 (wrap64 (bt a0 x6_1)) (wrap64 (bt a1 x6_1)) x9_3 x10_3 = some r) ∧ Aside0 (kq ≤ kj2) ∧ Aside0 (Below w.heap.size w w'))
         case atStart => exact ⟨(0), (1), (by first | rfl | (simp; done) | (simp [*]; done)), (by first | rfl | (simp; done) | (simp [*]; done)), H', ⟨Nat.le_refl _⟩, ⟨by repeat first | with_reducible (first | exact HB.out | apply bA | apply bN | apply bD) | exact HB.out⟩⟩
         case round =>
          clear H'
          try clear c1
          try clear p1
          try clear q1
          try clear hx1
          try clear p2
          try clear c4
          try clear c4b0
          try clear c5
          try clear c6
          try clear c6b0
          try clear p6
          try clear c7
          try clear c7b0
          try clear p8
          try clear q8
          try clear hx8
          try clear c9
          try clear c9b0
          try clear p10
          try clear q10
          try clear hx10
          try clear p10
          try clear p2
          try clear p8
          try clear q10
          try clear q8
          obtain ⟨x9_3, x10_3, rfl, rfl, HA, HK3, HB⟩ := hrel
          cases gk with
          | zero => exact absurd HA.out (by simp [clavigerref01_Xor.l1])
          | succ k3 =>
           have H := HA.out
           clear HA
           simp only [clavigerref01_Xor.l1] at H
           by_cases c11 : x10_3 < 256
           ·rw [if_pos c11] at H
            have c11b0 : decide (x10_3 < 256) = true := decide_eq_true c11
            clear c11
            by_cases c12 : x10_3 = 0
            ·rw [if_pos c12] at H
             exact absurd H (by simp)
            ·rw [if_neg c12] at H
             have c12b0 : (x10_3 == 0) = false := beq_eq_false_iff_ne.mpr c12
             have c12b1 : (x10_3 != 0) = true := bne_iff_ne.mpr c12
             by_cases c13 : (Int.tmod (wrap64 (Int.tdiv (wrap64 (bt a0 x6_1)) x10_3)) 2) = (Int.tmod (wrap64 (Int.tdiv (wrap64 (bt a1 x6_1)) x10_3)) 2)
             ·rw [if_pos c13] at H
              have c13b0 : ((Int.tmod (wrap64 (Int.tdiv (wrap64 (bt a0 x6_1)) x10_3)) 2) == (Int.tmod (wrap64 (Int.tdiv (wrap64 (bt a1 x6_1)) x10_3)) 2)) = true := beq_iff_eq.mpr c13
              have c13b1 : ((Int.tmod (wrap64 (Int.tdiv (wrap64 (bt a0 x6_1)) x10_3)) 2) != (Int.tmod (wrap64 (Int.tdiv (wrap64 (bt a1 x6_1)) x10_3)) 2)) = false := bne_eq_false_iff_eq.mpr c13
              clear c13
              have H' := Aside0.mk H
              clear H
              go_wp2
              repeat (go_quiet (fail); try go_wp2)
              go_roundg k3
              case measure => have := HK1.out; have := HJ2.out; have := HK3.out; omega
              case rel => exact ⟨(x9_3), (wrap64 (2 * x10_3)), (by first | rfl | (simp; done) | (simp [*]; done)), (by first | rfl | (simp; done) | (simp [*]; done)), H', ⟨by have := HK1.out; have := HJ2.out; have := HK3.out; omega⟩, ⟨by repeat first | with_reducible (first | exact HB.out | apply bA | apply bN | apply bD) | exact HB.out⟩⟩
             ·rw [if_neg c13] at H
              have c13b0 : ((Int.tmod (wrap64 (Int.tdiv (wrap64 (bt a0 x6_1)) x10_3)) 2) == (Int.tmod (wrap64 (Int.tdiv (wrap64 (bt a1 x6_1)) x10_3)) 2)) = false := beq_eq_false_iff_ne.mpr c13
              have c13b1 : ((Int.tmod (wrap64 (Int.tdiv (wrap64 (bt a0 x6_1)) x10_3)) 2) != (Int.tmod (wrap64 (Int.tdiv (wrap64 (bt a1 x6_1)) x10_3)) 2)) = true := bne_iff_ne.mpr c13
              have H' := Aside0.mk H
              clear H
              go_wp2
              repeat (go_quiet (fail); try go_wp2)
              go_roundg k3
              case measure => have := HK1.out; have := HJ2.out; have := HK3.out; omega
              case rel => exact ⟨(wrap64 (x9_3 + x10_3)), (wrap64 (2 * x10_3)), (by first | rfl | (simp; done) | (simp [*]; done)), (by first | rfl | (simp; done) | (simp [*]; done)), H', ⟨by have := HK1.out; have := HJ2.out; have := HK3.out; omega⟩, ⟨by repeat first | with_reducible (first | exact HB.out | apply bA | apply bN | apply bD) | exact HB.out⟩⟩
           ·rw [if_neg c11] at H
            have c11b0 : decide (x10_3 < 256) = false := decide_eq_false c11
            clear c11
            obtain ⟨y1, hy1⟩ : ∃ y_ : List Int, y_ = (([(x9_3) % 256] : List Int)) := ⟨_, rfl⟩
            replace H : (if x5_1.size + (strOfNums y1).size ≤ 9223372036854775807 then (clavigerref01_Xor.l0 k3 a0 a1 (x5_1 ++ (strOfNums y1)) (wrap64 (x6_1 + 1))) else (none)) = some r := by first | (rw [hy1]; with_reducible exact H) | (have H2_ := (Option.bind_some _ _).symm.trans H; rw [hy1]; with_reducible exact H2_) | (have H2_ := (Option.bind_some _ _).symm.trans H; with_reducible exact H2_) | with_reducible exact H | (rw [hy1]; exact H) | exact H
            have Ny5001 := Aside0.mk hy1
            clear hy1
            by_cases c14 : x5_1.size + (strOfNums y1).size ≤ 9223372036854775807
            ·rw [if_pos c14] at H
             have c14b0 := eq_true c14
             have c14b1 : decide (x5_1.size + (strOfNums y1).size ≤ 9223372036854775807) = true := decide_eq_true c14
             try have c14b2 : (9223372036854775807 < x5_1.size + (strOfNums y1).size) = False := eq_false (Nat.not_lt.2 c14)
             have H' := Aside0.mk H
             clear H
             go_wp2_with (first | ((with_reducible refine gate_dst (N := 50) rfl ?_); (try (refine gate_guard (by rfl) ?_; dsimp only)); refine Kd.R_lit (Kd.int .u8) _ 5 ?hg (N := 50) ?hd (xs := ([(x9_3) % 256] : List Int)) (inner := [.int .u8 ((x9_3) % 256)]) (ok := fun _ => True) (okp := fun _ => True) ?hr ?hp (fun _ hk => hk) trivial (Below.refl _ _) (Nat.le_refl _) (by simp) ?_; (case hd => rfl); (case hg => rfl); (case hr => first | (go_simp; done) | (go_simp; rfl)); (case hp => exact (Reps.one (show Kd.M (Kd.int .u8) _ _ _ ((x9_3) % 256) [.int .u8 ((x9_3) % 256)] from rfl) (Reps.none _ _))); intro v207 w15 ho16 hb hg_ hnew_; clear hg_ hnew_; (first | rw [← Ny5001.out] at ho16 | (simp only [Int.reduceToNat] at ho16; rw [← Ny5001.out] at ho16)); have n0_ := Aside0.mk (Kd.R_lower ho16 (below_size (by repeat first | with_reducible (first | exact HB.out | apply bA | apply bN | apply bD) | exact HB.out))); have n1_ := Aside0.mk (below_step (by repeat first | with_reducible (first | exact HB.out | apply bA | apply bN | apply bD) | exact HB.out) hb); clear HB; have HO208 := n0_; have HB := n1_; clear n0_ n1_; clear hb ho16; have hcv17 := own_string (P := Try.prog) Try.underlying66 Try.underlying5 Try.underlying9 (Kd.own_of_R HO208.out)))
             repeat (go_quiet (first | ((with_reducible refine gate_dst (N := 50) rfl ?_); (try (refine gate_guard (by rfl) ?_; dsimp only)); refine Kd.R_lit (Kd.int .u8) _ 5 ?hg (N := 50) ?hd (xs := ([(x9_3) % 256] : List Int)) (inner := [.int .u8 ((x9_3) % 256)]) (ok := fun _ => True) (okp := fun _ => True) ?hr ?hp (fun _ hk => hk) trivial (Below.refl _ _) (Nat.le_refl _) (by simp) ?_; (case hd => rfl); (case hg => rfl); (case hr => first | (go_simp; done) | (go_simp; rfl)); (case hp => exact (Reps.one (show Kd.M (Kd.int .u8) _ _ _ ((x9_3) % 256) [.int .u8 ((x9_3) % 256)] from rfl) (Reps.none _ _))); intro v207 w15 ho16 hb hg_ hnew_; clear hg_ hnew_; (first | rw [← Ny5001.out] at ho16 | (simp only [Int.reduceToNat] at ho16; rw [← Ny5001.out] at ho16)); have n0_ := Aside0.mk (Kd.R_lower ho16 (below_size (by repeat first | with_reducible (first | exact HB.out | apply bA | apply bN | apply bD) | exact HB.out))); have n1_ := Aside0.mk (below_step (by repeat first | with_reducible (first | exact HB.out | apply bA | apply bN | apply bD) | exact HB.out) hb); clear HB; have HO208 := n0_; have HB := n1_; clear n0_ n1_; clear hb ho16; have hcv17 := own_string (P := Try.prog) Try.underlying66 Try.underlying5 Try.underlying9 (Kd.own_of_R HO208.out))); try go_wp2_with (first | ((with_reducible refine gate_dst (N := 50) rfl ?_); (try (refine gate_guard (by rfl) ?_; dsimp only)); refine Kd.R_lit (Kd.int .u8) _ 5 ?hg (N := 50) ?hd (xs := ([(x9_3) % 256] : List Int)) (inner := [.int .u8 ((x9_3) % 256)]) (ok := fun _ => True) (okp := fun _ => True) ?hr ?hp (fun _ hk => hk) trivial (Below.refl _ _) (Nat.le_refl _) (by simp) ?_; (case hd => rfl); (case hg => rfl); (case hr => first | (go_simp; done) | (go_simp; rfl)); (case hp => exact (Reps.one (show Kd.M (Kd.int .u8) _ _ _ ((x9_3) % 256) [.int .u8 ((x9_3) % 256)] from rfl) (Reps.none _ _))); intro v207 w15 ho16 hb hg_ hnew_; clear hg_ hnew_; (first | rw [← Ny5001.out] at ho16 | (simp only [Int.reduceToNat] at ho16; rw [← Ny5001.out] at ho16)); have n0_ := Aside0.mk (Kd.R_lower ho16 (below_size (by repeat first | with_reducible (first | exact HB.out | apply bA | apply bN | apply bD) | exact HB.out))); have n1_ := Aside0.mk (below_step (by repeat first | with_reducible (first | exact HB.out | apply bA | apply bN | apply bD) | exact HB.out) hb); clear HB; have HO208 := n0_; have HB := n1_; clear n0_ n1_; clear hb ho16; have hcv17 := own_string (P := Try.prog) Try.underlying66 Try.underlying5 Try.underlying9 (Kd.own_of_R HO208.out))))
             go_roundg k3
             case measure => have := HK1.out; have := HJ2.out; have := HK3.out; omega
             case rel => exact ⟨(x5_1 ++ (strOfNums y1)), (wrap64 (x6_1 + 1)), (by first | rfl | (simp; done) | (simp [*]; done)), (by first | rfl | (simp; done) | (simp [*]; done)), H', ⟨by have := HK1.out; have := HJ2.out; have := HK3.out; omega⟩, ⟨by repeat first | with_reducible (first | exact HB.out | apply bA | apply bN | apply bD) | exact HB.out⟩⟩
            ·rw [if_neg c14] at H
             exact absurd H (by simp)
        ·rw [if_neg c9] at H
         exact absurd H (by simp)
       ·rw [if_neg c7] at H
        exact absurd H (by simp)
      ·rw [if_neg c6] at H
       exact absurd H (by simp)
     ·replace c5 := Bool.eq_false_iff.mpr c5
      subst c5
      have H1 : (some x5_1) = some r := by rw [if_neg (show ¬ (false = true) by decide)] at H; exact H
      clear H
      have H := H1
      clear H1
      obtain rfl := Option.some.inj H
      go_wp2
      repeat (go_quiet (fail); try go_wp2)
      go_ret
      exact ⟨by first | rfl | (simp [*, errW_none, errW_some] <;> rfl), by repeat first | with_reducible (first | exact HB.out | apply bA | apply bN | apply bD) | exact HB.out⟩

end Go.Proofs.Ytokkhnjedmlbhaa.Pr
