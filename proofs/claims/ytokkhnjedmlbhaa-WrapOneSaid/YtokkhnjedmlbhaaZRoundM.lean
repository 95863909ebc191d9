-- several texts in one (by the session's program shake.py)
import Derived.Test.YtokkhnjedmlbhaaZPrg01x
import Derived.Test.YtokkhnjedmlbhaaZPrg05
import Derived.Test.YtokkhnjedmlbhaaZPrg08
import Derived.Test.YtokkhnjedmlbhaaZPut
import Derived.Test.YtokkhnjedmlbhaaZJoin
import Derived.Test.YtokkhnjedmlbhaaZSubW
import Derived.Test.YtokkhnjedmlbhaaZSboxR
import Derived.Test.YtokkhnjedmlbhaaZPrg07r
section
namespace Go.Proofs.Ytokkhnjedmlbhaa.Pr
open Go.RowKit Go.Proofs.YtokkhnjedmlbhaaW.PrintWords Go.Proofs.YtokkhnjedmlbhaaW.PrintLast Go.Proofs.YtokkhnjedmlbhaaW.PrintMore
attribute [local go_sem] max2_int min2_int max_two min_two max_three min_three max_four min_four   -- for this text's walks alone
set_option linter.unusedVariables false
set_option linter.unusedSimpArgs false

def sched_Words.l0 : Nat → List ByteArray → List Int → Int → Int → Option (List ByteArray)
 | 0, _, _, _, _ => none
 | k + 1, x3, x7, x8, x9 => if x9 < x8 then (if 0 ≤ x9 then (if x9 < (x7.length : Int) then ((octets_Put.f (IntKind.u64.wrap (rd x7 x9)) 4).bind fun t1 => (if x3.length < 8796093022208 then (sched_Words.l0 k (x3 ++ [t1]) x7 x8 (wrap64 (x9 + 1))) else (none))) else (none)) else (none)) else (some x3)
def sched_Words.f (k : Nat) (a0 : ByteArray) : Option (List ByteArray) := (sched_expand.f k a0).bind fun t2 => (sched_Words.l0 k ([] : List ByteArray) t2 (t2.length : Int) 0)
theorem sched_Words.mono_l : ∀ k, (∀ y3 y4 y5 y6, LeO (sched_Words.l0 k y3 y4 y5 y6) (sched_Words.l0 (k + 1) y3 y4 y5 y6))
 | 0 => fun _ _ _ _ r h => by simp [sched_Words.l0] at h
 | k + 1 => by
  have ih0 := sched_Words.mono_l k
  ·intro y3 y4 y5 y6
   unfold sched_Words.l0
   repeat' first
   | (with_reducible exact ih0 _ _ _ _)
   | (with_reducible exact sched_expand.mono _ _)
   | (with_reducible exact LeO.refl _)
   | (with_reducible exact LeO.none _)
   | (with_reducible refine LeO.ite ?_ ?_)
   | (with_reducible refine LeO.bind ?_ (fun _ => ?_))
theorem sched_Words.mono : ∀ a0 k, LeO (sched_Words.f k a0) (sched_Words.f (k + 1) a0) := by
 intro a0 k
 have ih0 := sched_Words.mono_l k
 unfold sched_Words.f
 repeat' first
   | (with_reducible exact ih0 _ _ _ _)
   | (with_reducible exact sched_expand.mono _ _)
   | (with_reducible exact LeO.refl _)
   | (with_reducible exact LeO.none _)
   | (with_reducible refine LeO.ite ?_ ?_)
   | (with_reducible refine LeO.bind ?_ (fun _ => ?_))
set_option maxHeartbeats 8000000 in
set_option maxRecDepth 100000 in
theorem sched_Words.calls (k : Nat) (a0 : ByteArray) (r : List ByteArray) (w : World) (h : sched_Words.f k a0 = some r) :
  Calls Try.prog 95 #[.string a0] w fun e w' => ∃ v0_ : Value, e = .returned (v0_) ∧ Kd.R Kd.string 9 w' w.heap.size (fun _ => True) v0_ r ∧ Below w.heap.size w w' := by
 have HB := Aside0.mk (Below.refl w.heap.size w)
 have H : ((sched_expand.f k a0).bind fun t2 => (sched_Words.l0 k ([] : List ByteArray) t2 (t2.length : Int) 0)) = some r := h
 clear h
 replace H := Option.bind_eq_some_iff.mp H
 obtain ⟨t2, A20, H⟩ := H
 try dsimp only at H
 have A2 := Aside0.mk A20
 clear A20
 have H' := Aside0.mk H
 clear H
 go_enter Try.func95, Try.ntmps95
 go_wp2_with (first | ((with_reducible refine gate_callee (f := 188) rfl ?_); refine goesL_ (some 7) rfl rfl Try.func188 (by kernel_rfl) rfl #[.string a0] rfl (by (try simp only [lT, lC, lN]); first | done | rfl) ?_; (with_reducible refine (sched_expand.calls k a0 t2 _ A2.out).mono ?_); rintro e w3 ⟨v348, rfl, ho0, hb⟩; refine ⟨_, rfl, ?_⟩; have n0_ := Aside0.mk (Kd.R_lower ho0 (below_size (by repeat first | with_reducible (first | exact HB.out | apply bA | apply bN | apply bD) | exact HB.out))); have n1_ := Aside0.mk (below_step (by repeat first | with_reducible (first | exact HB.out | apply bA | apply bN | apply bD) | exact HB.out) hb); clear HB; have HO349 := n0_; have HB := n1_; clear n0_ n1_; (try clear hb); (try clear hb2); (try clear hk); (try clear hi); (try clear ho0); obtain ⟨Ao4, co4, eo4⟩ := Kd.R_slice HO349.out; subst eo4))
 go_loopg [3, 9] k (fun kq v3 v9 w' => ∃ (x3_1 : List ByteArray) (x9_1 : Int), v9 = .int .i64 x9_1 ∧ Aside0 (sched_Words.l0 kq x3_1 t2 (t2.length : Int) x9_1 = some r) ∧ Aside0 (kq ≤ k) ∧ Aside0 (Kd.R Kd.string 9 w' w.heap.size (fun _ => True) v3 x3_1) ∧ Aside0 (Kd.R (Kd.int .u32) 102 w' w.heap.size (fun _ => True) (.slice Ao4 t2.length co4) t2) ∧ Aside0 (Below w.heap.size w w'))
 case atStart => exact ⟨(([] : List ByteArray)), (0), (by first | rfl | (simp; done) | (simp [*]; done)), H', ⟨Nat.le_refl _⟩, ⟨by first | exact Kd.R_nil _ _ _ _ _ | exact Kd.N_nil _ _ _ _ _ | exact Kd.V_nil _ _ _ _ _ | exact Kd.Q_nil _ _ _ _ _ | exact Kd.S_nil _ _ _ _ _⟩, ⟨by (with_reducible repeat (first | apply Kd.R_alloc | apply Kd.R_drewN | apply Kd.R_drew)); exact HO349.out⟩, ⟨by repeat first | with_reducible (first | exact HB.out | apply bA | apply bN | apply bD) | exact HB.out⟩⟩
 case round =>
  clear H'
  try clear c1
  try clear p2
  obtain ⟨x3_1, x9_1, rfl, HA, HK1, HO_3, HO_7, HB⟩ := hrel
  cases gk with
  | zero => exact absurd HA.out (by simp [sched_Words.l0])
  | succ k1 =>
   have H := HA.out
   clear HA
   simp only [sched_Words.l0] at H
   by_cases c5 : x9_1 < (t2.length : Int)
   ·rw [if_pos c5] at H
    have c5b0 : decide (x9_1 < (t2.length : Int)) = true := decide_eq_true c5
    clear c5
    by_cases c6 : 0 ≤ x9_1
    ·rw [if_pos c6] at H
     have c6b0 : decide (0 ≤ x9_1) = true := decide_eq_true c6
     clear c6
     by_cases c7 : x9_1 < (t2.length : Int)
     ·rw [if_pos c7] at H
      have c7b0 : decide (x9_1 < (t2.length : Int)) = true := decide_eq_true c7
      clear c7
      replace H := Option.bind_eq_some_iff.mp H
      obtain ⟨t1, A80, H⟩ := H
      try dsimp only at H
      have A8 := Aside0.mk A80
      clear A80
      by_cases c9 : x3_1.length < 8796093022208
      ·rw [if_pos c9] at H
       have LMc9 := Aside0.mk c9
       clear c9
       obtain ⟨y7, hy7⟩ : ∃ y_ : List ByteArray, y_ = (x3_1 ++ [t1]) := ⟨_, rfl⟩
       replace H : (sched_Words.l0 k1 y7 t2 (t2.length : Int) (wrap64 (x9_1 + 1))) = some r := by first | (rw [hy7]; with_reducible exact H) | (have H2_ := (Option.bind_some _ _).symm.trans H; rw [hy7]; with_reducible exact H2_) | (have H2_ := (Option.bind_some _ _).symm.trans H; with_reducible exact H2_) | with_reducible exact H | (rw [hy7]; exact H) | exact H
       have Ny5001 := Aside0.mk hy7
       clear hy7
       have H' := Aside0.mk H
       clear H
       have p5002 : 0 ≤ (x9_1 : Int) := of_decide_eq_true (by assumption)
       have q5002 : x9_1 < (t2.length : Int) := of_decide_eq_true (by assumption)
       obtain ⟨ad5002, e5002, hx5002_0⟩ := Kd.at_int (Kd.R_reads' HO_7.out).2.2 x9_1 p5002 q5002
       cases e5002
       replace p5002 := eq_true p5002
       replace q5002 := eq_true q5002
       go_wp2_with (first | ((with_reducible refine gate_callee (f := 189) rfl ?_); refine goesL_ (some 16) rfl rfl Try.func189 (by kernel_rfl) rfl #[.int .u64 (IntKind.u64.wrap (rd t2 x9_1)), .int .i64 4] rfl (by (try simp only [lT, lC, lN]); first | done | rfl) ?_; (with_reducible refine (octets_Put.calls (IntKind.u64.wrap (rd t2 x9_1)) 4 t1 _ A8.out).mono ?_); rintro e w10 ⟨rfl, hb⟩; refine ⟨_, rfl, ?_⟩; have n0_ := Aside0.mk (Kd.R_below (by (with_reducible repeat (first | apply Kd.R_alloc | apply Kd.R_drewN | apply Kd.R_drew)); exact HO_3.out) hb); have n1_ := Aside0.mk (Kd.R_below (by (with_reducible repeat (first | apply Kd.R_alloc | apply Kd.R_drewN | apply Kd.R_drew)); exact HO_7.out) hb); have n2_ := Aside0.mk (below_step (by repeat first | with_reducible (first | exact HB.out | apply bA | apply bN | apply bD) | exact HB.out) hb); clear HO_3; clear HO_7; clear HB; have HO_3 := n0_; have HO_7 := n1_; have HB := n2_; clear n0_ n1_ n2_; (try clear hb); (try clear hb2); (try clear hk); (try clear hi)) | ((with_reducible refine gate_builtin (b := .append) (xs := #[.tmp 13, .tmp 17]) rfl ?_); at_builtin; refine Kd.R_append Kd.string (w0 := w) w.heap.size rfl (.tmp 13) (.tmp 17) 49 9 (.string ⟨#[]⟩) 16 rfl Try.underlying49 info9 rfl (by decide) (by omega) u3 x3_1 t1 [.string t1] (fun _ => True) (fun _ => False) rfl rfl ?aP (fun _ hk => hk.elim) ?aF ?aO ?aB ?aS ?aL ?_; (case aP => exact rfl); (case aB => exact (by repeat first | with_reducible (first | exact HB.out | apply bA | apply bN | apply bD) | exact HB.out)); (case aF => exact (fun _ _ => trivial)); (case aO => exact (by (with_reducible repeat (first | apply Kd.R_alloc | apply Kd.R_drewN | apply Kd.R_drew)); exact HO_3.out)); (case aS => exact (below_size (by repeat first | with_reducible (first | exact HB.out | apply bA | apply bN | apply bD) | exact HB.out))); (case aL => have := LMc9.out; omega); intro v353 w11 ho hb hg hat; rw [← Ny5001.out] at ho; have n0_ := Aside0.mk (Kd.R_over' (by (with_reducible repeat (first | apply Kd.R_alloc | apply Kd.R_drewN | apply Kd.R_drew)); exact HO_7.out) (Kd.R_typed (by (with_reducible repeat (first | apply Kd.R_alloc | apply Kd.R_drewN | apply Kd.R_drew)); exact HO_3.out)) (by decide) hg); have n1_ := Aside0.mk (hb); have n2_ := Aside0.mk (ho); clear HO_7; clear HB; clear HO_3; have HO_7 := n0_; have HB := n1_; have HO354 := n2_; clear n0_ n1_ n2_; clear ho hb hg hat))
       go_roundg k1
       case measure => have := HK1.out; omega
       case rel => exact ⟨(y7), (wrap64 (x9_1 + 1)), (by first | rfl | (simp; done) | (simp [*]; done)), H', ⟨by have := HK1.out; omega⟩, ⟨by (with_reducible repeat (first | apply Kd.R_alloc | apply Kd.R_drewN | apply Kd.R_drew)); exact HO354.out⟩, ⟨by (with_reducible repeat (first | apply Kd.R_alloc | apply Kd.R_drewN | apply Kd.R_drew)); exact HO_7.out⟩, ⟨by repeat first | with_reducible (first | exact HB.out | apply bA | apply bN | apply bD) | exact HB.out⟩⟩
      ·rw [if_neg c9] at H
       exact absurd H (by simp)
     ·rw [if_neg c7] at H
      exact absurd H (by simp)
    ·rw [if_neg c6] at H
     exact absurd H (by simp)
   ·rw [if_neg c5] at H
    have c5b0 : decide (x9_1 < (t2.length : Int)) = false := decide_eq_false c5
    clear c5
    obtain rfl := Option.some.inj H
    go_wp2
    go_ret
    exact ⟨_, by first | rfl | (simp [*, errW_none, errW_some] <;> rfl), by (with_reducible repeat (first | apply Kd.R_alloc | apply Kd.R_drewN | apply Kd.R_drew)); exact HO_3.out, by repeat first | with_reducible (first | exact HB.out | apply bA | apply bN | apply bD) | exact HB.out⟩

def sched_Keys.f (k : Nat) (a0 : ByteArray) : Option (List ByteArray × Int) := (sched_Rounds.f (a0.size : Int)).bind fun t1 => (if t1 = 0 then (some (([] : List ByteArray), 2)) else ((sched_Words.f k a0).bind fun t2 => ((octets_Join.f t2).bind fun t3 => ((octets_Pieces.f k t3 16).bind fun t4 => (some (t4, 0))))))
theorem sched_Keys.mono : ∀ a0 k, LeO (sched_Keys.f k a0) (sched_Keys.f (k + 1) a0) := by
 intro a0 k
 unfold sched_Keys.f
 repeat' first
   | (with_reducible exact octets_Pieces.mono _ _ _)
   | (with_reducible exact sched_Words.mono _ _)
   | (with_reducible exact LeO.refl _)
   | (with_reducible exact LeO.none _)
   | (with_reducible refine LeO.ite ?_ ?_)
   | (with_reducible refine LeO.bind ?_ (fun _ => ?_))
set_option maxHeartbeats 8000000 in
set_option maxRecDepth 100000 in
theorem sched_Keys.calls (k : Nat) (a0 : ByteArray) (r1 : List ByteArray) (r2 : Int) (w : World) (h : sched_Keys.f k a0 = some (r1, r2)) :
  Calls Try.prog 87 #[.string a0] w fun e w' => ∃ v0_ : Value, e = .returned (.tuple #[v0_, .int .i64 r2]) ∧ Kd.R Kd.string 9 w' w.heap.size (fun _ => True) v0_ r1 ∧ Below w.heap.size w w' := by
 have HB := Aside0.mk (Below.refl w.heap.size w)
 have H : ((sched_Rounds.f (a0.size : Int)).bind fun t1 => (if t1 = 0 then (some (([] : List ByteArray), 2)) else ((sched_Words.f k a0).bind fun t2 => ((octets_Join.f t2).bind fun t3 => ((octets_Pieces.f k t3 16).bind fun t4 => (some (t4, 0))))))) = some (r1, r2) := h
 clear h
 replace H := Option.bind_eq_some_iff.mp H
 obtain ⟨t1, A20, H⟩ := H
 try dsimp only at H
 have A2 := Aside0.mk A20
 clear A20
 by_cases c3 : t1 = 0
 ·rw [if_pos c3] at H
  have c3b0 : (t1 == 0) = true := beq_iff_eq.mpr c3
  have c3b1 : (t1 != 0) = false := bne_eq_false_iff_eq.mpr c3
  clear c3
  simp only [Option.some.injEq, Prod.mk.injEq] at H
  obtain ⟨rfl, rfl⟩ := H
  go_enter Try.func87, Try.ntmps87
  go_wp2_with (first | ((with_reducible refine gate_callee (f := 88) rfl ?_); refine goesL_ (some 6) rfl rfl Try.func88 (by kernel_rfl) rfl #[.int .i64 (a0.size : Int)] rfl (by (try simp only [lT, lC, lN]); first | done | rfl | (simp only [List.length_drop, List.length_take]; rfl) | (simp only [ByteArray.size_extract, Nat.min_self, Nat.sub_zero, ByteArray.size_append]; first | done | rfl)) ?_; (with_reducible refine (sched_Rounds.calls (a0.size : Int) t1 _ A2.out).mono ?_); rintro e w' ⟨rfl, ⟨nd, rfl⟩⟩; refine ⟨_, rfl, ?_⟩))
  go_ret2
  exact ⟨_, by first | rfl | (simp [*, errW_none, errW_some] <;> rfl), by first | exact Kd.R_nil _ _ _ _ _ | exact Kd.N_nil _ _ _ _ _ | exact Kd.V_nil _ _ _ _ _ | exact Kd.Q_nil _ _ _ _ _ | exact Kd.S_nil _ _ _ _ _, by repeat first | with_reducible (first | exact HB.out | apply bA | apply bN | apply bD) | exact HB.out⟩
 ·rw [if_neg c3] at H
  have c3b0 : (t1 == 0) = false := beq_eq_false_iff_ne.mpr c3
  have c3b1 : (t1 != 0) = true := bne_iff_ne.mpr c3
  replace H := Option.bind_eq_some_iff.mp H
  obtain ⟨t2, A40, H⟩ := H
  try dsimp only at H
  have A4 := Aside0.mk A40
  clear A40
  replace H := Option.bind_eq_some_iff.mp H
  obtain ⟨t3, A50, H⟩ := H
  try dsimp only at H
  have A5 := Aside0.mk A50
  clear A50
  replace H := Option.bind_eq_some_iff.mp H
  obtain ⟨t4, A60, H⟩ := H
  replace H : (some (t4, 0)) = some (r1, r2) := H
  have A6 := Aside0.mk A60
  clear A60
  simp only [Option.some.injEq, Prod.mk.injEq] at H
  obtain ⟨rfl, rfl⟩ := H
  go_enter Try.func87, Try.ntmps87
  go_wp2_with (first | ((with_reducible refine gate_callee (f := 88) rfl ?_); refine goesL_ (some 6) rfl rfl Try.func88 (by kernel_rfl) rfl #[.int .i64 (a0.size : Int)] rfl (by (try simp only [lT, lC, lN]); first | done | rfl | (simp only [List.length_drop, List.length_take]; rfl) | (simp only [ByteArray.size_extract, Nat.min_self, Nat.sub_zero, ByteArray.size_append]; first | done | rfl)) ?_; (with_reducible refine (sched_Rounds.calls (a0.size : Int) t1 _ A2.out).mono ?_); rintro e w' ⟨rfl, ⟨nd, rfl⟩⟩; refine ⟨_, rfl, ?_⟩) | ((with_reducible refine gate_callee (f := 95) rfl ?_); refine goesL_ (some 9) rfl rfl Try.func95 (by kernel_rfl) rfl #[.string a0] rfl (by (try simp only [lT, lC, lN]); first | done | rfl) ?_; (with_reducible refine (sched_Words.calls k a0 t2 _ A4.out).mono ?_); rintro e w7 ⟨v357, rfl, ho0, hb⟩; refine ⟨_, rfl, ?_⟩; have n0_ := Aside0.mk (Kd.R_lower ho0 (below_size (by repeat first | with_reducible (first | exact HB.out | apply bA | apply bN | apply bD) | exact HB.out))); have n1_ := Aside0.mk (below_step (by repeat first | with_reducible (first | exact HB.out | apply bA | apply bN | apply bD) | exact HB.out) hb); clear HB; have HO358 := n0_; have HB := n1_; clear n0_ n1_; (try clear hb); (try clear hb2); (try clear hk); (try clear hi); (try clear ho0); obtain ⟨Ao8, co8, eo8⟩ := Kd.R_slice HO358.out; subst eo8) | ((with_reducible refine gate_callee (f := 89) rfl ?_); refine goesL_ (some 10) rfl rfl Try.func89 (by kernel_rfl) rfl #[.slice Ao8 t2.length co8] rfl (by (try simp only [lT, lC, lN]); first | done | rfl | (simp only [List.length_drop, List.length_take]; rfl) | (simp only [ByteArray.size_extract, Nat.min_self, Nat.sub_zero, ByteArray.size_append]; first | done | rfl)) ?_; (with_reducible refine (octets_Join.calls _ _ t2 t3 _ ?side1 ?side2 A5.out).mono ?_); (case side1 => repeat (first | exact (Kd.R_reads' HO358.out).2.2 | (with_reducible refine Kd.C_alloc ?_ _) | (with_reducible refine Kd.C_drewN ?_ _) | (with_reducible refine Kd.C_drew ?_))); (case side2 => exact (Kd.R_reads' HO358.out).2.1); rintro e w9 ⟨rfl, hb⟩; refine ⟨_, rfl, ?_⟩; have n0_ := Aside0.mk (Kd.R_below (by (with_reducible repeat (first | apply Kd.R_alloc | apply Kd.R_drewN | apply Kd.R_drew)); exact HO358.out) hb); have n1_ := Aside0.mk (below_step (by repeat first | with_reducible (first | exact HB.out | apply bA | apply bN | apply bD) | exact HB.out) hb); clear HO358; clear HB; have HO358 := n0_; have HB := n1_; clear n0_ n1_; (try clear hb); (try clear hb2); (try clear hk); (try clear hi)) | ((with_reducible refine gate_callee (f := 186) rfl ?_); refine goesL_ (some 11) rfl rfl Try.func186 (by kernel_rfl) rfl #[.string t3, .int .i64 16] rfl (by (try simp only [lT, lC, lN]); first | done | rfl) ?_; (with_reducible refine (octets_Pieces.calls k t3 16 t4 _ A6.out).mono ?_); rintro e w10 ⟨v361, rfl, ho0, hb⟩; refine ⟨_, rfl, ?_⟩; have n0_ := Aside0.mk (Kd.R_elder' (by (with_reducible repeat (first | apply Kd.R_alloc | apply Kd.R_drewN | apply Kd.R_drew)); exact HO358.out) (Kd.R_base ho0) hb); have n1_ := Aside0.mk (Kd.R_lower (Kd.R_new' ho0 (Kd.R_lt (by (with_reducible repeat (first | apply Kd.R_alloc | apply Kd.R_drewN | apply Kd.R_drew)); exact HO358.out))) (below_size (by repeat first | with_reducible (first | exact HB.out | apply bA | apply bN | apply bD) | exact HB.out))); have n2_ := Aside0.mk (below_step (by repeat first | with_reducible (first | exact HB.out | apply bA | apply bN | apply bD) | exact HB.out) hb); clear HO358; clear HB; have HO358 := n0_; have HO362 := n1_; have HB := n2_; clear n0_ n1_ n2_; (try clear hb); (try clear hb2); (try clear hk); (try clear hi); (try clear ho0)))
  go_ret2
  exact ⟨_, by first | rfl | (simp [*, errW_none, errW_some] <;> rfl), by (with_reducible repeat (first | apply Kd.R_alloc | apply Kd.R_drewN | apply Kd.R_drew)); exact Kd.R_mono HO362.out (fun _ hk => trivial), by repeat first | with_reducible (first | exact HB.out | apply bA | apply bN | apply bD) | exact HB.out⟩

def sched_Constant.f (k : Nat) (a0 : Int) : Option (Int) := if a0 < 1 then (some 0) else (if a0 > 255 then (some 0) else ((field_Pow.f k 2 (wrap64 (a0 - 1))).bind fun t1 => (some t1)))
theorem sched_Constant.mono : ∀ a0 k, LeO (sched_Constant.f k a0) (sched_Constant.f (k + 1) a0) := by
 intro a0 k
 unfold sched_Constant.f
 repeat' first
   | (with_reducible exact field_Pow.mono _ _ _)
   | (with_reducible exact LeO.refl _)
   | (with_reducible exact LeO.none _)
   | (with_reducible refine LeO.ite ?_ ?_)
   | (with_reducible refine LeO.bind ?_ (fun _ => ?_))
end Go.Proofs.Ytokkhnjedmlbhaa.Pr
end
section
namespace Go.Proofs.Ytokkhnjedmlbhaa.Pr
open Go.RowKit Go.Proofs.YtokkhnjedmlbhaaW.PrintWords Go.Proofs.YtokkhnjedmlbhaaW.PrintLast Go.Proofs.YtokkhnjedmlbhaaW.PrintMore Go.Proofs.YtokkhnjedmlbhaaHw Go.Proofs.YtokkhnjedmlbhaaGf
/-- A cipher in memory: its key's size, the keys of its rounds, the tables. -/
def IsC (w : World) (g n : Nat) (ks : List ByteArray) : Prop := ∃ gk cap gt : Nat, w.heap[g]? = some (.cells #[.int .i64 n, .slice (some ⟨gk, 0, none⟩) ks.length cap, .pointer (some ⟨gt, 0, none⟩)] 108 (0, 0)) ∧ StrRow w gk ks ∧ BY w gt 113 (tabR 256)
theorem IsC.below {w w1 : World} {g n : Nat} {ks : List ByteArray} (h : IsC w g n ks) (hb : Below w.heap.size w w1) : IsC w1 g n ks := by
  obtain ⟨gk, cap, gt, h1, h2, h3⟩ := h
  exact ⟨gk, cap, gt, (hb.block g (blk_lt h1)).trans h1, h2.below hb, h3.below hb⟩
theorem IsC.lt {w : World} {g n : Nat} {ks : List ByteArray} (h : IsC w g n ks) : g < w.heap.size := by
  obtain ⟨gk, cap, gt, h1, h2, h3⟩ := h
  exact blk_lt h1
theorem new_err (k : Nat) (key : ByteArray) (ks : List ByteArray) (e0 : Int) (w : World) (h : sched_Keys.f k key = some (ks, e0)) (he : e0 ≠ 0) :
    Calls Try.prog 104 #[.string key] w fun e w' => e = .returned (.tuple #[.pointer none, .int .i64 e0]) ∧ Below w.heap.size w w' := by
  have HS := Aside0.mk h
  have hb1 : (e0 == 0) = false := beq_eq_false_iff_ne.mpr he
  have hb2 : (e0 != 0) = true := bne_iff_ne.mpr he
  clear h he
  go_enter Try.func104, Try.ntmps104
  go_wp2_with (go_at_call 87; (with_reducible refine (sched_Keys.calls k _ _ _ _ HS.out).mono ?_); rintro e w1 ⟨v0, rfl, hR, hb⟩)
  go_ret2
  exact ⟨rfl, hb⟩
theorem new_calls (k : Nat) (key : ByteArray) (ks : List ByteArray) (w : World) (h : sched_Keys.f k key = some (ks, 0)) (hk : 0 < ks.length) :
    Calls Try.prog 104 #[.string key] w fun e w' => ∃ g : Nat, e = .returned (.tuple #[.pointer (some ⟨g, 0, none⟩), .int .i64 0]) ∧ IsC w' g key.size ks ∧ Below w.heap.size w w' := by
  have HS := Aside0.mk h
  have HP := Aside0.mk hk
  clear h hk
  go_enter Try.func104, Try.ntmps104
  go_wp2_with (first | (go_at_call 87; (with_reducible refine (sched_Keys.calls k _ _ _ _ HS.out).mono ?_); rintro e w1 ⟨v0, rfl, hR, hb⟩; obtain ⟨gk, cap, rfl, hgk, hS⟩ := StrRow.of_R hR HP.out; have HB1 := Aside0.mk hb; have HS1 := Aside0.mk hS; clear hR hb hgk hS) | (go_at_call 192; (with_reducible refine (ready_calls _).mono ?_); rintro e w2 ⟨gt, rfl, hgt, hT, hb2⟩; have HB2 := Aside0.mk (below_then HB1.out HB1.out.size hb2); have HS2 := Aside0.mk (HS1.out.below hb2); have HT2 := Aside0.mk hT; clear hb2 hT))
  go_ret2
  exact ⟨w2.heap.size, rfl, ⟨gk, cap, gt, heap_alloc_new w2 _, HS2.out.alloc _, HT2.out.same (heap_alloc_old _ _ HT2.out.lt)⟩, below_alloc HB2.out _⟩
end Go.Proofs.Ytokkhnjedmlbhaa.Pr
end
section
namespace Go.Proofs.Ytokkhnjedmlbhaa.Pr
open Go.RowKit Go.Proofs.YtokkhnjedmlbhaaW.PrintWords Go.Proofs.YtokkhnjedmlbhaaW.PrintLast Go.Proofs.YtokkhnjedmlbhaaW.PrintMore Go.Proofs.YtokkhnjedmlbhaaHw Go.Proofs.YtokkhnjedmlbhaaGf
theorem IsC.cells {w : World} {g n : Nat} {ks : List ByteArray} (h : IsC w g n ks) : ∃ gk cap gt : Nat, w.cell? ⟨g, 1, none⟩ = some (.slice (some ⟨gk, 0, none⟩) ks.length cap) ∧ w.cell? ⟨g, 2, none⟩ = some (.pointer (some ⟨gt, 0, none⟩)) ∧ StrRow w gk ks ∧ BY w gt 113 (tabR 256) := by
  obtain ⟨gk, cap, gt, h1, h2, h3⟩ := h
  have c1 := blk_cell h1 1
  have c2 := blk_cell h1 2
  simp only [List.getElem?_toArray, List.getElem?_cons_zero, List.getElem?_cons_succ] at c1 c2
  exact ⟨gk, cap, gt, c1, c2, h2, h3⟩
theorem may_ok (g n : Nat) (ks : List ByteArray) (s : ByteArray) (w : World) (h : IsC w g n ks) (hs : s.size = 16) :
    Calls Try.prog 193 #[.pointer (some ⟨g, 0, none⟩), .string s] w fun e w' => e = .returned (.int .i64 0) ∧ w' = w := by
  obtain ⟨gk, cap, gt, c1, c2, _, _⟩ := h.cells
  have hsI : ((s.size : Nat) : Int) = 16 := by omega
  clear h
  go_enter Try.func193, Try.ntmps193
  go_wp2
  go_ret
  exact ⟨rfl, rfl⟩
theorem may_size (g n : Nat) (ks : List ByteArray) (s : ByteArray) (w : World) (h : IsC w g n ks) (hs : s.size ≠ 16) :
    Calls Try.prog 193 #[.pointer (some ⟨g, 0, none⟩), .string s] w fun e w' => e = .returned (.int .i64 4) ∧ w' = w := by
  obtain ⟨gk, cap, gt, c1, c2, _, _⟩ := h.cells
  have hb : (((s.size : Nat) : Int) != 16) = true := bne_iff_ne.mpr (by omega)
  have hb2 : (((s.size : Nat) : Int) == 16) = false := beq_eq_false_iff_ne.mpr (by omega)
  clear h
  go_enter Try.func193, Try.ntmps193
  go_wp2
  go_ret
  exact ⟨rfl, rfl⟩
/-- The first n of sixteen are new, the others old. -/
def mixL (n : Nat) (f o : Nat → Int) : List Int := (List.range 16).map fun q => if q < n then f q else o q
theorem mixL_length (n : Nat) (f o : Nat → Int) : (mixL n f o).length = 16 := by simp [mixL]
theorem mixL_get (n : Nat) (f o : Nat → Int) (i : Nat) (hi : i < 16) : (mixL n f o).getD i 0 = if i < n then f i else o i := by simp [mixL, hi]
theorem mixL_set (n : Nat) (f o : Nat → Int) : (mixL n f o).set n (f n) = mixL (n + 1) f o := by
  apply List.ext_getElem
  · simp [mixL]
  · intro i h1 h2
    have hi : i < 16 := by rw [mixL_length] at h2; exact h2
    rw [List.getElem_set]
    simp only [mixL, List.getElem_map, List.getElem_range]
    by_cases e : n = i
    · subst e; simp
    · rw [if_neg e]
      have : (i < n) = (i < n + 1) := by apply propext; omega
      simp only [this]
theorem mixL_zero (f o : Nat → Int) : mixL 0 f o = (List.range 16).map o := by simp [mixL]
theorem mixL_all (f o : Nat → Int) : mixL 16 f o = (List.range 16).map f := by
  unfold mixL
  exact List.map_congr_left (fun q hq => if_pos (List.mem_range.1 hq))
theorem grownBy_set (W : World) (g j : Nat) (v : Value) : W.grownBy (W.setCell ⟨g, j, none⟩ v) (some g) :=
  ⟨rfl, rfl, rfl, by simp, fun k _ hk => Below.heap_setCell _ _ _ k (fun e => hk (by rw [e]))⟩
theorem grownBy_drew {w W : World} {r : Option Nat} (h : w.grownBy W r) : w.grownBy W.drew r := ⟨h.os, h.tape, h.output, h.size, h.block⟩
set_option maxHeartbeats 1000000 in
theorem add_calls (g : Nat) (f : Nat → Int) (key : ByteArray) (w : World) (hg : BY w g 65 ((List.range 16).map f)) (hk : key.size = 16) :
    Calls Try.prog 194 #[.pointer (some ⟨g, 0, none⟩), .string key] w fun e w' => e = .returned (.tuple #[]) ∧ BY w' g 65 ((List.range 16).map fun q => Go.bits .xor .u8 (f q) (bt key q)) ∧ w.grownBy w' (some g) := by
  have HG := Aside0.mk hg
  clear hg
  go_enter Try.func194, Try.ntmps194
  go_wp2
  go_loopw [5] (fun i wr => ∃ j : Nat, j ≤ 16 ∧ i = .int .i64 j ∧ Aside0 (BY wr g 65 (mixL j (fun q => Go.bits .xor .u8 (f q) (bt key q)) f)) ∧ Aside0 (w.grownBy wr (some g))) (fun i _ => 16 - (intOf i).toNat)
  case atStart => exact ⟨0, Nat.zero_le _, rfl, ⟨by rw [mixL_zero]; exact HG.out⟩, ⟨World.grownBy.refl _ _⟩⟩
  case round =>
    clear HG
    obtain ⟨j, hj, rfl, HK, HB⟩ := hrel
    by_cases hlt : j < 16
    · have f0 := HK.out.frozen j
      have c0 := HK.out.cell j (by rw [mixL_length]; omega)
      rw [mixL_get _ _ _ _ hlt, if_neg (by omega)] at c0
      have hjk : j < key.size := by omega
      go_wp2
      go_region
      go_wp2
      have hbt : ((key[j]'hjk).toNat : Int) = bt key j := bt_at key (j : Int) (by simpa using hjk)
      rw [hbt]
      exact ⟨⟨j + 1, hlt, by go_num, ⟨by rw [← mixL_set]; exact (HK.out.set j _).drew⟩, ⟨grownBy_drew (HB.out.trans (grownBy_set wr g j _))⟩⟩, by simp [intOf]; omega⟩
    · obtain rfl : j = 16 := by omega
      go_wp2
      have HK1 := HK.out
      rw [mixL_all] at HK1
      exact bodyPost_end (v := .tuple #[]) (by simp [results, Try.results194, go_sem]) rfl ⟨rfl, HK1, HB.out⟩
end Go.Proofs.Ytokkhnjedmlbhaa.Pr
end
section
namespace Go.Proofs.Ytokkhnjedmlbhaa.M
open Go.RowKit Go.Proofs.Ytokkhnjedmlbhaa.Pr Go.Proofs.YtokkhnjedmlbhaaW.PrintWords Go.Proofs.YtokkhnjedmlbhaaW.PrintLast Go.Proofs.YtokkhnjedmlbhaaW.PrintMore Go.Proofs.YtokkhnjedmlbhaaGf
set_option linter.unusedSimpArgs false
/-- The text of sixteen bytes. -/
def T (g : Nat → Nat) : ByteArray := mkB ((List.range 16).map g)
theorem T_size (g : Nat → Nat) : (T g).size = 16 := by unfold T; rw [mkB_size]; simp
theorem T_bb {g : Nat → Nat} (hg : ∀ i, i < 16 → g i < 256) (i : Nat) (hi : i < 16) : bb (T g) i = g i := by
  rw [bb_nb]
  unfold T
  rw [nb_mkB (by intro x hx; obtain ⟨j, hj, rfl⟩ := List.mem_map.1 hx; exact hg j (List.mem_range.1 hj)), List.getD_eq_getElem?_getD, List.getElem?_map, List.getElem?_range hi]
  rfl
theorem T_congr {g g' : Nat → Nat} (h : ∀ i, i < 16 → g i = g' i) : T g = T g' := by
  unfold T
  congr 1
  exact List.map_congr_left (fun i hi => h i (List.mem_range.1 hi))
theorem T_of (s : ByteArray) (hs : s.size = 16) : T (bb s) = s := by
  conv => rhs; rw [← mkB_nb s]
  unfold T
  congr 1
  apply List.ext_getElem (by rw [List.length_map, List.length_range, nb_length, hs])
  intro i h1 h2
  rw [List.getElem_map, List.getElem_range, bb_nb, List.getD_eq_getElem?_getD, List.getElem?_eq_getElem h2]
  rfl
theorem emptyB : (⟨#[]⟩ : ByteArray) = mkB [] := rfl
theorem ex1 (s : ByteArray) {i : Nat} (hi : i < s.size) : s.extract i (i + 1) = mkB [bb s i] := by
  rw [extract_nb, bb_nb]
  congr 1
  have hl : i < (nb s).length := by rw [nb_length]; exact hi
  rw [List.take_succ_eq_append_getElem hl, List.drop_append_of_le_length (by rw [List.length_take]; omega), List.drop_of_length_le (by rw [List.length_take]; omega), List.getD_eq_getElem?_getD, List.getElem?_eq_getElem hl]
  rfl
theorem mv1_step (s out : ByteArray) (hs : s.size = 16) (ho : out.size ≤ 1000) (c r : Nat) (hc : c < 4) (hr : r < 4) (k : Nat) : clavigerref07_moved.l1 (k + 1) s 1 out (c : Int) (r : Int) = clavigerref07_moved.l1 k s 1 (out ++ mkB [bb s (4 * ((c + 1 * r) % 4) + r)]) (c : Int) ((r + 1 : Nat) : Int) := by
  have e0 : wrap64 ((c : Int) + wrap64 (1 * (r : Int))) = ((c + 1 * r : Nat) : Int) := by unfold wrap64; omega
  have e1 : Int.tmod ((c + 1 * r : Nat) : Int) 4 = (((c + 1 * r) % 4 : Nat) : Int) := by rw [Int.tmod_eq_emod_of_nonneg (by omega)]; omega
  have e2 : wrap64 (wrap64 (4 * (((c + 1 * r) % 4 : Nat) : Int)) + (r : Int)) = ((4 * ((c + 1 * r) % 4) + r : Nat) : Int) := by unfold wrap64; omega
  have e3 : wrap64 (((4 * ((c + 1 * r) % 4) + r : Nat) : Int) + 1) = ((4 * ((c + 1 * r) % 4) + r + 1 : Nat) : Int) := by unfold wrap64; omega
  have e4 : wrap64 ((r : Int) + 1) = ((r + 1 : Nat) : Int) := by unfold wrap64; omega
  simp only [clavigerref07_moved.l1, e0, e1, e2, e3, e4, Int.toNat_natCast]
  rw [ex1 s (by omega), if_pos (by omega), if_pos (by omega), if_pos (by omega), if_pos (by omega), if_pos (by rw [mkB_size]; simp; omega)]
theorem mv1_row (s out : ByteArray) (hs : s.size = 16) (ho : out.size ≤ 900) (c : Nat) (hc : c < 4) (res : ByteArray) (h : Ev (fun k => clavigerref07_moved.l0 k s 1 (out ++ mkB [bb s (4 * ((c + 1 * 0) % 4) + 0), bb s (4 * ((c + 1 * 1) % 4) + 1), bb s (4 * ((c + 1 * 2) % 4) + 2), bb s (4 * ((c + 1 * 3) % 4) + 3)]) ((c + 1 : Nat) : Int)) res) : Ev (fun k => clavigerref07_moved.l0 k s 1 out (c : Int)) res := by
  refine Ev.step (f := fun k => clavigerref07_moved.l1 k s 1 out (c : Int) ((0 : Nat) : Int)) (fun k => by simp only [clavigerref07_moved.l0]; rw [if_pos (by omega)]; rfl) ?_
  refine Ev.step (fun k => mv1_step s out hs (by omega) c 0 hc (by omega) k) ?_
  refine Ev.step (fun k => mv1_step s _ hs (by rw [ByteArray.size_append, mkB_size]; simp; omega) c 1 hc (by omega) k) ?_
  refine Ev.step (fun k => mv1_step s _ hs (by rw [ByteArray.size_append, ByteArray.size_append, mkB_size, mkB_size]; simp; omega) c 2 hc (by omega) k) ?_
  refine Ev.step (fun k => mv1_step s _ hs (by rw [ByteArray.size_append, ByteArray.size_append, ByteArray.size_append, mkB_size, mkB_size, mkB_size]; simp; omega) c 3 hc (by omega) k) ?_
  refine Ev.step (f := fun k => clavigerref07_moved.l0 k s 1 (out ++ mkB [bb s (4 * ((c + 1 * 0) % 4) + 0), bb s (4 * ((c + 1 * 1) % 4) + 1), bb s (4 * ((c + 1 * 2) % 4) + 2), bb s (4 * ((c + 1 * 3) % 4) + 3)]) ((c + 1 : Nat) : Int)) (fun k => ?_) h
  simp only [clavigerref07_moved.l1]
  rw [if_neg (by omega), show wrap64 ((c : Int) + 1) = ((c + 1 : Nat) : Int) by unfold wrap64; omega]
  simp only [ByteArray.append_assoc, mkB_append, List.cons_append, List.nil_append]
theorem rmoved1_c (s : ByteArray) (hs : s.size = 16) : Ev (fun k => clavigerref07_moved.f k s 1) (T (SH (bb s))) := by
  have hf : clavigerref07_fits.f s = some true := by unfold clavigerref07_fits.f; rw [hs]; rfl
  unfold clavigerref07_moved.f
  refine evs hf (evp rfl ?_)
  refine mv1_row s ⟨#[]⟩ hs (by show 0 ≤ 900; omega) 0 (by omega) _ (mv1_row s _ hs ?_ 1 (by omega) _ (mv1_row s _ hs ?_ 2 (by omega) _ (mv1_row s _ hs ?_ 3 (by omega) _ ?_)))
  · simp only [ByteArray.size_append, mkB_size]; show 0 + _ ≤ _; simp
  · simp only [ByteArray.size_append, mkB_size]; show 0 + _ + _ ≤ _; simp
  · simp only [ByteArray.size_append, mkB_size]; show 0 + _ + _ + _ ≤ _; simp
  · refine Ev.step (f := fun _ => some (T (SH (bb s)))) (fun k => ?_) (Ev.now _)
    simp only [clavigerref07_moved.l0]
    rw [if_neg (by omega)]
    simp only [emptyB, mkB_append, List.cons_append, List.nil_append]
    rfl

theorem mv3_step (s out : ByteArray) (hs : s.size = 16) (ho : out.size ≤ 1000) (c r : Nat) (hc : c < 4) (hr : r < 4) (k : Nat) : clavigerref07_moved.l1 (k + 1) s 3 out (c : Int) (r : Int) = clavigerref07_moved.l1 k s 3 (out ++ mkB [bb s (4 * ((c + 3 * r) % 4) + r)]) (c : Int) ((r + 1 : Nat) : Int) := by
  have e0 : wrap64 ((c : Int) + wrap64 (3 * (r : Int))) = ((c + 3 * r : Nat) : Int) := by unfold wrap64; omega
  have e1 : Int.tmod ((c + 3 * r : Nat) : Int) 4 = (((c + 3 * r) % 4 : Nat) : Int) := by rw [Int.tmod_eq_emod_of_nonneg (by omega)]; omega
  have e2 : wrap64 (wrap64 (4 * (((c + 3 * r) % 4 : Nat) : Int)) + (r : Int)) = ((4 * ((c + 3 * r) % 4) + r : Nat) : Int) := by unfold wrap64; omega
  have e3 : wrap64 (((4 * ((c + 3 * r) % 4) + r : Nat) : Int) + 1) = ((4 * ((c + 3 * r) % 4) + r + 1 : Nat) : Int) := by unfold wrap64; omega
  have e4 : wrap64 ((r : Int) + 1) = ((r + 1 : Nat) : Int) := by unfold wrap64; omega
  simp only [clavigerref07_moved.l1, e0, e1, e2, e3, e4, Int.toNat_natCast]
  rw [ex1 s (by omega), if_pos (by omega), if_pos (by omega), if_pos (by omega), if_pos (by omega), if_pos (by rw [mkB_size]; simp; omega)]
theorem mv3_row (s out : ByteArray) (hs : s.size = 16) (ho : out.size ≤ 900) (c : Nat) (hc : c < 4) (res : ByteArray) (h : Ev (fun k => clavigerref07_moved.l0 k s 3 (out ++ mkB [bb s (4 * ((c + 3 * 0) % 4) + 0), bb s (4 * ((c + 3 * 1) % 4) + 1), bb s (4 * ((c + 3 * 2) % 4) + 2), bb s (4 * ((c + 3 * 3) % 4) + 3)]) ((c + 1 : Nat) : Int)) res) : Ev (fun k => clavigerref07_moved.l0 k s 3 out (c : Int)) res := by
  refine Ev.step (f := fun k => clavigerref07_moved.l1 k s 3 out (c : Int) ((0 : Nat) : Int)) (fun k => by simp only [clavigerref07_moved.l0]; rw [if_pos (by omega)]; rfl) ?_
  refine Ev.step (fun k => mv3_step s out hs (by omega) c 0 hc (by omega) k) ?_
  refine Ev.step (fun k => mv3_step s _ hs (by rw [ByteArray.size_append, mkB_size]; simp; omega) c 1 hc (by omega) k) ?_
  refine Ev.step (fun k => mv3_step s _ hs (by rw [ByteArray.size_append, ByteArray.size_append, mkB_size, mkB_size]; simp; omega) c 2 hc (by omega) k) ?_
  refine Ev.step (fun k => mv3_step s _ hs (by rw [ByteArray.size_append, ByteArray.size_append, ByteArray.size_append, mkB_size, mkB_size, mkB_size]; simp; omega) c 3 hc (by omega) k) ?_
  refine Ev.step (f := fun k => clavigerref07_moved.l0 k s 3 (out ++ mkB [bb s (4 * ((c + 3 * 0) % 4) + 0), bb s (4 * ((c + 3 * 1) % 4) + 1), bb s (4 * ((c + 3 * 2) % 4) + 2), bb s (4 * ((c + 3 * 3) % 4) + 3)]) ((c + 1 : Nat) : Int)) (fun k => ?_) h
  simp only [clavigerref07_moved.l1]
  rw [if_neg (by omega), show wrap64 ((c : Int) + 1) = ((c + 1 : Nat) : Int) by unfold wrap64; omega]
  simp only [ByteArray.append_assoc, mkB_append, List.cons_append, List.nil_append]
theorem rmoved3_c (s : ByteArray) (hs : s.size = 16) : Ev (fun k => clavigerref07_moved.f k s 3) (T (UH (bb s))) := by
  have hf : clavigerref07_fits.f s = some true := by unfold clavigerref07_fits.f; rw [hs]; rfl
  unfold clavigerref07_moved.f
  refine evs hf (evp rfl ?_)
  refine mv3_row s ⟨#[]⟩ hs (by show 0 ≤ 900; omega) 0 (by omega) _ (mv3_row s _ hs ?_ 1 (by omega) _ (mv3_row s _ hs ?_ 2 (by omega) _ (mv3_row s _ hs ?_ 3 (by omega) _ ?_)))
  · simp only [ByteArray.size_append, mkB_size]; show 0 + _ ≤ _; simp
  · simp only [ByteArray.size_append, mkB_size]; show 0 + _ + _ ≤ _; simp
  · simp only [ByteArray.size_append, mkB_size]; show 0 + _ + _ + _ ≤ _; simp
  · refine Ev.step (f := fun _ => some (T (UH (bb s)))) (fun k => ?_) (Ev.now _)
    simp only [clavigerref07_moved.l0]
    rw [if_neg (by omega)]
    simp only [emptyB, mkB_append, List.cons_append, List.nil_append]
    rfl
def xorT (a b : ByteArray) : ByteArray := mkB ((List.range (min a.size b.size)).map fun i => bb a i ^^^ bb b i)
theorem xorT_size (a b : ByteArray) : (xorT a b).size = min a.size b.size := by unfold xorT; rw [mkB_size]; simp
/-- The sum of the bits in which two numbers part. -/
def xs (x y : Nat) : Nat → Nat
  | 0 => 0
  | k + 1 => xs x y k + (if x / 2 ^ k % 2 = y / 2 ^ k % 2 then 0 else 2 ^ k)
theorem xs_mod (x y k : Nat) : xs x y k = (x ^^^ y) % 2 ^ k := by
  induction k with
  | zero => simp [xs, Nat.mod_one]
  | succ k ih =>
    simp only [xs]
    rw [ih, Nat.mod_pow_succ]
    congr 1
    have h := bit_xor x y k
    have h1 : x / 2 ^ k % 2 < 2 := Nat.mod_lt _ (by omega)
    have h2 : y / 2 ^ k % 2 < 2 := Nat.mod_lt _ (by omega)
    have h3 : (x ^^^ y) / 2 ^ k % 2 < 2 := Nat.mod_lt _ (by omega)
    by_cases e : x / 2 ^ k % 2 = y / 2 ^ k % 2
    · rw [if_pos e]
      have : ¬ (x ^^^ y) / 2 ^ k % 2 = 1 := by rw [h, e]; simp
      rw [show (x ^^^ y) / 2 ^ k % 2 = 0 by omega, Nat.mul_zero]
    · rw [if_neg e]
      have : (x ^^^ y) / 2 ^ k % 2 = 1 := by rw [h]; omega
      rw [this, Nat.mul_one]
theorem xs_lt (x y k : Nat) : xs x y k < 2 ^ k := by rw [xs_mod]; exact Nat.mod_lt _ (Nat.two_pow_pos k)
theorem tdiv_c (x j : Nat) (hx : x < 256) : wrap64 (Int.tdiv (x : Int) ((2 ^ j : Nat) : Int)) = ((x / 2 ^ j : Nat) : Int) := by
  rw [Int.tdiv_eq_ediv_of_nonneg (by omega), ← Int.natCast_ediv]
  have : x / 2 ^ j ≤ x := Nat.div_le_self _ _
  generalize x / 2 ^ j = q at *
  unfold wrap64; omega
theorem sNs1 {n : Nat} : strOfNums [((n : Nat) : Int)] = mkB [n] := strOfNums_cast [n]
theorem rxor1 (a b out : ByteArray) (i x y : Nat) (hx : x < 256) (hy : y < 256) (ho : out.size ≤ 9000000000000000000) (hi : i < 9000000000000000000) {res : ByteArray} (h : Ev (fun k => clavigerref01_Xor.l0 k a b (out ++ mkB [x ^^^ y]) ((i + 1 : Nat) : Int)) res) (d : Nat) :
    ∀ j, 8 - j = d → j ≤ 8 → Ev (fun k => clavigerref01_Xor.l1 k a b out (i : Int) (x : Int) (y : Int) ((xs x y j : Nat) : Int) ((2 ^ j : Nat) : Int)) res := by
  induction d with
  | zero =>
    intro j hd hj
    obtain rfl : j = 8 := by omega
    have hs := xs_lt x y 8
    have e : xs x y 8 = x ^^^ y := by rw [xs_mod]; exact Nat.mod_eq_of_lt (xor_lt hx hy)
    refine Ev.step (f := fun k => clavigerref01_Xor.l0 k a b (out ++ mkB [x ^^^ y]) ((i + 1 : Nat) : Int)) (fun k => ?_) h
    simp only [clavigerref01_Xor.l1]
    rw [if_neg (by omega)]
    simp only [Option.bind_some]
    rw [show (((xs x y 8 : Nat) : Int) % 256) = ((x ^^^ y : Nat) : Int) by rw [← e]; omega, sNs1, mkB_size, if_pos (by simp; omega), show wrap64 ((i : Int) + 1) = ((i + 1 : Nat) : Int) by unfold wrap64; omega]
  | succ d ih =>
    intro j hd hj
    have hs := xs_lt x y j
    have hp := pow_le8 (show j < 8 by omega)
    have hp0 := Nat.two_pow_pos j
    have hi' := ih (j + 1) (by omega) (by omega)
    refine Ev.step (fun k => ?_) hi'
    simp only [clavigerref01_Xor.l1]
    rw [if_pos (by omega), if_neg (by omega), tdiv_c x j hx, tdiv_c y j hy, tmod2, tmod2, show wrap64 (2 * ((2 ^ j : Nat) : Int)) = ((2 ^ (j + 1) : Nat) : Int) by rw [Nat.pow_succ]; unfold wrap64; omega]
    simp only [xs]
    by_cases e : x / 2 ^ j % 2 = y / 2 ^ j % 2
    · rw [if_pos (by omega), if_pos e]; rfl
    · rw [if_neg (by omega), if_neg e, show wrap64 (((xs x y j : Nat) : Int) + ((2 ^ j : Nat) : Int)) = ((xs x y j + 2 ^ j : Nat) : Int) by unfold wrap64; omega]
theorem rng_snoc (f : Nat → Nat) (n : Nat) : mkB ((List.range n).map f) ++ mkB [f n] = mkB ((List.range (n + 1)).map f) := by
  rw [mkB_append, List.range_succ, List.map_append]; rfl
theorem rxorL (a b : ByteArray) (ha : a.size ≤ 140737488355328) (hb : b.size ≤ 140737488355328) (d : Nat) : ∀ i, min a.size b.size - i = d → i ≤ min a.size b.size →
    Ev (fun k => clavigerref01_Xor.l0 k a b (mkB ((List.range i).map fun i => bb a i ^^^ bb b i)) (i : Int)) (xorT a b) := by
  induction d with
  | zero =>
    intro i hd hi
    obtain rfl : i = min a.size b.size := by omega
    by_cases h : a.size ≤ b.size
    · refine Ev.step (f := fun k => clavigerref01_Xor.j1 k a b (xorT a b) ((min a.size b.size : Nat) : Int) false) (fun k => by simp only [clavigerref01_Xor.l0]; rw [if_neg (by omega)]; rfl) ?_
      exact Ev.step (f := fun _ => some (xorT a b)) (fun k => by simp only [clavigerref01_Xor.j1]; rw [if_neg (by simp)]) (Ev.now _)
    · refine Ev.step (f := fun k => clavigerref01_Xor.j1 k a b (xorT a b) ((min a.size b.size : Nat) : Int) false) (fun k => by simp only [clavigerref01_Xor.l0]; rw [if_pos (by omega), decide_eq_false (by omega)]; rfl) ?_
      exact Ev.step (f := fun _ => some (xorT a b)) (fun k => by simp only [clavigerref01_Xor.j1]; rw [if_neg (by simp)]) (Ev.now _)
  | succ d ih =>
    intro i hd hi
    have hh := ih (i + 1) (by omega) (by omega)
    rw [← rng_snoc (fun i => bb a i ^^^ bb b i)] at hh
    have h1 := rxor1 a b (mkB ((List.range i).map fun i => bb a i ^^^ bb b i)) i (bb a i) (bb b i) (bb_lt a i) (bb_lt b i) (by rw [mkB_size]; simp; omega) (by omega) hh 8 0 (by omega) (by omega)
    refine Ev.step (f := fun k => clavigerref01_Xor.j1 k a b (mkB ((List.range i).map fun i => bb a i ^^^ bb b i)) (i : Int) true) (fun k => by simp only [clavigerref01_Xor.l0]; rw [if_pos (by omega), decide_eq_true (by omega)]) ?_
    refine Ev.step (fun k => ?_) h1
    simp only [clavigerref01_Xor.j1]
    rw [if_pos True.intro, if_pos (by omega), if_pos (by omega), if_pos (by omega), bt_bb, bt_bb, wrap_id (by omega) (by have := bb_lt a i; omega), wrap_id (by omega) (by have := bb_lt b i; omega)]
    rfl
theorem rxor_c (a b : ByteArray) (ha : a.size ≤ 140737488355328) (hb : b.size ≤ 140737488355328) : Ev (fun k => clavigerref01_Xor.f k a b) (xorT a b) := rxorL a b ha hb _ 0 rfl (by omega)

def rmx (p g : Nat → Nat) (i : Nat) : Nat := ((gm (p 0) (g (nx i 0)) ^^^ gm (p 1) (g (nx i 1))) ^^^ gm (p 2) (g (nx i 2))) ^^^ gm (p 3) (g (nx i 3))
theorem mx2_step (s p out : ByteArray) (c i j m : Nat) (hs : s.size = 16) (hp : p.size = 4) (hc : c < 4) (hi : i < 4) (hj : j < 4) (hm : m < 256) {res : ByteArray}
    (h : Ev (fun k => clavigerref07_mixed.l2 k s p out (c : Int) (i : Int) ((m ^^^ gm (bb p j) (bb s (nx (4 * c + i) j)) : Nat) : Int) ((j + 1 : Nat) : Int)) res) :
    Ev (fun k => clavigerref07_mixed.l2 k s p out (c : Int) (i : Int) (m : Int) (j : Int)) res := by
  have hn : nx (4 * c + i) j < 16 := nx_lt (by omega) j
  have e1 : wrap64 ((i : Int) + (j : Int)) = ((i + j : Nat) : Int) := by unfold wrap64; omega
  have e2 : Int.tmod ((i + j : Nat) : Int) 4 = (((i + j) % 4 : Nat) : Int) := by rw [Int.tmod_eq_emod_of_nonneg (by omega)]; omega
  have e0 : nx (4 * c + i) j = 4 * c + (i + j) % 4 := by
    unfold nx
    rw [show (4 * c + i) / 4 = c by omega, show (4 * c + i) % 4 = i by omega]
  have e3 : wrap64 (wrap64 (4 * (c : Int)) + (((i + j) % 4 : Nat) : Int)) = ((nx (4 * c + i) j : Nat) : Int) := by
    have h4 : (i + j) % 4 < 4 := Nat.mod_lt _ (by omega)
    rw [e0]
    generalize (i + j) % 4 = q at *
    rw [wrap_id (x := 4 * (c : Int)) (by omega) (by omega), wrap_id (by omega) (by omega)]
    omega
  refine Ev.step (f := fun k => (clavigerref05_Mul.f k ((bb p j : Nat) : Int) ((bb s (nx (4 * c + i) j) : Nat) : Int)).bind fun t => clavigerref07_mixed.l2 k s p out (c : Int) (i : Int) (Go.bits .xor .u8 (m : Int) t) ((j + 1 : Nat) : Int)) (fun k => ?_) ?_
  · simp only [clavigerref07_mixed.l2, e1, e2, e3]
    clear e0 e1 e2 e3 h
    generalize hnx : nx (4 * c + i) j = n' at *
    rw [if_pos (by omega), if_pos (by omega), if_pos (by omega), if_pos (by omega), if_pos (by omega), bt_bb, bt_bb, show wrap64 ((j : Int) + 1) = ((j + 1 : Nat) : Int) by unfold wrap64; omega]
  · refine evb (rmul_c (bb_lt p j) (bb_lt s _)) ?_
    rw [bx hm (gm_lt (bb_lt p j))]
    exact h
theorem mx2 (s p out : ByteArray) (c i : Nat) (hs : s.size = 16) (hp : p.size = 4) (hc : c < 4) (hi : i < 4) (ho : out.size ≤ 1000) {res : ByteArray}
    (h : Ev (fun k => clavigerref07_mixed.l1 k s p (out ++ mkB [rmx (bb p) (bb s) (4 * c + i)]) (c : Int) ((i + 1 : Nat) : Int)) res) :
    Ev (fun k => clavigerref07_mixed.l2 k s p out (c : Int) (i : Int) 0 0) res := by
  have l0 : gm (bb p 0) (bb s (nx (4 * c + i) 0)) < 256 := gm_lt (bb_lt p 0)
  have l1 := xor_lt l0 (gm_lt (b := bb s (nx (4 * c + i) 1)) (bb_lt p 1))
  have l2 := xor_lt l1 (gm_lt (b := bb s (nx (4 * c + i) 2)) (bb_lt p 2))
  have l3 := xor_lt l2 (gm_lt (b := bb s (nx (4 * c + i) 3)) (bb_lt p 3))
  refine mx2_step s p out c i 0 0 hs hp hc hi (by omega) (by omega) ?_
  rw [Nat.zero_xor]
  refine mx2_step s p out c i 1 _ hs hp hc hi (by omega) l0 ?_
  refine mx2_step s p out c i 2 _ hs hp hc hi (by omega) l1 ?_
  refine mx2_step s p out c i 3 _ hs hp hc hi (by omega) l2 ?_
  refine Ev.step (fun k => ?_) h
  simp only [clavigerref07_mixed.l2]
  rw [if_neg (by omega)]
  simp only [Option.bind_some]
  rw [sNs1, mkB_size, if_pos (by simp; omega), show wrap64 ((i : Int) + 1) = ((i + 1 : Nat) : Int) by unfold wrap64; omega]
  rfl
theorem mx1 (s p : ByteArray) (c : Nat) (hs : s.size = 16) (hp : p.size = 4) (hc : c < 4) {res : ByteArray}
    (h : Ev (fun k => clavigerref07_mixed.l0 k s p (mkB ((List.range (4 * (c + 1))).map (rmx (bb p) (bb s)))) ((c + 1 : Nat) : Int)) res) (d : Nat) :
    ∀ i, 4 - i = d → i ≤ 4 → Ev (fun k => clavigerref07_mixed.l1 k s p (mkB ((List.range (4 * c + i)).map (rmx (bb p) (bb s)))) (c : Int) (i : Int)) res := by
  induction d with
  | zero =>
    intro i hd hi
    obtain rfl : i = 4 := by omega
    refine Ev.step (fun k => ?_) h
    simp only [clavigerref07_mixed.l1]
    rw [if_neg (by omega), show wrap64 ((c : Int) + 1) = ((c + 1 : Nat) : Int) by unfold wrap64; omega]
    rfl
  | succ d ih =>
    intro i hd hi
    have hh := ih (i + 1) (by omega) (by omega)
    rw [← Nat.add_assoc, ← rng_snoc] at hh
    refine Ev.step (fun k => ?_) (mx2 s p _ c i hs hp hc (by omega) (by rw [mkB_size]; simp; omega) hh)
    simp only [clavigerref07_mixed.l1]
    rw [if_pos (by omega)]
theorem mx0 (s p : ByteArray) (hs : s.size = 16) (hp : p.size = 4) (d : Nat) :
    ∀ c, 4 - c = d → c ≤ 4 → Ev (fun k => clavigerref07_mixed.l0 k s p (mkB ((List.range (4 * c)).map (rmx (bb p) (bb s)))) (c : Int)) (T (rmx (bb p) (bb s))) := by
  induction d with
  | zero =>
    intro c hd hc
    obtain rfl : c = 4 := by omega
    refine Ev.step (f := fun _ => some (T (rmx (bb p) (bb s)))) (fun k => ?_) (Ev.now _)
    simp only [clavigerref07_mixed.l0]
    rw [if_neg (by omega)]
    rfl
  | succ d ih =>
    intro c hd hc
    refine Ev.step (fun k => ?_) (mx1 s p c hs hp (by omega) (ih (c + 1) (by omega) (by omega)) 4 0 (by omega) (by omega))
    simp only [clavigerref07_mixed.l0]
    rw [if_pos (by omega)]
    rfl
theorem fits_c (s : ByteArray) : clavigerref07_fits.f s = some (decide (s.size = 16)) := by
  unfold clavigerref07_fits.f
  by_cases h : s.size = 16
  · rw [h]; rfl
  · rw [decide_eq_false h]; congr 1; exact beq_eq_false_iff_ne.mpr (by omega)
theorem rmixed_c (s p : ByteArray) (hs : s.size = 16) (hp : p.size = 4) : Ev (fun k => clavigerref07_mixed.f k s p) (T (rmx (bb p) (bb s))) := by
  unfold clavigerref07_mixed.f
  exact evs (fits_c s) (evp (by simp [hs]) (mx0 s p hs hp 4 0 (by omega) (by omega)))
theorem T_ge {g h : Nat → Nat} (H : ∀ i, g i = h i) : T g = T h := T_congr (fun i _ => H i)

def shT (s : ByteArray) : ByteArray := if s.size = 16 then T (SH (bb s)) else ⟨#[]⟩
def uhT (s : ByteArray) : ByteArray := if s.size = 16 then T (UH (bb s)) else ⟨#[]⟩
def mxT (s : ByteArray) : ByteArray := if s.size = 16 then T (MX (bb s)) else ⟨#[]⟩
def umT (s : ByteArray) : ByteArray := if s.size = 16 then T (UX (bb s)) else ⟨#[]⟩
def kyT (s k : ByteArray) : ByteArray := if s.size = 16 then if k.size = 16 then xorT s k else ⟨#[]⟩ else ⟨#[]⟩
def sbT (s : ByteArray) : ByteArray := mkB ((nb s).map sN)
def bkT (s : ByteArray) : ByteArray := mkB ((nb s).map bN)
def doT (s k : ByteArray) (l : Bool) : ByteArray := if s.size = 16 then if k.size = 16 then kyT (if l = true then shT (sbT s) else mxT (shT (sbT s))) k else ⟨#[]⟩ else ⟨#[]⟩
def unT (s k : ByteArray) (l : Bool) : ByteArray := bkT (uhT (if l = true then kyT s k else umT (kyT s k)))
theorem rmoved_no (s : ByteArray) (n : Int) (h : ¬ s.size = 16) : Ev (fun k => clavigerref07_moved.f k s n) ⟨#[]⟩ := by
  unfold clavigerref07_moved.f
  exact evs (fits_c s) (evn (by simp [h]) (Ev.now _))
theorem rmixed_no (s p : ByteArray) (h : ¬ s.size = 16) : Ev (fun k => clavigerref07_mixed.f k s p) ⟨#[]⟩ := by
  unfold clavigerref07_mixed.f
  exact evs (fits_c s) (evn (by simp [h]) (Ev.now _))
theorem rshift_t (s : ByteArray) : Ev (fun k => clavigerref07_Shift.f k s) (shT s) := by
  unfold clavigerref07_Shift.f shT
  by_cases h : s.size = 16
  · rw [if_pos h]; exact evb (rmoved1_c s h) (Ev.now _)
  · rw [if_neg h]; exact evb (rmoved_no s 1 h) (Ev.now _)
theorem runshift_t (s : ByteArray) : Ev (fun k => clavigerref07_Unshift.f k s) (uhT s) := by
  unfold clavigerref07_Unshift.f uhT
  by_cases h : s.size = 16
  · rw [if_pos h]; exact evb (rmoved3_c s h) (Ev.now _)
  · rw [if_neg h]; exact evb (rmoved_no s 3 h) (Ev.now _)
theorem rmx_MX {g : Nat → Nat} (hg : ∀ i, g i < 256) (i : Nat) : rmx (bb ⟨#[2, 3, 1, 1]⟩) g i = MX g i := by
  unfold rmx MX m0
  rw [show bb ⟨#[2, 3, 1, 1]⟩ 0 = 2 from rfl, show bb ⟨#[2, 3, 1, 1]⟩ 1 = 3 from rfl, show bb ⟨#[2, 3, 1, 1]⟩ 2 = 1 from rfl, show bb ⟨#[2, 3, 1, 1]⟩ 3 = 1 from rfl, nx_zero, (gm_sm (hg i)).2.1, (gm_sm (hg (nx i 1))).2.2.1, (gm_sm (hg (nx i 2))).1, (gm_sm (hg (nx i 3))).1]
  simp only [Nat.xor_assoc]
theorem rmx_UX (g : Nat → Nat) (i : Nat) : rmx (bb ⟨#[14, 11, 13, 9]⟩) g i = UX g i := by
  unfold rmx UX u0
  rw [show bb ⟨#[14, 11, 13, 9]⟩ 0 = 14 from rfl, show bb ⟨#[14, 11, 13, 9]⟩ 1 = 11 from rfl, show bb ⟨#[14, 11, 13, 9]⟩ 2 = 13 from rfl, show bb ⟨#[14, 11, 13, 9]⟩ 3 = 9 from rfl, nx_zero]
  simp only [Nat.xor_assoc]
theorem rmix_t (s : ByteArray) : Ev (fun k => clavigerref07_Mix.f k s) (mxT s) := by
  unfold clavigerref07_Mix.f mxT
  by_cases h : s.size = 16
  · rw [if_pos h, ← T_ge (fun i => rmx_MX (bb_lt s) i)]; exact evb (rmixed_c s _ h rfl) (Ev.now _)
  · rw [if_neg h]; exact evb (rmixed_no s _ h) (Ev.now _)
theorem runmix_t (s : ByteArray) : Ev (fun k => clavigerref07_Unmix.f k s) (umT s) := by
  unfold clavigerref07_Unmix.f umT
  by_cases h : s.size = 16
  · rw [if_pos h, ← T_ge (fun i => rmx_UX (bb s) i)]; exact evb (rmixed_c s _ h rfl) (Ev.now _)
  · rw [if_neg h]; exact evb (rmixed_no s _ h) (Ev.now _)
theorem rkey_t (s k : ByteArray) : Ev (fun n => clavigerref07_Key.f n s k) (kyT s k) := by
  unfold clavigerref07_Key.f kyT
  by_cases h : s.size = 16
  · rw [if_pos h]
    refine evs (fits_c s) (evp (by simp [h]) (evs (fits_c k) ?_))
    by_cases h' : k.size = 16
    · rw [if_pos h']; exact evp (by simp [h']) (evb (rxor_c s k (by omega) (by omega)) (Ev.now _))
    · rw [if_neg h']; exact evn (by simp [h']) (Ev.now _)
  · rw [if_neg h]
    exact evs (fits_c s) (evn (by simp [h]) (Ev.now _))
theorem uhT_le (s : ByteArray) : (uhT s).size ≤ 16 := by
  unfold uhT
  split
  · rw [T_size]; omega
  · exact Nat.zero_le _
theorem rdo_t (s k : ByteArray) (l : Bool) : Ev (fun n => clavigerref07_Do.f n s k l) (doT s k l) := by
  unfold clavigerref07_Do.f doT
  by_cases h : s.size = 16
  · rw [if_pos h]
    refine evs (fits_c s) (evp (by simp [h]) (evs (fits_c k) ?_))
    by_cases h' : k.size = 16
    · rw [if_pos h']
      refine Ev.step (f := fun n => (clavigerref06_Subs.f n s).bind fun t261 => ((clavigerref07_Shift.f n t261).bind fun t262 => (if l = true then ((clavigerref07_Key.f n t262 k).bind fun t263 => (some t263)) else ((clavigerref07_Mix.f n t262).bind fun t264 => ((clavigerref07_Key.f n t264 k).bind fun t265 => (some t265)))))) (fun n => by simp only [clavigerref07_Do.j0]; rw [if_neg (by simp [h'])]) ?_
      refine evb (rSubs_c s (by omega)) (evb (rshift_t _) ?_)
      cases l with
      | true => exact evp rfl (evb (rkey_t _ _) (Ev.now _))
      | false => exact evn (by simp) (evb (rmix_t _) (evb (rkey_t _ _) (Ev.now _)))
    · rw [if_neg h']
      exact Ev.step (f := fun _ => some ⟨#[]⟩) (fun n => by simp only [clavigerref07_Do.j0]; rw [if_pos (by simp [h'])]) (Ev.now _)
  · rw [if_neg h]
    refine evs (fits_c s) (evn (by simp [h]) ?_)
    exact Ev.step (f := fun _ => some ⟨#[]⟩) (fun n => by simp only [clavigerref07_Do.j0]; rw [if_pos True.intro]) (Ev.now _)
theorem un_none (s k : ByteArray) (l : Bool) (h : ¬ (s.size = 16 ∧ k.size = 16)) : unT s k l = ⟨#[]⟩ := by
  have e : kyT s k = ⟨#[]⟩ := by
    unfold kyT
    by_cases h1 : s.size = 16
    · rw [if_pos h1, if_neg (fun h2 => h ⟨h1, h2⟩)]
    · rw [if_neg h1]
  unfold unT
  rw [e]
  cases l <;> rfl
theorem run_t (s k : ByteArray) (l : Bool) : Ev (fun n => clavigerref07_Undo.f n s k l) (unT s k l) := by
  by_cases h : s.size = 16
  · by_cases h' : k.size = 16
    · unfold clavigerref07_Undo.f unT
      refine evs (fits_c s) (evp (by simp [h]) (evs (fits_c k) ?_))
      refine Ev.step (f := fun n => (clavigerref07_Key.f n s k).bind fun t368 => (if l = true then ((clavigerref07_Unshift.f n t368).bind fun t369 => ((clavigerref06_Backs.f n t369).bind fun t370 => (some t370))) else ((clavigerref07_Unmix.f n t368).bind fun t371 => ((clavigerref07_Unshift.f n t371).bind fun t372 => ((clavigerref06_Backs.f n t372).bind fun t373 => (some t373)))))) (fun n => by simp only [clavigerref07_Undo.j0]; rw [if_neg (by simp [h'])]) ?_
      refine evb (rkey_t _ _) ?_
      cases l with
      | true => exact evp rfl (evb (runshift_t _) (evb (rBacks_c _ (by have := uhT_le (kyT s k); omega)) (Ev.now _)))
      | false => exact evn (by simp) (evb (runmix_t _) (evb (runshift_t _) (evb (rBacks_c _ (by have := uhT_le (umT (kyT s k)); omega)) (Ev.now _))))
    · rw [un_none s k l (fun e => h' e.2)]
      unfold clavigerref07_Undo.f
      refine evs (fits_c s) (evp (by simp [h]) (evs (fits_c k) ?_))
      exact Ev.step (f := fun _ => some ⟨#[]⟩) (fun n => by simp only [clavigerref07_Undo.j0]; rw [if_pos (by simp [h'])]) (Ev.now _)
  · rw [un_none s k l (fun e => h e.1)]
    unfold clavigerref07_Undo.f
    refine evs (fits_c s) (evn (by simp [h]) ?_)
    exact Ev.step (f := fun _ => some ⟨#[]⟩) (fun n => by simp only [clavigerref07_Undo.j0]; rw [if_pos True.intro]) (Ev.now _)

theorem T_out {g : Nat → Nat} (hg : ∀ i, g i < 256) (i : Nat) (hi : i < 16) : bb (T g) i = g i := T_bb (fun i _ => hg i) i hi
theorem ms_size (f : Nat → Nat) (s : ByteArray) : (mkB ((nb s).map f)).size = s.size := by rw [mkB_size, List.length_map, nb_length]
theorem bk_sb (s : ByteArray) : bkT (sbT s) = s := by
  unfold bkT sbT
  rw [nb_mkB (isB_map sN_lt _), List.map_map]
  conv => rhs; rw [← mkB_nb s, ← List.map_id (nb s)]
  congr 1
  exact List.map_congr_left (fun x hx => (bs_id (isB_nb s x hx)).1)
theorem sb_bk (s : ByteArray) : sbT (bkT s) = s := by
  unfold bkT sbT
  rw [nb_mkB (isB_map bN_lt _), List.map_map]
  conv => rhs; rw [← mkB_nb s, ← List.map_id (nb s)]
  congr 1
  exact List.map_congr_left (fun x hx => (bs_id (isB_nb s x hx)).2.1)
theorem SH_lt {g : Nat → Nat} (hg : ∀ i, g i < 256) (i : Nat) : SH g i < 256 := hg _
theorem UH_lt {g : Nat → Nat} (hg : ∀ i, g i < 256) (i : Nat) : UH g i < 256 := hg _
theorem sh_size {s : ByteArray} (h : s.size = 16) : (shT s).size = 16 := by unfold shT; rw [if_pos h, T_size]
theorem uh_size {s : ByteArray} (h : s.size = 16) : (uhT s).size = 16 := by unfold uhT; rw [if_pos h, T_size]
theorem mx_size {s : ByteArray} (h : s.size = 16) : (mxT s).size = 16 := by unfold mxT; rw [if_pos h, T_size]
theorem um_size {s : ByteArray} (h : s.size = 16) : (umT s).size = 16 := by unfold umT; rw [if_pos h, T_size]
theorem ky_size {s k : ByteArray} (h : s.size = 16) (h' : k.size = 16) : (kyT s k).size = 16 := by unfold kyT; rw [if_pos h, if_pos h', xorT_size]; omega
theorem uh_sh {s : ByteArray} (h : s.size = 16) : uhT (shT s) = s := by
  unfold uhT
  rw [if_pos (sh_size h)]
  unfold shT
  rw [if_pos h]
  conv => rhs; rw [← T_of s h]
  exact T_congr (fun i hi => (UH_congr (T_out (SH_lt (bb_lt s))) i).trans (UH_SH hi))
theorem sh_uh {s : ByteArray} (h : s.size = 16) : shT (uhT s) = s := by
  unfold shT
  rw [if_pos (uh_size h)]
  unfold uhT
  rw [if_pos h]
  conv => rhs; rw [← T_of s h]
  exact T_congr (fun i hi => (SH_congr (T_out (UH_lt (bb_lt s))) i).trans (SH_UH hi))
theorem um_mx {s : ByteArray} (h : s.size = 16) : umT (mxT s) = s := by
  unfold umT
  rw [if_pos (mx_size h)]
  unfold mxT
  rw [if_pos h]
  conv => rhs; rw [← T_of s h]
  exact T_congr (fun i hi => (UX_congr (T_out (MX_lt (bb_lt s))) hi).trans (UX_MX (bb_lt s) i))
theorem mx_um {s : ByteArray} (h : s.size = 16) : mxT (umT s) = s := by
  unfold mxT
  rw [if_pos (um_size h)]
  unfold umT
  rw [if_pos h]
  conv => rhs; rw [← T_of s h]
  exact T_congr (fun i hi => (MX_congr (T_out (UX_lt (bb s))) hi).trans (MX_UX (bb_lt s) i))
theorem xorT_16 {a b : ByteArray} (ha : a.size = 16) (hb : b.size = 16) : xorT a b = T (fun i => bb a i ^^^ bb b i) := by unfold xorT T; rw [ha, hb]; rfl
theorem ky_16 {a b : ByteArray} (ha : a.size = 16) (hb : b.size = 16) : kyT a b = T (fun i => bb a i ^^^ bb b i) := by unfold kyT; rw [if_pos ha, if_pos hb, xorT_16 ha hb]
theorem ky_ky {s k : ByteArray} (h : s.size = 16) (h' : k.size = 16) : kyT (kyT s k) k = s := by
  rw [ky_16 (ky_size h h') h', ky_16 h h']
  conv => rhs; rw [← T_of s h]
  exact T_congr (fun i hi => by rw [T_out (fun i => xor_lt (bb_lt s i) (bb_lt k i)) i hi, Nat.xor_assoc, Nat.xor_self, Nat.xor_zero])
theorem sb_size (s : ByteArray) : (sbT s).size = s.size := ms_size sN s
theorem bk_size (s : ByteArray) : (bkT s).size = s.size := ms_size bN s
theorem do_size {s k : ByteArray} (h : s.size = 16) (h' : k.size = 16) (l : Bool) : (doT s k l).size = 16 := by
  unfold doT
  rw [if_pos h, if_pos h']
  have h1 := sh_size ((sb_size s).trans h)
  cases l
  · rw [if_neg (by simp)]; exact ky_size (mx_size h1) h'
  · rw [if_pos rfl]; exact ky_size h1 h'
theorem un_size {s k : ByteArray} (h : s.size = 16) (h' : k.size = 16) (l : Bool) : (unT s k l).size = 16 := by
  unfold unT
  rw [bk_size]
  have h1 := ky_size h h'
  cases l
  · rw [if_neg (by simp)]; exact uh_size (um_size h1)
  · rw [if_pos rfl]; exact uh_size h1
theorem un_do {s k : ByteArray} (h : s.size = 16) (h' : k.size = 16) (l : Bool) : unT (doT s k l) k l = s := by
  have h1 := sh_size ((sb_size s).trans h)
  unfold unT doT
  rw [if_pos h, if_pos h']
  cases l
  · rw [if_neg (by simp), if_neg (by simp), ky_ky (mx_size h1) h', um_mx h1, uh_sh ((sb_size s).trans h), bk_sb]
  · rw [if_pos rfl, if_pos rfl, ky_ky h1 h', uh_sh ((sb_size s).trans h), bk_sb]
theorem do_un {s k : ByteArray} (h : s.size = 16) (h' : k.size = 16) (l : Bool) : doT (unT s k l) k l = s := by
  have h1 := ky_size h h'
  unfold doT
  rw [if_pos (un_size h h' l), if_pos h']
  unfold unT
  rw [sb_bk]
  cases l
  · rw [if_neg (by simp), if_neg (by simp), sh_uh (um_size h1), mx_um h1, ky_ky h h']
  · rw [if_pos rfl, if_pos rfl, sh_uh h1, ky_ky h h']
end Go.Proofs.Ytokkhnjedmlbhaa.M
end
