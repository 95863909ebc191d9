-- written by the session's program wip/hp.py over the kit's print; Lean checks it
import Derived.Test.YtmcpfkgahmdkgaaZPreq3
import Derived.Test.YtmcpfkgahmdkgaaZPreq2
import Derived.Test.YtmcpfkgahmdkgaaZTempM
import Derived.Test.YtmcpfkgahmdkgaaZPrg33
import Derived.Test.YtmcpfkgahmdkgaaZPrL33awake
namespace Go.Proofs.Ytmcpfkgahmdkgaa.Pr
open Go.RowKit Go.Proofs.YtmcpfkgahmdkgaaW.PrintWords Go.Proofs.YtmcpfkgahmdkgaaW.PrintLast Go.Proofs.YtmcpfkgahmdkgaaW.PrintMore
attribute [local go_sem] max2_int min2_int max_two min_two max_three min_three max_four min_four   -- for this text's walks alone
set_option linter.unusedVariables false
set_option linter.unusedSimpArgs false

attribute [local go_sem high] eqA77
mutual
def clavigerlaw33_TemplOptions.j0 : Nat → List (S102) → List (S76) → Bool → Option (Bool)
 | 0, _, _, _ => none
 | k + 1, x0, x1, x23 => if x23 = true then ((clavigerlaw33_awake.f k).bind fun t1 => (some t1)) else (clavigerlaw33_TemplOptions.l0 k x0 x1 ([] : List (S77)) x1 (x1.length : Int) 0)
def clavigerlaw33_TemplOptions.l0 : Nat → List (S102) → List (S76) → List (S77) → List (S76) → Int → Int → Option (Bool)
 | 0, _, _, _, _, _, _ => none
 | k + 1, x0, x1, x5, x25, x26, x27 => if x27 < x26 then (if 0 ≤ x27 then (if x27 < (x25.length : Int) then (if (((rd_T76 x25 x27).f0).size : Int) > 20 then ((clavigerlaw33_awake.f k).bind fun t2 => (some t2)) else (if (((rd_T76 x25 x27).f1).size : Int) > 1000 then ((clavigerlaw33_awake.f k).bind fun t3 => (some t3)) else (if x5.length < 4398046511104 then (clavigerlaw33_TemplOptions.l0 k x0 x1 (x5 ++ [(⟨(rd_T76 x25 x27).f0, (rd_T76 x25 x27).f1⟩ : S77)]) x25 x26 (wrap64 (x27 + 1))) else (none)))) else (none)) else (none)) else ((templ_Options.f k x0).bind fun bt4 => ((clavigerref33_Options.f k x0).bind fun bt5 => ((templ_From.f k x5).bind fun bt6 => ((clavigerref33_From.f k x1).bind fun bt7 => (if (bt4.1.length : Int) = (bt5.1.length : Int) then (if bt4.2 = bt5.2 then (if (bt4.1.length : Int) = 1 then (if 0 < (bt4.1.length : Int) then (if 0 < (bt5.1.length : Int) then (clavigerlaw33_TemplOptions.j2 k bt6.1 bt6.2 bt7.1 bt7.2 (!((((rd_T77 bt4.1 0).f0).toList) == (((rd_T76 bt5.1 0).f0).toList)) || (!((((rd_T77 bt4.1 0).f1).toList) == (((rd_T76 bt5.1 0).f1).toList))))) else (none)) else (none)) else (clavigerlaw33_TemplOptions.j2 k bt6.1 bt6.2 bt7.1 bt7.2 false)) else (clavigerlaw33_TemplOptions.j2 k bt6.1 bt6.2 bt7.1 bt7.2 true)) else (clavigerlaw33_TemplOptions.j2 k bt6.1 bt6.2 bt7.1 bt7.2 true))))))
def clavigerlaw33_TemplOptions.j2 : Nat → List (S102) → Int → List (S102) → Int → Bool → Option (Bool)
 | 0, _, _, _, _, _ => none
 | k + 1, x12, x13, x14, x15, x90 => if x90 = true then (some false) else ((clavigerplain_Attrs.f k x12 x14).bind fun t8 => (if t8 = true then (if x13 = x15 then ((clavigerlaw33_awake.f k).bind fun t9 => (some t9)) else (some false)) else (some false)))
end
def clavigerlaw33_TemplOptions.f (k : Nat) (l0 : List (S102)) (l1 : List (S76)) : Option (Bool) := (clavigerplain_Few.f k l0 60).bind fun t10 => (if t10 = true then (clavigerlaw33_TemplOptions.j0 k l0 l1 (decide ((l1.length : Int) > 10))) else (clavigerlaw33_TemplOptions.j0 k l0 l1 true))
theorem clavigerlaw33_TemplOptions.mono_l : ∀ k, (∀ y11 y12 y13, LeO (clavigerlaw33_TemplOptions.j0 k y11 y12 y13) (clavigerlaw33_TemplOptions.j0 (k + 1) y11 y12 y13)) ∧ (∀ y11 y12 y13 y14 y15 y16, LeO (clavigerlaw33_TemplOptions.l0 k y11 y12 y13 y14 y15 y16) (clavigerlaw33_TemplOptions.l0 (k + 1) y11 y12 y13 y14 y15 y16)) ∧ (∀ y11 y12 y13 y14 y15, LeO (clavigerlaw33_TemplOptions.j2 k y11 y12 y13 y14 y15) (clavigerlaw33_TemplOptions.j2 (k + 1) y11 y12 y13 y14 y15))
 | 0 => ⟨fun _ _ _ r h => by simp [clavigerlaw33_TemplOptions.j0] at h, fun _ _ _ _ _ _ r h => by simp [clavigerlaw33_TemplOptions.l0] at h, fun _ _ _ _ _ r h => by simp [clavigerlaw33_TemplOptions.j2] at h⟩
 | k + 1 => by
  obtain ⟨ih0, ih1, ih2⟩ := clavigerlaw33_TemplOptions.mono_l k
  refine ⟨?_, ?_, ?_⟩
  ·intro y11 y12 y13
   unfold clavigerlaw33_TemplOptions.j0
   repeat' first
   | (with_reducible exact ih0 _ _ _)
   | (with_reducible exact ih1 _ _ _ _ _ _)
   | (with_reducible exact ih2 _ _ _ _ _)
   | (with_reducible exact clavigerlaw33_awake.mono _)
   | (with_reducible exact clavigerplain_Attrs.mono _ _ _)
   | (with_reducible exact clavigerplain_Few.mono _ _ _)
   | (with_reducible exact clavigerref33_From.mono _ _)
   | (with_reducible exact clavigerref33_Options.mono _ _)
   | (with_reducible exact templ_From.mono _ _)
   | (with_reducible exact templ_Options.mono _ _)
   | (with_reducible exact LeO.refl _)
   | (with_reducible exact LeO.none _)
   | (with_reducible refine LeO.ite ?_ ?_)
   | (with_reducible refine LeO.bind ?_ (fun _ => ?_))
  ·intro y11 y12 y13 y14 y15 y16
   unfold clavigerlaw33_TemplOptions.l0
   repeat' first
   | (with_reducible exact ih0 _ _ _)
   | (with_reducible exact ih1 _ _ _ _ _ _)
   | (with_reducible exact ih2 _ _ _ _ _)
   | (with_reducible exact clavigerlaw33_awake.mono _)
   | (with_reducible exact clavigerplain_Attrs.mono _ _ _)
   | (with_reducible exact clavigerplain_Few.mono _ _ _)
   | (with_reducible exact clavigerref33_From.mono _ _)
   | (with_reducible exact clavigerref33_Options.mono _ _)
   | (with_reducible exact templ_From.mono _ _)
   | (with_reducible exact templ_Options.mono _ _)
   | (with_reducible exact LeO.refl _)
   | (with_reducible exact LeO.none _)
   | (with_reducible refine LeO.ite ?_ ?_)
   | (with_reducible refine LeO.bind ?_ (fun _ => ?_))
  ·intro y11 y12 y13 y14 y15
   unfold clavigerlaw33_TemplOptions.j2
   repeat' first
   | (with_reducible exact ih0 _ _ _)
   | (with_reducible exact ih1 _ _ _ _ _ _)
   | (with_reducible exact ih2 _ _ _ _ _)
   | (with_reducible exact clavigerlaw33_awake.mono _)
   | (with_reducible exact clavigerplain_Attrs.mono _ _ _)
   | (with_reducible exact clavigerplain_Few.mono _ _ _)
   | (with_reducible exact clavigerref33_From.mono _ _)
   | (with_reducible exact clavigerref33_Options.mono _ _)
   | (with_reducible exact templ_From.mono _ _)
   | (with_reducible exact templ_Options.mono _ _)
   | (with_reducible exact LeO.refl _)
   | (with_reducible exact LeO.none _)
   | (with_reducible refine LeO.ite ?_ ?_)
   | (with_reducible refine LeO.bind ?_ (fun _ => ?_))
theorem clavigerlaw33_TemplOptions.mono : ∀ a0 a1 k, LeO (clavigerlaw33_TemplOptions.f k a0 a1) (clavigerlaw33_TemplOptions.f (k + 1) a0 a1) := by
 intro a0 a1 k
 obtain ⟨ih0, ih1, ih2⟩ := clavigerlaw33_TemplOptions.mono_l k
 unfold clavigerlaw33_TemplOptions.f
 repeat' first
   | (with_reducible exact ih0 _ _ _)
   | (with_reducible exact ih1 _ _ _ _ _ _)
   | (with_reducible exact ih2 _ _ _ _ _)
   | (with_reducible exact clavigerlaw33_awake.mono _)
   | (with_reducible exact clavigerplain_Attrs.mono _ _ _)
   | (with_reducible exact clavigerplain_Few.mono _ _ _)
   | (with_reducible exact clavigerref33_From.mono _ _)
   | (with_reducible exact clavigerref33_Options.mono _ _)
   | (with_reducible exact templ_From.mono _ _)
   | (with_reducible exact templ_Options.mono _ _)
   | (with_reducible exact LeO.refl _)
   | (with_reducible exact LeO.none _)
   | (with_reducible refine LeO.ite ?_ ?_)
   | (with_reducible refine LeO.bind ?_ (fun _ => ?_))
set_option maxHeartbeats 8000000 in
set_option maxRecDepth 100000 in
theorem clavigerlaw33_TemplOptions.calls (k : Nat) (A0 : Option Addr) (c0 : Nat) (l0 : List (S102)) (A1 : Option Addr) (c1 : Nat) (l1 : List (S76)) (r : Bool) (w : World) (hr0 : Kd.C k102 w A0 l0.length l0) (hc0 : l0.length ≤ c0) (hr1 : Kd.C k76 w A1 l1.length l1) (hc1 : l1.length ≤ c1) (h : clavigerlaw33_TemplOptions.f k l0 l1 = some r) :
  Calls Try.prog 12 #[.slice A0 l0.length c0, .slice A1 l1.length c1] w fun e w' => e = .returned (.bool r) ∧ Below w.heap.size w w' := by
 have hu76 := Try.underlying76
 have hu77 := Try.underlying77
 have HR0 := Aside0.mk hr0
 have HC0 := Aside0.mk hc0
 clear hr0 hc0
 have HR1 := Aside0.mk hr1
 have HC1 := Aside0.mk hc1
 clear hr1 hc1
 have HB := Aside0.mk (Below.refl w.heap.size w)
 have H : ((clavigerplain_Few.f k l0 60).bind fun t10 => (if t10 = true then (clavigerlaw33_TemplOptions.j0 k l0 l1 (decide ((l1.length : Int) > 10))) else (clavigerlaw33_TemplOptions.j0 k l0 l1 true))) = some r := h
 clear h
 have HC3 := Aside0.mk H
 clear H
 go_enter Try.func12, Try.ntmps12
 go_upto_region 1 with (fail)
 repeat (go_quiet (fail); go_upto_region 1 with (fail))
 go_cut [23] (fun v23 wc => ∃ (kq : Nat) (x23_2 : Bool), v23 = .bool x23_2 ∧ Aside0 (clavigerlaw33_TemplOptions.j0 kq l0 l1 x23_2 = some r) ∧ Aside0 (kq ≤ k) ∧ Aside0 (Below w.heap.size w wc))
 case first =>
  have H := HC3.out
  clear HC3
  replace H := Option.bind_eq_some_iff.mp H
  obtain ⟨t10, A40, H⟩ := H
  try dsimp only at H
  have A4 := Aside0.mk A40
  clear A40
  by_cases c5 : t10 = true
  ·subst c5
   have H1 : (clavigerlaw33_TemplOptions.j0 k l0 l1 (decide ((l1.length : Int) > 10))) = some r := by rw [if_pos rfl] at H; exact H
   clear H
   have H := H1
   clear H1
   have H' := Aside0.mk H
   clear H
   go_wp2_with (first | (go_at_call 47; (with_reducible refine (clavigerplain_Few.calls k _ _ l0 60 true _ ?side1 ?side2 A4.out).mono ?_); (case side1 => repeat (first | exact (Kd.C_below HR0.out HB.out) | (with_reducible refine Kd.C_alloc ?_ _) | (with_reducible refine Kd.C_drewN ?_ _) | (with_reducible refine Kd.C_drew ?_))); (case side2 => exact HC0.out); rintro e w' ⟨rfl, ⟨nd, rfl⟩⟩; (try first | exact ⟨rfl, _, World.drewN_drewN _ _ _⟩ | exact ⟨rfl, _, Eq.trans (World.drewN_drewN _ _ _) (congrArg (World.drewN _) (Nat.add_assoc _ _ _))⟩)))
   repeat (go_quiet (first | (go_at_call 47; (with_reducible refine (clavigerplain_Few.calls k _ _ l0 60 true _ ?side1 ?side2 A4.out).mono ?_); (case side1 => repeat (first | exact (Kd.C_below HR0.out HB.out) | (with_reducible refine Kd.C_alloc ?_ _) | (with_reducible refine Kd.C_drewN ?_ _) | (with_reducible refine Kd.C_drew ?_))); (case side2 => exact HC0.out); rintro e w' ⟨rfl, ⟨nd, rfl⟩⟩; (try first | exact ⟨rfl, _, World.drewN_drewN _ _ _⟩ | exact ⟨rfl, _, Eq.trans (World.drewN_drewN _ _ _) (congrArg (World.drewN _) (Nat.add_assoc _ _ _))⟩))); try go_wp2_with (first | (go_at_call 47; (with_reducible refine (clavigerplain_Few.calls k _ _ l0 60 true _ ?side1 ?side2 A4.out).mono ?_); (case side1 => repeat (first | exact (Kd.C_below HR0.out HB.out) | (with_reducible refine Kd.C_alloc ?_ _) | (with_reducible refine Kd.C_drewN ?_ _) | (with_reducible refine Kd.C_drew ?_))); (case side2 => exact HC0.out); rintro e w' ⟨rfl, ⟨nd, rfl⟩⟩; (try first | exact ⟨rfl, _, World.drewN_drewN _ _ _⟩ | exact ⟨rfl, _, Eq.trans (World.drewN_drewN _ _ _) (congrArg (World.drewN _) (Nat.add_assoc _ _ _))⟩))))
   go_meet
   case rel => exact ⟨_, (decide ((l1.length : Int) > 10)), (by first | rfl | (simp; done) | (simp [*]; done)), H', ⟨by first | omega | exact Nat.le_refl _⟩, ⟨by repeat first | with_reducible (first | exact HB.out | apply bA | apply bN | apply bD) | exact HB.out⟩⟩
  ·replace c5 := Bool.eq_false_iff.mpr c5
   subst c5
   have H1 : (clavigerlaw33_TemplOptions.j0 k l0 l1 true) = some r := by rw [if_neg (show ¬ (false = true) by decide)] at H; exact H
   clear H
   have H := H1
   clear H1
   have H' := Aside0.mk H
   clear H
   go_wp2_with (first | (go_at_call 47; (with_reducible refine (clavigerplain_Few.calls k _ _ l0 60 false _ ?side1 ?side2 A4.out).mono ?_); (case side1 => repeat (first | exact (Kd.C_below HR0.out HB.out) | (with_reducible refine Kd.C_alloc ?_ _) | (with_reducible refine Kd.C_drewN ?_ _) | (with_reducible refine Kd.C_drew ?_))); (case side2 => exact HC0.out); rintro e w' ⟨rfl, ⟨nd, rfl⟩⟩; (try first | exact ⟨rfl, _, World.drewN_drewN _ _ _⟩ | exact ⟨rfl, _, Eq.trans (World.drewN_drewN _ _ _) (congrArg (World.drewN _) (Nat.add_assoc _ _ _))⟩)))
   repeat (go_quiet (first | (go_at_call 47; (with_reducible refine (clavigerplain_Few.calls k _ _ l0 60 false _ ?side1 ?side2 A4.out).mono ?_); (case side1 => repeat (first | exact (Kd.C_below HR0.out HB.out) | (with_reducible refine Kd.C_alloc ?_ _) | (with_reducible refine Kd.C_drewN ?_ _) | (with_reducible refine Kd.C_drew ?_))); (case side2 => exact HC0.out); rintro e w' ⟨rfl, ⟨nd, rfl⟩⟩; (try first | exact ⟨rfl, _, World.drewN_drewN _ _ _⟩ | exact ⟨rfl, _, Eq.trans (World.drewN_drewN _ _ _) (congrArg (World.drewN _) (Nat.add_assoc _ _ _))⟩))); try go_wp2_with (first | (go_at_call 47; (with_reducible refine (clavigerplain_Few.calls k _ _ l0 60 false _ ?side1 ?side2 A4.out).mono ?_); (case side1 => repeat (first | exact (Kd.C_below HR0.out HB.out) | (with_reducible refine Kd.C_alloc ?_ _) | (with_reducible refine Kd.C_drewN ?_ _) | (with_reducible refine Kd.C_drew ?_))); (case side2 => exact HC0.out); rintro e w' ⟨rfl, ⟨nd, rfl⟩⟩; (try first | exact ⟨rfl, _, World.drewN_drewN _ _ _⟩ | exact ⟨rfl, _, Eq.trans (World.drewN_drewN _ _ _) (congrArg (World.drewN _) (Nat.add_assoc _ _ _))⟩))))
   go_meet
   case rel => exact ⟨_, (true), (by first | rfl | (simp; done) | (simp [*]; done)), H', ⟨by first | omega | exact Nat.le_refl _⟩, ⟨by repeat first | with_reducible (first | exact HB.out | apply bA | apply bN | apply bD) | exact HB.out⟩⟩
 case rest =>
  clear HC3
  try clear c1
  try clear p2
  try clear c5
  obtain ⟨kq, x23_2, rfl, HA, HJ2, HB⟩ := hcut
  cases kq with
  | zero => exact absurd HA.out (by simp [clavigerlaw33_TemplOptions.j0])
  | succ kj2 =>
   have H := HA.out
   clear HA
   simp only [clavigerlaw33_TemplOptions.j0] at H
   by_cases c6 : x23_2 = true
   ·subst c6
    have H1 : ((clavigerlaw33_awake.f kj2).bind fun t1 => (some t1)) = some r := by rw [if_pos rfl] at H; exact H
    clear H
    have H := H1
    clear H1
    replace H := Option.bind_eq_some_iff.mp H
    obtain ⟨t1, A70, H⟩ := H
    replace H : (some t1) = some r := H
    have A7 := Aside0.mk A70
    clear A70
    obtain rfl := Option.some.inj H
    go_wp2_with (first | (go_at_call 48; (with_reducible refine (clavigerlaw33_awake.calls kj2  t1 _ A7.out).mono ?_); rintro e w8 ⟨rfl, hb⟩; have n0_ := Aside0.mk (below_step (by repeat first | with_reducible (first | exact HB.out | apply bA | apply bN | apply bD) | exact HB.out) hb); clear HB; have HB := n0_; clear n0_; (try clear hb); (try clear hb2); (try clear hk); (try clear hi)))
    repeat (go_quiet (first | (go_at_call 48; (with_reducible refine (clavigerlaw33_awake.calls kj2  t1 _ A7.out).mono ?_); rintro e w8 ⟨rfl, hb⟩; have n0_ := Aside0.mk (below_step (by repeat first | with_reducible (first | exact HB.out | apply bA | apply bN | apply bD) | exact HB.out) hb); clear HB; have HB := n0_; clear n0_; (try clear hb); (try clear hb2); (try clear hk); (try clear hi))); try go_wp2_with (first | (go_at_call 48; (with_reducible refine (clavigerlaw33_awake.calls kj2  t1 _ A7.out).mono ?_); rintro e w8 ⟨rfl, hb⟩; have n0_ := Aside0.mk (below_step (by repeat first | with_reducible (first | exact HB.out | apply bA | apply bN | apply bD) | exact HB.out) hb); clear HB; have HB := n0_; clear n0_; (try clear hb); (try clear hb2); (try clear hk); (try clear hi))))
    go_ret
    exact ⟨by first | rfl | (simp [*, errW_none, errW_some] <;> rfl), by repeat first | with_reducible (first | exact HB.out | apply bA | apply bN | apply bD) | exact HB.out⟩
   ·replace c6 := Bool.eq_false_iff.mpr c6
    subst c6
    have H1 : (clavigerlaw33_TemplOptions.l0 kj2 l0 l1 ([] : List (S77)) l1 (l1.length : Int) 0) = some r := by rw [if_neg (show ¬ (false = true) by decide)] at H; exact H
    clear H
    have H := H1
    clear H1
    have H' := Aside0.mk H
    clear H
    go_wp2
    repeat (go_quiet (fail); try go_wp2)
    go_loopg [5, 27] kj2 (fun kq v5 v27 w' => ∃ (x5_2 : List (S77)) (x27_2 : Int), v27 = .int .i64 x27_2 ∧ Aside0 (clavigerlaw33_TemplOptions.l0 kq l0 l1 x5_2 l1 (l1.length : Int) x27_2 = some r) ∧ Aside0 (kq ≤ kj2) ∧ Aside0 (Kd.R k77 77 w' w.heap.size (fun _ => True) v5 x5_2) ∧ Aside0 (Below w.heap.size w w'))
    case atStart => exact ⟨(([] : List (S77))), (0), (by first | rfl | (simp; done) | (simp [*]; done)), H', ⟨Nat.le_refl _⟩, ⟨by first | exact Kd.R_nil _ _ _ _ _ | exact Kd.N_nil _ _ _ _ _ | exact Kd.V_nil _ _ _ _ _ | exact Kd.Q_nil _ _ _ _ _ | exact Kd.S_nil _ _ _ _ _⟩, ⟨by repeat first | with_reducible (first | exact HB.out | apply bA | apply bN | apply bD) | exact HB.out⟩⟩
    case round =>
     clear H'
     try clear c1
     try clear p2
     try clear c5
     try clear c6
     try clear p2
     obtain ⟨x5_2, x27_2, rfl, HA, HK2, HO_5, HB⟩ := hrel
     cases gk with
     | zero => exact absurd HA.out (by simp [clavigerlaw33_TemplOptions.l0])
     | succ k2 =>
      have H := HA.out
      clear HA
      simp only [clavigerlaw33_TemplOptions.l0] at H
      by_cases c9 : x27_2 < (l1.length : Int)
      ·rw [if_pos c9] at H
       have c9b0 : decide (x27_2 < (l1.length : Int)) = true := decide_eq_true c9
       clear c9
       by_cases c10 : 0 ≤ x27_2
       ·rw [if_pos c10] at H
        have c10b0 : decide (0 ≤ x27_2) = true := decide_eq_true c10
        clear c10
        by_cases c11 : x27_2 < (l1.length : Int)
        ·rw [if_pos c11] at H
         have c11b0 : decide (x27_2 < (l1.length : Int)) = true := decide_eq_true c11
         clear c11
         by_cases c12 : (((rd_T76 l1 x27_2).f0).size : Int) > 20
         ·rw [if_pos c12] at H
          have c12b0 : decide (20 < (((rd_T76 l1 x27_2).f0).size : Int)) = true := decide_eq_true c12
          have c12b1 : decide (20 < ((rd_T76 l1 x27_2).f0).size) = true := decide_eq_true (by omega)
          clear c12
          replace H := Option.bind_eq_some_iff.mp H
          obtain ⟨t2, A130, H⟩ := H
          replace H : (some t2) = some r := H
          have A13 := Aside0.mk A130
          clear A130
          obtain rfl := Option.some.inj H
          have p5001 : 0 ≤ (x27_2 : Int) := of_decide_eq_true (by assumption)
          have q5001 : x27_2 < (l1.length : Int) := of_decide_eq_true (by assumption)
          obtain ⟨ad5001, e5001, hx5001_0, hx5001_1⟩ := at_T76 HR1.out x27_2 p5001 q5001
          cases e5001
          replace hx5001_0 := (HB.out.cell (World.block_lt_of_cell? w _ hx5001_0)).trans hx5001_0
          replace hx5001_1 := (HB.out.cell (World.block_lt_of_cell? w _ hx5001_1)).trans hx5001_1
          replace p5001 := eq_true p5001
          replace q5001 := eq_true q5001
          go_wp2_with (first | ((with_reducible refine gate_dst (N := 7) rfl ?_); (try (refine gate_guard (by rfl) ?_; dsimp only)); refine box_event ?hg (N := 7) ?hd (cs := #[.string (⟨#[]⟩ : ByteArray), .string (⟨#[]⟩ : ByteArray)]) (t := 76) ?hr ?_; (case hd => rfl); (case hg => rfl); (case hr => first | (go_simp; done) | (go_simp; rfl)); intro gb435 hg w14 hbox hb; have n0_ := Aside0.mk (Kd.R_below (by (with_reducible repeat (first | apply Kd.R_alloc | apply Kd.R_drewN | apply Kd.R_drew)); exact HO_5.out) hb); have n1_ := Aside0.mk (below_step (by repeat first | with_reducible (first | exact HB.out | apply bA | apply bN | apply bD) | exact HB.out) hb); have n2_ := Aside0.mk (hbox); have n3_ := Aside0.mk ((by rw [hg]; exact (below_size (by repeat first | with_reducible (first | exact HB.out | apply bA | apply bN | apply bD) | exact HB.out)) : w.heap.size ≤ gb435)); have n4_ := Aside0.mk ((by rw [hg]; exact (below_size (by repeat first | with_reducible (first | exact HB.out | apply bA | apply bN | apply bD) | exact HB.out)) : w.heap.size ≤ gb435)); clear HO_5; clear HB; have HO_5 := n0_; have HB := n1_; have BK435 := n2_; have GW435 := n3_; have GE435 := n4_; clear n0_ n1_ n2_ n3_ n4_; clear hb hbox hg; have hcz15_0 : w14.cell? ⟨gb435, 0, none⟩ = some (.string (⟨#[]⟩ : ByteArray)) := (blk_cell BK435.out 0).trans rfl; have hcz15_1 : w14.cell? ⟨gb435, 1, none⟩ = some (.string (⟨#[]⟩ : ByteArray)) := (blk_cell BK435.out 1).trans rfl; have hfz15_0 := blk_frozen BK435.out 0; have hfz15_1 := blk_frozen BK435.out 1) | (go_at_call 48; (with_reducible refine (clavigerlaw33_awake.calls k2  t2 _ A13.out).mono ?_); rintro e w16 ⟨rfl, hb⟩; have n0_ := Aside0.mk (Kd.R_below (by (with_reducible repeat (first | apply Kd.R_alloc | apply Kd.R_drewN | apply Kd.R_drew)); exact (Kd.R_mono (Kd.R_far (p := ⟨gb435, 1, none⟩) (Kd.R_far (p := ⟨gb435, 0, none⟩) (Kd.R_types HO_5.out BK435.out (by decide)) (fun _ hk => hk.2) (.string ((rd_T76 l1 x27_2).f0))) (fun _ hk => hk.2) (.string ((rd_T76 l1 x27_2).f1))) (fun _ h_ => h_.1))) hb); have n1_ := Aside0.mk (blk_below (g := gb435) (o := .cells #[.string ((rd_T76 l1 x27_2).f0), .string ((rd_T76 l1 x27_2).f1)] 76 (0, 0)) (by (with_reducible repeat (first | refine blk_drewN ?_ _ | refine blk_drew ?_ | refine blk_alloc ?_ _)); refine blk_put (cs := #[.string ((rd_T76 l1 x27_2).f0), .string (⟨#[]⟩ : ByteArray)]) ?_ 1 _ rfl; (with_reducible repeat (first | refine blk_drewN ?_ _ | refine blk_drew ?_ | refine blk_alloc ?_ _)); refine blk_put (cs := #[.string (⟨#[]⟩ : ByteArray), .string (⟨#[]⟩ : ByteArray)]) ?_ 0 _ rfl; (with_reducible repeat (first | refine blk_drewN ?_ _ | refine blk_drew ?_ | refine blk_alloc ?_ _)); exact BK435.out) hb); have n2_ := Aside0.mk (below_step (by repeat (first | (with_reducible first | exact HB.out | apply below_alloc | apply pw_below_drewN | apply below_drew1 | refine below_set ?_ GE435.out) | exact HB.out)) hb); clear HO_5; clear BK435; clear HB; have HO_5 := n0_; have BK435 := n1_; have HB := n2_; clear n0_ n1_ n2_; (try clear hb); (try clear hb2); (try clear hk); (try clear hi)))
          repeat (go_quiet (first | ((with_reducible refine gate_dst (N := 7) rfl ?_); (try (refine gate_guard (by rfl) ?_; dsimp only)); refine box_event ?hg (N := 7) ?hd (cs := #[.string (⟨#[]⟩ : ByteArray), .string (⟨#[]⟩ : ByteArray)]) (t := 76) ?hr ?_; (case hd => rfl); (case hg => rfl); (case hr => first | (go_simp; done) | (go_simp; rfl)); intro gb435 hg w14 hbox hb; have n0_ := Aside0.mk (Kd.R_below (by (with_reducible repeat (first | apply Kd.R_alloc | apply Kd.R_drewN | apply Kd.R_drew)); exact HO_5.out) hb); have n1_ := Aside0.mk (below_step (by repeat first | with_reducible (first | exact HB.out | apply bA | apply bN | apply bD) | exact HB.out) hb); have n2_ := Aside0.mk (hbox); have n3_ := Aside0.mk ((by rw [hg]; exact (below_size (by repeat first | with_reducible (first | exact HB.out | apply bA | apply bN | apply bD) | exact HB.out)) : w.heap.size ≤ gb435)); have n4_ := Aside0.mk ((by rw [hg]; exact (below_size (by repeat first | with_reducible (first | exact HB.out | apply bA | apply bN | apply bD) | exact HB.out)) : w.heap.size ≤ gb435)); clear HO_5; clear HB; have HO_5 := n0_; have HB := n1_; have BK435 := n2_; have GW435 := n3_; have GE435 := n4_; clear n0_ n1_ n2_ n3_ n4_; clear hb hbox hg; have hcz15_0 : w14.cell? ⟨gb435, 0, none⟩ = some (.string (⟨#[]⟩ : ByteArray)) := (blk_cell BK435.out 0).trans rfl; have hcz15_1 : w14.cell? ⟨gb435, 1, none⟩ = some (.string (⟨#[]⟩ : ByteArray)) := (blk_cell BK435.out 1).trans rfl; have hfz15_0 := blk_frozen BK435.out 0; have hfz15_1 := blk_frozen BK435.out 1) | (go_at_call 48; (with_reducible refine (clavigerlaw33_awake.calls k2  t2 _ A13.out).mono ?_); rintro e w16 ⟨rfl, hb⟩; have n0_ := Aside0.mk (Kd.R_below (by (with_reducible repeat (first | apply Kd.R_alloc | apply Kd.R_drewN | apply Kd.R_drew)); exact (Kd.R_mono (Kd.R_far (p := ⟨gb435, 1, none⟩) (Kd.R_far (p := ⟨gb435, 0, none⟩) (Kd.R_types HO_5.out BK435.out (by decide)) (fun _ hk => hk.2) (.string ((rd_T76 l1 x27_2).f0))) (fun _ hk => hk.2) (.string ((rd_T76 l1 x27_2).f1))) (fun _ h_ => h_.1))) hb); have n1_ := Aside0.mk (blk_below (g := gb435) (o := .cells #[.string ((rd_T76 l1 x27_2).f0), .string ((rd_T76 l1 x27_2).f1)] 76 (0, 0)) (by (with_reducible repeat (first | refine blk_drewN ?_ _ | refine blk_drew ?_ | refine blk_alloc ?_ _)); refine blk_put (cs := #[.string ((rd_T76 l1 x27_2).f0), .string (⟨#[]⟩ : ByteArray)]) ?_ 1 _ rfl; (with_reducible repeat (first | refine blk_drewN ?_ _ | refine blk_drew ?_ | refine blk_alloc ?_ _)); refine blk_put (cs := #[.string (⟨#[]⟩ : ByteArray), .string (⟨#[]⟩ : ByteArray)]) ?_ 0 _ rfl; (with_reducible repeat (first | refine blk_drewN ?_ _ | refine blk_drew ?_ | refine blk_alloc ?_ _)); exact BK435.out) hb); have n2_ := Aside0.mk (below_step (by repeat (first | (with_reducible first | exact HB.out | apply below_alloc | apply pw_below_drewN | apply below_drew1 | refine below_set ?_ GE435.out) | exact HB.out)) hb); clear HO_5; clear BK435; clear HB; have HO_5 := n0_; have BK435 := n1_; have HB := n2_; clear n0_ n1_ n2_; (try clear hb); (try clear hb2); (try clear hk); (try clear hi))); try go_wp2_with (first | ((with_reducible refine gate_dst (N := 7) rfl ?_); (try (refine gate_guard (by rfl) ?_; dsimp only)); refine box_event ?hg (N := 7) ?hd (cs := #[.string (⟨#[]⟩ : ByteArray), .string (⟨#[]⟩ : ByteArray)]) (t := 76) ?hr ?_; (case hd => rfl); (case hg => rfl); (case hr => first | (go_simp; done) | (go_simp; rfl)); intro gb435 hg w14 hbox hb; have n0_ := Aside0.mk (Kd.R_below (by (with_reducible repeat (first | apply Kd.R_alloc | apply Kd.R_drewN | apply Kd.R_drew)); exact HO_5.out) hb); have n1_ := Aside0.mk (below_step (by repeat first | with_reducible (first | exact HB.out | apply bA | apply bN | apply bD) | exact HB.out) hb); have n2_ := Aside0.mk (hbox); have n3_ := Aside0.mk ((by rw [hg]; exact (below_size (by repeat first | with_reducible (first | exact HB.out | apply bA | apply bN | apply bD) | exact HB.out)) : w.heap.size ≤ gb435)); have n4_ := Aside0.mk ((by rw [hg]; exact (below_size (by repeat first | with_reducible (first | exact HB.out | apply bA | apply bN | apply bD) | exact HB.out)) : w.heap.size ≤ gb435)); clear HO_5; clear HB; have HO_5 := n0_; have HB := n1_; have BK435 := n2_; have GW435 := n3_; have GE435 := n4_; clear n0_ n1_ n2_ n3_ n4_; clear hb hbox hg; have hcz15_0 : w14.cell? ⟨gb435, 0, none⟩ = some (.string (⟨#[]⟩ : ByteArray)) := (blk_cell BK435.out 0).trans rfl; have hcz15_1 : w14.cell? ⟨gb435, 1, none⟩ = some (.string (⟨#[]⟩ : ByteArray)) := (blk_cell BK435.out 1).trans rfl; have hfz15_0 := blk_frozen BK435.out 0; have hfz15_1 := blk_frozen BK435.out 1) | (go_at_call 48; (with_reducible refine (clavigerlaw33_awake.calls k2  t2 _ A13.out).mono ?_); rintro e w16 ⟨rfl, hb⟩; have n0_ := Aside0.mk (Kd.R_below (by (with_reducible repeat (first | apply Kd.R_alloc | apply Kd.R_drewN | apply Kd.R_drew)); exact (Kd.R_mono (Kd.R_far (p := ⟨gb435, 1, none⟩) (Kd.R_far (p := ⟨gb435, 0, none⟩) (Kd.R_types HO_5.out BK435.out (by decide)) (fun _ hk => hk.2) (.string ((rd_T76 l1 x27_2).f0))) (fun _ hk => hk.2) (.string ((rd_T76 l1 x27_2).f1))) (fun _ h_ => h_.1))) hb); have n1_ := Aside0.mk (blk_below (g := gb435) (o := .cells #[.string ((rd_T76 l1 x27_2).f0), .string ((rd_T76 l1 x27_2).f1)] 76 (0, 0)) (by (with_reducible repeat (first | refine blk_drewN ?_ _ | refine blk_drew ?_ | refine blk_alloc ?_ _)); refine blk_put (cs := #[.string ((rd_T76 l1 x27_2).f0), .string (⟨#[]⟩ : ByteArray)]) ?_ 1 _ rfl; (with_reducible repeat (first | refine blk_drewN ?_ _ | refine blk_drew ?_ | refine blk_alloc ?_ _)); refine blk_put (cs := #[.string (⟨#[]⟩ : ByteArray), .string (⟨#[]⟩ : ByteArray)]) ?_ 0 _ rfl; (with_reducible repeat (first | refine blk_drewN ?_ _ | refine blk_drew ?_ | refine blk_alloc ?_ _)); exact BK435.out) hb); have n2_ := Aside0.mk (below_step (by repeat (first | (with_reducible first | exact HB.out | apply below_alloc | apply pw_below_drewN | apply below_drew1 | refine below_set ?_ GE435.out) | exact HB.out)) hb); clear HO_5; clear BK435; clear HB; have HO_5 := n0_; have BK435 := n1_; have HB := n2_; clear n0_ n1_ n2_; (try clear hb); (try clear hb2); (try clear hk); (try clear hi))))
          go_ret
          exact ⟨by first | rfl | (simp [*, errW_none, errW_some] <;> rfl), by repeat (first | (with_reducible first | exact HB.out | apply below_alloc | apply pw_below_drewN | apply below_drew1 | refine below_set ?_ GE435.out) | exact HB.out)⟩
         ·rw [if_neg c12] at H
          have c12b0 : decide (20 < (((rd_T76 l1 x27_2).f0).size : Int)) = false := decide_eq_false c12
          have c12b1 : decide (20 < ((rd_T76 l1 x27_2).f0).size) = false := decide_eq_false (by omega)
          clear c12
          by_cases c17 : (((rd_T76 l1 x27_2).f1).size : Int) > 1000
          ·rw [if_pos c17] at H
           have c17b0 : decide (1000 < (((rd_T76 l1 x27_2).f1).size : Int)) = true := decide_eq_true c17
           have c17b1 : decide (1000 < ((rd_T76 l1 x27_2).f1).size) = true := decide_eq_true (by omega)
           clear c17
           replace H := Option.bind_eq_some_iff.mp H
           obtain ⟨t3, A180, H⟩ := H
           replace H : (some t3) = some r := H
           have A18 := Aside0.mk A180
           clear A180
           obtain rfl := Option.some.inj H
           have p5001 : 0 ≤ (x27_2 : Int) := of_decide_eq_true (by assumption)
           have q5001 : x27_2 < (l1.length : Int) := of_decide_eq_true (by assumption)
           obtain ⟨ad5001, e5001, hx5001_0, hx5001_1⟩ := at_T76 HR1.out x27_2 p5001 q5001
           cases e5001
           replace hx5001_0 := (HB.out.cell (World.block_lt_of_cell? w _ hx5001_0)).trans hx5001_0
           replace hx5001_1 := (HB.out.cell (World.block_lt_of_cell? w _ hx5001_1)).trans hx5001_1
           replace p5001 := eq_true p5001
           replace q5001 := eq_true q5001
           go_wp2_with (first | ((with_reducible refine gate_dst (N := 7) rfl ?_); (try (refine gate_guard (by rfl) ?_; dsimp only)); refine box_event ?hg (N := 7) ?hd (cs := #[.string (⟨#[]⟩ : ByteArray), .string (⟨#[]⟩ : ByteArray)]) (t := 76) ?hr ?_; (case hd => rfl); (case hg => rfl); (case hr => first | (go_simp; done) | (go_simp; rfl)); intro gb435 hg w19 hbox hb; have n0_ := Aside0.mk (Kd.R_below (by (with_reducible repeat (first | apply Kd.R_alloc | apply Kd.R_drewN | apply Kd.R_drew)); exact HO_5.out) hb); have n1_ := Aside0.mk (below_step (by repeat first | with_reducible (first | exact HB.out | apply bA | apply bN | apply bD) | exact HB.out) hb); have n2_ := Aside0.mk (hbox); have n3_ := Aside0.mk ((by rw [hg]; exact (below_size (by repeat first | with_reducible (first | exact HB.out | apply bA | apply bN | apply bD) | exact HB.out)) : w.heap.size ≤ gb435)); have n4_ := Aside0.mk ((by rw [hg]; exact (below_size (by repeat first | with_reducible (first | exact HB.out | apply bA | apply bN | apply bD) | exact HB.out)) : w.heap.size ≤ gb435)); clear HO_5; clear HB; have HO_5 := n0_; have HB := n1_; have BK435 := n2_; have GW435 := n3_; have GE435 := n4_; clear n0_ n1_ n2_ n3_ n4_; clear hb hbox hg; have hcz20_0 : w19.cell? ⟨gb435, 0, none⟩ = some (.string (⟨#[]⟩ : ByteArray)) := (blk_cell BK435.out 0).trans rfl; have hcz20_1 : w19.cell? ⟨gb435, 1, none⟩ = some (.string (⟨#[]⟩ : ByteArray)) := (blk_cell BK435.out 1).trans rfl; have hfz20_0 := blk_frozen BK435.out 0; have hfz20_1 := blk_frozen BK435.out 1) | (go_at_call 48; (with_reducible refine (clavigerlaw33_awake.calls k2  t3 _ A18.out).mono ?_); rintro e w21 ⟨rfl, hb⟩; have n0_ := Aside0.mk (Kd.R_below (by (with_reducible repeat (first | apply Kd.R_alloc | apply Kd.R_drewN | apply Kd.R_drew)); exact (Kd.R_mono (Kd.R_far (p := ⟨gb435, 1, none⟩) (Kd.R_far (p := ⟨gb435, 0, none⟩) (Kd.R_types HO_5.out BK435.out (by decide)) (fun _ hk => hk.2) (.string ((rd_T76 l1 x27_2).f0))) (fun _ hk => hk.2) (.string ((rd_T76 l1 x27_2).f1))) (fun _ h_ => h_.1))) hb); have n1_ := Aside0.mk (blk_below (g := gb435) (o := .cells #[.string ((rd_T76 l1 x27_2).f0), .string ((rd_T76 l1 x27_2).f1)] 76 (0, 0)) (by (with_reducible repeat (first | refine blk_drewN ?_ _ | refine blk_drew ?_ | refine blk_alloc ?_ _)); refine blk_put (cs := #[.string ((rd_T76 l1 x27_2).f0), .string (⟨#[]⟩ : ByteArray)]) ?_ 1 _ rfl; (with_reducible repeat (first | refine blk_drewN ?_ _ | refine blk_drew ?_ | refine blk_alloc ?_ _)); refine blk_put (cs := #[.string (⟨#[]⟩ : ByteArray), .string (⟨#[]⟩ : ByteArray)]) ?_ 0 _ rfl; (with_reducible repeat (first | refine blk_drewN ?_ _ | refine blk_drew ?_ | refine blk_alloc ?_ _)); exact BK435.out) hb); have n2_ := Aside0.mk (below_step (by repeat (first | (with_reducible first | exact HB.out | apply below_alloc | apply pw_below_drewN | apply below_drew1 | refine below_set ?_ GE435.out) | exact HB.out)) hb); clear HO_5; clear BK435; clear HB; have HO_5 := n0_; have BK435 := n1_; have HB := n2_; clear n0_ n1_ n2_; (try clear hb); (try clear hb2); (try clear hk); (try clear hi)))
           repeat (go_quiet (first | ((with_reducible refine gate_dst (N := 7) rfl ?_); (try (refine gate_guard (by rfl) ?_; dsimp only)); refine box_event ?hg (N := 7) ?hd (cs := #[.string (⟨#[]⟩ : ByteArray), .string (⟨#[]⟩ : ByteArray)]) (t := 76) ?hr ?_; (case hd => rfl); (case hg => rfl); (case hr => first | (go_simp; done) | (go_simp; rfl)); intro gb435 hg w19 hbox hb; have n0_ := Aside0.mk (Kd.R_below (by (with_reducible repeat (first | apply Kd.R_alloc | apply Kd.R_drewN | apply Kd.R_drew)); exact HO_5.out) hb); have n1_ := Aside0.mk (below_step (by repeat first | with_reducible (first | exact HB.out | apply bA | apply bN | apply bD) | exact HB.out) hb); have n2_ := Aside0.mk (hbox); have n3_ := Aside0.mk ((by rw [hg]; exact (below_size (by repeat first | with_reducible (first | exact HB.out | apply bA | apply bN | apply bD) | exact HB.out)) : w.heap.size ≤ gb435)); have n4_ := Aside0.mk ((by rw [hg]; exact (below_size (by repeat first | with_reducible (first | exact HB.out | apply bA | apply bN | apply bD) | exact HB.out)) : w.heap.size ≤ gb435)); clear HO_5; clear HB; have HO_5 := n0_; have HB := n1_; have BK435 := n2_; have GW435 := n3_; have GE435 := n4_; clear n0_ n1_ n2_ n3_ n4_; clear hb hbox hg; have hcz20_0 : w19.cell? ⟨gb435, 0, none⟩ = some (.string (⟨#[]⟩ : ByteArray)) := (blk_cell BK435.out 0).trans rfl; have hcz20_1 : w19.cell? ⟨gb435, 1, none⟩ = some (.string (⟨#[]⟩ : ByteArray)) := (blk_cell BK435.out 1).trans rfl; have hfz20_0 := blk_frozen BK435.out 0; have hfz20_1 := blk_frozen BK435.out 1) | (go_at_call 48; (with_reducible refine (clavigerlaw33_awake.calls k2  t3 _ A18.out).mono ?_); rintro e w21 ⟨rfl, hb⟩; have n0_ := Aside0.mk (Kd.R_below (by (with_reducible repeat (first | apply Kd.R_alloc | apply Kd.R_drewN | apply Kd.R_drew)); exact (Kd.R_mono (Kd.R_far (p := ⟨gb435, 1, none⟩) (Kd.R_far (p := ⟨gb435, 0, none⟩) (Kd.R_types HO_5.out BK435.out (by decide)) (fun _ hk => hk.2) (.string ((rd_T76 l1 x27_2).f0))) (fun _ hk => hk.2) (.string ((rd_T76 l1 x27_2).f1))) (fun _ h_ => h_.1))) hb); have n1_ := Aside0.mk (blk_below (g := gb435) (o := .cells #[.string ((rd_T76 l1 x27_2).f0), .string ((rd_T76 l1 x27_2).f1)] 76 (0, 0)) (by (with_reducible repeat (first | refine blk_drewN ?_ _ | refine blk_drew ?_ | refine blk_alloc ?_ _)); refine blk_put (cs := #[.string ((rd_T76 l1 x27_2).f0), .string (⟨#[]⟩ : ByteArray)]) ?_ 1 _ rfl; (with_reducible repeat (first | refine blk_drewN ?_ _ | refine blk_drew ?_ | refine blk_alloc ?_ _)); refine blk_put (cs := #[.string (⟨#[]⟩ : ByteArray), .string (⟨#[]⟩ : ByteArray)]) ?_ 0 _ rfl; (with_reducible repeat (first | refine blk_drewN ?_ _ | refine blk_drew ?_ | refine blk_alloc ?_ _)); exact BK435.out) hb); have n2_ := Aside0.mk (below_step (by repeat (first | (with_reducible first | exact HB.out | apply below_alloc | apply pw_below_drewN | apply below_drew1 | refine below_set ?_ GE435.out) | exact HB.out)) hb); clear HO_5; clear BK435; clear HB; have HO_5 := n0_; have BK435 := n1_; have HB := n2_; clear n0_ n1_ n2_; (try clear hb); (try clear hb2); (try clear hk); (try clear hi))); try go_wp2_with (first | ((with_reducible refine gate_dst (N := 7) rfl ?_); (try (refine gate_guard (by rfl) ?_; dsimp only)); refine box_event ?hg (N := 7) ?hd (cs := #[.string (⟨#[]⟩ : ByteArray), .string (⟨#[]⟩ : ByteArray)]) (t := 76) ?hr ?_; (case hd => rfl); (case hg => rfl); (case hr => first | (go_simp; done) | (go_simp; rfl)); intro gb435 hg w19 hbox hb; have n0_ := Aside0.mk (Kd.R_below (by (with_reducible repeat (first | apply Kd.R_alloc | apply Kd.R_drewN | apply Kd.R_drew)); exact HO_5.out) hb); have n1_ := Aside0.mk (below_step (by repeat first | with_reducible (first | exact HB.out | apply bA | apply bN | apply bD) | exact HB.out) hb); have n2_ := Aside0.mk (hbox); have n3_ := Aside0.mk ((by rw [hg]; exact (below_size (by repeat first | with_reducible (first | exact HB.out | apply bA | apply bN | apply bD) | exact HB.out)) : w.heap.size ≤ gb435)); have n4_ := Aside0.mk ((by rw [hg]; exact (below_size (by repeat first | with_reducible (first | exact HB.out | apply bA | apply bN | apply bD) | exact HB.out)) : w.heap.size ≤ gb435)); clear HO_5; clear HB; have HO_5 := n0_; have HB := n1_; have BK435 := n2_; have GW435 := n3_; have GE435 := n4_; clear n0_ n1_ n2_ n3_ n4_; clear hb hbox hg; have hcz20_0 : w19.cell? ⟨gb435, 0, none⟩ = some (.string (⟨#[]⟩ : ByteArray)) := (blk_cell BK435.out 0).trans rfl; have hcz20_1 : w19.cell? ⟨gb435, 1, none⟩ = some (.string (⟨#[]⟩ : ByteArray)) := (blk_cell BK435.out 1).trans rfl; have hfz20_0 := blk_frozen BK435.out 0; have hfz20_1 := blk_frozen BK435.out 1) | (go_at_call 48; (with_reducible refine (clavigerlaw33_awake.calls k2  t3 _ A18.out).mono ?_); rintro e w21 ⟨rfl, hb⟩; have n0_ := Aside0.mk (Kd.R_below (by (with_reducible repeat (first | apply Kd.R_alloc | apply Kd.R_drewN | apply Kd.R_drew)); exact (Kd.R_mono (Kd.R_far (p := ⟨gb435, 1, none⟩) (Kd.R_far (p := ⟨gb435, 0, none⟩) (Kd.R_types HO_5.out BK435.out (by decide)) (fun _ hk => hk.2) (.string ((rd_T76 l1 x27_2).f0))) (fun _ hk => hk.2) (.string ((rd_T76 l1 x27_2).f1))) (fun _ h_ => h_.1))) hb); have n1_ := Aside0.mk (blk_below (g := gb435) (o := .cells #[.string ((rd_T76 l1 x27_2).f0), .string ((rd_T76 l1 x27_2).f1)] 76 (0, 0)) (by (with_reducible repeat (first | refine blk_drewN ?_ _ | refine blk_drew ?_ | refine blk_alloc ?_ _)); refine blk_put (cs := #[.string ((rd_T76 l1 x27_2).f0), .string (⟨#[]⟩ : ByteArray)]) ?_ 1 _ rfl; (with_reducible repeat (first | refine blk_drewN ?_ _ | refine blk_drew ?_ | refine blk_alloc ?_ _)); refine blk_put (cs := #[.string (⟨#[]⟩ : ByteArray), .string (⟨#[]⟩ : ByteArray)]) ?_ 0 _ rfl; (with_reducible repeat (first | refine blk_drewN ?_ _ | refine blk_drew ?_ | refine blk_alloc ?_ _)); exact BK435.out) hb); have n2_ := Aside0.mk (below_step (by repeat (first | (with_reducible first | exact HB.out | apply below_alloc | apply pw_below_drewN | apply below_drew1 | refine below_set ?_ GE435.out) | exact HB.out)) hb); clear HO_5; clear BK435; clear HB; have HO_5 := n0_; have BK435 := n1_; have HB := n2_; clear n0_ n1_ n2_; (try clear hb); (try clear hb2); (try clear hk); (try clear hi))))
           go_ret
           exact ⟨by first | rfl | (simp [*, errW_none, errW_some] <;> rfl), by repeat (first | (with_reducible first | exact HB.out | apply below_alloc | apply pw_below_drewN | apply below_drew1 | refine below_set ?_ GE435.out) | exact HB.out)⟩
          ·rw [if_neg c17] at H
           have c17b0 : decide (1000 < (((rd_T76 l1 x27_2).f1).size : Int)) = false := decide_eq_false c17
           have c17b1 : decide (1000 < ((rd_T76 l1 x27_2).f1).size) = false := decide_eq_false (by omega)
           clear c17
           by_cases c22 : x5_2.length < 4398046511104
           ·rw [if_pos c22] at H
            have LMc22 := Aside0.mk c22
            clear c22
            obtain ⟨y17, hy17⟩ : ∃ y_ : List (S77), y_ = (x5_2 ++ [(⟨(rd_T76 l1 x27_2).f0, (rd_T76 l1 x27_2).f1⟩ : S77)]) := ⟨_, rfl⟩
            replace H : (clavigerlaw33_TemplOptions.l0 k2 l0 l1 y17 l1 (l1.length : Int) (wrap64 (x27_2 + 1))) = some r := by first | (rw [hy17]; with_reducible exact H) | (have H2_ := (Option.bind_some _ _).symm.trans H; rw [hy17]; with_reducible exact H2_) | (have H2_ := (Option.bind_some _ _).symm.trans H; with_reducible exact H2_) | with_reducible exact H | (rw [hy17]; exact H) | exact H
            have Ny5002 := Aside0.mk hy17
            clear hy17
            have H' := Aside0.mk H
            clear H
            have p5001 : 0 ≤ (x27_2 : Int) := of_decide_eq_true (by assumption)
            have q5001 : x27_2 < (l1.length : Int) := of_decide_eq_true (by assumption)
            obtain ⟨ad5001, e5001, hx5001_0, hx5001_1⟩ := at_T76 HR1.out x27_2 p5001 q5001
            cases e5001
            replace hx5001_0 := (HB.out.cell (World.block_lt_of_cell? w _ hx5001_0)).trans hx5001_0
            replace hx5001_1 := (HB.out.cell (World.block_lt_of_cell? w _ hx5001_1)).trans hx5001_1
            replace p5001 := eq_true p5001
            replace q5001 := eq_true q5001
            go_wp2_with (first | ((with_reducible refine gate_dst (N := 7) rfl ?_); (try (refine gate_guard (by rfl) ?_; dsimp only)); refine box_event ?hg (N := 7) ?hd (cs := #[.string (⟨#[]⟩ : ByteArray), .string (⟨#[]⟩ : ByteArray)]) (t := 76) ?hr ?_; (case hd => rfl); (case hg => rfl); (case hr => first | (go_simp; done) | (go_simp; rfl)); intro gb435 hg w23 hbox hb; have n0_ := Aside0.mk (Kd.R_below (by (with_reducible repeat (first | apply Kd.R_alloc | apply Kd.R_drewN | apply Kd.R_drew)); exact HO_5.out) hb); have n1_ := Aside0.mk (below_step (by repeat first | with_reducible (first | exact HB.out | apply bA | apply bN | apply bD) | exact HB.out) hb); have n2_ := Aside0.mk (hbox); have n3_ := Aside0.mk ((by rw [hg]; exact (below_size (by repeat first | with_reducible (first | exact HB.out | apply bA | apply bN | apply bD) | exact HB.out)) : w.heap.size ≤ gb435)); have n4_ := Aside0.mk ((by rw [hg]; exact (below_size (by repeat first | with_reducible (first | exact HB.out | apply bA | apply bN | apply bD) | exact HB.out)) : w.heap.size ≤ gb435)); clear HO_5; clear HB; have HO_5 := n0_; have HB := n1_; have BK435 := n2_; have GW435 := n3_; have GE435 := n4_; clear n0_ n1_ n2_ n3_ n4_; clear hb hbox hg; have hcz24_0 : w23.cell? ⟨gb435, 0, none⟩ = some (.string (⟨#[]⟩ : ByteArray)) := (blk_cell BK435.out 0).trans rfl; have hcz24_1 : w23.cell? ⟨gb435, 1, none⟩ = some (.string (⟨#[]⟩ : ByteArray)) := (blk_cell BK435.out 1).trans rfl; have hfz24_0 := blk_frozen BK435.out 0; have hfz24_1 := blk_frozen BK435.out 1) | ((with_reducible refine gate_builtin (b := .append) (xs := #[.tmp 42, .tmp 44]) rfl ?_); (try (refine gate_guard (by rfl) ?_; dsimp only)); at_builtin; refine Kd.R_append k77 (w0 := w) w.heap.size rfl (.tmp 42) (.tmp 44) 74 77 (.agg #[(.string ⟨#[]⟩), (.string ⟨#[]⟩)]) 32 rfl Try.underlying74 info77 rfl (by decide) (by omega) u5 x5_2 (⟨(rd_T76 l1 x27_2).f0, (rd_T76 l1 x27_2).f1⟩ : S77) [.string ((rd_T76 l1 x27_2).f0), .string ((rd_T76 l1 x27_2).f1)] (fun _ => True) (fun _ => False) rfl (by first | (go_simp; done) | (go_simp; rfl)) ?aP (fun _ hk => hk.elim) ?aF ?aO ?aB ?aS ?aL ?_; (case aP => exact k77_mkM _ _ _ (⟨(rd_T76 l1 x27_2).f0, (rd_T76 l1 x27_2).f1⟩ : S77)); (case aB => exact (by repeat (first | (with_reducible first | exact HB.out | apply below_alloc | apply pw_below_drewN | apply below_drew1 | refine below_set ?_ GE435.out) | exact HB.out))); (case aF => exact (fun _ _ => trivial)); (case aO => exact (by (with_reducible repeat (first | apply Kd.R_alloc | apply Kd.R_drewN | apply Kd.R_drew)); exact Kd.R_mono (Kd.R_far (p := ⟨gb435, 1, none⟩) (Kd.R_far (p := ⟨gb435, 0, none⟩) (Kd.R_types HO_5.out BK435.out (by decide)) (fun _ hk => hk.2) (.string ((rd_T76 l1 x27_2).f0))) (fun _ hk => hk.2) (.string ((rd_T76 l1 x27_2).f1))) (fun _ hk => trivial))); (case aS => exact (below_size (by repeat (first | (with_reducible first | exact HB.out | apply below_alloc | apply pw_below_drewN | apply below_drew1 | refine below_set ?_ GE435.out) | exact HB.out)))); (case aL => have := LMc22.out; omega); intro v439 w25 ho hb hg hat; rw [← Ny5002.out] at ho; have n0_ := Aside0.mk (blk_grown (g := gb435) (o := .cells #[.string ((rd_T76 l1 x27_2).f0), .string ((rd_T76 l1 x27_2).f1)] 76 (0, 0)) (by (with_reducible repeat (first | refine blk_drewN ?_ _ | refine blk_drew ?_ | refine blk_alloc ?_ _)); refine blk_put (cs := #[.string ((rd_T76 l1 x27_2).f0), .string (⟨#[]⟩ : ByteArray)]) ?_ 1 _ rfl; (with_reducible repeat (first | refine blk_drewN ?_ _ | refine blk_drew ?_ | refine blk_alloc ?_ _)); refine blk_put (cs := #[.string (⟨#[]⟩ : ByteArray), .string (⟨#[]⟩ : ByteArray)]) ?_ 0 _ rfl; (with_reducible repeat (first | refine blk_drewN ?_ _ | refine blk_drew ?_ | refine blk_alloc ?_ _)); exact BK435.out) hg (Kd.R_ne HO_5.out BK435.out (by decide))); have n1_ := Aside0.mk (hb); have n2_ := Aside0.mk (ho); clear BK435; clear HB; clear HO_5; have BK435 := n0_; have HB := n1_; have HO440 := n2_; clear n0_ n1_ n2_; clear ho hb hg hat))
            repeat (go_quiet (first | ((with_reducible refine gate_dst (N := 7) rfl ?_); (try (refine gate_guard (by rfl) ?_; dsimp only)); refine box_event ?hg (N := 7) ?hd (cs := #[.string (⟨#[]⟩ : ByteArray), .string (⟨#[]⟩ : ByteArray)]) (t := 76) ?hr ?_; (case hd => rfl); (case hg => rfl); (case hr => first | (go_simp; done) | (go_simp; rfl)); intro gb435 hg w23 hbox hb; have n0_ := Aside0.mk (Kd.R_below (by (with_reducible repeat (first | apply Kd.R_alloc | apply Kd.R_drewN | apply Kd.R_drew)); exact HO_5.out) hb); have n1_ := Aside0.mk (below_step (by repeat first | with_reducible (first | exact HB.out | apply bA | apply bN | apply bD) | exact HB.out) hb); have n2_ := Aside0.mk (hbox); have n3_ := Aside0.mk ((by rw [hg]; exact (below_size (by repeat first | with_reducible (first | exact HB.out | apply bA | apply bN | apply bD) | exact HB.out)) : w.heap.size ≤ gb435)); have n4_ := Aside0.mk ((by rw [hg]; exact (below_size (by repeat first | with_reducible (first | exact HB.out | apply bA | apply bN | apply bD) | exact HB.out)) : w.heap.size ≤ gb435)); clear HO_5; clear HB; have HO_5 := n0_; have HB := n1_; have BK435 := n2_; have GW435 := n3_; have GE435 := n4_; clear n0_ n1_ n2_ n3_ n4_; clear hb hbox hg; have hcz24_0 : w23.cell? ⟨gb435, 0, none⟩ = some (.string (⟨#[]⟩ : ByteArray)) := (blk_cell BK435.out 0).trans rfl; have hcz24_1 : w23.cell? ⟨gb435, 1, none⟩ = some (.string (⟨#[]⟩ : ByteArray)) := (blk_cell BK435.out 1).trans rfl; have hfz24_0 := blk_frozen BK435.out 0; have hfz24_1 := blk_frozen BK435.out 1) | ((with_reducible refine gate_builtin (b := .append) (xs := #[.tmp 42, .tmp 44]) rfl ?_); (try (refine gate_guard (by rfl) ?_; dsimp only)); at_builtin; refine Kd.R_append k77 (w0 := w) w.heap.size rfl (.tmp 42) (.tmp 44) 74 77 (.agg #[(.string ⟨#[]⟩), (.string ⟨#[]⟩)]) 32 rfl Try.underlying74 info77 rfl (by decide) (by omega) u5 x5_2 (⟨(rd_T76 l1 x27_2).f0, (rd_T76 l1 x27_2).f1⟩ : S77) [.string ((rd_T76 l1 x27_2).f0), .string ((rd_T76 l1 x27_2).f1)] (fun _ => True) (fun _ => False) rfl (by first | (go_simp; done) | (go_simp; rfl)) ?aP (fun _ hk => hk.elim) ?aF ?aO ?aB ?aS ?aL ?_; (case aP => exact k77_mkM _ _ _ (⟨(rd_T76 l1 x27_2).f0, (rd_T76 l1 x27_2).f1⟩ : S77)); (case aB => exact (by repeat (first | (with_reducible first | exact HB.out | apply below_alloc | apply pw_below_drewN | apply below_drew1 | refine below_set ?_ GE435.out) | exact HB.out))); (case aF => exact (fun _ _ => trivial)); (case aO => exact (by (with_reducible repeat (first | apply Kd.R_alloc | apply Kd.R_drewN | apply Kd.R_drew)); exact Kd.R_mono (Kd.R_far (p := ⟨gb435, 1, none⟩) (Kd.R_far (p := ⟨gb435, 0, none⟩) (Kd.R_types HO_5.out BK435.out (by decide)) (fun _ hk => hk.2) (.string ((rd_T76 l1 x27_2).f0))) (fun _ hk => hk.2) (.string ((rd_T76 l1 x27_2).f1))) (fun _ hk => trivial))); (case aS => exact (below_size (by repeat (first | (with_reducible first | exact HB.out | apply below_alloc | apply pw_below_drewN | apply below_drew1 | refine below_set ?_ GE435.out) | exact HB.out)))); (case aL => have := LMc22.out; omega); intro v439 w25 ho hb hg hat; rw [← Ny5002.out] at ho; have n0_ := Aside0.mk (blk_grown (g := gb435) (o := .cells #[.string ((rd_T76 l1 x27_2).f0), .string ((rd_T76 l1 x27_2).f1)] 76 (0, 0)) (by (with_reducible repeat (first | refine blk_drewN ?_ _ | refine blk_drew ?_ | refine blk_alloc ?_ _)); refine blk_put (cs := #[.string ((rd_T76 l1 x27_2).f0), .string (⟨#[]⟩ : ByteArray)]) ?_ 1 _ rfl; (with_reducible repeat (first | refine blk_drewN ?_ _ | refine blk_drew ?_ | refine blk_alloc ?_ _)); refine blk_put (cs := #[.string (⟨#[]⟩ : ByteArray), .string (⟨#[]⟩ : ByteArray)]) ?_ 0 _ rfl; (with_reducible repeat (first | refine blk_drewN ?_ _ | refine blk_drew ?_ | refine blk_alloc ?_ _)); exact BK435.out) hg (Kd.R_ne HO_5.out BK435.out (by decide))); have n1_ := Aside0.mk (hb); have n2_ := Aside0.mk (ho); clear BK435; clear HB; clear HO_5; have BK435 := n0_; have HB := n1_; have HO440 := n2_; clear n0_ n1_ n2_; clear ho hb hg hat)); try go_wp2_with (first | ((with_reducible refine gate_dst (N := 7) rfl ?_); (try (refine gate_guard (by rfl) ?_; dsimp only)); refine box_event ?hg (N := 7) ?hd (cs := #[.string (⟨#[]⟩ : ByteArray), .string (⟨#[]⟩ : ByteArray)]) (t := 76) ?hr ?_; (case hd => rfl); (case hg => rfl); (case hr => first | (go_simp; done) | (go_simp; rfl)); intro gb435 hg w23 hbox hb; have n0_ := Aside0.mk (Kd.R_below (by (with_reducible repeat (first | apply Kd.R_alloc | apply Kd.R_drewN | apply Kd.R_drew)); exact HO_5.out) hb); have n1_ := Aside0.mk (below_step (by repeat first | with_reducible (first | exact HB.out | apply bA | apply bN | apply bD) | exact HB.out) hb); have n2_ := Aside0.mk (hbox); have n3_ := Aside0.mk ((by rw [hg]; exact (below_size (by repeat first | with_reducible (first | exact HB.out | apply bA | apply bN | apply bD) | exact HB.out)) : w.heap.size ≤ gb435)); have n4_ := Aside0.mk ((by rw [hg]; exact (below_size (by repeat first | with_reducible (first | exact HB.out | apply bA | apply bN | apply bD) | exact HB.out)) : w.heap.size ≤ gb435)); clear HO_5; clear HB; have HO_5 := n0_; have HB := n1_; have BK435 := n2_; have GW435 := n3_; have GE435 := n4_; clear n0_ n1_ n2_ n3_ n4_; clear hb hbox hg; have hcz24_0 : w23.cell? ⟨gb435, 0, none⟩ = some (.string (⟨#[]⟩ : ByteArray)) := (blk_cell BK435.out 0).trans rfl; have hcz24_1 : w23.cell? ⟨gb435, 1, none⟩ = some (.string (⟨#[]⟩ : ByteArray)) := (blk_cell BK435.out 1).trans rfl; have hfz24_0 := blk_frozen BK435.out 0; have hfz24_1 := blk_frozen BK435.out 1) | ((with_reducible refine gate_builtin (b := .append) (xs := #[.tmp 42, .tmp 44]) rfl ?_); (try (refine gate_guard (by rfl) ?_; dsimp only)); at_builtin; refine Kd.R_append k77 (w0 := w) w.heap.size rfl (.tmp 42) (.tmp 44) 74 77 (.agg #[(.string ⟨#[]⟩), (.string ⟨#[]⟩)]) 32 rfl Try.underlying74 info77 rfl (by decide) (by omega) u5 x5_2 (⟨(rd_T76 l1 x27_2).f0, (rd_T76 l1 x27_2).f1⟩ : S77) [.string ((rd_T76 l1 x27_2).f0), .string ((rd_T76 l1 x27_2).f1)] (fun _ => True) (fun _ => False) rfl (by first | (go_simp; done) | (go_simp; rfl)) ?aP (fun _ hk => hk.elim) ?aF ?aO ?aB ?aS ?aL ?_; (case aP => exact k77_mkM _ _ _ (⟨(rd_T76 l1 x27_2).f0, (rd_T76 l1 x27_2).f1⟩ : S77)); (case aB => exact (by repeat (first | (with_reducible first | exact HB.out | apply below_alloc | apply pw_below_drewN | apply below_drew1 | refine below_set ?_ GE435.out) | exact HB.out))); (case aF => exact (fun _ _ => trivial)); (case aO => exact (by (with_reducible repeat (first | apply Kd.R_alloc | apply Kd.R_drewN | apply Kd.R_drew)); exact Kd.R_mono (Kd.R_far (p := ⟨gb435, 1, none⟩) (Kd.R_far (p := ⟨gb435, 0, none⟩) (Kd.R_types HO_5.out BK435.out (by decide)) (fun _ hk => hk.2) (.string ((rd_T76 l1 x27_2).f0))) (fun _ hk => hk.2) (.string ((rd_T76 l1 x27_2).f1))) (fun _ hk => trivial))); (case aS => exact (below_size (by repeat (first | (with_reducible first | exact HB.out | apply below_alloc | apply pw_below_drewN | apply below_drew1 | refine below_set ?_ GE435.out) | exact HB.out)))); (case aL => have := LMc22.out; omega); intro v439 w25 ho hb hg hat; rw [← Ny5002.out] at ho; have n0_ := Aside0.mk (blk_grown (g := gb435) (o := .cells #[.string ((rd_T76 l1 x27_2).f0), .string ((rd_T76 l1 x27_2).f1)] 76 (0, 0)) (by (with_reducible repeat (first | refine blk_drewN ?_ _ | refine blk_drew ?_ | refine blk_alloc ?_ _)); refine blk_put (cs := #[.string ((rd_T76 l1 x27_2).f0), .string (⟨#[]⟩ : ByteArray)]) ?_ 1 _ rfl; (with_reducible repeat (first | refine blk_drewN ?_ _ | refine blk_drew ?_ | refine blk_alloc ?_ _)); refine blk_put (cs := #[.string (⟨#[]⟩ : ByteArray), .string (⟨#[]⟩ : ByteArray)]) ?_ 0 _ rfl; (with_reducible repeat (first | refine blk_drewN ?_ _ | refine blk_drew ?_ | refine blk_alloc ?_ _)); exact BK435.out) hg (Kd.R_ne HO_5.out BK435.out (by decide))); have n1_ := Aside0.mk (hb); have n2_ := Aside0.mk (ho); clear BK435; clear HB; clear HO_5; have BK435 := n0_; have HB := n1_; have HO440 := n2_; clear n0_ n1_ n2_; clear ho hb hg hat)))
            go_roundg k2
            case measure => have := HJ2.out; have := HK2.out; omega
            case rel => exact ⟨(y17), (wrap64 (x27_2 + 1)), (by first | rfl | (simp; done) | (simp [*]; done)), H', ⟨by have := HJ2.out; have := HK2.out; omega⟩, ⟨by (with_reducible repeat (first | apply Kd.R_alloc | apply Kd.R_drewN | apply Kd.R_drew)); exact HO440.out⟩, ⟨by repeat (first | (with_reducible first | exact HB.out | apply below_alloc | apply pw_below_drewN | apply below_drew1 | refine below_set ?_ GE435.out) | exact HB.out)⟩⟩
           ·rw [if_neg c22] at H
            exact absurd H (by simp)
        ·rw [if_neg c11] at H
         exact absurd H (by simp)
       ·rw [if_neg c10] at H
        exact absurd H (by simp)
      ·rw [if_neg c9] at H
       have c9b0 : decide (x27_2 < (l1.length : Int)) = false := decide_eq_false c9
       clear c9
       replace H := Option.bind_eq_some_iff.mp H
       obtain ⟨⟨t4, t18⟩, A260, H⟩ := H
       try dsimp only at H
       have A26 := Aside0.mk A260
       clear A260
       replace H := Option.bind_eq_some_iff.mp H
       obtain ⟨⟨t5, t19⟩, A270, H⟩ := H
       try dsimp only at H
       have A27 := Aside0.mk A270
       clear A270
       replace H := Option.bind_eq_some_iff.mp H
       obtain ⟨⟨t6, t20⟩, A280, H⟩ := H
       try dsimp only at H
       have A28 := Aside0.mk A280
       clear A280
       replace H := Option.bind_eq_some_iff.mp H
       obtain ⟨⟨t7, t21⟩, A290, H⟩ := H
       try dsimp only at H
       have A29 := Aside0.mk A290
       clear A290
       have HC30 := Aside0.mk H
       clear H
       go_upto_region 15 with (first | (go_at_call 54; (with_reducible refine (templ_Options.calls k2 _ _ l0 t4 t18 _ ?side1 ?side2 A26.out).mono ?_); (case side1 => repeat (first | exact (Kd.C_below HR0.out HB.out) | (with_reducible refine Kd.C_alloc ?_ _) | (with_reducible refine Kd.C_drewN ?_ _) | (with_reducible refine Kd.C_drew ?_))); (case side2 => exact HC0.out); rintro e w31 ⟨v443, rfl, ho0, hb⟩; have n0_ := Aside0.mk (Kd.R_elder' (by (with_reducible repeat (first | apply Kd.R_alloc | apply Kd.R_drewN | apply Kd.R_drew)); exact HO_5.out) (Kd.R_base ho0) hb); have n1_ := Aside0.mk (Kd.R_lower (Kd.R_new' ho0 (Kd.R_lt (by (with_reducible repeat (first | apply Kd.R_alloc | apply Kd.R_drewN | apply Kd.R_drew)); exact HO_5.out))) (below_size (by repeat first | with_reducible (first | exact HB.out | apply bA | apply bN | apply bD) | exact HB.out))); have n2_ := Aside0.mk (below_step (by repeat first | with_reducible (first | exact HB.out | apply bA | apply bN | apply bD) | exact HB.out) hb); clear HO_5; clear HB; have HO_5 := n0_; have HO444 := n1_; have HB := n2_; clear n0_ n1_ n2_; (try clear hb); (try clear hb2); (try clear hk); (try clear hi); (try clear ho0)) | (go_at_call 55; (with_reducible refine (clavigerref33_Options.calls k2 _ _ l0 t5 t19 _ ?side1 ?side2 A27.out).mono ?_); (case side1 => repeat (first | exact (Kd.C_below HR0.out HB.out) | (with_reducible refine Kd.C_alloc ?_ _) | (with_reducible refine Kd.C_drewN ?_ _) | (with_reducible refine Kd.C_drew ?_))); (case side2 => exact HC0.out); rintro e w32 ⟨v447, rfl, ho0, hb⟩; have n0_ := Aside0.mk (Kd.R_below (by (with_reducible repeat (first | apply Kd.R_alloc | apply Kd.R_drewN | apply Kd.R_drew)); exact HO_5.out) hb); have n1_ := Aside0.mk (Kd.R_below (by (with_reducible repeat (first | apply Kd.R_alloc | apply Kd.R_drewN | apply Kd.R_drew)); exact HO444.out) hb); have n2_ := Aside0.mk (Kd.R_lower ho0 (below_size (by repeat first | with_reducible (first | exact HB.out | apply bA | apply bN | apply bD) | exact HB.out))); have n3_ := Aside0.mk (below_step (by repeat first | with_reducible (first | exact HB.out | apply bA | apply bN | apply bD) | exact HB.out) hb); clear HO_5; clear HO444; clear HB; have HO_5 := n0_; have HO444 := n1_; have HO448 := n2_; have HB := n3_; clear n0_ n1_ n2_ n3_; (try clear hb); (try clear hb2); (try clear hk); (try clear hi); (try clear ho0); obtain ⟨Ao33, co33, eo33⟩ := Kd.R_slice HO_5.out; subst eo33) | (go_at_call 56; (with_reducible refine (templ_From.calls k2 _ _ x5_2 t6 t20 _ ?side1 ?side2 A28.out).mono ?_); (case side1 => repeat (first | exact (Kd.R_reads' HO_5.out).2.2 | (with_reducible refine Kd.C_alloc ?_ _) | (with_reducible refine Kd.C_drewN ?_ _) | (with_reducible refine Kd.C_drew ?_))); (case side2 => exact (Kd.R_reads' HO_5.out).2.1); rintro e w34 ⟨v451, rfl, ho0, hb⟩; have n0_ := Aside0.mk (Kd.R_below (by (with_reducible repeat (first | apply Kd.R_alloc | apply Kd.R_drewN | apply Kd.R_drew)); exact HO_5.out) hb); have n1_ := Aside0.mk (Kd.R_below (by (with_reducible repeat (first | apply Kd.R_alloc | apply Kd.R_drewN | apply Kd.R_drew)); exact HO444.out) hb); have n2_ := Aside0.mk (Kd.R_below (by (with_reducible repeat (first | apply Kd.R_alloc | apply Kd.R_drewN | apply Kd.R_drew)); exact HO448.out) hb); have n3_ := Aside0.mk (Kd.R_lower ho0 (below_size (by repeat first | with_reducible (first | exact HB.out | apply bA | apply bN | apply bD) | exact HB.out))); have n4_ := Aside0.mk (below_step (by repeat first | with_reducible (first | exact HB.out | apply bA | apply bN | apply bD) | exact HB.out) hb); clear HO_5; clear HO444; clear HO448; clear HB; have HO_5 := n0_; have HO444 := n1_; have HO448 := n2_; have HO452 := n3_; have HB := n4_; clear n0_ n1_ n2_ n3_ n4_; (try clear hb); (try clear hb2); (try clear hk); (try clear hi); (try clear ho0)) | (go_at_call 57; (with_reducible refine (clavigerref33_From.calls k2 _ _ l1 t7 t21 _ ?side1 ?side2 A29.out).mono ?_); (case side1 => repeat (first | exact (Kd.C_below HR1.out HB.out) | (with_reducible refine Kd.C_alloc ?_ _) | (with_reducible refine Kd.C_drewN ?_ _) | (with_reducible refine Kd.C_drew ?_))); (case side2 => exact HC1.out); rintro e w35 ⟨v455, rfl, ho0, hb⟩; have n0_ := Aside0.mk (Kd.R_below (by (with_reducible repeat (first | apply Kd.R_alloc | apply Kd.R_drewN | apply Kd.R_drew)); exact HO_5.out) hb); have n1_ := Aside0.mk (Kd.R_below (by (with_reducible repeat (first | apply Kd.R_alloc | apply Kd.R_drewN | apply Kd.R_drew)); exact HO444.out) hb); have n2_ := Aside0.mk (Kd.R_below (by (with_reducible repeat (first | apply Kd.R_alloc | apply Kd.R_drewN | apply Kd.R_drew)); exact HO448.out) hb); have n3_ := Aside0.mk (Kd.R_elder' (by (with_reducible repeat (first | apply Kd.R_alloc | apply Kd.R_drewN | apply Kd.R_drew)); exact HO452.out) (Kd.R_base ho0) hb); have n4_ := Aside0.mk (Kd.R_lower (Kd.R_new' ho0 (Kd.R_lt (by (with_reducible repeat (first | apply Kd.R_alloc | apply Kd.R_drewN | apply Kd.R_drew)); exact HO452.out))) (below_size (by repeat first | with_reducible (first | exact HB.out | apply bA | apply bN | apply bD) | exact HB.out))); have n5_ := Aside0.mk (below_step (by repeat first | with_reducible (first | exact HB.out | apply bA | apply bN | apply bD) | exact HB.out) hb); clear HO_5; clear HO444; clear HO448; clear HO452; clear HB; have HO_5 := n0_; have HO444 := n1_; have HO448 := n2_; have HO452 := n3_; have HO456 := n4_; have HB := n5_; clear n0_ n1_ n2_ n3_ n4_ n5_; (try clear hb); (try clear hb2); (try clear hk); (try clear hi); (try clear ho0)))
       repeat (go_quiet (first | (go_at_call 54; (with_reducible refine (templ_Options.calls k2 _ _ l0 t4 t18 _ ?side1 ?side2 A26.out).mono ?_); (case side1 => repeat (first | exact (Kd.C_below HR0.out HB.out) | (with_reducible refine Kd.C_alloc ?_ _) | (with_reducible refine Kd.C_drewN ?_ _) | (with_reducible refine Kd.C_drew ?_))); (case side2 => exact HC0.out); rintro e w31 ⟨v443, rfl, ho0, hb⟩; have n0_ := Aside0.mk (Kd.R_elder' (by (with_reducible repeat (first | apply Kd.R_alloc | apply Kd.R_drewN | apply Kd.R_drew)); exact HO_5.out) (Kd.R_base ho0) hb); have n1_ := Aside0.mk (Kd.R_lower (Kd.R_new' ho0 (Kd.R_lt (by (with_reducible repeat (first | apply Kd.R_alloc | apply Kd.R_drewN | apply Kd.R_drew)); exact HO_5.out))) (below_size (by repeat first | with_reducible (first | exact HB.out | apply bA | apply bN | apply bD) | exact HB.out))); have n2_ := Aside0.mk (below_step (by repeat first | with_reducible (first | exact HB.out | apply bA | apply bN | apply bD) | exact HB.out) hb); clear HO_5; clear HB; have HO_5 := n0_; have HO444 := n1_; have HB := n2_; clear n0_ n1_ n2_; (try clear hb); (try clear hb2); (try clear hk); (try clear hi); (try clear ho0)) | (go_at_call 55; (with_reducible refine (clavigerref33_Options.calls k2 _ _ l0 t5 t19 _ ?side1 ?side2 A27.out).mono ?_); (case side1 => repeat (first | exact (Kd.C_below HR0.out HB.out) | (with_reducible refine Kd.C_alloc ?_ _) | (with_reducible refine Kd.C_drewN ?_ _) | (with_reducible refine Kd.C_drew ?_))); (case side2 => exact HC0.out); rintro e w32 ⟨v447, rfl, ho0, hb⟩; have n0_ := Aside0.mk (Kd.R_below (by (with_reducible repeat (first | apply Kd.R_alloc | apply Kd.R_drewN | apply Kd.R_drew)); exact HO_5.out) hb); have n1_ := Aside0.mk (Kd.R_below (by (with_reducible repeat (first | apply Kd.R_alloc | apply Kd.R_drewN | apply Kd.R_drew)); exact HO444.out) hb); have n2_ := Aside0.mk (Kd.R_lower ho0 (below_size (by repeat first | with_reducible (first | exact HB.out | apply bA | apply bN | apply bD) | exact HB.out))); have n3_ := Aside0.mk (below_step (by repeat first | with_reducible (first | exact HB.out | apply bA | apply bN | apply bD) | exact HB.out) hb); clear HO_5; clear HO444; clear HB; have HO_5 := n0_; have HO444 := n1_; have HO448 := n2_; have HB := n3_; clear n0_ n1_ n2_ n3_; (try clear hb); (try clear hb2); (try clear hk); (try clear hi); (try clear ho0); obtain ⟨Ao33, co33, eo33⟩ := Kd.R_slice HO_5.out; subst eo33) | (go_at_call 56; (with_reducible refine (templ_From.calls k2 _ _ x5_2 t6 t20 _ ?side1 ?side2 A28.out).mono ?_); (case side1 => repeat (first | exact (Kd.R_reads' HO_5.out).2.2 | (with_reducible refine Kd.C_alloc ?_ _) | (with_reducible refine Kd.C_drewN ?_ _) | (with_reducible refine Kd.C_drew ?_))); (case side2 => exact (Kd.R_reads' HO_5.out).2.1); rintro e w34 ⟨v451, rfl, ho0, hb⟩; have n0_ := Aside0.mk (Kd.R_below (by (with_reducible repeat (first | apply Kd.R_alloc | apply Kd.R_drewN | apply Kd.R_drew)); exact HO_5.out) hb); have n1_ := Aside0.mk (Kd.R_below (by (with_reducible repeat (first | apply Kd.R_alloc | apply Kd.R_drewN | apply Kd.R_drew)); exact HO444.out) hb); have n2_ := Aside0.mk (Kd.R_below (by (with_reducible repeat (first | apply Kd.R_alloc | apply Kd.R_drewN | apply Kd.R_drew)); exact HO448.out) hb); have n3_ := Aside0.mk (Kd.R_lower ho0 (below_size (by repeat first | with_reducible (first | exact HB.out | apply bA | apply bN | apply bD) | exact HB.out))); have n4_ := Aside0.mk (below_step (by repeat first | with_reducible (first | exact HB.out | apply bA | apply bN | apply bD) | exact HB.out) hb); clear HO_5; clear HO444; clear HO448; clear HB; have HO_5 := n0_; have HO444 := n1_; have HO448 := n2_; have HO452 := n3_; have HB := n4_; clear n0_ n1_ n2_ n3_ n4_; (try clear hb); (try clear hb2); (try clear hk); (try clear hi); (try clear ho0)) | (go_at_call 57; (with_reducible refine (clavigerref33_From.calls k2 _ _ l1 t7 t21 _ ?side1 ?side2 A29.out).mono ?_); (case side1 => repeat (first | exact (Kd.C_below HR1.out HB.out) | (with_reducible refine Kd.C_alloc ?_ _) | (with_reducible refine Kd.C_drewN ?_ _) | (with_reducible refine Kd.C_drew ?_))); (case side2 => exact HC1.out); rintro e w35 ⟨v455, rfl, ho0, hb⟩; have n0_ := Aside0.mk (Kd.R_below (by (with_reducible repeat (first | apply Kd.R_alloc | apply Kd.R_drewN | apply Kd.R_drew)); exact HO_5.out) hb); have n1_ := Aside0.mk (Kd.R_below (by (with_reducible repeat (first | apply Kd.R_alloc | apply Kd.R_drewN | apply Kd.R_drew)); exact HO444.out) hb); have n2_ := Aside0.mk (Kd.R_below (by (with_reducible repeat (first | apply Kd.R_alloc | apply Kd.R_drewN | apply Kd.R_drew)); exact HO448.out) hb); have n3_ := Aside0.mk (Kd.R_elder' (by (with_reducible repeat (first | apply Kd.R_alloc | apply Kd.R_drewN | apply Kd.R_drew)); exact HO452.out) (Kd.R_base ho0) hb); have n4_ := Aside0.mk (Kd.R_lower (Kd.R_new' ho0 (Kd.R_lt (by (with_reducible repeat (first | apply Kd.R_alloc | apply Kd.R_drewN | apply Kd.R_drew)); exact HO452.out))) (below_size (by repeat first | with_reducible (first | exact HB.out | apply bA | apply bN | apply bD) | exact HB.out))); have n5_ := Aside0.mk (below_step (by repeat first | with_reducible (first | exact HB.out | apply bA | apply bN | apply bD) | exact HB.out) hb); clear HO_5; clear HO444; clear HO448; clear HO452; clear HB; have HO_5 := n0_; have HO444 := n1_; have HO448 := n2_; have HO452 := n3_; have HO456 := n4_; have HB := n5_; clear n0_ n1_ n2_ n3_ n4_ n5_; (try clear hb); (try clear hb2); (try clear hk); (try clear hi); (try clear ho0))); go_upto_region 15 with (first | (go_at_call 54; (with_reducible refine (templ_Options.calls k2 _ _ l0 t4 t18 _ ?side1 ?side2 A26.out).mono ?_); (case side1 => repeat (first | exact (Kd.C_below HR0.out HB.out) | (with_reducible refine Kd.C_alloc ?_ _) | (with_reducible refine Kd.C_drewN ?_ _) | (with_reducible refine Kd.C_drew ?_))); (case side2 => exact HC0.out); rintro e w31 ⟨v443, rfl, ho0, hb⟩; have n0_ := Aside0.mk (Kd.R_elder' (by (with_reducible repeat (first | apply Kd.R_alloc | apply Kd.R_drewN | apply Kd.R_drew)); exact HO_5.out) (Kd.R_base ho0) hb); have n1_ := Aside0.mk (Kd.R_lower (Kd.R_new' ho0 (Kd.R_lt (by (with_reducible repeat (first | apply Kd.R_alloc | apply Kd.R_drewN | apply Kd.R_drew)); exact HO_5.out))) (below_size (by repeat first | with_reducible (first | exact HB.out | apply bA | apply bN | apply bD) | exact HB.out))); have n2_ := Aside0.mk (below_step (by repeat first | with_reducible (first | exact HB.out | apply bA | apply bN | apply bD) | exact HB.out) hb); clear HO_5; clear HB; have HO_5 := n0_; have HO444 := n1_; have HB := n2_; clear n0_ n1_ n2_; (try clear hb); (try clear hb2); (try clear hk); (try clear hi); (try clear ho0)) | (go_at_call 55; (with_reducible refine (clavigerref33_Options.calls k2 _ _ l0 t5 t19 _ ?side1 ?side2 A27.out).mono ?_); (case side1 => repeat (first | exact (Kd.C_below HR0.out HB.out) | (with_reducible refine Kd.C_alloc ?_ _) | (with_reducible refine Kd.C_drewN ?_ _) | (with_reducible refine Kd.C_drew ?_))); (case side2 => exact HC0.out); rintro e w32 ⟨v447, rfl, ho0, hb⟩; have n0_ := Aside0.mk (Kd.R_below (by (with_reducible repeat (first | apply Kd.R_alloc | apply Kd.R_drewN | apply Kd.R_drew)); exact HO_5.out) hb); have n1_ := Aside0.mk (Kd.R_below (by (with_reducible repeat (first | apply Kd.R_alloc | apply Kd.R_drewN | apply Kd.R_drew)); exact HO444.out) hb); have n2_ := Aside0.mk (Kd.R_lower ho0 (below_size (by repeat first | with_reducible (first | exact HB.out | apply bA | apply bN | apply bD) | exact HB.out))); have n3_ := Aside0.mk (below_step (by repeat first | with_reducible (first | exact HB.out | apply bA | apply bN | apply bD) | exact HB.out) hb); clear HO_5; clear HO444; clear HB; have HO_5 := n0_; have HO444 := n1_; have HO448 := n2_; have HB := n3_; clear n0_ n1_ n2_ n3_; (try clear hb); (try clear hb2); (try clear hk); (try clear hi); (try clear ho0); obtain ⟨Ao33, co33, eo33⟩ := Kd.R_slice HO_5.out; subst eo33) | (go_at_call 56; (with_reducible refine (templ_From.calls k2 _ _ x5_2 t6 t20 _ ?side1 ?side2 A28.out).mono ?_); (case side1 => repeat (first | exact (Kd.R_reads' HO_5.out).2.2 | (with_reducible refine Kd.C_alloc ?_ _) | (with_reducible refine Kd.C_drewN ?_ _) | (with_reducible refine Kd.C_drew ?_))); (case side2 => exact (Kd.R_reads' HO_5.out).2.1); rintro e w34 ⟨v451, rfl, ho0, hb⟩; have n0_ := Aside0.mk (Kd.R_below (by (with_reducible repeat (first | apply Kd.R_alloc | apply Kd.R_drewN | apply Kd.R_drew)); exact HO_5.out) hb); have n1_ := Aside0.mk (Kd.R_below (by (with_reducible repeat (first | apply Kd.R_alloc | apply Kd.R_drewN | apply Kd.R_drew)); exact HO444.out) hb); have n2_ := Aside0.mk (Kd.R_below (by (with_reducible repeat (first | apply Kd.R_alloc | apply Kd.R_drewN | apply Kd.R_drew)); exact HO448.out) hb); have n3_ := Aside0.mk (Kd.R_lower ho0 (below_size (by repeat first | with_reducible (first | exact HB.out | apply bA | apply bN | apply bD) | exact HB.out))); have n4_ := Aside0.mk (below_step (by repeat first | with_reducible (first | exact HB.out | apply bA | apply bN | apply bD) | exact HB.out) hb); clear HO_5; clear HO444; clear HO448; clear HB; have HO_5 := n0_; have HO444 := n1_; have HO448 := n2_; have HO452 := n3_; have HB := n4_; clear n0_ n1_ n2_ n3_ n4_; (try clear hb); (try clear hb2); (try clear hk); (try clear hi); (try clear ho0)) | (go_at_call 57; (with_reducible refine (clavigerref33_From.calls k2 _ _ l1 t7 t21 _ ?side1 ?side2 A29.out).mono ?_); (case side1 => repeat (first | exact (Kd.C_below HR1.out HB.out) | (with_reducible refine Kd.C_alloc ?_ _) | (with_reducible refine Kd.C_drewN ?_ _) | (with_reducible refine Kd.C_drew ?_))); (case side2 => exact HC1.out); rintro e w35 ⟨v455, rfl, ho0, hb⟩; have n0_ := Aside0.mk (Kd.R_below (by (with_reducible repeat (first | apply Kd.R_alloc | apply Kd.R_drewN | apply Kd.R_drew)); exact HO_5.out) hb); have n1_ := Aside0.mk (Kd.R_below (by (with_reducible repeat (first | apply Kd.R_alloc | apply Kd.R_drewN | apply Kd.R_drew)); exact HO444.out) hb); have n2_ := Aside0.mk (Kd.R_below (by (with_reducible repeat (first | apply Kd.R_alloc | apply Kd.R_drewN | apply Kd.R_drew)); exact HO448.out) hb); have n3_ := Aside0.mk (Kd.R_elder' (by (with_reducible repeat (first | apply Kd.R_alloc | apply Kd.R_drewN | apply Kd.R_drew)); exact HO452.out) (Kd.R_base ho0) hb); have n4_ := Aside0.mk (Kd.R_lower (Kd.R_new' ho0 (Kd.R_lt (by (with_reducible repeat (first | apply Kd.R_alloc | apply Kd.R_drewN | apply Kd.R_drew)); exact HO452.out))) (below_size (by repeat first | with_reducible (first | exact HB.out | apply bA | apply bN | apply bD) | exact HB.out))); have n5_ := Aside0.mk (below_step (by repeat first | with_reducible (first | exact HB.out | apply bA | apply bN | apply bD) | exact HB.out) hb); clear HO_5; clear HO444; clear HO448; clear HO452; clear HB; have HO_5 := n0_; have HO444 := n1_; have HO448 := n2_; have HO452 := n3_; have HO456 := n4_; have HB := n5_; clear n0_ n1_ n2_ n3_ n4_ n5_; (try clear hb); (try clear hb2); (try clear hk); (try clear hi); (try clear ho0))))
       (try simp only [Act.put, List.setIfInBounds_toArray, List.set_cons_zero, List.set_cons_succ])
       go_cut [90] (fun v90 wc => ∃ (kq : Nat) (x90_29 : Bool), v90 = .bool x90_29 ∧ Aside0 (clavigerlaw33_TemplOptions.j2 kq t6 t20 t7 t21 x90_29 = some r) ∧ Aside0 (kq ≤ k2) ∧ Aside0 (Kd.R k102 102 wc w.heap.size (fun k_ => some k_ ≠ (v455 : Value).ownBlock) v451 t6) ∧ Aside0 (Kd.R k102 102 wc w.heap.size (fun k_ => some k_ ≠ (v451 : Value).ownBlock) v455 t7) ∧ Aside0 (Below w.heap.size w wc))
       case first =>
        have H := HC30.out
        clear HC30
        by_cases c36 : (t4.length : Int) = (t5.length : Int)
        ·rw [if_pos c36] at H
         have c36b0 : ((t4.length : Int) == (t5.length : Int)) = true := beq_iff_eq.mpr c36
         have c36b1 : ((t4.length : Int) != (t5.length : Int)) = false := bne_eq_false_iff_eq.mpr c36
         have c36b2 : (t4.length == t5.length) = true := by first | simpa using c36 | (simp at c36 ⊢; omega)
         clear c36
         (first | rw [c36b0] | (simp only [i64_w, i32_w]; rw [c36b0]) | skip)
         by_cases c37 : t18 = t19
         ·rw [if_pos c37] at H
          have c37b0 : (t18 == t19) = true := beq_iff_eq.mpr c37
          have c37b1 : (t18 != t19) = false := bne_eq_false_iff_eq.mpr c37
          clear c37
          by_cases c38 : (t4.length : Int) = 1
          ·rw [if_pos c38] at H
           have c38b0 : ((t4.length : Int) == 1) = true := beq_iff_eq.mpr c38
           have c38b1 : ((t4.length : Int) != 1) = false := bne_eq_false_iff_eq.mpr c38
           clear c38
           by_cases c39 : 0 < (t4.length : Int)
           ·rw [if_pos c39] at H
            have c39b0 : decide (0 < (t4.length : Int)) = true := decide_eq_true c39
            have c39b1 : decide (0 < t4.length) = true := decide_eq_true (by omega)
            clear c39
            by_cases c40 : 0 < (t5.length : Int)
            ·rw [if_pos c40] at H
             have c40b0 : decide (0 < (t5.length : Int)) = true := decide_eq_true c40
             have c40b1 : decide (0 < t5.length) = true := decide_eq_true (by omega)
             clear c40
             have H' := Aside0.mk H
             clear H
             obtain ⟨Ao41, co41, eo41⟩ := Kd.R_slice HO444.out
             subst eo41
             obtain ⟨Ao42, co42, eo42⟩ := Kd.R_slice HO448.out
             subst eo42
             have p5003 : 0 ≤ (0 : Int) := (by omega)
             have q5003 : 0 < (t4.length : Int) := of_decide_eq_true (by assumption)
             obtain ⟨ad5003, e5003, hx5003_0, hx5003_1⟩ := at_T77 (Kd.R_reads' HO444.out).2.2 0 p5003 q5003
             cases e5003
             have qi457 : (0 < t4.length) = True := eq_true (by omega)
             (try rw [show ((0 : Int)).toNat = 0 from rfl] at hx5003_0)
             (try rw [show 0 * 2 = 0 from rfl] at hx5003_0)
             (try rw [Addr.add_zero'] at hx5003_0)
             (try rw [show ((0 : Int)).toNat = 0 from rfl] at hx5003_1)
             (try rw [show 0 * 2 = 0 from rfl] at hx5003_1)
             (try rw [Addr.add_zero'] at hx5003_1)
             replace p5003 := eq_true p5003
             replace q5003 := eq_true q5003
             have p5004 : 0 ≤ (0 : Int) := (by omega)
             have q5004 : 0 < (t5.length : Int) := of_decide_eq_true (by assumption)
             obtain ⟨ad5004, e5004, hx5004_0, hx5004_1⟩ := at_T76 (Kd.R_reads' HO448.out).2.2 0 p5004 q5004
             cases e5004
             have qi458 : (0 < t5.length) = True := eq_true (by omega)
             (try rw [show ((0 : Int)).toNat = 0 from rfl] at hx5004_0)
             (try rw [show 0 * 2 = 0 from rfl] at hx5004_0)
             (try rw [Addr.add_zero'] at hx5004_0)
             (try rw [show ((0 : Int)).toNat = 0 from rfl] at hx5004_1)
             (try rw [show 0 * 2 = 0 from rfl] at hx5004_1)
             (try rw [Addr.add_zero'] at hx5004_1)
             replace p5004 := eq_true p5004
             replace q5004 := eq_true q5004
             go_wp2
             repeat (go_quiet (fail); try go_wp2)
             go_meet
             case rel => exact ⟨_, ((!((((rd_T77 t4 0).f0).toList) == (((rd_T76 t5 0).f0).toList)) || (!((((rd_T77 t4 0).f1).toList) == (((rd_T76 t5 0).f1).toList))))), (by first | rfl | (simp; done) | (simp [*]; done)), H', ⟨by have := HJ2.out; have := HK2.out; first | omega | exact Nat.le_refl _⟩, ⟨by (with_reducible repeat (first | apply Kd.R_alloc | apply Kd.R_drewN | apply Kd.R_drew)); exact Kd.R_mono HO452.out (fun _ hk => hk.2)⟩, ⟨by (with_reducible repeat (first | apply Kd.R_alloc | apply Kd.R_drewN | apply Kd.R_drew)); exact Kd.R_mono HO456.out (fun _ hk => hk.2)⟩, ⟨by repeat first | with_reducible (first | exact HB.out | apply bA | apply bN | apply bD) | exact HB.out⟩⟩
            ·rw [if_neg c40] at H
             exact absurd H (by simp)
           ·rw [if_neg c39] at H
            exact absurd H (by simp)
          ·rw [if_neg c38] at H
           have c38b0 : ((t4.length : Int) == 1) = false := beq_eq_false_iff_ne.mpr c38
           have c38b1 : ((t4.length : Int) != 1) = true := bne_iff_ne.mpr c38
           have H' := Aside0.mk H
           clear H
           obtain ⟨Ao43, co43, eo43⟩ := Kd.R_slice HO444.out
           subst eo43
           obtain ⟨Ao44, co44, eo44⟩ := Kd.R_slice HO448.out
           subst eo44
           go_wp2
           repeat (go_quiet (fail); try go_wp2)
           go_meet
           case rel => exact ⟨_, (false), (by first | rfl | (simp; done) | (simp [*]; done)), H', ⟨by have := HJ2.out; have := HK2.out; first | omega | exact Nat.le_refl _⟩, ⟨by (with_reducible repeat (first | apply Kd.R_alloc | apply Kd.R_drewN | apply Kd.R_drew)); exact Kd.R_mono HO452.out (fun _ hk => hk.2)⟩, ⟨by (with_reducible repeat (first | apply Kd.R_alloc | apply Kd.R_drewN | apply Kd.R_drew)); exact Kd.R_mono HO456.out (fun _ hk => hk.2)⟩, ⟨by repeat first | with_reducible (first | exact HB.out | apply bA | apply bN | apply bD) | exact HB.out⟩⟩
         ·rw [if_neg c37] at H
          have c37b0 : (t18 == t19) = false := beq_eq_false_iff_ne.mpr c37
          have c37b1 : (t18 != t19) = true := bne_iff_ne.mpr c37
          have H' := Aside0.mk H
          clear H
          obtain ⟨Ao45, co45, eo45⟩ := Kd.R_slice HO444.out
          subst eo45
          obtain ⟨Ao46, co46, eo46⟩ := Kd.R_slice HO448.out
          subst eo46
          go_wp2
          repeat (go_quiet (fail); try go_wp2)
          go_meet
          case rel => exact ⟨_, (true), (by first | rfl | (simp; done) | (simp [*]; done)), H', ⟨by have := HJ2.out; have := HK2.out; first | omega | exact Nat.le_refl _⟩, ⟨by (with_reducible repeat (first | apply Kd.R_alloc | apply Kd.R_drewN | apply Kd.R_drew)); exact Kd.R_mono HO452.out (fun _ hk => hk.2)⟩, ⟨by (with_reducible repeat (first | apply Kd.R_alloc | apply Kd.R_drewN | apply Kd.R_drew)); exact Kd.R_mono HO456.out (fun _ hk => hk.2)⟩, ⟨by repeat first | with_reducible (first | exact HB.out | apply bA | apply bN | apply bD) | exact HB.out⟩⟩
        ·rw [if_neg c36] at H
         have c36b0 : ((t4.length : Int) == (t5.length : Int)) = false := beq_eq_false_iff_ne.mpr c36
         have c36b1 : ((t4.length : Int) != (t5.length : Int)) = true := bne_iff_ne.mpr c36
         have c36b2 : (t4.length == t5.length) = false := by first | simpa using c36 | (simp at c36 ⊢; omega)
         (first | rw [c36b0] | (simp only [i64_w, i32_w]; rw [c36b0]) | skip)
         have H' := Aside0.mk H
         clear H
         obtain ⟨Ao47, co47, eo47⟩ := Kd.R_slice HO444.out
         subst eo47
         obtain ⟨Ao48, co48, eo48⟩ := Kd.R_slice HO448.out
         subst eo48
         go_wp2
         repeat (go_quiet (fail); try go_wp2)
         go_meet
         case rel => exact ⟨_, (true), (by first | rfl | (simp; done) | (simp [*]; done)), H', ⟨by have := HJ2.out; have := HK2.out; first | omega | exact Nat.le_refl _⟩, ⟨by (with_reducible repeat (first | apply Kd.R_alloc | apply Kd.R_drewN | apply Kd.R_drew)); exact Kd.R_mono HO452.out (fun _ hk => hk.2)⟩, ⟨by (with_reducible repeat (first | apply Kd.R_alloc | apply Kd.R_drewN | apply Kd.R_drew)); exact Kd.R_mono HO456.out (fun _ hk => hk.2)⟩, ⟨by repeat first | with_reducible (first | exact HB.out | apply bA | apply bN | apply bD) | exact HB.out⟩⟩
       case rest =>
        clear HC30
        try clear c1
        try clear c2
        try clear p2
        try clear c3
        try clear c4
        try clear p4
        try clear q4
        try clear hx4
        try clear qi4
        try clear c5
        try clear c6
        try clear p6
        try clear c9
        try clear c9b0
        try clear c10
        try clear c10b0
        try clear c11
        try clear c11b0
        try clear c12
        try clear c12b0
        try clear c12b1
        try clear c17
        try clear c17b0
        try clear c17b1
        try clear c22
        try clear c36
        try clear c36b0
        try clear c36b1
        try clear c36b2
        try clear c37
        try clear c37b0
        try clear c37b1
        try clear c38
        try clear c38b0
        try clear c38b1
        try clear c39
        try clear c39b0
        try clear c39b1
        try clear c40
        try clear c40b0
        try clear c40b1
        try clear p43
        try clear q43
        try clear hx43
        try clear p45
        try clear q45
        try clear hx45
        try clear qi45
        try clear hcz15_0
        try clear hcz15_1
        try clear hcz20_0
        try clear hcz20_1
        try clear hcz24_0
        try clear hcz24_1
        try clear hfz15_0
        try clear hfz15_1
        try clear hfz20_0
        try clear hfz20_1
        try clear hfz24_0
        try clear hfz24_1
        try clear hx5001_0
        try clear hx5001_1
        try clear hx5003_0
        try clear hx5003_1
        try clear hx5004_0
        try clear hx5004_1
        try clear p2
        try clear p5001
        try clear p5003
        try clear p5004
        try clear q5001
        try clear q5003
        try clear q5004
        obtain ⟨kq, x90_29, rfl, HA, HJ29, HO_12, HO_14, HB⟩ := hcut
        cases kq with
        | zero => exact absurd HA.out (by simp [clavigerlaw33_TemplOptions.j2])
        | succ kj29 =>
         have H := HA.out
         clear HA
         simp only [clavigerlaw33_TemplOptions.j2] at H
         by_cases c49 : x90_29 = true
         ·subst c49
          have H1 : (some false) = some r := by rw [if_pos rfl] at H; exact H
          clear H
          have H := H1
          clear H1
          obtain rfl := Option.some.inj H
          go_wp2
          repeat (go_quiet (fail); try go_wp2)
          go_ret
          exact ⟨by first | rfl | (simp [*, errW_none, errW_some] <;> rfl), by repeat first | with_reducible (first | exact HB.out | apply bA | apply bN | apply bD) | exact HB.out⟩
         ·replace c49 := Bool.eq_false_iff.mpr c49
          subst c49
          have H1 : ((clavigerplain_Attrs.f kj29 t6 t7).bind fun t8 => (if t8 = true then (if t20 = t21 then ((clavigerlaw33_awake.f kj29).bind fun t9 => (some t9)) else (some false)) else (some false))) = some r := by rw [if_neg (show ¬ (false = true) by decide)] at H; exact H
          clear H
          have H := H1
          clear H1
          replace H := Option.bind_eq_some_iff.mp H
          obtain ⟨t8, A500, H⟩ := H
          try dsimp only at H
          have A50 := Aside0.mk A500
          clear A500
          by_cases c51 : t8 = true
          ·subst c51
           have H1 : (if t20 = t21 then ((clavigerlaw33_awake.f kj29).bind fun t9 => (some t9)) else (some false)) = some r := by rw [if_pos rfl] at H; exact H
           clear H
           have H := H1
           clear H1
           by_cases c52 : t20 = t21
           ·rw [if_pos c52] at H
            have c52b0 : (t20 == t21) = true := beq_iff_eq.mpr c52
            have c52b1 : (t20 != t21) = false := bne_eq_false_iff_eq.mpr c52
            clear c52
            replace H := Option.bind_eq_some_iff.mp H
            obtain ⟨t9, A530, H⟩ := H
            replace H : (some t9) = some r := H
            have A53 := Aside0.mk A530
            clear A530
            obtain rfl := Option.some.inj H
            obtain ⟨Ao54, co54, eo54⟩ := Kd.R_slice HO_12.out
            subst eo54
            obtain ⟨Ao55, co55, eo55⟩ := Kd.R_slice HO_14.out
            subst eo55
            go_wp2_with (first | (go_at_call 53; (with_reducible refine (clavigerplain_Attrs.calls kj29 _ _ t6 _ _ t7 true _ ?side1 ?side2 ?side3 ?side4 A50.out).mono ?_); (case side1 => repeat (first | exact (Kd.R_reads' HO_12.out).2.2 | (with_reducible refine Kd.C_alloc ?_ _) | (with_reducible refine Kd.C_drewN ?_ _) | (with_reducible refine Kd.C_drew ?_))); (case side2 => exact (Kd.R_reads' HO_12.out).2.1); (case side3 => repeat (first | exact (Kd.R_reads' HO_14.out).2.2 | (with_reducible refine Kd.C_alloc ?_ _) | (with_reducible refine Kd.C_drewN ?_ _) | (with_reducible refine Kd.C_drew ?_))); (case side4 => exact (Kd.R_reads' HO_14.out).2.1); rintro e w' ⟨rfl, ⟨nd, rfl⟩⟩; (try first | exact ⟨rfl, _, World.drewN_drewN _ _ _⟩ | exact ⟨rfl, _, Eq.trans (World.drewN_drewN _ _ _) (congrArg (World.drewN _) (Nat.add_assoc _ _ _))⟩)) | (go_at_call 48; (with_reducible refine (clavigerlaw33_awake.calls kj29  t9 _ A53.out).mono ?_); rintro e w56 ⟨rfl, hb⟩; have n0_ := Aside0.mk (Kd.R_below (by (with_reducible repeat (first | apply Kd.R_alloc | apply Kd.R_drewN | apply Kd.R_drew)); exact HO_12.out) hb); have n1_ := Aside0.mk (Kd.R_below (by (with_reducible repeat (first | apply Kd.R_alloc | apply Kd.R_drewN | apply Kd.R_drew)); exact HO_14.out) hb); have n2_ := Aside0.mk (below_step (by repeat first | with_reducible (first | exact HB.out | apply bA | apply bN | apply bD) | exact HB.out) hb); clear HO_12; clear HO_14; clear HB; have HO_12 := n0_; have HO_14 := n1_; have HB := n2_; clear n0_ n1_ n2_; (try clear hb); (try clear hb2); (try clear hk); (try clear hi)))
            repeat (go_quiet (first | (go_at_call 53; (with_reducible refine (clavigerplain_Attrs.calls kj29 _ _ t6 _ _ t7 true _ ?side1 ?side2 ?side3 ?side4 A50.out).mono ?_); (case side1 => repeat (first | exact (Kd.R_reads' HO_12.out).2.2 | (with_reducible refine Kd.C_alloc ?_ _) | (with_reducible refine Kd.C_drewN ?_ _) | (with_reducible refine Kd.C_drew ?_))); (case side2 => exact (Kd.R_reads' HO_12.out).2.1); (case side3 => repeat (first | exact (Kd.R_reads' HO_14.out).2.2 | (with_reducible refine Kd.C_alloc ?_ _) | (with_reducible refine Kd.C_drewN ?_ _) | (with_reducible refine Kd.C_drew ?_))); (case side4 => exact (Kd.R_reads' HO_14.out).2.1); rintro e w' ⟨rfl, ⟨nd, rfl⟩⟩; (try first | exact ⟨rfl, _, World.drewN_drewN _ _ _⟩ | exact ⟨rfl, _, Eq.trans (World.drewN_drewN _ _ _) (congrArg (World.drewN _) (Nat.add_assoc _ _ _))⟩)) | (go_at_call 48; (with_reducible refine (clavigerlaw33_awake.calls kj29  t9 _ A53.out).mono ?_); rintro e w56 ⟨rfl, hb⟩; have n0_ := Aside0.mk (Kd.R_below (by (with_reducible repeat (first | apply Kd.R_alloc | apply Kd.R_drewN | apply Kd.R_drew)); exact HO_12.out) hb); have n1_ := Aside0.mk (Kd.R_below (by (with_reducible repeat (first | apply Kd.R_alloc | apply Kd.R_drewN | apply Kd.R_drew)); exact HO_14.out) hb); have n2_ := Aside0.mk (below_step (by repeat first | with_reducible (first | exact HB.out | apply bA | apply bN | apply bD) | exact HB.out) hb); clear HO_12; clear HO_14; clear HB; have HO_12 := n0_; have HO_14 := n1_; have HB := n2_; clear n0_ n1_ n2_; (try clear hb); (try clear hb2); (try clear hk); (try clear hi))); try go_wp2_with (first | (go_at_call 53; (with_reducible refine (clavigerplain_Attrs.calls kj29 _ _ t6 _ _ t7 true _ ?side1 ?side2 ?side3 ?side4 A50.out).mono ?_); (case side1 => repeat (first | exact (Kd.R_reads' HO_12.out).2.2 | (with_reducible refine Kd.C_alloc ?_ _) | (with_reducible refine Kd.C_drewN ?_ _) | (with_reducible refine Kd.C_drew ?_))); (case side2 => exact (Kd.R_reads' HO_12.out).2.1); (case side3 => repeat (first | exact (Kd.R_reads' HO_14.out).2.2 | (with_reducible refine Kd.C_alloc ?_ _) | (with_reducible refine Kd.C_drewN ?_ _) | (with_reducible refine Kd.C_drew ?_))); (case side4 => exact (Kd.R_reads' HO_14.out).2.1); rintro e w' ⟨rfl, ⟨nd, rfl⟩⟩; (try first | exact ⟨rfl, _, World.drewN_drewN _ _ _⟩ | exact ⟨rfl, _, Eq.trans (World.drewN_drewN _ _ _) (congrArg (World.drewN _) (Nat.add_assoc _ _ _))⟩)) | (go_at_call 48; (with_reducible refine (clavigerlaw33_awake.calls kj29  t9 _ A53.out).mono ?_); rintro e w56 ⟨rfl, hb⟩; have n0_ := Aside0.mk (Kd.R_below (by (with_reducible repeat (first | apply Kd.R_alloc | apply Kd.R_drewN | apply Kd.R_drew)); exact HO_12.out) hb); have n1_ := Aside0.mk (Kd.R_below (by (with_reducible repeat (first | apply Kd.R_alloc | apply Kd.R_drewN | apply Kd.R_drew)); exact HO_14.out) hb); have n2_ := Aside0.mk (below_step (by repeat first | with_reducible (first | exact HB.out | apply bA | apply bN | apply bD) | exact HB.out) hb); clear HO_12; clear HO_14; clear HB; have HO_12 := n0_; have HO_14 := n1_; have HB := n2_; clear n0_ n1_ n2_; (try clear hb); (try clear hb2); (try clear hk); (try clear hi))))
            go_ret
            exact ⟨by first | rfl | (simp [*, errW_none, errW_some] <;> rfl), by repeat first | with_reducible (first | exact HB.out | apply bA | apply bN | apply bD) | exact HB.out⟩
           ·rw [if_neg c52] at H
            have c52b0 : (t20 == t21) = false := beq_eq_false_iff_ne.mpr c52
            have c52b1 : (t20 != t21) = true := bne_iff_ne.mpr c52
            obtain rfl := Option.some.inj H
            obtain ⟨Ao57, co57, eo57⟩ := Kd.R_slice HO_12.out
            subst eo57
            obtain ⟨Ao58, co58, eo58⟩ := Kd.R_slice HO_14.out
            subst eo58
            go_wp2_with (first | (go_at_call 53; (with_reducible refine (clavigerplain_Attrs.calls kj29 _ _ t6 _ _ t7 true _ ?side1 ?side2 ?side3 ?side4 A50.out).mono ?_); (case side1 => repeat (first | exact (Kd.R_reads' HO_12.out).2.2 | (with_reducible refine Kd.C_alloc ?_ _) | (with_reducible refine Kd.C_drewN ?_ _) | (with_reducible refine Kd.C_drew ?_))); (case side2 => exact (Kd.R_reads' HO_12.out).2.1); (case side3 => repeat (first | exact (Kd.R_reads' HO_14.out).2.2 | (with_reducible refine Kd.C_alloc ?_ _) | (with_reducible refine Kd.C_drewN ?_ _) | (with_reducible refine Kd.C_drew ?_))); (case side4 => exact (Kd.R_reads' HO_14.out).2.1); rintro e w' ⟨rfl, ⟨nd, rfl⟩⟩; (try first | exact ⟨rfl, _, World.drewN_drewN _ _ _⟩ | exact ⟨rfl, _, Eq.trans (World.drewN_drewN _ _ _) (congrArg (World.drewN _) (Nat.add_assoc _ _ _))⟩)))
            repeat (go_quiet (first | (go_at_call 53; (with_reducible refine (clavigerplain_Attrs.calls kj29 _ _ t6 _ _ t7 true _ ?side1 ?side2 ?side3 ?side4 A50.out).mono ?_); (case side1 => repeat (first | exact (Kd.R_reads' HO_12.out).2.2 | (with_reducible refine Kd.C_alloc ?_ _) | (with_reducible refine Kd.C_drewN ?_ _) | (with_reducible refine Kd.C_drew ?_))); (case side2 => exact (Kd.R_reads' HO_12.out).2.1); (case side3 => repeat (first | exact (Kd.R_reads' HO_14.out).2.2 | (with_reducible refine Kd.C_alloc ?_ _) | (with_reducible refine Kd.C_drewN ?_ _) | (with_reducible refine Kd.C_drew ?_))); (case side4 => exact (Kd.R_reads' HO_14.out).2.1); rintro e w' ⟨rfl, ⟨nd, rfl⟩⟩; (try first | exact ⟨rfl, _, World.drewN_drewN _ _ _⟩ | exact ⟨rfl, _, Eq.trans (World.drewN_drewN _ _ _) (congrArg (World.drewN _) (Nat.add_assoc _ _ _))⟩))); try go_wp2_with (first | (go_at_call 53; (with_reducible refine (clavigerplain_Attrs.calls kj29 _ _ t6 _ _ t7 true _ ?side1 ?side2 ?side3 ?side4 A50.out).mono ?_); (case side1 => repeat (first | exact (Kd.R_reads' HO_12.out).2.2 | (with_reducible refine Kd.C_alloc ?_ _) | (with_reducible refine Kd.C_drewN ?_ _) | (with_reducible refine Kd.C_drew ?_))); (case side2 => exact (Kd.R_reads' HO_12.out).2.1); (case side3 => repeat (first | exact (Kd.R_reads' HO_14.out).2.2 | (with_reducible refine Kd.C_alloc ?_ _) | (with_reducible refine Kd.C_drewN ?_ _) | (with_reducible refine Kd.C_drew ?_))); (case side4 => exact (Kd.R_reads' HO_14.out).2.1); rintro e w' ⟨rfl, ⟨nd, rfl⟩⟩; (try first | exact ⟨rfl, _, World.drewN_drewN _ _ _⟩ | exact ⟨rfl, _, Eq.trans (World.drewN_drewN _ _ _) (congrArg (World.drewN _) (Nat.add_assoc _ _ _))⟩))))
            go_ret
            exact ⟨by first | rfl | (simp [*, errW_none, errW_some] <;> rfl), by repeat first | with_reducible (first | exact HB.out | apply bA | apply bN | apply bD) | exact HB.out⟩
          ·replace c51 := Bool.eq_false_iff.mpr c51
           subst c51
           have H1 : (some false) = some r := by rw [if_neg (show ¬ (false = true) by decide)] at H; exact H
           clear H
           have H := H1
           clear H1
           obtain rfl := Option.some.inj H
           obtain ⟨Ao59, co59, eo59⟩ := Kd.R_slice HO_12.out
           subst eo59
           obtain ⟨Ao60, co60, eo60⟩ := Kd.R_slice HO_14.out
           subst eo60
           go_wp2_with (first | (go_at_call 53; (with_reducible refine (clavigerplain_Attrs.calls kj29 _ _ t6 _ _ t7 false _ ?side1 ?side2 ?side3 ?side4 A50.out).mono ?_); (case side1 => repeat (first | exact (Kd.R_reads' HO_12.out).2.2 | (with_reducible refine Kd.C_alloc ?_ _) | (with_reducible refine Kd.C_drewN ?_ _) | (with_reducible refine Kd.C_drew ?_))); (case side2 => exact (Kd.R_reads' HO_12.out).2.1); (case side3 => repeat (first | exact (Kd.R_reads' HO_14.out).2.2 | (with_reducible refine Kd.C_alloc ?_ _) | (with_reducible refine Kd.C_drewN ?_ _) | (with_reducible refine Kd.C_drew ?_))); (case side4 => exact (Kd.R_reads' HO_14.out).2.1); rintro e w' ⟨rfl, ⟨nd, rfl⟩⟩; (try first | exact ⟨rfl, _, World.drewN_drewN _ _ _⟩ | exact ⟨rfl, _, Eq.trans (World.drewN_drewN _ _ _) (congrArg (World.drewN _) (Nat.add_assoc _ _ _))⟩)))
           repeat (go_quiet (first | (go_at_call 53; (with_reducible refine (clavigerplain_Attrs.calls kj29 _ _ t6 _ _ t7 false _ ?side1 ?side2 ?side3 ?side4 A50.out).mono ?_); (case side1 => repeat (first | exact (Kd.R_reads' HO_12.out).2.2 | (with_reducible refine Kd.C_alloc ?_ _) | (with_reducible refine Kd.C_drewN ?_ _) | (with_reducible refine Kd.C_drew ?_))); (case side2 => exact (Kd.R_reads' HO_12.out).2.1); (case side3 => repeat (first | exact (Kd.R_reads' HO_14.out).2.2 | (with_reducible refine Kd.C_alloc ?_ _) | (with_reducible refine Kd.C_drewN ?_ _) | (with_reducible refine Kd.C_drew ?_))); (case side4 => exact (Kd.R_reads' HO_14.out).2.1); rintro e w' ⟨rfl, ⟨nd, rfl⟩⟩; (try first | exact ⟨rfl, _, World.drewN_drewN _ _ _⟩ | exact ⟨rfl, _, Eq.trans (World.drewN_drewN _ _ _) (congrArg (World.drewN _) (Nat.add_assoc _ _ _))⟩))); try go_wp2_with (first | (go_at_call 53; (with_reducible refine (clavigerplain_Attrs.calls kj29 _ _ t6 _ _ t7 false _ ?side1 ?side2 ?side3 ?side4 A50.out).mono ?_); (case side1 => repeat (first | exact (Kd.R_reads' HO_12.out).2.2 | (with_reducible refine Kd.C_alloc ?_ _) | (with_reducible refine Kd.C_drewN ?_ _) | (with_reducible refine Kd.C_drew ?_))); (case side2 => exact (Kd.R_reads' HO_12.out).2.1); (case side3 => repeat (first | exact (Kd.R_reads' HO_14.out).2.2 | (with_reducible refine Kd.C_alloc ?_ _) | (with_reducible refine Kd.C_drewN ?_ _) | (with_reducible refine Kd.C_drew ?_))); (case side4 => exact (Kd.R_reads' HO_14.out).2.1); rintro e w' ⟨rfl, ⟨nd, rfl⟩⟩; (try first | exact ⟨rfl, _, World.drewN_drewN _ _ _⟩ | exact ⟨rfl, _, Eq.trans (World.drewN_drewN _ _ _) (congrArg (World.drewN _) (Nat.add_assoc _ _ _))⟩))))
           go_ret
           exact ⟨by first | rfl | (simp [*, errW_none, errW_some] <;> rfl), by repeat first | with_reducible (first | exact HB.out | apply bA | apply bN | apply bD) | exact HB.out⟩

end Go.Proofs.Ytmcpfkgahmdkgaa.Pr
