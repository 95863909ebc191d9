-- written by the session's program wip/hp.py over the kit's print; Lean checks it
import Derived.Test.YtmcpfkgahmdkgaaZPreq3
import Derived.Test.YtmcpfkgahmdkgaaZTempM
import Derived.Test.YtmcpfkgahmdkgaaZPrg33
import Derived.Test.YtmcpfkgahmdkgaaZPrL33awake
namespace Go.Proofs.Ytmcpfkgahmdkgaa.Pr
open Go.RowKit Go.Proofs.YtmcpfkgahmdkgaaW.PrintWords Go.Proofs.YtmcpfkgahmdkgaaW.PrintLast Go.Proofs.YtmcpfkgahmdkgaaW.PrintMore
attribute [local go_sem] max2_int min2_int max_two min_two max_three min_three max_four min_four   -- for this text's walks alone
set_option linter.unusedVariables false
set_option linter.unusedSimpArgs false

mutual
def clavigerlaw33_TemplBack.j0 : Nat → List (S102) → ByteArray → Bool → Option (Bool)
 | 0, _, _, _ => none
 | k + 1, x0, x1, x24 => if x24 = true then ((clavigerlaw33_awake.f k).bind fun t1 => (some t1)) else ((templ_Encode.f k x0).bind fun bt2 => (if bt2.2 = 0 then ((templ_Decode.f k bt2.1).bind fun bt3 => (if bt3.2 = 0 then ((clavigerplain_Attrs.f k bt3.1 x0).bind fun t4 => (if t4 = true then (clavigerlaw33_TemplBack.j1 k x0 x1) else (some false))) else (some false))) else (clavigerlaw33_TemplBack.j1 k x0 x1)))
def clavigerlaw33_TemplBack.j1 : Nat → List (S102) → ByteArray → Option (Bool)
 | 0, _, _ => none
 | k + 1, x0, x1 => (templ_Options.f k x0).bind fun bt5 => (if bt5.2 = 0 then ((templ_From.f k bt5.1).bind fun bt6 => (if bt6.2 = 0 then ((clavigerplain_Attrs.f k bt6.1 x0).bind fun t7 => (clavigerlaw33_TemplBack.j2 k x1 (!t7))) else (clavigerlaw33_TemplBack.j2 k x1 true))) else ((templ_Decode.f k x1).bind fun bt8 => ((templ_Encode.f k bt8.1).bind fun bt9 => (if bt8.2 = 0 then (if bt9.1.toList = x1.toList then (if bt9.2 = 0 then ((clavigerlaw33_awake.f k).bind fun t10 => (some t10)) else (some false)) else (some false)) else (if (bt8.1.length : Int) = 0 then ((clavigerlaw33_awake.f k).bind fun t11 => (some t11)) else (if bt9.1.toList = x1.toList then (if bt9.2 = 0 then ((clavigerlaw33_awake.f k).bind fun t12 => (some t12)) else (some false)) else (some false)))))))
def clavigerlaw33_TemplBack.j2 : Nat → ByteArray → Bool → Option (Bool)
 | 0, _, _ => none
 | k + 1, x1, x65 => if x65 = true then (some false) else ((templ_Decode.f k x1).bind fun bt13 => ((templ_Encode.f k bt13.1).bind fun bt14 => (if bt13.2 = 0 then (if bt14.1.toList = x1.toList then (if bt14.2 = 0 then ((clavigerlaw33_awake.f k).bind fun t15 => (some t15)) else (some false)) else (some false)) else (if (bt13.1.length : Int) = 0 then ((clavigerlaw33_awake.f k).bind fun t16 => (some t16)) else (if bt14.1.toList = x1.toList then (if bt14.2 = 0 then ((clavigerlaw33_awake.f k).bind fun t17 => (some t17)) else (some false)) else (some false))))))
end
def clavigerlaw33_TemplBack.f (k : Nat) (l0 : List (S102)) (a1 : ByteArray) : Option (Bool) := (clavigerplain_Few.f k l0 60).bind fun t18 => (if t18 = true then (clavigerlaw33_TemplBack.j0 k l0 a1 (decide ((a1.size : Int) > 2000))) else (clavigerlaw33_TemplBack.j0 k l0 a1 true))
theorem clavigerlaw33_TemplBack.mono_l : ∀ k, (∀ y19 y20 y21, LeO (clavigerlaw33_TemplBack.j0 k y19 y20 y21) (clavigerlaw33_TemplBack.j0 (k + 1) y19 y20 y21)) ∧ (∀ y19 y20, LeO (clavigerlaw33_TemplBack.j1 k y19 y20) (clavigerlaw33_TemplBack.j1 (k + 1) y19 y20)) ∧ (∀ y19 y20, LeO (clavigerlaw33_TemplBack.j2 k y19 y20) (clavigerlaw33_TemplBack.j2 (k + 1) y19 y20))
 | 0 => ⟨fun _ _ _ r h => by simp [clavigerlaw33_TemplBack.j0] at h, fun _ _ r h => by simp [clavigerlaw33_TemplBack.j1] at h, fun _ _ r h => by simp [clavigerlaw33_TemplBack.j2] at h⟩
 | k + 1 => by
  obtain ⟨ih0, ih1, ih2⟩ := clavigerlaw33_TemplBack.mono_l k
  refine ⟨?_, ?_, ?_⟩
  ·intro y19 y20 y21
   unfold clavigerlaw33_TemplBack.j0
   repeat' first
   | (with_reducible exact ih0 _ _ _)
   | (with_reducible exact ih1 _ _)
   | (with_reducible exact ih2 _ _)
   | (with_reducible exact clavigerlaw33_awake.mono _)
   | (with_reducible exact clavigerplain_Attrs.mono _ _ _)
   | (with_reducible exact clavigerplain_Few.mono _ _ _)
   | (with_reducible exact templ_Decode.mono _ _)
   | (with_reducible exact templ_Encode.mono _ _)
   | (with_reducible exact templ_From.mono _ _)
   | (with_reducible exact templ_Options.mono _ _)
   | (with_reducible exact LeO.refl _)
   | (with_reducible exact LeO.none _)
   | (with_reducible refine LeO.ite ?_ ?_)
   | (with_reducible refine LeO.bind ?_ (fun _ => ?_))
  ·intro y19 y20
   unfold clavigerlaw33_TemplBack.j1
   repeat' first
   | (with_reducible exact ih0 _ _ _)
   | (with_reducible exact ih1 _ _)
   | (with_reducible exact ih2 _ _)
   | (with_reducible exact clavigerlaw33_awake.mono _)
   | (with_reducible exact clavigerplain_Attrs.mono _ _ _)
   | (with_reducible exact clavigerplain_Few.mono _ _ _)
   | (with_reducible exact templ_Decode.mono _ _)
   | (with_reducible exact templ_Encode.mono _ _)
   | (with_reducible exact templ_From.mono _ _)
   | (with_reducible exact templ_Options.mono _ _)
   | (with_reducible exact LeO.refl _)
   | (with_reducible exact LeO.none _)
   | (with_reducible refine LeO.ite ?_ ?_)
   | (with_reducible refine LeO.bind ?_ (fun _ => ?_))
  ·intro y19 y20
   unfold clavigerlaw33_TemplBack.j2
   repeat' first
   | (with_reducible exact ih0 _ _ _)
   | (with_reducible exact ih1 _ _)
   | (with_reducible exact ih2 _ _)
   | (with_reducible exact clavigerlaw33_awake.mono _)
   | (with_reducible exact clavigerplain_Attrs.mono _ _ _)
   | (with_reducible exact clavigerplain_Few.mono _ _ _)
   | (with_reducible exact templ_Decode.mono _ _)
   | (with_reducible exact templ_Encode.mono _ _)
   | (with_reducible exact templ_From.mono _ _)
   | (with_reducible exact templ_Options.mono _ _)
   | (with_reducible exact LeO.refl _)
   | (with_reducible exact LeO.none _)
   | (with_reducible refine LeO.ite ?_ ?_)
   | (with_reducible refine LeO.bind ?_ (fun _ => ?_))
theorem clavigerlaw33_TemplBack.mono : ∀ a0 a1 k, LeO (clavigerlaw33_TemplBack.f k a0 a1) (clavigerlaw33_TemplBack.f (k + 1) a0 a1) := by
 intro a0 a1 k
 obtain ⟨ih0, ih1, ih2⟩ := clavigerlaw33_TemplBack.mono_l k
 unfold clavigerlaw33_TemplBack.f
 repeat' first
   | (with_reducible exact ih0 _ _ _)
   | (with_reducible exact ih1 _ _)
   | (with_reducible exact ih2 _ _)
   | (with_reducible exact clavigerlaw33_awake.mono _)
   | (with_reducible exact clavigerplain_Attrs.mono _ _ _)
   | (with_reducible exact clavigerplain_Few.mono _ _ _)
   | (with_reducible exact templ_Decode.mono _ _)
   | (with_reducible exact templ_Encode.mono _ _)
   | (with_reducible exact templ_From.mono _ _)
   | (with_reducible exact templ_Options.mono _ _)
   | (with_reducible exact LeO.refl _)
   | (with_reducible exact LeO.none _)
   | (with_reducible refine LeO.ite ?_ ?_)
   | (with_reducible refine LeO.bind ?_ (fun _ => ?_))
set_option maxHeartbeats 8000000 in
set_option maxRecDepth 100000 in
theorem clavigerlaw33_TemplBack.calls (k : Nat) (A0 : Option Addr) (c0 : Nat) (l0 : List (S102)) (a1 : ByteArray) (r : Bool) (w : World) (hr0 : Kd.C k102 w A0 l0.length l0) (hc0 : l0.length ≤ c0) (h : clavigerlaw33_TemplBack.f k l0 a1 = some r) :
  Calls Try.prog 13 #[.slice A0 l0.length c0, .string a1] w fun e w' => e = .returned (.bool r) ∧ Below w.heap.size w w' := by
 have HR0 := Aside0.mk hr0
 have HC0 := Aside0.mk hc0
 clear hr0 hc0
 have HB := Aside0.mk (Below.refl w.heap.size w)
 have H : ((clavigerplain_Few.f k l0 60).bind fun t18 => (if t18 = true then (clavigerlaw33_TemplBack.j0 k l0 a1 (decide ((a1.size : Int) > 2000))) else (clavigerlaw33_TemplBack.j0 k l0 a1 true))) = some r := h
 clear h
 have HC3 := Aside0.mk H
 clear H
 go_enter Try.func13, Try.ntmps13
 go_upto_region 1 with (fail)
 go_cut [24] (fun v24 wc => ∃ (kq : Nat) (x24_2 : Bool), v24 = .bool x24_2 ∧ Aside0 (clavigerlaw33_TemplBack.j0 kq l0 a1 x24_2 = some r) ∧ Aside0 (kq ≤ k) ∧ Aside0 (Below w.heap.size w wc))
 case first =>
  have H := HC3.out
  clear HC3
  replace H := Option.bind_eq_some_iff.mp H
  obtain ⟨t18, A40, H⟩ := H
  try dsimp only at H
  have A4 := Aside0.mk A40
  clear A40
  by_cases c5 : t18 = true
  ·subst c5
   have H1 : (clavigerlaw33_TemplBack.j0 k l0 a1 (decide ((a1.size : Int) > 2000))) = some r := by rw [if_pos rfl] at H; exact H
   clear H
   have H := H1
   clear H1
   have H' := Aside0.mk H
   clear H
   go_wp2_with (first | ((with_reducible refine gate_callee (f := 47) rfl ?_); refine goesL_ (some 18) rfl rfl Try.func47 (by kernel_rfl) rfl #[.slice A0 l0.length c0, .int .i64 60] rfl (by (try simp only [lT, lC, lN]); first | done | rfl | (simp only [List.length_drop, List.length_take]; rfl) | (simp only [ByteArray.size_extract, Nat.min_self, Nat.sub_zero, ByteArray.size_append]; first | done | rfl)) ?_; (with_reducible refine (clavigerplain_Few.calls k _ _ l0 60 true _ ?side1 ?side2 A4.out).mono ?_); (case side1 => repeat (first | exact (Kd.C_below HR0.out HB.out) | (with_reducible refine Kd.C_alloc ?_ _) | (with_reducible refine Kd.C_drewN ?_ _) | (with_reducible refine Kd.C_drew ?_))); (case side2 => exact HC0.out); rintro e w' ⟨rfl, ⟨nd, rfl⟩⟩; refine ⟨_, rfl, ?_⟩))
   go_meet
   case rel => exact ⟨_, (decide ((a1.size : Int) > 2000)), (by first | rfl | (simp; done) | (simp [*]; done)), H', ⟨by first | omega | exact Nat.le_refl _⟩, ⟨by repeat first | with_reducible (first | exact HB.out | apply bA | apply bN | apply bD) | exact HB.out⟩⟩
  ·replace c5 := Bool.eq_false_iff.mpr c5
   subst c5
   have H1 : (clavigerlaw33_TemplBack.j0 k l0 a1 true) = some r := by rw [if_neg (show ¬ (false = true) by decide)] at H; exact H
   clear H
   have H := H1
   clear H1
   have H' := Aside0.mk H
   clear H
   go_wp2_with (first | ((with_reducible refine gate_callee (f := 47) rfl ?_); refine goesL_ (some 18) rfl rfl Try.func47 (by kernel_rfl) rfl #[.slice A0 l0.length c0, .int .i64 60] rfl (by (try simp only [lT, lC, lN]); first | done | rfl | (simp only [List.length_drop, List.length_take]; rfl) | (simp only [ByteArray.size_extract, Nat.min_self, Nat.sub_zero, ByteArray.size_append]; first | done | rfl)) ?_; (with_reducible refine (clavigerplain_Few.calls k _ _ l0 60 false _ ?side1 ?side2 A4.out).mono ?_); (case side1 => repeat (first | exact (Kd.C_below HR0.out HB.out) | (with_reducible refine Kd.C_alloc ?_ _) | (with_reducible refine Kd.C_drewN ?_ _) | (with_reducible refine Kd.C_drew ?_))); (case side2 => exact HC0.out); rintro e w' ⟨rfl, ⟨nd, rfl⟩⟩; refine ⟨_, rfl, ?_⟩))
   go_meet
   case rel => exact ⟨_, (true), (by first | rfl | (simp; done) | (simp [*]; done)), H', ⟨by first | omega | exact Nat.le_refl _⟩, ⟨by repeat first | with_reducible (first | exact HB.out | apply bA | apply bN | apply bD) | exact HB.out⟩⟩
 case rest =>
  clear HC3
  try clear c1
  try clear p2
  try clear c4
  try clear c5
  obtain ⟨kq, x24_2, rfl, HA, HJ2, HB⟩ := hcut
  cases kq with
  | zero => exact absurd HA.out (by simp [clavigerlaw33_TemplBack.j0])
  | succ kj2 =>
   have H := HA.out
   clear HA
   simp only [clavigerlaw33_TemplBack.j0] at H
   by_cases c6 : x24_2 = true
   ·subst c6
    have H1 : ((clavigerlaw33_awake.f kj2).bind fun t1 => (some t1)) = some r := by rw [if_pos rfl] at H; exact H
    clear H
    have H := H1
    clear H1
    replace H := Option.bind_eq_some_iff.mp H
    obtain ⟨t1, A70, H⟩ := H
    replace H : (some t1) = some r := H
    have A7 := Aside0.mk A70
    clear A70
    obtain rfl := Option.some.inj H
    go_wp2_with (first | ((with_reducible refine gate_callee (f := 48) rfl ?_); refine goesL_ (some 25) rfl rfl Try.func48 (by kernel_rfl) rfl #[] rfl (by (try simp only [lT, lC, lN]); first | done | rfl) ?_; (with_reducible refine (clavigerlaw33_awake.calls kj2  t1 _ A7.out).mono ?_); rintro e w8 ⟨rfl, hb⟩; refine ⟨_, rfl, ?_⟩; have n0_ := Aside0.mk (below_step (by repeat first | with_reducible (first | exact HB.out | apply bA | apply bN | apply bD) | exact HB.out) hb); clear HB; have HB := n0_; clear n0_; (try clear hb); (try clear hb2); (try clear hk); (try clear hi)))
    go_ret
    exact ⟨by first | rfl | (simp [*, errW_none, errW_some] <;> rfl), by repeat first | with_reducible (first | exact HB.out | apply bA | apply bN | apply bD) | exact HB.out⟩
   ·replace c6 := Bool.eq_false_iff.mpr c6
    subst c6
    have H1 : ((templ_Encode.f kj2 l0).bind fun bt2 => (if bt2.2 = 0 then ((templ_Decode.f kj2 bt2.1).bind fun bt3 => (if bt3.2 = 0 then ((clavigerplain_Attrs.f kj2 bt3.1 l0).bind fun t4 => (if t4 = true then (clavigerlaw33_TemplBack.j1 kj2 l0 a1) else (some false))) else (some false))) else (clavigerlaw33_TemplBack.j1 kj2 l0 a1))) = some r := by rw [if_neg (show ¬ (false = true) by decide)] at H; exact H
    clear H
    have H := H1
    clear H1
    replace H := Option.bind_eq_some_iff.mp H
    obtain ⟨⟨t2, t22⟩, A90, H⟩ := H
    try dsimp only at H
    have A9 := Aside0.mk A90
    clear A90
    have HC10 := Aside0.mk H
    clear H
    go_upto_if 32 with (first | ((with_reducible refine gate_callee (f := 49) rfl ?_); refine goesL_ (some 28) rfl rfl Try.func49 (by kernel_rfl) rfl #[.slice A0 l0.length c0] rfl (by (try simp only [lT, lC, lN]); first | done | rfl | (simp only [List.length_drop, List.length_take]; rfl) | (simp only [ByteArray.size_extract, Nat.min_self, Nat.sub_zero, ByteArray.size_append]; first | done | rfl)) ?_; (with_reducible refine (templ_Encode.calls kj2 _ _ l0 t2 t22 _ ?side1 ?side2 A9.out).mono ?_); (case side1 => repeat (first | exact (Kd.C_below HR0.out HB.out) | (with_reducible refine Kd.C_alloc ?_ _) | (with_reducible refine Kd.C_drewN ?_ _) | (with_reducible refine Kd.C_drew ?_))); (case side2 => exact HC0.out); rintro e w11 ⟨rfl, hb⟩; refine ⟨_, rfl, ?_⟩; have n0_ := Aside0.mk (below_step (by repeat first | with_reducible (first | exact HB.out | apply bA | apply bN | apply bD) | exact HB.out) hb); clear HB; have HB := n0_; clear n0_; (try clear hb); (try clear hb2); (try clear hk); (try clear hi)))
    (try simp only [Act.put, List.setIfInBounds_toArray, List.set_cons_zero, List.set_cons_succ])
    go_cut [] (fun wc => ∃ (kq : Nat), Aside0 (clavigerlaw33_TemplBack.j1 kq l0 a1 = some r) ∧ Aside0 (kq ≤ kj2) ∧ Aside0 (Below w.heap.size w wc))
    case first =>
     have H := HC10.out
     clear HC10
     by_cases c12 : t22 = 0
     ·rw [if_pos c12] at H
      have c12b0 : (t22 == 0) = true := beq_iff_eq.mpr c12
      have c12b1 : (t22 != 0) = false := bne_eq_false_iff_eq.mpr c12
      clear c12
      (first | rw [c12b0] | (simp only [i64_w, i32_w]; rw [c12b0]) | skip)
      replace H := Option.bind_eq_some_iff.mp H
      obtain ⟨⟨t3, t23⟩, A130, H⟩ := H
      try dsimp only at H
      have A13 := Aside0.mk A130
      clear A130
      by_cases c14 : t23 = 0
      ·rw [if_pos c14] at H
       have c14b0 : (t23 == 0) = true := beq_iff_eq.mpr c14
       have c14b1 : (t23 != 0) = false := bne_eq_false_iff_eq.mpr c14
       clear c14
       replace H := Option.bind_eq_some_iff.mp H
       obtain ⟨t4, A150, H⟩ := H
       try dsimp only at H
       have A15 := Aside0.mk A150
       clear A150
       by_cases c16 : t4 = true
       ·subst c16
        have H1 : (clavigerlaw33_TemplBack.j1 kj2 l0 a1) = some r := by rw [if_pos rfl] at H; exact H
        clear H
        have H := H1
        clear H1
        have H' := Aside0.mk H
        clear H
        go_wp2_with (first | ((with_reducible refine gate_callee (f := 51) rfl ?_); refine goesL_ (some 35) rfl rfl Try.func51 (by kernel_rfl) rfl #[.string t2] rfl (by (try simp only [lT, lC, lN]); first | done | rfl) ?_; (with_reducible refine (templ_Decode.calls kj2 t2 t3 t23 _ A13.out).mono ?_); rintro e w17 ⟨v467, rfl, ho0, hb⟩; refine ⟨_, rfl, ?_⟩; have n0_ := Aside0.mk (Kd.R_lower ho0 (below_size (by repeat first | with_reducible (first | exact HB.out | apply bA | apply bN | apply bD) | exact HB.out))); have n1_ := Aside0.mk (below_step (by repeat first | with_reducible (first | exact HB.out | apply bA | apply bN | apply bD) | exact HB.out) hb); clear HB; have HO468 := n0_; have HB := n1_; clear n0_ n1_; (try clear hb); (try clear hb2); (try clear hk); (try clear hi); (try clear ho0); obtain ⟨Ao18, co18, eo18⟩ := Kd.R_slice HO468.out; subst eo18) | (go_at_call 53; (with_reducible refine (clavigerplain_Attrs.calls kj2 _ _ t3 _ _ l0 true _ ?side1 ?side2 ?side3 ?side4 A15.out).mono ?_); (case side1 => repeat (first | exact (Kd.R_reads' HO468.out).2.2 | (with_reducible refine Kd.C_alloc ?_ _) | (with_reducible refine Kd.C_drewN ?_ _) | (with_reducible refine Kd.C_drew ?_))); (case side2 => exact (Kd.R_reads' HO468.out).2.1); (case side3 => repeat (first | exact (Kd.C_below HR0.out HB.out) | (with_reducible refine Kd.C_alloc ?_ _) | (with_reducible refine Kd.C_drewN ?_ _) | (with_reducible refine Kd.C_drew ?_))); (case side4 => exact HC0.out); rintro e w' ⟨rfl, ⟨nd, rfl⟩⟩))
        go_meet
        case rel => exact ⟨_, H', ⟨by have := HJ2.out; first | omega | exact Nat.le_refl _⟩, ⟨by repeat first | with_reducible (first | exact HB.out | apply bA | apply bN | apply bD) | exact HB.out⟩⟩
       ·replace c16 := Bool.eq_false_iff.mpr c16
        subst c16
        have H1 : (some false) = some r := by rw [if_neg (show ¬ (false = true) by decide)] at H; exact H
        clear H
        have H := H1
        clear H1
        obtain rfl := Option.some.inj H
        go_wp2_with (first | ((with_reducible refine gate_callee (f := 51) rfl ?_); refine goesL_ (some 35) rfl rfl Try.func51 (by kernel_rfl) rfl #[.string t2] rfl (by (try simp only [lT, lC, lN]); first | done | rfl) ?_; (with_reducible refine (templ_Decode.calls kj2 t2 t3 t23 _ A13.out).mono ?_); rintro e w19 ⟨v467, rfl, ho0, hb⟩; refine ⟨_, rfl, ?_⟩; have n0_ := Aside0.mk (Kd.R_lower ho0 (below_size (by repeat first | with_reducible (first | exact HB.out | apply bA | apply bN | apply bD) | exact HB.out))); have n1_ := Aside0.mk (below_step (by repeat first | with_reducible (first | exact HB.out | apply bA | apply bN | apply bD) | exact HB.out) hb); clear HB; have HO468 := n0_; have HB := n1_; clear n0_ n1_; (try clear hb); (try clear hb2); (try clear hk); (try clear hi); (try clear ho0); obtain ⟨Ao20, co20, eo20⟩ := Kd.R_slice HO468.out; subst eo20) | (go_at_call 53; (with_reducible refine (clavigerplain_Attrs.calls kj2 _ _ t3 _ _ l0 false _ ?side1 ?side2 ?side3 ?side4 A15.out).mono ?_); (case side1 => repeat (first | exact (Kd.R_reads' HO468.out).2.2 | (with_reducible refine Kd.C_alloc ?_ _) | (with_reducible refine Kd.C_drewN ?_ _) | (with_reducible refine Kd.C_drew ?_))); (case side2 => exact (Kd.R_reads' HO468.out).2.1); (case side3 => repeat (first | exact (Kd.C_below HR0.out HB.out) | (with_reducible refine Kd.C_alloc ?_ _) | (with_reducible refine Kd.C_drewN ?_ _) | (with_reducible refine Kd.C_drew ?_))); (case side4 => exact HC0.out); rintro e w' ⟨rfl, ⟨nd, rfl⟩⟩))
        go_ret
        exact ⟨by first | rfl | (simp [*, errW_none, errW_some] <;> rfl), by repeat first | with_reducible (first | exact HB.out | apply bA | apply bN | apply bD) | exact HB.out⟩
      ·rw [if_neg c14] at H
       have c14b0 : (t23 == 0) = false := beq_eq_false_iff_ne.mpr c14
       have c14b1 : (t23 != 0) = true := bne_iff_ne.mpr c14
       obtain rfl := Option.some.inj H
       go_wp2_with (first | ((with_reducible refine gate_callee (f := 51) rfl ?_); refine goesL_ (some 35) rfl rfl Try.func51 (by kernel_rfl) rfl #[.string t2] rfl (by (try simp only [lT, lC, lN]); first | done | rfl) ?_; (with_reducible refine (templ_Decode.calls kj2 t2 t3 t23 _ A13.out).mono ?_); rintro e w21 ⟨v467, rfl, ho0, hb⟩; refine ⟨_, rfl, ?_⟩; have n0_ := Aside0.mk (Kd.R_lower ho0 (below_size (by repeat first | with_reducible (first | exact HB.out | apply bA | apply bN | apply bD) | exact HB.out))); have n1_ := Aside0.mk (below_step (by repeat first | with_reducible (first | exact HB.out | apply bA | apply bN | apply bD) | exact HB.out) hb); clear HB; have HO468 := n0_; have HB := n1_; clear n0_ n1_; (try clear hb); (try clear hb2); (try clear hk); (try clear hi); (try clear ho0)))
       go_ret
       exact ⟨by first | rfl | (simp [*, errW_none, errW_some] <;> rfl), by repeat first | with_reducible (first | exact HB.out | apply bA | apply bN | apply bD) | exact HB.out⟩
     ·rw [if_neg c12] at H
      have c12b0 : (t22 == 0) = false := beq_eq_false_iff_ne.mpr c12
      have c12b1 : (t22 != 0) = true := bne_iff_ne.mpr c12
      (first | rw [c12b0] | (simp only [i64_w, i32_w]; rw [c12b0]) | skip)
      have H' := Aside0.mk H
      clear H
      go_wp2
      go_meet
      case rel => exact ⟨_, H', ⟨by have := HJ2.out; first | omega | exact Nat.le_refl _⟩, ⟨by repeat first | with_reducible (first | exact HB.out | apply bA | apply bN | apply bD) | exact HB.out⟩⟩
    case rest =>
     clear HC10
     try clear c1
     try clear p2
     try clear c4
     try clear c5
     try clear c6
     try clear c12
     try clear c12b0
     try clear c12b1
     try clear c13
     try clear c14
     try clear c14b0
     try clear c14b1
     try clear c16
     try clear p2
     obtain ⟨kq, HA, HJ9, HB⟩ := hcut
     cases kq with
     | zero => exact absurd HA.out (by simp [clavigerlaw33_TemplBack.j1])
     | succ kj9 =>
      have H := HA.out
      clear HA
      simp only [clavigerlaw33_TemplBack.j1] at H
      replace H := Option.bind_eq_some_iff.mp H
      obtain ⟨⟨t5, t24⟩, A220, H⟩ := H
      try dsimp only at H
      have A22 := Aside0.mk A220
      clear A220
      by_cases c23 : t24 = 0
      ·rw [if_pos c23] at H
       have c23b0 : (t24 == 0) = true := beq_iff_eq.mpr c23
       have c23b1 : (t24 != 0) = false := bne_eq_false_iff_eq.mpr c23
       clear c23
       replace H := Option.bind_eq_some_iff.mp H
       obtain ⟨⟨t6, t25⟩, A240, H⟩ := H
       try dsimp only at H
       have A24 := Aside0.mk A240
       clear A240
       have HC25 := Aside0.mk H
       clear H
       go_upto_region 11 with (first | ((with_reducible refine gate_callee (f := 54) rfl ?_); refine goesL_ (some 48) rfl rfl Try.func54 (by kernel_rfl) rfl #[.slice A0 l0.length c0] rfl (by (try simp only [lT, lC, lN]); first | done | rfl | (simp only [List.length_drop, List.length_take]; rfl) | (simp only [ByteArray.size_extract, Nat.min_self, Nat.sub_zero, ByteArray.size_append]; first | done | rfl)) ?_; (with_reducible refine (templ_Options.calls kj9 _ _ l0 t5 t24 _ ?side1 ?side2 A22.out).mono ?_); (case side1 => repeat (first | exact (Kd.C_below HR0.out HB.out) | (with_reducible refine Kd.C_alloc ?_ _) | (with_reducible refine Kd.C_drewN ?_ _) | (with_reducible refine Kd.C_drew ?_))); (case side2 => exact HC0.out); rintro e w26 ⟨v472, rfl, ho0, hb⟩; refine ⟨_, rfl, ?_⟩; have n0_ := Aside0.mk (Kd.R_lower ho0 (below_size (by repeat first | with_reducible (first | exact HB.out | apply bA | apply bN | apply bD) | exact HB.out))); have n1_ := Aside0.mk (below_step (by repeat first | with_reducible (first | exact HB.out | apply bA | apply bN | apply bD) | exact HB.out) hb); clear HB; have HO473 := n0_; have HB := n1_; clear n0_ n1_; (try clear hb); (try clear hb2); (try clear hk); (try clear hi); (try clear ho0); obtain ⟨Ao27, co27, eo27⟩ := Kd.R_slice HO473.out; subst eo27) | ((with_reducible refine gate_callee (f := 56) rfl ?_); refine goesL_ (some 55) rfl rfl Try.func56 (by kernel_rfl) rfl #[.slice Ao27 t5.length co27] rfl (by (try simp only [lT, lC, lN]); first | done | rfl | (simp only [List.length_drop, List.length_take]; rfl) | (simp only [ByteArray.size_extract, Nat.min_self, Nat.sub_zero, ByteArray.size_append]; first | done | rfl)) ?_; (with_reducible refine (templ_From.calls kj9 _ _ t5 t6 t25 _ ?side1 ?side2 A24.out).mono ?_); (case side1 => repeat (first | exact (Kd.R_reads' HO473.out).2.2 | (with_reducible refine Kd.C_alloc ?_ _) | (with_reducible refine Kd.C_drewN ?_ _) | (with_reducible refine Kd.C_drew ?_))); (case side2 => exact (Kd.R_reads' HO473.out).2.1); rintro e w28 ⟨v476, rfl, ho0, hb⟩; refine ⟨_, rfl, ?_⟩; have n0_ := Aside0.mk (Kd.R_below (by (with_reducible repeat (first | apply Kd.R_alloc | apply Kd.R_drewN | apply Kd.R_drew)); exact HO473.out) hb); have n1_ := Aside0.mk (Kd.R_lower ho0 (below_size (by repeat first | with_reducible (first | exact HB.out | apply bA | apply bN | apply bD) | exact HB.out))); have n2_ := Aside0.mk (below_step (by repeat first | with_reducible (first | exact HB.out | apply bA | apply bN | apply bD) | exact HB.out) hb); clear HO473; clear HB; have HO473 := n0_; have HO477 := n1_; have HB := n2_; clear n0_ n1_ n2_; (try clear hb); (try clear hb2); (try clear hk); (try clear hi); (try clear ho0)))
       (try simp only [Act.put, List.setIfInBounds_toArray, List.set_cons_zero, List.set_cons_succ])
       go_cut [65] (fun v65 wc => ∃ (kq : Nat) (x65_24 : Bool), v65 = .bool x65_24 ∧ Aside0 (clavigerlaw33_TemplBack.j2 kq a1 x65_24 = some r) ∧ Aside0 (kq ≤ kj9) ∧ Aside0 (Below w.heap.size w wc))
       case first =>
        have H := HC25.out
        clear HC25
        by_cases c29 : t25 = 0
        ·rw [if_pos c29] at H
         have c29b0 : (t25 == 0) = true := beq_iff_eq.mpr c29
         have c29b1 : (t25 != 0) = false := bne_eq_false_iff_eq.mpr c29
         clear c29
         (first | rw [c29b0] | (simp only [i64_w, i32_w]; rw [c29b0]) | skip)
         replace H := Option.bind_eq_some_iff.mp H
         obtain ⟨t7, A300, H⟩ := H
         replace H : (clavigerlaw33_TemplBack.j2 kj9 a1 (!t7)) = some r := H
         have A30 := Aside0.mk A300
         clear A300
         have H' := Aside0.mk H
         clear H
         obtain ⟨Ao31, co31, eo31⟩ := Kd.R_slice HO477.out
         subst eo31
         go_wp2_with (first | (go_at_call 53; (with_reducible refine (clavigerplain_Attrs.calls kj9 _ _ t6 _ _ l0 t7 _ ?side1 ?side2 ?side3 ?side4 A30.out).mono ?_); (case side1 => repeat (first | exact (Kd.R_reads' HO477.out).2.2 | (with_reducible refine Kd.C_alloc ?_ _) | (with_reducible refine Kd.C_drewN ?_ _) | (with_reducible refine Kd.C_drew ?_))); (case side2 => exact (Kd.R_reads' HO477.out).2.1); (case side3 => repeat (first | exact (Kd.C_below HR0.out HB.out) | (with_reducible refine Kd.C_alloc ?_ _) | (with_reducible refine Kd.C_drewN ?_ _) | (with_reducible refine Kd.C_drew ?_))); (case side4 => exact HC0.out); rintro e w' ⟨rfl, ⟨nd, rfl⟩⟩))
         go_meet
         case rel => exact ⟨_, (!t7), (by first | rfl | (simp; done) | (simp [*]; done)), H', ⟨by have := HJ2.out; have := HJ9.out; first | omega | exact Nat.le_refl _⟩, ⟨by repeat first | with_reducible (first | exact HB.out | apply bA | apply bN | apply bD) | exact HB.out⟩⟩
        ·rw [if_neg c29] at H
         have c29b0 : (t25 == 0) = false := beq_eq_false_iff_ne.mpr c29
         have c29b1 : (t25 != 0) = true := bne_iff_ne.mpr c29
         (first | rw [c29b0] | (simp only [i64_w, i32_w]; rw [c29b0]) | skip)
         have H' := Aside0.mk H
         clear H
         go_wp2
         go_meet
         case rel => exact ⟨_, (true), (by first | rfl | (simp; done) | (simp [*]; done)), H', ⟨by have := HJ2.out; have := HJ9.out; first | omega | exact Nat.le_refl _⟩, ⟨by repeat first | with_reducible (first | exact HB.out | apply bA | apply bN | apply bD) | exact HB.out⟩⟩
       case rest =>
        clear HC25
        try clear c1
        try clear c2
        try clear p2
        try clear c4
        try clear c5
        try clear c6
        try clear c12
        try clear c12b0
        try clear c12b1
        try clear c13
        try clear c14
        try clear c14b0
        try clear c14b1
        try clear c16
        try clear c23
        try clear c23b0
        try clear c23b1
        try clear c29
        try clear c29b0
        try clear c29b1
        try clear p2
        obtain ⟨kq, x65_24, rfl, HA, HJ24, HB⟩ := hcut
        cases kq with
        | zero => exact absurd HA.out (by simp [clavigerlaw33_TemplBack.j2])
        | succ kj24 =>
         have H := HA.out
         clear HA
         simp only [clavigerlaw33_TemplBack.j2] at H
         by_cases c32 : x65_24 = true
         ·subst c32
          have H1 : (some false) = some r := by rw [if_pos rfl] at H; exact H
          clear H
          have H := H1
          clear H1
          obtain rfl := Option.some.inj H
          go_wp2
          go_ret
          exact ⟨by first | rfl | (simp [*, errW_none, errW_some] <;> rfl), by repeat first | with_reducible (first | exact HB.out | apply bA | apply bN | apply bD) | exact HB.out⟩
         ·replace c32 := Bool.eq_false_iff.mpr c32
          subst c32
          have H1 : ((templ_Decode.f kj24 a1).bind fun bt13 => ((templ_Encode.f kj24 bt13.1).bind fun bt14 => (if bt13.2 = 0 then (if bt14.1.toList = a1.toList then (if bt14.2 = 0 then ((clavigerlaw33_awake.f kj24).bind fun t15 => (some t15)) else (some false)) else (some false)) else (if (bt13.1.length : Int) = 0 then ((clavigerlaw33_awake.f kj24).bind fun t16 => (some t16)) else (if bt14.1.toList = a1.toList then (if bt14.2 = 0 then ((clavigerlaw33_awake.f kj24).bind fun t17 => (some t17)) else (some false)) else (some false)))))) = some r := by rw [if_neg (show ¬ (false = true) by decide)] at H; exact H
          clear H
          have H := H1
          clear H1
          replace H := Option.bind_eq_some_iff.mp H
          obtain ⟨⟨t13, t26⟩, A330, H⟩ := H
          try dsimp only at H
          have A33 := Aside0.mk A330
          clear A330
          replace H := Option.bind_eq_some_iff.mp H
          obtain ⟨⟨t14, t27⟩, A340, H⟩ := H
          try dsimp only at H
          have A34 := Aside0.mk A340
          clear A340
          by_cases c35 : t26 = 0
          ·rw [if_pos c35] at H
           have c35b0 : (t26 == 0) = true := beq_iff_eq.mpr c35
           have c35b1 : (t26 != 0) = false := bne_eq_false_iff_eq.mpr c35
           clear c35
           by_cases c36 : t14.toList = a1.toList
           ·rw [if_pos c36] at H
            have c36b0 : (t14.toList == a1.toList) = true := beq_iff_eq.mpr c36
            have c36b1 : (t14.toList != a1.toList) = false := bne_eq_false_iff_eq.mpr c36
            clear c36
            by_cases c37 : t27 = 0
            ·rw [if_pos c37] at H
             have c37b0 : (t27 == 0) = true := beq_iff_eq.mpr c37
             have c37b1 : (t27 != 0) = false := bne_eq_false_iff_eq.mpr c37
             clear c37
             replace H := Option.bind_eq_some_iff.mp H
             obtain ⟨t15, A380, H⟩ := H
             replace H : (some t15) = some r := H
             have A38 := Aside0.mk A380
             clear A380
             obtain rfl := Option.some.inj H
             go_wp2_with (first | ((with_reducible refine gate_callee (f := 51) rfl ?_); refine goesL_ (some 68) rfl rfl Try.func51 (by kernel_rfl) rfl #[.string a1] rfl (by (try simp only [lT, lC, lN]); first | done | rfl) ?_; (with_reducible refine (templ_Decode.calls kj24 a1 t13 t26 _ A33.out).mono ?_); rintro e w39 ⟨v481, rfl, ho0, hb⟩; refine ⟨_, rfl, ?_⟩; have n0_ := Aside0.mk (Kd.R_lower ho0 (below_size (by repeat first | with_reducible (first | exact HB.out | apply bA | apply bN | apply bD) | exact HB.out))); have n1_ := Aside0.mk (below_step (by repeat first | with_reducible (first | exact HB.out | apply bA | apply bN | apply bD) | exact HB.out) hb); clear HB; have HO482 := n0_; have HB := n1_; clear n0_ n1_; (try clear hb); (try clear hb2); (try clear hk); (try clear hi); (try clear ho0); obtain ⟨Ao40, co40, eo40⟩ := Kd.R_slice HO482.out; subst eo40) | ((with_reducible refine gate_callee (f := 49) rfl ?_); refine goesL_ (some 73) rfl rfl Try.func49 (by kernel_rfl) rfl #[.slice Ao40 t13.length co40] rfl (by (try simp only [lT, lC, lN]); first | done | rfl | (simp only [List.length_drop, List.length_take]; rfl) | (simp only [ByteArray.size_extract, Nat.min_self, Nat.sub_zero, ByteArray.size_append]; first | done | rfl)) ?_; (with_reducible refine (templ_Encode.calls kj24 _ _ t13 t14 t27 _ ?side1 ?side2 A34.out).mono ?_); (case side1 => repeat (first | exact (Kd.R_reads' HO482.out).2.2 | (with_reducible refine Kd.C_alloc ?_ _) | (with_reducible refine Kd.C_drewN ?_ _) | (with_reducible refine Kd.C_drew ?_))); (case side2 => exact (Kd.R_reads' HO482.out).2.1); rintro e w41 ⟨rfl, hb⟩; refine ⟨_, rfl, ?_⟩; have n0_ := Aside0.mk (Kd.R_below (by (with_reducible repeat (first | apply Kd.R_alloc | apply Kd.R_drewN | apply Kd.R_drew)); exact HO482.out) hb); have n1_ := Aside0.mk (below_step (by repeat first | with_reducible (first | exact HB.out | apply bA | apply bN | apply bD) | exact HB.out) hb); clear HO482; clear HB; have HO482 := n0_; have HB := n1_; clear n0_ n1_; (try clear hb); (try clear hb2); (try clear hk); (try clear hi)) | (go_at_call 48; (with_reducible refine (clavigerlaw33_awake.calls kj24  t15 _ A38.out).mono ?_); rintro e w42 ⟨rfl, hb⟩; have n0_ := Aside0.mk (Kd.R_below (by (with_reducible repeat (first | apply Kd.R_alloc | apply Kd.R_drewN | apply Kd.R_drew)); exact HO482.out) hb); have n1_ := Aside0.mk (below_step (by repeat first | with_reducible (first | exact HB.out | apply bA | apply bN | apply bD) | exact HB.out) hb); clear HO482; clear HB; have HO482 := n0_; have HB := n1_; clear n0_ n1_; (try clear hb); (try clear hb2); (try clear hk); (try clear hi)))
             go_ret
             exact ⟨by first | rfl | (simp [*, errW_none, errW_some] <;> rfl), by repeat first | with_reducible (first | exact HB.out | apply bA | apply bN | apply bD) | exact HB.out⟩
            ·rw [if_neg c37] at H
             have c37b0 : (t27 == 0) = false := beq_eq_false_iff_ne.mpr c37
             have c37b1 : (t27 != 0) = true := bne_iff_ne.mpr c37
             obtain rfl := Option.some.inj H
             go_wp2_with (first | ((with_reducible refine gate_callee (f := 51) rfl ?_); refine goesL_ (some 68) rfl rfl Try.func51 (by kernel_rfl) rfl #[.string a1] rfl (by (try simp only [lT, lC, lN]); first | done | rfl) ?_; (with_reducible refine (templ_Decode.calls kj24 a1 t13 t26 _ A33.out).mono ?_); rintro e w43 ⟨v481, rfl, ho0, hb⟩; refine ⟨_, rfl, ?_⟩; have n0_ := Aside0.mk (Kd.R_lower ho0 (below_size (by repeat first | with_reducible (first | exact HB.out | apply bA | apply bN | apply bD) | exact HB.out))); have n1_ := Aside0.mk (below_step (by repeat first | with_reducible (first | exact HB.out | apply bA | apply bN | apply bD) | exact HB.out) hb); clear HB; have HO482 := n0_; have HB := n1_; clear n0_ n1_; (try clear hb); (try clear hb2); (try clear hk); (try clear hi); (try clear ho0); obtain ⟨Ao44, co44, eo44⟩ := Kd.R_slice HO482.out; subst eo44) | ((with_reducible refine gate_callee (f := 49) rfl ?_); refine goesL_ (some 73) rfl rfl Try.func49 (by kernel_rfl) rfl #[.slice Ao44 t13.length co44] rfl (by (try simp only [lT, lC, lN]); first | done | rfl | (simp only [List.length_drop, List.length_take]; rfl) | (simp only [ByteArray.size_extract, Nat.min_self, Nat.sub_zero, ByteArray.size_append]; first | done | rfl)) ?_; (with_reducible refine (templ_Encode.calls kj24 _ _ t13 t14 t27 _ ?side1 ?side2 A34.out).mono ?_); (case side1 => repeat (first | exact (Kd.R_reads' HO482.out).2.2 | (with_reducible refine Kd.C_alloc ?_ _) | (with_reducible refine Kd.C_drewN ?_ _) | (with_reducible refine Kd.C_drew ?_))); (case side2 => exact (Kd.R_reads' HO482.out).2.1); rintro e w45 ⟨rfl, hb⟩; refine ⟨_, rfl, ?_⟩; have n0_ := Aside0.mk (Kd.R_below (by (with_reducible repeat (first | apply Kd.R_alloc | apply Kd.R_drewN | apply Kd.R_drew)); exact HO482.out) hb); have n1_ := Aside0.mk (below_step (by repeat first | with_reducible (first | exact HB.out | apply bA | apply bN | apply bD) | exact HB.out) hb); clear HO482; clear HB; have HO482 := n0_; have HB := n1_; clear n0_ n1_; (try clear hb); (try clear hb2); (try clear hk); (try clear hi)))
             go_ret
             exact ⟨by first | rfl | (simp [*, errW_none, errW_some] <;> rfl), by repeat first | with_reducible (first | exact HB.out | apply bA | apply bN | apply bD) | exact HB.out⟩
           ·rw [if_neg c36] at H
            have c36b0 : (t14.toList == a1.toList) = false := beq_eq_false_iff_ne.mpr c36
            have c36b1 : (t14.toList != a1.toList) = true := bne_iff_ne.mpr c36
            obtain rfl := Option.some.inj H
            go_wp2_with (first | ((with_reducible refine gate_callee (f := 51) rfl ?_); refine goesL_ (some 68) rfl rfl Try.func51 (by kernel_rfl) rfl #[.string a1] rfl (by (try simp only [lT, lC, lN]); first | done | rfl) ?_; (with_reducible refine (templ_Decode.calls kj24 a1 t13 t26 _ A33.out).mono ?_); rintro e w46 ⟨v481, rfl, ho0, hb⟩; refine ⟨_, rfl, ?_⟩; have n0_ := Aside0.mk (Kd.R_lower ho0 (below_size (by repeat first | with_reducible (first | exact HB.out | apply bA | apply bN | apply bD) | exact HB.out))); have n1_ := Aside0.mk (below_step (by repeat first | with_reducible (first | exact HB.out | apply bA | apply bN | apply bD) | exact HB.out) hb); clear HB; have HO482 := n0_; have HB := n1_; clear n0_ n1_; (try clear hb); (try clear hb2); (try clear hk); (try clear hi); (try clear ho0); obtain ⟨Ao47, co47, eo47⟩ := Kd.R_slice HO482.out; subst eo47) | ((with_reducible refine gate_callee (f := 49) rfl ?_); refine goesL_ (some 73) rfl rfl Try.func49 (by kernel_rfl) rfl #[.slice Ao47 t13.length co47] rfl (by (try simp only [lT, lC, lN]); first | done | rfl | (simp only [List.length_drop, List.length_take]; rfl) | (simp only [ByteArray.size_extract, Nat.min_self, Nat.sub_zero, ByteArray.size_append]; first | done | rfl)) ?_; (with_reducible refine (templ_Encode.calls kj24 _ _ t13 t14 t27 _ ?side1 ?side2 A34.out).mono ?_); (case side1 => repeat (first | exact (Kd.R_reads' HO482.out).2.2 | (with_reducible refine Kd.C_alloc ?_ _) | (with_reducible refine Kd.C_drewN ?_ _) | (with_reducible refine Kd.C_drew ?_))); (case side2 => exact (Kd.R_reads' HO482.out).2.1); rintro e w48 ⟨rfl, hb⟩; refine ⟨_, rfl, ?_⟩; have n0_ := Aside0.mk (Kd.R_below (by (with_reducible repeat (first | apply Kd.R_alloc | apply Kd.R_drewN | apply Kd.R_drew)); exact HO482.out) hb); have n1_ := Aside0.mk (below_step (by repeat first | with_reducible (first | exact HB.out | apply bA | apply bN | apply bD) | exact HB.out) hb); clear HO482; clear HB; have HO482 := n0_; have HB := n1_; clear n0_ n1_; (try clear hb); (try clear hb2); (try clear hk); (try clear hi)))
            go_ret
            exact ⟨by first | rfl | (simp [*, errW_none, errW_some] <;> rfl), by repeat first | with_reducible (first | exact HB.out | apply bA | apply bN | apply bD) | exact HB.out⟩
          ·rw [if_neg c35] at H
           have c35b0 : (t26 == 0) = false := beq_eq_false_iff_ne.mpr c35
           have c35b1 : (t26 != 0) = true := bne_iff_ne.mpr c35
           by_cases c49 : (t13.length : Int) = 0
           ·rw [if_pos c49] at H
            have c49b0 : ((t13.length : Int) == 0) = true := beq_iff_eq.mpr c49
            have c49b1 : ((t13.length : Int) != 0) = false := bne_eq_false_iff_eq.mpr c49
            clear c49
            replace H := Option.bind_eq_some_iff.mp H
            obtain ⟨t16, A500, H⟩ := H
            replace H : (some t16) = some r := H
            have A50 := Aside0.mk A500
            clear A500
            obtain rfl := Option.some.inj H
            go_wp2_with (first | ((with_reducible refine gate_callee (f := 51) rfl ?_); refine goesL_ (some 68) rfl rfl Try.func51 (by kernel_rfl) rfl #[.string a1] rfl (by (try simp only [lT, lC, lN]); first | done | rfl) ?_; (with_reducible refine (templ_Decode.calls kj24 a1 t13 t26 _ A33.out).mono ?_); rintro e w51 ⟨v481, rfl, ho0, hb⟩; refine ⟨_, rfl, ?_⟩; have n0_ := Aside0.mk (Kd.R_lower ho0 (below_size (by repeat first | with_reducible (first | exact HB.out | apply bA | apply bN | apply bD) | exact HB.out))); have n1_ := Aside0.mk (below_step (by repeat first | with_reducible (first | exact HB.out | apply bA | apply bN | apply bD) | exact HB.out) hb); clear HB; have HO482 := n0_; have HB := n1_; clear n0_ n1_; (try clear hb); (try clear hb2); (try clear hk); (try clear hi); (try clear ho0); obtain ⟨Ao52, co52, eo52⟩ := Kd.R_slice HO482.out; subst eo52) | ((with_reducible refine gate_callee (f := 49) rfl ?_); refine goesL_ (some 73) rfl rfl Try.func49 (by kernel_rfl) rfl #[.slice Ao52 t13.length co52] rfl (by (try simp only [lT, lC, lN]); first | done | rfl | (simp only [List.length_drop, List.length_take]; rfl) | (simp only [ByteArray.size_extract, Nat.min_self, Nat.sub_zero, ByteArray.size_append]; first | done | rfl)) ?_; (with_reducible refine (templ_Encode.calls kj24 _ _ t13 t14 t27 _ ?side1 ?side2 A34.out).mono ?_); (case side1 => repeat (first | exact (Kd.R_reads' HO482.out).2.2 | (with_reducible refine Kd.C_alloc ?_ _) | (with_reducible refine Kd.C_drewN ?_ _) | (with_reducible refine Kd.C_drew ?_))); (case side2 => exact (Kd.R_reads' HO482.out).2.1); rintro e w53 ⟨rfl, hb⟩; refine ⟨_, rfl, ?_⟩; have n0_ := Aside0.mk (Kd.R_below (by (with_reducible repeat (first | apply Kd.R_alloc | apply Kd.R_drewN | apply Kd.R_drew)); exact HO482.out) hb); have n1_ := Aside0.mk (below_step (by repeat first | with_reducible (first | exact HB.out | apply bA | apply bN | apply bD) | exact HB.out) hb); clear HO482; clear HB; have HO482 := n0_; have HB := n1_; clear n0_ n1_; (try clear hb); (try clear hb2); (try clear hk); (try clear hi)) | (go_at_call 48; (with_reducible refine (clavigerlaw33_awake.calls kj24  t16 _ A50.out).mono ?_); rintro e w54 ⟨rfl, hb⟩; have n0_ := Aside0.mk (Kd.R_below (by (with_reducible repeat (first | apply Kd.R_alloc | apply Kd.R_drewN | apply Kd.R_drew)); exact HO482.out) hb); have n1_ := Aside0.mk (below_step (by repeat first | with_reducible (first | exact HB.out | apply bA | apply bN | apply bD) | exact HB.out) hb); clear HO482; clear HB; have HO482 := n0_; have HB := n1_; clear n0_ n1_; (try clear hb); (try clear hb2); (try clear hk); (try clear hi)))
            go_ret
            exact ⟨by first | rfl | (simp [*, errW_none, errW_some] <;> rfl), by repeat first | with_reducible (first | exact HB.out | apply bA | apply bN | apply bD) | exact HB.out⟩
           ·rw [if_neg c49] at H
            have c49b0 : ((t13.length : Int) == 0) = false := beq_eq_false_iff_ne.mpr c49
            have c49b1 : ((t13.length : Int) != 0) = true := bne_iff_ne.mpr c49
            have c49b2 : ¬ (t13 = []) := fun h_ => c49 (by rw [h_]; rfl)
            by_cases c55 : t14.toList = a1.toList
            ·rw [if_pos c55] at H
             have c55b0 : (t14.toList == a1.toList) = true := beq_iff_eq.mpr c55
             have c55b1 : (t14.toList != a1.toList) = false := bne_eq_false_iff_eq.mpr c55
             clear c55
             by_cases c56 : t27 = 0
             ·rw [if_pos c56] at H
              have c56b0 : (t27 == 0) = true := beq_iff_eq.mpr c56
              have c56b1 : (t27 != 0) = false := bne_eq_false_iff_eq.mpr c56
              clear c56
              replace H := Option.bind_eq_some_iff.mp H
              obtain ⟨t17, A570, H⟩ := H
              replace H : (some t17) = some r := H
              have A57 := Aside0.mk A570
              clear A570
              obtain rfl := Option.some.inj H
              go_wp2_with (first | ((with_reducible refine gate_callee (f := 51) rfl ?_); refine goesL_ (some 68) rfl rfl Try.func51 (by kernel_rfl) rfl #[.string a1] rfl (by (try simp only [lT, lC, lN]); first | done | rfl) ?_; (with_reducible refine (templ_Decode.calls kj24 a1 t13 t26 _ A33.out).mono ?_); rintro e w58 ⟨v481, rfl, ho0, hb⟩; refine ⟨_, rfl, ?_⟩; have n0_ := Aside0.mk (Kd.R_lower ho0 (below_size (by repeat first | with_reducible (first | exact HB.out | apply bA | apply bN | apply bD) | exact HB.out))); have n1_ := Aside0.mk (below_step (by repeat first | with_reducible (first | exact HB.out | apply bA | apply bN | apply bD) | exact HB.out) hb); clear HB; have HO482 := n0_; have HB := n1_; clear n0_ n1_; (try clear hb); (try clear hb2); (try clear hk); (try clear hi); (try clear ho0); obtain ⟨Ao59, co59, eo59⟩ := Kd.R_slice HO482.out; subst eo59) | ((with_reducible refine gate_callee (f := 49) rfl ?_); refine goesL_ (some 73) rfl rfl Try.func49 (by kernel_rfl) rfl #[.slice Ao59 t13.length co59] rfl (by (try simp only [lT, lC, lN]); first | done | rfl | (simp only [List.length_drop, List.length_take]; rfl) | (simp only [ByteArray.size_extract, Nat.min_self, Nat.sub_zero, ByteArray.size_append]; first | done | rfl)) ?_; (with_reducible refine (templ_Encode.calls kj24 _ _ t13 t14 t27 _ ?side1 ?side2 A34.out).mono ?_); (case side1 => repeat (first | exact (Kd.R_reads' HO482.out).2.2 | (with_reducible refine Kd.C_alloc ?_ _) | (with_reducible refine Kd.C_drewN ?_ _) | (with_reducible refine Kd.C_drew ?_))); (case side2 => exact (Kd.R_reads' HO482.out).2.1); rintro e w60 ⟨rfl, hb⟩; refine ⟨_, rfl, ?_⟩; have n0_ := Aside0.mk (Kd.R_below (by (with_reducible repeat (first | apply Kd.R_alloc | apply Kd.R_drewN | apply Kd.R_drew)); exact HO482.out) hb); have n1_ := Aside0.mk (below_step (by repeat first | with_reducible (first | exact HB.out | apply bA | apply bN | apply bD) | exact HB.out) hb); clear HO482; clear HB; have HO482 := n0_; have HB := n1_; clear n0_ n1_; (try clear hb); (try clear hb2); (try clear hk); (try clear hi)) | (go_at_call 48; (with_reducible refine (clavigerlaw33_awake.calls kj24  t17 _ A57.out).mono ?_); rintro e w61 ⟨rfl, hb⟩; have n0_ := Aside0.mk (Kd.R_below (by (with_reducible repeat (first | apply Kd.R_alloc | apply Kd.R_drewN | apply Kd.R_drew)); exact HO482.out) hb); have n1_ := Aside0.mk (below_step (by repeat first | with_reducible (first | exact HB.out | apply bA | apply bN | apply bD) | exact HB.out) hb); clear HO482; clear HB; have HO482 := n0_; have HB := n1_; clear n0_ n1_; (try clear hb); (try clear hb2); (try clear hk); (try clear hi)))
              go_ret
              exact ⟨by first | rfl | (simp [*, errW_none, errW_some] <;> rfl), by repeat first | with_reducible (first | exact HB.out | apply bA | apply bN | apply bD) | exact HB.out⟩
             ·rw [if_neg c56] at H
              have c56b0 : (t27 == 0) = false := beq_eq_false_iff_ne.mpr c56
              have c56b1 : (t27 != 0) = true := bne_iff_ne.mpr c56
              obtain rfl := Option.some.inj H
              go_wp2_with (first | ((with_reducible refine gate_callee (f := 51) rfl ?_); refine goesL_ (some 68) rfl rfl Try.func51 (by kernel_rfl) rfl #[.string a1] rfl (by (try simp only [lT, lC, lN]); first | done | rfl) ?_; (with_reducible refine (templ_Decode.calls kj24 a1 t13 t26 _ A33.out).mono ?_); rintro e w62 ⟨v481, rfl, ho0, hb⟩; refine ⟨_, rfl, ?_⟩; have n0_ := Aside0.mk (Kd.R_lower ho0 (below_size (by repeat first | with_reducible (first | exact HB.out | apply bA | apply bN | apply bD) | exact HB.out))); have n1_ := Aside0.mk (below_step (by repeat first | with_reducible (first | exact HB.out | apply bA | apply bN | apply bD) | exact HB.out) hb); clear HB; have HO482 := n0_; have HB := n1_; clear n0_ n1_; (try clear hb); (try clear hb2); (try clear hk); (try clear hi); (try clear ho0); obtain ⟨Ao63, co63, eo63⟩ := Kd.R_slice HO482.out; subst eo63) | ((with_reducible refine gate_callee (f := 49) rfl ?_); refine goesL_ (some 73) rfl rfl Try.func49 (by kernel_rfl) rfl #[.slice Ao63 t13.length co63] rfl (by (try simp only [lT, lC, lN]); first | done | rfl | (simp only [List.length_drop, List.length_take]; rfl) | (simp only [ByteArray.size_extract, Nat.min_self, Nat.sub_zero, ByteArray.size_append]; first | done | rfl)) ?_; (with_reducible refine (templ_Encode.calls kj24 _ _ t13 t14 t27 _ ?side1 ?side2 A34.out).mono ?_); (case side1 => repeat (first | exact (Kd.R_reads' HO482.out).2.2 | (with_reducible refine Kd.C_alloc ?_ _) | (with_reducible refine Kd.C_drewN ?_ _) | (with_reducible refine Kd.C_drew ?_))); (case side2 => exact (Kd.R_reads' HO482.out).2.1); rintro e w64 ⟨rfl, hb⟩; refine ⟨_, rfl, ?_⟩; have n0_ := Aside0.mk (Kd.R_below (by (with_reducible repeat (first | apply Kd.R_alloc | apply Kd.R_drewN | apply Kd.R_drew)); exact HO482.out) hb); have n1_ := Aside0.mk (below_step (by repeat first | with_reducible (first | exact HB.out | apply bA | apply bN | apply bD) | exact HB.out) hb); clear HO482; clear HB; have HO482 := n0_; have HB := n1_; clear n0_ n1_; (try clear hb); (try clear hb2); (try clear hk); (try clear hi)))
              go_ret
              exact ⟨by first | rfl | (simp [*, errW_none, errW_some] <;> rfl), by repeat first | with_reducible (first | exact HB.out | apply bA | apply bN | apply bD) | exact HB.out⟩
            ·rw [if_neg c55] at H
             have c55b0 : (t14.toList == a1.toList) = false := beq_eq_false_iff_ne.mpr c55
             have c55b1 : (t14.toList != a1.toList) = true := bne_iff_ne.mpr c55
             obtain rfl := Option.some.inj H
             go_wp2_with (first | ((with_reducible refine gate_callee (f := 51) rfl ?_); refine goesL_ (some 68) rfl rfl Try.func51 (by kernel_rfl) rfl #[.string a1] rfl (by (try simp only [lT, lC, lN]); first | done | rfl) ?_; (with_reducible refine (templ_Decode.calls kj24 a1 t13 t26 _ A33.out).mono ?_); rintro e w65 ⟨v481, rfl, ho0, hb⟩; refine ⟨_, rfl, ?_⟩; have n0_ := Aside0.mk (Kd.R_lower ho0 (below_size (by repeat first | with_reducible (first | exact HB.out | apply bA | apply bN | apply bD) | exact HB.out))); have n1_ := Aside0.mk (below_step (by repeat first | with_reducible (first | exact HB.out | apply bA | apply bN | apply bD) | exact HB.out) hb); clear HB; have HO482 := n0_; have HB := n1_; clear n0_ n1_; (try clear hb); (try clear hb2); (try clear hk); (try clear hi); (try clear ho0); obtain ⟨Ao66, co66, eo66⟩ := Kd.R_slice HO482.out; subst eo66) | ((with_reducible refine gate_callee (f := 49) rfl ?_); refine goesL_ (some 73) rfl rfl Try.func49 (by kernel_rfl) rfl #[.slice Ao66 t13.length co66] rfl (by (try simp only [lT, lC, lN]); first | done | rfl | (simp only [List.length_drop, List.length_take]; rfl) | (simp only [ByteArray.size_extract, Nat.min_self, Nat.sub_zero, ByteArray.size_append]; first | done | rfl)) ?_; (with_reducible refine (templ_Encode.calls kj24 _ _ t13 t14 t27 _ ?side1 ?side2 A34.out).mono ?_); (case side1 => repeat (first | exact (Kd.R_reads' HO482.out).2.2 | (with_reducible refine Kd.C_alloc ?_ _) | (with_reducible refine Kd.C_drewN ?_ _) | (with_reducible refine Kd.C_drew ?_))); (case side2 => exact (Kd.R_reads' HO482.out).2.1); rintro e w67 ⟨rfl, hb⟩; refine ⟨_, rfl, ?_⟩; have n0_ := Aside0.mk (Kd.R_below (by (with_reducible repeat (first | apply Kd.R_alloc | apply Kd.R_drewN | apply Kd.R_drew)); exact HO482.out) hb); have n1_ := Aside0.mk (below_step (by repeat first | with_reducible (first | exact HB.out | apply bA | apply bN | apply bD) | exact HB.out) hb); clear HO482; clear HB; have HO482 := n0_; have HB := n1_; clear n0_ n1_; (try clear hb); (try clear hb2); (try clear hk); (try clear hi)))
             go_ret
             exact ⟨by first | rfl | (simp [*, errW_none, errW_some] <;> rfl), by repeat first | with_reducible (first | exact HB.out | apply bA | apply bN | apply bD) | exact HB.out⟩
      ·rw [if_neg c23] at H
       have c23b0 : (t24 == 0) = false := beq_eq_false_iff_ne.mpr c23
       have c23b1 : (t24 != 0) = true := bne_iff_ne.mpr c23
       replace H := Option.bind_eq_some_iff.mp H
       obtain ⟨⟨t8, t28⟩, A680, H⟩ := H
       try dsimp only at H
       have A68 := Aside0.mk A680
       clear A680
       replace H := Option.bind_eq_some_iff.mp H
       obtain ⟨⟨t9, t29⟩, A690, H⟩ := H
       try dsimp only at H
       have A69 := Aside0.mk A690
       clear A690
       by_cases c70 : t28 = 0
       ·rw [if_pos c70] at H
        have c70b0 : (t28 == 0) = true := beq_iff_eq.mpr c70
        have c70b1 : (t28 != 0) = false := bne_eq_false_iff_eq.mpr c70
        clear c70
        by_cases c71 : t9.toList = a1.toList
        ·rw [if_pos c71] at H
         have c71b0 : (t9.toList == a1.toList) = true := beq_iff_eq.mpr c71
         have c71b1 : (t9.toList != a1.toList) = false := bne_eq_false_iff_eq.mpr c71
         clear c71
         by_cases c72 : t29 = 0
         ·rw [if_pos c72] at H
          have c72b0 : (t29 == 0) = true := beq_iff_eq.mpr c72
          have c72b1 : (t29 != 0) = false := bne_eq_false_iff_eq.mpr c72
          clear c72
          replace H := Option.bind_eq_some_iff.mp H
          obtain ⟨t10, A730, H⟩ := H
          replace H : (some t10) = some r := H
          have A73 := Aside0.mk A730
          clear A730
          obtain rfl := Option.some.inj H
          go_wp2_with (first | ((with_reducible refine gate_callee (f := 54) rfl ?_); refine goesL_ (some 48) rfl rfl Try.func54 (by kernel_rfl) rfl #[.slice A0 l0.length c0] rfl (by (try simp only [lT, lC, lN]); first | done | rfl | (simp only [List.length_drop, List.length_take]; rfl) | (simp only [ByteArray.size_extract, Nat.min_self, Nat.sub_zero, ByteArray.size_append]; first | done | rfl)) ?_; (with_reducible refine (templ_Options.calls kj9 _ _ l0 t5 t24 _ ?side1 ?side2 A22.out).mono ?_); (case side1 => repeat (first | exact (Kd.C_below HR0.out HB.out) | (with_reducible refine Kd.C_alloc ?_ _) | (with_reducible refine Kd.C_drewN ?_ _) | (with_reducible refine Kd.C_drew ?_))); (case side2 => exact HC0.out); rintro e w74 ⟨v472, rfl, ho0, hb⟩; refine ⟨_, rfl, ?_⟩; have n0_ := Aside0.mk (Kd.R_lower ho0 (below_size (by repeat first | with_reducible (first | exact HB.out | apply bA | apply bN | apply bD) | exact HB.out))); have n1_ := Aside0.mk (below_step (by repeat first | with_reducible (first | exact HB.out | apply bA | apply bN | apply bD) | exact HB.out) hb); clear HB; have HO473 := n0_; have HB := n1_; clear n0_ n1_; (try clear hb); (try clear hb2); (try clear hk); (try clear hi); (try clear ho0)) | ((with_reducible refine gate_callee (f := 51) rfl ?_); refine goesL_ (some 68) rfl rfl Try.func51 (by kernel_rfl) rfl #[.string a1] rfl (by (try simp only [lT, lC, lN]); first | done | rfl) ?_; (with_reducible refine (templ_Decode.calls kj9 a1 t8 t28 _ A68.out).mono ?_); rintro e w75 ⟨v490, rfl, ho0, hb⟩; refine ⟨_, rfl, ?_⟩; have n0_ := Aside0.mk (Kd.R_below (by (with_reducible repeat (first | apply Kd.R_alloc | apply Kd.R_drewN | apply Kd.R_drew)); exact HO473.out) hb); have n1_ := Aside0.mk (Kd.R_lower ho0 (below_size (by repeat first | with_reducible (first | exact HB.out | apply bA | apply bN | apply bD) | exact HB.out))); have n2_ := Aside0.mk (below_step (by repeat first | with_reducible (first | exact HB.out | apply bA | apply bN | apply bD) | exact HB.out) hb); clear HO473; clear HB; have HO473 := n0_; have HO491 := n1_; have HB := n2_; clear n0_ n1_ n2_; (try clear hb); (try clear hb2); (try clear hk); (try clear hi); (try clear ho0); obtain ⟨Ao76, co76, eo76⟩ := Kd.R_slice HO491.out; subst eo76) | ((with_reducible refine gate_callee (f := 49) rfl ?_); refine goesL_ (some 73) rfl rfl Try.func49 (by kernel_rfl) rfl #[.slice Ao76 t8.length co76] rfl (by (try simp only [lT, lC, lN]); first | done | rfl | (simp only [List.length_drop, List.length_take]; rfl) | (simp only [ByteArray.size_extract, Nat.min_self, Nat.sub_zero, ByteArray.size_append]; first | done | rfl)) ?_; (with_reducible refine (templ_Encode.calls kj9 _ _ t8 t9 t29 _ ?side1 ?side2 A69.out).mono ?_); (case side1 => repeat (first | exact (Kd.R_reads' HO491.out).2.2 | (with_reducible refine Kd.C_alloc ?_ _) | (with_reducible refine Kd.C_drewN ?_ _) | (with_reducible refine Kd.C_drew ?_))); (case side2 => exact (Kd.R_reads' HO491.out).2.1); rintro e w77 ⟨rfl, hb⟩; refine ⟨_, rfl, ?_⟩; have n0_ := Aside0.mk (Kd.R_below (by (with_reducible repeat (first | apply Kd.R_alloc | apply Kd.R_drewN | apply Kd.R_drew)); exact HO473.out) hb); have n1_ := Aside0.mk (Kd.R_below (by (with_reducible repeat (first | apply Kd.R_alloc | apply Kd.R_drewN | apply Kd.R_drew)); exact HO491.out) hb); have n2_ := Aside0.mk (below_step (by repeat first | with_reducible (first | exact HB.out | apply bA | apply bN | apply bD) | exact HB.out) hb); clear HO473; clear HO491; clear HB; have HO473 := n0_; have HO491 := n1_; have HB := n2_; clear n0_ n1_ n2_; (try clear hb); (try clear hb2); (try clear hk); (try clear hi)) | (go_at_call 48; (with_reducible refine (clavigerlaw33_awake.calls kj9  t10 _ A73.out).mono ?_); rintro e w78 ⟨rfl, hb⟩; have n0_ := Aside0.mk (Kd.R_below (by (with_reducible repeat (first | apply Kd.R_alloc | apply Kd.R_drewN | apply Kd.R_drew)); exact HO473.out) hb); have n1_ := Aside0.mk (Kd.R_below (by (with_reducible repeat (first | apply Kd.R_alloc | apply Kd.R_drewN | apply Kd.R_drew)); exact HO491.out) hb); have n2_ := Aside0.mk (below_step (by repeat first | with_reducible (first | exact HB.out | apply bA | apply bN | apply bD) | exact HB.out) hb); clear HO473; clear HO491; clear HB; have HO473 := n0_; have HO491 := n1_; have HB := n2_; clear n0_ n1_ n2_; (try clear hb); (try clear hb2); (try clear hk); (try clear hi)))
          go_ret
          exact ⟨by first | rfl | (simp [*, errW_none, errW_some] <;> rfl), by repeat first | with_reducible (first | exact HB.out | apply bA | apply bN | apply bD) | exact HB.out⟩
         ·rw [if_neg c72] at H
          have c72b0 : (t29 == 0) = false := beq_eq_false_iff_ne.mpr c72
          have c72b1 : (t29 != 0) = true := bne_iff_ne.mpr c72
          obtain rfl := Option.some.inj H
          go_wp2_with (first | ((with_reducible refine gate_callee (f := 54) rfl ?_); refine goesL_ (some 48) rfl rfl Try.func54 (by kernel_rfl) rfl #[.slice A0 l0.length c0] rfl (by (try simp only [lT, lC, lN]); first | done | rfl | (simp only [List.length_drop, List.length_take]; rfl) | (simp only [ByteArray.size_extract, Nat.min_self, Nat.sub_zero, ByteArray.size_append]; first | done | rfl)) ?_; (with_reducible refine (templ_Options.calls kj9 _ _ l0 t5 t24 _ ?side1 ?side2 A22.out).mono ?_); (case side1 => repeat (first | exact (Kd.C_below HR0.out HB.out) | (with_reducible refine Kd.C_alloc ?_ _) | (with_reducible refine Kd.C_drewN ?_ _) | (with_reducible refine Kd.C_drew ?_))); (case side2 => exact HC0.out); rintro e w79 ⟨v472, rfl, ho0, hb⟩; refine ⟨_, rfl, ?_⟩; have n0_ := Aside0.mk (Kd.R_lower ho0 (below_size (by repeat first | with_reducible (first | exact HB.out | apply bA | apply bN | apply bD) | exact HB.out))); have n1_ := Aside0.mk (below_step (by repeat first | with_reducible (first | exact HB.out | apply bA | apply bN | apply bD) | exact HB.out) hb); clear HB; have HO473 := n0_; have HB := n1_; clear n0_ n1_; (try clear hb); (try clear hb2); (try clear hk); (try clear hi); (try clear ho0)) | ((with_reducible refine gate_callee (f := 51) rfl ?_); refine goesL_ (some 68) rfl rfl Try.func51 (by kernel_rfl) rfl #[.string a1] rfl (by (try simp only [lT, lC, lN]); first | done | rfl) ?_; (with_reducible refine (templ_Decode.calls kj9 a1 t8 t28 _ A68.out).mono ?_); rintro e w80 ⟨v490, rfl, ho0, hb⟩; refine ⟨_, rfl, ?_⟩; have n0_ := Aside0.mk (Kd.R_below (by (with_reducible repeat (first | apply Kd.R_alloc | apply Kd.R_drewN | apply Kd.R_drew)); exact HO473.out) hb); have n1_ := Aside0.mk (Kd.R_lower ho0 (below_size (by repeat first | with_reducible (first | exact HB.out | apply bA | apply bN | apply bD) | exact HB.out))); have n2_ := Aside0.mk (below_step (by repeat first | with_reducible (first | exact HB.out | apply bA | apply bN | apply bD) | exact HB.out) hb); clear HO473; clear HB; have HO473 := n0_; have HO491 := n1_; have HB := n2_; clear n0_ n1_ n2_; (try clear hb); (try clear hb2); (try clear hk); (try clear hi); (try clear ho0); obtain ⟨Ao81, co81, eo81⟩ := Kd.R_slice HO491.out; subst eo81) | ((with_reducible refine gate_callee (f := 49) rfl ?_); refine goesL_ (some 73) rfl rfl Try.func49 (by kernel_rfl) rfl #[.slice Ao81 t8.length co81] rfl (by (try simp only [lT, lC, lN]); first | done | rfl | (simp only [List.length_drop, List.length_take]; rfl) | (simp only [ByteArray.size_extract, Nat.min_self, Nat.sub_zero, ByteArray.size_append]; first | done | rfl)) ?_; (with_reducible refine (templ_Encode.calls kj9 _ _ t8 t9 t29 _ ?side1 ?side2 A69.out).mono ?_); (case side1 => repeat (first | exact (Kd.R_reads' HO491.out).2.2 | (with_reducible refine Kd.C_alloc ?_ _) | (with_reducible refine Kd.C_drewN ?_ _) | (with_reducible refine Kd.C_drew ?_))); (case side2 => exact (Kd.R_reads' HO491.out).2.1); rintro e w82 ⟨rfl, hb⟩; refine ⟨_, rfl, ?_⟩; have n0_ := Aside0.mk (Kd.R_below (by (with_reducible repeat (first | apply Kd.R_alloc | apply Kd.R_drewN | apply Kd.R_drew)); exact HO473.out) hb); have n1_ := Aside0.mk (Kd.R_below (by (with_reducible repeat (first | apply Kd.R_alloc | apply Kd.R_drewN | apply Kd.R_drew)); exact HO491.out) hb); have n2_ := Aside0.mk (below_step (by repeat first | with_reducible (first | exact HB.out | apply bA | apply bN | apply bD) | exact HB.out) hb); clear HO473; clear HO491; clear HB; have HO473 := n0_; have HO491 := n1_; have HB := n2_; clear n0_ n1_ n2_; (try clear hb); (try clear hb2); (try clear hk); (try clear hi)))
          go_ret
          exact ⟨by first | rfl | (simp [*, errW_none, errW_some] <;> rfl), by repeat first | with_reducible (first | exact HB.out | apply bA | apply bN | apply bD) | exact HB.out⟩
        ·rw [if_neg c71] at H
         have c71b0 : (t9.toList == a1.toList) = false := beq_eq_false_iff_ne.mpr c71
         have c71b1 : (t9.toList != a1.toList) = true := bne_iff_ne.mpr c71
         obtain rfl := Option.some.inj H
         go_wp2_with (first | ((with_reducible refine gate_callee (f := 54) rfl ?_); refine goesL_ (some 48) rfl rfl Try.func54 (by kernel_rfl) rfl #[.slice A0 l0.length c0] rfl (by (try simp only [lT, lC, lN]); first | done | rfl | (simp only [List.length_drop, List.length_take]; rfl) | (simp only [ByteArray.size_extract, Nat.min_self, Nat.sub_zero, ByteArray.size_append]; first | done | rfl)) ?_; (with_reducible refine (templ_Options.calls kj9 _ _ l0 t5 t24 _ ?side1 ?side2 A22.out).mono ?_); (case side1 => repeat (first | exact (Kd.C_below HR0.out HB.out) | (with_reducible refine Kd.C_alloc ?_ _) | (with_reducible refine Kd.C_drewN ?_ _) | (with_reducible refine Kd.C_drew ?_))); (case side2 => exact HC0.out); rintro e w83 ⟨v472, rfl, ho0, hb⟩; refine ⟨_, rfl, ?_⟩; have n0_ := Aside0.mk (Kd.R_lower ho0 (below_size (by repeat first | with_reducible (first | exact HB.out | apply bA | apply bN | apply bD) | exact HB.out))); have n1_ := Aside0.mk (below_step (by repeat first | with_reducible (first | exact HB.out | apply bA | apply bN | apply bD) | exact HB.out) hb); clear HB; have HO473 := n0_; have HB := n1_; clear n0_ n1_; (try clear hb); (try clear hb2); (try clear hk); (try clear hi); (try clear ho0)) | ((with_reducible refine gate_callee (f := 51) rfl ?_); refine goesL_ (some 68) rfl rfl Try.func51 (by kernel_rfl) rfl #[.string a1] rfl (by (try simp only [lT, lC, lN]); first | done | rfl) ?_; (with_reducible refine (templ_Decode.calls kj9 a1 t8 t28 _ A68.out).mono ?_); rintro e w84 ⟨v490, rfl, ho0, hb⟩; refine ⟨_, rfl, ?_⟩; have n0_ := Aside0.mk (Kd.R_below (by (with_reducible repeat (first | apply Kd.R_alloc | apply Kd.R_drewN | apply Kd.R_drew)); exact HO473.out) hb); have n1_ := Aside0.mk (Kd.R_lower ho0 (below_size (by repeat first | with_reducible (first | exact HB.out | apply bA | apply bN | apply bD) | exact HB.out))); have n2_ := Aside0.mk (below_step (by repeat first | with_reducible (first | exact HB.out | apply bA | apply bN | apply bD) | exact HB.out) hb); clear HO473; clear HB; have HO473 := n0_; have HO491 := n1_; have HB := n2_; clear n0_ n1_ n2_; (try clear hb); (try clear hb2); (try clear hk); (try clear hi); (try clear ho0); obtain ⟨Ao85, co85, eo85⟩ := Kd.R_slice HO491.out; subst eo85) | ((with_reducible refine gate_callee (f := 49) rfl ?_); refine goesL_ (some 73) rfl rfl Try.func49 (by kernel_rfl) rfl #[.slice Ao85 t8.length co85] rfl (by (try simp only [lT, lC, lN]); first | done | rfl | (simp only [List.length_drop, List.length_take]; rfl) | (simp only [ByteArray.size_extract, Nat.min_self, Nat.sub_zero, ByteArray.size_append]; first | done | rfl)) ?_; (with_reducible refine (templ_Encode.calls kj9 _ _ t8 t9 t29 _ ?side1 ?side2 A69.out).mono ?_); (case side1 => repeat (first | exact (Kd.R_reads' HO491.out).2.2 | (with_reducible refine Kd.C_alloc ?_ _) | (with_reducible refine Kd.C_drewN ?_ _) | (with_reducible refine Kd.C_drew ?_))); (case side2 => exact (Kd.R_reads' HO491.out).2.1); rintro e w86 ⟨rfl, hb⟩; refine ⟨_, rfl, ?_⟩; have n0_ := Aside0.mk (Kd.R_below (by (with_reducible repeat (first | apply Kd.R_alloc | apply Kd.R_drewN | apply Kd.R_drew)); exact HO473.out) hb); have n1_ := Aside0.mk (Kd.R_below (by (with_reducible repeat (first | apply Kd.R_alloc | apply Kd.R_drewN | apply Kd.R_drew)); exact HO491.out) hb); have n2_ := Aside0.mk (below_step (by repeat first | with_reducible (first | exact HB.out | apply bA | apply bN | apply bD) | exact HB.out) hb); clear HO473; clear HO491; clear HB; have HO473 := n0_; have HO491 := n1_; have HB := n2_; clear n0_ n1_ n2_; (try clear hb); (try clear hb2); (try clear hk); (try clear hi)))
         go_ret
         exact ⟨by first | rfl | (simp [*, errW_none, errW_some] <;> rfl), by repeat first | with_reducible (first | exact HB.out | apply bA | apply bN | apply bD) | exact HB.out⟩
       ·rw [if_neg c70] at H
        have c70b0 : (t28 == 0) = false := beq_eq_false_iff_ne.mpr c70
        have c70b1 : (t28 != 0) = true := bne_iff_ne.mpr c70
        by_cases c87 : (t8.length : Int) = 0
        ·rw [if_pos c87] at H
         have c87b0 : ((t8.length : Int) == 0) = true := beq_iff_eq.mpr c87
         have c87b1 : ((t8.length : Int) != 0) = false := bne_eq_false_iff_eq.mpr c87
         clear c87
         replace H := Option.bind_eq_some_iff.mp H
         obtain ⟨t11, A880, H⟩ := H
         replace H : (some t11) = some r := H
         have A88 := Aside0.mk A880
         clear A880
         obtain rfl := Option.some.inj H
         go_wp2_with (first | ((with_reducible refine gate_callee (f := 54) rfl ?_); refine goesL_ (some 48) rfl rfl Try.func54 (by kernel_rfl) rfl #[.slice A0 l0.length c0] rfl (by (try simp only [lT, lC, lN]); first | done | rfl | (simp only [List.length_drop, List.length_take]; rfl) | (simp only [ByteArray.size_extract, Nat.min_self, Nat.sub_zero, ByteArray.size_append]; first | done | rfl)) ?_; (with_reducible refine (templ_Options.calls kj9 _ _ l0 t5 t24 _ ?side1 ?side2 A22.out).mono ?_); (case side1 => repeat (first | exact (Kd.C_below HR0.out HB.out) | (with_reducible refine Kd.C_alloc ?_ _) | (with_reducible refine Kd.C_drewN ?_ _) | (with_reducible refine Kd.C_drew ?_))); (case side2 => exact HC0.out); rintro e w89 ⟨v472, rfl, ho0, hb⟩; refine ⟨_, rfl, ?_⟩; have n0_ := Aside0.mk (Kd.R_lower ho0 (below_size (by repeat first | with_reducible (first | exact HB.out | apply bA | apply bN | apply bD) | exact HB.out))); have n1_ := Aside0.mk (below_step (by repeat first | with_reducible (first | exact HB.out | apply bA | apply bN | apply bD) | exact HB.out) hb); clear HB; have HO473 := n0_; have HB := n1_; clear n0_ n1_; (try clear hb); (try clear hb2); (try clear hk); (try clear hi); (try clear ho0)) | ((with_reducible refine gate_callee (f := 51) rfl ?_); refine goesL_ (some 68) rfl rfl Try.func51 (by kernel_rfl) rfl #[.string a1] rfl (by (try simp only [lT, lC, lN]); first | done | rfl) ?_; (with_reducible refine (templ_Decode.calls kj9 a1 t8 t28 _ A68.out).mono ?_); rintro e w90 ⟨v490, rfl, ho0, hb⟩; refine ⟨_, rfl, ?_⟩; have n0_ := Aside0.mk (Kd.R_below (by (with_reducible repeat (first | apply Kd.R_alloc | apply Kd.R_drewN | apply Kd.R_drew)); exact HO473.out) hb); have n1_ := Aside0.mk (Kd.R_lower ho0 (below_size (by repeat first | with_reducible (first | exact HB.out | apply bA | apply bN | apply bD) | exact HB.out))); have n2_ := Aside0.mk (below_step (by repeat first | with_reducible (first | exact HB.out | apply bA | apply bN | apply bD) | exact HB.out) hb); clear HO473; clear HB; have HO473 := n0_; have HO491 := n1_; have HB := n2_; clear n0_ n1_ n2_; (try clear hb); (try clear hb2); (try clear hk); (try clear hi); (try clear ho0); obtain ⟨Ao91, co91, eo91⟩ := Kd.R_slice HO491.out; subst eo91) | ((with_reducible refine gate_callee (f := 49) rfl ?_); refine goesL_ (some 73) rfl rfl Try.func49 (by kernel_rfl) rfl #[.slice Ao91 t8.length co91] rfl (by (try simp only [lT, lC, lN]); first | done | rfl | (simp only [List.length_drop, List.length_take]; rfl) | (simp only [ByteArray.size_extract, Nat.min_self, Nat.sub_zero, ByteArray.size_append]; first | done | rfl)) ?_; (with_reducible refine (templ_Encode.calls kj9 _ _ t8 t9 t29 _ ?side1 ?side2 A69.out).mono ?_); (case side1 => repeat (first | exact (Kd.R_reads' HO491.out).2.2 | (with_reducible refine Kd.C_alloc ?_ _) | (with_reducible refine Kd.C_drewN ?_ _) | (with_reducible refine Kd.C_drew ?_))); (case side2 => exact (Kd.R_reads' HO491.out).2.1); rintro e w92 ⟨rfl, hb⟩; refine ⟨_, rfl, ?_⟩; have n0_ := Aside0.mk (Kd.R_below (by (with_reducible repeat (first | apply Kd.R_alloc | apply Kd.R_drewN | apply Kd.R_drew)); exact HO473.out) hb); have n1_ := Aside0.mk (Kd.R_below (by (with_reducible repeat (first | apply Kd.R_alloc | apply Kd.R_drewN | apply Kd.R_drew)); exact HO491.out) hb); have n2_ := Aside0.mk (below_step (by repeat first | with_reducible (first | exact HB.out | apply bA | apply bN | apply bD) | exact HB.out) hb); clear HO473; clear HO491; clear HB; have HO473 := n0_; have HO491 := n1_; have HB := n2_; clear n0_ n1_ n2_; (try clear hb); (try clear hb2); (try clear hk); (try clear hi)) | (go_at_call 48; (with_reducible refine (clavigerlaw33_awake.calls kj9  t11 _ A88.out).mono ?_); rintro e w93 ⟨rfl, hb⟩; have n0_ := Aside0.mk (Kd.R_below (by (with_reducible repeat (first | apply Kd.R_alloc | apply Kd.R_drewN | apply Kd.R_drew)); exact HO473.out) hb); have n1_ := Aside0.mk (Kd.R_below (by (with_reducible repeat (first | apply Kd.R_alloc | apply Kd.R_drewN | apply Kd.R_drew)); exact HO491.out) hb); have n2_ := Aside0.mk (below_step (by repeat first | with_reducible (first | exact HB.out | apply bA | apply bN | apply bD) | exact HB.out) hb); clear HO473; clear HO491; clear HB; have HO473 := n0_; have HO491 := n1_; have HB := n2_; clear n0_ n1_ n2_; (try clear hb); (try clear hb2); (try clear hk); (try clear hi)))
         go_ret
         exact ⟨by first | rfl | (simp [*, errW_none, errW_some] <;> rfl), by repeat first | with_reducible (first | exact HB.out | apply bA | apply bN | apply bD) | exact HB.out⟩
        ·rw [if_neg c87] at H
         have c87b0 : ((t8.length : Int) == 0) = false := beq_eq_false_iff_ne.mpr c87
         have c87b1 : ((t8.length : Int) != 0) = true := bne_iff_ne.mpr c87
         have c87b2 : ¬ (t8 = []) := fun h_ => c87 (by rw [h_]; rfl)
         by_cases c94 : t9.toList = a1.toList
         ·rw [if_pos c94] at H
          have c94b0 : (t9.toList == a1.toList) = true := beq_iff_eq.mpr c94
          have c94b1 : (t9.toList != a1.toList) = false := bne_eq_false_iff_eq.mpr c94
          clear c94
          by_cases c95 : t29 = 0
          ·rw [if_pos c95] at H
           have c95b0 : (t29 == 0) = true := beq_iff_eq.mpr c95
           have c95b1 : (t29 != 0) = false := bne_eq_false_iff_eq.mpr c95
           clear c95
           replace H := Option.bind_eq_some_iff.mp H
           obtain ⟨t12, A960, H⟩ := H
           replace H : (some t12) = some r := H
           have A96 := Aside0.mk A960
           clear A960
           obtain rfl := Option.some.inj H
           go_wp2_with (first | ((with_reducible refine gate_callee (f := 54) rfl ?_); refine goesL_ (some 48) rfl rfl Try.func54 (by kernel_rfl) rfl #[.slice A0 l0.length c0] rfl (by (try simp only [lT, lC, lN]); first | done | rfl | (simp only [List.length_drop, List.length_take]; rfl) | (simp only [ByteArray.size_extract, Nat.min_self, Nat.sub_zero, ByteArray.size_append]; first | done | rfl)) ?_; (with_reducible refine (templ_Options.calls kj9 _ _ l0 t5 t24 _ ?side1 ?side2 A22.out).mono ?_); (case side1 => repeat (first | exact (Kd.C_below HR0.out HB.out) | (with_reducible refine Kd.C_alloc ?_ _) | (with_reducible refine Kd.C_drewN ?_ _) | (with_reducible refine Kd.C_drew ?_))); (case side2 => exact HC0.out); rintro e w97 ⟨v472, rfl, ho0, hb⟩; refine ⟨_, rfl, ?_⟩; have n0_ := Aside0.mk (Kd.R_lower ho0 (below_size (by repeat first | with_reducible (first | exact HB.out | apply bA | apply bN | apply bD) | exact HB.out))); have n1_ := Aside0.mk (below_step (by repeat first | with_reducible (first | exact HB.out | apply bA | apply bN | apply bD) | exact HB.out) hb); clear HB; have HO473 := n0_; have HB := n1_; clear n0_ n1_; (try clear hb); (try clear hb2); (try clear hk); (try clear hi); (try clear ho0)) | ((with_reducible refine gate_callee (f := 51) rfl ?_); refine goesL_ (some 68) rfl rfl Try.func51 (by kernel_rfl) rfl #[.string a1] rfl (by (try simp only [lT, lC, lN]); first | done | rfl) ?_; (with_reducible refine (templ_Decode.calls kj9 a1 t8 t28 _ A68.out).mono ?_); rintro e w98 ⟨v490, rfl, ho0, hb⟩; refine ⟨_, rfl, ?_⟩; have n0_ := Aside0.mk (Kd.R_below (by (with_reducible repeat (first | apply Kd.R_alloc | apply Kd.R_drewN | apply Kd.R_drew)); exact HO473.out) hb); have n1_ := Aside0.mk (Kd.R_lower ho0 (below_size (by repeat first | with_reducible (first | exact HB.out | apply bA | apply bN | apply bD) | exact HB.out))); have n2_ := Aside0.mk (below_step (by repeat first | with_reducible (first | exact HB.out | apply bA | apply bN | apply bD) | exact HB.out) hb); clear HO473; clear HB; have HO473 := n0_; have HO491 := n1_; have HB := n2_; clear n0_ n1_ n2_; (try clear hb); (try clear hb2); (try clear hk); (try clear hi); (try clear ho0); obtain ⟨Ao99, co99, eo99⟩ := Kd.R_slice HO491.out; subst eo99) | ((with_reducible refine gate_callee (f := 49) rfl ?_); refine goesL_ (some 73) rfl rfl Try.func49 (by kernel_rfl) rfl #[.slice Ao99 t8.length co99] rfl (by (try simp only [lT, lC, lN]); first | done | rfl | (simp only [List.length_drop, List.length_take]; rfl) | (simp only [ByteArray.size_extract, Nat.min_self, Nat.sub_zero, ByteArray.size_append]; first | done | rfl)) ?_; (with_reducible refine (templ_Encode.calls kj9 _ _ t8 t9 t29 _ ?side1 ?side2 A69.out).mono ?_); (case side1 => repeat (first | exact (Kd.R_reads' HO491.out).2.2 | (with_reducible refine Kd.C_alloc ?_ _) | (with_reducible refine Kd.C_drewN ?_ _) | (with_reducible refine Kd.C_drew ?_))); (case side2 => exact (Kd.R_reads' HO491.out).2.1); rintro e w100 ⟨rfl, hb⟩; refine ⟨_, rfl, ?_⟩; have n0_ := Aside0.mk (Kd.R_below (by (with_reducible repeat (first | apply Kd.R_alloc | apply Kd.R_drewN | apply Kd.R_drew)); exact HO473.out) hb); have n1_ := Aside0.mk (Kd.R_below (by (with_reducible repeat (first | apply Kd.R_alloc | apply Kd.R_drewN | apply Kd.R_drew)); exact HO491.out) hb); have n2_ := Aside0.mk (below_step (by repeat first | with_reducible (first | exact HB.out | apply bA | apply bN | apply bD) | exact HB.out) hb); clear HO473; clear HO491; clear HB; have HO473 := n0_; have HO491 := n1_; have HB := n2_; clear n0_ n1_ n2_; (try clear hb); (try clear hb2); (try clear hk); (try clear hi)) | (go_at_call 48; (with_reducible refine (clavigerlaw33_awake.calls kj9  t12 _ A96.out).mono ?_); rintro e w101 ⟨rfl, hb⟩; have n0_ := Aside0.mk (Kd.R_below (by (with_reducible repeat (first | apply Kd.R_alloc | apply Kd.R_drewN | apply Kd.R_drew)); exact HO473.out) hb); have n1_ := Aside0.mk (Kd.R_below (by (with_reducible repeat (first | apply Kd.R_alloc | apply Kd.R_drewN | apply Kd.R_drew)); exact HO491.out) hb); have n2_ := Aside0.mk (below_step (by repeat first | with_reducible (first | exact HB.out | apply bA | apply bN | apply bD) | exact HB.out) hb); clear HO473; clear HO491; clear HB; have HO473 := n0_; have HO491 := n1_; have HB := n2_; clear n0_ n1_ n2_; (try clear hb); (try clear hb2); (try clear hk); (try clear hi)))
           go_ret
           exact ⟨by first | rfl | (simp [*, errW_none, errW_some] <;> rfl), by repeat first | with_reducible (first | exact HB.out | apply bA | apply bN | apply bD) | exact HB.out⟩
          ·rw [if_neg c95] at H
           have c95b0 : (t29 == 0) = false := beq_eq_false_iff_ne.mpr c95
           have c95b1 : (t29 != 0) = true := bne_iff_ne.mpr c95
           obtain rfl := Option.some.inj H
           go_wp2_with (first | ((with_reducible refine gate_callee (f := 54) rfl ?_); refine goesL_ (some 48) rfl rfl Try.func54 (by kernel_rfl) rfl #[.slice A0 l0.length c0] rfl (by (try simp only [lT, lC, lN]); first | done | rfl | (simp only [List.length_drop, List.length_take]; rfl) | (simp only [ByteArray.size_extract, Nat.min_self, Nat.sub_zero, ByteArray.size_append]; first | done | rfl)) ?_; (with_reducible refine (templ_Options.calls kj9 _ _ l0 t5 t24 _ ?side1 ?side2 A22.out).mono ?_); (case side1 => repeat (first | exact (Kd.C_below HR0.out HB.out) | (with_reducible refine Kd.C_alloc ?_ _) | (with_reducible refine Kd.C_drewN ?_ _) | (with_reducible refine Kd.C_drew ?_))); (case side2 => exact HC0.out); rintro e w102 ⟨v472, rfl, ho0, hb⟩; refine ⟨_, rfl, ?_⟩; have n0_ := Aside0.mk (Kd.R_lower ho0 (below_size (by repeat first | with_reducible (first | exact HB.out | apply bA | apply bN | apply bD) | exact HB.out))); have n1_ := Aside0.mk (below_step (by repeat first | with_reducible (first | exact HB.out | apply bA | apply bN | apply bD) | exact HB.out) hb); clear HB; have HO473 := n0_; have HB := n1_; clear n0_ n1_; (try clear hb); (try clear hb2); (try clear hk); (try clear hi); (try clear ho0)) | ((with_reducible refine gate_callee (f := 51) rfl ?_); refine goesL_ (some 68) rfl rfl Try.func51 (by kernel_rfl) rfl #[.string a1] rfl (by (try simp only [lT, lC, lN]); first | done | rfl) ?_; (with_reducible refine (templ_Decode.calls kj9 a1 t8 t28 _ A68.out).mono ?_); rintro e w103 ⟨v490, rfl, ho0, hb⟩; refine ⟨_, rfl, ?_⟩; have n0_ := Aside0.mk (Kd.R_below (by (with_reducible repeat (first | apply Kd.R_alloc | apply Kd.R_drewN | apply Kd.R_drew)); exact HO473.out) hb); have n1_ := Aside0.mk (Kd.R_lower ho0 (below_size (by repeat first | with_reducible (first | exact HB.out | apply bA | apply bN | apply bD) | exact HB.out))); have n2_ := Aside0.mk (below_step (by repeat first | with_reducible (first | exact HB.out | apply bA | apply bN | apply bD) | exact HB.out) hb); clear HO473; clear HB; have HO473 := n0_; have HO491 := n1_; have HB := n2_; clear n0_ n1_ n2_; (try clear hb); (try clear hb2); (try clear hk); (try clear hi); (try clear ho0); obtain ⟨Ao104, co104, eo104⟩ := Kd.R_slice HO491.out; subst eo104) | ((with_reducible refine gate_callee (f := 49) rfl ?_); refine goesL_ (some 73) rfl rfl Try.func49 (by kernel_rfl) rfl #[.slice Ao104 t8.length co104] rfl (by (try simp only [lT, lC, lN]); first | done | rfl | (simp only [List.length_drop, List.length_take]; rfl) | (simp only [ByteArray.size_extract, Nat.min_self, Nat.sub_zero, ByteArray.size_append]; first | done | rfl)) ?_; (with_reducible refine (templ_Encode.calls kj9 _ _ t8 t9 t29 _ ?side1 ?side2 A69.out).mono ?_); (case side1 => repeat (first | exact (Kd.R_reads' HO491.out).2.2 | (with_reducible refine Kd.C_alloc ?_ _) | (with_reducible refine Kd.C_drewN ?_ _) | (with_reducible refine Kd.C_drew ?_))); (case side2 => exact (Kd.R_reads' HO491.out).2.1); rintro e w105 ⟨rfl, hb⟩; refine ⟨_, rfl, ?_⟩; have n0_ := Aside0.mk (Kd.R_below (by (with_reducible repeat (first | apply Kd.R_alloc | apply Kd.R_drewN | apply Kd.R_drew)); exact HO473.out) hb); have n1_ := Aside0.mk (Kd.R_below (by (with_reducible repeat (first | apply Kd.R_alloc | apply Kd.R_drewN | apply Kd.R_drew)); exact HO491.out) hb); have n2_ := Aside0.mk (below_step (by repeat first | with_reducible (first | exact HB.out | apply bA | apply bN | apply bD) | exact HB.out) hb); clear HO473; clear HO491; clear HB; have HO473 := n0_; have HO491 := n1_; have HB := n2_; clear n0_ n1_ n2_; (try clear hb); (try clear hb2); (try clear hk); (try clear hi)))
           go_ret
           exact ⟨by first | rfl | (simp [*, errW_none, errW_some] <;> rfl), by repeat first | with_reducible (first | exact HB.out | apply bA | apply bN | apply bD) | exact HB.out⟩
         ·rw [if_neg c94] at H
          have c94b0 : (t9.toList == a1.toList) = false := beq_eq_false_iff_ne.mpr c94
          have c94b1 : (t9.toList != a1.toList) = true := bne_iff_ne.mpr c94
          obtain rfl := Option.some.inj H
          go_wp2_with (first | ((with_reducible refine gate_callee (f := 54) rfl ?_); refine goesL_ (some 48) rfl rfl Try.func54 (by kernel_rfl) rfl #[.slice A0 l0.length c0] rfl (by (try simp only [lT, lC, lN]); first | done | rfl | (simp only [List.length_drop, List.length_take]; rfl) | (simp only [ByteArray.size_extract, Nat.min_self, Nat.sub_zero, ByteArray.size_append]; first | done | rfl)) ?_; (with_reducible refine (templ_Options.calls kj9 _ _ l0 t5 t24 _ ?side1 ?side2 A22.out).mono ?_); (case side1 => repeat (first | exact (Kd.C_below HR0.out HB.out) | (with_reducible refine Kd.C_alloc ?_ _) | (with_reducible refine Kd.C_drewN ?_ _) | (with_reducible refine Kd.C_drew ?_))); (case side2 => exact HC0.out); rintro e w106 ⟨v472, rfl, ho0, hb⟩; refine ⟨_, rfl, ?_⟩; have n0_ := Aside0.mk (Kd.R_lower ho0 (below_size (by repeat first | with_reducible (first | exact HB.out | apply bA | apply bN | apply bD) | exact HB.out))); have n1_ := Aside0.mk (below_step (by repeat first | with_reducible (first | exact HB.out | apply bA | apply bN | apply bD) | exact HB.out) hb); clear HB; have HO473 := n0_; have HB := n1_; clear n0_ n1_; (try clear hb); (try clear hb2); (try clear hk); (try clear hi); (try clear ho0)) | ((with_reducible refine gate_callee (f := 51) rfl ?_); refine goesL_ (some 68) rfl rfl Try.func51 (by kernel_rfl) rfl #[.string a1] rfl (by (try simp only [lT, lC, lN]); first | done | rfl) ?_; (with_reducible refine (templ_Decode.calls kj9 a1 t8 t28 _ A68.out).mono ?_); rintro e w107 ⟨v490, rfl, ho0, hb⟩; refine ⟨_, rfl, ?_⟩; have n0_ := Aside0.mk (Kd.R_below (by (with_reducible repeat (first | apply Kd.R_alloc | apply Kd.R_drewN | apply Kd.R_drew)); exact HO473.out) hb); have n1_ := Aside0.mk (Kd.R_lower ho0 (below_size (by repeat first | with_reducible (first | exact HB.out | apply bA | apply bN | apply bD) | exact HB.out))); have n2_ := Aside0.mk (below_step (by repeat first | with_reducible (first | exact HB.out | apply bA | apply bN | apply bD) | exact HB.out) hb); clear HO473; clear HB; have HO473 := n0_; have HO491 := n1_; have HB := n2_; clear n0_ n1_ n2_; (try clear hb); (try clear hb2); (try clear hk); (try clear hi); (try clear ho0); obtain ⟨Ao108, co108, eo108⟩ := Kd.R_slice HO491.out; subst eo108) | ((with_reducible refine gate_callee (f := 49) rfl ?_); refine goesL_ (some 73) rfl rfl Try.func49 (by kernel_rfl) rfl #[.slice Ao108 t8.length co108] rfl (by (try simp only [lT, lC, lN]); first | done | rfl | (simp only [List.length_drop, List.length_take]; rfl) | (simp only [ByteArray.size_extract, Nat.min_self, Nat.sub_zero, ByteArray.size_append]; first | done | rfl)) ?_; (with_reducible refine (templ_Encode.calls kj9 _ _ t8 t9 t29 _ ?side1 ?side2 A69.out).mono ?_); (case side1 => repeat (first | exact (Kd.R_reads' HO491.out).2.2 | (with_reducible refine Kd.C_alloc ?_ _) | (with_reducible refine Kd.C_drewN ?_ _) | (with_reducible refine Kd.C_drew ?_))); (case side2 => exact (Kd.R_reads' HO491.out).2.1); rintro e w109 ⟨rfl, hb⟩; refine ⟨_, rfl, ?_⟩; have n0_ := Aside0.mk (Kd.R_below (by (with_reducible repeat (first | apply Kd.R_alloc | apply Kd.R_drewN | apply Kd.R_drew)); exact HO473.out) hb); have n1_ := Aside0.mk (Kd.R_below (by (with_reducible repeat (first | apply Kd.R_alloc | apply Kd.R_drewN | apply Kd.R_drew)); exact HO491.out) hb); have n2_ := Aside0.mk (below_step (by repeat first | with_reducible (first | exact HB.out | apply bA | apply bN | apply bD) | exact HB.out) hb); clear HO473; clear HO491; clear HB; have HO473 := n0_; have HO491 := n1_; have HB := n2_; clear n0_ n1_ n2_; (try clear hb); (try clear hb2); (try clear hk); (try clear hi)))
          go_ret
          exact ⟨by first | rfl | (simp [*, errW_none, errW_some] <;> rfl), by repeat first | with_reducible (first | exact HB.out | apply bA | apply bN | apply bD) | exact HB.out⟩

end Go.Proofs.Ytmcpfkgahmdkgaa.Pr
