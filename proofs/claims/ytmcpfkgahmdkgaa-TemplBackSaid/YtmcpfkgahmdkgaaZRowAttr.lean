-- several texts in one (by the session's program shake.py)
import Derived.Test.YtmcpfkgahmdkgaaZPreq3
import Derived.Test.YtmcpfkgahmdkgaaZTempM
import Derived.Test.YtmcpfkgahmdkgaaZPrg33
import Derived.Test.YtmcpfkgahmdkgaaZPrL33awake
import Derived.Test.YtmcpfkgahmdkgaaZTempD
import Derived.Test.YtmcpfkgahmdkgaaZPrL33TemplBack
import Derived.Test.YtmcpfkgahmdkgaaRows
import Derived.JoinedOf
import Derived.KernelRfl
import Derived.OpenShut
import Derived.Deep.Slices
import Derived.ChangeSame
import Derived.Lib.SmallJoins
section
namespace Go.Proofs.Ytmcpfkgahmdkgaa.Pr
open Go.RowKit Go.Proofs.YtmcpfkgahmdkgaaW.PrintWords Go.Proofs.YtmcpfkgahmdkgaaW.PrintLast Go.Proofs.YtmcpfkgahmdkgaaW.PrintMore
attribute [local go_sem] max2_int min2_int max_two min_two max_three min_three max_four min_four   -- for this text's walks alone
set_option linter.unusedVariables false
set_option linter.unusedSimpArgs false

def clavigerlaw33_TemplTells.j0 : Nat → List (S102) → ByteArray → Bool → Option (Bool)
 | 0, _, _, _ => none
 | k + 1, x0, x1, x20 => if x20 = true then ((clavigerlaw33_awake.f k).bind fun t1 => (some t1)) else ((templ_Encode.f k x0).bind fun bt2 => ((clavigerref33_Encode.f k x0).bind fun bt3 => ((templ_Decode.f k x1).bind fun bt4 => ((clavigerref33_Decode.f k x1).bind fun bt5 => (if bt2.1.toList = bt3.1.toList then (if bt2.2 = bt3.2 then ((clavigerplain_Attrs.f k bt4.1 bt5.1).bind fun t6 => (if t6 = true then (if bt4.2 = bt5.2 then ((clavigerlaw33_awake.f k).bind fun t7 => (some t7)) else (some false)) else (some false))) else (some false)) else (some false))))))
def clavigerlaw33_TemplTells.f (k : Nat) (l0 : List (S102)) (a1 : ByteArray) : Option (Bool) := (clavigerplain_Few.f k l0 60).bind fun t8 => (if t8 = true then (clavigerlaw33_TemplTells.j0 k l0 a1 (decide ((a1.size : Int) > 2000))) else (clavigerlaw33_TemplTells.j0 k l0 a1 true))
theorem clavigerlaw33_TemplTells.mono_l : ∀ k, (∀ y9 y10 y11, LeO (clavigerlaw33_TemplTells.j0 k y9 y10 y11) (clavigerlaw33_TemplTells.j0 (k + 1) y9 y10 y11))
 | 0 => fun _ _ _ r h => by simp [clavigerlaw33_TemplTells.j0] at h
 | k + 1 => by
  have ih0 := clavigerlaw33_TemplTells.mono_l k
  ·intro y9 y10 y11
   unfold clavigerlaw33_TemplTells.j0
   repeat' first
   | (with_reducible exact ih0 _ _ _)
   | (with_reducible exact clavigerlaw33_awake.mono _)
   | (with_reducible exact clavigerplain_Attrs.mono _ _ _)
   | (with_reducible exact clavigerplain_Few.mono _ _ _)
   | (with_reducible exact clavigerref33_Decode.mono _ _)
   | (with_reducible exact clavigerref33_Encode.mono _ _)
   | (with_reducible exact templ_Decode.mono _ _)
   | (with_reducible exact templ_Encode.mono _ _)
   | (with_reducible exact LeO.refl _)
   | (with_reducible exact LeO.none _)
   | (with_reducible refine LeO.ite ?_ ?_)
   | (with_reducible refine LeO.bind ?_ (fun _ => ?_))
theorem clavigerlaw33_TemplTells.mono : ∀ a0 a1 k, LeO (clavigerlaw33_TemplTells.f k a0 a1) (clavigerlaw33_TemplTells.f (k + 1) a0 a1) := by
 intro a0 a1 k
 have ih0 := clavigerlaw33_TemplTells.mono_l k
 unfold clavigerlaw33_TemplTells.f
 repeat' first
   | (with_reducible exact ih0 _ _ _)
   | (with_reducible exact clavigerlaw33_awake.mono _)
   | (with_reducible exact clavigerplain_Attrs.mono _ _ _)
   | (with_reducible exact clavigerplain_Few.mono _ _ _)
   | (with_reducible exact clavigerref33_Decode.mono _ _)
   | (with_reducible exact clavigerref33_Encode.mono _ _)
   | (with_reducible exact templ_Decode.mono _ _)
   | (with_reducible exact templ_Encode.mono _ _)
   | (with_reducible exact LeO.refl _)
   | (with_reducible exact LeO.none _)
   | (with_reducible refine LeO.ite ?_ ?_)
   | (with_reducible refine LeO.bind ?_ (fun _ => ?_))
set_option maxHeartbeats 8000000 in
set_option maxRecDepth 100000 in
theorem clavigerlaw33_TemplTells.calls (k : Nat) (A0 : Option Addr) (c0 : Nat) (l0 : List (S102)) (a1 : ByteArray) (r : Bool) (w : World) (hr0 : Kd.C k102 w A0 l0.length l0) (hc0 : l0.length ≤ c0) (h : clavigerlaw33_TemplTells.f k l0 a1 = some r) :
  Calls Try.prog 11 #[.slice A0 l0.length c0, .string a1] w fun e w' => e = .returned (.bool r) ∧ Below w.heap.size w w' := by
 have HR0 := Aside0.mk hr0
 have HC0 := Aside0.mk hc0
 clear hr0 hc0
 have HB := Aside0.mk (Below.refl w.heap.size w)
 have H : ((clavigerplain_Few.f k l0 60).bind fun t8 => (if t8 = true then (clavigerlaw33_TemplTells.j0 k l0 a1 (decide ((a1.size : Int) > 2000))) else (clavigerlaw33_TemplTells.j0 k l0 a1 true))) = some r := h
 clear h
 have HC3 := Aside0.mk H
 clear H
 go_enter Try.func11, Try.ntmps11
 go_upto_region 1 with (fail)
 go_cut [20] (fun v20 wc => ∃ (kq : Nat) (x20_2 : Bool), v20 = .bool x20_2 ∧ Aside0 (clavigerlaw33_TemplTells.j0 kq l0 a1 x20_2 = some r) ∧ Aside0 (kq ≤ k) ∧ Aside0 (Below w.heap.size w wc))
 case first =>
  have H := HC3.out
  clear HC3
  replace H := Option.bind_eq_some_iff.mp H
  obtain ⟨t8, A40, H⟩ := H
  try dsimp only at H
  have A4 := Aside0.mk A40
  clear A40
  by_cases c5 : t8 = true
  ·subst c5
   have H1 : (clavigerlaw33_TemplTells.j0 k l0 a1 (decide ((a1.size : Int) > 2000))) = some r := by rw [if_pos rfl] at H; exact H
   clear H
   have H := H1
   clear H1
   have H' := Aside0.mk H
   clear H
   go_wp2_with (first | ((with_reducible refine gate_callee (f := 47) rfl ?_); refine goesL_ (some 14) rfl rfl Try.func47 (by kernel_rfl) rfl #[.slice A0 l0.length c0, .int .i64 60] rfl (by (try simp only [lT, lC, lN]); first | done | rfl | (simp only [List.length_drop, List.length_take]; rfl) | (simp only [ByteArray.size_extract, Nat.min_self, Nat.sub_zero, ByteArray.size_append]; first | done | rfl)) ?_; (with_reducible refine (clavigerplain_Few.calls k _ _ l0 60 true _ ?side1 ?side2 A4.out).mono ?_); (case side1 => repeat (first | exact (Kd.C_below HR0.out HB.out) | (with_reducible refine Kd.C_alloc ?_ _) | (with_reducible refine Kd.C_drewN ?_ _) | (with_reducible refine Kd.C_drew ?_))); (case side2 => exact HC0.out); rintro e w' ⟨rfl, ⟨nd, rfl⟩⟩; refine ⟨_, rfl, ?_⟩))
   go_meet
   case rel => exact ⟨_, (decide ((a1.size : Int) > 2000)), (by first | rfl | (simp; done) | (simp [*]; done)), H', ⟨by first | omega | exact Nat.le_refl _⟩, ⟨by repeat first | with_reducible (first | exact HB.out | apply bA | apply bN | apply bD) | exact HB.out⟩⟩
  ·replace c5 := Bool.eq_false_iff.mpr c5
   subst c5
   have H1 : (clavigerlaw33_TemplTells.j0 k l0 a1 true) = some r := by rw [if_neg (show ¬ (false = true) by decide)] at H; exact H
   clear H
   have H := H1
   clear H1
   have H' := Aside0.mk H
   clear H
   go_wp2_with (first | ((with_reducible refine gate_callee (f := 47) rfl ?_); refine goesL_ (some 14) rfl rfl Try.func47 (by kernel_rfl) rfl #[.slice A0 l0.length c0, .int .i64 60] rfl (by (try simp only [lT, lC, lN]); first | done | rfl | (simp only [List.length_drop, List.length_take]; rfl) | (simp only [ByteArray.size_extract, Nat.min_self, Nat.sub_zero, ByteArray.size_append]; first | done | rfl)) ?_; (with_reducible refine (clavigerplain_Few.calls k _ _ l0 60 false _ ?side1 ?side2 A4.out).mono ?_); (case side1 => repeat (first | exact (Kd.C_below HR0.out HB.out) | (with_reducible refine Kd.C_alloc ?_ _) | (with_reducible refine Kd.C_drewN ?_ _) | (with_reducible refine Kd.C_drew ?_))); (case side2 => exact HC0.out); rintro e w' ⟨rfl, ⟨nd, rfl⟩⟩; refine ⟨_, rfl, ?_⟩))
   go_meet
   case rel => exact ⟨_, (true), (by first | rfl | (simp; done) | (simp [*]; done)), H', ⟨by first | omega | exact Nat.le_refl _⟩, ⟨by repeat first | with_reducible (first | exact HB.out | apply bA | apply bN | apply bD) | exact HB.out⟩⟩
 case rest =>
  clear HC3
  try clear c1
  try clear p2
  try clear c4
  try clear c5
  obtain ⟨kq, x20_2, rfl, HA, HJ2, HB⟩ := hcut
  cases kq with
  | zero => exact absurd HA.out (by simp [clavigerlaw33_TemplTells.j0])
  | succ kj2 =>
   have H := HA.out
   clear HA
   simp only [clavigerlaw33_TemplTells.j0] at H
   by_cases c6 : x20_2 = true
   ·subst c6
    have H1 : ((clavigerlaw33_awake.f kj2).bind fun t1 => (some t1)) = some r := by rw [if_pos rfl] at H; exact H
    clear H
    have H := H1
    clear H1
    replace H := Option.bind_eq_some_iff.mp H
    obtain ⟨t1, A70, H⟩ := H
    replace H : (some t1) = some r := H
    have A7 := Aside0.mk A70
    clear A70
    obtain rfl := Option.some.inj H
    go_wp2_with (first | ((with_reducible refine gate_callee (f := 48) rfl ?_); refine goesL_ (some 21) rfl rfl Try.func48 (by kernel_rfl) rfl #[] rfl (by (try simp only [lT, lC, lN]); first | done | rfl) ?_; (with_reducible refine (clavigerlaw33_awake.calls kj2  t1 _ A7.out).mono ?_); rintro e w8 ⟨rfl, hb⟩; refine ⟨_, rfl, ?_⟩; have n0_ := Aside0.mk (below_step (by repeat first | with_reducible (first | exact HB.out | apply bA | apply bN | apply bD) | exact HB.out) hb); clear HB; have HB := n0_; clear n0_; (try clear hb); (try clear hb2); (try clear hk); (try clear hi)))
    go_ret
    exact ⟨by first | rfl | (simp [*, errW_none, errW_some] <;> rfl), by repeat first | with_reducible (first | exact HB.out | apply bA | apply bN | apply bD) | exact HB.out⟩
   ·replace c6 := Bool.eq_false_iff.mpr c6
    subst c6
    have H1 : ((templ_Encode.f kj2 l0).bind fun bt2 => ((clavigerref33_Encode.f kj2 l0).bind fun bt3 => ((templ_Decode.f kj2 a1).bind fun bt4 => ((clavigerref33_Decode.f kj2 a1).bind fun bt5 => (if bt2.1.toList = bt3.1.toList then (if bt2.2 = bt3.2 then ((clavigerplain_Attrs.f kj2 bt4.1 bt5.1).bind fun t6 => (if t6 = true then (if bt4.2 = bt5.2 then ((clavigerlaw33_awake.f kj2).bind fun t7 => (some t7)) else (some false)) else (some false))) else (some false)) else (some false)))))) = some r := by rw [if_neg (show ¬ (false = true) by decide)] at H; exact H
    clear H
    have H := H1
    clear H1
    replace H := Option.bind_eq_some_iff.mp H
    obtain ⟨⟨t2, t12⟩, A90, H⟩ := H
    try dsimp only at H
    have A9 := Aside0.mk A90
    clear A90
    replace H := Option.bind_eq_some_iff.mp H
    obtain ⟨⟨t3, t13⟩, A100, H⟩ := H
    try dsimp only at H
    have A10 := Aside0.mk A100
    clear A100
    replace H := Option.bind_eq_some_iff.mp H
    obtain ⟨⟨t4, t14⟩, A110, H⟩ := H
    try dsimp only at H
    have A11 := Aside0.mk A110
    clear A110
    replace H := Option.bind_eq_some_iff.mp H
    obtain ⟨⟨t5, t15⟩, A120, H⟩ := H
    try dsimp only at H
    have A12 := Aside0.mk A120
    clear A120
    by_cases c13 : t2.toList = t3.toList
    ·rw [if_pos c13] at H
     have c13b0 : (t2.toList == t3.toList) = true := beq_iff_eq.mpr c13
     have c13b1 : (t2.toList != t3.toList) = false := bne_eq_false_iff_eq.mpr c13
     clear c13
     by_cases c14 : t12 = t13
     ·rw [if_pos c14] at H
      have c14b0 : (t12 == t13) = true := beq_iff_eq.mpr c14
      have c14b1 : (t12 != t13) = false := bne_eq_false_iff_eq.mpr c14
      clear c14
      replace H := Option.bind_eq_some_iff.mp H
      obtain ⟨t6, A150, H⟩ := H
      try dsimp only at H
      have A15 := Aside0.mk A150
      clear A150
      by_cases c16 : t6 = true
      ·subst c16
       have H1 : (if t14 = t15 then ((clavigerlaw33_awake.f kj2).bind fun t7 => (some t7)) else (some false)) = some r := by rw [if_pos rfl] at H; exact H
       clear H
       have H := H1
       clear H1
       by_cases c17 : t14 = t15
       ·rw [if_pos c17] at H
        have c17b0 : (t14 == t15) = true := beq_iff_eq.mpr c17
        have c17b1 : (t14 != t15) = false := bne_eq_false_iff_eq.mpr c17
        clear c17
        replace H := Option.bind_eq_some_iff.mp H
        obtain ⟨t7, A180, H⟩ := H
        replace H : (some t7) = some r := H
        have A18 := Aside0.mk A180
        clear A180
        obtain rfl := Option.some.inj H
        go_wp2_with (first | ((with_reducible refine gate_callee (f := 49) rfl ?_); refine goesL_ (some 24) rfl rfl Try.func49 (by kernel_rfl) rfl #[.slice A0 l0.length c0] rfl (by (try simp only [lT, lC, lN]); first | done | rfl | (simp only [List.length_drop, List.length_take]; rfl) | (simp only [ByteArray.size_extract, Nat.min_self, Nat.sub_zero, ByteArray.size_append]; first | done | rfl)) ?_; (with_reducible refine (templ_Encode.calls kj2 _ _ l0 t2 t12 _ ?side1 ?side2 A9.out).mono ?_); (case side1 => repeat (first | exact (Kd.C_below HR0.out HB.out) | (with_reducible refine Kd.C_alloc ?_ _) | (with_reducible refine Kd.C_drewN ?_ _) | (with_reducible refine Kd.C_drew ?_))); (case side2 => exact HC0.out); rintro e w19 ⟨rfl, hb⟩; refine ⟨_, rfl, ?_⟩; have n0_ := Aside0.mk (below_step (by repeat first | with_reducible (first | exact HB.out | apply bA | apply bN | apply bD) | exact HB.out) hb); clear HB; have HB := n0_; clear n0_; (try clear hb); (try clear hb2); (try clear hk); (try clear hi)) | ((with_reducible refine gate_callee (f := 50) rfl ?_); refine goesL_ (some 29) rfl rfl Try.func50 (by kernel_rfl) rfl #[.slice A0 l0.length c0] rfl (by (try simp only [lT, lC, lN]); first | done | rfl | (simp only [List.length_drop, List.length_take]; rfl) | (simp only [ByteArray.size_extract, Nat.min_self, Nat.sub_zero, ByteArray.size_append]; first | done | rfl)) ?_; (with_reducible refine (clavigerref33_Encode.calls kj2 _ _ l0 t3 t13 _ ?side1 ?side2 A10.out).mono ?_); (case side1 => repeat (first | exact (Kd.C_below HR0.out HB.out) | (with_reducible refine Kd.C_alloc ?_ _) | (with_reducible refine Kd.C_drewN ?_ _) | (with_reducible refine Kd.C_drew ?_))); (case side2 => exact HC0.out); rintro e w20 ⟨rfl, hb⟩; refine ⟨_, rfl, ?_⟩; have n0_ := Aside0.mk (below_step (by repeat first | with_reducible (first | exact HB.out | apply bA | apply bN | apply bD) | exact HB.out) hb); clear HB; have HB := n0_; clear n0_; (try clear hb); (try clear hb2); (try clear hk); (try clear hi)) | ((with_reducible refine gate_callee (f := 51) rfl ?_); refine goesL_ (some 34) rfl rfl Try.func51 (by kernel_rfl) rfl #[.string a1] rfl (by (try simp only [lT, lC, lN]); first | done | rfl) ?_; (with_reducible refine (templ_Decode.calls kj2 a1 t4 t14 _ A11.out).mono ?_); rintro e w21 ⟨v405, rfl, ho0, hb⟩; refine ⟨_, rfl, ?_⟩; have n0_ := Aside0.mk (Kd.R_lower ho0 (below_size (by repeat first | with_reducible (first | exact HB.out | apply bA | apply bN | apply bD) | exact HB.out))); have n1_ := Aside0.mk (below_step (by repeat first | with_reducible (first | exact HB.out | apply bA | apply bN | apply bD) | exact HB.out) hb); clear HB; have HO406 := n0_; have HB := n1_; clear n0_ n1_; (try clear hb); (try clear hb2); (try clear hk); (try clear hi); (try clear ho0)) | ((with_reducible refine gate_callee (f := 52) rfl ?_); refine goesL_ (some 39) rfl rfl Try.func52 (by kernel_rfl) rfl #[.string a1] rfl (by (try simp only [lT, lC, lN]); first | done | rfl) ?_; (with_reducible refine (clavigerref33_Decode.calls kj2 a1 t5 t15 _ A12.out).mono ?_); rintro e w22 ⟨v409, rfl, ho0, hb⟩; refine ⟨_, rfl, ?_⟩; have n0_ := Aside0.mk (Kd.R_elder' (by (with_reducible repeat (first | apply Kd.R_alloc | apply Kd.R_drewN | apply Kd.R_drew)); exact HO406.out) (Kd.R_base ho0) hb); have n1_ := Aside0.mk (Kd.R_lower (Kd.R_new' ho0 (Kd.R_lt (by (with_reducible repeat (first | apply Kd.R_alloc | apply Kd.R_drewN | apply Kd.R_drew)); exact HO406.out))) (below_size (by repeat first | with_reducible (first | exact HB.out | apply bA | apply bN | apply bD) | exact HB.out))); have n2_ := Aside0.mk (below_step (by repeat first | with_reducible (first | exact HB.out | apply bA | apply bN | apply bD) | exact HB.out) hb); clear HO406; clear HB; have HO406 := n0_; have HO410 := n1_; have HB := n2_; clear n0_ n1_ n2_; (try clear hb); (try clear hb2); (try clear hk); (try clear hi); (try clear ho0); obtain ⟨Ao23, co23, eo23⟩ := Kd.R_slice HO406.out; subst eo23; obtain ⟨Ao24, co24, eo24⟩ := Kd.R_slice HO410.out; subst eo24) | (go_at_call 53; (with_reducible refine (clavigerplain_Attrs.calls kj2 _ _ t4 _ _ t5 true _ ?side1 ?side2 ?side3 ?side4 A15.out).mono ?_); (case side1 => repeat (first | exact (Kd.R_reads' HO406.out).2.2 | (with_reducible refine Kd.C_alloc ?_ _) | (with_reducible refine Kd.C_drewN ?_ _) | (with_reducible refine Kd.C_drew ?_))); (case side2 => exact (Kd.R_reads' HO406.out).2.1); (case side3 => repeat (first | exact (Kd.R_reads' HO410.out).2.2 | (with_reducible refine Kd.C_alloc ?_ _) | (with_reducible refine Kd.C_drewN ?_ _) | (with_reducible refine Kd.C_drew ?_))); (case side4 => exact (Kd.R_reads' HO410.out).2.1); rintro e w' ⟨rfl, ⟨nd, rfl⟩⟩) | (go_at_call 48; (with_reducible refine (clavigerlaw33_awake.calls kj2  t7 _ A18.out).mono ?_); rintro e w25 ⟨rfl, hb⟩; have n0_ := Aside0.mk (Kd.R_below (by (with_reducible repeat (first | apply Kd.R_alloc | apply Kd.R_drewN | apply Kd.R_drew)); exact HO406.out) hb); have n1_ := Aside0.mk (Kd.R_below (by (with_reducible repeat (first | apply Kd.R_alloc | apply Kd.R_drewN | apply Kd.R_drew)); exact HO410.out) hb); have n2_ := Aside0.mk (below_step (by repeat first | with_reducible (first | exact HB.out | apply bA | apply bN | apply bD) | exact HB.out) hb); clear HO406; clear HO410; clear HB; have HO406 := n0_; have HO410 := n1_; have HB := n2_; clear n0_ n1_ n2_; (try clear hb); (try clear hb2); (try clear hk); (try clear hi)))
        go_ret
        exact ⟨by first | rfl | (simp [*, errW_none, errW_some] <;> rfl), by repeat first | with_reducible (first | exact HB.out | apply bA | apply bN | apply bD) | exact HB.out⟩
       ·rw [if_neg c17] at H
        have c17b0 : (t14 == t15) = false := beq_eq_false_iff_ne.mpr c17
        have c17b1 : (t14 != t15) = true := bne_iff_ne.mpr c17
        obtain rfl := Option.some.inj H
        go_wp2_with (first | ((with_reducible refine gate_callee (f := 49) rfl ?_); refine goesL_ (some 24) rfl rfl Try.func49 (by kernel_rfl) rfl #[.slice A0 l0.length c0] rfl (by (try simp only [lT, lC, lN]); first | done | rfl | (simp only [List.length_drop, List.length_take]; rfl) | (simp only [ByteArray.size_extract, Nat.min_self, Nat.sub_zero, ByteArray.size_append]; first | done | rfl)) ?_; (with_reducible refine (templ_Encode.calls kj2 _ _ l0 t2 t12 _ ?side1 ?side2 A9.out).mono ?_); (case side1 => repeat (first | exact (Kd.C_below HR0.out HB.out) | (with_reducible refine Kd.C_alloc ?_ _) | (with_reducible refine Kd.C_drewN ?_ _) | (with_reducible refine Kd.C_drew ?_))); (case side2 => exact HC0.out); rintro e w26 ⟨rfl, hb⟩; refine ⟨_, rfl, ?_⟩; have n0_ := Aside0.mk (below_step (by repeat first | with_reducible (first | exact HB.out | apply bA | apply bN | apply bD) | exact HB.out) hb); clear HB; have HB := n0_; clear n0_; (try clear hb); (try clear hb2); (try clear hk); (try clear hi)) | ((with_reducible refine gate_callee (f := 50) rfl ?_); refine goesL_ (some 29) rfl rfl Try.func50 (by kernel_rfl) rfl #[.slice A0 l0.length c0] rfl (by (try simp only [lT, lC, lN]); first | done | rfl | (simp only [List.length_drop, List.length_take]; rfl) | (simp only [ByteArray.size_extract, Nat.min_self, Nat.sub_zero, ByteArray.size_append]; first | done | rfl)) ?_; (with_reducible refine (clavigerref33_Encode.calls kj2 _ _ l0 t3 t13 _ ?side1 ?side2 A10.out).mono ?_); (case side1 => repeat (first | exact (Kd.C_below HR0.out HB.out) | (with_reducible refine Kd.C_alloc ?_ _) | (with_reducible refine Kd.C_drewN ?_ _) | (with_reducible refine Kd.C_drew ?_))); (case side2 => exact HC0.out); rintro e w27 ⟨rfl, hb⟩; refine ⟨_, rfl, ?_⟩; have n0_ := Aside0.mk (below_step (by repeat first | with_reducible (first | exact HB.out | apply bA | apply bN | apply bD) | exact HB.out) hb); clear HB; have HB := n0_; clear n0_; (try clear hb); (try clear hb2); (try clear hk); (try clear hi)) | ((with_reducible refine gate_callee (f := 51) rfl ?_); refine goesL_ (some 34) rfl rfl Try.func51 (by kernel_rfl) rfl #[.string a1] rfl (by (try simp only [lT, lC, lN]); first | done | rfl) ?_; (with_reducible refine (templ_Decode.calls kj2 a1 t4 t14 _ A11.out).mono ?_); rintro e w28 ⟨v405, rfl, ho0, hb⟩; refine ⟨_, rfl, ?_⟩; have n0_ := Aside0.mk (Kd.R_lower ho0 (below_size (by repeat first | with_reducible (first | exact HB.out | apply bA | apply bN | apply bD) | exact HB.out))); have n1_ := Aside0.mk (below_step (by repeat first | with_reducible (first | exact HB.out | apply bA | apply bN | apply bD) | exact HB.out) hb); clear HB; have HO406 := n0_; have HB := n1_; clear n0_ n1_; (try clear hb); (try clear hb2); (try clear hk); (try clear hi); (try clear ho0)) | ((with_reducible refine gate_callee (f := 52) rfl ?_); refine goesL_ (some 39) rfl rfl Try.func52 (by kernel_rfl) rfl #[.string a1] rfl (by (try simp only [lT, lC, lN]); first | done | rfl) ?_; (with_reducible refine (clavigerref33_Decode.calls kj2 a1 t5 t15 _ A12.out).mono ?_); rintro e w29 ⟨v409, rfl, ho0, hb⟩; refine ⟨_, rfl, ?_⟩; have n0_ := Aside0.mk (Kd.R_elder' (by (with_reducible repeat (first | apply Kd.R_alloc | apply Kd.R_drewN | apply Kd.R_drew)); exact HO406.out) (Kd.R_base ho0) hb); have n1_ := Aside0.mk (Kd.R_lower (Kd.R_new' ho0 (Kd.R_lt (by (with_reducible repeat (first | apply Kd.R_alloc | apply Kd.R_drewN | apply Kd.R_drew)); exact HO406.out))) (below_size (by repeat first | with_reducible (first | exact HB.out | apply bA | apply bN | apply bD) | exact HB.out))); have n2_ := Aside0.mk (below_step (by repeat first | with_reducible (first | exact HB.out | apply bA | apply bN | apply bD) | exact HB.out) hb); clear HO406; clear HB; have HO406 := n0_; have HO410 := n1_; have HB := n2_; clear n0_ n1_ n2_; (try clear hb); (try clear hb2); (try clear hk); (try clear hi); (try clear ho0); obtain ⟨Ao30, co30, eo30⟩ := Kd.R_slice HO406.out; subst eo30; obtain ⟨Ao31, co31, eo31⟩ := Kd.R_slice HO410.out; subst eo31) | (go_at_call 53; (with_reducible refine (clavigerplain_Attrs.calls kj2 _ _ t4 _ _ t5 true _ ?side1 ?side2 ?side3 ?side4 A15.out).mono ?_); (case side1 => repeat (first | exact (Kd.R_reads' HO406.out).2.2 | (with_reducible refine Kd.C_alloc ?_ _) | (with_reducible refine Kd.C_drewN ?_ _) | (with_reducible refine Kd.C_drew ?_))); (case side2 => exact (Kd.R_reads' HO406.out).2.1); (case side3 => repeat (first | exact (Kd.R_reads' HO410.out).2.2 | (with_reducible refine Kd.C_alloc ?_ _) | (with_reducible refine Kd.C_drewN ?_ _) | (with_reducible refine Kd.C_drew ?_))); (case side4 => exact (Kd.R_reads' HO410.out).2.1); rintro e w' ⟨rfl, ⟨nd, rfl⟩⟩))
        go_ret
        exact ⟨by first | rfl | (simp [*, errW_none, errW_some] <;> rfl), by repeat first | with_reducible (first | exact HB.out | apply bA | apply bN | apply bD) | exact HB.out⟩
      ·replace c16 := Bool.eq_false_iff.mpr c16
       subst c16
       have H1 : (some false) = some r := by rw [if_neg (show ¬ (false = true) by decide)] at H; exact H
       clear H
       have H := H1
       clear H1
       obtain rfl := Option.some.inj H
       go_wp2_with (first | ((with_reducible refine gate_callee (f := 49) rfl ?_); refine goesL_ (some 24) rfl rfl Try.func49 (by kernel_rfl) rfl #[.slice A0 l0.length c0] rfl (by (try simp only [lT, lC, lN]); first | done | rfl | (simp only [List.length_drop, List.length_take]; rfl) | (simp only [ByteArray.size_extract, Nat.min_self, Nat.sub_zero, ByteArray.size_append]; first | done | rfl)) ?_; (with_reducible refine (templ_Encode.calls kj2 _ _ l0 t2 t12 _ ?side1 ?side2 A9.out).mono ?_); (case side1 => repeat (first | exact (Kd.C_below HR0.out HB.out) | (with_reducible refine Kd.C_alloc ?_ _) | (with_reducible refine Kd.C_drewN ?_ _) | (with_reducible refine Kd.C_drew ?_))); (case side2 => exact HC0.out); rintro e w32 ⟨rfl, hb⟩; refine ⟨_, rfl, ?_⟩; have n0_ := Aside0.mk (below_step (by repeat first | with_reducible (first | exact HB.out | apply bA | apply bN | apply bD) | exact HB.out) hb); clear HB; have HB := n0_; clear n0_; (try clear hb); (try clear hb2); (try clear hk); (try clear hi)) | ((with_reducible refine gate_callee (f := 50) rfl ?_); refine goesL_ (some 29) rfl rfl Try.func50 (by kernel_rfl) rfl #[.slice A0 l0.length c0] rfl (by (try simp only [lT, lC, lN]); first | done | rfl | (simp only [List.length_drop, List.length_take]; rfl) | (simp only [ByteArray.size_extract, Nat.min_self, Nat.sub_zero, ByteArray.size_append]; first | done | rfl)) ?_; (with_reducible refine (clavigerref33_Encode.calls kj2 _ _ l0 t3 t13 _ ?side1 ?side2 A10.out).mono ?_); (case side1 => repeat (first | exact (Kd.C_below HR0.out HB.out) | (with_reducible refine Kd.C_alloc ?_ _) | (with_reducible refine Kd.C_drewN ?_ _) | (with_reducible refine Kd.C_drew ?_))); (case side2 => exact HC0.out); rintro e w33 ⟨rfl, hb⟩; refine ⟨_, rfl, ?_⟩; have n0_ := Aside0.mk (below_step (by repeat first | with_reducible (first | exact HB.out | apply bA | apply bN | apply bD) | exact HB.out) hb); clear HB; have HB := n0_; clear n0_; (try clear hb); (try clear hb2); (try clear hk); (try clear hi)) | ((with_reducible refine gate_callee (f := 51) rfl ?_); refine goesL_ (some 34) rfl rfl Try.func51 (by kernel_rfl) rfl #[.string a1] rfl (by (try simp only [lT, lC, lN]); first | done | rfl) ?_; (with_reducible refine (templ_Decode.calls kj2 a1 t4 t14 _ A11.out).mono ?_); rintro e w34 ⟨v405, rfl, ho0, hb⟩; refine ⟨_, rfl, ?_⟩; have n0_ := Aside0.mk (Kd.R_lower ho0 (below_size (by repeat first | with_reducible (first | exact HB.out | apply bA | apply bN | apply bD) | exact HB.out))); have n1_ := Aside0.mk (below_step (by repeat first | with_reducible (first | exact HB.out | apply bA | apply bN | apply bD) | exact HB.out) hb); clear HB; have HO406 := n0_; have HB := n1_; clear n0_ n1_; (try clear hb); (try clear hb2); (try clear hk); (try clear hi); (try clear ho0)) | ((with_reducible refine gate_callee (f := 52) rfl ?_); refine goesL_ (some 39) rfl rfl Try.func52 (by kernel_rfl) rfl #[.string a1] rfl (by (try simp only [lT, lC, lN]); first | done | rfl) ?_; (with_reducible refine (clavigerref33_Decode.calls kj2 a1 t5 t15 _ A12.out).mono ?_); rintro e w35 ⟨v409, rfl, ho0, hb⟩; refine ⟨_, rfl, ?_⟩; have n0_ := Aside0.mk (Kd.R_elder' (by (with_reducible repeat (first | apply Kd.R_alloc | apply Kd.R_drewN | apply Kd.R_drew)); exact HO406.out) (Kd.R_base ho0) hb); have n1_ := Aside0.mk (Kd.R_lower (Kd.R_new' ho0 (Kd.R_lt (by (with_reducible repeat (first | apply Kd.R_alloc | apply Kd.R_drewN | apply Kd.R_drew)); exact HO406.out))) (below_size (by repeat first | with_reducible (first | exact HB.out | apply bA | apply bN | apply bD) | exact HB.out))); have n2_ := Aside0.mk (below_step (by repeat first | with_reducible (first | exact HB.out | apply bA | apply bN | apply bD) | exact HB.out) hb); clear HO406; clear HB; have HO406 := n0_; have HO410 := n1_; have HB := n2_; clear n0_ n1_ n2_; (try clear hb); (try clear hb2); (try clear hk); (try clear hi); (try clear ho0); obtain ⟨Ao36, co36, eo36⟩ := Kd.R_slice HO406.out; subst eo36; obtain ⟨Ao37, co37, eo37⟩ := Kd.R_slice HO410.out; subst eo37) | (go_at_call 53; (with_reducible refine (clavigerplain_Attrs.calls kj2 _ _ t4 _ _ t5 false _ ?side1 ?side2 ?side3 ?side4 A15.out).mono ?_); (case side1 => repeat (first | exact (Kd.R_reads' HO406.out).2.2 | (with_reducible refine Kd.C_alloc ?_ _) | (with_reducible refine Kd.C_drewN ?_ _) | (with_reducible refine Kd.C_drew ?_))); (case side2 => exact (Kd.R_reads' HO406.out).2.1); (case side3 => repeat (first | exact (Kd.R_reads' HO410.out).2.2 | (with_reducible refine Kd.C_alloc ?_ _) | (with_reducible refine Kd.C_drewN ?_ _) | (with_reducible refine Kd.C_drew ?_))); (case side4 => exact (Kd.R_reads' HO410.out).2.1); rintro e w' ⟨rfl, ⟨nd, rfl⟩⟩))
       go_ret
       exact ⟨by first | rfl | (simp [*, errW_none, errW_some] <;> rfl), by repeat first | with_reducible (first | exact HB.out | apply bA | apply bN | apply bD) | exact HB.out⟩
     ·rw [if_neg c14] at H
      have c14b0 : (t12 == t13) = false := beq_eq_false_iff_ne.mpr c14
      have c14b1 : (t12 != t13) = true := bne_iff_ne.mpr c14
      obtain rfl := Option.some.inj H
      go_wp2_with (first | ((with_reducible refine gate_callee (f := 49) rfl ?_); refine goesL_ (some 24) rfl rfl Try.func49 (by kernel_rfl) rfl #[.slice A0 l0.length c0] rfl (by (try simp only [lT, lC, lN]); first | done | rfl | (simp only [List.length_drop, List.length_take]; rfl) | (simp only [ByteArray.size_extract, Nat.min_self, Nat.sub_zero, ByteArray.size_append]; first | done | rfl)) ?_; (with_reducible refine (templ_Encode.calls kj2 _ _ l0 t2 t12 _ ?side1 ?side2 A9.out).mono ?_); (case side1 => repeat (first | exact (Kd.C_below HR0.out HB.out) | (with_reducible refine Kd.C_alloc ?_ _) | (with_reducible refine Kd.C_drewN ?_ _) | (with_reducible refine Kd.C_drew ?_))); (case side2 => exact HC0.out); rintro e w38 ⟨rfl, hb⟩; refine ⟨_, rfl, ?_⟩; have n0_ := Aside0.mk (below_step (by repeat first | with_reducible (first | exact HB.out | apply bA | apply bN | apply bD) | exact HB.out) hb); clear HB; have HB := n0_; clear n0_; (try clear hb); (try clear hb2); (try clear hk); (try clear hi)) | ((with_reducible refine gate_callee (f := 50) rfl ?_); refine goesL_ (some 29) rfl rfl Try.func50 (by kernel_rfl) rfl #[.slice A0 l0.length c0] rfl (by (try simp only [lT, lC, lN]); first | done | rfl | (simp only [List.length_drop, List.length_take]; rfl) | (simp only [ByteArray.size_extract, Nat.min_self, Nat.sub_zero, ByteArray.size_append]; first | done | rfl)) ?_; (with_reducible refine (clavigerref33_Encode.calls kj2 _ _ l0 t3 t13 _ ?side1 ?side2 A10.out).mono ?_); (case side1 => repeat (first | exact (Kd.C_below HR0.out HB.out) | (with_reducible refine Kd.C_alloc ?_ _) | (with_reducible refine Kd.C_drewN ?_ _) | (with_reducible refine Kd.C_drew ?_))); (case side2 => exact HC0.out); rintro e w39 ⟨rfl, hb⟩; refine ⟨_, rfl, ?_⟩; have n0_ := Aside0.mk (below_step (by repeat first | with_reducible (first | exact HB.out | apply bA | apply bN | apply bD) | exact HB.out) hb); clear HB; have HB := n0_; clear n0_; (try clear hb); (try clear hb2); (try clear hk); (try clear hi)) | ((with_reducible refine gate_callee (f := 51) rfl ?_); refine goesL_ (some 34) rfl rfl Try.func51 (by kernel_rfl) rfl #[.string a1] rfl (by (try simp only [lT, lC, lN]); first | done | rfl) ?_; (with_reducible refine (templ_Decode.calls kj2 a1 t4 t14 _ A11.out).mono ?_); rintro e w40 ⟨v405, rfl, ho0, hb⟩; refine ⟨_, rfl, ?_⟩; have n0_ := Aside0.mk (Kd.R_lower ho0 (below_size (by repeat first | with_reducible (first | exact HB.out | apply bA | apply bN | apply bD) | exact HB.out))); have n1_ := Aside0.mk (below_step (by repeat first | with_reducible (first | exact HB.out | apply bA | apply bN | apply bD) | exact HB.out) hb); clear HB; have HO406 := n0_; have HB := n1_; clear n0_ n1_; (try clear hb); (try clear hb2); (try clear hk); (try clear hi); (try clear ho0)) | ((with_reducible refine gate_callee (f := 52) rfl ?_); refine goesL_ (some 39) rfl rfl Try.func52 (by kernel_rfl) rfl #[.string a1] rfl (by (try simp only [lT, lC, lN]); first | done | rfl) ?_; (with_reducible refine (clavigerref33_Decode.calls kj2 a1 t5 t15 _ A12.out).mono ?_); rintro e w41 ⟨v409, rfl, ho0, hb⟩; refine ⟨_, rfl, ?_⟩; have n0_ := Aside0.mk (Kd.R_elder' (by (with_reducible repeat (first | apply Kd.R_alloc | apply Kd.R_drewN | apply Kd.R_drew)); exact HO406.out) (Kd.R_base ho0) hb); have n1_ := Aside0.mk (Kd.R_lower (Kd.R_new' ho0 (Kd.R_lt (by (with_reducible repeat (first | apply Kd.R_alloc | apply Kd.R_drewN | apply Kd.R_drew)); exact HO406.out))) (below_size (by repeat first | with_reducible (first | exact HB.out | apply bA | apply bN | apply bD) | exact HB.out))); have n2_ := Aside0.mk (below_step (by repeat first | with_reducible (first | exact HB.out | apply bA | apply bN | apply bD) | exact HB.out) hb); clear HO406; clear HB; have HO406 := n0_; have HO410 := n1_; have HB := n2_; clear n0_ n1_ n2_; (try clear hb); (try clear hb2); (try clear hk); (try clear hi); (try clear ho0)))
      go_ret
      exact ⟨by first | rfl | (simp [*, errW_none, errW_some] <;> rfl), by repeat first | with_reducible (first | exact HB.out | apply bA | apply bN | apply bD) | exact HB.out⟩
    ·rw [if_neg c13] at H
     have c13b0 : (t2.toList == t3.toList) = false := beq_eq_false_iff_ne.mpr c13
     have c13b1 : (t2.toList != t3.toList) = true := bne_iff_ne.mpr c13
     obtain rfl := Option.some.inj H
     go_wp2_with (first | ((with_reducible refine gate_callee (f := 49) rfl ?_); refine goesL_ (some 24) rfl rfl Try.func49 (by kernel_rfl) rfl #[.slice A0 l0.length c0] rfl (by (try simp only [lT, lC, lN]); first | done | rfl | (simp only [List.length_drop, List.length_take]; rfl) | (simp only [ByteArray.size_extract, Nat.min_self, Nat.sub_zero, ByteArray.size_append]; first | done | rfl)) ?_; (with_reducible refine (templ_Encode.calls kj2 _ _ l0 t2 t12 _ ?side1 ?side2 A9.out).mono ?_); (case side1 => repeat (first | exact (Kd.C_below HR0.out HB.out) | (with_reducible refine Kd.C_alloc ?_ _) | (with_reducible refine Kd.C_drewN ?_ _) | (with_reducible refine Kd.C_drew ?_))); (case side2 => exact HC0.out); rintro e w42 ⟨rfl, hb⟩; refine ⟨_, rfl, ?_⟩; have n0_ := Aside0.mk (below_step (by repeat first | with_reducible (first | exact HB.out | apply bA | apply bN | apply bD) | exact HB.out) hb); clear HB; have HB := n0_; clear n0_; (try clear hb); (try clear hb2); (try clear hk); (try clear hi)) | ((with_reducible refine gate_callee (f := 50) rfl ?_); refine goesL_ (some 29) rfl rfl Try.func50 (by kernel_rfl) rfl #[.slice A0 l0.length c0] rfl (by (try simp only [lT, lC, lN]); first | done | rfl | (simp only [List.length_drop, List.length_take]; rfl) | (simp only [ByteArray.size_extract, Nat.min_self, Nat.sub_zero, ByteArray.size_append]; first | done | rfl)) ?_; (with_reducible refine (clavigerref33_Encode.calls kj2 _ _ l0 t3 t13 _ ?side1 ?side2 A10.out).mono ?_); (case side1 => repeat (first | exact (Kd.C_below HR0.out HB.out) | (with_reducible refine Kd.C_alloc ?_ _) | (with_reducible refine Kd.C_drewN ?_ _) | (with_reducible refine Kd.C_drew ?_))); (case side2 => exact HC0.out); rintro e w43 ⟨rfl, hb⟩; refine ⟨_, rfl, ?_⟩; have n0_ := Aside0.mk (below_step (by repeat first | with_reducible (first | exact HB.out | apply bA | apply bN | apply bD) | exact HB.out) hb); clear HB; have HB := n0_; clear n0_; (try clear hb); (try clear hb2); (try clear hk); (try clear hi)) | ((with_reducible refine gate_callee (f := 51) rfl ?_); refine goesL_ (some 34) rfl rfl Try.func51 (by kernel_rfl) rfl #[.string a1] rfl (by (try simp only [lT, lC, lN]); first | done | rfl) ?_; (with_reducible refine (templ_Decode.calls kj2 a1 t4 t14 _ A11.out).mono ?_); rintro e w44 ⟨v405, rfl, ho0, hb⟩; refine ⟨_, rfl, ?_⟩; have n0_ := Aside0.mk (Kd.R_lower ho0 (below_size (by repeat first | with_reducible (first | exact HB.out | apply bA | apply bN | apply bD) | exact HB.out))); have n1_ := Aside0.mk (below_step (by repeat first | with_reducible (first | exact HB.out | apply bA | apply bN | apply bD) | exact HB.out) hb); clear HB; have HO406 := n0_; have HB := n1_; clear n0_ n1_; (try clear hb); (try clear hb2); (try clear hk); (try clear hi); (try clear ho0)) | ((with_reducible refine gate_callee (f := 52) rfl ?_); refine goesL_ (some 39) rfl rfl Try.func52 (by kernel_rfl) rfl #[.string a1] rfl (by (try simp only [lT, lC, lN]); first | done | rfl) ?_; (with_reducible refine (clavigerref33_Decode.calls kj2 a1 t5 t15 _ A12.out).mono ?_); rintro e w45 ⟨v409, rfl, ho0, hb⟩; refine ⟨_, rfl, ?_⟩; have n0_ := Aside0.mk (Kd.R_elder' (by (with_reducible repeat (first | apply Kd.R_alloc | apply Kd.R_drewN | apply Kd.R_drew)); exact HO406.out) (Kd.R_base ho0) hb); have n1_ := Aside0.mk (Kd.R_lower (Kd.R_new' ho0 (Kd.R_lt (by (with_reducible repeat (first | apply Kd.R_alloc | apply Kd.R_drewN | apply Kd.R_drew)); exact HO406.out))) (below_size (by repeat first | with_reducible (first | exact HB.out | apply bA | apply bN | apply bD) | exact HB.out))); have n2_ := Aside0.mk (below_step (by repeat first | with_reducible (first | exact HB.out | apply bA | apply bN | apply bD) | exact HB.out) hb); clear HO406; clear HB; have HO406 := n0_; have HO410 := n1_; have HB := n2_; clear n0_ n1_ n2_; (try clear hb); (try clear hb2); (try clear hk); (try clear hi); (try clear ho0)))
     go_ret
     exact ⟨by first | rfl | (simp [*, errW_none, errW_some] <;> rfl), by repeat first | with_reducible (first | exact HB.out | apply bA | apply bN | apply bD) | exact HB.out⟩

end Go.Proofs.Ytmcpfkgahmdkgaa.Pr
end
section
namespace Go.Proofs.Ytmcpfkgahmdkgaa.M
open Go.RowKit Go.Proofs.Ytmcpfkgahmdkgaa.Pr Go.Proofs.YtmcpfkgahmdkgaaW.PrintWords Go.Proofs.YtmcpfkgahmdkgaaW.PrintLast Go.Proofs.YtmcpfkgahmdkgaaW.PrintMore
set_option linter.unusedSimpArgs false
theorem awake33 : Ev (fun k => clavigerlaw33_awake.f k) true := Ev.of clavigerlaw33_awake.mono (k := 60) (by kernel_rfl)
theorem body_ge : ∀ l : List At, l.length ≤ (bodyL l).length
  | [] => Nat.le_refl _
  | a :: r => by
    show _ ≤ (pieceL a ++ bodyL r).length
    have := body_ge r
    rw [List.length_append, pieceL_len, List.length_cons]
    omega
theorem enc_size {l : List At} (h : checkA l = 0) : (mkB (hexL (bodyL l))).size ≤ 16512 := by
  obtain ⟨g1, g2⟩ := checkA_ok h
  have := bodyL_len l 0 g2
  rw [mkB_size, hexL_len]
  omega
theorem dec_enc {l : List At} (h : checkA l = 0) : decA (mkB (hexL (bodyL l))) = (l, 0) := by
  obtain ⟨g1, g2⟩ := checkA_ok h
  unfold decA
  rw [nb_mkB (isB_hexL (isB_bodyL l)), unhex_hex (isB_bodyL l)]
  show decS (bodyL l) = _
  unfold decS
  rw [parse_body l 0 _ g2 (by omega) (body_ge l)]
  show fin l = _
  unfold fin
  rw [if_pos h]
theorem decA_cases (t : ByteArray) : ((decA t).2 ≠ 0 ∧ (decA t).1 = []) ∨ ((decA t).2 = 0 ∧ (decA t).1.length ≤ 32 ∧ encA (decA t).1 = (t, 0)) := by
  unfold decA
  cases h : unhexL (nb t) with
  | none => exact .inl ⟨by show (5 : Int) ≠ 0; omega, rfl⟩
  | some S =>
    obtain ⟨h1, h2, -⟩ := hex_unhex h
    show ((decS S).2 ≠ 0 ∧ (decS S).1 = []) ∨ ((decS S).2 = 0 ∧ (decS S).1.length ≤ 32 ∧ encA (decS S).1 = (t, 0))
    unfold decS
    cases hp : parseF S.length S with
    | none => exact .inl ⟨by show (5 : Int) ≠ 0; omega, rfl⟩
    | some l =>
      show ((fin l).2 ≠ 0 ∧ (fin l).1 = []) ∨ ((fin l).2 = 0 ∧ (fin l).1.length ≤ 32 ∧ encA (fin l).1 = (t, 0))
      unfold fin
      by_cases hc : checkA l = 0
      · rw [if_pos hc]
        refine .inr ⟨rfl, (checkA_ok hc).1, ?_⟩
        unfold encA
        rw [if_pos hc, body_parse _ S l h2 hp, h1, mkB_nb]
      · rw [if_neg hc]
        exact .inl ⟨hc, rfl⟩
theorem decA_len (t : ByteArray) : (decA t).1.length ≤ 32 := by
  rcases decA_cases t with ⟨-, h⟩ | ⟨-, h, -⟩
  · rw [h]; simp
  · exact h
theorem tells_yes (l : List At) (s : ByteArray) : Ev (fun k => clavigerlaw33_TemplTells.j0 k l s true) true := by
  refine evu ?_
  simp only [clavigerlaw33_TemplTells.j0]
  exact evp trivial (evb awake33 (Ev.now _))
theorem tells_ev (l : List At) (s : ByteArray) : Ev (fun k => clavigerlaw33_TemplTells.f k l s) true := by
  unfold clavigerlaw33_TemplTells.f
  obtain ⟨b, hb, -⟩ := few_c l 60 (by omega)
  refine evb hb ?_
  cases b with
  | false => exact evn (by decide) (tells_yes l s)
  | true =>
    refine evp rfl ?_
    by_cases h : (s.size : Int) > 2000
    · rw [decide_eq_true h]
      exact tells_yes l s
    · rw [decide_eq_false h]
      refine evu ?_
      simp only [clavigerlaw33_TemplTells.j0]
      refine evn (by decide) (evb (enc_c l) (evb (renc_c l) (evb (dec_c s (by omega)) (evb (rdec_c s (by omega)) (evp rfl (evp rfl (evb (attrs_c _ ?_) (evp rfl (evp rfl (evb awake33 (Ev.now _)))))))))))
      have := decA_len s
      omega
/-- What Options answers. -/
def optA (l : List At) : List S77 × Int :=
  if (encA l).2 = 0 then (if (encA l).1.toList = [] then ([], 0) else if (encA l).1.size > 9000 then ([], 4) else ([⟨⟨#[49, 48]⟩, (encA l).1⟩], 0)) else ([], (encA l).2)
theorem opt_stop (x : ByteArray) (e : Int) : Ev (fun k => templ_Options.j0 k x e true) ([], e) := by
  refine evu ?_
  simp only [templ_Options.j0]
  exact evp trivial (Ev.now _)
theorem opt_c (l : List At) : Ev (fun k => templ_Options.f k l) (optA l) := by
  unfold templ_Options.f optA
  refine evb (enc_c l) ?_
  by_cases h : (encA l).2 = 0
  · rw [if_pos h]
    refine evp h ?_
    by_cases g : (encA l).1.toList = []
    · rw [if_pos g, beq_iff_eq.2 g, h]
      exact opt_stop _ _
    · rw [if_neg g, beq_eq_false_iff_ne.2 g]
      refine evu ?_
      simp only [templ_Options.j0]
      refine evn (by decide) ?_
      by_cases q : (encA l).1.size > 9000
      · rw [if_pos q]
        exact evp (by omega) (Ev.now _)
      · rw [if_neg q]
        exact evn (by omega) (Ev.now _)
  · rw [if_neg h]
    exact evn h (opt_stop _ _)
theorem from_nil : Ev (fun k => templ_From.f k []) ([], 0) := by
  unfold templ_From.f
  exact evp rfl (Ev.now _)
theorem from_one (x : ByteArray) (hs : x.size ≤ 1000000) (hx : x.toList ≠ []) : Ev (fun k => templ_From.f k [⟨⟨#[49, 48]⟩, x⟩]) (decA x) := by
  unfold templ_From.f
  have h49 : (⟨#[49, 48]⟩ : ByteArray).toList = ([49, 48] : List UInt8) := by decide +kernel
  exact evn (by simp) (evn (by simp) (evp (by simp) (evp h49 (evn hx (evb (dec_c x hs) (Ev.now _))))))
theorem back_tail (t : ByteArray) (ht : t.size ≤ 1000000) : Ev (fun k => (templ_Decode.f k t).bind fun bt8 => ((templ_Encode.f k bt8.1).bind fun bt9 => (if bt8.2 = 0 then (if bt9.1.toList = t.toList then (if bt9.2 = 0 then ((clavigerlaw33_awake.f k).bind fun t10 => (some t10)) else (some false)) else (some false)) else (if (bt8.1.length : Int) = 0 then ((clavigerlaw33_awake.f k).bind fun t11 => (some t11)) else (if bt9.1.toList = t.toList then (if bt9.2 = 0 then ((clavigerlaw33_awake.f k).bind fun t12 => (some t12)) else (some false)) else (some false)))))) true := by
  refine evb (dec_c t ht) (evb (enc_c _) ?_)
  rcases decA_cases t with ⟨h1, h2⟩ | ⟨h1, -, h3⟩
  · exact evn h1 (evp (by rw [h2]; rfl) (evb awake33 (Ev.now _)))
  · rw [h3]
    exact evp h1 (evp rfl (evp rfl (evb awake33 (Ev.now _))))
theorem back_j2 (t : ByteArray) (ht : t.size ≤ 1000000) : Ev (fun k => clavigerlaw33_TemplBack.j2 k t false) true := by
  refine evu ?_
  simp only [clavigerlaw33_TemplBack.j2]
  exact evn (by decide) (back_tail t ht)
theorem encA_err {l : List At} (h : (encA l).2 = 0) : checkA l = 0 ∧ encA l = (mkB (hexL (bodyL l)), 0) := by
  unfold encA at h ⊢
  by_cases g : checkA l = 0
  · rw [if_pos g]
    exact ⟨g, rfl⟩
  · rw [if_neg g] at h
    exact absurd h g
theorem back_j1 (l : List At) (t : ByteArray) (ht : t.size ≤ 1000000) : Ev (fun k => clavigerlaw33_TemplBack.j1 k l t) true := by
  refine evu ?_
  simp only [clavigerlaw33_TemplBack.j1]
  refine evb (opt_c l) ?_
  unfold optA
  by_cases h : (encA l).2 = 0
  · rw [if_pos h]
    obtain ⟨hc, he⟩ := encA_err h
    have hsz := enc_size hc
    obtain ⟨g1, g2⟩ := checkA_ok hc
    by_cases g : (encA l).1.toList = []
    · rw [if_pos g]
      have hl : l = [] := by
        rw [he] at g
        have := toList_nil.1 g
        have h2 := congrArg List.length this
        rw [hexL_len, List.length_nil] at h2
        have h3 := body_ge l
        exact List.eq_nil_of_length_eq_zero (by omega)
      subst hl
      exact evp rfl (evb from_nil (evp rfl (evb (attrs_c [] (by simp)) (back_j2 t ht))))
    · rw [if_neg g]
      by_cases q : (encA l).1.size > 9000
      · rw [if_pos q]
        exact evn (by decide) (back_tail t ht)
      · rw [if_neg q]
        refine evp rfl (evb (from_one _ (by omega) g) ?_)
        rw [he, dec_enc hc]
        exact evp rfl (evb (attrs_c l (by omega)) (back_j2 t ht))
  · rw [if_neg h]
    exact evn h (back_tail t ht)
theorem back_yes (l : List At) (s : ByteArray) : Ev (fun k => clavigerlaw33_TemplBack.j0 k l s true) true := by
  refine evu ?_
  simp only [clavigerlaw33_TemplBack.j0]
  exact evp trivial (evb awake33 (Ev.now _))
theorem back_ev (l : List At) (s : ByteArray) : Ev (fun k => clavigerlaw33_TemplBack.f k l s) true := by
  unfold clavigerlaw33_TemplBack.f
  obtain ⟨b, hb, -⟩ := few_c l 60 (by omega)
  refine evb hb ?_
  cases b with
  | false => exact evn (by decide) (back_yes l s)
  | true =>
    refine evp rfl ?_
    by_cases h : (s.size : Int) > 2000
    · rw [decide_eq_true h]
      exact back_yes l s
    · rw [decide_eq_false h]
      refine evu ?_
      simp only [clavigerlaw33_TemplBack.j0]
      refine evn (by decide) (evb (enc_c l) ?_)
      by_cases g : (encA l).2 = 0
      · obtain ⟨hc, he⟩ := encA_err g
        have hsz := enc_size hc
        obtain ⟨g1, g2⟩ := checkA_ok hc
        refine evp g ?_
        rw [he]
        refine evb (dec_c (mkB (hexL (bodyL l))) (by omega)) ?_
        rw [dec_enc hc]
        exact evp rfl (evb (attrs_c l (by omega)) (evp rfl (back_j1 l s (by omega))))
      · exact evn g (back_j1 l s (by omega))
end Go.Proofs.Ytmcpfkgahmdkgaa.M
namespace Go.Proofs.Ytmcpfkgahmdkgaa.Pr
open Go Go.RowKit Go.Proofs.YtmcpfkgahmdkgaaW.PrintWords Go.Proofs.YtmcpfkgahmdkgaaW.PrintLast Go.Proofs.YtmcpfkgahmdkgaaW.PrintMore
theorem templTells_walk (A0 : Option Addr) (c0 : Nat) (l0 : List S102) (s : ByteArray) (w : World) (h : Kd.C k102 w A0 l0.length l0 ∧ l0.length ≤ c0) : Calls Try.prog 11 #[.slice A0 l0.length c0, .string s] w fun e w' => e = .returned (.bool true) ∧ Below w.heap.size w w' := by
  obtain ⟨n, hn⟩ := (M.tells_ev l0 s).rounds
  exact clavigerlaw33_TemplTells.calls n A0 c0 l0 s true w h.1 h.2 hn
theorem templBack_walk (A0 : Option Addr) (c0 : Nat) (l0 : List S102) (s : ByteArray) (w : World) (h : Kd.C k102 w A0 l0.length l0 ∧ l0.length ≤ c0) : Calls Try.prog 13 #[.slice A0 l0.length c0, .string s] w fun e w' => e = .returned (.bool true) ∧ Below w.heap.size w w' := by
  obtain ⟨n, hn⟩ := (M.back_ev l0 s).rounds
  exact clavigerlaw33_TemplBack.calls n A0 c0 l0 s true w h.1 h.2 hn
end Go.Proofs.Ytmcpfkgahmdkgaa.Pr
end
section
namespace Go.Proofs.Ytmcpfkgahmdkgaa.RowAid
set_option maxRecDepth 100000
def c (n : Nat) : Char := Char.ofNat n
def L : List Char := [c 104, c 97, c 114, c 110, c 101, c 115, c 115, c 32, c 52, c 51, c 50, c 56, c 48, c 98, c 101, c 100, c 50, c 51, c 98, c 48, c 100, c 55, c 50, c 52, c 101, c 53, c 56, c 49, c 56, c 53, c 102, c 51, c 102, c 97, c 101, c 51, c 99, c 101, c 98, c 51, c 100, c 49, c 49, c 53, c 99, c 51, c 98, c 57, c 97, c 50, c 102, c 99, c 100, c 56, c 50, c 99, c 97, c 54, c 50, c 57, c 102, c 57, c 97, c 49, c 50, c 56, c 51, c 56, c 99, c 52, c 49, c 97, c 32, c 99, c 117, c 116, c 32, c 97, c 116, c 32, c 99, c 108, c 97, c 118, c 105, c 103, c 101, c 114, c 47, c 99, c 108, c 97, c 118, c 105, c 103, c 101, c 114, c 108, c 97, c 119, c 48, c 51, c 46, c 83, c 112, c 97, c 110, c 84, c 101, c 108, c 108, c 115, c 32, c 99, c 108, c 97, c 118, c 105, c 103, c 101, c 114, c 47, c 99, c 108, c 97, c 118, c 105, c 103, c 101, c 114, c 108, c 97, c 119, c 48, c 51, c 46, c 83, c 112, c 97, c 110, c 80, c 97, c 105, c 114, c 115, c 32, c 99, c 108, c 97, c 118, c 105, c 103, c 101, c 114, c 47, c 99, c 108, c 97, c 118, c 105, c 103, c 101, c 114, c 108, c 97, c 119, c 48, c 51, c 46, c 83, c 112, c 97, c 110, c 66, c 97, c 99, c 107, c 32, c 99, c 108, c 97, c 118, c 105, c 103, c 101, c 114, c 47, c 99, c 108, c 97, c 118, c 105, c 103, c 101, c 114, c 108, c 97, c 119, c 48, c 52, c 46, c 69, c 113, c 117, c 97, c 108, c 84, c 117, c 114, c 110, c 115, c 32, c 99, c 108, c 97, c 118, c 105, c 103, c 101, c 114, c 47, c 99, c 108, c 97, c 118, c 105, c 103, c 101, c 114, c 108, c 97, c 119, c 48, c 52, c 46, c 69, c 113, c 117, c 97, c 108, c 84, c 101, c 108, c 108, c 115, c 32, c 99, c 108, c 97, c 118, c 105, c 103, c 101, c 114, c 47, c 99, c 108, c 97, c 118, c 105, c 103, c 101, c 114, c 108, c 97, c 119, c 49, c 53, c 46, c 72, c 101, c 97, c 100, c 66, c 97, c 99, c 107, c 32, c 99, c 108, c 97, c 118, c 105, c 103, c 101, c 114, c 47, c 99, c 108, c 97, c 118, c 105, c 103, c 101, c 114, c 108, c 97, c 119, c 49, c 53, c 46, c 72, c 101, c 97, c 100, c 83, c 104, c 111, c 114, c 116, c 32, c 99, c 108, c 97, c 118, c 105, c 103, c 101, c 114, c 47, c 99, c 108, c 97, c 118, c 105, c 103, c 101, c 114, c 108, c 97, c 119, c 49, c 53, c 46, c 72, c 101, c 97, c 100, c 84, c 101, c 108, c 108, c 115, c 32, c 99, c 108, c 97, c 118, c 105, c 103, c 101, c 114, c 47, c 99, c 108, c 97, c 118, c 105, c 103, c 101, c 114, c 108, c 97, c 119, c 51, c 51, c 46, c 84, c 101, c 109, c 112, c 108, c 84, c 101, c 108, c 108, c 115, c 32, c 99, c 108, c 97, c 118, c 105, c 103, c 101, c 114, c 47, c 99, c 108, c 97, c 118, c 105, c 103, c 101, c 114, c 108, c 97, c 119, c 51, c 51, c 46, c 84, c 101, c 109, c 112, c 108, c 79, c 112, c 116, c 105, c 111, c 110, c 115, c 32, c 99, c 108, c 97, c 118, c 105, c 103, c 101, c 114, c 47, c 99, c 108, c 97, c 118, c 105, c 103, c 101, c 114, c 108, c 97, c 119, c 51, c 51, c 46, c 84, c 101, c 109, c 112, c 108, c 66, c 97, c 99, c 107]
def WL : List (List Char) := [[c 97, c 116], [c 99, c 108, c 97, c 118, c 105, c 103, c 101, c 114, c 47, c 99, c 108, c 97, c 118, c 105, c 103, c 101, c 114, c 108, c 97, c 119, c 48, c 51, c 46, c 83, c 112, c 97, c 110, c 84, c 101, c 108, c 108, c 115], [c 99, c 108, c 97, c 118, c 105, c 103, c 101, c 114, c 47, c 99, c 108, c 97, c 118, c 105, c 103, c 101, c 114, c 108, c 97, c 119, c 48, c 51, c 46, c 83, c 112, c 97, c 110, c 80, c 97, c 105, c 114, c 115], [c 99, c 108, c 97, c 118, c 105, c 103, c 101, c 114, c 47, c 99, c 108, c 97, c 118, c 105, c 103, c 101, c 114, c 108, c 97, c 119, c 48, c 51, c 46, c 83, c 112, c 97, c 110, c 66, c 97, c 99, c 107], [c 99, c 108, c 97, c 118, c 105, c 103, c 101, c 114, c 47, c 99, c 108, c 97, c 118, c 105, c 103, c 101, c 114, c 108, c 97, c 119, c 48, c 52, c 46, c 69, c 113, c 117, c 97, c 108, c 84, c 117, c 114, c 110, c 115], [c 99, c 108, c 97, c 118, c 105, c 103, c 101, c 114, c 47, c 99, c 108, c 97, c 118, c 105, c 103, c 101, c 114, c 108, c 97, c 119, c 48, c 52, c 46, c 69, c 113, c 117, c 97, c 108, c 84, c 101, c 108, c 108, c 115], [c 99, c 108, c 97, c 118, c 105, c 103, c 101, c 114, c 47, c 99, c 108, c 97, c 118, c 105, c 103, c 101, c 114, c 108, c 97, c 119, c 49, c 53, c 46, c 72, c 101, c 97, c 100, c 66, c 97, c 99, c 107], [c 99, c 108, c 97, c 118, c 105, c 103, c 101, c 114, c 47, c 99, c 108, c 97, c 118, c 105, c 103, c 101, c 114, c 108, c 97, c 119, c 49, c 53, c 46, c 72, c 101, c 97, c 100, c 83, c 104, c 111, c 114, c 116], [c 99, c 108, c 97, c 118, c 105, c 103, c 101, c 114, c 47, c 99, c 108, c 97, c 118, c 105, c 103, c 101, c 114, c 108, c 97, c 119, c 49, c 53, c 46, c 72, c 101, c 97, c 100, c 84, c 101, c 108, c 108, c 115], [c 99, c 108, c 97, c 118, c 105, c 103, c 101, c 114, c 47, c 99, c 108, c 97, c 118, c 105, c 103, c 101, c 114, c 108, c 97, c 119, c 51, c 51, c 46, c 84, c 101, c 109, c 112, c 108, c 84, c 101, c 108, c 108, c 115], [c 99, c 108, c 97, c 118, c 105, c 103, c 101, c 114, c 47, c 99, c 108, c 97, c 118, c 105, c 103, c 101, c 114, c 108, c 97, c 119, c 51, c 51, c 46, c 84, c 101, c 109, c 112, c 108, c 79, c 112, c 116, c 105, c 111, c 110, c 115], [c 99, c 108, c 97, c 118, c 105, c 103, c 101, c 114, c 47, c 99, c 108, c 97, c 118, c 105, c 103, c 101, c 114, c 108, c 97, c 119, c 51, c 51, c 46, c 84, c 101, c 109, c 112, c 108, c 66, c 97, c 99, c 107]]
theorem z0 : Try.prog.initOrder = String.ofList L := by kernel_rfl
theorem z1 : Try.prog.initOrder.toList = L := by rw [z0]; exact String.toList_ofList
theorem z2 : behindMainWord (wordsSigns L) = "cut".toList :: WL := by kernel_rfl
theorem z3 : behindMainWord (wordsSigns Try.prog.initOrder.toList) = "cut".toList :: WL := (congrArg (fun x => behindMainWord (wordsSigns x)) z1).trans z2
theorem strip_cut (r : List (List Char)) : stripLifts liftWords ("cut".toList :: r) = ([], "cut".toList :: r) := by
  unfold liftWords
  simp [stripLifts]
theorem make_cut {P : Program} {r : List (List Char)} (h : behindMainWord (wordsSigns P.initOrder.toList) = "cut".toList :: r) : P.make = some .cut := by
  unfold Program.make
  rw [h]
  simp
theorem lifts_cut {P : Program} {r : List (List Char)} (h : behindMainWord (wordsSigns P.initOrder.toList) = "cut".toList :: r) : P.headLifts = [] := by
  unfold Program.headLifts
  rw [h, strip_cut]
  simp
theorem final_cut {P : Program} {r : List (List Char)} (h : behindMainWord (wordsSigns P.initOrder.toList) = "cut".toList :: r) : P.liftsFinal = false := by
  unfold Program.liftsFinal
  rw [lifts_cut h, h]
  simp
theorem enter_cut {P : Program} {r : List (List Char)} (h : behindMainWord (wordsSigns P.initOrder.toList) = "cut".toList :: r) (h1 : P.laysLater = false) (h2 : P.bearsReflect = false) (h3 : P.doorFits [] = true) : P.mayEnter = true := by
  unfold Program.mayEnter
  rw [h]
  simp only [strip_cut]
  simp [h1, h2, h3]
theorem enter : Try.prog.mayEnter = true := enter_cut z3 (by as_aux_lemma => kernel_rfl) (by as_aux_lemma => kernel_rfl) (by as_aux_lemma => kernel_rfl)
theorem final : Try.prog.liftsFinal = false := final_cut z3
theorem make : Try.prog.make = some .cut := make_cut z3
theorem laid : laidOutB Try.prog = true := by kernel_rfl
theorem rowed : mapsRowed Try.prog = true := by kernel_rfl
theorem heard : Try.prog.stopsHeard = true := by kernel_rfl
theorem plain : Try.prog.plainKeys = true := by kernel_rfl
theorem and_mk {a b : Bool} (h : a = true) (k : b = true) : (a && b) = true := by rw [h, k]; rfl
end Go.Proofs.Ytmcpfkgahmdkgaa.RowAid
end
section
namespace Go.Proofs.Ytmcpfkgahmdkgaa.RowMem
open Go Go.ChangeShapes Go.WideShapes Go.RowKit Go.Proofs.Ytmcpfkgahmdkgaa.Pr Go.Proofs.YtmcpfkgahmdkgaaW.PrintWords Go.Proofs.YtmcpfkgahmdkgaaW.PrintLast Go.Proofs.YtmcpfkgahmdkgaaW.PrintMore
set_option linter.unusedVariables false
set_option linter.constructorNameAsVariable false
set_option maxRecDepth 10000
variable {H : Type} {enc : TypeId × Value → H} {W : World} {r : Reach} {b0 base : Nat} {spare : Nat → Bool} {held : Bool} {v : Value} {d : DataW H} {p : List MemPlace}
theorem two {α : Type} : ∀ {l : List α}, l.length = 2 → ∃ a b, l = [a, b]
  | [a, b], _ => ⟨a, b, rfl⟩
theorem cells_2 {a : Addr} {x y : Value} (h : W.cells? base a 2 = some [x, y]) : W.cell? a = some x ∧ W.cell? (a.add 1) = some y := by
  obtain ⟨_, hl, hc⟩ := World.cells?_some h
  have h0 := hc 0 (by omega)
  have h1 := hc 1 (by omega)
  exact ⟨by simpa [Addr.add] using h0, by simpa using h1⟩
theorem attr_cells {fuel : Nat} {cs : List Value} {x : DataW H × List MemPlace} (h : DataW.trod enc Try.prog W base spare held fuel 102 cs = some x) : ∃ a s, cs = [.int .i64 a, .string s] := by
  obtain ⟨y0, y1, n, -, hl, h0, h1⟩ := trod_struct2 Try.underlying102 h
  have e0 : Try.prog.cellsOf 102 = 2 := by kernel_rfl
  rw [e0] at hl
  obtain ⟨c0, c1, rfl⟩ := two hl
  have e1 : Try.prog.cellsOf 3 = 1 := by kernel_rfl
  have e2 : Try.prog.cellsOf 9 = 1 := by kernel_rfl
  simp only [e1, e2, List.drop_zero, List.drop_succ_cons, List.take_succ_cons, List.take_zero] at h0 h1
  obtain ⟨a, ha, _, _⟩ := DataW.trod_int Try.underlying3 h0
  obtain ⟨s, hs, _, _⟩ := DataW.trod_string Try.underlying9 h1
  exact ⟨a, s, by rw [List.singleton_inj.1 ha, List.singleton_inj.1 hs]⟩
/-- Two cells of a row, as one of these. -/
def attrAt (W : World) (a : Addr) (i : Nat) : S102 := match W.cell? (a.add (i * 2)), W.cell? (a.add (i * 2 + 1)) with
  | some (.int _ x), some (.string y) => ⟨x, y⟩
  | _, _ => z102
theorem open_attrs (hv : Value.okWide Try.prog W r b0 66 v) (h : DataW.Trod enc Try.prog W base (fun _ => true) held 66 v d p) : ∃ (A : Option Addr) (l : List S102) (c : Nat), v = .slice A l.length c ∧ (Kd.C k102 W A l.length l ∧ l.length ≤ c) := by
  obtain ⟨a0, len, cap, rfl⟩ := okWide_slice Try.underlying66 hv
  obtain ⟨fuel, hf⟩ := h
  have e1 : Try.prog.cellsOf 102 = 2 := by kernel_rfl
  rcases Go.Deep.open_slice Try.underlying66 hf with ⟨hcs, hx⟩ | ⟨a, len', cap', m, n, D, Pl, hcs, hb, hl, hm, hmm, hx, hcell⟩
  · have hcs2 : Value.slice a0 len cap = .slice none 0 0 := List.singleton_inj.1 hcs
    injection hcs2 with g0 g1 g2
    subst g0 g1 g2
    exact ⟨none, [], 0, rfl, ⟨rfl, Nat.zero_le _, fun hp => absurd hp (by simp)⟩, Nat.le_refl _⟩
  · have hcs2 : Value.slice a0 len cap = .slice (some a) len' cap' := List.singleton_inj.1 hcs
    injection hcs2 with g0 g1 g2
    subst g0 g1 g2
    have hlm : len ≤ m := by rw [hmm]; split <;> omega
    have each : ∀ i, i < len → W.cell? (a.add (i * 2)) = some (.int .i64 (attrAt W a i).f0) ∧ W.cell? (a.add (i * 2 + 1)) = some (.string (attrAt W a i).f1) := by
      intro i hi
      obtain ⟨cs', h1, h2⟩ := hcell i (by omega)
      obtain ⟨x, y, rfl⟩ := attr_cells h2
      rw [e1] at h1
      obtain ⟨k0, k1⟩ := cells_2 h1
      rw [Addr.add_add] at k1
      unfold attrAt
      rw [k0, k1]
      exact ⟨rfl, rfl⟩
    refine ⟨some a, (List.range len).map (attrAt W a), cap, by rw [List.length_map, List.length_range], ⟨rfl, by rw [List.length_map, List.length_range]; simp only [maxLen] at hm; omega, fun hp => ⟨a, rfl, fun j q hq => ?_⟩⟩, by rw [List.length_map, List.length_range]; exact hl⟩
    rw [List.getElem?_map] at hq
    have hj : j < len := by
      rcases Nat.lt_or_ge j len with h | h
      · exact h
      · rw [List.getElem?_eq_none (by simpa using h)] at hq
        cases hq
    rw [List.getElem?_range hj] at hq
    obtain rfl : attrAt W a j = q := by simpa using hq
    obtain ⟨k1, k2⟩ := each j hj
    refine ⟨[.int .i64 (attrAt W a j).f0, .string (attrAt W a j).f1], rfl, k102_mk W _, fun i u hu => ?_⟩
    match i, hu with
    | 0, hu =>
      obtain rfl := Option.some.inj hu
      exact k1
    | 1, hu =>
      obtain rfl := Option.some.inj hu
      exact k2
    | i + 2, hu => exact absurd hu (by simp)
end Go.Proofs.Ytmcpfkgahmdkgaa.RowMem
end
