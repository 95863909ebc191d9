-- several texts in one (by the session's program shake.py)
import Derived.Test.YtokkhnjedmlbhaaZPrg05
import Derived.Test.YtokkhnjedmlbhaaZFieldB
import Derived.Test.YtokkhnjedmlbhaaZPrL09awake
section
namespace Go.Proofs.Ytokkhnjedmlbhaa.Pr
open Go.RowKit Go.Proofs.YtokkhnjedmlbhaaW.PrintWords Go.Proofs.YtokkhnjedmlbhaaW.PrintLast Go.Proofs.YtokkhnjedmlbhaaW.PrintMore
attribute [local go_sem] max2_int min2_int max_two min_two max_three min_three max_four min_four   -- for this text's walks alone
set_option linter.unusedVariables false
set_option linter.unusedSimpArgs false

def clavigerlaw09_AesTells.j0 : Nat → ByteArray → ByteArray → Bool → Option (Bool)
 | 0, _, _, _ => none
 | k + 1, x0, x1, x20 => if x20 = true then ((clavigerlaw09_awake.f).bind fun t505 => (some t505)) else ((aes_Encrypt.f x0 x1).bind fun bt506 => ((clavigerref09_Encrypt.f k x0 x1).bind fun bt508 => ((aes_Decrypt.f x0 x1).bind fun bt510 => ((clavigerref09_Decrypt.f k x0 x1).bind fun bt512 => (if bt506.1.toList = bt508.1.toList then (if bt506.2 = bt508.2 then (if bt510.1.toList = bt512.1.toList then (if bt510.2 = bt512.2 then ((clavigerlaw09_awake.f).bind fun t514 => (some t514)) else (some false)) else (some false)) else (some false)) else (some false))))))
def clavigerlaw09_AesTells.f (k : Nat) (a0 : ByteArray) (a1 : ByteArray) : Option (Bool) := if (a0.size : Int) > 100 then (clavigerlaw09_AesTells.j0 k a0 a1 true) else (clavigerlaw09_AesTells.j0 k a0 a1 (decide ((a1.size : Int) > 100)))
theorem clavigerlaw09_AesTells.mono_l : ∀ k, (∀ y0 y1 y2, LeO (clavigerlaw09_AesTells.j0 k y0 y1 y2) (clavigerlaw09_AesTells.j0 (k + 1) y0 y1 y2))
 | 0 => fun _ _ _ r h => by simp [clavigerlaw09_AesTells.j0] at h
 | k + 1 => by
  have ih0 := clavigerlaw09_AesTells.mono_l k
  ·intro y0 y1 y2
   unfold clavigerlaw09_AesTells.j0
   repeat' first
   | (with_reducible exact ih0 _ _ _)
   | (with_reducible exact clavigerref09_Decrypt.mono _ _ _)
   | (with_reducible exact clavigerref09_Encrypt.mono _ _ _)
   | (with_reducible exact LeO.refl _)
   | (with_reducible exact LeO.none _)
   | (with_reducible refine LeO.ite ?_ ?_)
   | (with_reducible refine LeO.bind ?_ (fun _ => ?_))
   | exact ih0 _ _ _
   | exact clavigerref09_Decrypt.mono _ _ _
   | exact clavigerref09_Encrypt.mono _ _ _
   | exact LeO.none _
   | refine LeO.ite ?_ ?_
   | refine LeO.bind ?_ (fun _ => ?_)
theorem clavigerlaw09_AesTells.mono : ∀ a0 a1 k, LeO (clavigerlaw09_AesTells.f k a0 a1) (clavigerlaw09_AesTells.f (k + 1) a0 a1) := by
 intro a0 a1 k
 have ih0 := clavigerlaw09_AesTells.mono_l k
 unfold clavigerlaw09_AesTells.f
 repeat' first
   | (with_reducible exact ih0 _ _ _)
   | (with_reducible exact clavigerref09_Decrypt.mono _ _ _)
   | (with_reducible exact clavigerref09_Encrypt.mono _ _ _)
   | (with_reducible exact LeO.refl _)
   | (with_reducible exact LeO.none _)
   | (with_reducible refine LeO.ite ?_ ?_)
   | (with_reducible refine LeO.bind ?_ (fun _ => ?_))
   | exact ih0 _ _ _
   | exact clavigerref09_Decrypt.mono _ _ _
   | exact clavigerref09_Encrypt.mono _ _ _
   | exact LeO.none _
   | refine LeO.ite ?_ ?_
   | refine LeO.bind ?_ (fun _ => ?_)
set_option maxHeartbeats 8000000 in
set_option maxRecDepth 100000 in
theorem clavigerlaw09_AesTells.calls (k : Nat) (a0 : ByteArray) (a1 : ByteArray) (r : Bool) (w : World) (h : clavigerlaw09_AesTells.f k a0 a1 = some r) :
  Calls Try.prog 16 #[.string a0, .string a1] w fun e w' => e = .returned (.bool r) ∧ Below w.heap.size w w' := by
 have HB := Aside0.mk (Below.refl w.heap.size w)
 have H : (if (a0.size : Int) > 100 then (clavigerlaw09_AesTells.j0 k a0 a1 true) else (clavigerlaw09_AesTells.j0 k a0 a1 (decide ((a1.size : Int) > 100)))) = some r := h
 clear h
 have HC3 := Aside0.mk H
 clear H
 go_enter Try.func16, Try.ntmps16
 go_upto_region 1 with (fail)
 go_cut [20] (fun v20 wc => ∃ (kq : Nat) (x20_2 : Bool), v20 = .bool x20_2 ∧ Aside0 (clavigerlaw09_AesTells.j0 kq a0 a1 x20_2 = some r) ∧ Aside0 (kq ≤ k) ∧ Aside0 (Below w.heap.size w wc))
 case first =>
  have H := HC3.out
  clear HC3
  by_cases c4 : (a0.size : Int) > 100
  ·rw [if_pos c4] at H
   have c4b0 : decide (100 < (a0.size : Int)) = true := decide_eq_true c4
   have c4b1 : decide (100 < a0.size) = true := decide_eq_true (by omega)
   clear c4
   (first | rw [c4b0] | (simp only [i64_w, i32_w]; rw [c4b0]) | skip)
   have H' := Aside0.mk H
   clear H
   go_wp2
   go_meet
   case rel => exact ⟨_, (true), (by first | rfl | (simp; done) | (simp [*]; done)), H', ⟨by first | omega | exact Nat.le_refl _⟩, ⟨by repeat (first | (with_reducible first | exact HB.out | apply below_alloc | apply pw_below_drewN | apply below_drew1) | exact HB.out)⟩⟩
  ·rw [if_neg c4] at H
   have c4b0 : decide (100 < (a0.size : Int)) = false := decide_eq_false c4
   have c4b1 : decide (100 < a0.size) = false := decide_eq_false (by omega)
   clear c4
   (first | rw [c4b0] | (simp only [i64_w, i32_w]; rw [c4b0]) | skip)
   have H' := Aside0.mk H
   clear H
   go_wp2
   go_meet
   case rel => exact ⟨_, (decide ((a1.size : Int) > 100)), (by first | rfl | (simp; done) | (simp [*]; done)), H', ⟨by first | omega | exact Nat.le_refl _⟩, ⟨by repeat (first | (with_reducible first | exact HB.out | apply below_alloc | apply pw_below_drewN | apply below_drew1) | exact HB.out)⟩⟩
 case rest =>
  clear HC3
  try clear c1
  try clear p2
  try clear c4
  try clear c4b0
  try clear c4b1
  obtain ⟨kq, x20_2, rfl, HA, HJ2, HB⟩ := hcut
  cases kq with
  | zero => exact absurd HA.out (by simp [clavigerlaw09_AesTells.j0])
  | succ kj2 =>
   have H := HA.out
   clear HA
   simp only [clavigerlaw09_AesTells.j0] at H
   by_cases c5 : x20_2 = true
   ·subst c5
    have H1 : ((clavigerlaw09_awake.f).bind fun t505 => (some t505)) = some r := by rw [if_pos rfl] at H; exact H
    clear H
    have H := H1
    clear H1
    replace H := Option.bind_eq_some_iff.mp H
    obtain ⟨t505, A60, H⟩ := H
    replace H : (some t505) = some r := H
    have A6 := Aside0.mk A60
    clear A60
    obtain rfl := Option.some.inj H
    go_wp2_with (first | ((with_reducible refine gate_callee (f := 97) rfl ?_); refine goesL_ (some 21) rfl rfl Try.func97 (by kernel_rfl) rfl #[] rfl (by (try simp only [List.map_toArray, List.map_cons, List.map_nil]); first | done | rfl | (simp only [List.length_drop, List.length_take]; rfl) | (simp only [ByteArray.size_extract, Nat.min_self, Nat.sub_zero, ByteArray.size_append]; first | done | rfl)) ?_; (with_reducible refine (clavigerlaw09_awake.calls  t505 _ A6.out).mono ?_); rintro e w7 ⟨rfl, hb⟩; refine ⟨_, rfl, ?_⟩; have n0_ := Aside0.mk (below_step (by repeat (first | (with_reducible first | exact HB.out | apply below_alloc | apply pw_below_drewN | apply below_drew1) | exact HB.out)) hb); clear HB; have HB := n0_; clear n0_; (try clear hb); (try clear hb2); (try clear hk); (try clear hi)))
    go_ret
    exact ⟨by first | rfl | (simp [errW_none, errW_some] <;> rfl) | (simp [*, errW_none, errW_some] <;> rfl), by repeat (first | (with_reducible first | exact HB.out | apply below_alloc | apply pw_below_drewN | apply below_drew1) | exact HB.out)⟩
   ·replace c5 := Bool.eq_false_iff.mpr c5
    subst c5
    have H1 : ((aes_Encrypt.f a0 a1).bind fun bt506 => ((clavigerref09_Encrypt.f kj2 a0 a1).bind fun bt508 => ((aes_Decrypt.f a0 a1).bind fun bt510 => ((clavigerref09_Decrypt.f kj2 a0 a1).bind fun bt512 => (if bt506.1.toList = bt508.1.toList then (if bt506.2 = bt508.2 then (if bt510.1.toList = bt512.1.toList then (if bt510.2 = bt512.2 then ((clavigerlaw09_awake.f).bind fun t514 => (some t514)) else (some false)) else (some false)) else (some false)) else (some false)))))) = some r := by rw [if_neg (show ¬ (false = true) by decide)] at H; exact H
    clear H
    have H := H1
    clear H1
    replace H := Option.bind_eq_some_iff.mp H
    obtain ⟨⟨t506, t507⟩, A80, H⟩ := H
    replace H : ((clavigerref09_Encrypt.f kj2 a0 a1).bind fun bt508 => ((aes_Decrypt.f a0 a1).bind fun bt510 => ((clavigerref09_Decrypt.f kj2 a0 a1).bind fun bt512 => (if t506.toList = bt508.1.toList then (if t507 = bt508.2 then (if bt510.1.toList = bt512.1.toList then (if bt510.2 = bt512.2 then ((clavigerlaw09_awake.f).bind fun t514 => (some t514)) else (some false)) else (some false)) else (some false)) else (some false))))) = some r := H
    have A8 := Aside0.mk A80
    clear A80
    replace H := Option.bind_eq_some_iff.mp H
    obtain ⟨⟨t508, t509⟩, A90, H⟩ := H
    replace H : ((aes_Decrypt.f a0 a1).bind fun bt510 => ((clavigerref09_Decrypt.f kj2 a0 a1).bind fun bt512 => (if t506.toList = t508.toList then (if t507 = t509 then (if bt510.1.toList = bt512.1.toList then (if bt510.2 = bt512.2 then ((clavigerlaw09_awake.f).bind fun t514 => (some t514)) else (some false)) else (some false)) else (some false)) else (some false)))) = some r := H
    have A9 := Aside0.mk A90
    clear A90
    replace H := Option.bind_eq_some_iff.mp H
    obtain ⟨⟨t510, t511⟩, A100, H⟩ := H
    replace H : ((clavigerref09_Decrypt.f kj2 a0 a1).bind fun bt512 => (if t506.toList = t508.toList then (if t507 = t509 then (if t510.toList = bt512.1.toList then (if t511 = bt512.2 then ((clavigerlaw09_awake.f).bind fun t514 => (some t514)) else (some false)) else (some false)) else (some false)) else (some false))) = some r := H
    have A10 := Aside0.mk A100
    clear A100
    replace H := Option.bind_eq_some_iff.mp H
    obtain ⟨⟨t512, t513⟩, A110, H⟩ := H
    replace H : (if t506.toList = t508.toList then (if t507 = t509 then (if t510.toList = t512.toList then (if t511 = t513 then ((clavigerlaw09_awake.f).bind fun t514 => (some t514)) else (some false)) else (some false)) else (some false)) else (some false)) = some r := H
    have A11 := Aside0.mk A110
    clear A110
    by_cases c12 : t506.toList = t508.toList
    ·rw [if_pos c12] at H
     have c12b0 : (t506.toList == t508.toList) = true := beq_iff_eq.mpr c12
     have c12b1 : (t506.toList != t508.toList) = false := bne_eq_false_iff_eq.mpr c12
     clear c12
     by_cases c13 : t507 = t509
     ·rw [if_pos c13] at H
      have c13b0 : (t507 == t509) = true := beq_iff_eq.mpr c13
      have c13b1 : (t507 != t509) = false := bne_eq_false_iff_eq.mpr c13
      clear c13
      by_cases c14 : t510.toList = t512.toList
      ·rw [if_pos c14] at H
       have c14b0 : (t510.toList == t512.toList) = true := beq_iff_eq.mpr c14
       have c14b1 : (t510.toList != t512.toList) = false := bne_eq_false_iff_eq.mpr c14
       clear c14
       by_cases c15 : t511 = t513
       ·rw [if_pos c15] at H
        have c15b0 : (t511 == t513) = true := beq_iff_eq.mpr c15
        have c15b1 : (t511 != t513) = false := bne_eq_false_iff_eq.mpr c15
        clear c15
        replace H := Option.bind_eq_some_iff.mp H
        obtain ⟨t514, A160, H⟩ := H
        replace H : (some t514) = some r := H
        have A16 := Aside0.mk A160
        clear A160
        obtain rfl := Option.some.inj H
        go_wp2_with (first | ((with_reducible refine gate_callee (f := 98) rfl ?_); refine goesL_ (some 25) rfl rfl Try.func98 (by kernel_rfl) rfl #[.string a0, .string a1] rfl (by (try simp only [List.map_toArray, List.map_cons, List.map_nil]); first | done | rfl | (simp only [List.length_drop, List.length_take]; rfl) | (simp only [ByteArray.size_extract, Nat.min_self, Nat.sub_zero, ByteArray.size_append]; first | done | rfl)) ?_; (with_reducible refine (aes_Encrypt.calls a0 a1 t506 t507 _ A8.out).mono ?_); rintro e w17 ⟨rfl, hb⟩; refine ⟨_, rfl, ?_⟩; have n0_ := Aside0.mk (below_step (by repeat (first | (with_reducible first | exact HB.out | apply below_alloc | apply pw_below_drewN | apply below_drew1) | exact HB.out)) hb); clear HB; have HB := n0_; clear n0_; (try clear hb); (try clear hb2); (try clear hk); (try clear hi)) | ((with_reducible refine gate_callee (f := 99) rfl ?_); refine goesL_ (some 31) rfl rfl Try.func99 (by kernel_rfl) rfl #[.string a0, .string a1] rfl (by (try simp only [List.map_toArray, List.map_cons, List.map_nil]); first | done | rfl | (simp only [List.length_drop, List.length_take]; rfl) | (simp only [ByteArray.size_extract, Nat.min_self, Nat.sub_zero, ByteArray.size_append]; first | done | rfl)) ?_; (with_reducible refine (clavigerref09_Encrypt.calls kj2 a0 a1 t508 t509 _ A9.out).mono ?_); rintro e w18 ⟨rfl, hb⟩; refine ⟨_, rfl, ?_⟩; have n0_ := Aside0.mk (below_step (by repeat (first | (with_reducible first | exact HB.out | apply below_alloc | apply pw_below_drewN | apply below_drew1) | exact HB.out)) hb); clear HB; have HB := n0_; clear n0_; (try clear hb); (try clear hb2); (try clear hk); (try clear hi)) | ((with_reducible refine gate_callee (f := 100) rfl ?_); refine goesL_ (some 37) rfl rfl Try.func100 (by kernel_rfl) rfl #[.string a0, .string a1] rfl (by (try simp only [List.map_toArray, List.map_cons, List.map_nil]); first | done | rfl | (simp only [List.length_drop, List.length_take]; rfl) | (simp only [ByteArray.size_extract, Nat.min_self, Nat.sub_zero, ByteArray.size_append]; first | done | rfl)) ?_; (with_reducible refine (aes_Decrypt.calls a0 a1 t510 t511 _ A10.out).mono ?_); rintro e w19 ⟨rfl, hb⟩; refine ⟨_, rfl, ?_⟩; have n0_ := Aside0.mk (below_step (by repeat (first | (with_reducible first | exact HB.out | apply below_alloc | apply pw_below_drewN | apply below_drew1) | exact HB.out)) hb); clear HB; have HB := n0_; clear n0_; (try clear hb); (try clear hb2); (try clear hk); (try clear hi)) | ((with_reducible refine gate_callee (f := 101) rfl ?_); refine goesL_ (some 43) rfl rfl Try.func101 (by kernel_rfl) rfl #[.string a0, .string a1] rfl (by (try simp only [List.map_toArray, List.map_cons, List.map_nil]); first | done | rfl | (simp only [List.length_drop, List.length_take]; rfl) | (simp only [ByteArray.size_extract, Nat.min_self, Nat.sub_zero, ByteArray.size_append]; first | done | rfl)) ?_; (with_reducible refine (clavigerref09_Decrypt.calls kj2 a0 a1 t512 t513 _ A11.out).mono ?_); rintro e w20 ⟨rfl, hb⟩; refine ⟨_, rfl, ?_⟩; have n0_ := Aside0.mk (below_step (by repeat (first | (with_reducible first | exact HB.out | apply below_alloc | apply pw_below_drewN | apply below_drew1) | exact HB.out)) hb); clear HB; have HB := n0_; clear n0_; (try clear hb); (try clear hb2); (try clear hk); (try clear hi)) | (go_at_call 97; (with_reducible refine (clavigerlaw09_awake.calls  t514 _ A16.out).mono ?_); rintro e w21 ⟨rfl, hb⟩; have n0_ := Aside0.mk (below_step (by repeat (first | (with_reducible first | exact HB.out | apply below_alloc | apply pw_below_drewN | apply below_drew1) | exact HB.out)) hb); clear HB; have HB := n0_; clear n0_; (try clear hb); (try clear hb2); (try clear hk); (try clear hi)))
        go_ret
        exact ⟨by first | rfl | (simp [errW_none, errW_some] <;> rfl) | (simp [*, errW_none, errW_some] <;> rfl), by repeat (first | (with_reducible first | exact HB.out | apply below_alloc | apply pw_below_drewN | apply below_drew1) | exact HB.out)⟩
       ·rw [if_neg c15] at H
        have c15b0 : (t511 == t513) = false := beq_eq_false_iff_ne.mpr c15
        have c15b1 : (t511 != t513) = true := bne_iff_ne.mpr c15
        obtain rfl := Option.some.inj H
        go_wp2_with (first | ((with_reducible refine gate_callee (f := 98) rfl ?_); refine goesL_ (some 25) rfl rfl Try.func98 (by kernel_rfl) rfl #[.string a0, .string a1] rfl (by (try simp only [List.map_toArray, List.map_cons, List.map_nil]); first | done | rfl | (simp only [List.length_drop, List.length_take]; rfl) | (simp only [ByteArray.size_extract, Nat.min_self, Nat.sub_zero, ByteArray.size_append]; first | done | rfl)) ?_; (with_reducible refine (aes_Encrypt.calls a0 a1 t506 t507 _ A8.out).mono ?_); rintro e w22 ⟨rfl, hb⟩; refine ⟨_, rfl, ?_⟩; have n0_ := Aside0.mk (below_step (by repeat (first | (with_reducible first | exact HB.out | apply below_alloc | apply pw_below_drewN | apply below_drew1) | exact HB.out)) hb); clear HB; have HB := n0_; clear n0_; (try clear hb); (try clear hb2); (try clear hk); (try clear hi)) | ((with_reducible refine gate_callee (f := 99) rfl ?_); refine goesL_ (some 31) rfl rfl Try.func99 (by kernel_rfl) rfl #[.string a0, .string a1] rfl (by (try simp only [List.map_toArray, List.map_cons, List.map_nil]); first | done | rfl | (simp only [List.length_drop, List.length_take]; rfl) | (simp only [ByteArray.size_extract, Nat.min_self, Nat.sub_zero, ByteArray.size_append]; first | done | rfl)) ?_; (with_reducible refine (clavigerref09_Encrypt.calls kj2 a0 a1 t508 t509 _ A9.out).mono ?_); rintro e w23 ⟨rfl, hb⟩; refine ⟨_, rfl, ?_⟩; have n0_ := Aside0.mk (below_step (by repeat (first | (with_reducible first | exact HB.out | apply below_alloc | apply pw_below_drewN | apply below_drew1) | exact HB.out)) hb); clear HB; have HB := n0_; clear n0_; (try clear hb); (try clear hb2); (try clear hk); (try clear hi)) | ((with_reducible refine gate_callee (f := 100) rfl ?_); refine goesL_ (some 37) rfl rfl Try.func100 (by kernel_rfl) rfl #[.string a0, .string a1] rfl (by (try simp only [List.map_toArray, List.map_cons, List.map_nil]); first | done | rfl | (simp only [List.length_drop, List.length_take]; rfl) | (simp only [ByteArray.size_extract, Nat.min_self, Nat.sub_zero, ByteArray.size_append]; first | done | rfl)) ?_; (with_reducible refine (aes_Decrypt.calls a0 a1 t510 t511 _ A10.out).mono ?_); rintro e w24 ⟨rfl, hb⟩; refine ⟨_, rfl, ?_⟩; have n0_ := Aside0.mk (below_step (by repeat (first | (with_reducible first | exact HB.out | apply below_alloc | apply pw_below_drewN | apply below_drew1) | exact HB.out)) hb); clear HB; have HB := n0_; clear n0_; (try clear hb); (try clear hb2); (try clear hk); (try clear hi)) | ((with_reducible refine gate_callee (f := 101) rfl ?_); refine goesL_ (some 43) rfl rfl Try.func101 (by kernel_rfl) rfl #[.string a0, .string a1] rfl (by (try simp only [List.map_toArray, List.map_cons, List.map_nil]); first | done | rfl | (simp only [List.length_drop, List.length_take]; rfl) | (simp only [ByteArray.size_extract, Nat.min_self, Nat.sub_zero, ByteArray.size_append]; first | done | rfl)) ?_; (with_reducible refine (clavigerref09_Decrypt.calls kj2 a0 a1 t512 t513 _ A11.out).mono ?_); rintro e w25 ⟨rfl, hb⟩; refine ⟨_, rfl, ?_⟩; have n0_ := Aside0.mk (below_step (by repeat (first | (with_reducible first | exact HB.out | apply below_alloc | apply pw_below_drewN | apply below_drew1) | exact HB.out)) hb); clear HB; have HB := n0_; clear n0_; (try clear hb); (try clear hb2); (try clear hk); (try clear hi)))
        go_ret
        exact ⟨by first | rfl | (simp [errW_none, errW_some] <;> rfl) | (simp [*, errW_none, errW_some] <;> rfl), by repeat (first | (with_reducible first | exact HB.out | apply below_alloc | apply pw_below_drewN | apply below_drew1) | exact HB.out)⟩
      ·rw [if_neg c14] at H
       have c14b0 : (t510.toList == t512.toList) = false := beq_eq_false_iff_ne.mpr c14
       have c14b1 : (t510.toList != t512.toList) = true := bne_iff_ne.mpr c14
       obtain rfl := Option.some.inj H
       go_wp2_with (first | ((with_reducible refine gate_callee (f := 98) rfl ?_); refine goesL_ (some 25) rfl rfl Try.func98 (by kernel_rfl) rfl #[.string a0, .string a1] rfl (by (try simp only [List.map_toArray, List.map_cons, List.map_nil]); first | done | rfl | (simp only [List.length_drop, List.length_take]; rfl) | (simp only [ByteArray.size_extract, Nat.min_self, Nat.sub_zero, ByteArray.size_append]; first | done | rfl)) ?_; (with_reducible refine (aes_Encrypt.calls a0 a1 t506 t507 _ A8.out).mono ?_); rintro e w26 ⟨rfl, hb⟩; refine ⟨_, rfl, ?_⟩; have n0_ := Aside0.mk (below_step (by repeat (first | (with_reducible first | exact HB.out | apply below_alloc | apply pw_below_drewN | apply below_drew1) | exact HB.out)) hb); clear HB; have HB := n0_; clear n0_; (try clear hb); (try clear hb2); (try clear hk); (try clear hi)) | ((with_reducible refine gate_callee (f := 99) rfl ?_); refine goesL_ (some 31) rfl rfl Try.func99 (by kernel_rfl) rfl #[.string a0, .string a1] rfl (by (try simp only [List.map_toArray, List.map_cons, List.map_nil]); first | done | rfl | (simp only [List.length_drop, List.length_take]; rfl) | (simp only [ByteArray.size_extract, Nat.min_self, Nat.sub_zero, ByteArray.size_append]; first | done | rfl)) ?_; (with_reducible refine (clavigerref09_Encrypt.calls kj2 a0 a1 t508 t509 _ A9.out).mono ?_); rintro e w27 ⟨rfl, hb⟩; refine ⟨_, rfl, ?_⟩; have n0_ := Aside0.mk (below_step (by repeat (first | (with_reducible first | exact HB.out | apply below_alloc | apply pw_below_drewN | apply below_drew1) | exact HB.out)) hb); clear HB; have HB := n0_; clear n0_; (try clear hb); (try clear hb2); (try clear hk); (try clear hi)) | ((with_reducible refine gate_callee (f := 100) rfl ?_); refine goesL_ (some 37) rfl rfl Try.func100 (by kernel_rfl) rfl #[.string a0, .string a1] rfl (by (try simp only [List.map_toArray, List.map_cons, List.map_nil]); first | done | rfl | (simp only [List.length_drop, List.length_take]; rfl) | (simp only [ByteArray.size_extract, Nat.min_self, Nat.sub_zero, ByteArray.size_append]; first | done | rfl)) ?_; (with_reducible refine (aes_Decrypt.calls a0 a1 t510 t511 _ A10.out).mono ?_); rintro e w28 ⟨rfl, hb⟩; refine ⟨_, rfl, ?_⟩; have n0_ := Aside0.mk (below_step (by repeat (first | (with_reducible first | exact HB.out | apply below_alloc | apply pw_below_drewN | apply below_drew1) | exact HB.out)) hb); clear HB; have HB := n0_; clear n0_; (try clear hb); (try clear hb2); (try clear hk); (try clear hi)) | ((with_reducible refine gate_callee (f := 101) rfl ?_); refine goesL_ (some 43) rfl rfl Try.func101 (by kernel_rfl) rfl #[.string a0, .string a1] rfl (by (try simp only [List.map_toArray, List.map_cons, List.map_nil]); first | done | rfl | (simp only [List.length_drop, List.length_take]; rfl) | (simp only [ByteArray.size_extract, Nat.min_self, Nat.sub_zero, ByteArray.size_append]; first | done | rfl)) ?_; (with_reducible refine (clavigerref09_Decrypt.calls kj2 a0 a1 t512 t513 _ A11.out).mono ?_); rintro e w29 ⟨rfl, hb⟩; refine ⟨_, rfl, ?_⟩; have n0_ := Aside0.mk (below_step (by repeat (first | (with_reducible first | exact HB.out | apply below_alloc | apply pw_below_drewN | apply below_drew1) | exact HB.out)) hb); clear HB; have HB := n0_; clear n0_; (try clear hb); (try clear hb2); (try clear hk); (try clear hi)))
       go_ret
       exact ⟨by first | rfl | (simp [errW_none, errW_some] <;> rfl) | (simp [*, errW_none, errW_some] <;> rfl), by repeat (first | (with_reducible first | exact HB.out | apply below_alloc | apply pw_below_drewN | apply below_drew1) | exact HB.out)⟩
     ·rw [if_neg c13] at H
      have c13b0 : (t507 == t509) = false := beq_eq_false_iff_ne.mpr c13
      have c13b1 : (t507 != t509) = true := bne_iff_ne.mpr c13
      obtain rfl := Option.some.inj H
      go_wp2_with (first | ((with_reducible refine gate_callee (f := 98) rfl ?_); refine goesL_ (some 25) rfl rfl Try.func98 (by kernel_rfl) rfl #[.string a0, .string a1] rfl (by (try simp only [List.map_toArray, List.map_cons, List.map_nil]); first | done | rfl | (simp only [List.length_drop, List.length_take]; rfl) | (simp only [ByteArray.size_extract, Nat.min_self, Nat.sub_zero, ByteArray.size_append]; first | done | rfl)) ?_; (with_reducible refine (aes_Encrypt.calls a0 a1 t506 t507 _ A8.out).mono ?_); rintro e w30 ⟨rfl, hb⟩; refine ⟨_, rfl, ?_⟩; have n0_ := Aside0.mk (below_step (by repeat (first | (with_reducible first | exact HB.out | apply below_alloc | apply pw_below_drewN | apply below_drew1) | exact HB.out)) hb); clear HB; have HB := n0_; clear n0_; (try clear hb); (try clear hb2); (try clear hk); (try clear hi)) | ((with_reducible refine gate_callee (f := 99) rfl ?_); refine goesL_ (some 31) rfl rfl Try.func99 (by kernel_rfl) rfl #[.string a0, .string a1] rfl (by (try simp only [List.map_toArray, List.map_cons, List.map_nil]); first | done | rfl | (simp only [List.length_drop, List.length_take]; rfl) | (simp only [ByteArray.size_extract, Nat.min_self, Nat.sub_zero, ByteArray.size_append]; first | done | rfl)) ?_; (with_reducible refine (clavigerref09_Encrypt.calls kj2 a0 a1 t508 t509 _ A9.out).mono ?_); rintro e w31 ⟨rfl, hb⟩; refine ⟨_, rfl, ?_⟩; have n0_ := Aside0.mk (below_step (by repeat (first | (with_reducible first | exact HB.out | apply below_alloc | apply pw_below_drewN | apply below_drew1) | exact HB.out)) hb); clear HB; have HB := n0_; clear n0_; (try clear hb); (try clear hb2); (try clear hk); (try clear hi)) | ((with_reducible refine gate_callee (f := 100) rfl ?_); refine goesL_ (some 37) rfl rfl Try.func100 (by kernel_rfl) rfl #[.string a0, .string a1] rfl (by (try simp only [List.map_toArray, List.map_cons, List.map_nil]); first | done | rfl | (simp only [List.length_drop, List.length_take]; rfl) | (simp only [ByteArray.size_extract, Nat.min_self, Nat.sub_zero, ByteArray.size_append]; first | done | rfl)) ?_; (with_reducible refine (aes_Decrypt.calls a0 a1 t510 t511 _ A10.out).mono ?_); rintro e w32 ⟨rfl, hb⟩; refine ⟨_, rfl, ?_⟩; have n0_ := Aside0.mk (below_step (by repeat (first | (with_reducible first | exact HB.out | apply below_alloc | apply pw_below_drewN | apply below_drew1) | exact HB.out)) hb); clear HB; have HB := n0_; clear n0_; (try clear hb); (try clear hb2); (try clear hk); (try clear hi)) | ((with_reducible refine gate_callee (f := 101) rfl ?_); refine goesL_ (some 43) rfl rfl Try.func101 (by kernel_rfl) rfl #[.string a0, .string a1] rfl (by (try simp only [List.map_toArray, List.map_cons, List.map_nil]); first | done | rfl | (simp only [List.length_drop, List.length_take]; rfl) | (simp only [ByteArray.size_extract, Nat.min_self, Nat.sub_zero, ByteArray.size_append]; first | done | rfl)) ?_; (with_reducible refine (clavigerref09_Decrypt.calls kj2 a0 a1 t512 t513 _ A11.out).mono ?_); rintro e w33 ⟨rfl, hb⟩; refine ⟨_, rfl, ?_⟩; have n0_ := Aside0.mk (below_step (by repeat (first | (with_reducible first | exact HB.out | apply below_alloc | apply pw_below_drewN | apply below_drew1) | exact HB.out)) hb); clear HB; have HB := n0_; clear n0_; (try clear hb); (try clear hb2); (try clear hk); (try clear hi)))
      go_ret
      exact ⟨by first | rfl | (simp [errW_none, errW_some] <;> rfl) | (simp [*, errW_none, errW_some] <;> rfl), by repeat (first | (with_reducible first | exact HB.out | apply below_alloc | apply pw_below_drewN | apply below_drew1) | exact HB.out)⟩
    ·rw [if_neg c12] at H
     have c12b0 : (t506.toList == t508.toList) = false := beq_eq_false_iff_ne.mpr c12
     have c12b1 : (t506.toList != t508.toList) = true := bne_iff_ne.mpr c12
     obtain rfl := Option.some.inj H
     go_wp2_with (first | ((with_reducible refine gate_callee (f := 98) rfl ?_); refine goesL_ (some 25) rfl rfl Try.func98 (by kernel_rfl) rfl #[.string a0, .string a1] rfl (by (try simp only [List.map_toArray, List.map_cons, List.map_nil]); first | done | rfl | (simp only [List.length_drop, List.length_take]; rfl) | (simp only [ByteArray.size_extract, Nat.min_self, Nat.sub_zero, ByteArray.size_append]; first | done | rfl)) ?_; (with_reducible refine (aes_Encrypt.calls a0 a1 t506 t507 _ A8.out).mono ?_); rintro e w34 ⟨rfl, hb⟩; refine ⟨_, rfl, ?_⟩; have n0_ := Aside0.mk (below_step (by repeat (first | (with_reducible first | exact HB.out | apply below_alloc | apply pw_below_drewN | apply below_drew1) | exact HB.out)) hb); clear HB; have HB := n0_; clear n0_; (try clear hb); (try clear hb2); (try clear hk); (try clear hi)) | ((with_reducible refine gate_callee (f := 99) rfl ?_); refine goesL_ (some 31) rfl rfl Try.func99 (by kernel_rfl) rfl #[.string a0, .string a1] rfl (by (try simp only [List.map_toArray, List.map_cons, List.map_nil]); first | done | rfl | (simp only [List.length_drop, List.length_take]; rfl) | (simp only [ByteArray.size_extract, Nat.min_self, Nat.sub_zero, ByteArray.size_append]; first | done | rfl)) ?_; (with_reducible refine (clavigerref09_Encrypt.calls kj2 a0 a1 t508 t509 _ A9.out).mono ?_); rintro e w35 ⟨rfl, hb⟩; refine ⟨_, rfl, ?_⟩; have n0_ := Aside0.mk (below_step (by repeat (first | (with_reducible first | exact HB.out | apply below_alloc | apply pw_below_drewN | apply below_drew1) | exact HB.out)) hb); clear HB; have HB := n0_; clear n0_; (try clear hb); (try clear hb2); (try clear hk); (try clear hi)) | ((with_reducible refine gate_callee (f := 100) rfl ?_); refine goesL_ (some 37) rfl rfl Try.func100 (by kernel_rfl) rfl #[.string a0, .string a1] rfl (by (try simp only [List.map_toArray, List.map_cons, List.map_nil]); first | done | rfl | (simp only [List.length_drop, List.length_take]; rfl) | (simp only [ByteArray.size_extract, Nat.min_self, Nat.sub_zero, ByteArray.size_append]; first | done | rfl)) ?_; (with_reducible refine (aes_Decrypt.calls a0 a1 t510 t511 _ A10.out).mono ?_); rintro e w36 ⟨rfl, hb⟩; refine ⟨_, rfl, ?_⟩; have n0_ := Aside0.mk (below_step (by repeat (first | (with_reducible first | exact HB.out | apply below_alloc | apply pw_below_drewN | apply below_drew1) | exact HB.out)) hb); clear HB; have HB := n0_; clear n0_; (try clear hb); (try clear hb2); (try clear hk); (try clear hi)) | ((with_reducible refine gate_callee (f := 101) rfl ?_); refine goesL_ (some 43) rfl rfl Try.func101 (by kernel_rfl) rfl #[.string a0, .string a1] rfl (by (try simp only [List.map_toArray, List.map_cons, List.map_nil]); first | done | rfl | (simp only [List.length_drop, List.length_take]; rfl) | (simp only [ByteArray.size_extract, Nat.min_self, Nat.sub_zero, ByteArray.size_append]; first | done | rfl)) ?_; (with_reducible refine (clavigerref09_Decrypt.calls kj2 a0 a1 t512 t513 _ A11.out).mono ?_); rintro e w37 ⟨rfl, hb⟩; refine ⟨_, rfl, ?_⟩; have n0_ := Aside0.mk (below_step (by repeat (first | (with_reducible first | exact HB.out | apply below_alloc | apply pw_below_drewN | apply below_drew1) | exact HB.out)) hb); clear HB; have HB := n0_; clear n0_; (try clear hb); (try clear hb2); (try clear hk); (try clear hi)))
     go_ret
     exact ⟨by first | rfl | (simp [errW_none, errW_some] <;> rfl) | (simp [*, errW_none, errW_some] <;> rfl), by repeat (first | (with_reducible first | exact HB.out | apply below_alloc | apply pw_below_drewN | apply below_drew1) | exact HB.out)⟩

/-- THE ONE PURE STATEMENT of clavigerlaw09_AesTells: yours. -/
def clavigerlaw09_AesTells.Pure : Prop := ∀ (a0 : ByteArray) (a1 : ByteArray), a0.size ≤ 140737488351232 → a1.size ≤ 140737488351232 → ∃ k, clavigerlaw09_AesTells.f k a0 a1 = some true
theorem clavigerlaw09_AesTells.walk (P : clavigerlaw09_AesTells.Pure) (a0 : ByteArray) (a1 : ByteArray) (w : World) (w0 : a0.size ≤ 140737488351232) (w1 : a1.size ≤ 140737488351232) :
  Calls Try.prog 16 #[.string a0, .string a1] w fun e w' => e = .returned (.bool true) ∧ Below w.heap.size w w' := by
 obtain ⟨k, h⟩ := P a0 a1 w0 w1
 refine (clavigerlaw09_AesTells.calls k a0 a1 true w h).mono ?_
 rintro e w' ⟨rfl, hd⟩
 exact ⟨rfl, hd⟩

end Go.Proofs.Ytokkhnjedmlbhaa.Pr
end
section
namespace Go.Proofs.Ytokkhnjedmlbhaa.M
open Go.RowKit Go.Proofs.Ytokkhnjedmlbhaa.Pr Go.Proofs.YtokkhnjedmlbhaaW.PrintWords Go.Proofs.YtokkhnjedmlbhaaW.PrintLast Go.Proofs.YtokkhnjedmlbhaaW.PrintMore Go.Proofs.YtokkhnjedmlbhaaGf
set_option linter.unusedSimpArgs false
/-- A number, written out ahead of what is made of it. -/
def fN {α : Type} (n : Nat) (f : Nat → α) : α := match n with
  | 0 => f 0
  | m + 1 => f (m + 1)
theorem fN_eq {α : Type} (n : Nat) (f : Nat → α) : fN n f = f n := by cases n <;> rfl
def fL {α : Type} : List Nat → (List Nat → α) → α
  | [], f => f []
  | a :: l, f => fN a fun a => fL l fun l => f (a :: l)
theorem fL_eq {α : Type} : ∀ (l : List Nat) (f : List Nat → α), fL l f = f l
  | [], _ => rfl
  | a :: l, f => by simp only [fL]; rw [fN_eq, fL_eq l]
def lf (l : List Nat) : Nat → Nat := fun i => l.getD i 0
theorem lf_lt {l : List Nat} (h : isB l) (i : Nat) : lf l i < 256 := isB_get h i
theorem lf_rng (g : Nat → Nat) (q : Nat) (hq : q < 16) : lf ((List.range 16).map g) q = g q := by simp [lf, hq]
theorem lf_T {l : List Nat} (hl : l.length = 16) : T (lf l) = mkB l := by
  unfold T
  congr 1
  apply List.ext_getElem (by simp [hl])
  intro i h1 h2
  simp [lf, h2]
theorem nb_T {g : Nat → Nat} (h : ∀ i, g i < 256) : nb (T g) = (List.range 16).map g := nb_mkB (isB_map h _)
def stepF {α : Type} (l k : List Nat) (last : Bool) (c : List Nat → α) : α :=
  fL ((List.range 16).map (F1 (lf l))) fun m => bif last then fL ((List.range 16).map fun q => lf m q ^^^ lf k q) c else fL ((List.range 16).map fun q => MX (lf m) q ^^^ lf k q) c
theorem stepF_eq {α : Type} {l k : List Nat} (hl : isB l) (hk : isB k) (hl2 : l.length = 16) (hk2 : k.length = 16) (last : Bool) (c : List Nat → α) : stepF l k last c = c (nb (doT (mkB l) (mkB k) last)) := by
  have hks : (mkB k).size = 16 := by rw [mkB_size, hk2]
  have e : ∀ q, bb (mkB k) q = lf k q := fun q => bb_mkB hk q
  unfold stepF
  rw [fL_eq, ← lf_T hl2]
  cases last
  · rw [do_mid (lf_lt hl) hks, cond_false, fL_eq, nb_T (fun i => xor_lt (MX_lt (F1_lt _) _) (bb_lt _ _))]
    congr 1
    refine List.map_congr_left (fun q hq => ?_)
    have hq := List.mem_range.1 hq
    rw [e, MX_congr (fun i hi => lf_rng (F1 (lf l)) i hi) hq]
  · rw [do_last (lf_lt hl) hks, cond_true, fL_eq, nb_T (fun i => xor_lt (F1_lt _ _) (bb_lt _ _))]
    congr 1
    refine List.map_congr_left (fun q hq => ?_)
    have hq := List.mem_range.1 hq
    rw [e, lf_rng _ q hq]
def fwdF {α : Type} : List (List Nat) → List Nat → (List Nat → α) → α
  | [], l, c => c l
  | k :: ks, l, c => stepF l k ks.isEmpty fun l => fwdF ks l c
def ok16 (k : List Nat) : Prop := isB k ∧ k.length = 16
theorem fwdF_eq {α : Type} : ∀ (ks : List (List Nat)) (l : List Nat) (c : List Nat → α), (∀ k ∈ ks, ok16 k) → ok16 l → fwdF ks l c = c (nb (fwd (ks.map mkB) (mkB l)))
  | [], l, c, _, hl => by simp only [fwdF, fwd, List.map_nil]; rw [nb_mkB hl.1]
  | k :: ks, l, c, h, hl => by
    have hk := h k (by simp)
    have hd : ok16 (nb (doT (mkB l) (mkB k) ks.isEmpty)) := ⟨isB_nb _, by rw [nb_length]; exact do_size (by rw [mkB_size, hl.2]) (by rw [mkB_size, hk.2]) _⟩
    simp only [fwdF, fwd, List.map_cons]
    rw [stepF_eq hl.1 hk.1 hl.2 hk.2, fwdF_eq ks _ c (fun x hx => h x (by simp [hx])) hd, mkB_nb, List.isEmpty_map]
def encF {α : Type} (ks : List (List Nat)) (l : List Nat) (c : List Nat → α) : α := match ks with
  | [] => c l
  | k :: ks => fL ((List.range 16).map fun q => lf l q ^^^ lf k q) fun l => fwdF ks l c
theorem encF_eq {α : Type} (ks : List (List Nat)) (l : List Nat) (c : List Nat → α) (h : ∀ k ∈ ks, ok16 k) (hl : ok16 l) : encF ks l c = c (nb (encT (ks.map mkB) (mkB l))) := by
  cases ks with
  | nil => simp only [encF, encT, List.map_nil]; rw [nb_mkB hl.1]
  | cons k ks =>
    have hk := h k (by simp)
    have e : kyT (mkB l) (mkB k) = mkB ((List.range 16).map fun q => lf l q ^^^ lf k q) := by
      rw [ky_16 (by rw [mkB_size, hl.2]) (by rw [mkB_size, hk.2])]
      unfold T
      congr 1
      exact List.map_congr_left (fun q _ => by rw [bb_mkB hl.1, bb_mkB hk.1]; rfl)
    simp only [encF, encT, List.map_cons]
    rw [fL_eq, fwdF_eq ks _ c (fun x hx => h x (by simp [hx])) ⟨isB_map (fun a => xor_lt (lf_lt hl.1 a) (lf_lt hk.1 a)) _, by simp⟩, e]
def goR {α : Type} (n : Nat) : Nat → Nat → List (List Nat) → (List (List Nat) → α) → α
  | 0, _, ws, c => c ws
  | d + 1, i, ws, c => fL (nb (stepB n i (mkB (ws.getD (n - 1) [])) (mkB (ws.getD 0 [])))) fun w => goR n d (i + 1) (w :: ws) c
theorem getD_rev (l : List (List Nat)) (j i : Nat) (hi : l.length = i) (hj : j < i) : mkB (l.getD j []) = (l.reverse.map mkB).getD (i - 1 - j) ByteArray.empty := by
  have h1 : j < l.length := by omega
  have h2 : l.length - 1 - j < l.reverse.length := by rw [List.length_reverse]; omega
  subst hi
  rw [List.getD_eq_getElem?_getD, List.getD_eq_getElem?_getD, List.getElem?_map, List.getElem?_eq_getElem h1, List.getElem?_eq_getElem h2]
  simp only [Option.getD_some, Option.map_some]
  rw [List.getElem_reverse]
  congr 2
  omega
theorem goR_eq {α : Type} (n : Nat) (hn : 0 < n) : ∀ (d i : Nat) (ws : List (List Nat)) (c : List (List Nat) → α), ws.length = i → n ≤ i → ∃ vs, goR n d i ws c = c vs ∧ vs.reverse.map mkB = goB n d i (ws.reverse.map mkB) ∧ ((∀ v ∈ ws, isB v) → ∀ v ∈ vs, isB v)
  | 0, _, ws, c, _, _ => ⟨ws, rfl, rfl, id⟩
  | d + 1, i, ws, c, hl, hi => by
    simp only [goR, goB]
    rw [fL_eq, getD_rev ws (n - 1) i hl (by omega), getD_rev ws 0 i hl (by omega), show i - 1 - (n - 1) = i - n by omega, show i - 1 - 0 = i - 1 by omega]
    obtain ⟨vs, h1, h2, h3⟩ := goR_eq n hn d (i + 1) (nb (stepB n i ((ws.reverse.map mkB).getD (i - n) ByteArray.empty) ((ws.reverse.map mkB).getD (i - 1) ByteArray.empty)) :: ws) c (by simp [hl]) (by omega)
    refine ⟨vs, h1, ?_, fun h => h3 (fun v hv => ?_)⟩
    · rw [h2, List.reverse_cons, List.map_append, List.map_singleton, mkB_nb]
    · rcases List.mem_cons.1 hv with rfl | hv
      · exact isB_nb _
      · exact h v hv
def quadL : List (List Nat) → List (List Nat)
  | a :: b :: c :: d :: l => (a ++ (b ++ (c ++ d))) :: quadL l
  | _ => []
theorem quadL_eq : ∀ l : List (List Nat), (quadL l).map mkB = quads (l.map mkB)
  | a :: b :: c :: d :: l => by simp only [quadL, quads, List.map_cons]; rw [quadL_eq l, mkB_append, mkB_append, mkB_append]
  | [] => rfl
  | [_] => rfl
  | [_, _] => rfl
  | [_, _, _] => rfl
/-- A key's words as lists, the last one first. -/
def fourL : List Nat → List (List Nat)
  | a :: b :: c :: d :: l => [a, b, c, d] :: fourL l
  | _ => []
def keysF {α : Type} (n : Nat) (key : List Nat) (c : List (List Nat) → α) : α := goR n (3 * n + 28) n (fourL key).reverse fun ws => c (quadL ws.reverse)
theorem keysF_eq {α : Type} (n : Nat) (hn : n = 4 ∨ n = 6 ∨ n = 8) (key : List Nat) (hkl : key.length = 4 * n) (hf : (fourL key).map mkB = pcs 4 n (mkB key)) (hf2 : ∀ v ∈ fourL key, isB v) (c : List (List Nat) → α) :
    ∃ ks, keysF n key c = c ks ∧ ks.map mkB = ksB (mkB key) ∧ ∀ k ∈ ks, ok16 k := by
  have hs : (mkB key).size = 4 * n := by rw [mkB_size, hkl]
  have hok : okN (mkB key).size := by unfold okN; omega
  have hl : (fourL key).length = n := by have := congrArg List.length hf; rw [List.length_map, pcs_length] at this; exact this
  obtain ⟨vs, h1, h2, h3⟩ := goR_eq n (by omega) (3 * n + 28) n (fourL key).reverse (fun ws => c (quadL ws.reverse)) (by simp [hl]) (Nat.le_refl _)
  have e : (quadL vs.reverse).map mkB = ksB (mkB key) := by
    rw [quadL_eq, h2, List.reverse_reverse, hf]
    unfold ksB wordsB
    rw [hs, show 4 * n / 4 = n by omega]
  have hb := h3 (fun v hv => hf2 v (List.mem_reverse.1 hv))
  refine ⟨_, h1, e, fun k hk => ?_⟩
  have ha := (ks_facts hok).2.1
  rw [← e] at ha
  have hz := ha (mkB k) (List.mem_map_of_mem hk)
  rw [mkB_size] at hz
  refine ⟨?_, hz⟩
  have : ∀ l : List (List Nat), (∀ v ∈ l, isB v) → ∀ k ∈ quadL l, isB k := by
    intro l
    induction l using quadL.induct with
    | case1 a b c d l ih =>
      intro h k hk
      rcases List.mem_cons.1 hk with rfl | hk
      · exact isB_append.2 ⟨h a (by simp), isB_append.2 ⟨h b (by simp), isB_append.2 ⟨h c (by simp), h d (by simp)⟩⟩⟩
      · exact ih (fun v hv => h v (by simp [hv])) k hk
    | case2 t h => intro _ k hk; rw [quadL] at hk; cases hk; exact h
  exact this _ (fun v hv => hb v (List.mem_reverse.1 hv)) k hk
end Go.Proofs.Ytokkhnjedmlbhaa.M
end
section
namespace Go.Proofs.Ytokkhnjedmlbhaa.M
open Go.RowKit Go.Proofs.Ytokkhnjedmlbhaa.Pr Go.Proofs.YtokkhnjedmlbhaaW.PrintWords Go.Proofs.YtokkhnjedmlbhaaW.PrintLast Go.Proofs.YtokkhnjedmlbhaaW.PrintMore Go.Proofs.YtokkhnjedmlbhaaGf
set_option linter.unusedSimpArgs false
def okX (f : ByteArray → ByteArray) (s : ByteArray) : ByteArray × Int := if s.size = 16 then (f s, 0) else (⟨#[]⟩, 4)
/-- A block, encrypted; decrypted; or why not. -/
def encX (key s : ByteArray) : ByteArray × Int := if okN key.size then okX (encT (ksB key)) s else (⟨#[]⟩, 2)
def decX (key s : ByteArray) : ByteArray × Int := if okN key.size then okX (decT (ksB key)) s else (⟨#[]⟩, 2)
theorem dropB {ks : List ByteArray} {i : Nat} (h : i < ks.length) : ks.drop i = ks.getD i ByteArray.empty :: ks.drop (i + 1) := by
  rw [List.drop_eq_getElem_cons h]
  simp [List.getD_eq_getElem?_getD, h]
theorem last_i (ks : List ByteArray) (i : Nat) (h : i < ks.length) (hb : ks.length ≤ 100) : (((i : Nat) : Int) == wrap64 ((ks.length : Int) - 1)) = (ks.drop (i + 1)).isEmpty := by
  rw [wrap_id (by omega) (by omega)]
  by_cases e : i + 1 = ks.length
  · rw [List.drop_of_length_le (by omega)]
    exact beq_iff_eq.mpr (by omega)
  · rw [dropB (show i + 1 < ks.length by omega)]
    exact beq_eq_false_iff_ne.mpr (by omega)
theorem rfwdL (ks : List ByteArray) (hb : ks.length ≤ 100) (d : Nat) : ∀ (i : Nat) (s : ByteArray), ks.length - i = d → i ≤ ks.length → Ev (fun k => clavigerref09_forward.l0 k ks s (i : Int)) (fwd (ks.drop i) s) := by
  induction d with
  | zero =>
    intro i s hd hi
    rw [List.drop_of_length_le (by omega)]
    refine Ev.step (f := fun _ => some s) (fun k => ?_) (Ev.now _)
    simp only [clavigerref09_forward.l0]
    rw [if_neg (by omega)]
  | succ d ih =>
    intro i s hd hi
    rw [dropB (show i < ks.length by omega)]
    refine Ev.step (f := fun k => (clavigerref07_Do.f k s (ks.getD i ByteArray.empty) ((ks.drop (i + 1)).isEmpty)).bind fun t269 => clavigerref09_forward.l0 k ks t269 ((i + 1 : Nat) : Int)) (fun k => ?_) ?_
    · simp only [clavigerref09_forward.l0]
      rw [if_pos (by omega), if_pos (by omega), last_i ks i (by omega) hb, rdO, wrap_id (by omega) (by omega)]
      rfl
    · exact evb (rdo_t _ _ _) (ih (i + 1) _ (by omega) (by omega))
theorem rfwd_c (ks : List ByteArray) (s : ByteArray) (h0 : 0 < ks.length) (hb : ks.length ≤ 100) : Ev (fun k => clavigerref09_forward.f k ks s) (encT ks s) := by
  unfold clavigerref09_forward.f
  refine evp (by omega) (evb (rkey_t _ _) ?_)
  have := rfwdL ks hb _ 1 (kyT s (rdOf ByteArray.empty ks 0)) rfl (by omega)
  cases ks with
  | nil => simp at h0
  | cons k ks => exact this
theorem rbwdL (ks : List ByteArray) (s : ByteArray) (hb : ks.length ≤ 100) : ∀ (i : Nat), i < ks.length → Ev (fun k => clavigerref09_backward.l0 k ks (bwd (ks.drop (i + 1)) s) (i : Int)) (decT ks s)
  | 0, hi => by
    refine Ev.step (f := fun k => (clavigerref07_Key.f k (bwd (ks.drop 1) s) (ks.getD 0 ByteArray.empty)).bind fun t390 => some t390) (fun k => ?_) ?_
    · simp only [clavigerref09_backward.l0]
      rw [if_neg (by omega), if_pos (by omega)]
      rfl
    · refine evb (rkey_t _ _) ?_
      cases ks with
      | nil => simp at hi
      | cons k ks => exact Ev.now _
  | i + 1, hi => by
    refine Ev.step (f := fun k => (clavigerref07_Undo.f k (bwd (ks.drop (i + 1 + 1)) s) (ks.getD (i + 1) ByteArray.empty) ((ks.drop (i + 1 + 1)).isEmpty)).bind fun t388 => clavigerref09_backward.l0 k ks t388 (i : Int)) (fun k => ?_) ?_
    · simp only [clavigerref09_backward.l0]
      rw [if_pos (by omega), if_pos (by omega), if_pos (by omega), last_i ks (i + 1) (by omega) hb, rdO, show wrap64 (((i + 1 : Nat) : Int) - 1) = (i : Int) by rw [wrap_id (by omega) (by omega)]; omega]
    · refine evb (run_t _ _ _) ?_
      have := rbwdL ks s hb i (by omega)
      rw [dropB (show i + 1 < ks.length by omega)] at this
      exact this
theorem rbwd_c (ks : List ByteArray) (s : ByteArray) (h0 : 0 < ks.length) (hb : ks.length ≤ 100) : Ev (fun k => clavigerref09_backward.f k ks s) (decT ks s) := by
  unfold clavigerref09_backward.f
  rw [show wrap64 ((ks.length : Int) - 1) = ((ks.length - 1 : Nat) : Int) by rw [wrap_id (by omega) (by omega)]; omega]
  have := rbwdL ks s hb (ks.length - 1) (by omega)
  rw [List.drop_of_length_le (by omega)] at this
  exact this
theorem renc_c (key s : ByteArray) : Ev (fun k => clavigerref09_Encrypt.f k key s) (encX key s) := by
  unfold clavigerref09_Encrypt.f encX okX
  by_cases h : okN key.size
  · rw [if_pos h]
    have hl := ks_len h
    refine evb (rkeys_c h) (evp rfl ?_)
    by_cases hs : s.size = 16
    · rw [if_pos hs]
      exact evp (by omega) (evb (rfwd_c _ _ (show 0 < (ksB key).length by omega) hl.2) (Ev.now _))
    · rw [if_neg hs]
      exact evn (by omega) (Ev.now _)
  · rw [if_neg h]
    exact evb (rkeys_n h) (evn (by decide) (Ev.now _))
theorem rdec_c (key s : ByteArray) : Ev (fun k => clavigerref09_Decrypt.f k key s) (decX key s) := by
  unfold clavigerref09_Decrypt.f decX okX
  by_cases h : okN key.size
  · rw [if_pos h]
    have hl := ks_len h
    refine evb (rkeys_c h) (evp rfl ?_)
    by_cases hs : s.size = 16
    · rw [if_pos hs]
      exact evp (by omega) (evb (rbwd_c _ _ (show 0 < (ksB key).length by omega) hl.2) (Ev.now _))
    · rw [if_neg hs]
      exact evn (by omega) (Ev.now _)
  · rw [if_neg h]
    exact evb (rkeys_n h) (evn (by decide) (Ev.now _))
theorem run_enc (n : Nat) (hn : n = 4 ∨ n = 6 ∨ n = 8) {key l r : List Nat} (hkl : key.length = 4 * n) (hf : (fourL key).map mkB = pcs 4 n (mkB key)) (hf2 : (fourL key).all (fun v => v.all fun x => Nat.blt x 256) = true) (hl : l.all (fun x => Nat.blt x 256) = true) (hl2 : l.length = 16) (h : keysF n key (fun ks => encF ks l id) = r) :
    encT (ksB (mkB key)) (mkB l) = mkB r := by
  have lt_of : ∀ v : List Nat, v.all (fun x => Nat.blt x 256) = true → isB v := fun v hv x hx => by
    have := List.all_eq_true.1 hv x hx
    simpa using this
  obtain ⟨ks, h1, h2, h3⟩ := keysF_eq n hn key hkl hf (fun v hv => lt_of v (List.all_eq_true.1 hf2 v hv)) (fun ks => encF ks l id)
  rw [h1, encF_eq ks l id h3 ⟨lt_of l hl, hl2⟩, h2] at h
  rw [← h]
  exact (mkB_nb _).symm
end Go.Proofs.Ytokkhnjedmlbhaa.M
end
