-- written by the session's program wip/hp.py over the kit's print; Lean checks it
import Derived.Test.YtokkhnjedmlbhaaZPrg01x
import Derived.Test.YtokkhnjedmlbhaaZPrg12
import Derived.Test.YtokkhnjedmlbhaaZPrL12awake
namespace Go.Proofs.Ytokkhnjedmlbhaa.Pr
open Go.RowKit Go.Proofs.YtokkhnjedmlbhaaW.PrintWords Go.Proofs.YtokkhnjedmlbhaaW.PrintLast Go.Proofs.YtokkhnjedmlbhaaW.PrintMore
attribute [local go_sem] max2_int min2_int max_two min_two max_three min_three max_four min_four   -- for this text's walks alone
set_option linter.unusedVariables false
set_option linter.unusedSimpArgs false

def clavigerlaw12_KdfBegins.j0 : Nat → ByteArray → ByteArray → Int → Int → Bool → Option (Bool)
 | 0, _, _, _, _, _ => none
 | k + 1, x0, x1, x2, x3, x20 => if x20 = true then ((clavigerlaw12_awake.f k).bind fun t1 => (some t1)) else ((kdf_Counter.f k x0 x1 (wrap64 (x2))).bind fun bt2 => ((kdf_Counter.f k x0 x1 (wrap64 ((wrap64 (x2)) + (wrap64 (x3))))).bind fun bt3 => (if bt2.2 = 0 then (if bt3.2 = 0 then (if (bt2.1.size : Int) = (wrap64 (x2)) then (if (bt3.1.size : Int) = (wrap64 ((wrap64 (x2)) + (wrap64 (x3)))) then (if 0 ≤ (bt2.1.size : Int) then (if (bt2.1.size : Int) ≤ (bt3.1.size : Int) then (if (bt3.1.extract 0 ((bt2.1.size : Int) : Int).toNat).toList = bt2.1.toList then ((clavigerlaw12_awake.f k).bind fun t4 => (some t4)) else (some false)) else (none)) else (none)) else (some false)) else (some false)) else (some false)) else (if bt2.1.toList = ([] : List UInt8) then ((clavigerlaw12_awake.f k).bind fun t5 => (some t5)) else (some false)))))
def clavigerlaw12_KdfBegins.f (k : Nat) (a0 : ByteArray) (a1 : ByteArray) (a2 : Int) (a3 : Int) : Option (Bool) := if (a0.size : Int) > 100 then (clavigerlaw12_KdfBegins.j0 k a0 a1 a2 a3 true) else (clavigerlaw12_KdfBegins.j0 k a0 a1 a2 a3 (decide ((a1.size : Int) > 100)))
theorem clavigerlaw12_KdfBegins.mono_l : ∀ k, (∀ y6 y7 y8 y9 y10, LeO (clavigerlaw12_KdfBegins.j0 k y6 y7 y8 y9 y10) (clavigerlaw12_KdfBegins.j0 (k + 1) y6 y7 y8 y9 y10))
 | 0 => fun _ _ _ _ _ r h => by simp [clavigerlaw12_KdfBegins.j0] at h
 | k + 1 => by
  have ih0 := clavigerlaw12_KdfBegins.mono_l k
  ·intro y6 y7 y8 y9 y10
   unfold clavigerlaw12_KdfBegins.j0
   repeat' first
   | (with_reducible exact ih0 _ _ _ _ _)
   | (with_reducible exact clavigerlaw12_awake.mono _)
   | (with_reducible exact kdf_Counter.mono _ _ _ _)
   | (with_reducible exact LeO.refl _)
   | (with_reducible exact LeO.none _)
   | (with_reducible refine LeO.ite ?_ ?_)
   | (with_reducible refine LeO.bind ?_ (fun _ => ?_))
   | exact ih0 _ _ _ _ _
   | exact clavigerlaw12_awake.mono _
   | exact kdf_Counter.mono _ _ _ _
   | exact LeO.none _
   | refine LeO.ite ?_ ?_
   | refine LeO.bind ?_ (fun _ => ?_)
theorem clavigerlaw12_KdfBegins.mono : ∀ a0 a1 a2 a3 k, LeO (clavigerlaw12_KdfBegins.f k a0 a1 a2 a3) (clavigerlaw12_KdfBegins.f (k + 1) a0 a1 a2 a3) := by
 intro a0 a1 a2 a3 k
 have ih0 := clavigerlaw12_KdfBegins.mono_l k
 unfold clavigerlaw12_KdfBegins.f
 repeat' first
   | (with_reducible exact ih0 _ _ _ _ _)
   | (with_reducible exact clavigerlaw12_awake.mono _)
   | (with_reducible exact kdf_Counter.mono _ _ _ _)
   | (with_reducible exact LeO.refl _)
   | (with_reducible exact LeO.none _)
   | (with_reducible refine LeO.ite ?_ ?_)
   | (with_reducible refine LeO.bind ?_ (fun _ => ?_))
   | exact ih0 _ _ _ _ _
   | exact clavigerlaw12_awake.mono _
   | exact kdf_Counter.mono _ _ _ _
   | exact LeO.none _
   | refine LeO.ite ?_ ?_
   | refine LeO.bind ?_ (fun _ => ?_)
set_option maxHeartbeats 8000000 in
set_option maxRecDepth 100000 in
theorem clavigerlaw12_KdfBegins.calls (k : Nat) (a0 : ByteArray) (a1 : ByteArray) (a2 : Int) (a3 : Int) (r : Bool) (w : World) (h : clavigerlaw12_KdfBegins.f k a0 a1 a2 a3 = some r) :
  Calls Try.prog 25 #[.string a0, .string a1, .int .u8 a2, .int .u8 a3] w fun e w' => e = .returned (.bool r) ∧ Below w.heap.size w w' := by
 have HB := Aside0.mk (Below.refl w.heap.size w)
 have H : (if (a0.size : Int) > 100 then (clavigerlaw12_KdfBegins.j0 k a0 a1 a2 a3 true) else (clavigerlaw12_KdfBegins.j0 k a0 a1 a2 a3 (decide ((a1.size : Int) > 100)))) = some r := h
 clear h
 have HC5 := Aside0.mk H
 clear H
 go_enter Try.func25, Try.ntmps25
 go_upto_region 1 with (fail)
 go_cut [20] (fun v20 wc => ∃ (kq : Nat) (x20_4 : Bool), v20 = .bool x20_4 ∧ Aside0 (clavigerlaw12_KdfBegins.j0 kq a0 a1 a2 a3 x20_4 = some r) ∧ Aside0 (kq ≤ k) ∧ Aside0 (Below w.heap.size w wc))
 case first =>
  have H := HC5.out
  clear HC5
  by_cases c6 : (a0.size : Int) > 100
  ·rw [if_pos c6] at H
   have c6b0 : decide (100 < (a0.size : Int)) = true := decide_eq_true c6
   have c6b1 : decide (100 < a0.size) = true := decide_eq_true (by omega)
   clear c6
   (first | rw [c6b0] | (simp only [i64_w, i32_w]; rw [c6b0]) | skip)
   have H' := Aside0.mk H
   clear H
   go_wp2
   go_meet
   case rel => exact ⟨_, (true), (by first | rfl | (simp; done) | (simp [*]; done)), H', ⟨by first | omega | exact Nat.le_refl _⟩, ⟨by repeat (first | (with_reducible first | exact HB.out | apply below_alloc | apply pw_below_drewN | apply below_drew1) | exact HB.out)⟩⟩
  ·rw [if_neg c6] at H
   have c6b0 : decide (100 < (a0.size : Int)) = false := decide_eq_false c6
   have c6b1 : decide (100 < a0.size) = false := decide_eq_false (by omega)
   clear c6
   (first | rw [c6b0] | (simp only [i64_w, i32_w]; rw [c6b0]) | skip)
   have H' := Aside0.mk H
   clear H
   go_wp2
   go_meet
   case rel => exact ⟨_, (decide ((a1.size : Int) > 100)), (by first | rfl | (simp; done) | (simp [*]; done)), H', ⟨by first | omega | exact Nat.le_refl _⟩, ⟨by repeat (first | (with_reducible first | exact HB.out | apply below_alloc | apply pw_below_drewN | apply below_drew1) | exact HB.out)⟩⟩
 case rest =>
  clear HC5
  try clear c2
  try clear p2
  try clear c6
  try clear c6b0
  try clear c6b1
  obtain ⟨kq, x20_4, rfl, HA, HJ4, HB⟩ := hcut
  cases kq with
  | zero => exact absurd HA.out (by simp [clavigerlaw12_KdfBegins.j0])
  | succ kj4 =>
   have H := HA.out
   clear HA
   simp only [clavigerlaw12_KdfBegins.j0] at H
   by_cases c7 : x20_4 = true
   ·subst c7
    have H1 : ((clavigerlaw12_awake.f kj4).bind fun t1 => (some t1)) = some r := by rw [if_pos rfl] at H; exact H
    clear H
    have H := H1
    clear H1
    replace H := Option.bind_eq_some_iff.mp H
    obtain ⟨t1, A80, H⟩ := H
    replace H : (some t1) = some r := H
    have A8 := Aside0.mk A80
    clear A80
    obtain rfl := Option.some.inj H
    go_wp2_with (first | ((with_reducible refine gate_callee (f := 125) rfl ?_); refine goesL_ (some 21) rfl rfl Try.func125 (by kernel_rfl) rfl #[] rfl (by (try simp only [List.map_toArray, List.map_cons, List.map_nil]); first | done | rfl | (simp only [List.length_drop, List.length_take]; rfl) | (simp only [ByteArray.size_extract, Nat.min_self, Nat.sub_zero, ByteArray.size_append]; first | done | rfl)) ?_; (with_reducible refine (clavigerlaw12_awake.calls kj4  t1 _ A8.out).mono ?_); rintro e w9 ⟨rfl, hb⟩; refine ⟨_, rfl, ?_⟩; have n0_ := Aside0.mk (below_step (by repeat (first | (with_reducible first | exact HB.out | apply below_alloc | apply pw_below_drewN | apply below_drew1) | exact HB.out)) hb); clear HB; have HB := n0_; clear n0_; (try clear hb); (try clear hb2); (try clear hk); (try clear hi)))
    go_ret
    exact ⟨by first | rfl | (simp [errW_none, errW_some] <;> rfl) | (simp [*, errW_none, errW_some] <;> rfl), by repeat (first | (with_reducible first | exact HB.out | apply below_alloc | apply pw_below_drewN | apply below_drew1) | exact HB.out)⟩
   ·replace c7 := Bool.eq_false_iff.mpr c7
    subst c7
    have H1 : ((kdf_Counter.f kj4 a0 a1 (wrap64 (a2))).bind fun bt2 => ((kdf_Counter.f kj4 a0 a1 (wrap64 ((wrap64 (a2)) + (wrap64 (a3))))).bind fun bt3 => (if bt2.2 = 0 then (if bt3.2 = 0 then (if (bt2.1.size : Int) = (wrap64 (a2)) then (if (bt3.1.size : Int) = (wrap64 ((wrap64 (a2)) + (wrap64 (a3)))) then (if 0 ≤ (bt2.1.size : Int) then (if (bt2.1.size : Int) ≤ (bt3.1.size : Int) then (if (bt3.1.extract 0 ((bt2.1.size : Int) : Int).toNat).toList = bt2.1.toList then ((clavigerlaw12_awake.f kj4).bind fun t4 => (some t4)) else (some false)) else (none)) else (none)) else (some false)) else (some false)) else (some false)) else (if bt2.1.toList = ([] : List UInt8) then ((clavigerlaw12_awake.f kj4).bind fun t5 => (some t5)) else (some false))))) = some r := by rw [if_neg (show ¬ (false = true) by decide)] at H; exact H
    clear H
    have H := H1
    clear H1
    replace H := Option.bind_eq_some_iff.mp H
    obtain ⟨⟨t2, t11⟩, A100, H⟩ := H
    replace H : ((kdf_Counter.f kj4 a0 a1 (wrap64 ((wrap64 (a2)) + (wrap64 (a3))))).bind fun bt3 => (if t11 = 0 then (if bt3.2 = 0 then (if (t2.size : Int) = (wrap64 (a2)) then (if (bt3.1.size : Int) = (wrap64 ((wrap64 (a2)) + (wrap64 (a3)))) then (if 0 ≤ (t2.size : Int) then (if (t2.size : Int) ≤ (bt3.1.size : Int) then (if (bt3.1.extract 0 ((t2.size : Int) : Int).toNat).toList = t2.toList then ((clavigerlaw12_awake.f kj4).bind fun t4 => (some t4)) else (some false)) else (none)) else (none)) else (some false)) else (some false)) else (some false)) else (if t2.toList = ([] : List UInt8) then ((clavigerlaw12_awake.f kj4).bind fun t5 => (some t5)) else (some false)))) = some r := H
    have A10 := Aside0.mk A100
    clear A100
    replace H := Option.bind_eq_some_iff.mp H
    obtain ⟨⟨t3, t12⟩, A110, H⟩ := H
    replace H : (if t11 = 0 then (if t12 = 0 then (if (t2.size : Int) = (wrap64 (a2)) then (if (t3.size : Int) = (wrap64 ((wrap64 (a2)) + (wrap64 (a3)))) then (if 0 ≤ (t2.size : Int) then (if (t2.size : Int) ≤ (t3.size : Int) then (if (t3.extract 0 ((t2.size : Int) : Int).toNat).toList = t2.toList then ((clavigerlaw12_awake.f kj4).bind fun t4 => (some t4)) else (some false)) else (none)) else (none)) else (some false)) else (some false)) else (some false)) else (if t2.toList = ([] : List UInt8) then ((clavigerlaw12_awake.f kj4).bind fun t5 => (some t5)) else (some false))) = some r := H
    have A11 := Aside0.mk A110
    clear A110
    by_cases c12 : t11 = 0
    ·rw [if_pos c12] at H
     have c12b0 : (t11 == 0) = true := beq_iff_eq.mpr c12
     have c12b1 : (t11 != 0) = false := bne_eq_false_iff_eq.mpr c12
     clear c12
     by_cases c13 : t12 = 0
     ·rw [if_pos c13] at H
      have c13b0 : (t12 == 0) = true := beq_iff_eq.mpr c13
      have c13b1 : (t12 != 0) = false := bne_eq_false_iff_eq.mpr c13
      clear c13
      by_cases c14 : (t2.size : Int) = (wrap64 (a2))
      ·rw [if_pos c14] at H
       have c14b0 : ((t2.size : Int) == (wrap64 (a2))) = true := beq_iff_eq.mpr c14
       have c14b1 : ((t2.size : Int) != (wrap64 (a2))) = false := bne_eq_false_iff_eq.mpr c14
       clear c14
       by_cases c15 : (t3.size : Int) = (wrap64 ((wrap64 (a2)) + (wrap64 (a3))))
       ·rw [if_pos c15] at H
        have c15b0 : ((t3.size : Int) == (wrap64 ((wrap64 (a2)) + (wrap64 (a3))))) = true := beq_iff_eq.mpr c15
        have c15b1 : ((t3.size : Int) != (wrap64 ((wrap64 (a2)) + (wrap64 (a3))))) = false := bne_eq_false_iff_eq.mpr c15
        clear c15
        by_cases c16 : 0 ≤ (t2.size : Int)
        ·rw [if_pos c16] at H
         have c16b0 := eq_true c16
         have c16b1 : decide (0 ≤ (t2.size : Int)) = true := decide_eq_true c16
         clear c16
         by_cases c17 : (t2.size : Int) ≤ (t3.size : Int)
         ·rw [if_pos c17] at H
          have c17b0 := eq_true c17
          have c17b1 : decide ((t2.size : Int) ≤ (t3.size : Int)) = true := decide_eq_true c17
          clear c17
          by_cases c18 : (t3.extract 0 ((t2.size : Int) : Int).toNat).toList = t2.toList
          ·rw [if_pos c18] at H
           have c18b0 : ((t3.extract 0 ((t2.size : Int) : Int).toNat).toList == t2.toList) = true := beq_iff_eq.mpr c18
           (try (have c18b7 : ((t3.extract 0 t2.size).toList == t2.toList) = true := c18b0))
           have c18b1 : ((t3.extract 0 ((t2.size : Int) : Int).toNat).toList != t2.toList) = false := bne_eq_false_iff_eq.mpr c18
           clear c18
           replace H := Option.bind_eq_some_iff.mp H
           obtain ⟨t4, A190, H⟩ := H
           replace H : (some t4) = some r := H
           have A19 := Aside0.mk A190
           clear A190
           obtain rfl := Option.some.inj H
           go_wp2_with (first | ((with_reducible refine gate_callee (f := 126) rfl ?_); refine goesL_ (some 27) rfl rfl Try.func126 (by kernel_rfl) rfl #[.string a0, .string a1, .int .i64 (wrap64 (a2))] rfl (by (try simp only [List.map_toArray, List.map_cons, List.map_nil]); first | done | rfl | (simp only [List.length_drop, List.length_take]; rfl) | (simp only [ByteArray.size_extract, Nat.min_self, Nat.sub_zero, ByteArray.size_append]; first | done | rfl)) ?_; (with_reducible refine (kdf_Counter.calls kj4 a0 a1 (wrap64 (a2)) t2 t11 _ A10.out).mono ?_); rintro e w20 ⟨rfl, hb⟩; refine ⟨_, rfl, ?_⟩; have n0_ := Aside0.mk (below_step (by repeat (first | (with_reducible first | exact HB.out | apply below_alloc | apply pw_below_drewN | apply below_drew1) | exact HB.out)) hb); clear HB; have HB := n0_; clear n0_; (try clear hb); (try clear hb2); (try clear hk); (try clear hi)) | ((with_reducible refine gate_callee (f := 126) rfl ?_); refine goesL_ (some 38) rfl rfl Try.func126 (by kernel_rfl) rfl #[.string a0, .string a1, .int .i64 (wrap64 ((wrap64 (a2)) + (wrap64 (a3))))] rfl (by (try simp only [List.map_toArray, List.map_cons, List.map_nil]); first | done | rfl | (simp only [List.length_drop, List.length_take]; rfl) | (simp only [ByteArray.size_extract, Nat.min_self, Nat.sub_zero, ByteArray.size_append]; first | done | rfl)) ?_; (with_reducible refine (kdf_Counter.calls kj4 a0 a1 (wrap64 ((wrap64 (a2)) + (wrap64 (a3)))) t3 t12 _ A11.out).mono ?_); rintro e w21 ⟨rfl, hb⟩; refine ⟨_, rfl, ?_⟩; have n0_ := Aside0.mk (below_step (by repeat (first | (with_reducible first | exact HB.out | apply below_alloc | apply pw_below_drewN | apply below_drew1) | exact HB.out)) hb); clear HB; have HB := n0_; clear n0_; (try clear hb); (try clear hb2); (try clear hk); (try clear hi)) | (go_at_call 125; (with_reducible refine (clavigerlaw12_awake.calls kj4  t4 _ A19.out).mono ?_); rintro e w22 ⟨rfl, hb⟩; have n0_ := Aside0.mk (below_step (by repeat (first | (with_reducible first | exact HB.out | apply below_alloc | apply pw_below_drewN | apply below_drew1) | exact HB.out)) hb); clear HB; have HB := n0_; clear n0_; (try clear hb); (try clear hb2); (try clear hk); (try clear hi)))
           go_ret
           exact ⟨by first | rfl | (simp [errW_none, errW_some] <;> rfl) | (simp [*, errW_none, errW_some] <;> rfl), by repeat (first | (with_reducible first | exact HB.out | apply below_alloc | apply pw_below_drewN | apply below_drew1) | exact HB.out)⟩
          ·rw [if_neg c18] at H
           have c18b0 : ((t3.extract 0 ((t2.size : Int) : Int).toNat).toList == t2.toList) = false := beq_eq_false_iff_ne.mpr c18
           (try (have c18b7 : ((t3.extract 0 t2.size).toList == t2.toList) = false := c18b0))
           have c18b1 : ((t3.extract 0 ((t2.size : Int) : Int).toNat).toList != t2.toList) = true := bne_iff_ne.mpr c18
           obtain rfl := Option.some.inj H
           go_wp2_with (first | ((with_reducible refine gate_callee (f := 126) rfl ?_); refine goesL_ (some 27) rfl rfl Try.func126 (by kernel_rfl) rfl #[.string a0, .string a1, .int .i64 (wrap64 (a2))] rfl (by (try simp only [List.map_toArray, List.map_cons, List.map_nil]); first | done | rfl | (simp only [List.length_drop, List.length_take]; rfl) | (simp only [ByteArray.size_extract, Nat.min_self, Nat.sub_zero, ByteArray.size_append]; first | done | rfl)) ?_; (with_reducible refine (kdf_Counter.calls kj4 a0 a1 (wrap64 (a2)) t2 t11 _ A10.out).mono ?_); rintro e w23 ⟨rfl, hb⟩; refine ⟨_, rfl, ?_⟩; have n0_ := Aside0.mk (below_step (by repeat (first | (with_reducible first | exact HB.out | apply below_alloc | apply pw_below_drewN | apply below_drew1) | exact HB.out)) hb); clear HB; have HB := n0_; clear n0_; (try clear hb); (try clear hb2); (try clear hk); (try clear hi)) | ((with_reducible refine gate_callee (f := 126) rfl ?_); refine goesL_ (some 38) rfl rfl Try.func126 (by kernel_rfl) rfl #[.string a0, .string a1, .int .i64 (wrap64 ((wrap64 (a2)) + (wrap64 (a3))))] rfl (by (try simp only [List.map_toArray, List.map_cons, List.map_nil]); first | done | rfl | (simp only [List.length_drop, List.length_take]; rfl) | (simp only [ByteArray.size_extract, Nat.min_self, Nat.sub_zero, ByteArray.size_append]; first | done | rfl)) ?_; (with_reducible refine (kdf_Counter.calls kj4 a0 a1 (wrap64 ((wrap64 (a2)) + (wrap64 (a3)))) t3 t12 _ A11.out).mono ?_); rintro e w24 ⟨rfl, hb⟩; refine ⟨_, rfl, ?_⟩; have n0_ := Aside0.mk (below_step (by repeat (first | (with_reducible first | exact HB.out | apply below_alloc | apply pw_below_drewN | apply below_drew1) | exact HB.out)) hb); clear HB; have HB := n0_; clear n0_; (try clear hb); (try clear hb2); (try clear hk); (try clear hi)))
           go_ret
           exact ⟨by first | rfl | (simp [errW_none, errW_some] <;> rfl) | (simp [*, errW_none, errW_some] <;> rfl), by repeat (first | (with_reducible first | exact HB.out | apply below_alloc | apply pw_below_drewN | apply below_drew1) | exact HB.out)⟩
         ·rw [if_neg c17] at H
          exact absurd H (by simp)
        ·rw [if_neg c16] at H
         exact absurd H (by simp)
       ·rw [if_neg c15] at H
        have c15b0 : ((t3.size : Int) == (wrap64 ((wrap64 (a2)) + (wrap64 (a3))))) = false := beq_eq_false_iff_ne.mpr c15
        have c15b1 : ((t3.size : Int) != (wrap64 ((wrap64 (a2)) + (wrap64 (a3))))) = true := bne_iff_ne.mpr c15
        obtain rfl := Option.some.inj H
        go_wp2_with (first | ((with_reducible refine gate_callee (f := 126) rfl ?_); refine goesL_ (some 27) rfl rfl Try.func126 (by kernel_rfl) rfl #[.string a0, .string a1, .int .i64 (wrap64 (a2))] rfl (by (try simp only [List.map_toArray, List.map_cons, List.map_nil]); first | done | rfl | (simp only [List.length_drop, List.length_take]; rfl) | (simp only [ByteArray.size_extract, Nat.min_self, Nat.sub_zero, ByteArray.size_append]; first | done | rfl)) ?_; (with_reducible refine (kdf_Counter.calls kj4 a0 a1 (wrap64 (a2)) t2 t11 _ A10.out).mono ?_); rintro e w25 ⟨rfl, hb⟩; refine ⟨_, rfl, ?_⟩; have n0_ := Aside0.mk (below_step (by repeat (first | (with_reducible first | exact HB.out | apply below_alloc | apply pw_below_drewN | apply below_drew1) | exact HB.out)) hb); clear HB; have HB := n0_; clear n0_; (try clear hb); (try clear hb2); (try clear hk); (try clear hi)) | ((with_reducible refine gate_callee (f := 126) rfl ?_); refine goesL_ (some 38) rfl rfl Try.func126 (by kernel_rfl) rfl #[.string a0, .string a1, .int .i64 (wrap64 ((wrap64 (a2)) + (wrap64 (a3))))] rfl (by (try simp only [List.map_toArray, List.map_cons, List.map_nil]); first | done | rfl | (simp only [List.length_drop, List.length_take]; rfl) | (simp only [ByteArray.size_extract, Nat.min_self, Nat.sub_zero, ByteArray.size_append]; first | done | rfl)) ?_; (with_reducible refine (kdf_Counter.calls kj4 a0 a1 (wrap64 ((wrap64 (a2)) + (wrap64 (a3)))) t3 t12 _ A11.out).mono ?_); rintro e w26 ⟨rfl, hb⟩; refine ⟨_, rfl, ?_⟩; have n0_ := Aside0.mk (below_step (by repeat (first | (with_reducible first | exact HB.out | apply below_alloc | apply pw_below_drewN | apply below_drew1) | exact HB.out)) hb); clear HB; have HB := n0_; clear n0_; (try clear hb); (try clear hb2); (try clear hk); (try clear hi)))
        go_ret
        exact ⟨by first | rfl | (simp [errW_none, errW_some] <;> rfl) | (simp [*, errW_none, errW_some] <;> rfl), by repeat (first | (with_reducible first | exact HB.out | apply below_alloc | apply pw_below_drewN | apply below_drew1) | exact HB.out)⟩
      ·rw [if_neg c14] at H
       have c14b0 : ((t2.size : Int) == (wrap64 (a2))) = false := beq_eq_false_iff_ne.mpr c14
       have c14b1 : ((t2.size : Int) != (wrap64 (a2))) = true := bne_iff_ne.mpr c14
       obtain rfl := Option.some.inj H
       go_wp2_with (first | ((with_reducible refine gate_callee (f := 126) rfl ?_); refine goesL_ (some 27) rfl rfl Try.func126 (by kernel_rfl) rfl #[.string a0, .string a1, .int .i64 (wrap64 (a2))] rfl (by (try simp only [List.map_toArray, List.map_cons, List.map_nil]); first | done | rfl | (simp only [List.length_drop, List.length_take]; rfl) | (simp only [ByteArray.size_extract, Nat.min_self, Nat.sub_zero, ByteArray.size_append]; first | done | rfl)) ?_; (with_reducible refine (kdf_Counter.calls kj4 a0 a1 (wrap64 (a2)) t2 t11 _ A10.out).mono ?_); rintro e w27 ⟨rfl, hb⟩; refine ⟨_, rfl, ?_⟩; have n0_ := Aside0.mk (below_step (by repeat (first | (with_reducible first | exact HB.out | apply below_alloc | apply pw_below_drewN | apply below_drew1) | exact HB.out)) hb); clear HB; have HB := n0_; clear n0_; (try clear hb); (try clear hb2); (try clear hk); (try clear hi)) | ((with_reducible refine gate_callee (f := 126) rfl ?_); refine goesL_ (some 38) rfl rfl Try.func126 (by kernel_rfl) rfl #[.string a0, .string a1, .int .i64 (wrap64 ((wrap64 (a2)) + (wrap64 (a3))))] rfl (by (try simp only [List.map_toArray, List.map_cons, List.map_nil]); first | done | rfl | (simp only [List.length_drop, List.length_take]; rfl) | (simp only [ByteArray.size_extract, Nat.min_self, Nat.sub_zero, ByteArray.size_append]; first | done | rfl)) ?_; (with_reducible refine (kdf_Counter.calls kj4 a0 a1 (wrap64 ((wrap64 (a2)) + (wrap64 (a3)))) t3 t12 _ A11.out).mono ?_); rintro e w28 ⟨rfl, hb⟩; refine ⟨_, rfl, ?_⟩; have n0_ := Aside0.mk (below_step (by repeat (first | (with_reducible first | exact HB.out | apply below_alloc | apply pw_below_drewN | apply below_drew1) | exact HB.out)) hb); clear HB; have HB := n0_; clear n0_; (try clear hb); (try clear hb2); (try clear hk); (try clear hi)))
       go_ret
       exact ⟨by first | rfl | (simp [errW_none, errW_some] <;> rfl) | (simp [*, errW_none, errW_some] <;> rfl), by repeat (first | (with_reducible first | exact HB.out | apply below_alloc | apply pw_below_drewN | apply below_drew1) | exact HB.out)⟩
     ·rw [if_neg c13] at H
      have c13b0 : (t12 == 0) = false := beq_eq_false_iff_ne.mpr c13
      have c13b1 : (t12 != 0) = true := bne_iff_ne.mpr c13
      obtain rfl := Option.some.inj H
      go_wp2_with (first | ((with_reducible refine gate_callee (f := 126) rfl ?_); refine goesL_ (some 27) rfl rfl Try.func126 (by kernel_rfl) rfl #[.string a0, .string a1, .int .i64 (wrap64 (a2))] rfl (by (try simp only [List.map_toArray, List.map_cons, List.map_nil]); first | done | rfl | (simp only [List.length_drop, List.length_take]; rfl) | (simp only [ByteArray.size_extract, Nat.min_self, Nat.sub_zero, ByteArray.size_append]; first | done | rfl)) ?_; (with_reducible refine (kdf_Counter.calls kj4 a0 a1 (wrap64 (a2)) t2 t11 _ A10.out).mono ?_); rintro e w29 ⟨rfl, hb⟩; refine ⟨_, rfl, ?_⟩; have n0_ := Aside0.mk (below_step (by repeat (first | (with_reducible first | exact HB.out | apply below_alloc | apply pw_below_drewN | apply below_drew1) | exact HB.out)) hb); clear HB; have HB := n0_; clear n0_; (try clear hb); (try clear hb2); (try clear hk); (try clear hi)) | ((with_reducible refine gate_callee (f := 126) rfl ?_); refine goesL_ (some 38) rfl rfl Try.func126 (by kernel_rfl) rfl #[.string a0, .string a1, .int .i64 (wrap64 ((wrap64 (a2)) + (wrap64 (a3))))] rfl (by (try simp only [List.map_toArray, List.map_cons, List.map_nil]); first | done | rfl | (simp only [List.length_drop, List.length_take]; rfl) | (simp only [ByteArray.size_extract, Nat.min_self, Nat.sub_zero, ByteArray.size_append]; first | done | rfl)) ?_; (with_reducible refine (kdf_Counter.calls kj4 a0 a1 (wrap64 ((wrap64 (a2)) + (wrap64 (a3)))) t3 t12 _ A11.out).mono ?_); rintro e w30 ⟨rfl, hb⟩; refine ⟨_, rfl, ?_⟩; have n0_ := Aside0.mk (below_step (by repeat (first | (with_reducible first | exact HB.out | apply below_alloc | apply pw_below_drewN | apply below_drew1) | exact HB.out)) hb); clear HB; have HB := n0_; clear n0_; (try clear hb); (try clear hb2); (try clear hk); (try clear hi)))
      go_ret
      exact ⟨by first | rfl | (simp [errW_none, errW_some] <;> rfl) | (simp [*, errW_none, errW_some] <;> rfl), by repeat (first | (with_reducible first | exact HB.out | apply below_alloc | apply pw_below_drewN | apply below_drew1) | exact HB.out)⟩
    ·rw [if_neg c12] at H
     have c12b0 : (t11 == 0) = false := beq_eq_false_iff_ne.mpr c12
     have c12b1 : (t11 != 0) = true := bne_iff_ne.mpr c12
     by_cases c31 : t2.toList = ([] : List UInt8)
     ·rw [if_pos c31] at H
      have c31b0 : (t2.toList == ([] : List UInt8)) = true := beq_iff_eq.mpr c31
      have c31b1 : (t2.toList != ([] : List UInt8)) = false := bne_eq_false_iff_eq.mpr c31
      clear c31
      replace H := Option.bind_eq_some_iff.mp H
      obtain ⟨t5, A320, H⟩ := H
      replace H : (some t5) = some r := H
      have A32 := Aside0.mk A320
      clear A320
      obtain rfl := Option.some.inj H
      go_wp2_with (first | ((with_reducible refine gate_callee (f := 126) rfl ?_); refine goesL_ (some 27) rfl rfl Try.func126 (by kernel_rfl) rfl #[.string a0, .string a1, .int .i64 (wrap64 (a2))] rfl (by (try simp only [List.map_toArray, List.map_cons, List.map_nil]); first | done | rfl | (simp only [List.length_drop, List.length_take]; rfl) | (simp only [ByteArray.size_extract, Nat.min_self, Nat.sub_zero, ByteArray.size_append]; first | done | rfl)) ?_; (with_reducible refine (kdf_Counter.calls kj4 a0 a1 (wrap64 (a2)) t2 t11 _ A10.out).mono ?_); rintro e w33 ⟨rfl, hb⟩; refine ⟨_, rfl, ?_⟩; have n0_ := Aside0.mk (below_step (by repeat (first | (with_reducible first | exact HB.out | apply below_alloc | apply pw_below_drewN | apply below_drew1) | exact HB.out)) hb); clear HB; have HB := n0_; clear n0_; (try clear hb); (try clear hb2); (try clear hk); (try clear hi)) | ((with_reducible refine gate_callee (f := 126) rfl ?_); refine goesL_ (some 38) rfl rfl Try.func126 (by kernel_rfl) rfl #[.string a0, .string a1, .int .i64 (wrap64 ((wrap64 (a2)) + (wrap64 (a3))))] rfl (by (try simp only [List.map_toArray, List.map_cons, List.map_nil]); first | done | rfl | (simp only [List.length_drop, List.length_take]; rfl) | (simp only [ByteArray.size_extract, Nat.min_self, Nat.sub_zero, ByteArray.size_append]; first | done | rfl)) ?_; (with_reducible refine (kdf_Counter.calls kj4 a0 a1 (wrap64 ((wrap64 (a2)) + (wrap64 (a3)))) t3 t12 _ A11.out).mono ?_); rintro e w34 ⟨rfl, hb⟩; refine ⟨_, rfl, ?_⟩; have n0_ := Aside0.mk (below_step (by repeat (first | (with_reducible first | exact HB.out | apply below_alloc | apply pw_below_drewN | apply below_drew1) | exact HB.out)) hb); clear HB; have HB := n0_; clear n0_; (try clear hb); (try clear hb2); (try clear hk); (try clear hi)) | (go_at_call 125; (with_reducible refine (clavigerlaw12_awake.calls kj4  t5 _ A32.out).mono ?_); rintro e w35 ⟨rfl, hb⟩; have n0_ := Aside0.mk (below_step (by repeat (first | (with_reducible first | exact HB.out | apply below_alloc | apply pw_below_drewN | apply below_drew1) | exact HB.out)) hb); clear HB; have HB := n0_; clear n0_; (try clear hb); (try clear hb2); (try clear hk); (try clear hi)))
      go_ret
      exact ⟨by first | rfl | (simp [errW_none, errW_some] <;> rfl) | (simp [*, errW_none, errW_some] <;> rfl), by repeat (first | (with_reducible first | exact HB.out | apply below_alloc | apply pw_below_drewN | apply below_drew1) | exact HB.out)⟩
     ·rw [if_neg c31] at H
      have c31b0 : (t2.toList == ([] : List UInt8)) = false := beq_eq_false_iff_ne.mpr c31
      have c31b1 : (t2.toList != ([] : List UInt8)) = true := bne_iff_ne.mpr c31
      obtain rfl := Option.some.inj H
      go_wp2_with (first | ((with_reducible refine gate_callee (f := 126) rfl ?_); refine goesL_ (some 27) rfl rfl Try.func126 (by kernel_rfl) rfl #[.string a0, .string a1, .int .i64 (wrap64 (a2))] rfl (by (try simp only [List.map_toArray, List.map_cons, List.map_nil]); first | done | rfl | (simp only [List.length_drop, List.length_take]; rfl) | (simp only [ByteArray.size_extract, Nat.min_self, Nat.sub_zero, ByteArray.size_append]; first | done | rfl)) ?_; (with_reducible refine (kdf_Counter.calls kj4 a0 a1 (wrap64 (a2)) t2 t11 _ A10.out).mono ?_); rintro e w36 ⟨rfl, hb⟩; refine ⟨_, rfl, ?_⟩; have n0_ := Aside0.mk (below_step (by repeat (first | (with_reducible first | exact HB.out | apply below_alloc | apply pw_below_drewN | apply below_drew1) | exact HB.out)) hb); clear HB; have HB := n0_; clear n0_; (try clear hb); (try clear hb2); (try clear hk); (try clear hi)) | ((with_reducible refine gate_callee (f := 126) rfl ?_); refine goesL_ (some 38) rfl rfl Try.func126 (by kernel_rfl) rfl #[.string a0, .string a1, .int .i64 (wrap64 ((wrap64 (a2)) + (wrap64 (a3))))] rfl (by (try simp only [List.map_toArray, List.map_cons, List.map_nil]); first | done | rfl | (simp only [List.length_drop, List.length_take]; rfl) | (simp only [ByteArray.size_extract, Nat.min_self, Nat.sub_zero, ByteArray.size_append]; first | done | rfl)) ?_; (with_reducible refine (kdf_Counter.calls kj4 a0 a1 (wrap64 ((wrap64 (a2)) + (wrap64 (a3)))) t3 t12 _ A11.out).mono ?_); rintro e w37 ⟨rfl, hb⟩; refine ⟨_, rfl, ?_⟩; have n0_ := Aside0.mk (below_step (by repeat (first | (with_reducible first | exact HB.out | apply below_alloc | apply pw_below_drewN | apply below_drew1) | exact HB.out)) hb); clear HB; have HB := n0_; clear n0_; (try clear hb); (try clear hb2); (try clear hk); (try clear hi)))
      go_ret
      exact ⟨by first | rfl | (simp [errW_none, errW_some] <;> rfl) | (simp [*, errW_none, errW_some] <;> rfl), by repeat (first | (with_reducible first | exact HB.out | apply below_alloc | apply pw_below_drewN | apply below_drew1) | exact HB.out)⟩

/-- THE ONE PURE STATEMENT of clavigerlaw12_KdfBegins: yours. -/
def clavigerlaw12_KdfBegins.Pure : Prop := ∀ (a0 : ByteArray) (a1 : ByteArray) (a2 : Int) (a3 : Int), a0.size ≤ 140737488351232 → a1.size ≤ 140737488351232 → (Lit.int .u8 a2).wf = true → (Lit.int .u8 a3).wf = true → ∃ k, clavigerlaw12_KdfBegins.f k a0 a1 a2 a3 = some true
theorem clavigerlaw12_KdfBegins.walk (P : clavigerlaw12_KdfBegins.Pure) (a0 : ByteArray) (a1 : ByteArray) (a2 : Int) (a3 : Int) (w : World) (w0 : a0.size ≤ 140737488351232) (w1 : a1.size ≤ 140737488351232) (w2 : (Lit.int .u8 a2).wf = true) (w3 : (Lit.int .u8 a3).wf = true) :
  Calls Try.prog 25 #[.string a0, .string a1, .int .u8 a2, .int .u8 a3] w fun e w' => e = .returned (.bool true) ∧ Below w.heap.size w w' := by
 obtain ⟨k, h⟩ := P a0 a1 a2 a3 w0 w1 w2 w3
 refine (clavigerlaw12_KdfBegins.calls k a0 a1 a2 a3 true w h).mono ?_
 rintro e w' ⟨rfl, hd⟩
 exact ⟨rfl, hd⟩

end Go.Proofs.Ytokkhnjedmlbhaa.Pr
