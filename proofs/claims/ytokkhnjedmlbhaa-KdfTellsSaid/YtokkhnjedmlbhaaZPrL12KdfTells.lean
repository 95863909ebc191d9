-- written by the session's program wip/hp.py over the kit's print; Lean checks it
import Derived.Test.YtokkhnjedmlbhaaZPrg01x
import Derived.Test.YtokkhnjedmlbhaaZPrg12
import Derived.Test.YtokkhnjedmlbhaaZPrL12awake
namespace Go.Proofs.Ytokkhnjedmlbhaa.Pr
open Go.RowKit Go.Proofs.YtokkhnjedmlbhaaW.PrintWords Go.Proofs.YtokkhnjedmlbhaaW.PrintLast Go.Proofs.YtokkhnjedmlbhaaW.PrintMore
attribute [local go_sem] max2_int min2_int max_two min_two max_three min_three max_four min_four   -- for this text's walks alone
set_option linter.unusedVariables false
set_option linter.unusedSimpArgs false

def clavigerlaw12_KdfTells.j0 : Nat → ByteArray → ByteArray → ByteArray → Int → Bool → Option (Bool)
 | 0, _, _, _, _, _ => none
 | k + 1, x0, x1, x2, x3, x33 => if x33 = true then ((kdf_Rounds.f x3).bind fun t1 => ((clavigerref12_Rounds.f k x3).bind fun t2 => (if t1 = t2 then ((clavigerlaw12_awake.f k).bind fun t3 => (some t3)) else (some false)))) else ((kdf_Counter.f k x0 x1 x3).bind fun bt4 => ((clavigerref12_Counter.f k x0 x1 x3).bind fun bt5 => (if bt4.1.toList = bt5.1.toList then (if bt4.2 = bt5.2 then ((kdf_Rounds.f x3).bind fun t6 => ((clavigerref12_Rounds.f k x3).bind fun t7 => (if t6 = t7 then ((kdf_Fixed.f x1 x2 x3).bind fun t8 => ((clavigerref12_Fixed.f k x1 x2 x3).bind fun t9 => (if t8.toList = t9.toList then ((clavigerlaw12_awake.f k).bind fun t10 => (some t10)) else (some false)))) else (some false)))) else (some false)) else (some false))))
def clavigerlaw12_KdfTells.f (k : Nat) (a0 : ByteArray) (a1 : ByteArray) (a2 : ByteArray) (a3 : Int) : Option (Bool) := if (a0.size : Int) > 100 then (clavigerlaw12_KdfTells.j0 k a0 a1 a2 a3 true) else (if (a1.size : Int) > 100 then (clavigerlaw12_KdfTells.j0 k a0 a1 a2 a3 true) else (if (a2.size : Int) > 100 then (clavigerlaw12_KdfTells.j0 k a0 a1 a2 a3 true) else (if a3 > 100 then (clavigerlaw12_KdfTells.j0 k a0 a1 a2 a3 (decide (a3 ≤ 4080))) else (clavigerlaw12_KdfTells.j0 k a0 a1 a2 a3 false))))
theorem clavigerlaw12_KdfTells.mono_l : ∀ k, (∀ y11 y12 y13 y14 y15, LeO (clavigerlaw12_KdfTells.j0 k y11 y12 y13 y14 y15) (clavigerlaw12_KdfTells.j0 (k + 1) y11 y12 y13 y14 y15))
 | 0 => fun _ _ _ _ _ r h => by simp [clavigerlaw12_KdfTells.j0] at h
 | k + 1 => by
  have ih0 := clavigerlaw12_KdfTells.mono_l k
  ·intro y11 y12 y13 y14 y15
   unfold clavigerlaw12_KdfTells.j0
   repeat' first
   | (with_reducible exact ih0 _ _ _ _ _)
   | (with_reducible exact clavigerlaw12_awake.mono _)
   | (with_reducible exact clavigerref12_Counter.mono _ _ _ _)
   | (with_reducible exact clavigerref12_Fixed.mono _ _ _ _)
   | (with_reducible exact clavigerref12_Rounds.mono _ _)
   | (with_reducible exact kdf_Counter.mono _ _ _ _)
   | (with_reducible exact LeO.refl _)
   | (with_reducible exact LeO.none _)
   | (with_reducible refine LeO.ite ?_ ?_)
   | (with_reducible refine LeO.bind ?_ (fun _ => ?_))
   | exact ih0 _ _ _ _ _
   | exact clavigerlaw12_awake.mono _
   | exact clavigerref12_Counter.mono _ _ _ _
   | exact clavigerref12_Fixed.mono _ _ _ _
   | exact clavigerref12_Rounds.mono _ _
   | exact kdf_Counter.mono _ _ _ _
   | exact LeO.none _
   | refine LeO.ite ?_ ?_
   | refine LeO.bind ?_ (fun _ => ?_)
theorem clavigerlaw12_KdfTells.mono : ∀ a0 a1 a2 a3 k, LeO (clavigerlaw12_KdfTells.f k a0 a1 a2 a3) (clavigerlaw12_KdfTells.f (k + 1) a0 a1 a2 a3) := by
 intro a0 a1 a2 a3 k
 have ih0 := clavigerlaw12_KdfTells.mono_l k
 unfold clavigerlaw12_KdfTells.f
 repeat' first
   | (with_reducible exact ih0 _ _ _ _ _)
   | (with_reducible exact clavigerlaw12_awake.mono _)
   | (with_reducible exact clavigerref12_Counter.mono _ _ _ _)
   | (with_reducible exact clavigerref12_Fixed.mono _ _ _ _)
   | (with_reducible exact clavigerref12_Rounds.mono _ _)
   | (with_reducible exact kdf_Counter.mono _ _ _ _)
   | (with_reducible exact LeO.refl _)
   | (with_reducible exact LeO.none _)
   | (with_reducible refine LeO.ite ?_ ?_)
   | (with_reducible refine LeO.bind ?_ (fun _ => ?_))
   | exact ih0 _ _ _ _ _
   | exact clavigerlaw12_awake.mono _
   | exact clavigerref12_Counter.mono _ _ _ _
   | exact clavigerref12_Fixed.mono _ _ _ _
   | exact clavigerref12_Rounds.mono _ _
   | exact kdf_Counter.mono _ _ _ _
   | exact LeO.none _
   | refine LeO.ite ?_ ?_
   | refine LeO.bind ?_ (fun _ => ?_)
set_option maxHeartbeats 8000000 in
set_option maxRecDepth 100000 in
theorem clavigerlaw12_KdfTells.calls (k : Nat) (a0 : ByteArray) (a1 : ByteArray) (a2 : ByteArray) (a3 : Int) (r : Bool) (w : World) (h : clavigerlaw12_KdfTells.f k a0 a1 a2 a3 = some r) :
  Calls Try.prog 24 #[.string a0, .string a1, .string a2, .int .i64 a3] w fun e w' => e = .returned (.bool r) ∧ Below w.heap.size w w' := by
 have HB := Aside0.mk (Below.refl w.heap.size w)
 have H : (if (a0.size : Int) > 100 then (clavigerlaw12_KdfTells.j0 k a0 a1 a2 a3 true) else (if (a1.size : Int) > 100 then (clavigerlaw12_KdfTells.j0 k a0 a1 a2 a3 true) else (if (a2.size : Int) > 100 then (clavigerlaw12_KdfTells.j0 k a0 a1 a2 a3 true) else (if a3 > 100 then (clavigerlaw12_KdfTells.j0 k a0 a1 a2 a3 (decide (a3 ≤ 4080))) else (clavigerlaw12_KdfTells.j0 k a0 a1 a2 a3 false))))) = some r := h
 clear h
 have HC5 := Aside0.mk H
 clear H
 go_enter Try.func24, Try.ntmps24
 go_upto_region 1 with (fail)
 go_cut [33] (fun v33 wc => ∃ (kq : Nat) (x33_4 : Bool), v33 = .bool x33_4 ∧ Aside0 (clavigerlaw12_KdfTells.j0 kq a0 a1 a2 a3 x33_4 = some r) ∧ Aside0 (kq ≤ k) ∧ Aside0 (Below w.heap.size w wc))
 case first =>
  have H := HC5.out
  clear HC5
  by_cases c6 : (a0.size : Int) > 100
  ·rw [if_pos c6] at H
   have c6b0 : decide (100 < (a0.size : Int)) = true := decide_eq_true c6
   have c6b1 : decide (100 < a0.size) = true := decide_eq_true (by omega)
   clear c6
   (first | rw [c6b0] | (simp only [i64_w, i32_w]; rw [c6b0]) | skip)
   have H' := Aside0.mk H
   clear H
   go_wp2
   go_meet
   case rel => exact ⟨_, (true), (by first | rfl | (simp; done) | (simp [*]; done)), H', ⟨by first | omega | exact Nat.le_refl _⟩, ⟨by repeat (first | (with_reducible first | exact HB.out | apply below_alloc | apply pw_below_drewN | apply below_drew1) | exact HB.out)⟩⟩
  ·rw [if_neg c6] at H
   have c6b0 : decide (100 < (a0.size : Int)) = false := decide_eq_false c6
   have c6b1 : decide (100 < a0.size) = false := decide_eq_false (by omega)
   clear c6
   (first | rw [c6b0] | (simp only [i64_w, i32_w]; rw [c6b0]) | skip)
   by_cases c7 : (a1.size : Int) > 100
   ·rw [if_pos c7] at H
    have c7b0 : decide (100 < (a1.size : Int)) = true := decide_eq_true c7
    have c7b1 : decide (100 < a1.size) = true := decide_eq_true (by omega)
    clear c7
    have H' := Aside0.mk H
    clear H
    go_wp2
    go_meet
    case rel => exact ⟨_, (true), (by first | rfl | (simp; done) | (simp [*]; done)), H', ⟨by first | omega | exact Nat.le_refl _⟩, ⟨by repeat (first | (with_reducible first | exact HB.out | apply below_alloc | apply pw_below_drewN | apply below_drew1) | exact HB.out)⟩⟩
   ·rw [if_neg c7] at H
    have c7b0 : decide (100 < (a1.size : Int)) = false := decide_eq_false c7
    have c7b1 : decide (100 < a1.size) = false := decide_eq_false (by omega)
    clear c7
    by_cases c8 : (a2.size : Int) > 100
    ·rw [if_pos c8] at H
     have c8b0 : decide (100 < (a2.size : Int)) = true := decide_eq_true c8
     have c8b1 : decide (100 < a2.size) = true := decide_eq_true (by omega)
     clear c8
     have H' := Aside0.mk H
     clear H
     go_wp2
     go_meet
     case rel => exact ⟨_, (true), (by first | rfl | (simp; done) | (simp [*]; done)), H', ⟨by first | omega | exact Nat.le_refl _⟩, ⟨by repeat (first | (with_reducible first | exact HB.out | apply below_alloc | apply pw_below_drewN | apply below_drew1) | exact HB.out)⟩⟩
    ·rw [if_neg c8] at H
     have c8b0 : decide (100 < (a2.size : Int)) = false := decide_eq_false c8
     have c8b1 : decide (100 < a2.size) = false := decide_eq_false (by omega)
     clear c8
     by_cases c9 : a3 > 100
     ·rw [if_pos c9] at H
      have c9b0 : decide (100 < a3) = true := decide_eq_true c9
      clear c9
      have H' := Aside0.mk H
      clear H
      go_wp2
      go_meet
      case rel => exact ⟨_, (decide (a3 ≤ 4080)), (by first | rfl | (simp; done) | (simp [*]; done)), H', ⟨by first | omega | exact Nat.le_refl _⟩, ⟨by repeat (first | (with_reducible first | exact HB.out | apply below_alloc | apply pw_below_drewN | apply below_drew1) | exact HB.out)⟩⟩
     ·rw [if_neg c9] at H
      have c9b0 : decide (100 < a3) = false := decide_eq_false c9
      clear c9
      have H' := Aside0.mk H
      clear H
      go_wp2
      go_meet
      case rel => exact ⟨_, (false), (by first | rfl | (simp; done) | (simp [*]; done)), H', ⟨by first | omega | exact Nat.le_refl _⟩, ⟨by repeat (first | (with_reducible first | exact HB.out | apply below_alloc | apply pw_below_drewN | apply below_drew1) | exact HB.out)⟩⟩
 case rest =>
  clear HC5
  try clear c2
  try clear p2
  try clear c6
  try clear c6b0
  try clear c6b1
  try clear c7
  try clear c7b0
  try clear c7b1
  try clear c8
  try clear c8b0
  try clear c8b1
  try clear c9
  try clear c9b0
  obtain ⟨kq, x33_4, rfl, HA, HJ4, HB⟩ := hcut
  cases kq with
  | zero => exact absurd HA.out (by simp [clavigerlaw12_KdfTells.j0])
  | succ kj4 =>
   have H := HA.out
   clear HA
   simp only [clavigerlaw12_KdfTells.j0] at H
   by_cases c10 : x33_4 = true
   ·subst c10
    have H1 : ((kdf_Rounds.f a3).bind fun t1 => ((clavigerref12_Rounds.f kj4 a3).bind fun t2 => (if t1 = t2 then ((clavigerlaw12_awake.f kj4).bind fun t3 => (some t3)) else (some false)))) = some r := by rw [if_pos rfl] at H; exact H
    clear H
    have H := H1
    clear H1
    replace H := Option.bind_eq_some_iff.mp H
    obtain ⟨t1, A110, H⟩ := H
    replace H : ((clavigerref12_Rounds.f kj4 a3).bind fun t2 => (if t1 = t2 then ((clavigerlaw12_awake.f kj4).bind fun t3 => (some t3)) else (some false))) = some r := H
    have A11 := Aside0.mk A110
    clear A110
    replace H := Option.bind_eq_some_iff.mp H
    obtain ⟨t2, A120, H⟩ := H
    replace H : (if t1 = t2 then ((clavigerlaw12_awake.f kj4).bind fun t3 => (some t3)) else (some false)) = some r := H
    have A12 := Aside0.mk A120
    clear A120
    by_cases c13 : t1 = t2
    ·rw [if_pos c13] at H
     have c13b0 : (t1 == t2) = true := beq_iff_eq.mpr c13
     have c13b1 : (t1 != t2) = false := bne_eq_false_iff_eq.mpr c13
     clear c13
     replace H := Option.bind_eq_some_iff.mp H
     obtain ⟨t3, A140, H⟩ := H
     replace H : (some t3) = some r := H
     have A14 := Aside0.mk A140
     clear A140
     obtain rfl := Option.some.inj H
     go_wp2_with (first | ((with_reducible refine gate_callee (f := 123) rfl ?_); refine goesL_ (some 35) rfl rfl Try.func123 (by kernel_rfl) rfl #[.int .i64 a3] rfl (by (try simp only [List.map_toArray, List.map_cons, List.map_nil]); first | done | rfl | (simp only [List.length_drop, List.length_take]; rfl) | (simp only [ByteArray.size_extract, Nat.min_self, Nat.sub_zero, ByteArray.size_append]; first | done | rfl)) ?_; (with_reducible refine (kdf_Rounds.calls a3 t1 _ A11.out).mono ?_); rintro e w' ⟨rfl, ⟨nd, rfl⟩⟩; refine ⟨_, rfl, ?_⟩) | ((with_reducible refine gate_callee (f := 124) rfl ?_); refine goesL_ (some 37) rfl rfl Try.func124 (by kernel_rfl) rfl #[.int .i64 a3] rfl (by (try simp only [List.map_toArray, List.map_cons, List.map_nil]); first | done | rfl | (simp only [List.length_drop, List.length_take]; rfl) | (simp only [ByteArray.size_extract, Nat.min_self, Nat.sub_zero, ByteArray.size_append]; first | done | rfl)) ?_; (with_reducible refine (clavigerref12_Rounds.calls kj4 a3 t2 _ A12.out).mono ?_); rintro e w' ⟨rfl, ⟨nd, rfl⟩⟩; refine ⟨_, rfl, ?_⟩) | (go_at_call 125; (with_reducible refine (clavigerlaw12_awake.calls kj4  t3 _ A14.out).mono ?_); rintro e w15 ⟨rfl, hb⟩; have n0_ := Aside0.mk (below_step (by repeat (first | (with_reducible first | exact HB.out | apply below_alloc | apply pw_below_drewN | apply below_drew1) | exact HB.out)) hb); clear HB; have HB := n0_; clear n0_; (try clear hb); (try clear hb2); (try clear hk); (try clear hi)))
     go_ret
     exact ⟨by first | rfl | (simp [errW_none, errW_some] <;> rfl) | (simp [*, errW_none, errW_some] <;> rfl), by repeat (first | (with_reducible first | exact HB.out | apply below_alloc | apply pw_below_drewN | apply below_drew1) | exact HB.out)⟩
    ·rw [if_neg c13] at H
     have c13b0 : (t1 == t2) = false := beq_eq_false_iff_ne.mpr c13
     have c13b1 : (t1 != t2) = true := bne_iff_ne.mpr c13
     obtain rfl := Option.some.inj H
     go_wp2_with (first | ((with_reducible refine gate_callee (f := 123) rfl ?_); refine goesL_ (some 35) rfl rfl Try.func123 (by kernel_rfl) rfl #[.int .i64 a3] rfl (by (try simp only [List.map_toArray, List.map_cons, List.map_nil]); first | done | rfl | (simp only [List.length_drop, List.length_take]; rfl) | (simp only [ByteArray.size_extract, Nat.min_self, Nat.sub_zero, ByteArray.size_append]; first | done | rfl)) ?_; (with_reducible refine (kdf_Rounds.calls a3 t1 _ A11.out).mono ?_); rintro e w' ⟨rfl, ⟨nd, rfl⟩⟩; refine ⟨_, rfl, ?_⟩) | ((with_reducible refine gate_callee (f := 124) rfl ?_); refine goesL_ (some 37) rfl rfl Try.func124 (by kernel_rfl) rfl #[.int .i64 a3] rfl (by (try simp only [List.map_toArray, List.map_cons, List.map_nil]); first | done | rfl | (simp only [List.length_drop, List.length_take]; rfl) | (simp only [ByteArray.size_extract, Nat.min_self, Nat.sub_zero, ByteArray.size_append]; first | done | rfl)) ?_; (with_reducible refine (clavigerref12_Rounds.calls kj4 a3 t2 _ A12.out).mono ?_); rintro e w' ⟨rfl, ⟨nd, rfl⟩⟩; refine ⟨_, rfl, ?_⟩))
     go_ret
     exact ⟨by first | rfl | (simp [errW_none, errW_some] <;> rfl) | (simp [*, errW_none, errW_some] <;> rfl), by repeat (first | (with_reducible first | exact HB.out | apply below_alloc | apply pw_below_drewN | apply below_drew1) | exact HB.out)⟩
   ·replace c10 := Bool.eq_false_iff.mpr c10
    subst c10
    have H1 : ((kdf_Counter.f kj4 a0 a1 a3).bind fun bt4 => ((clavigerref12_Counter.f kj4 a0 a1 a3).bind fun bt5 => (if bt4.1.toList = bt5.1.toList then (if bt4.2 = bt5.2 then ((kdf_Rounds.f a3).bind fun t6 => ((clavigerref12_Rounds.f kj4 a3).bind fun t7 => (if t6 = t7 then ((kdf_Fixed.f a1 a2 a3).bind fun t8 => ((clavigerref12_Fixed.f kj4 a1 a2 a3).bind fun t9 => (if t8.toList = t9.toList then ((clavigerlaw12_awake.f kj4).bind fun t10 => (some t10)) else (some false)))) else (some false)))) else (some false)) else (some false)))) = some r := by rw [if_neg (show ¬ (false = true) by decide)] at H; exact H
    clear H
    have H := H1
    clear H1
    replace H := Option.bind_eq_some_iff.mp H
    obtain ⟨⟨t4, t16⟩, A160, H⟩ := H
    replace H : ((clavigerref12_Counter.f kj4 a0 a1 a3).bind fun bt5 => (if t4.toList = bt5.1.toList then (if t16 = bt5.2 then ((kdf_Rounds.f a3).bind fun t6 => ((clavigerref12_Rounds.f kj4 a3).bind fun t7 => (if t6 = t7 then ((kdf_Fixed.f a1 a2 a3).bind fun t8 => ((clavigerref12_Fixed.f kj4 a1 a2 a3).bind fun t9 => (if t8.toList = t9.toList then ((clavigerlaw12_awake.f kj4).bind fun t10 => (some t10)) else (some false)))) else (some false)))) else (some false)) else (some false))) = some r := H
    have A16 := Aside0.mk A160
    clear A160
    replace H := Option.bind_eq_some_iff.mp H
    obtain ⟨⟨t5, t17⟩, A170, H⟩ := H
    replace H : (if t4.toList = t5.toList then (if t16 = t17 then ((kdf_Rounds.f a3).bind fun t6 => ((clavigerref12_Rounds.f kj4 a3).bind fun t7 => (if t6 = t7 then ((kdf_Fixed.f a1 a2 a3).bind fun t8 => ((clavigerref12_Fixed.f kj4 a1 a2 a3).bind fun t9 => (if t8.toList = t9.toList then ((clavigerlaw12_awake.f kj4).bind fun t10 => (some t10)) else (some false)))) else (some false)))) else (some false)) else (some false)) = some r := H
    have A17 := Aside0.mk A170
    clear A170
    by_cases c18 : t4.toList = t5.toList
    ·rw [if_pos c18] at H
     have c18b0 : (t4.toList == t5.toList) = true := beq_iff_eq.mpr c18
     have c18b1 : (t4.toList != t5.toList) = false := bne_eq_false_iff_eq.mpr c18
     clear c18
     by_cases c19 : t16 = t17
     ·rw [if_pos c19] at H
      have c19b0 : (t16 == t17) = true := beq_iff_eq.mpr c19
      have c19b1 : (t16 != t17) = false := bne_eq_false_iff_eq.mpr c19
      clear c19
      replace H := Option.bind_eq_some_iff.mp H
      obtain ⟨t6, A200, H⟩ := H
      replace H : ((clavigerref12_Rounds.f kj4 a3).bind fun t7 => (if t6 = t7 then ((kdf_Fixed.f a1 a2 a3).bind fun t8 => ((clavigerref12_Fixed.f kj4 a1 a2 a3).bind fun t9 => (if t8.toList = t9.toList then ((clavigerlaw12_awake.f kj4).bind fun t10 => (some t10)) else (some false)))) else (some false))) = some r := H
      have A20 := Aside0.mk A200
      clear A200
      replace H := Option.bind_eq_some_iff.mp H
      obtain ⟨t7, A210, H⟩ := H
      replace H : (if t6 = t7 then ((kdf_Fixed.f a1 a2 a3).bind fun t8 => ((clavigerref12_Fixed.f kj4 a1 a2 a3).bind fun t9 => (if t8.toList = t9.toList then ((clavigerlaw12_awake.f kj4).bind fun t10 => (some t10)) else (some false)))) else (some false)) = some r := H
      have A21 := Aside0.mk A210
      clear A210
      by_cases c22 : t6 = t7
      ·rw [if_pos c22] at H
       have c22b0 : (t6 == t7) = true := beq_iff_eq.mpr c22
       have c22b1 : (t6 != t7) = false := bne_eq_false_iff_eq.mpr c22
       clear c22
       replace H := Option.bind_eq_some_iff.mp H
       obtain ⟨t8, A230, H⟩ := H
       replace H : ((clavigerref12_Fixed.f kj4 a1 a2 a3).bind fun t9 => (if t8.toList = t9.toList then ((clavigerlaw12_awake.f kj4).bind fun t10 => (some t10)) else (some false))) = some r := H
       have A23 := Aside0.mk A230
       clear A230
       replace H := Option.bind_eq_some_iff.mp H
       obtain ⟨t9, A240, H⟩ := H
       replace H : (if t8.toList = t9.toList then ((clavigerlaw12_awake.f kj4).bind fun t10 => (some t10)) else (some false)) = some r := H
       have A24 := Aside0.mk A240
       clear A240
       by_cases c25 : t8.toList = t9.toList
       ·rw [if_pos c25] at H
        have c25b0 : (t8.toList == t9.toList) = true := beq_iff_eq.mpr c25
        have c25b1 : (t8.toList != t9.toList) = false := bne_eq_false_iff_eq.mpr c25
        clear c25
        replace H := Option.bind_eq_some_iff.mp H
        obtain ⟨t10, A260, H⟩ := H
        replace H : (some t10) = some r := H
        have A26 := Aside0.mk A260
        clear A260
        obtain rfl := Option.some.inj H
        go_wp2_with (first | ((with_reducible refine gate_callee (f := 126) rfl ?_); refine goesL_ (some 46) rfl rfl Try.func126 (by kernel_rfl) rfl #[.string a0, .string a1, .int .i64 a3] rfl (by (try simp only [List.map_toArray, List.map_cons, List.map_nil]); first | done | rfl | (simp only [List.length_drop, List.length_take]; rfl) | (simp only [ByteArray.size_extract, Nat.min_self, Nat.sub_zero, ByteArray.size_append]; first | done | rfl)) ?_; (with_reducible refine (kdf_Counter.calls kj4 a0 a1 a3 t4 t16 _ A16.out).mono ?_); rintro e w27 ⟨rfl, hb⟩; refine ⟨_, rfl, ?_⟩; have n0_ := Aside0.mk (below_step (by repeat (first | (with_reducible first | exact HB.out | apply below_alloc | apply pw_below_drewN | apply below_drew1) | exact HB.out)) hb); clear HB; have HB := n0_; clear n0_; (try clear hb); (try clear hb2); (try clear hk); (try clear hi)) | ((with_reducible refine gate_callee (f := 127) rfl ?_); refine goesL_ (some 53) rfl rfl Try.func127 (by kernel_rfl) rfl #[.string a0, .string a1, .int .i64 a3] rfl (by (try simp only [List.map_toArray, List.map_cons, List.map_nil]); first | done | rfl | (simp only [List.length_drop, List.length_take]; rfl) | (simp only [ByteArray.size_extract, Nat.min_self, Nat.sub_zero, ByteArray.size_append]; first | done | rfl)) ?_; (with_reducible refine (clavigerref12_Counter.calls kj4 a0 a1 a3 t5 t17 _ A17.out).mono ?_); rintro e w28 ⟨rfl, hb⟩; refine ⟨_, rfl, ?_⟩; have n0_ := Aside0.mk (below_step (by repeat (first | (with_reducible first | exact HB.out | apply below_alloc | apply pw_below_drewN | apply below_drew1) | exact HB.out)) hb); clear HB; have HB := n0_; clear n0_; (try clear hb); (try clear hb2); (try clear hk); (try clear hi)) | (go_at_call 123; (with_reducible refine (kdf_Rounds.calls a3 t6 _ A20.out).mono ?_); rintro e w' ⟨rfl, ⟨nd, rfl⟩⟩) | (go_at_call 124; (with_reducible refine (clavigerref12_Rounds.calls kj4 a3 t7 _ A21.out).mono ?_); rintro e w' ⟨rfl, ⟨nd, rfl⟩⟩) | (go_at_call 128; (with_reducible refine (kdf_Fixed.calls a1 a2 a3 t8 _ A23.out).mono ?_); rintro e w29 ⟨rfl, hb⟩; have n0_ := Aside0.mk (below_step (by repeat (first | (with_reducible first | exact HB.out | apply below_alloc | apply pw_below_drewN | apply below_drew1) | exact HB.out)) hb); clear HB; have HB := n0_; clear n0_; (try clear hb); (try clear hb2); (try clear hk); (try clear hi)) | (go_at_call 129; (with_reducible refine (clavigerref12_Fixed.calls kj4 a1 a2 a3 t9 _ A24.out).mono ?_); rintro e w30 ⟨rfl, hb⟩; have n0_ := Aside0.mk (below_step (by repeat (first | (with_reducible first | exact HB.out | apply below_alloc | apply pw_below_drewN | apply below_drew1) | exact HB.out)) hb); clear HB; have HB := n0_; clear n0_; (try clear hb); (try clear hb2); (try clear hk); (try clear hi)) | (go_at_call 125; (with_reducible refine (clavigerlaw12_awake.calls kj4  t10 _ A26.out).mono ?_); rintro e w31 ⟨rfl, hb⟩; have n0_ := Aside0.mk (below_step (by repeat (first | (with_reducible first | exact HB.out | apply below_alloc | apply pw_below_drewN | apply below_drew1) | exact HB.out)) hb); clear HB; have HB := n0_; clear n0_; (try clear hb); (try clear hb2); (try clear hk); (try clear hi)))
        go_ret
        exact ⟨by first | rfl | (simp [errW_none, errW_some] <;> rfl) | (simp [*, errW_none, errW_some] <;> rfl), by repeat (first | (with_reducible first | exact HB.out | apply below_alloc | apply pw_below_drewN | apply below_drew1) | exact HB.out)⟩
       ·rw [if_neg c25] at H
        have c25b0 : (t8.toList == t9.toList) = false := beq_eq_false_iff_ne.mpr c25
        have c25b1 : (t8.toList != t9.toList) = true := bne_iff_ne.mpr c25
        obtain rfl := Option.some.inj H
        go_wp2_with (first | ((with_reducible refine gate_callee (f := 126) rfl ?_); refine goesL_ (some 46) rfl rfl Try.func126 (by kernel_rfl) rfl #[.string a0, .string a1, .int .i64 a3] rfl (by (try simp only [List.map_toArray, List.map_cons, List.map_nil]); first | done | rfl | (simp only [List.length_drop, List.length_take]; rfl) | (simp only [ByteArray.size_extract, Nat.min_self, Nat.sub_zero, ByteArray.size_append]; first | done | rfl)) ?_; (with_reducible refine (kdf_Counter.calls kj4 a0 a1 a3 t4 t16 _ A16.out).mono ?_); rintro e w32 ⟨rfl, hb⟩; refine ⟨_, rfl, ?_⟩; have n0_ := Aside0.mk (below_step (by repeat (first | (with_reducible first | exact HB.out | apply below_alloc | apply pw_below_drewN | apply below_drew1) | exact HB.out)) hb); clear HB; have HB := n0_; clear n0_; (try clear hb); (try clear hb2); (try clear hk); (try clear hi)) | ((with_reducible refine gate_callee (f := 127) rfl ?_); refine goesL_ (some 53) rfl rfl Try.func127 (by kernel_rfl) rfl #[.string a0, .string a1, .int .i64 a3] rfl (by (try simp only [List.map_toArray, List.map_cons, List.map_nil]); first | done | rfl | (simp only [List.length_drop, List.length_take]; rfl) | (simp only [ByteArray.size_extract, Nat.min_self, Nat.sub_zero, ByteArray.size_append]; first | done | rfl)) ?_; (with_reducible refine (clavigerref12_Counter.calls kj4 a0 a1 a3 t5 t17 _ A17.out).mono ?_); rintro e w33 ⟨rfl, hb⟩; refine ⟨_, rfl, ?_⟩; have n0_ := Aside0.mk (below_step (by repeat (first | (with_reducible first | exact HB.out | apply below_alloc | apply pw_below_drewN | apply below_drew1) | exact HB.out)) hb); clear HB; have HB := n0_; clear n0_; (try clear hb); (try clear hb2); (try clear hk); (try clear hi)) | (go_at_call 123; (with_reducible refine (kdf_Rounds.calls a3 t6 _ A20.out).mono ?_); rintro e w' ⟨rfl, ⟨nd, rfl⟩⟩) | (go_at_call 124; (with_reducible refine (clavigerref12_Rounds.calls kj4 a3 t7 _ A21.out).mono ?_); rintro e w' ⟨rfl, ⟨nd, rfl⟩⟩) | (go_at_call 128; (with_reducible refine (kdf_Fixed.calls a1 a2 a3 t8 _ A23.out).mono ?_); rintro e w34 ⟨rfl, hb⟩; have n0_ := Aside0.mk (below_step (by repeat (first | (with_reducible first | exact HB.out | apply below_alloc | apply pw_below_drewN | apply below_drew1) | exact HB.out)) hb); clear HB; have HB := n0_; clear n0_; (try clear hb); (try clear hb2); (try clear hk); (try clear hi)) | (go_at_call 129; (with_reducible refine (clavigerref12_Fixed.calls kj4 a1 a2 a3 t9 _ A24.out).mono ?_); rintro e w35 ⟨rfl, hb⟩; have n0_ := Aside0.mk (below_step (by repeat (first | (with_reducible first | exact HB.out | apply below_alloc | apply pw_below_drewN | apply below_drew1) | exact HB.out)) hb); clear HB; have HB := n0_; clear n0_; (try clear hb); (try clear hb2); (try clear hk); (try clear hi)))
        go_ret
        exact ⟨by first | rfl | (simp [errW_none, errW_some] <;> rfl) | (simp [*, errW_none, errW_some] <;> rfl), by repeat (first | (with_reducible first | exact HB.out | apply below_alloc | apply pw_below_drewN | apply below_drew1) | exact HB.out)⟩
      ·rw [if_neg c22] at H
       have c22b0 : (t6 == t7) = false := beq_eq_false_iff_ne.mpr c22
       have c22b1 : (t6 != t7) = true := bne_iff_ne.mpr c22
       obtain rfl := Option.some.inj H
       go_wp2_with (first | ((with_reducible refine gate_callee (f := 126) rfl ?_); refine goesL_ (some 46) rfl rfl Try.func126 (by kernel_rfl) rfl #[.string a0, .string a1, .int .i64 a3] rfl (by (try simp only [List.map_toArray, List.map_cons, List.map_nil]); first | done | rfl | (simp only [List.length_drop, List.length_take]; rfl) | (simp only [ByteArray.size_extract, Nat.min_self, Nat.sub_zero, ByteArray.size_append]; first | done | rfl)) ?_; (with_reducible refine (kdf_Counter.calls kj4 a0 a1 a3 t4 t16 _ A16.out).mono ?_); rintro e w36 ⟨rfl, hb⟩; refine ⟨_, rfl, ?_⟩; have n0_ := Aside0.mk (below_step (by repeat (first | (with_reducible first | exact HB.out | apply below_alloc | apply pw_below_drewN | apply below_drew1) | exact HB.out)) hb); clear HB; have HB := n0_; clear n0_; (try clear hb); (try clear hb2); (try clear hk); (try clear hi)) | ((with_reducible refine gate_callee (f := 127) rfl ?_); refine goesL_ (some 53) rfl rfl Try.func127 (by kernel_rfl) rfl #[.string a0, .string a1, .int .i64 a3] rfl (by (try simp only [List.map_toArray, List.map_cons, List.map_nil]); first | done | rfl | (simp only [List.length_drop, List.length_take]; rfl) | (simp only [ByteArray.size_extract, Nat.min_self, Nat.sub_zero, ByteArray.size_append]; first | done | rfl)) ?_; (with_reducible refine (clavigerref12_Counter.calls kj4 a0 a1 a3 t5 t17 _ A17.out).mono ?_); rintro e w37 ⟨rfl, hb⟩; refine ⟨_, rfl, ?_⟩; have n0_ := Aside0.mk (below_step (by repeat (first | (with_reducible first | exact HB.out | apply below_alloc | apply pw_below_drewN | apply below_drew1) | exact HB.out)) hb); clear HB; have HB := n0_; clear n0_; (try clear hb); (try clear hb2); (try clear hk); (try clear hi)) | (go_at_call 123; (with_reducible refine (kdf_Rounds.calls a3 t6 _ A20.out).mono ?_); rintro e w' ⟨rfl, ⟨nd, rfl⟩⟩) | (go_at_call 124; (with_reducible refine (clavigerref12_Rounds.calls kj4 a3 t7 _ A21.out).mono ?_); rintro e w' ⟨rfl, ⟨nd, rfl⟩⟩))
       go_ret
       exact ⟨by first | rfl | (simp [errW_none, errW_some] <;> rfl) | (simp [*, errW_none, errW_some] <;> rfl), by repeat (first | (with_reducible first | exact HB.out | apply below_alloc | apply pw_below_drewN | apply below_drew1) | exact HB.out)⟩
     ·rw [if_neg c19] at H
      have c19b0 : (t16 == t17) = false := beq_eq_false_iff_ne.mpr c19
      have c19b1 : (t16 != t17) = true := bne_iff_ne.mpr c19
      obtain rfl := Option.some.inj H
      go_wp2_with (first | ((with_reducible refine gate_callee (f := 126) rfl ?_); refine goesL_ (some 46) rfl rfl Try.func126 (by kernel_rfl) rfl #[.string a0, .string a1, .int .i64 a3] rfl (by (try simp only [List.map_toArray, List.map_cons, List.map_nil]); first | done | rfl | (simp only [List.length_drop, List.length_take]; rfl) | (simp only [ByteArray.size_extract, Nat.min_self, Nat.sub_zero, ByteArray.size_append]; first | done | rfl)) ?_; (with_reducible refine (kdf_Counter.calls kj4 a0 a1 a3 t4 t16 _ A16.out).mono ?_); rintro e w38 ⟨rfl, hb⟩; refine ⟨_, rfl, ?_⟩; have n0_ := Aside0.mk (below_step (by repeat (first | (with_reducible first | exact HB.out | apply below_alloc | apply pw_below_drewN | apply below_drew1) | exact HB.out)) hb); clear HB; have HB := n0_; clear n0_; (try clear hb); (try clear hb2); (try clear hk); (try clear hi)) | ((with_reducible refine gate_callee (f := 127) rfl ?_); refine goesL_ (some 53) rfl rfl Try.func127 (by kernel_rfl) rfl #[.string a0, .string a1, .int .i64 a3] rfl (by (try simp only [List.map_toArray, List.map_cons, List.map_nil]); first | done | rfl | (simp only [List.length_drop, List.length_take]; rfl) | (simp only [ByteArray.size_extract, Nat.min_self, Nat.sub_zero, ByteArray.size_append]; first | done | rfl)) ?_; (with_reducible refine (clavigerref12_Counter.calls kj4 a0 a1 a3 t5 t17 _ A17.out).mono ?_); rintro e w39 ⟨rfl, hb⟩; refine ⟨_, rfl, ?_⟩; have n0_ := Aside0.mk (below_step (by repeat (first | (with_reducible first | exact HB.out | apply below_alloc | apply pw_below_drewN | apply below_drew1) | exact HB.out)) hb); clear HB; have HB := n0_; clear n0_; (try clear hb); (try clear hb2); (try clear hk); (try clear hi)))
      go_ret
      exact ⟨by first | rfl | (simp [errW_none, errW_some] <;> rfl) | (simp [*, errW_none, errW_some] <;> rfl), by repeat (first | (with_reducible first | exact HB.out | apply below_alloc | apply pw_below_drewN | apply below_drew1) | exact HB.out)⟩
    ·rw [if_neg c18] at H
     have c18b0 : (t4.toList == t5.toList) = false := beq_eq_false_iff_ne.mpr c18
     have c18b1 : (t4.toList != t5.toList) = true := bne_iff_ne.mpr c18
     obtain rfl := Option.some.inj H
     go_wp2_with (first | ((with_reducible refine gate_callee (f := 126) rfl ?_); refine goesL_ (some 46) rfl rfl Try.func126 (by kernel_rfl) rfl #[.string a0, .string a1, .int .i64 a3] rfl (by (try simp only [List.map_toArray, List.map_cons, List.map_nil]); first | done | rfl | (simp only [List.length_drop, List.length_take]; rfl) | (simp only [ByteArray.size_extract, Nat.min_self, Nat.sub_zero, ByteArray.size_append]; first | done | rfl)) ?_; (with_reducible refine (kdf_Counter.calls kj4 a0 a1 a3 t4 t16 _ A16.out).mono ?_); rintro e w40 ⟨rfl, hb⟩; refine ⟨_, rfl, ?_⟩; have n0_ := Aside0.mk (below_step (by repeat (first | (with_reducible first | exact HB.out | apply below_alloc | apply pw_below_drewN | apply below_drew1) | exact HB.out)) hb); clear HB; have HB := n0_; clear n0_; (try clear hb); (try clear hb2); (try clear hk); (try clear hi)) | ((with_reducible refine gate_callee (f := 127) rfl ?_); refine goesL_ (some 53) rfl rfl Try.func127 (by kernel_rfl) rfl #[.string a0, .string a1, .int .i64 a3] rfl (by (try simp only [List.map_toArray, List.map_cons, List.map_nil]); first | done | rfl | (simp only [List.length_drop, List.length_take]; rfl) | (simp only [ByteArray.size_extract, Nat.min_self, Nat.sub_zero, ByteArray.size_append]; first | done | rfl)) ?_; (with_reducible refine (clavigerref12_Counter.calls kj4 a0 a1 a3 t5 t17 _ A17.out).mono ?_); rintro e w41 ⟨rfl, hb⟩; refine ⟨_, rfl, ?_⟩; have n0_ := Aside0.mk (below_step (by repeat (first | (with_reducible first | exact HB.out | apply below_alloc | apply pw_below_drewN | apply below_drew1) | exact HB.out)) hb); clear HB; have HB := n0_; clear n0_; (try clear hb); (try clear hb2); (try clear hk); (try clear hi)))
     go_ret
     exact ⟨by first | rfl | (simp [errW_none, errW_some] <;> rfl) | (simp [*, errW_none, errW_some] <;> rfl), by repeat (first | (with_reducible first | exact HB.out | apply below_alloc | apply pw_below_drewN | apply below_drew1) | exact HB.out)⟩

/-- THE ONE PURE STATEMENT of clavigerlaw12_KdfTells: yours. -/
def clavigerlaw12_KdfTells.Pure : Prop := ∀ (a0 : ByteArray) (a1 : ByteArray) (a2 : ByteArray) (a3 : Int), a0.size ≤ 140737488351232 → a1.size ≤ 140737488351232 → a2.size ≤ 140737488351232 → (Lit.int .i64 a3).wf = true → ∃ k, clavigerlaw12_KdfTells.f k a0 a1 a2 a3 = some true
theorem clavigerlaw12_KdfTells.walk (P : clavigerlaw12_KdfTells.Pure) (a0 : ByteArray) (a1 : ByteArray) (a2 : ByteArray) (a3 : Int) (w : World) (w0 : a0.size ≤ 140737488351232) (w1 : a1.size ≤ 140737488351232) (w2 : a2.size ≤ 140737488351232) (w3 : (Lit.int .i64 a3).wf = true) :
  Calls Try.prog 24 #[.string a0, .string a1, .string a2, .int .i64 a3] w fun e w' => e = .returned (.bool true) ∧ Below w.heap.size w w' := by
 obtain ⟨k, h⟩ := P a0 a1 a2 a3 w0 w1 w2 w3
 refine (clavigerlaw12_KdfTells.calls k a0 a1 a2 a3 true w h).mono ?_
 rintro e w' ⟨rfl, hd⟩
 exact ⟨rfl, hd⟩

end Go.Proofs.Ytokkhnjedmlbhaa.Pr
