-- several texts in one (by the session's program shake.py)
import Derived.Test.YtokkhnjedmlbhaaZPrg05
import Derived.Test.YtokkhnjedmlbhaaZPrg08
import Derived.Test.YtokkhnjedmlbhaaZPrg07r
import Derived.Laws.BitsAllLaws
section
namespace Go.Proofs.Ytokkhnjedmlbhaa.Pr
open Go.RowKit Go.Proofs.YtokkhnjedmlbhaaW.PrintWords Go.Proofs.YtokkhnjedmlbhaaW.PrintLast Go.Proofs.YtokkhnjedmlbhaaW.PrintMore
attribute [local go_sem] max2_int min2_int max_two min_two max_three min_three max_four min_four   -- for this text's walks alone
set_option linter.unusedVariables false
set_option linter.unusedSimpArgs false

def clavigerref09_forward.l0 : Nat → List ByteArray → ByteArray → Int → Option (ByteArray)
 | 0, _, _, _ => none
 | k + 1, x0, x1, x5 => if x5 < (x0.length : Int) then (if 0 ≤ x5 then ((clavigerref07_Do.f k x1 (rdOf ByteArray.empty x0 x5) (x5 == (wrap64 ((x0.length : Int) - 1)))).bind fun t269 => (clavigerref09_forward.l0 k x0 t269 (wrap64 (x5 + 1)))) else (none)) else (some x1)
def clavigerref09_forward.f (k : Nat) (l0 : List ByteArray) (a1 : ByteArray) : Option (ByteArray) := if 0 < (l0.length : Int) then ((clavigerref07_Key.f k a1 (rdOf ByteArray.empty l0 0)).bind fun t267 => (clavigerref09_forward.l0 k l0 t267 1)) else (none)
theorem clavigerref09_forward.mono_l : ∀ k, (∀ y0 y1 y2, LeO (clavigerref09_forward.l0 k y0 y1 y2) (clavigerref09_forward.l0 (k + 1) y0 y1 y2))
 | 0 => fun _ _ _ r h => by simp [clavigerref09_forward.l0] at h
 | k + 1 => by
  have ih0 := clavigerref09_forward.mono_l k
  ·intro y0 y1 y2
   unfold clavigerref09_forward.l0
   repeat' first
   | (with_reducible exact ih0 _ _ _)
   | (with_reducible exact clavigerref07_Do.mono _ _ _ _)
   | (with_reducible exact clavigerref07_Key.mono _ _ _)
   | (with_reducible exact LeO.refl _)
   | (with_reducible exact LeO.none _)
   | (with_reducible refine LeO.ite ?_ ?_)
   | (with_reducible refine LeO.bind ?_ (fun _ => ?_))
   | exact ih0 _ _ _
   | exact clavigerref07_Do.mono _ _ _ _
   | exact clavigerref07_Key.mono _ _ _
   | exact LeO.none _
   | refine LeO.ite ?_ ?_
   | refine LeO.bind ?_ (fun _ => ?_)
theorem clavigerref09_forward.mono : ∀ a0 a1 k, LeO (clavigerref09_forward.f k a0 a1) (clavigerref09_forward.f (k + 1) a0 a1) := by
 intro a0 a1 k
 have ih0 := clavigerref09_forward.mono_l k
 unfold clavigerref09_forward.f
 repeat' first
   | (with_reducible exact ih0 _ _ _)
   | (with_reducible exact clavigerref07_Do.mono _ _ _ _)
   | (with_reducible exact clavigerref07_Key.mono _ _ _)
   | (with_reducible exact LeO.refl _)
   | (with_reducible exact LeO.none _)
   | (with_reducible refine LeO.ite ?_ ?_)
   | (with_reducible refine LeO.bind ?_ (fun _ => ?_))
   | exact ih0 _ _ _
   | exact clavigerref07_Do.mono _ _ _ _
   | exact clavigerref07_Key.mono _ _ _
   | exact LeO.none _
   | refine LeO.ite ?_ ?_
   | refine LeO.bind ?_ (fun _ => ?_)
set_option maxHeartbeats 8000000 in
set_option maxRecDepth 100000 in
theorem clavigerref09_forward.calls (k : Nat) (A0 : Option Addr) (c0 : Nat) (l0 : List ByteArray) (a1 : ByteArray) (r : ByteArray) (w : World) (hr0 : Kd.C Kd.string w A0 l0.length l0) (hc0 : l0.length ≤ c0) (h : clavigerref09_forward.f k l0 a1 = some r) :
  Calls Try.prog 190 #[.slice A0 l0.length c0, .string a1] w fun e w' => e = .returned (.string r) ∧ Below w.heap.size w w' := by
 have HR0 := Aside0.mk hr0
 have HC0 := Aside0.mk hc0
 clear hr0 hc0
 have HB := Aside0.mk (Below.refl w.heap.size w)
 have H : (if 0 < (l0.length : Int) then ((clavigerref07_Key.f k a1 (rdOf ByteArray.empty l0 0)).bind fun t267 => (clavigerref09_forward.l0 k l0 t267 1)) else (none)) = some r := h
 clear h
 by_cases c3 : 0 < (l0.length : Int)
 ·rw [if_pos c3] at H
  have c3b0 : decide (0 < (l0.length : Int)) = true := decide_eq_true c3
  have c3b1 : decide (0 < l0.length) = true := decide_eq_true (by omega)
  clear c3
  replace H := Option.bind_eq_some_iff.mp H
  obtain ⟨t267, A40, H⟩ := H
  replace H : (clavigerref09_forward.l0 k l0 t267 1) = some r := H
  have A4 := Aside0.mk A40
  clear A40
  have H' := Aside0.mk H
  clear H
  have p266 : 0 ≤ (0 : Int) := (by omega)
  have q266 : 0 < (l0.length : Int) := of_decide_eq_true (by first | (with_reducible assumption) | assumption)
  obtain ⟨ad266, e266, hx266_0⟩ := Kd.at_string HR0.out 0 p266 q266
  cases e266
  have qi266 : (0 < l0.length) = True := eq_true (by omega)
  (try rw [show ((0 : Int)).toNat = 0 from rfl] at hx266_0)
  (try rw [Addr.add_zero'] at hx266_0)
  replace p266 := eq_true p266
  replace q266 := eq_true q266
  go_enter Try.func190, Try.ntmps190
  go_wp2_with (first | ((with_reducible refine gate_callee (f := 81) rfl ?_); refine goesL_ (some 10) rfl rfl Try.func81 (by kernel_rfl) rfl #[.string a1, .string (rdOf ByteArray.empty l0 0)] rfl (by (try simp only [List.map_toArray, List.map_cons, List.map_nil]); first | done | rfl | (simp only [List.length_drop, List.length_take]; rfl) | (simp only [ByteArray.size_extract, Nat.min_self, Nat.sub_zero, ByteArray.size_append]; first | done | rfl)) ?_; (with_reducible refine (clavigerref07_Key.calls k a1 (rdOf ByteArray.empty l0 0) t267 _ A4.out).mono ?_); rintro e w5 ⟨rfl, hb⟩; refine ⟨_, rfl, ?_⟩; have n0_ := Aside0.mk (below_step (by repeat (first | (with_reducible first | exact HB.out | apply below_alloc | apply pw_below_drewN | apply below_drew1) | exact HB.out)) hb); clear HB; have HB := n0_; clear n0_; (try clear hb); (try clear hb2); (try clear hk); (try clear hi)))
  go_loopg [1, 5] k (fun kq v1 v5 w' => ∃ (x1_1 : ByteArray) (x5_1 : Int), v1 = .string x1_1 ∧ v5 = .int .i64 x5_1 ∧ Aside0 (clavigerref09_forward.l0 kq l0 x1_1 x5_1 = some r) ∧ Aside0 (kq ≤ k) ∧ Aside0 (Below w.heap.size w w'))
  case atStart => exact ⟨(t267), (1), (by first | rfl | (simp; done) | (simp [*]; done)), (by first | rfl | (simp; done) | (simp [*]; done)), H', ⟨Nat.le_refl _⟩, ⟨by repeat (first | (with_reducible first | exact HB.out | apply below_alloc | apply pw_below_drewN | apply below_drew1) | exact HB.out)⟩⟩
  case round =>
   clear H'
   try clear c1
   try clear p2
   try clear q2
   try clear hx2
   try clear qi2
   try clear c3
   try clear c3b0
   try clear c3b1
   try clear hx266_0
   try clear p266
   try clear q266
   obtain ⟨x1_1, x5_1, rfl, rfl, HA, HK1, HB⟩ := hrel
   cases gk with
   | zero => exact absurd HA.out (by simp [clavigerref09_forward.l0])
   | succ k1 =>
    have H := HA.out
    clear HA
    simp only [clavigerref09_forward.l0] at H
    by_cases c6 : x5_1 < (l0.length : Int)
    ·rw [if_pos c6] at H
     have c6b0 : decide (x5_1 < (l0.length : Int)) = true := decide_eq_true c6
     clear c6
     by_cases c7 : 0 ≤ x5_1
     ·rw [if_pos c7] at H
      have c7b0 : decide (0 ≤ x5_1) = true := decide_eq_true c7
      clear c7
      replace H := Option.bind_eq_some_iff.mp H
      obtain ⟨t269, A80, H⟩ := H
      replace H : (clavigerref09_forward.l0 k1 l0 t269 (wrap64 (x5_1 + 1))) = some r := H
      have A8 := Aside0.mk A80
      clear A80
      have H' := Aside0.mk H
      clear H
      have p268 : 0 ≤ (x5_1 : Int) := of_decide_eq_true (by first | (with_reducible assumption) | assumption)
      have q268 : x5_1 < (l0.length : Int) := of_decide_eq_true (by first | (with_reducible assumption) | assumption)
      obtain ⟨ad268, e268, hx268_0⟩ := Kd.at_string HR0.out x5_1 p268 q268
      obtain rfl : ad266 = ad268 := (by injection e268)
      replace hx268_0 := (HB.out.cell (World.block_lt_of_cell? w _ hx268_0)).trans hx268_0
      replace p268 := eq_true p268
      replace q268 := eq_true q268
      go_wp2_with (first | ((with_reducible refine gate_callee (f := 83) rfl ?_); refine goesL_ (some 27) rfl rfl Try.func83 (by kernel_rfl) rfl #[.string x1_1, .string (rdOf ByteArray.empty l0 x5_1), .bool (x5_1 == (wrap64 ((l0.length : Int) - 1)))] rfl (by (try simp only [List.map_toArray, List.map_cons, List.map_nil]); first | done | rfl | (simp only [List.length_drop, List.length_take]; rfl) | (simp only [ByteArray.size_extract, Nat.min_self, Nat.sub_zero, ByteArray.size_append]; first | done | rfl)) ?_; (with_reducible refine (clavigerref07_Do.calls k1 x1_1 (rdOf ByteArray.empty l0 x5_1) (x5_1 == (wrap64 ((l0.length : Int) - 1))) t269 _ A8.out).mono ?_); rintro e w9 ⟨rfl, hb⟩; refine ⟨_, rfl, ?_⟩; have n0_ := Aside0.mk (below_step (by repeat (first | (with_reducible first | exact HB.out | apply below_alloc | apply pw_below_drewN | apply below_drew1) | exact HB.out)) hb); clear HB; have HB := n0_; clear n0_; (try clear hb); (try clear hb2); (try clear hk); (try clear hi)))
      go_roundg k1
      case measure => have := HK1.out; omega
      case rel => exact ⟨(t269), (wrap64 (x5_1 + 1)), (by first | rfl | (simp; done) | (simp [*]; done)), (by first | rfl | (simp; done) | (simp [*]; done)), H', ⟨by have := HK1.out; omega⟩, ⟨by repeat (first | (with_reducible first | exact HB.out | apply below_alloc | apply pw_below_drewN | apply below_drew1) | exact HB.out)⟩⟩
     ·rw [if_neg c7] at H
      exact absurd H (by simp)
    ·rw [if_neg c6] at H
     have c6b0 : decide (x5_1 < (l0.length : Int)) = false := decide_eq_false c6
     clear c6
     obtain rfl := Option.some.inj H
     go_wp2
     go_ret
     exact ⟨by first | rfl | (simp [errW_none, errW_some] <;> rfl) | (simp [*, errW_none, errW_some] <;> rfl), by repeat (first | (with_reducible first | exact HB.out | apply below_alloc | apply pw_below_drewN | apply below_drew1) | exact HB.out)⟩
 ·rw [if_neg c3] at H
  exact absurd H (by simp)

def clavigerref09_Encrypt.f (k : Nat) (a0 : ByteArray) (a1 : ByteArray) : Option (ByteArray × Int) := (clavigerref08_Keys.f k a0).bind fun bt270 => (if bt270.2 = 0 then (if (a1.size : Int) = 16 then ((clavigerref09_forward.f k bt270.1 a1).bind fun t274 => (some (t274, 0))) else (some ((⟨#[]⟩ : ByteArray), 4))) else (some ((⟨#[]⟩ : ByteArray), bt270.2)))
theorem clavigerref09_Encrypt.mono : ∀ a0 a1 k, LeO (clavigerref09_Encrypt.f k a0 a1) (clavigerref09_Encrypt.f (k + 1) a0 a1) := by
 intro a0 a1 k
 unfold clavigerref09_Encrypt.f
 repeat' first
   | (with_reducible exact clavigerref08_Keys.mono _ _)
   | (with_reducible exact clavigerref09_forward.mono _ _ _)
   | (with_reducible exact LeO.refl _)
   | (with_reducible exact LeO.none _)
   | (with_reducible refine LeO.ite ?_ ?_)
   | (with_reducible refine LeO.bind ?_ (fun _ => ?_))
   | exact clavigerref08_Keys.mono _ _
   | exact clavigerref09_forward.mono _ _ _
   | exact LeO.none _
   | refine LeO.ite ?_ ?_
   | refine LeO.bind ?_ (fun _ => ?_)
set_option maxHeartbeats 8000000 in
set_option maxRecDepth 100000 in
theorem clavigerref09_Encrypt.calls (k : Nat) (a0 : ByteArray) (a1 : ByteArray) (r1 : ByteArray) (r2 : Int) (w : World) (h : clavigerref09_Encrypt.f k a0 a1 = some (r1, r2)) :
  Calls Try.prog 99 #[.string a0, .string a1] w fun e w' => e = .returned (.tuple #[.string r1, .int .i64 r2]) ∧ Below w.heap.size w w' := by
 have HB := Aside0.mk (Below.refl w.heap.size w)
 have H : ((clavigerref08_Keys.f k a0).bind fun bt270 => (if bt270.2 = 0 then (if (a1.size : Int) = 16 then ((clavigerref09_forward.f k bt270.1 a1).bind fun t274 => (some (t274, 0))) else (some ((⟨#[]⟩ : ByteArray), 4))) else (some ((⟨#[]⟩ : ByteArray), bt270.2)))) = some (r1, r2) := h
 clear h
 replace H := Option.bind_eq_some_iff.mp H
 obtain ⟨⟨t270, t271⟩, A30, H⟩ := H
 replace H : (if t271 = 0 then (if (a1.size : Int) = 16 then ((clavigerref09_forward.f k t270 a1).bind fun t274 => (some (t274, 0))) else (some ((⟨#[]⟩ : ByteArray), 4))) else (some ((⟨#[]⟩ : ByteArray), t271))) = some (r1, r2) := H
 have A3 := Aside0.mk A30
 clear A30
 by_cases c4 : t271 = 0
 ·rw [if_pos c4] at H
  have c4b0 : (t271 == 0) = true := beq_iff_eq.mpr c4
  have c4b1 : (t271 != 0) = false := bne_eq_false_iff_eq.mpr c4
  clear c4
  by_cases c5 : (a1.size : Int) = 16
  ·rw [if_pos c5] at H
   have c5b0 : ((a1.size : Int) == 16) = true := beq_iff_eq.mpr c5
   have c5b1 : ((a1.size : Int) != 16) = false := bne_eq_false_iff_eq.mpr c5
   clear c5
   replace H := Option.bind_eq_some_iff.mp H
   obtain ⟨t274, A60, H⟩ := H
   replace H : (some (t274, 0)) = some (r1, r2) := H
   have A6 := Aside0.mk A60
   clear A60
   simp only [Option.some.injEq, Prod.mk.injEq] at H
   obtain ⟨rfl, rfl⟩ := H
   go_enter Try.func99, Try.ntmps99
   go_wp2_with (first | ((with_reducible refine gate_callee (f := 91) rfl ?_); refine goesL_ (some 10) rfl rfl Try.func91 (by kernel_rfl) rfl #[.string a0] rfl (by (try simp only [List.map_toArray, List.map_cons, List.map_nil]); first | done | rfl | (simp only [List.length_drop, List.length_take]; rfl) | (simp only [ByteArray.size_extract, Nat.min_self, Nat.sub_zero, ByteArray.size_append]; first | done | rfl)) ?_; (with_reducible refine (clavigerref08_Keys.calls k a0 t270 t271 _ A3.out).mono ?_); rintro e w7 ⟨v272, rfl, ho0, hb⟩; refine ⟨_, rfl, ?_⟩; have n0_ := Aside0.mk (Kd.R_lower ho0 (below_size (by repeat (first | (with_reducible first | exact HB.out | apply below_alloc | apply pw_below_drewN | apply below_drew1) | exact HB.out)))); have n1_ := Aside0.mk (below_step (by repeat (first | (with_reducible first | exact HB.out | apply below_alloc | apply pw_below_drewN | apply below_drew1) | exact HB.out)) hb); clear HB; have HO273 := n0_; have HB := n1_; clear n0_ n1_; (try clear hb); (try clear hb2); (try clear hk); (try clear hi); (try clear ho0); obtain ⟨Ao8, co8, eo8⟩ := Kd.R_slice HO273.out; subst eo8) | ((with_reducible refine gate_callee (f := 190) rfl ?_); refine goesL_ (some 21) rfl rfl Try.func190 (by kernel_rfl) rfl #[.slice Ao8 t270.length co8, .string a1] rfl (by (try simp only [List.map_toArray, List.map_cons, List.map_nil]); first | done | rfl | (simp only [List.length_drop, List.length_take]; rfl) | (simp only [ByteArray.size_extract, Nat.min_self, Nat.sub_zero, ByteArray.size_append]; first | done | rfl)) ?_; (with_reducible refine (clavigerref09_forward.calls k _ _ t270 a1 t274 _ ?side1 ?side2 A6.out).mono ?_); (case side1 => repeat (first | exact (Kd.R_reads' HO273.out).2.2 | (with_reducible refine Kd.C_alloc ?_ _) | (with_reducible refine Kd.C_drewN ?_ _) | (with_reducible refine Kd.C_drew ?_))); (case side2 => exact (Kd.R_reads' HO273.out).2.1); rintro e w9 ⟨rfl, hb⟩; refine ⟨_, rfl, ?_⟩; have n0_ := Aside0.mk (Kd.R_below (by (with_reducible repeat (first | apply Kd.R_alloc | apply Kd.R_drewN | apply Kd.R_drew)); exact HO273.out) hb); have n1_ := Aside0.mk (below_step (by repeat (first | (with_reducible first | exact HB.out | apply below_alloc | apply pw_below_drewN | apply below_drew1) | exact HB.out)) hb); clear HO273; clear HB; have HO273 := n0_; have HB := n1_; clear n0_ n1_; (try clear hb); (try clear hb2); (try clear hk); (try clear hi)))
   go_ret2
   exact ⟨by first | rfl | (simp [errW_none, errW_some] <;> rfl) | (simp [*, errW_none, errW_some] <;> rfl), by repeat (first | (with_reducible first | exact HB.out | apply below_alloc | apply pw_below_drewN | apply below_drew1) | exact HB.out)⟩
  ·rw [if_neg c5] at H
   have c5b0 : ((a1.size : Int) == 16) = false := beq_eq_false_iff_ne.mpr c5
   have c5b1 : ((a1.size : Int) != 16) = true := bne_iff_ne.mpr c5
   simp only [Option.some.injEq, Prod.mk.injEq] at H
   obtain ⟨rfl, rfl⟩ := H
   go_enter Try.func99, Try.ntmps99
   go_wp2_with (first | ((with_reducible refine gate_callee (f := 91) rfl ?_); refine goesL_ (some 10) rfl rfl Try.func91 (by kernel_rfl) rfl #[.string a0] rfl (by (try simp only [List.map_toArray, List.map_cons, List.map_nil]); first | done | rfl | (simp only [List.length_drop, List.length_take]; rfl) | (simp only [ByteArray.size_extract, Nat.min_self, Nat.sub_zero, ByteArray.size_append]; first | done | rfl)) ?_; (with_reducible refine (clavigerref08_Keys.calls k a0 t270 t271 _ A3.out).mono ?_); rintro e w10 ⟨v272, rfl, ho0, hb⟩; refine ⟨_, rfl, ?_⟩; have n0_ := Aside0.mk (Kd.R_lower ho0 (below_size (by repeat (first | (with_reducible first | exact HB.out | apply below_alloc | apply pw_below_drewN | apply below_drew1) | exact HB.out)))); have n1_ := Aside0.mk (below_step (by repeat (first | (with_reducible first | exact HB.out | apply below_alloc | apply pw_below_drewN | apply below_drew1) | exact HB.out)) hb); clear HB; have HO273 := n0_; have HB := n1_; clear n0_ n1_; (try clear hb); (try clear hb2); (try clear hk); (try clear hi); (try clear ho0)))
   go_ret2
   exact ⟨by first | rfl | (simp [errW_none, errW_some] <;> rfl) | (simp [*, errW_none, errW_some] <;> rfl), by repeat (first | (with_reducible first | exact HB.out | apply below_alloc | apply pw_below_drewN | apply below_drew1) | exact HB.out)⟩
 ·rw [if_neg c4] at H
  have c4b0 : (t271 == 0) = false := beq_eq_false_iff_ne.mpr c4
  have c4b1 : (t271 != 0) = true := bne_iff_ne.mpr c4
  simp only [Option.some.injEq, Prod.mk.injEq] at H
  obtain ⟨rfl, rfl⟩ := H
  go_enter Try.func99, Try.ntmps99
  go_wp2_with (first | ((with_reducible refine gate_callee (f := 91) rfl ?_); refine goesL_ (some 10) rfl rfl Try.func91 (by kernel_rfl) rfl #[.string a0] rfl (by (try simp only [List.map_toArray, List.map_cons, List.map_nil]); first | done | rfl | (simp only [List.length_drop, List.length_take]; rfl) | (simp only [ByteArray.size_extract, Nat.min_self, Nat.sub_zero, ByteArray.size_append]; first | done | rfl)) ?_; (with_reducible refine (clavigerref08_Keys.calls k a0 t270 t271 _ A3.out).mono ?_); rintro e w11 ⟨v272, rfl, ho0, hb⟩; refine ⟨_, rfl, ?_⟩; have n0_ := Aside0.mk (Kd.R_lower ho0 (below_size (by repeat (first | (with_reducible first | exact HB.out | apply below_alloc | apply pw_below_drewN | apply below_drew1) | exact HB.out)))); have n1_ := Aside0.mk (below_step (by repeat (first | (with_reducible first | exact HB.out | apply below_alloc | apply pw_below_drewN | apply below_drew1) | exact HB.out)) hb); clear HB; have HO273 := n0_; have HB := n1_; clear n0_ n1_; (try clear hb); (try clear hb2); (try clear hk); (try clear hi); (try clear ho0)))
  go_ret2
  exact ⟨by first | rfl | (simp [errW_none, errW_some] <;> rfl) | (simp [*, errW_none, errW_some] <;> rfl), by repeat (first | (with_reducible first | exact HB.out | apply below_alloc | apply pw_below_drewN | apply below_drew1) | exact HB.out)⟩

def clavigerref09_backward.l0 : Nat → List ByteArray → ByteArray → Int → Option (ByteArray)
 | 0, _, _, _ => none
 | k + 1, x0, x1, x5 => if x5 > 0 then (if 0 ≤ x5 then (if x5 < (x0.length : Int) then ((clavigerref07_Undo.f k x1 (rdOf ByteArray.empty x0 x5) (x5 == (wrap64 ((x0.length : Int) - 1)))).bind fun t388 => (clavigerref09_backward.l0 k x0 t388 (wrap64 (x5 - 1)))) else (none)) else (none)) else (if 0 < (x0.length : Int) then ((clavigerref07_Key.f k x1 (rdOf ByteArray.empty x0 0)).bind fun t390 => (some t390)) else (none))
def clavigerref09_backward.f (k : Nat) (l0 : List ByteArray) (a1 : ByteArray) : Option (ByteArray) := clavigerref09_backward.l0 k l0 a1 (wrap64 ((l0.length : Int) - 1))
theorem clavigerref09_backward.mono_l : ∀ k, (∀ y0 y1 y2, LeO (clavigerref09_backward.l0 k y0 y1 y2) (clavigerref09_backward.l0 (k + 1) y0 y1 y2))
 | 0 => fun _ _ _ r h => by simp [clavigerref09_backward.l0] at h
 | k + 1 => by
  have ih0 := clavigerref09_backward.mono_l k
  ·intro y0 y1 y2
   unfold clavigerref09_backward.l0
   repeat' first
   | (with_reducible exact ih0 _ _ _)
   | (with_reducible exact clavigerref07_Key.mono _ _ _)
   | (with_reducible exact clavigerref07_Undo.mono _ _ _ _)
   | (with_reducible exact LeO.refl _)
   | (with_reducible exact LeO.none _)
   | (with_reducible refine LeO.ite ?_ ?_)
   | (with_reducible refine LeO.bind ?_ (fun _ => ?_))
   | exact ih0 _ _ _
   | exact clavigerref07_Key.mono _ _ _
   | exact clavigerref07_Undo.mono _ _ _ _
   | exact LeO.none _
   | refine LeO.ite ?_ ?_
   | refine LeO.bind ?_ (fun _ => ?_)
theorem clavigerref09_backward.mono : ∀ a0 a1 k, LeO (clavigerref09_backward.f k a0 a1) (clavigerref09_backward.f (k + 1) a0 a1) := by
 intro a0 a1 k
 have ih0 := clavigerref09_backward.mono_l k
 unfold clavigerref09_backward.f
 repeat' first
   | (with_reducible exact ih0 _ _ _)
   | (with_reducible exact clavigerref07_Key.mono _ _ _)
   | (with_reducible exact clavigerref07_Undo.mono _ _ _ _)
   | (with_reducible exact LeO.refl _)
   | (with_reducible exact LeO.none _)
   | (with_reducible refine LeO.ite ?_ ?_)
   | (with_reducible refine LeO.bind ?_ (fun _ => ?_))
   | exact ih0 _ _ _
   | exact clavigerref07_Key.mono _ _ _
   | exact clavigerref07_Undo.mono _ _ _ _
   | exact LeO.none _
   | refine LeO.ite ?_ ?_
   | refine LeO.bind ?_ (fun _ => ?_)
set_option maxHeartbeats 8000000 in
set_option maxRecDepth 100000 in
theorem clavigerref09_backward.calls (k : Nat) (A0 : Option Addr) (c0 : Nat) (l0 : List ByteArray) (a1 : ByteArray) (r : ByteArray) (w : World) (hr0 : Kd.C Kd.string w A0 l0.length l0) (hc0 : l0.length ≤ c0) (h : clavigerref09_backward.f k l0 a1 = some r) :
  Calls Try.prog 191 #[.slice A0 l0.length c0, .string a1] w fun e w' => e = .returned (.string r) ∧ Below w.heap.size w w' := by
 have HR0 := Aside0.mk hr0
 have HC0 := Aside0.mk hc0
 clear hr0 hc0
 have HB := Aside0.mk (Below.refl w.heap.size w)
 have H : (clavigerref09_backward.l0 k l0 a1 (wrap64 ((l0.length : Int) - 1))) = some r := h
 clear h
 have H' := Aside0.mk H
 clear H
 go_enter Try.func191, Try.ntmps191
 go_wp2
 go_loopg [1, 5] k (fun kq v1 v5 w' => ∃ (x1_1 : ByteArray) (x5_1 : Int), v1 = .string x1_1 ∧ v5 = .int .i64 x5_1 ∧ Aside0 (clavigerref09_backward.l0 kq l0 x1_1 x5_1 = some r) ∧ Aside0 (kq ≤ k) ∧ Aside0 (Below w.heap.size w w'))
 case atStart => exact ⟨(a1), (wrap64 ((l0.length : Int) - 1)), (by first | rfl | (simp; done) | (simp [*]; done)), (by first | rfl | (simp; done) | (simp [*]; done)), H', ⟨Nat.le_refl _⟩, ⟨by repeat (first | (with_reducible first | exact HB.out | apply below_alloc | apply pw_below_drewN | apply below_drew1) | exact HB.out)⟩⟩
 case round =>
  clear H'
  try clear c1
  try clear p2
  obtain ⟨x1_1, x5_1, rfl, rfl, HA, HK1, HB⟩ := hrel
  cases gk with
  | zero => exact absurd HA.out (by simp [clavigerref09_backward.l0])
  | succ k1 =>
   have H := HA.out
   clear HA
   simp only [clavigerref09_backward.l0] at H
   by_cases c3 : x5_1 > 0
   ·rw [if_pos c3] at H
    have c3b0 : decide (0 < x5_1) = true := decide_eq_true c3
    clear c3
    by_cases c4 : 0 ≤ x5_1
    ·rw [if_pos c4] at H
     have c4b0 : decide (0 ≤ x5_1) = true := decide_eq_true c4
     clear c4
     by_cases c5 : x5_1 < (l0.length : Int)
     ·rw [if_pos c5] at H
      have c5b0 : decide (x5_1 < (l0.length : Int)) = true := decide_eq_true c5
      clear c5
      replace H := Option.bind_eq_some_iff.mp H
      obtain ⟨t388, A60, H⟩ := H
      replace H : (clavigerref09_backward.l0 k1 l0 t388 (wrap64 (x5_1 - 1))) = some r := H
      have A6 := Aside0.mk A60
      clear A60
      have H' := Aside0.mk H
      clear H
      have p387 : 0 ≤ (x5_1 : Int) := of_decide_eq_true (by first | (with_reducible assumption) | assumption)
      have q387 : x5_1 < (l0.length : Int) := of_decide_eq_true (by first | (with_reducible assumption) | assumption)
      obtain ⟨ad387, e387, hx387_0⟩ := Kd.at_string HR0.out x5_1 p387 q387
      cases e387
      replace hx387_0 := (HB.out.cell (World.block_lt_of_cell? w _ hx387_0)).trans hx387_0
      replace p387 := eq_true p387
      replace q387 := eq_true q387
      go_wp2_with (first | ((with_reducible refine gate_callee (f := 85) rfl ?_); refine goesL_ (some 23) rfl rfl Try.func85 (by kernel_rfl) rfl #[.string x1_1, .string (rdOf ByteArray.empty l0 x5_1), .bool (x5_1 == (wrap64 ((l0.length : Int) - 1)))] rfl (by (try simp only [List.map_toArray, List.map_cons, List.map_nil]); first | done | rfl | (simp only [List.length_drop, List.length_take]; rfl) | (simp only [ByteArray.size_extract, Nat.min_self, Nat.sub_zero, ByteArray.size_append]; first | done | rfl)) ?_; (with_reducible refine (clavigerref07_Undo.calls k1 x1_1 (rdOf ByteArray.empty l0 x5_1) (x5_1 == (wrap64 ((l0.length : Int) - 1))) t388 _ A6.out).mono ?_); rintro e w7 ⟨rfl, hb⟩; refine ⟨_, rfl, ?_⟩; have n0_ := Aside0.mk (below_step (by repeat (first | (with_reducible first | exact HB.out | apply below_alloc | apply pw_below_drewN | apply below_drew1) | exact HB.out)) hb); clear HB; have HB := n0_; clear n0_; (try clear hb); (try clear hb2); (try clear hk); (try clear hi)))
      go_roundg k1
      case measure => have := HK1.out; omega
      case rel => exact ⟨(t388), (wrap64 (x5_1 - 1)), (by first | rfl | (simp; done) | (simp [*]; done)), (by first | rfl | (simp; done) | (simp [*]; done)), H', ⟨by have := HK1.out; omega⟩, ⟨by repeat (first | (with_reducible first | exact HB.out | apply below_alloc | apply pw_below_drewN | apply below_drew1) | exact HB.out)⟩⟩
     ·rw [if_neg c5] at H
      exact absurd H (by simp)
    ·rw [if_neg c4] at H
     exact absurd H (by simp)
   ·rw [if_neg c3] at H
    have c3b0 : decide (0 < x5_1) = false := decide_eq_false c3
    clear c3
    by_cases c8 : 0 < (l0.length : Int)
    ·rw [if_pos c8] at H
     have c8b0 : decide (0 < (l0.length : Int)) = true := decide_eq_true c8
     have c8b1 : decide (0 < l0.length) = true := decide_eq_true (by omega)
     clear c8
     replace H := Option.bind_eq_some_iff.mp H
     obtain ⟨t390, A90, H⟩ := H
     replace H : (some t390) = some r := H
     have A9 := Aside0.mk A90
     clear A90
     obtain rfl := Option.some.inj H
     have p389 : 0 ≤ (0 : Int) := (by omega)
     have q389 : 0 < (l0.length : Int) := of_decide_eq_true (by first | (with_reducible assumption) | assumption)
     obtain ⟨ad389, e389, hx389_0⟩ := Kd.at_string HR0.out 0 p389 q389
     cases e389
     have qi389 : (0 < l0.length) = True := eq_true (by omega)
     (try rw [show ((0 : Int)).toNat = 0 from rfl] at hx389_0)
     (try rw [Addr.add_zero'] at hx389_0)
     replace hx389_0 := (HB.out.cell (World.block_lt_of_cell? w _ hx389_0)).trans hx389_0
     replace p389 := eq_true p389
     replace q389 := eq_true q389
     go_wp2_with (first | ((with_reducible refine gate_callee (f := 81) rfl ?_); refine goesL_ (some 28) rfl rfl Try.func81 (by kernel_rfl) rfl #[.string x1_1, .string (rdOf ByteArray.empty l0 0)] rfl (by (try simp only [List.map_toArray, List.map_cons, List.map_nil]); first | done | rfl | (simp only [List.length_drop, List.length_take]; rfl) | (simp only [ByteArray.size_extract, Nat.min_self, Nat.sub_zero, ByteArray.size_append]; first | done | rfl)) ?_; (with_reducible refine (clavigerref07_Key.calls k1 x1_1 (rdOf ByteArray.empty l0 0) t390 _ A9.out).mono ?_); rintro e w10 ⟨rfl, hb⟩; refine ⟨_, rfl, ?_⟩; have n0_ := Aside0.mk (below_step (by repeat (first | (with_reducible first | exact HB.out | apply below_alloc | apply pw_below_drewN | apply below_drew1) | exact HB.out)) hb); clear HB; have HB := n0_; clear n0_; (try clear hb); (try clear hb2); (try clear hk); (try clear hi)))
     go_ret
     exact ⟨by first | rfl | (simp [errW_none, errW_some] <;> rfl) | (simp [*, errW_none, errW_some] <;> rfl), by repeat (first | (with_reducible first | exact HB.out | apply below_alloc | apply pw_below_drewN | apply below_drew1) | exact HB.out)⟩
    ·rw [if_neg c8] at H
     exact absurd H (by simp)

def clavigerref09_Many.l0 : Nat → ByteArray → Bool → List ByteArray → ByteArray → Int → Option (ByteArray × Int)
 | 0, _, _, _, _, _ => none
 | k + 1, x1, x2, x8, x10, x11 => if x11 < (x1.size : Int) then (if x2 = true then (if 0 ≤ x11 then (if x11 ≤ (wrap64 (x11 + 16)) then (if (wrap64 (x11 + 16)) ≤ (x1.size : Int) then ((clavigerref09_backward.f k x8 (x1.extract (x11 : Int).toNat ((wrap64 (x11 + 16)) : Int).toNat)).bind fun t395 => (if x10.size + t395.size ≤ 9223372036854775807 then (clavigerref09_Many.l0 k x1 x2 x8 (x10 ++ t395) (wrap64 (x11 + 16))) else (none))) else (none)) else (none)) else (none)) else (if 0 ≤ x11 then (if x11 ≤ (wrap64 (x11 + 16)) then (if (wrap64 (x11 + 16)) ≤ (x1.size : Int) then ((clavigerref09_forward.f k x8 (x1.extract (x11 : Int).toNat ((wrap64 (x11 + 16)) : Int).toNat)).bind fun t396 => (if x10.size + t396.size ≤ 9223372036854775807 then (clavigerref09_Many.l0 k x1 x2 x8 (x10 ++ t396) (wrap64 (x11 + 16))) else (none))) else (none)) else (none)) else (none))) else (some (x10, 0))
def clavigerref09_Many.f (k : Nat) (a0 : ByteArray) (a1 : ByteArray) (a2 : Bool) : Option (ByteArray × Int) := (clavigerref08_Keys.f k a0).bind fun bt391 => (if bt391.2 = 0 then (if ((a1.size : Int) % 16) = 0 then (clavigerref09_Many.l0 k a1 a2 bt391.1 (⟨#[]⟩ : ByteArray) 0) else (some ((⟨#[]⟩ : ByteArray), 4))) else (some ((⟨#[]⟩ : ByteArray), bt391.2)))
theorem clavigerref09_Many.mono_l : ∀ k, (∀ y0 y1 y2 y3 y4, LeO (clavigerref09_Many.l0 k y0 y1 y2 y3 y4) (clavigerref09_Many.l0 (k + 1) y0 y1 y2 y3 y4))
 | 0 => fun _ _ _ _ _ r h => by simp [clavigerref09_Many.l0] at h
 | k + 1 => by
  have ih0 := clavigerref09_Many.mono_l k
  ·intro y0 y1 y2 y3 y4
   unfold clavigerref09_Many.l0
   repeat' first
   | (with_reducible exact ih0 _ _ _ _ _)
   | (with_reducible exact clavigerref08_Keys.mono _ _)
   | (with_reducible exact clavigerref09_backward.mono _ _ _)
   | (with_reducible exact clavigerref09_forward.mono _ _ _)
   | (with_reducible exact LeO.refl _)
   | (with_reducible exact LeO.none _)
   | (with_reducible refine LeO.ite ?_ ?_)
   | (with_reducible refine LeO.bind ?_ (fun _ => ?_))
   | exact ih0 _ _ _ _ _
   | exact clavigerref08_Keys.mono _ _
   | exact clavigerref09_backward.mono _ _ _
   | exact clavigerref09_forward.mono _ _ _
   | exact LeO.none _
   | refine LeO.ite ?_ ?_
   | refine LeO.bind ?_ (fun _ => ?_)
theorem clavigerref09_Many.mono : ∀ a0 a1 a2 k, LeO (clavigerref09_Many.f k a0 a1 a2) (clavigerref09_Many.f (k + 1) a0 a1 a2) := by
 intro a0 a1 a2 k
 have ih0 := clavigerref09_Many.mono_l k
 unfold clavigerref09_Many.f
 repeat' first
   | (with_reducible exact ih0 _ _ _ _ _)
   | (with_reducible exact clavigerref08_Keys.mono _ _)
   | (with_reducible exact clavigerref09_backward.mono _ _ _)
   | (with_reducible exact clavigerref09_forward.mono _ _ _)
   | (with_reducible exact LeO.refl _)
   | (with_reducible exact LeO.none _)
   | (with_reducible refine LeO.ite ?_ ?_)
   | (with_reducible refine LeO.bind ?_ (fun _ => ?_))
   | exact ih0 _ _ _ _ _
   | exact clavigerref08_Keys.mono _ _
   | exact clavigerref09_backward.mono _ _ _
   | exact clavigerref09_forward.mono _ _ _
   | exact LeO.none _
   | refine LeO.ite ?_ ?_
   | refine LeO.bind ?_ (fun _ => ?_)
def clavigerref09_Decrypt.f (k : Nat) (a0 : ByteArray) (a1 : ByteArray) : Option (ByteArray × Int) := (clavigerref08_Keys.f k a0).bind fun bt500 => (if bt500.2 = 0 then (if (a1.size : Int) = 16 then ((clavigerref09_backward.f k bt500.1 a1).bind fun t504 => (some (t504, 0))) else (some ((⟨#[]⟩ : ByteArray), 4))) else (some ((⟨#[]⟩ : ByteArray), bt500.2)))
theorem clavigerref09_Decrypt.mono : ∀ a0 a1 k, LeO (clavigerref09_Decrypt.f k a0 a1) (clavigerref09_Decrypt.f (k + 1) a0 a1) := by
 intro a0 a1 k
 unfold clavigerref09_Decrypt.f
 repeat' first
   | (with_reducible exact clavigerref08_Keys.mono _ _)
   | (with_reducible exact clavigerref09_backward.mono _ _ _)
   | (with_reducible exact LeO.refl _)
   | (with_reducible exact LeO.none _)
   | (with_reducible refine LeO.ite ?_ ?_)
   | (with_reducible refine LeO.bind ?_ (fun _ => ?_))
   | exact clavigerref08_Keys.mono _ _
   | exact clavigerref09_backward.mono _ _ _
   | exact LeO.none _
   | refine LeO.ite ?_ ?_
   | refine LeO.bind ?_ (fun _ => ?_)
set_option maxHeartbeats 8000000 in
set_option maxRecDepth 100000 in
theorem clavigerref09_Decrypt.calls (k : Nat) (a0 : ByteArray) (a1 : ByteArray) (r1 : ByteArray) (r2 : Int) (w : World) (h : clavigerref09_Decrypt.f k a0 a1 = some (r1, r2)) :
  Calls Try.prog 101 #[.string a0, .string a1] w fun e w' => e = .returned (.tuple #[.string r1, .int .i64 r2]) ∧ Below w.heap.size w w' := by
 have HB := Aside0.mk (Below.refl w.heap.size w)
 have H : ((clavigerref08_Keys.f k a0).bind fun bt500 => (if bt500.2 = 0 then (if (a1.size : Int) = 16 then ((clavigerref09_backward.f k bt500.1 a1).bind fun t504 => (some (t504, 0))) else (some ((⟨#[]⟩ : ByteArray), 4))) else (some ((⟨#[]⟩ : ByteArray), bt500.2)))) = some (r1, r2) := h
 clear h
 replace H := Option.bind_eq_some_iff.mp H
 obtain ⟨⟨t500, t501⟩, A30, H⟩ := H
 replace H : (if t501 = 0 then (if (a1.size : Int) = 16 then ((clavigerref09_backward.f k t500 a1).bind fun t504 => (some (t504, 0))) else (some ((⟨#[]⟩ : ByteArray), 4))) else (some ((⟨#[]⟩ : ByteArray), t501))) = some (r1, r2) := H
 have A3 := Aside0.mk A30
 clear A30
 by_cases c4 : t501 = 0
 ·rw [if_pos c4] at H
  have c4b0 : (t501 == 0) = true := beq_iff_eq.mpr c4
  have c4b1 : (t501 != 0) = false := bne_eq_false_iff_eq.mpr c4
  clear c4
  by_cases c5 : (a1.size : Int) = 16
  ·rw [if_pos c5] at H
   have c5b0 : ((a1.size : Int) == 16) = true := beq_iff_eq.mpr c5
   have c5b1 : ((a1.size : Int) != 16) = false := bne_eq_false_iff_eq.mpr c5
   clear c5
   replace H := Option.bind_eq_some_iff.mp H
   obtain ⟨t504, A60, H⟩ := H
   replace H : (some (t504, 0)) = some (r1, r2) := H
   have A6 := Aside0.mk A60
   clear A60
   simp only [Option.some.injEq, Prod.mk.injEq] at H
   obtain ⟨rfl, rfl⟩ := H
   go_enter Try.func101, Try.ntmps101
   go_wp2_with (first | ((with_reducible refine gate_callee (f := 91) rfl ?_); refine goesL_ (some 10) rfl rfl Try.func91 (by kernel_rfl) rfl #[.string a0] rfl (by (try simp only [List.map_toArray, List.map_cons, List.map_nil]); first | done | rfl | (simp only [List.length_drop, List.length_take]; rfl) | (simp only [ByteArray.size_extract, Nat.min_self, Nat.sub_zero, ByteArray.size_append]; first | done | rfl)) ?_; (with_reducible refine (clavigerref08_Keys.calls k a0 t500 t501 _ A3.out).mono ?_); rintro e w7 ⟨v502, rfl, ho0, hb⟩; refine ⟨_, rfl, ?_⟩; have n0_ := Aside0.mk (Kd.R_lower ho0 (below_size (by repeat (first | (with_reducible first | exact HB.out | apply below_alloc | apply pw_below_drewN | apply below_drew1) | exact HB.out)))); have n1_ := Aside0.mk (below_step (by repeat (first | (with_reducible first | exact HB.out | apply below_alloc | apply pw_below_drewN | apply below_drew1) | exact HB.out)) hb); clear HB; have HO503 := n0_; have HB := n1_; clear n0_ n1_; (try clear hb); (try clear hb2); (try clear hk); (try clear hi); (try clear ho0); obtain ⟨Ao8, co8, eo8⟩ := Kd.R_slice HO503.out; subst eo8) | ((with_reducible refine gate_callee (f := 191) rfl ?_); refine goesL_ (some 21) rfl rfl Try.func191 (by kernel_rfl) rfl #[.slice Ao8 t500.length co8, .string a1] rfl (by (try simp only [List.map_toArray, List.map_cons, List.map_nil]); first | done | rfl | (simp only [List.length_drop, List.length_take]; rfl) | (simp only [ByteArray.size_extract, Nat.min_self, Nat.sub_zero, ByteArray.size_append]; first | done | rfl)) ?_; (with_reducible refine (clavigerref09_backward.calls k _ _ t500 a1 t504 _ ?side1 ?side2 A6.out).mono ?_); (case side1 => repeat (first | exact (Kd.R_reads' HO503.out).2.2 | (with_reducible refine Kd.C_alloc ?_ _) | (with_reducible refine Kd.C_drewN ?_ _) | (with_reducible refine Kd.C_drew ?_))); (case side2 => exact (Kd.R_reads' HO503.out).2.1); rintro e w9 ⟨rfl, hb⟩; refine ⟨_, rfl, ?_⟩; have n0_ := Aside0.mk (Kd.R_below (by (with_reducible repeat (first | apply Kd.R_alloc | apply Kd.R_drewN | apply Kd.R_drew)); exact HO503.out) hb); have n1_ := Aside0.mk (below_step (by repeat (first | (with_reducible first | exact HB.out | apply below_alloc | apply pw_below_drewN | apply below_drew1) | exact HB.out)) hb); clear HO503; clear HB; have HO503 := n0_; have HB := n1_; clear n0_ n1_; (try clear hb); (try clear hb2); (try clear hk); (try clear hi)))
   go_ret2
   exact ⟨by first | rfl | (simp [errW_none, errW_some] <;> rfl) | (simp [*, errW_none, errW_some] <;> rfl), by repeat (first | (with_reducible first | exact HB.out | apply below_alloc | apply pw_below_drewN | apply below_drew1) | exact HB.out)⟩
  ·rw [if_neg c5] at H
   have c5b0 : ((a1.size : Int) == 16) = false := beq_eq_false_iff_ne.mpr c5
   have c5b1 : ((a1.size : Int) != 16) = true := bne_iff_ne.mpr c5
   simp only [Option.some.injEq, Prod.mk.injEq] at H
   obtain ⟨rfl, rfl⟩ := H
   go_enter Try.func101, Try.ntmps101
   go_wp2_with (first | ((with_reducible refine gate_callee (f := 91) rfl ?_); refine goesL_ (some 10) rfl rfl Try.func91 (by kernel_rfl) rfl #[.string a0] rfl (by (try simp only [List.map_toArray, List.map_cons, List.map_nil]); first | done | rfl | (simp only [List.length_drop, List.length_take]; rfl) | (simp only [ByteArray.size_extract, Nat.min_self, Nat.sub_zero, ByteArray.size_append]; first | done | rfl)) ?_; (with_reducible refine (clavigerref08_Keys.calls k a0 t500 t501 _ A3.out).mono ?_); rintro e w10 ⟨v502, rfl, ho0, hb⟩; refine ⟨_, rfl, ?_⟩; have n0_ := Aside0.mk (Kd.R_lower ho0 (below_size (by repeat (first | (with_reducible first | exact HB.out | apply below_alloc | apply pw_below_drewN | apply below_drew1) | exact HB.out)))); have n1_ := Aside0.mk (below_step (by repeat (first | (with_reducible first | exact HB.out | apply below_alloc | apply pw_below_drewN | apply below_drew1) | exact HB.out)) hb); clear HB; have HO503 := n0_; have HB := n1_; clear n0_ n1_; (try clear hb); (try clear hb2); (try clear hk); (try clear hi); (try clear ho0)))
   go_ret2
   exact ⟨by first | rfl | (simp [errW_none, errW_some] <;> rfl) | (simp [*, errW_none, errW_some] <;> rfl), by repeat (first | (with_reducible first | exact HB.out | apply below_alloc | apply pw_below_drewN | apply below_drew1) | exact HB.out)⟩
 ·rw [if_neg c4] at H
  have c4b0 : (t501 == 0) = false := beq_eq_false_iff_ne.mpr c4
  have c4b1 : (t501 != 0) = true := bne_iff_ne.mpr c4
  simp only [Option.some.injEq, Prod.mk.injEq] at H
  obtain ⟨rfl, rfl⟩ := H
  go_enter Try.func101, Try.ntmps101
  go_wp2_with (first | ((with_reducible refine gate_callee (f := 91) rfl ?_); refine goesL_ (some 10) rfl rfl Try.func91 (by kernel_rfl) rfl #[.string a0] rfl (by (try simp only [List.map_toArray, List.map_cons, List.map_nil]); first | done | rfl | (simp only [List.length_drop, List.length_take]; rfl) | (simp only [ByteArray.size_extract, Nat.min_self, Nat.sub_zero, ByteArray.size_append]; first | done | rfl)) ?_; (with_reducible refine (clavigerref08_Keys.calls k a0 t500 t501 _ A3.out).mono ?_); rintro e w11 ⟨v502, rfl, ho0, hb⟩; refine ⟨_, rfl, ?_⟩; have n0_ := Aside0.mk (Kd.R_lower ho0 (below_size (by repeat (first | (with_reducible first | exact HB.out | apply below_alloc | apply pw_below_drewN | apply below_drew1) | exact HB.out)))); have n1_ := Aside0.mk (below_step (by repeat (first | (with_reducible first | exact HB.out | apply below_alloc | apply pw_below_drewN | apply below_drew1) | exact HB.out)) hb); clear HB; have HO503 := n0_; have HB := n1_; clear n0_ n1_; (try clear hb); (try clear hb2); (try clear hk); (try clear hi); (try clear ho0)))
  go_ret2
  exact ⟨by first | rfl | (simp [errW_none, errW_some] <;> rfl) | (simp [*, errW_none, errW_some] <;> rfl), by repeat (first | (with_reducible first | exact HB.out | apply below_alloc | apply pw_below_drewN | apply below_drew1) | exact HB.out)⟩

end Go.Proofs.Ytokkhnjedmlbhaa.Pr
end
section
namespace Go.Proofs.YtokkhnjedmlbhaaGf
/-- A byte times x. -/
def xt (a : Nat) : Nat := if a < 128 then 2 * a else (2 * a - 256) ^^^ 27
def allB (n : Nat) (p : Nat → Bool) : Bool := match n with | 0 => true | n + 1 => p n && allB n p
theorem allB_of {n : Nat} {p : Nat → Bool} (h : allB n p = true) : ∀ a, a < n → p a = true := by
  induction n with
  | zero => intro a ha; omega
  | succ n ih =>
    intro a ha
    simp only [allB, Bool.and_eq_true] at h
    rcases Nat.lt_succ_iff_lt_or_eq.1 ha with h1 | rfl
    · exact ih h.2 a h1
    · exact h.1
theorem xt_lin_all : allB 256 (fun a => allB 256 fun b => Nat.beq (xt (a ^^^ b)) (xt a ^^^ xt b)) = true := by decide +kernel
theorem xt_lin {a b : Nat} (ha : a < 256) (hb : b < 256) : xt (a ^^^ b) = xt a ^^^ xt b :=
  Nat.eq_of_beq_eq_true (allB_of (allB_of xt_lin_all a ha) b hb)
theorem xor_lt {a b : Nat} (ha : a < 256) (hb : b < 256) : a ^^^ b < 256 := Nat.xor_lt_two_pow (n := 8) ha hb
theorem xt_lt {a : Nat} (ha : a < 256) : xt a < 256 := by
  unfold xt; split
  · omega
  · exact xor_lt (by omega) (by omega)
theorem xt_zero : xt 0 = 0 := rfl
/-- The product, by the bits of b: n of them. -/
def mulF : Nat → Nat → Nat → Nat
  | 0, _, _ => 0
  | n + 1, a, b => (if b % 2 = 1 then a else 0) ^^^ mulF n (xt a) (b / 2)
def gm (a b : Nat) : Nat := mulF 8 a b
theorem ite_lt {a : Nat} {p : Prop} [Decidable p] (ha : a < 256) : (if p then a else 0) < 256 := by split <;> omega
theorem mulF_lt (n : Nat) : ∀ {a b : Nat}, a < 256 → mulF n a b < 256 := by
  induction n with
  | zero => intro a b _; simp [mulF]
  | succ n ih => intro a b ha; exact xor_lt (ite_lt ha) (ih (xt_lt ha))
theorem gm_lt {a b : Nat} (ha : a < 256) : gm a b < 256 := mulF_lt 8 ha
theorem mulF_zero (n : Nat) : ∀ b, mulF n 0 b = 0 := by
  induction n with
  | zero => intro b; rfl
  | succ n ih => intro b; simp [mulF, xt_zero, ih]
theorem xor4 (a b c d : Nat) : (a ^^^ b) ^^^ (c ^^^ d) = (a ^^^ c) ^^^ (b ^^^ d) := by
  rw [Nat.xor_assoc, Nat.xor_assoc, ← Nat.xor_assoc b, Nat.xor_comm b c, Nat.xor_assoc c]
theorem mulF_addL (n : Nat) : ∀ {a c b : Nat}, a < 256 → c < 256 → mulF n (a ^^^ c) b = mulF n a b ^^^ mulF n c b := by
  induction n with
  | zero => intro a c b _ _; simp [mulF]
  | succ n ih =>
    intro a c b ha hc
    simp only [mulF]
    rw [xt_lin ha hc, ih (xt_lt ha) (xt_lt hc), xor4]
    congr 1
    split <;> simp
theorem mulF_xt (n : Nat) : ∀ {a b : Nat}, a < 256 → mulF n (xt a) b = xt (mulF n a b) := by
  induction n with
  | zero => intro a b _; rfl
  | succ n ih =>
    intro a b ha
    simp only [mulF]
    rw [xt_lin (ite_lt ha) (mulF_lt n (xt_lt ha)), ih (xt_lt ha)]
    congr 1
    split <;> simp [xt_zero]
theorem gm_addL {a c b : Nat} (ha : a < 256) (hc : c < 256) : gm (a ^^^ c) b = gm a b ^^^ gm c b := mulF_addL 8 ha hc
theorem gm_xt {a b : Nat} (ha : a < 256) : gm (xt a) b = xt (gm a b) := mulF_xt 8 ha
/-- A byte times 3. -/
def t3 (a : Nat) : Nat := a ^^^ xt a
theorem t3_lt {a : Nat} (ha : a < 256) : t3 a < 256 := xor_lt ha (xt_lt ha)
theorem gm_t3 {a b : Nat} (ha : a < 256) : gm (t3 a) b = t3 (gm a b) := by unfold t3; rw [gm_addL ha (xt_lt ha), gm_xt ha]
/-- b times the n-th power of 3. -/
def p3 : Nat → Nat → Nat
  | 0, b => b
  | n + 1, b => t3 (p3 n b)
theorem p3_lt (n : Nat) {b : Nat} (hb : b < 256) : p3 n b < 256 := by
  induction n with
  | zero => exact hb
  | succ n ih => exact t3_lt ih
theorem p3_add (n m b : Nat) : p3 (n + m) b = p3 n (p3 m b) := by
  induction n with
  | zero => simp [p3]
  | succ n ih => rw [Nat.succ_add]; simp only [p3]; rw [ih]
def E (n : Nat) : Nat := p3 n 1
theorem E_lt (n : Nat) : E n < 256 := p3_lt n (by omega)
theorem gm_one_all : allB 256 (fun b => Nat.beq (gm 1 b) b) = true := by decide +kernel
theorem gm_one {b : Nat} (hb : b < 256) : gm 1 b = b := Nat.eq_of_beq_eq_true (allB_of gm_one_all b hb)
theorem gm_E (n : Nat) {b : Nat} (hb : b < 256) : gm (E n) b = p3 n b := by
  induction n with
  | zero => exact gm_one hb
  | succ n ih => show gm (t3 (E n)) b = t3 (p3 n b); rw [gm_t3 (E_lt n), ih]
theorem gm_EE (n m : Nat) : gm (E n) (E m) = E (n + m) := by rw [gm_E n (E_lt m)]; unfold E; rw [p3_add]
theorem E255 : E 255 = 1 := by decide +kernel
theorem E_per (n : Nat) : E (n + 255) = E n := by unfold E; rw [p3_add]; show p3 n (E 255) = _; rw [E255]
theorem E_mod (n : Nat) : E (n % 255) = E n := by
  conv => rhs; rw [← Nat.mod_add_div n 255]
  generalize n % 255 = r
  induction n / 255 with
  | zero => simp
  | succ q ih => rw [Nat.mul_succ, ← Nat.add_assoc, E_per]; exact ih
/-- The least n at which the power of 3 is a, from p = 3^k on. -/
def lgF : Nat → Nat → Nat → Nat → Nat
  | 0, k, _, _ => k
  | f + 1, k, p, a => if p = a then k else lgF f (k + 1) (t3 p) a
def lg (a : Nat) : Nat := lgF 255 0 1 a
theorem lg_all : allB 256 (fun a => Nat.beq a 0 || (Nat.beq (E (lg a)) a && Nat.ble (lg a) 254)) = true := by decide +kernel
theorem E_lg {a : Nat} (ha : a < 256) (h0 : a ≠ 0) : E (lg a) = a ∧ lg a ≤ 254 := by
  have h := allB_of lg_all a ha
  simp only [Bool.or_eq_true, Bool.and_eq_true] at h
  rcases h with h | h
  · exact absurd (Nat.eq_of_beq_eq_true h) h0
  · exact ⟨Nat.eq_of_beq_eq_true h.1, Nat.le_of_ble_eq_true h.2⟩
theorem gm_zeroL (b : Nat) : gm 0 b = 0 := mulF_zero 8 b
theorem gm_zeroR {a : Nat} (ha : a < 256) : gm a 0 = 0 := by
  by_cases h : a = 0
  · subst h; rfl
  · rw [← (E_lg ha h).1, gm_E _ (by omega)]
    generalize lg a = n
    induction n with
    | zero => rfl
    | succ n ih => simp only [p3, ih]; rfl
theorem gm_comm {a b : Nat} (ha : a < 256) (hb : b < 256) : gm a b = gm b a := by
  by_cases h : a = 0
  · subst h; rw [gm_zeroL, gm_zeroR hb]
  by_cases h' : b = 0
  · subst h'; rw [gm_zeroL, gm_zeroR ha]
  rw [← (E_lg ha h).1, ← (E_lg hb h').1, gm_EE, gm_EE, Nat.add_comm]
theorem gm_two {a : Nat} (ha : a < 256) : gm a 2 = xt a := by rw [gm_comm ha (by omega)]; show gm (xt 1) a = _; rw [gm_xt (by omega), gm_one ha]
/-- Powers, one factor at a time. -/
def pw (a : Nat) : Nat → Nat
  | 0 => 1
  | n + 1 => gm (pw a n) a
theorem pw_lt {a : Nat} (n : Nat) : pw a n < 256 := by
  induction n with
  | zero => show 1 < 256; omega
  | succ n ih => exact gm_lt ih
theorem pw_E (m n : Nat) : pw (E m) n = E (m * n) := by
  induction n with
  | zero => rfl
  | succ n ih => simp only [pw]; rw [ih, gm_EE, Nat.mul_succ]
theorem pw_zero {n : Nat} (hn : 0 < n) : pw 0 n = 0 := by
  obtain ⟨m, rfl⟩ : ∃ m, n = m + 1 := ⟨n - 1, by omega⟩
  exact gm_zeroR (pw_lt m)
theorem pw_mod {a : Nat} (ha : a < 256) (h0 : a ≠ 0) (n : Nat) : pw a (n % 255) = pw a n := by
  rw [← (E_lg ha h0).1, pw_E, pw_E, ← E_mod, ← E_mod (lg a * n), Nat.mul_mod, Nat.mod_mod, ← Nat.mul_mod]
/-- The byte with which the product is 1. -/
def inv (a : Nat) : Nat := if a = 0 then 0 else E ((255 - lg a) % 255)
theorem inv_lt (a : Nat) : inv a < 256 := by unfold inv; split; omega; exact E_lt _
end Go.Proofs.YtokkhnjedmlbhaaGf
end
section
namespace Go.Proofs.Ytokkhnjedmlbhaa.M
open Go.RowKit Go.Proofs.Ytokkhnjedmlbhaa.Pr Go.Proofs.YtokkhnjedmlbhaaW.PrintWords Go.Proofs.YtokkhnjedmlbhaaW.PrintLast Go.Proofs.YtokkhnjedmlbhaaW.PrintMore Go.Proofs.YtokkhnjedmlbhaaGf
theorem wrap_id {x : Int} (h0 : -9223372036854775808 ≤ x) (h1 : x ≤ 9223372036854775807) : wrap64 x = x := by unfold wrap64; omega
theorem bx {a b : Nat} (ha : a < 256) (hb : b < 256) : Go.bits .xor .u8 (a : Int) (b : Int) = ((a ^^^ b : Nat) : Int) := u8_xor_nat a b ha hb
theorem twice_all : allB 256 (fun a => decide (field_Twice.f (a : Int) = some ((xt a : Nat) : Int))) = true := by decide +kernel
theorem twice_c {a : Nat} (ha : a < 256) : field_Twice.f (a : Int) = some ((xt a : Nat) : Int) := of_decide_eq_true (allB_of twice_all a ha)
/-- a to the power n; 1 for what is below 1. -/
def powI (a : Nat) (n : Int) : Nat := pw a n.toNat
end Go.Proofs.Ytokkhnjedmlbhaa.M
end
section
namespace Go.Proofs.Ytokkhnjedmlbhaa.M
open Go.RowKit Go.Proofs.Ytokkhnjedmlbhaa.Pr Go.Proofs.YtokkhnjedmlbhaaW.PrintWords Go.Proofs.YtokkhnjedmlbhaaW.PrintLast Go.Proofs.YtokkhnjedmlbhaaW.PrintMore Go.Proofs.YtokkhnjedmlbhaaGf
theorem ix {p q : Nat} (hp : p < 4611686018427387904) (hq : q < 4611686018427387904) : Go.bits .xor .i64 (p : Int) (q : Int) = ((p ^^^ q : Nat) : Int) := by
  have h := Nat.xor_lt_two_pow (n := 62) hp hq
  have h1 : p % 2 ^ 64 = p := Nat.mod_eq_of_lt (by omega)
  have h2 : q % 2 ^ 64 = q := Nat.mod_eq_of_lt (by omega)
  show IntKind.i64.wrap (((BitVec.ofInt 64 (p : Int)) ^^^ (BitVec.ofInt 64 (q : Int))).toNat : Int) = _
  simp only [BitVec.ofInt_natCast, BitVec.toNat_xor, BitVec.toNat_ofNat, h1, h2]
  rw [IntKind.wrap_i64]
  omega
theorem shr_c {b k : Nat} (hk : k ≤ 64) : shr .i64 (b : Int) (k : Int) = ((b / 2 ^ k : Nat) : Int) := by
  unfold shr
  rw [show min ((k : Int).toNat) IntKind.i64.bits = k from by simp [IntKind.bits]; omega]
  simp
theorem shl_c {a k : Nat} (hk : k ≤ 64) (h : a * 2 ^ k < 9223372036854775808) : shl .i64 (a : Int) (k : Int) = ((a * 2 ^ k : Nat) : Int) := by
  unfold shl
  rw [show min ((k : Int).toNat) IntKind.i64.bits = k from by simp [IntKind.bits]; omega]
  have : (a : Int) * 2 ^ k = ((a * 2 ^ k : Nat) : Int) := by simp
  rw [this, IntKind.wrap_i64]
  omega
theorem tmod2 (x : Nat) : Int.tmod (x : Int) 2 = ((x % 2 : Nat) : Int) := by rw [Int.tmod_eq_emod_of_nonneg (by omega)]; omega
/-- The product without a remainder, by the first k bits of b. -/
def clT (a b : Nat) : Nat → Nat
  | 0 => 0
  | k + 1 => clT a b k ^^^ (if b / 2 ^ k % 2 = 1 then a * 2 ^ k else 0)
/-- The remainder, j steps of it. -/
def rdT (p : Nat) : Nat → Nat
  | 0 => p
  | j + 1 => rdT p j ^^^ (if rdT p j / 2 ^ (14 - j) % 2 = 1 then 283 * 2 ^ (6 - j) else 0)
theorem pow_le8 {k : Nat} (hk : k < 8) : 2 ^ k ≤ 128 := by
  have : 2 ^ k ≤ 2 ^ 7 := Nat.pow_le_pow_right (by omega) (by omega)
  omega
theorem clT_lt {a b : Nat} (ha : a < 256) (k : Nat) (hk : k ≤ 8) : clT a b k < 32768 := by
  induction k with
  | zero => show 0 < 32768; omega
  | succ k ih =>
    refine Nat.xor_lt_two_pow (n := 15) (ih (by omega)) ?_
    have h1 := pow_le8 (show k < 8 by omega)
    have h2 : a * 2 ^ k ≤ 255 * 128 := Nat.mul_le_mul (by omega) h1
    split
    · show _ < 32768; omega
    · show 0 < 32768; omega
theorem rdT_lt {p : Nat} (hp : p < 32768) (j : Nat) (hj : j ≤ 7) : rdT p j < 32768 := by
  induction j with
  | zero => exact hp
  | succ j ih =>
    refine Nat.xor_lt_two_pow (n := 15) (ih (by omega)) ?_
    have h1 : 2 ^ (6 - j) ≤ 2 ^ 6 := Nat.pow_le_pow_right (by omega) (by omega)
    have h2 : 283 * 2 ^ (6 - j) ≤ 283 * 64 := Nat.mul_le_mul_left _ h1
    split
    · show _ < 32768; omega
    · show 0 < 32768; omega
theorem bit_xor (p q i : Nat) : (p ^^^ q) / 2 ^ i % 2 = 1 ↔ ¬ (p / 2 ^ i % 2 = 1 ↔ q / 2 ^ i % 2 = 1) := by
  have h := Nat.testBit_xor p q i
  simp only [Nat.testBit_eq_decide_div_mod_eq] at h
  by_cases h1 : p / 2 ^ i % 2 = 1 <;> by_cases h2 : q / 2 ^ i % 2 = 1 <;> simp [h1, h2] at h ⊢ <;> simpa using h
theorem rdT_xor (p q j : Nat) : rdT (p ^^^ q) j = rdT p j ^^^ rdT q j := by
  induction j with
  | zero => rfl
  | succ j ih =>
    simp only [rdT]
    rw [ih, xor4]
    congr 1
    have h := bit_xor (rdT p j) (rdT q j) (14 - j)
    by_cases h1 : rdT p j / 2 ^ (14 - j) % 2 = 1 <;> by_cases h2 : rdT q j / 2 ^ (14 - j) % 2 = 1 <;> simp [h, h1, h2]
theorem rdT_zero (j : Nat) : rdT 0 j = 0 := by
  induction j with
  | zero => rfl
  | succ j ih => simp [rdT, ih]
/-- xt, k times. -/
def xtN : Nat → Nat → Nat
  | 0, a => a
  | k + 1, a => xtN k (xt a)
theorem rd_all : allB 256 (fun a => allB 8 fun k => Nat.beq (rdT (a * 2 ^ k) 7) (xtN k a)) = true := by decide +kernel
theorem rd_pow {a k : Nat} (ha : a < 256) (hk : k < 8) : rdT (a * 2 ^ k) 7 = xtN k a := Nat.eq_of_beq_eq_true (allB_of (allB_of rd_all a ha) k hk)
theorem rd_ite {a k : Nat} {c : Prop} [Decidable c] (ha : a < 256) (hk : k < 8) : rdT (if c then a * 2 ^ k else 0) 7 = if c then xtN k a else 0 := by
  split
  · exact rd_pow ha hk
  · exact rdT_zero 7
theorem rd_cl {a : Nat} (b : Nat) (ha : a < 256) : rdT (clT a b 8) 7 = gm a b := by
  simp only [clT, rdT_xor, rdT_zero, rd_ite ha (show 0 < 8 by omega), rd_ite ha (show 1 < 8 by omega), rd_ite ha (show 2 < 8 by omega), rd_ite ha (show 3 < 8 by omega), rd_ite ha (show 4 < 8 by omega), rd_ite ha (show 5 < 8 by omega), rd_ite ha (show 6 < 8 by omega), rd_ite ha (show 7 < 8 by omega)]
  simp only [gm, mulF, xtN, Nat.div_div_eq_div_mul, Nat.zero_xor, Nat.xor_zero, Nat.xor_assoc, Nat.pow_zero, Nat.div_one]
theorem refMulR (d : Nat) : ∀ (j p : Nat), j ≤ 7 → 7 - j = d → p < 32768 → Ev (fun k => clavigerref05_Mul.l1 k ((rdT p j : Nat) : Int) ((14 - j : Nat) : Int)) (((rdT p 7 % 256 : Nat)) : Int) := by
  induction d with
  | zero =>
    intro j p hj hd hp
    obtain rfl : j = 7 := by omega
    refine Ev.step (f := fun _ => some (((rdT p 7 : Nat) : Int) % 256)) (fun k => by simp only [clavigerref05_Mul.l1]; rw [if_neg (by omega)]) ?_
    exact Ev.now _
  | succ d ih =>
    intro j p hj hd hp
    have hi := ih (j + 1) p (by omega) (by omega) hp
    have hl := rdT_lt hp j hj
    refine Ev.step (fun k => ?_) hi
    simp only [clavigerref05_Mul.l1]
    rw [if_pos (by omega), if_pos (by omega), shr_c (by omega), tmod2]
    have e1 : wrap64 (((14 - j : Nat) : Int) - 1) = ((14 - (j + 1) : Nat) : Int) := by unfold wrap64; omega
    have e2 : wrap64 (((14 - j : Nat) : Int) - 8) = ((6 - j : Nat) : Int) := by unfold wrap64; omega
    have h1 : 2 ^ (6 - j) ≤ 2 ^ 6 := Nat.pow_le_pow_right (by omega) (by omega)
    have h2 : 283 * 2 ^ (6 - j) ≤ 283 * 64 := Nat.mul_le_mul_left _ h1
    rw [e1, e2]
    by_cases hb : rdT p j / 2 ^ (14 - j) % 2 = 1
    · rw [if_pos (by omega), if_pos (by omega), show (283 : Int) = ((283 : Nat) : Int) from rfl, shl_c (by omega) (by omega), ix (by omega) (by omega)]
      simp only [rdT]
      rw [if_pos hb]
    · rw [if_neg (by omega)]
      simp only [rdT]
      rw [if_neg hb, Nat.xor_zero]
theorem refMulL (d : Nat) : ∀ (j a b : Nat), j ≤ 8 → 8 - j = d → a < 256 → b < 256 → Ev (fun k => clavigerref05_Mul.l0 k (a : Int) (b : Int) ((clT a b j : Nat) : Int) (j : Int)) ((gm a b : Nat) : Int) := by
  induction d with
  | zero =>
    intro j a b hj hd ha hb
    obtain rfl : j = 8 := by omega
    have hr := refMulR 7 0 (clT a b 8) (by omega) (by omega) (clT_lt ha 8 (by omega))
    rw [rd_cl b ha, Nat.mod_eq_of_lt (gm_lt ha)] at hr
    refine Ev.step (fun k => ?_) hr
    simp only [clavigerref05_Mul.l0]
    rw [if_neg (by omega)]
    rfl
  | succ d ih =>
    intro j a b hj hd ha hb
    have hi := ih (j + 1) a b (by omega) (by omega) ha hb
    have hl := clT_lt (b := b) ha j hj
    refine Ev.step (fun k => ?_) hi
    simp only [clavigerref05_Mul.l0]
    have h1 := pow_le8 (show j < 8 by omega)
    have h2 : a * 2 ^ j ≤ 255 * 128 := Nat.mul_le_mul (by omega) h1
    rw [if_pos (by omega), if_pos (by omega), wrap_id (x := (b : Int)) (by omega) (by omega), wrap_id (x := (a : Int)) (by omega) (by omega), wrap_id (x := (j : Int) + 1) (by omega) (by omega), shr_c (by omega), tmod2]
    by_cases hb' : b / 2 ^ j % 2 = 1
    · rw [if_pos (by omega), shl_c (by omega) (by omega), ix (by omega) (by omega)]
      simp only [clT]
      rw [if_pos hb']
      rfl
    · rw [if_neg (by omega)]
      simp only [clT]
      rw [if_neg hb', Nat.xor_zero]
      rfl
theorem rmul_c {a b : Nat} (ha : a < 256) (hb : b < 256) : Ev (fun k => clavigerref05_Mul.f k (a : Int) (b : Int)) ((gm a b : Nat) : Int) := refMulL 8 0 a b (by omega) (by omega) ha hb
theorem rpowL (d : Nat) : ∀ (i a : Nat) (n : Int), 0 ≤ n → i ≤ (n.toNat % 255) → n.toNat % 255 - i = d → a < 256 → Ev (fun k => clavigerref05_Pow.l0 k (a : Int) n ((pw a i : Nat) : Int) (i : Int)) ((pw a (n.toNat % 255) : Nat) : Int) := by
  induction d with
  | zero =>
    intro i a n h0 hi hd ha
    obtain rfl : i = n.toNat % 255 := by omega
    refine Ev.step (f := fun _ => some ((pw a (n.toNat % 255) : Nat) : Int)) (fun k => by simp only [clavigerref05_Pow.l0]; rw [if_neg (by rw [Int.tmod_eq_emod_of_nonneg h0]; omega)]) (Ev.now _)
  | succ d ih =>
    intro i a n h0 hi hd ha
    have hh := ih (i + 1) a n h0 (by omega) (by omega) ha
    refine Ev.step (f := fun k => (clavigerref05_Mul.f k ((pw a i : Nat) : Int) (a : Int)).bind fun t109 => (clavigerref05_Pow.l0 k (a : Int) n t109 (wrap64 ((i : Int) + 1)))) (fun k => by simp only [clavigerref05_Pow.l0]; rw [if_pos (by rw [Int.tmod_eq_emod_of_nonneg h0]; omega)]) ?_
    refine Ev.bind (rmul_c (pw_lt i) ha) ?_
    rw [wrap_id (by omega) (by omega)]
    exact hh
theorem rpow_c {a : Nat} (ha : a < 256) (n : Int) : Ev (fun k => clavigerref05_Pow.f k (a : Int) n) ((powI a n : Nat) : Int) := by
  unfold powI
  by_cases h : n < 1
  · refine Ev.congr (f := fun _ => some (1 : Int)) (fun k => by simp only [clavigerref05_Pow.f]; rw [if_pos h]) ?_
    rw [show n.toNat = 0 by omega]
    exact Ev.now _
  · by_cases h0 : a = 0
    · subst h0
      refine Ev.congr (f := fun _ => some (0 : Int)) (fun k => by simp only [clavigerref05_Pow.f]; rw [if_neg h, if_pos (by rfl)]) ?_
      rw [pw_zero (by omega)]
      exact Ev.now _
    · have := rpowL (n.toNat % 255) 0 a n (by omega) (by omega) (by omega) ha
      rw [pw_mod ha h0] at this
      refine Ev.congr (fun k => by simp only [clavigerref05_Pow.f]; rw [if_neg h, if_neg (by omega)]; rfl) this
end Go.Proofs.Ytokkhnjedmlbhaa.M
end
section
namespace Go.Proofs.Ytokkhnjedmlbhaa.M
open Go.RowKit Go.Proofs.Ytokkhnjedmlbhaa.Pr Go.Proofs.YtokkhnjedmlbhaaW.PrintWords Go.Proofs.YtokkhnjedmlbhaaW.PrintLast Go.Proofs.YtokkhnjedmlbhaaW.PrintMore Go.Proofs.YtokkhnjedmlbhaaGf
/-- A call whose answer is known, ahead of what goes on with it. -/
theorem evb {α β : Type} {g : Nat → Option α} {f : Nat → α → Option β} {a : α} {r : β} (h : Ev g a) (k : Ev (fun n => f n a) r) : Ev (fun n => (g n).bind (f n)) r := Ev.bind h k
theorem evs {α β : Type} {g : Option α} {f : Nat → α → Option β} {a : α} {r : β} (h : g = some a) (k : Ev (fun n => f n a) r) : Ev (fun n => g.bind (f n)) r := by subst h; exact k
theorem evp {α : Type} {c : Prop} [Decidable c] {f g : Nat → Option α} {r : α} (h : c) (k : Ev f r) : Ev (fun n => if c then f n else g n) r := by simp only [if_pos h]; exact k
theorem evn {α : Type} {c : Prop} [Decidable c] {f g : Nat → Option α} {r : α} (h : ¬ c) (k : Ev g r) : Ev (fun n => if c then f n else g n) r := by simp only [if_neg h]; exact k
/-- The byte at a place, as a number. -/
def bb (s : ByteArray) (i : Nat) : Nat := (bt s (i : Int)).toNat
theorem bb_lt (s : ByteArray) (i : Nat) : bb s i < 256 := by have := bt_range s (i : Int); unfold bb; omega
theorem bt_bb (s : ByteArray) (i : Nat) : bt s (i : Int) = ((bb s i : Nat) : Int) := by have := bt_range s (i : Int); unfold bb; omega
end Go.Proofs.Ytokkhnjedmlbhaa.M
end
