-- written by the session's program wip/hp.py over the kit's print; Lean checks it
import Derived.Test.YtokkhnjedmlbhaaPrx0
import Derived.Test.YtokkhnjedmlbhaaPrx6
import Derived.Test.YtokkhnjedmlbhaaPrx9
import Derived.Test.YtokkhnjedmlbhaaEach
import Derived.Test.YtokkhnjedmlbhaaTable
namespace Go.Proofs.Ytokkhnjedmlbhaa.Pr
open Go.RowKit Go.Proofs.YtokkhnjedmlbhaaW.PrintWords Go.Proofs.YtokkhnjedmlbhaaW.PrintLast Go.Proofs.YtokkhnjedmlbhaaW.PrintMore
attribute [local go_sem] max2_int min2_int max_two min_two max_three min_three max_four min_four   -- for this text's walks alone
set_option linter.unusedVariables false
set_option linter.unusedSimpArgs false

/-! ### clavigerlaw06_SboxTells: function 9 -/
def clavigerlaw06_SboxTells.f (k : Nat) (a0 : Int) (a1 : Int) (a2 : ByteArray) : Option (Bool) := if (a2.size : Int) > 200 then ((clavigerlaw06_awake.f k).bind fun t327 => (some t327)) else ((sbox_Turn.f a0 a1).bind fun t328 => ((clavigerref06_Turn.f k a0 a1).bind fun t329 => (if t328 = t329 then ((sbox_Sub.f k a0).bind fun t330 => ((clavigerref06_Sub.f k a0).bind fun t331 => (if t330 = t331 then ((sbox_Back.f k a0).bind fun t332 => ((clavigerref06_Back.f k a0).bind fun t333 => (if t332 = t333 then ((sbox_Subs.f k a2).bind fun t334 => ((clavigerref06_Subs.f k a2).bind fun t335 => (if t334.toList = t335.toList then ((sbox_Backs.f k a2).bind fun t336 => ((clavigerref06_Backs.f k a2).bind fun t337 => (if t336.toList = t337.toList then ((sbox_Table.f k).bind fun t338 => ((clavigerref06_Table.f k).bind fun t339 => (if t338.toList = t339.toList then ((clavigerlaw06_awake.f k).bind fun t340 => (some t340)) else (some false)))) else (some false)))) else (some false)))) else (some false)))) else (some false)))) else (some false))))
theorem clavigerlaw06_SboxTells.mono : ∀ a0 a1 a2 k, LeO (clavigerlaw06_SboxTells.f k a0 a1 a2) (clavigerlaw06_SboxTells.f (k + 1) a0 a1 a2) := by
 intro a0 a1 a2 k
 unfold clavigerlaw06_SboxTells.f
 repeat' first
   | (with_reducible exact clavigerlaw06_awake.mono _)
   | (with_reducible exact clavigerref06_Back.mono _ _)
   | (with_reducible exact clavigerref06_Backs.mono _ _)
   | (with_reducible exact clavigerref06_Sub.mono _ _)
   | (with_reducible exact clavigerref06_Subs.mono _ _)
   | (with_reducible exact clavigerref06_Table.mono _)
   | (with_reducible exact clavigerref06_Turn.mono _ _ _)
   | (with_reducible exact sbox_Back.mono _ _)
   | (with_reducible exact sbox_Backs.mono _ _)
   | (with_reducible exact sbox_Sub.mono _ _)
   | (with_reducible exact sbox_Subs.mono _ _)
   | (with_reducible exact sbox_Table.mono _)
   | (with_reducible exact LeO.refl _)
   | (with_reducible exact LeO.none _)
   | (with_reducible refine LeO.ite ?_ ?_)
   | (with_reducible refine LeO.bind ?_ (fun _ => ?_))
   | exact clavigerlaw06_awake.mono _
   | exact clavigerref06_Back.mono _ _
   | exact clavigerref06_Backs.mono _ _
   | exact clavigerref06_Sub.mono _ _
   | exact clavigerref06_Subs.mono _ _
   | exact clavigerref06_Table.mono _
   | exact clavigerref06_Turn.mono _ _ _
   | exact sbox_Back.mono _ _
   | exact sbox_Backs.mono _ _
   | exact sbox_Sub.mono _ _
   | exact sbox_Subs.mono _ _
   | exact sbox_Table.mono _
   | exact LeO.none _
   | refine LeO.ite ?_ ?_
   | refine LeO.bind ?_ (fun _ => ?_)
set_option maxHeartbeats 8000000 in
set_option maxRecDepth 100000 in
theorem clavigerlaw06_SboxTells.calls (k : Nat) (a0 : Int) (a1 : Int) (a2 : ByteArray) (r : Bool) (w : World) (h : clavigerlaw06_SboxTells.f k a0 a1 a2 = some r) :
  Calls Try.prog 9 #[.int .u8 a0, .int .i64 a1, .string a2] w fun e w' => e = .returned (.bool r) ∧ Below w.heap.size w w' := by
 have HB := Aside0.mk (Below.refl w.heap.size w)
 have H : (if (a2.size : Int) > 200 then ((clavigerlaw06_awake.f k).bind fun t327 => (some t327)) else ((sbox_Turn.f a0 a1).bind fun t328 => ((clavigerref06_Turn.f k a0 a1).bind fun t329 => (if t328 = t329 then ((sbox_Sub.f k a0).bind fun t330 => ((clavigerref06_Sub.f k a0).bind fun t331 => (if t330 = t331 then ((sbox_Back.f k a0).bind fun t332 => ((clavigerref06_Back.f k a0).bind fun t333 => (if t332 = t333 then ((sbox_Subs.f k a2).bind fun t334 => ((clavigerref06_Subs.f k a2).bind fun t335 => (if t334.toList = t335.toList then ((sbox_Backs.f k a2).bind fun t336 => ((clavigerref06_Backs.f k a2).bind fun t337 => (if t336.toList = t337.toList then ((sbox_Table.f k).bind fun t338 => ((clavigerref06_Table.f k).bind fun t339 => (if t338.toList = t339.toList then ((clavigerlaw06_awake.f k).bind fun t340 => (some t340)) else (some false)))) else (some false)))) else (some false)))) else (some false)))) else (some false)))) else (some false))))) = some r := h
 clear h
 by_cases c4 : (a2.size : Int) > 200
 ·rw [if_pos c4] at H
  have c4b0 : decide (200 < (a2.size : Int)) = true := decide_eq_true c4
  have c4b1 : decide (200 < a2.size) = true := decide_eq_true (by omega)
  clear c4
  replace H := Option.bind_eq_some_iff.mp H
  obtain ⟨t327, A50, H⟩ := H
  replace H : (some t327) = some r := H
  have A5 := Aside0.mk A50
  clear A50
  obtain rfl := Option.some.inj H
  go_enter Try.func9, Try.ntmps9
  go_wp2_with (first | ((with_reducible refine gate_callee (f := 58) rfl ?_); refine goesL_ (some 10) rfl rfl Try.func58 (by kernel_rfl) rfl #[] rfl (by (try simp only [List.map_toArray, List.map_cons, List.map_nil]); first | done | rfl | (simp only [List.length_drop, List.length_take]; rfl) | (simp only [ByteArray.size_extract, Nat.min_self, Nat.sub_zero, ByteArray.size_append]; first | done | rfl)) ?_; (with_reducible refine (clavigerlaw06_awake.calls k  t327 _ A5.out).mono ?_); rintro e w6 ⟨rfl, hb⟩; refine ⟨_, rfl, ?_⟩; have n0_ := Aside0.mk (below_step (by repeat (first | (with_reducible first | exact HB.out | apply below_alloc | apply pw_below_drewN | apply below_drew1) | exact HB.out)) hb); clear HB; have HB := n0_; clear n0_; (try clear hb); (try clear hb2); (try clear hk); (try clear hi)))
  go_ret
  exact ⟨by first | rfl | (simp [errW_none, errW_some] <;> rfl) | (simp [*, errW_none, errW_some] <;> rfl), by repeat (first | (with_reducible first | exact HB.out | apply below_alloc | apply pw_below_drewN | apply below_drew1) | exact HB.out)⟩
 ·rw [if_neg c4] at H
  have c4b0 : decide (200 < (a2.size : Int)) = false := decide_eq_false c4
  have c4b1 : decide (200 < a2.size) = false := decide_eq_false (by omega)
  clear c4
  replace H := Option.bind_eq_some_iff.mp H
  obtain ⟨t328, A70, H⟩ := H
  replace H : ((clavigerref06_Turn.f k a0 a1).bind fun t329 => (if t328 = t329 then ((sbox_Sub.f k a0).bind fun t330 => ((clavigerref06_Sub.f k a0).bind fun t331 => (if t330 = t331 then ((sbox_Back.f k a0).bind fun t332 => ((clavigerref06_Back.f k a0).bind fun t333 => (if t332 = t333 then ((sbox_Subs.f k a2).bind fun t334 => ((clavigerref06_Subs.f k a2).bind fun t335 => (if t334.toList = t335.toList then ((sbox_Backs.f k a2).bind fun t336 => ((clavigerref06_Backs.f k a2).bind fun t337 => (if t336.toList = t337.toList then ((sbox_Table.f k).bind fun t338 => ((clavigerref06_Table.f k).bind fun t339 => (if t338.toList = t339.toList then ((clavigerlaw06_awake.f k).bind fun t340 => (some t340)) else (some false)))) else (some false)))) else (some false)))) else (some false)))) else (some false)))) else (some false))) = some r := H
  have A7 := Aside0.mk A70
  clear A70
  replace H := Option.bind_eq_some_iff.mp H
  obtain ⟨t329, A80, H⟩ := H
  replace H : (if t328 = t329 then ((sbox_Sub.f k a0).bind fun t330 => ((clavigerref06_Sub.f k a0).bind fun t331 => (if t330 = t331 then ((sbox_Back.f k a0).bind fun t332 => ((clavigerref06_Back.f k a0).bind fun t333 => (if t332 = t333 then ((sbox_Subs.f k a2).bind fun t334 => ((clavigerref06_Subs.f k a2).bind fun t335 => (if t334.toList = t335.toList then ((sbox_Backs.f k a2).bind fun t336 => ((clavigerref06_Backs.f k a2).bind fun t337 => (if t336.toList = t337.toList then ((sbox_Table.f k).bind fun t338 => ((clavigerref06_Table.f k).bind fun t339 => (if t338.toList = t339.toList then ((clavigerlaw06_awake.f k).bind fun t340 => (some t340)) else (some false)))) else (some false)))) else (some false)))) else (some false)))) else (some false)))) else (some false)) = some r := H
  have A8 := Aside0.mk A80
  clear A80
  by_cases c9 : t328 = t329
  ·rw [if_pos c9] at H
   have c9b0 : (t328 == t329) = true := beq_iff_eq.mpr c9
   have c9b1 : (t328 != t329) = false := bne_eq_false_iff_eq.mpr c9
   clear c9
   replace H := Option.bind_eq_some_iff.mp H
   obtain ⟨t330, A100, H⟩ := H
   replace H : ((clavigerref06_Sub.f k a0).bind fun t331 => (if t330 = t331 then ((sbox_Back.f k a0).bind fun t332 => ((clavigerref06_Back.f k a0).bind fun t333 => (if t332 = t333 then ((sbox_Subs.f k a2).bind fun t334 => ((clavigerref06_Subs.f k a2).bind fun t335 => (if t334.toList = t335.toList then ((sbox_Backs.f k a2).bind fun t336 => ((clavigerref06_Backs.f k a2).bind fun t337 => (if t336.toList = t337.toList then ((sbox_Table.f k).bind fun t338 => ((clavigerref06_Table.f k).bind fun t339 => (if t338.toList = t339.toList then ((clavigerlaw06_awake.f k).bind fun t340 => (some t340)) else (some false)))) else (some false)))) else (some false)))) else (some false)))) else (some false))) = some r := H
   have A10 := Aside0.mk A100
   clear A100
   replace H := Option.bind_eq_some_iff.mp H
   obtain ⟨t331, A110, H⟩ := H
   replace H : (if t330 = t331 then ((sbox_Back.f k a0).bind fun t332 => ((clavigerref06_Back.f k a0).bind fun t333 => (if t332 = t333 then ((sbox_Subs.f k a2).bind fun t334 => ((clavigerref06_Subs.f k a2).bind fun t335 => (if t334.toList = t335.toList then ((sbox_Backs.f k a2).bind fun t336 => ((clavigerref06_Backs.f k a2).bind fun t337 => (if t336.toList = t337.toList then ((sbox_Table.f k).bind fun t338 => ((clavigerref06_Table.f k).bind fun t339 => (if t338.toList = t339.toList then ((clavigerlaw06_awake.f k).bind fun t340 => (some t340)) else (some false)))) else (some false)))) else (some false)))) else (some false)))) else (some false)) = some r := H
   have A11 := Aside0.mk A110
   clear A110
   by_cases c12 : t330 = t331
   ·rw [if_pos c12] at H
    have c12b0 : (t330 == t331) = true := beq_iff_eq.mpr c12
    have c12b1 : (t330 != t331) = false := bne_eq_false_iff_eq.mpr c12
    clear c12
    replace H := Option.bind_eq_some_iff.mp H
    obtain ⟨t332, A130, H⟩ := H
    replace H : ((clavigerref06_Back.f k a0).bind fun t333 => (if t332 = t333 then ((sbox_Subs.f k a2).bind fun t334 => ((clavigerref06_Subs.f k a2).bind fun t335 => (if t334.toList = t335.toList then ((sbox_Backs.f k a2).bind fun t336 => ((clavigerref06_Backs.f k a2).bind fun t337 => (if t336.toList = t337.toList then ((sbox_Table.f k).bind fun t338 => ((clavigerref06_Table.f k).bind fun t339 => (if t338.toList = t339.toList then ((clavigerlaw06_awake.f k).bind fun t340 => (some t340)) else (some false)))) else (some false)))) else (some false)))) else (some false))) = some r := H
    have A13 := Aside0.mk A130
    clear A130
    replace H := Option.bind_eq_some_iff.mp H
    obtain ⟨t333, A140, H⟩ := H
    replace H : (if t332 = t333 then ((sbox_Subs.f k a2).bind fun t334 => ((clavigerref06_Subs.f k a2).bind fun t335 => (if t334.toList = t335.toList then ((sbox_Backs.f k a2).bind fun t336 => ((clavigerref06_Backs.f k a2).bind fun t337 => (if t336.toList = t337.toList then ((sbox_Table.f k).bind fun t338 => ((clavigerref06_Table.f k).bind fun t339 => (if t338.toList = t339.toList then ((clavigerlaw06_awake.f k).bind fun t340 => (some t340)) else (some false)))) else (some false)))) else (some false)))) else (some false)) = some r := H
    have A14 := Aside0.mk A140
    clear A140
    by_cases c15 : t332 = t333
    ·rw [if_pos c15] at H
     have c15b0 : (t332 == t333) = true := beq_iff_eq.mpr c15
     have c15b1 : (t332 != t333) = false := bne_eq_false_iff_eq.mpr c15
     clear c15
     replace H := Option.bind_eq_some_iff.mp H
     obtain ⟨t334, A160, H⟩ := H
     replace H : ((clavigerref06_Subs.f k a2).bind fun t335 => (if t334.toList = t335.toList then ((sbox_Backs.f k a2).bind fun t336 => ((clavigerref06_Backs.f k a2).bind fun t337 => (if t336.toList = t337.toList then ((sbox_Table.f k).bind fun t338 => ((clavigerref06_Table.f k).bind fun t339 => (if t338.toList = t339.toList then ((clavigerlaw06_awake.f k).bind fun t340 => (some t340)) else (some false)))) else (some false)))) else (some false))) = some r := H
     have A16 := Aside0.mk A160
     clear A160
     replace H := Option.bind_eq_some_iff.mp H
     obtain ⟨t335, A170, H⟩ := H
     replace H : (if t334.toList = t335.toList then ((sbox_Backs.f k a2).bind fun t336 => ((clavigerref06_Backs.f k a2).bind fun t337 => (if t336.toList = t337.toList then ((sbox_Table.f k).bind fun t338 => ((clavigerref06_Table.f k).bind fun t339 => (if t338.toList = t339.toList then ((clavigerlaw06_awake.f k).bind fun t340 => (some t340)) else (some false)))) else (some false)))) else (some false)) = some r := H
     have A17 := Aside0.mk A170
     clear A170
     by_cases c18 : t334.toList = t335.toList
     ·rw [if_pos c18] at H
      have c18b0 : (t334.toList == t335.toList) = true := beq_iff_eq.mpr c18
      have c18b1 : (t334.toList != t335.toList) = false := bne_eq_false_iff_eq.mpr c18
      clear c18
      replace H := Option.bind_eq_some_iff.mp H
      obtain ⟨t336, A190, H⟩ := H
      replace H : ((clavigerref06_Backs.f k a2).bind fun t337 => (if t336.toList = t337.toList then ((sbox_Table.f k).bind fun t338 => ((clavigerref06_Table.f k).bind fun t339 => (if t338.toList = t339.toList then ((clavigerlaw06_awake.f k).bind fun t340 => (some t340)) else (some false)))) else (some false))) = some r := H
      have A19 := Aside0.mk A190
      clear A190
      replace H := Option.bind_eq_some_iff.mp H
      obtain ⟨t337, A200, H⟩ := H
      replace H : (if t336.toList = t337.toList then ((sbox_Table.f k).bind fun t338 => ((clavigerref06_Table.f k).bind fun t339 => (if t338.toList = t339.toList then ((clavigerlaw06_awake.f k).bind fun t340 => (some t340)) else (some false)))) else (some false)) = some r := H
      have A20 := Aside0.mk A200
      clear A200
      by_cases c21 : t336.toList = t337.toList
      ·rw [if_pos c21] at H
       have c21b0 : (t336.toList == t337.toList) = true := beq_iff_eq.mpr c21
       have c21b1 : (t336.toList != t337.toList) = false := bne_eq_false_iff_eq.mpr c21
       clear c21
       replace H := Option.bind_eq_some_iff.mp H
       obtain ⟨t338, A220, H⟩ := H
       replace H : ((clavigerref06_Table.f k).bind fun t339 => (if t338.toList = t339.toList then ((clavigerlaw06_awake.f k).bind fun t340 => (some t340)) else (some false))) = some r := H
       have A22 := Aside0.mk A220
       clear A220
       replace H := Option.bind_eq_some_iff.mp H
       obtain ⟨t339, A230, H⟩ := H
       replace H : (if t338.toList = t339.toList then ((clavigerlaw06_awake.f k).bind fun t340 => (some t340)) else (some false)) = some r := H
       have A23 := Aside0.mk A230
       clear A230
       by_cases c24 : t338.toList = t339.toList
       ·rw [if_pos c24] at H
        have c24b0 : (t338.toList == t339.toList) = true := beq_iff_eq.mpr c24
        have c24b1 : (t338.toList != t339.toList) = false := bne_eq_false_iff_eq.mpr c24
        clear c24
        replace H := Option.bind_eq_some_iff.mp H
        obtain ⟨t340, A250, H⟩ := H
        replace H : (some t340) = some r := H
        have A25 := Aside0.mk A250
        clear A250
        obtain rfl := Option.some.inj H
        go_enter Try.func9, Try.ntmps9
        go_wp2_with (first | ((with_reducible refine gate_callee (f := 62) rfl ?_); refine goesL_ (some 13) rfl rfl Try.func62 (by kernel_rfl) rfl #[.int .u8 a0, .int .i64 a1] rfl (by (try simp only [List.map_toArray, List.map_cons, List.map_nil]); first | done | rfl | (simp only [List.length_drop, List.length_take]; rfl) | (simp only [ByteArray.size_extract, Nat.min_self, Nat.sub_zero, ByteArray.size_append]; first | done | rfl)) ?_; (with_reducible refine (sbox_Turn.calls a0 a1 t328 _ A7.out).mono ?_); rintro e w' ⟨rfl, ⟨nd, rfl⟩⟩; refine ⟨_, rfl, ?_⟩) | ((with_reducible refine gate_callee (f := 56) rfl ?_); refine goesL_ (some 16) rfl rfl Try.func56 (by kernel_rfl) rfl #[.int .u8 a0, .int .i64 a1] rfl (by (try simp only [List.map_toArray, List.map_cons, List.map_nil]); first | done | rfl | (simp only [List.length_drop, List.length_take]; rfl) | (simp only [ByteArray.size_extract, Nat.min_self, Nat.sub_zero, ByteArray.size_append]; first | done | rfl)) ?_; (with_reducible refine (clavigerref06_Turn.calls k a0 a1 t329 _ A8.out).mono ?_); rintro e w' ⟨rfl, ⟨nd, rfl⟩⟩; refine ⟨_, rfl, ?_⟩) | (go_at_call 57; (with_reducible refine (sbox_Sub.calls k a0 t330 _ A10.out).mono ?_); rintro e w' ⟨rfl, ⟨nd, rfl⟩⟩) | (go_at_call 63; (with_reducible refine (clavigerref06_Sub.calls k a0 t331 _ A11.out).mono ?_); rintro e w' ⟨rfl, ⟨nd, rfl⟩⟩) | (go_at_call 64; (with_reducible refine (sbox_Back.calls k a0 t332 _ A13.out).mono ?_); rintro e w' ⟨rfl, ⟨nd, rfl⟩⟩) | (go_at_call 65; (with_reducible refine (clavigerref06_Back.calls k a0 t333 _ A14.out).mono ?_); rintro e w' ⟨rfl, ⟨nd, rfl⟩⟩) | (go_at_call 66; (with_reducible refine (sbox_Subs.calls k a2 t334 _ A16.out).mono ?_); rintro e w26 ⟨rfl, hb⟩; have n0_ := Aside0.mk (below_step (by repeat (first | (with_reducible first | exact HB.out | apply below_alloc | apply pw_below_drewN | apply below_drew1) | exact HB.out)) hb); clear HB; have HB := n0_; clear n0_; (try clear hb); (try clear hb2); (try clear hk); (try clear hi)) | (go_at_call 67; (with_reducible refine (clavigerref06_Subs.calls k a2 t335 _ A17.out).mono ?_); rintro e w27 ⟨rfl, hb⟩; have n0_ := Aside0.mk (below_step (by repeat (first | (with_reducible first | exact HB.out | apply below_alloc | apply pw_below_drewN | apply below_drew1) | exact HB.out)) hb); clear HB; have HB := n0_; clear n0_; (try clear hb); (try clear hb2); (try clear hk); (try clear hi)) | (go_at_call 68; (with_reducible refine (sbox_Backs.calls k a2 t336 _ A19.out).mono ?_); rintro e w28 ⟨rfl, hb⟩; have n0_ := Aside0.mk (below_step (by repeat (first | (with_reducible first | exact HB.out | apply below_alloc | apply pw_below_drewN | apply below_drew1) | exact HB.out)) hb); clear HB; have HB := n0_; clear n0_; (try clear hb); (try clear hb2); (try clear hk); (try clear hi)) | (go_at_call 69; (with_reducible refine (clavigerref06_Backs.calls k a2 t337 _ A20.out).mono ?_); rintro e w29 ⟨rfl, hb⟩; have n0_ := Aside0.mk (below_step (by repeat (first | (with_reducible first | exact HB.out | apply below_alloc | apply pw_below_drewN | apply below_drew1) | exact HB.out)) hb); clear HB; have HB := n0_; clear n0_; (try clear hb); (try clear hb2); (try clear hk); (try clear hi)) | (go_at_call 70; (with_reducible refine (sbox_Table.calls k  t338 _ A22.out).mono ?_); rintro e w30 ⟨rfl, hb⟩; have n0_ := Aside0.mk (below_step (by repeat (first | (with_reducible first | exact HB.out | apply below_alloc | apply pw_below_drewN | apply below_drew1) | exact HB.out)) hb); clear HB; have HB := n0_; clear n0_; (try clear hb); (try clear hb2); (try clear hk); (try clear hi)) | (go_at_call 71; (with_reducible refine (clavigerref06_Table.calls k  t339 _ A23.out).mono ?_); rintro e w31 ⟨rfl, hb⟩; have n0_ := Aside0.mk (below_step (by repeat (first | (with_reducible first | exact HB.out | apply below_alloc | apply pw_below_drewN | apply below_drew1) | exact HB.out)) hb); clear HB; have HB := n0_; clear n0_; (try clear hb); (try clear hb2); (try clear hk); (try clear hi)) | (go_at_call 58; (with_reducible refine (clavigerlaw06_awake.calls k  t340 _ A25.out).mono ?_); rintro e w32 ⟨rfl, hb⟩; have n0_ := Aside0.mk (below_step (by repeat (first | (with_reducible first | exact HB.out | apply below_alloc | apply pw_below_drewN | apply below_drew1) | exact HB.out)) hb); clear HB; have HB := n0_; clear n0_; (try clear hb); (try clear hb2); (try clear hk); (try clear hi)))
        go_ret
        exact ⟨by first | rfl | (simp [errW_none, errW_some] <;> rfl) | (simp [*, errW_none, errW_some] <;> rfl), by repeat (first | (with_reducible first | exact HB.out | apply below_alloc | apply pw_below_drewN | apply below_drew1) | exact HB.out)⟩
       ·rw [if_neg c24] at H
        have c24b0 : (t338.toList == t339.toList) = false := beq_eq_false_iff_ne.mpr c24
        have c24b1 : (t338.toList != t339.toList) = true := bne_iff_ne.mpr c24
        obtain rfl := Option.some.inj H
        go_enter Try.func9, Try.ntmps9
        go_wp2_with (first | ((with_reducible refine gate_callee (f := 62) rfl ?_); refine goesL_ (some 13) rfl rfl Try.func62 (by kernel_rfl) rfl #[.int .u8 a0, .int .i64 a1] rfl (by (try simp only [List.map_toArray, List.map_cons, List.map_nil]); first | done | rfl | (simp only [List.length_drop, List.length_take]; rfl) | (simp only [ByteArray.size_extract, Nat.min_self, Nat.sub_zero, ByteArray.size_append]; first | done | rfl)) ?_; (with_reducible refine (sbox_Turn.calls a0 a1 t328 _ A7.out).mono ?_); rintro e w' ⟨rfl, ⟨nd, rfl⟩⟩; refine ⟨_, rfl, ?_⟩) | ((with_reducible refine gate_callee (f := 56) rfl ?_); refine goesL_ (some 16) rfl rfl Try.func56 (by kernel_rfl) rfl #[.int .u8 a0, .int .i64 a1] rfl (by (try simp only [List.map_toArray, List.map_cons, List.map_nil]); first | done | rfl | (simp only [List.length_drop, List.length_take]; rfl) | (simp only [ByteArray.size_extract, Nat.min_self, Nat.sub_zero, ByteArray.size_append]; first | done | rfl)) ?_; (with_reducible refine (clavigerref06_Turn.calls k a0 a1 t329 _ A8.out).mono ?_); rintro e w' ⟨rfl, ⟨nd, rfl⟩⟩; refine ⟨_, rfl, ?_⟩) | (go_at_call 57; (with_reducible refine (sbox_Sub.calls k a0 t330 _ A10.out).mono ?_); rintro e w' ⟨rfl, ⟨nd, rfl⟩⟩) | (go_at_call 63; (with_reducible refine (clavigerref06_Sub.calls k a0 t331 _ A11.out).mono ?_); rintro e w' ⟨rfl, ⟨nd, rfl⟩⟩) | (go_at_call 64; (with_reducible refine (sbox_Back.calls k a0 t332 _ A13.out).mono ?_); rintro e w' ⟨rfl, ⟨nd, rfl⟩⟩) | (go_at_call 65; (with_reducible refine (clavigerref06_Back.calls k a0 t333 _ A14.out).mono ?_); rintro e w' ⟨rfl, ⟨nd, rfl⟩⟩) | (go_at_call 66; (with_reducible refine (sbox_Subs.calls k a2 t334 _ A16.out).mono ?_); rintro e w33 ⟨rfl, hb⟩; have n0_ := Aside0.mk (below_step (by repeat (first | (with_reducible first | exact HB.out | apply below_alloc | apply pw_below_drewN | apply below_drew1) | exact HB.out)) hb); clear HB; have HB := n0_; clear n0_; (try clear hb); (try clear hb2); (try clear hk); (try clear hi)) | (go_at_call 67; (with_reducible refine (clavigerref06_Subs.calls k a2 t335 _ A17.out).mono ?_); rintro e w34 ⟨rfl, hb⟩; have n0_ := Aside0.mk (below_step (by repeat (first | (with_reducible first | exact HB.out | apply below_alloc | apply pw_below_drewN | apply below_drew1) | exact HB.out)) hb); clear HB; have HB := n0_; clear n0_; (try clear hb); (try clear hb2); (try clear hk); (try clear hi)) | (go_at_call 68; (with_reducible refine (sbox_Backs.calls k a2 t336 _ A19.out).mono ?_); rintro e w35 ⟨rfl, hb⟩; have n0_ := Aside0.mk (below_step (by repeat (first | (with_reducible first | exact HB.out | apply below_alloc | apply pw_below_drewN | apply below_drew1) | exact HB.out)) hb); clear HB; have HB := n0_; clear n0_; (try clear hb); (try clear hb2); (try clear hk); (try clear hi)) | (go_at_call 69; (with_reducible refine (clavigerref06_Backs.calls k a2 t337 _ A20.out).mono ?_); rintro e w36 ⟨rfl, hb⟩; have n0_ := Aside0.mk (below_step (by repeat (first | (with_reducible first | exact HB.out | apply below_alloc | apply pw_below_drewN | apply below_drew1) | exact HB.out)) hb); clear HB; have HB := n0_; clear n0_; (try clear hb); (try clear hb2); (try clear hk); (try clear hi)) | (go_at_call 70; (with_reducible refine (sbox_Table.calls k  t338 _ A22.out).mono ?_); rintro e w37 ⟨rfl, hb⟩; have n0_ := Aside0.mk (below_step (by repeat (first | (with_reducible first | exact HB.out | apply below_alloc | apply pw_below_drewN | apply below_drew1) | exact HB.out)) hb); clear HB; have HB := n0_; clear n0_; (try clear hb); (try clear hb2); (try clear hk); (try clear hi)) | (go_at_call 71; (with_reducible refine (clavigerref06_Table.calls k  t339 _ A23.out).mono ?_); rintro e w38 ⟨rfl, hb⟩; have n0_ := Aside0.mk (below_step (by repeat (first | (with_reducible first | exact HB.out | apply below_alloc | apply pw_below_drewN | apply below_drew1) | exact HB.out)) hb); clear HB; have HB := n0_; clear n0_; (try clear hb); (try clear hb2); (try clear hk); (try clear hi)))
        go_ret
        exact ⟨by first | rfl | (simp [errW_none, errW_some] <;> rfl) | (simp [*, errW_none, errW_some] <;> rfl), by repeat (first | (with_reducible first | exact HB.out | apply below_alloc | apply pw_below_drewN | apply below_drew1) | exact HB.out)⟩
      ·rw [if_neg c21] at H
       have c21b0 : (t336.toList == t337.toList) = false := beq_eq_false_iff_ne.mpr c21
       have c21b1 : (t336.toList != t337.toList) = true := bne_iff_ne.mpr c21
       obtain rfl := Option.some.inj H
       go_enter Try.func9, Try.ntmps9
       go_wp2_with (first | ((with_reducible refine gate_callee (f := 62) rfl ?_); refine goesL_ (some 13) rfl rfl Try.func62 (by kernel_rfl) rfl #[.int .u8 a0, .int .i64 a1] rfl (by (try simp only [List.map_toArray, List.map_cons, List.map_nil]); first | done | rfl | (simp only [List.length_drop, List.length_take]; rfl) | (simp only [ByteArray.size_extract, Nat.min_self, Nat.sub_zero, ByteArray.size_append]; first | done | rfl)) ?_; (with_reducible refine (sbox_Turn.calls a0 a1 t328 _ A7.out).mono ?_); rintro e w' ⟨rfl, ⟨nd, rfl⟩⟩; refine ⟨_, rfl, ?_⟩) | ((with_reducible refine gate_callee (f := 56) rfl ?_); refine goesL_ (some 16) rfl rfl Try.func56 (by kernel_rfl) rfl #[.int .u8 a0, .int .i64 a1] rfl (by (try simp only [List.map_toArray, List.map_cons, List.map_nil]); first | done | rfl | (simp only [List.length_drop, List.length_take]; rfl) | (simp only [ByteArray.size_extract, Nat.min_self, Nat.sub_zero, ByteArray.size_append]; first | done | rfl)) ?_; (with_reducible refine (clavigerref06_Turn.calls k a0 a1 t329 _ A8.out).mono ?_); rintro e w' ⟨rfl, ⟨nd, rfl⟩⟩; refine ⟨_, rfl, ?_⟩) | (go_at_call 57; (with_reducible refine (sbox_Sub.calls k a0 t330 _ A10.out).mono ?_); rintro e w' ⟨rfl, ⟨nd, rfl⟩⟩) | (go_at_call 63; (with_reducible refine (clavigerref06_Sub.calls k a0 t331 _ A11.out).mono ?_); rintro e w' ⟨rfl, ⟨nd, rfl⟩⟩) | (go_at_call 64; (with_reducible refine (sbox_Back.calls k a0 t332 _ A13.out).mono ?_); rintro e w' ⟨rfl, ⟨nd, rfl⟩⟩) | (go_at_call 65; (with_reducible refine (clavigerref06_Back.calls k a0 t333 _ A14.out).mono ?_); rintro e w' ⟨rfl, ⟨nd, rfl⟩⟩) | (go_at_call 66; (with_reducible refine (sbox_Subs.calls k a2 t334 _ A16.out).mono ?_); rintro e w39 ⟨rfl, hb⟩; have n0_ := Aside0.mk (below_step (by repeat (first | (with_reducible first | exact HB.out | apply below_alloc | apply pw_below_drewN | apply below_drew1) | exact HB.out)) hb); clear HB; have HB := n0_; clear n0_; (try clear hb); (try clear hb2); (try clear hk); (try clear hi)) | (go_at_call 67; (with_reducible refine (clavigerref06_Subs.calls k a2 t335 _ A17.out).mono ?_); rintro e w40 ⟨rfl, hb⟩; have n0_ := Aside0.mk (below_step (by repeat (first | (with_reducible first | exact HB.out | apply below_alloc | apply pw_below_drewN | apply below_drew1) | exact HB.out)) hb); clear HB; have HB := n0_; clear n0_; (try clear hb); (try clear hb2); (try clear hk); (try clear hi)) | (go_at_call 68; (with_reducible refine (sbox_Backs.calls k a2 t336 _ A19.out).mono ?_); rintro e w41 ⟨rfl, hb⟩; have n0_ := Aside0.mk (below_step (by repeat (first | (with_reducible first | exact HB.out | apply below_alloc | apply pw_below_drewN | apply below_drew1) | exact HB.out)) hb); clear HB; have HB := n0_; clear n0_; (try clear hb); (try clear hb2); (try clear hk); (try clear hi)) | (go_at_call 69; (with_reducible refine (clavigerref06_Backs.calls k a2 t337 _ A20.out).mono ?_); rintro e w42 ⟨rfl, hb⟩; have n0_ := Aside0.mk (below_step (by repeat (first | (with_reducible first | exact HB.out | apply below_alloc | apply pw_below_drewN | apply below_drew1) | exact HB.out)) hb); clear HB; have HB := n0_; clear n0_; (try clear hb); (try clear hb2); (try clear hk); (try clear hi)))
       go_ret
       exact ⟨by first | rfl | (simp [errW_none, errW_some] <;> rfl) | (simp [*, errW_none, errW_some] <;> rfl), by repeat (first | (with_reducible first | exact HB.out | apply below_alloc | apply pw_below_drewN | apply below_drew1) | exact HB.out)⟩
     ·rw [if_neg c18] at H
      have c18b0 : (t334.toList == t335.toList) = false := beq_eq_false_iff_ne.mpr c18
      have c18b1 : (t334.toList != t335.toList) = true := bne_iff_ne.mpr c18
      obtain rfl := Option.some.inj H
      go_enter Try.func9, Try.ntmps9
      go_wp2_with (first | ((with_reducible refine gate_callee (f := 62) rfl ?_); refine goesL_ (some 13) rfl rfl Try.func62 (by kernel_rfl) rfl #[.int .u8 a0, .int .i64 a1] rfl (by (try simp only [List.map_toArray, List.map_cons, List.map_nil]); first | done | rfl | (simp only [List.length_drop, List.length_take]; rfl) | (simp only [ByteArray.size_extract, Nat.min_self, Nat.sub_zero, ByteArray.size_append]; first | done | rfl)) ?_; (with_reducible refine (sbox_Turn.calls a0 a1 t328 _ A7.out).mono ?_); rintro e w' ⟨rfl, ⟨nd, rfl⟩⟩; refine ⟨_, rfl, ?_⟩) | ((with_reducible refine gate_callee (f := 56) rfl ?_); refine goesL_ (some 16) rfl rfl Try.func56 (by kernel_rfl) rfl #[.int .u8 a0, .int .i64 a1] rfl (by (try simp only [List.map_toArray, List.map_cons, List.map_nil]); first | done | rfl | (simp only [List.length_drop, List.length_take]; rfl) | (simp only [ByteArray.size_extract, Nat.min_self, Nat.sub_zero, ByteArray.size_append]; first | done | rfl)) ?_; (with_reducible refine (clavigerref06_Turn.calls k a0 a1 t329 _ A8.out).mono ?_); rintro e w' ⟨rfl, ⟨nd, rfl⟩⟩; refine ⟨_, rfl, ?_⟩) | (go_at_call 57; (with_reducible refine (sbox_Sub.calls k a0 t330 _ A10.out).mono ?_); rintro e w' ⟨rfl, ⟨nd, rfl⟩⟩) | (go_at_call 63; (with_reducible refine (clavigerref06_Sub.calls k a0 t331 _ A11.out).mono ?_); rintro e w' ⟨rfl, ⟨nd, rfl⟩⟩) | (go_at_call 64; (with_reducible refine (sbox_Back.calls k a0 t332 _ A13.out).mono ?_); rintro e w' ⟨rfl, ⟨nd, rfl⟩⟩) | (go_at_call 65; (with_reducible refine (clavigerref06_Back.calls k a0 t333 _ A14.out).mono ?_); rintro e w' ⟨rfl, ⟨nd, rfl⟩⟩) | (go_at_call 66; (with_reducible refine (sbox_Subs.calls k a2 t334 _ A16.out).mono ?_); rintro e w43 ⟨rfl, hb⟩; have n0_ := Aside0.mk (below_step (by repeat (first | (with_reducible first | exact HB.out | apply below_alloc | apply pw_below_drewN | apply below_drew1) | exact HB.out)) hb); clear HB; have HB := n0_; clear n0_; (try clear hb); (try clear hb2); (try clear hk); (try clear hi)) | (go_at_call 67; (with_reducible refine (clavigerref06_Subs.calls k a2 t335 _ A17.out).mono ?_); rintro e w44 ⟨rfl, hb⟩; have n0_ := Aside0.mk (below_step (by repeat (first | (with_reducible first | exact HB.out | apply below_alloc | apply pw_below_drewN | apply below_drew1) | exact HB.out)) hb); clear HB; have HB := n0_; clear n0_; (try clear hb); (try clear hb2); (try clear hk); (try clear hi)))
      go_ret
      exact ⟨by first | rfl | (simp [errW_none, errW_some] <;> rfl) | (simp [*, errW_none, errW_some] <;> rfl), by repeat (first | (with_reducible first | exact HB.out | apply below_alloc | apply pw_below_drewN | apply below_drew1) | exact HB.out)⟩
    ·rw [if_neg c15] at H
     have c15b0 : (t332 == t333) = false := beq_eq_false_iff_ne.mpr c15
     have c15b1 : (t332 != t333) = true := bne_iff_ne.mpr c15
     obtain rfl := Option.some.inj H
     go_enter Try.func9, Try.ntmps9
     go_wp2_with (first | ((with_reducible refine gate_callee (f := 62) rfl ?_); refine goesL_ (some 13) rfl rfl Try.func62 (by kernel_rfl) rfl #[.int .u8 a0, .int .i64 a1] rfl (by (try simp only [List.map_toArray, List.map_cons, List.map_nil]); first | done | rfl | (simp only [List.length_drop, List.length_take]; rfl) | (simp only [ByteArray.size_extract, Nat.min_self, Nat.sub_zero, ByteArray.size_append]; first | done | rfl)) ?_; (with_reducible refine (sbox_Turn.calls a0 a1 t328 _ A7.out).mono ?_); rintro e w' ⟨rfl, ⟨nd, rfl⟩⟩; refine ⟨_, rfl, ?_⟩) | ((with_reducible refine gate_callee (f := 56) rfl ?_); refine goesL_ (some 16) rfl rfl Try.func56 (by kernel_rfl) rfl #[.int .u8 a0, .int .i64 a1] rfl (by (try simp only [List.map_toArray, List.map_cons, List.map_nil]); first | done | rfl | (simp only [List.length_drop, List.length_take]; rfl) | (simp only [ByteArray.size_extract, Nat.min_self, Nat.sub_zero, ByteArray.size_append]; first | done | rfl)) ?_; (with_reducible refine (clavigerref06_Turn.calls k a0 a1 t329 _ A8.out).mono ?_); rintro e w' ⟨rfl, ⟨nd, rfl⟩⟩; refine ⟨_, rfl, ?_⟩) | (go_at_call 57; (with_reducible refine (sbox_Sub.calls k a0 t330 _ A10.out).mono ?_); rintro e w' ⟨rfl, ⟨nd, rfl⟩⟩) | (go_at_call 63; (with_reducible refine (clavigerref06_Sub.calls k a0 t331 _ A11.out).mono ?_); rintro e w' ⟨rfl, ⟨nd, rfl⟩⟩) | (go_at_call 64; (with_reducible refine (sbox_Back.calls k a0 t332 _ A13.out).mono ?_); rintro e w' ⟨rfl, ⟨nd, rfl⟩⟩) | (go_at_call 65; (with_reducible refine (clavigerref06_Back.calls k a0 t333 _ A14.out).mono ?_); rintro e w' ⟨rfl, ⟨nd, rfl⟩⟩))
     go_ret
     exact ⟨by first | rfl | (simp [errW_none, errW_some] <;> rfl) | (simp [*, errW_none, errW_some] <;> rfl), by repeat (first | (with_reducible first | exact HB.out | apply below_alloc | apply pw_below_drewN | apply below_drew1) | exact HB.out)⟩
   ·rw [if_neg c12] at H
    have c12b0 : (t330 == t331) = false := beq_eq_false_iff_ne.mpr c12
    have c12b1 : (t330 != t331) = true := bne_iff_ne.mpr c12
    obtain rfl := Option.some.inj H
    go_enter Try.func9, Try.ntmps9
    go_wp2_with (first | ((with_reducible refine gate_callee (f := 62) rfl ?_); refine goesL_ (some 13) rfl rfl Try.func62 (by kernel_rfl) rfl #[.int .u8 a0, .int .i64 a1] rfl (by (try simp only [List.map_toArray, List.map_cons, List.map_nil]); first | done | rfl | (simp only [List.length_drop, List.length_take]; rfl) | (simp only [ByteArray.size_extract, Nat.min_self, Nat.sub_zero, ByteArray.size_append]; first | done | rfl)) ?_; (with_reducible refine (sbox_Turn.calls a0 a1 t328 _ A7.out).mono ?_); rintro e w' ⟨rfl, ⟨nd, rfl⟩⟩; refine ⟨_, rfl, ?_⟩) | ((with_reducible refine gate_callee (f := 56) rfl ?_); refine goesL_ (some 16) rfl rfl Try.func56 (by kernel_rfl) rfl #[.int .u8 a0, .int .i64 a1] rfl (by (try simp only [List.map_toArray, List.map_cons, List.map_nil]); first | done | rfl | (simp only [List.length_drop, List.length_take]; rfl) | (simp only [ByteArray.size_extract, Nat.min_self, Nat.sub_zero, ByteArray.size_append]; first | done | rfl)) ?_; (with_reducible refine (clavigerref06_Turn.calls k a0 a1 t329 _ A8.out).mono ?_); rintro e w' ⟨rfl, ⟨nd, rfl⟩⟩; refine ⟨_, rfl, ?_⟩) | (go_at_call 57; (with_reducible refine (sbox_Sub.calls k a0 t330 _ A10.out).mono ?_); rintro e w' ⟨rfl, ⟨nd, rfl⟩⟩) | (go_at_call 63; (with_reducible refine (clavigerref06_Sub.calls k a0 t331 _ A11.out).mono ?_); rintro e w' ⟨rfl, ⟨nd, rfl⟩⟩))
    go_ret
    exact ⟨by first | rfl | (simp [errW_none, errW_some] <;> rfl) | (simp [*, errW_none, errW_some] <;> rfl), by repeat (first | (with_reducible first | exact HB.out | apply below_alloc | apply pw_below_drewN | apply below_drew1) | exact HB.out)⟩
  ·rw [if_neg c9] at H
   have c9b0 : (t328 == t329) = false := beq_eq_false_iff_ne.mpr c9
   have c9b1 : (t328 != t329) = true := bne_iff_ne.mpr c9
   obtain rfl := Option.some.inj H
   go_enter Try.func9, Try.ntmps9
   go_wp2_with (first | ((with_reducible refine gate_callee (f := 62) rfl ?_); refine goesL_ (some 13) rfl rfl Try.func62 (by kernel_rfl) rfl #[.int .u8 a0, .int .i64 a1] rfl (by (try simp only [List.map_toArray, List.map_cons, List.map_nil]); first | done | rfl | (simp only [List.length_drop, List.length_take]; rfl) | (simp only [ByteArray.size_extract, Nat.min_self, Nat.sub_zero, ByteArray.size_append]; first | done | rfl)) ?_; (with_reducible refine (sbox_Turn.calls a0 a1 t328 _ A7.out).mono ?_); rintro e w' ⟨rfl, ⟨nd, rfl⟩⟩; refine ⟨_, rfl, ?_⟩) | ((with_reducible refine gate_callee (f := 56) rfl ?_); refine goesL_ (some 16) rfl rfl Try.func56 (by kernel_rfl) rfl #[.int .u8 a0, .int .i64 a1] rfl (by (try simp only [List.map_toArray, List.map_cons, List.map_nil]); first | done | rfl | (simp only [List.length_drop, List.length_take]; rfl) | (simp only [ByteArray.size_extract, Nat.min_self, Nat.sub_zero, ByteArray.size_append]; first | done | rfl)) ?_; (with_reducible refine (clavigerref06_Turn.calls k a0 a1 t329 _ A8.out).mono ?_); rintro e w' ⟨rfl, ⟨nd, rfl⟩⟩; refine ⟨_, rfl, ?_⟩))
   go_ret
   exact ⟨by first | rfl | (simp [errW_none, errW_some] <;> rfl) | (simp [*, errW_none, errW_some] <;> rfl), by repeat (first | (with_reducible first | exact HB.out | apply below_alloc | apply pw_below_drewN | apply below_drew1) | exact HB.out)⟩

/-- THE ONE PURE STATEMENT of clavigerlaw06_SboxTells: yours. -/
def clavigerlaw06_SboxTells.Pure : Prop := ∀ (a0 : Int) (a1 : Int) (a2 : ByteArray), (Lit.int .u8 a0).wf = true → (Lit.int .i64 a1).wf = true → a2.size ≤ 140737488351232 → ∃ k, clavigerlaw06_SboxTells.f k a0 a1 a2 = some true
theorem clavigerlaw06_SboxTells.walk (P : clavigerlaw06_SboxTells.Pure) (a0 : Int) (a1 : Int) (a2 : ByteArray) (w : World) (w0 : (Lit.int .u8 a0).wf = true) (w1 : (Lit.int .i64 a1).wf = true) (w2 : a2.size ≤ 140737488351232) :
  Calls Try.prog 9 #[.int .u8 a0, .int .i64 a1, .string a2] w fun e w' => e = .returned (.bool true) ∧ Below w.heap.size w w' := by
 obtain ⟨k, h⟩ := P a0 a1 a2 w0 w1 w2
 refine (clavigerlaw06_SboxTells.calls k a0 a1 a2 true w h).mono ?_
 rintro e w' ⟨rfl, hd⟩
 exact ⟨rfl, hd⟩

end Go.Proofs.Ytokkhnjedmlbhaa.Pr
