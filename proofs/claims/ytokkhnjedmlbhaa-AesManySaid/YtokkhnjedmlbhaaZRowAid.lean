-- several texts in one (by the session's program shake.py)
import Derived.Test.YtokkhnjedmlbhaaZFieldP
import Derived.Test.YtokkhnjedmlbhaaZRun
import Derived.Test.YtokkhnjedmlbhaaZMany
import Derived.Test.YtokkhnjedmlbhaaZPrg08
import Derived.Test.YtokkhnjedmlbhaaRows
import Derived.JoinedOf
import Derived.KernelRfl
section
namespace Go.Proofs.Ytokkhnjedmlbhaa.Pr
open Go.RowKit Go.Proofs.YtokkhnjedmlbhaaW.PrintWords Go.Proofs.YtokkhnjedmlbhaaW.PrintLast Go.Proofs.YtokkhnjedmlbhaaW.PrintMore
attribute [local go_sem] max2_int min2_int max_two min_two max_three min_three max_four min_four   -- for this text's walks alone
set_option linter.unusedVariables false
set_option linter.unusedSimpArgs false

def clavigerlaw09_awake.f  : Option (Bool) := (aes_Encrypt.f (⟨#[0, 1, 2, 3, 4, 5, 6, 7, 8, 9, 10, 11, 12, 13, 14, 15]⟩ : ByteArray) (⟨#[0, 17, 34, 51, 68, 85, 102, 119, 136, 153, 170, 187, 204, 221, 238, 255]⟩ : ByteArray)).bind fun bt1 => (if bt1.1.toList = ([105, 196, 224, 216, 106, 123, 4, 48, 216, 205, 183, 128, 112, 180, 197, 90] : List UInt8) then (some (bt1.2 == 0)) else (some false))
set_option maxHeartbeats 8000000 in
set_option maxRecDepth 100000 in
theorem clavigerlaw09_awake.calls  (r : Bool) (w : World) (h : clavigerlaw09_awake.f  = some r) :
  Calls Try.prog 97 #[] w fun e w' => e = .returned (.bool r) ∧ Below w.heap.size w w' := by
 have HB := Aside0.mk (Below.refl w.heap.size w)
 have H : ((aes_Encrypt.f (⟨#[0, 1, 2, 3, 4, 5, 6, 7, 8, 9, 10, 11, 12, 13, 14, 15]⟩ : ByteArray) (⟨#[0, 17, 34, 51, 68, 85, 102, 119, 136, 153, 170, 187, 204, 221, 238, 255]⟩ : ByteArray)).bind fun bt1 => (if bt1.1.toList = ([105, 196, 224, 216, 106, 123, 4, 48, 216, 205, 183, 128, 112, 180, 197, 90] : List UInt8) then (some (bt1.2 == 0)) else (some false))) = some r := h
 clear h
 replace H := Option.bind_eq_some_iff.mp H
 obtain ⟨⟨t1, t2⟩, A10, H⟩ := H
 try dsimp only at H
 have A1 := Aside0.mk A10
 clear A10
 by_cases c2 : t1.toList = ([105, 196, 224, 216, 106, 123, 4, 48, 216, 205, 183, 128, 112, 180, 197, 90] : List UInt8)
 ·rw [if_pos c2] at H
  have c2b0 : (t1.toList == ([105, 196, 224, 216, 106, 123, 4, 48, 216, 205, 183, 128, 112, 180, 197, 90] : List UInt8)) = true := beq_iff_eq.mpr c2
  have c2b1 : (t1.toList != ([105, 196, 224, 216, 106, 123, 4, 48, 216, 205, 183, 128, 112, 180, 197, 90] : List UInt8)) = false := bne_eq_false_iff_eq.mpr c2
  clear c2
  obtain rfl := Option.some.inj H
  go_enter Try.func97, Try.ntmps97
  go_wp2_with (first | ((with_reducible refine gate_callee (f := 98) rfl ?_); refine goesL_ (some 4) rfl rfl Try.func98 (by kernel_rfl) rfl #[.string (⟨#[0, 1, 2, 3, 4, 5, 6, 7, 8, 9, 10, 11, 12, 13, 14, 15]⟩ : ByteArray), .string (⟨#[0, 17, 34, 51, 68, 85, 102, 119, 136, 153, 170, 187, 204, 221, 238, 255]⟩ : ByteArray)] rfl (by (try simp only [lT, lC, lN]); first | done | rfl) ?_; (with_reducible refine (aes_Encrypt.calls (⟨#[0, 1, 2, 3, 4, 5, 6, 7, 8, 9, 10, 11, 12, 13, 14, 15]⟩ : ByteArray) (⟨#[0, 17, 34, 51, 68, 85, 102, 119, 136, 153, 170, 187, 204, 221, 238, 255]⟩ : ByteArray) t1 t2 _ A1.out).mono ?_); rintro e w3 ⟨rfl, hb⟩; refine ⟨_, rfl, ?_⟩; have n0_ := Aside0.mk (below_step (by repeat first | with_reducible (first | exact HB.out | apply bA | apply bN | apply bD) | exact HB.out) hb); clear HB; have HB := n0_; clear n0_; (try clear hb); (try clear hb2); (try clear hk); (try clear hi)))
  go_ret
  exact ⟨by first | rfl | (simp [*, errW_none, errW_some] <;> rfl), by repeat first | with_reducible (first | exact HB.out | apply bA | apply bN | apply bD) | exact HB.out⟩
 ·rw [if_neg c2] at H
  have c2b0 : (t1.toList == ([105, 196, 224, 216, 106, 123, 4, 48, 216, 205, 183, 128, 112, 180, 197, 90] : List UInt8)) = false := beq_eq_false_iff_ne.mpr c2
  have c2b1 : (t1.toList != ([105, 196, 224, 216, 106, 123, 4, 48, 216, 205, 183, 128, 112, 180, 197, 90] : List UInt8)) = true := bne_iff_ne.mpr c2
  obtain rfl := Option.some.inj H
  go_enter Try.func97, Try.ntmps97
  go_wp2_with (first | ((with_reducible refine gate_callee (f := 98) rfl ?_); refine goesL_ (some 4) rfl rfl Try.func98 (by kernel_rfl) rfl #[.string (⟨#[0, 1, 2, 3, 4, 5, 6, 7, 8, 9, 10, 11, 12, 13, 14, 15]⟩ : ByteArray), .string (⟨#[0, 17, 34, 51, 68, 85, 102, 119, 136, 153, 170, 187, 204, 221, 238, 255]⟩ : ByteArray)] rfl (by (try simp only [lT, lC, lN]); first | done | rfl) ?_; (with_reducible refine (aes_Encrypt.calls (⟨#[0, 1, 2, 3, 4, 5, 6, 7, 8, 9, 10, 11, 12, 13, 14, 15]⟩ : ByteArray) (⟨#[0, 17, 34, 51, 68, 85, 102, 119, 136, 153, 170, 187, 204, 221, 238, 255]⟩ : ByteArray) t1 t2 _ A1.out).mono ?_); rintro e w4 ⟨rfl, hb⟩; refine ⟨_, rfl, ?_⟩; have n0_ := Aside0.mk (below_step (by repeat first | with_reducible (first | exact HB.out | apply bA | apply bN | apply bD) | exact HB.out) hb); clear HB; have HB := n0_; clear n0_; (try clear hb); (try clear hb2); (try clear hk); (try clear hi)))
  go_ret
  exact ⟨by first | rfl | (simp [*, errW_none, errW_some] <;> rfl), by repeat first | with_reducible (first | exact HB.out | apply bA | apply bN | apply bD) | exact HB.out⟩

end Go.Proofs.Ytokkhnjedmlbhaa.Pr
end
section
namespace Go.Proofs.Ytokkhnjedmlbhaa.Pr
open Go.RowKit Go.Proofs.YtokkhnjedmlbhaaW.PrintWords Go.Proofs.YtokkhnjedmlbhaaW.PrintLast Go.Proofs.YtokkhnjedmlbhaaW.PrintMore
attribute [local go_sem] max2_int min2_int max_two min_two max_three min_three max_four min_four   -- for this text's walks alone
set_option linter.unusedVariables false
set_option linter.unusedSimpArgs false

mutual
def clavigerlaw09_AesBack.j0 : Nat → ByteArray → ByteArray → ByteArray → Bool → Option (Bool)
 | 0, _, _, _, _ => none
 | k + 1, x0, x1, x2, x29 => if x29 = true then ((clavigerlaw09_awake.f).bind fun t1 => (some t1)) else ((aes_Encrypt.f x0 x1).bind fun bt2 => ((aes_Decrypt.f x0 x1).bind fun bt3 => (if bt2.2 = 0 then (clavigerlaw09_AesBack.j1 k x0 x1 x2 bt2.1 bt2.2 bt3.1 bt3.2 (bt3.2 != 0)) else (clavigerlaw09_AesBack.j1 k x0 x1 x2 bt2.1 bt2.2 bt3.1 bt3.2 true))))
def clavigerlaw09_AesBack.j1 : Nat → ByteArray → ByteArray → ByteArray → ByteArray → Int → ByteArray → Int → Bool → Option (Bool)
 | 0, _, _, _, _, _, _, _, _ => none
 | k + 1, x0, x1, x2, x7, x8, x9, x10, x48 => if x48 = true then (if x8 = x10 then (if x7.toList = ([] : List UInt8) then (if x9.toList = ([] : List UInt8) then ((clavigerlaw09_awake.f).bind fun t4 => (some t4)) else (some false)) else (some false)) else (some false)) else ((aes_Decrypt.f x0 x7).bind fun bt5 => ((aes_Encrypt.f x0 x9).bind fun bt6 => ((aes_Encrypt.f x0 x2).bind fun bt7 => (if bt5.1.toList = x1.toList then (if bt6.1.toList = x1.toList then (if bt5.2 = 0 then (if bt6.2 = 0 then (if bt7.2 = 0 then (if ((bt7.1.toList == x7.toList) == (x1.toList == x2.toList)) = true then ((clavigerlaw09_awake.f).bind fun t8 => (some t8)) else (some false)) else ((clavigerlaw09_awake.f).bind fun t9 => (some t9))) else (some false)) else (some false)) else (some false)) else (some false)))))
end
def clavigerlaw09_AesBack.f (k : Nat) (a0 : ByteArray) (a1 : ByteArray) (a2 : ByteArray) : Option (Bool) := if (a0.size : Int) > 100 then (clavigerlaw09_AesBack.j0 k a0 a1 a2 true) else (if (a1.size : Int) > 100 then (clavigerlaw09_AesBack.j0 k a0 a1 a2 true) else (clavigerlaw09_AesBack.j0 k a0 a1 a2 (decide ((a2.size : Int) > 100))))
theorem clavigerlaw09_AesBack.mono_l : ∀ k, (∀ y10 y11 y12 y13, LeO (clavigerlaw09_AesBack.j0 k y10 y11 y12 y13) (clavigerlaw09_AesBack.j0 (k + 1) y10 y11 y12 y13)) ∧ (∀ y10 y11 y12 y13 y14 y15 y16 y17, LeO (clavigerlaw09_AesBack.j1 k y10 y11 y12 y13 y14 y15 y16 y17) (clavigerlaw09_AesBack.j1 (k + 1) y10 y11 y12 y13 y14 y15 y16 y17))
 | 0 => ⟨fun _ _ _ _ r h => by simp [clavigerlaw09_AesBack.j0] at h, fun _ _ _ _ _ _ _ _ r h => by simp [clavigerlaw09_AesBack.j1] at h⟩
 | k + 1 => by
  obtain ⟨ih0, ih1⟩ := clavigerlaw09_AesBack.mono_l k
  refine ⟨?_, ?_⟩
  ·intro y10 y11 y12 y13
   unfold clavigerlaw09_AesBack.j0
   repeat' first
   | (with_reducible exact ih0 _ _ _ _)
   | (with_reducible exact ih1 _ _ _ _ _ _ _ _)
   | (with_reducible exact LeO.refl _)
   | (with_reducible exact LeO.none _)
   | (with_reducible refine LeO.ite ?_ ?_)
   | (with_reducible refine LeO.bind ?_ (fun _ => ?_))
  ·intro y10 y11 y12 y13 y14 y15 y16 y17
   unfold clavigerlaw09_AesBack.j1
   repeat' first
   | (with_reducible exact ih0 _ _ _ _)
   | (with_reducible exact ih1 _ _ _ _ _ _ _ _)
   | (with_reducible exact LeO.refl _)
   | (with_reducible exact LeO.none _)
   | (with_reducible refine LeO.ite ?_ ?_)
   | (with_reducible refine LeO.bind ?_ (fun _ => ?_))
theorem clavigerlaw09_AesBack.mono : ∀ a0 a1 a2 k, LeO (clavigerlaw09_AesBack.f k a0 a1 a2) (clavigerlaw09_AesBack.f (k + 1) a0 a1 a2) := by
 intro a0 a1 a2 k
 obtain ⟨ih0, ih1⟩ := clavigerlaw09_AesBack.mono_l k
 unfold clavigerlaw09_AesBack.f
 repeat' first
   | (with_reducible exact ih0 _ _ _ _)
   | (with_reducible exact ih1 _ _ _ _ _ _ _ _)
   | (with_reducible exact LeO.refl _)
   | (with_reducible exact LeO.none _)
   | (with_reducible refine LeO.ite ?_ ?_)
   | (with_reducible refine LeO.bind ?_ (fun _ => ?_))
end Go.Proofs.Ytokkhnjedmlbhaa.Pr
end
section
namespace Go.Proofs.Ytokkhnjedmlbhaa.Pr
open Go.RowKit Go.Proofs.YtokkhnjedmlbhaaW.PrintWords Go.Proofs.YtokkhnjedmlbhaaW.PrintLast Go.Proofs.YtokkhnjedmlbhaaW.PrintMore
attribute [local go_sem] max2_int min2_int max_two min_two max_three min_three max_four min_four   -- for this text's walks alone
set_option linter.unusedVariables false
set_option linter.unusedSimpArgs false

def clavigerlaw09_AesTells.j0 : Nat → ByteArray → ByteArray → Bool → Option (Bool)
 | 0, _, _, _ => none
 | k + 1, x0, x1, x20 => if x20 = true then ((clavigerlaw09_awake.f).bind fun t1 => (some t1)) else ((aes_Encrypt.f x0 x1).bind fun bt2 => ((clavigerref09_Encrypt.f k x0 x1).bind fun bt3 => ((aes_Decrypt.f x0 x1).bind fun bt4 => ((clavigerref09_Decrypt.f k x0 x1).bind fun bt5 => (if bt2.1.toList = bt3.1.toList then (if bt2.2 = bt3.2 then (if bt4.1.toList = bt5.1.toList then (if bt4.2 = bt5.2 then ((clavigerlaw09_awake.f).bind fun t6 => (some t6)) else (some false)) else (some false)) else (some false)) else (some false))))))
def clavigerlaw09_AesTells.f (k : Nat) (a0 : ByteArray) (a1 : ByteArray) : Option (Bool) := if (a0.size : Int) > 100 then (clavigerlaw09_AesTells.j0 k a0 a1 true) else (clavigerlaw09_AesTells.j0 k a0 a1 (decide ((a1.size : Int) > 100)))
theorem clavigerlaw09_AesTells.mono_l : ∀ k, (∀ y7 y8 y9, LeO (clavigerlaw09_AesTells.j0 k y7 y8 y9) (clavigerlaw09_AesTells.j0 (k + 1) y7 y8 y9))
 | 0 => fun _ _ _ r h => by simp [clavigerlaw09_AesTells.j0] at h
 | k + 1 => by
  have ih0 := clavigerlaw09_AesTells.mono_l k
  ·intro y7 y8 y9
   unfold clavigerlaw09_AesTells.j0
   repeat' first
   | (with_reducible exact ih0 _ _ _)
   | (with_reducible exact clavigerref09_Decrypt.mono _ _ _)
   | (with_reducible exact clavigerref09_Encrypt.mono _ _ _)
   | (with_reducible exact LeO.refl _)
   | (with_reducible exact LeO.none _)
   | (with_reducible refine LeO.ite ?_ ?_)
   | (with_reducible refine LeO.bind ?_ (fun _ => ?_))
theorem clavigerlaw09_AesTells.mono : ∀ a0 a1 k, LeO (clavigerlaw09_AesTells.f k a0 a1) (clavigerlaw09_AesTells.f (k + 1) a0 a1) := by
 intro a0 a1 k
 have ih0 := clavigerlaw09_AesTells.mono_l k
 unfold clavigerlaw09_AesTells.f
 repeat' first
   | (with_reducible exact ih0 _ _ _)
   | (with_reducible exact clavigerref09_Decrypt.mono _ _ _)
   | (with_reducible exact clavigerref09_Encrypt.mono _ _ _)
   | (with_reducible exact LeO.refl _)
   | (with_reducible exact LeO.none _)
   | (with_reducible refine LeO.ite ?_ ?_)
   | (with_reducible refine LeO.bind ?_ (fun _ => ?_))
end Go.Proofs.Ytokkhnjedmlbhaa.Pr
end
section
namespace Go.Proofs.Ytokkhnjedmlbhaa.M
open Go.RowKit Go.Proofs.Ytokkhnjedmlbhaa.Pr Go.Proofs.YtokkhnjedmlbhaaW.PrintWords Go.Proofs.YtokkhnjedmlbhaaW.PrintLast Go.Proofs.YtokkhnjedmlbhaaW.PrintMore Go.Proofs.YtokkhnjedmlbhaaGf
set_option linter.unusedSimpArgs false
theorem enc_x (key s : ByteArray) : aes_Encrypt.f key s = some (encX key s) := rfl
set_option maxRecDepth 100000 in
theorem fips : encT (ksB (mkB [0, 1, 2, 3, 4, 5, 6, 7, 8, 9, 10, 11, 12, 13, 14, 15])) (mkB [0, 17, 34, 51, 68, 85, 102, 119, 136, 153, 170, 187, 204, 221, 238, 255]) = mkB [105, 196, 224, 216, 106, 123, 4, 48, 216, 205, 183, 128, 112, 180, 197, 90] :=
  run_enc 4 (by omega) rfl (by decide +kernel) (by decide +kernel) (by decide +kernel) rfl (by decide +kernel)
set_option maxRecDepth 100000 in
theorem awake09 : clavigerlaw09_awake.f = some true := by
  unfold clavigerlaw09_awake.f
  have h : encX (⟨#[0, 1, 2, 3, 4, 5, 6, 7, 8, 9, 10, 11, 12, 13, 14, 15]⟩ : ByteArray) (⟨#[0, 17, 34, 51, 68, 85, 102, 119, 136, 153, 170, 187, 204, 221, 238, 255]⟩ : ByteArray) = (mkB [105, 196, 224, 216, 106, 123, 4, 48, 216, 205, 183, 128, 112, 180, 197, 90], 0) := by
    rw [encX_ok (.inl rfl) rfl, show (⟨#[0, 1, 2, 3, 4, 5, 6, 7, 8, 9, 10, 11, 12, 13, 14, 15]⟩ : ByteArray) = mkB [0, 1, 2, 3, 4, 5, 6, 7, 8, 9, 10, 11, 12, 13, 14, 15] from rfl, show (⟨#[0, 17, 34, 51, 68, 85, 102, 119, 136, 153, 170, 187, 204, 221, 238, 255]⟩ : ByteArray) = mkB [0, 17, 34, 51, 68, 85, 102, 119, 136, 153, 170, 187, 204, 221, 238, 255] from rfl, fips]
  rw [enc_x, h]
  simp only [Option.bind_some]
  rw [if_pos (by decide +kernel)]
  rfl
end Go.Proofs.Ytokkhnjedmlbhaa.M
end
section
namespace Go.Proofs.Ytokkhnjedmlbhaa.Pr
open Go.RowKit Go.Proofs.YtokkhnjedmlbhaaW.PrintWords Go.Proofs.YtokkhnjedmlbhaaW.PrintLast Go.Proofs.YtokkhnjedmlbhaaW.PrintMore Go.Proofs.YtokkhnjedmlbhaaHw Go.Proofs.YtokkhnjedmlbhaaGf
theorem manyL_a (key s : ByteArray) (back : Bool) (w : World) (haw : clavigerlaw09_awake.f = some true) (h : key.size > 100 ∨ s.size > 160) :
    Calls Try.prog 18 #[.string key, .string s, .bool back] w fun e w' => e = .returned (.bool true) ∧ Below w.heap.size w w' := by
  have HA := Aside0.mk haw
  clear haw
  by_cases hk : key.size > 100
  · have e1 : decide (100 < (key.size : Int)) = true := decide_eq_true (by omega)
    clear h hk
    go_enter Try.func18, Try.ntmps18
    go_wp2_with (go_at_call 97; (with_reducible refine (clavigerlaw09_awake.calls _ _ HA.out).mono ?_); rintro e w3 ⟨rfl, hb3⟩; have HB3 := Aside0.mk hb3; clear hb3)
    go_ret
    exact ⟨rfl, HB3.out⟩
  · have e1 : decide (100 < (key.size : Int)) = false := decide_eq_false (by omega)
    have e2 : decide (160 < (s.size : Int)) = true := decide_eq_true (by omega)
    clear h hk
    go_enter Try.func18, Try.ntmps18
    go_wp2_with (go_at_call 97; (with_reducible refine (clavigerlaw09_awake.calls _ _ HA.out).mono ?_); rintro e w3 ⟨rfl, hb3⟩; have HB3 := Aside0.mk hb3; clear hb3)
    go_ret
    exact ⟨rfl, HB3.out⟩
theorem manyL_b (k : Nat) (key s : ByteArray) (back : Bool) (w : World) (haw : clavigerlaw09_awake.f = some true) (h1 : key.size ≤ 100) (h2 : s.size ≤ 160) (hk : ¬ M.okN key.size) (hm : aes_Many.f key s back = some (⟨#[]⟩, 2)) (hr : clavigerref09_Many.f k key s back = some (⟨#[]⟩, 2)) (hn : clavigerref08_Rounds.f (key.size : Int) = some 0) :
    Calls Try.prog 18 #[.string key, .string s, .bool back] w fun e w' => e = .returned (.bool true) ∧ Below w.heap.size w w' := by
  have HA := Aside0.mk haw
  have HK := Aside0.mk hk
  have HM := Aside0.mk hm
  have HR := Aside0.mk hr
  have HN := Aside0.mk hn
  have e1 : decide (100 < (key.size : Int)) = false := decide_eq_false (by omega)
  have e2 : decide (160 < (s.size : Int)) = false := decide_eq_false (by omega)
  clear haw hk hm hr hn h1 h2
  go_enter Try.func18, Try.ntmps18
  go_wp2_with (first
    | (go_at_call 102; (with_reducible refine (aes_Many.calls _ _ _ _ _ _ HM.out).mono ?_); rintro e w2 ⟨rfl, hb2⟩; have HB2 := Aside0.mk hb2; clear hb2)
    | (go_at_call 103; (with_reducible refine (clavigerref09_Many.calls k _ _ _ _ _ _ HR.out).mono ?_); rintro e w3 ⟨rfl, hb3⟩; have HB3 := Aside0.mk (below_then HB2.out HB2.out.size hb3); clear hb3)
    | (go_at_call 104; (with_reducible refine (new_bad _ _ HK.out).mono ?_); rintro e w4 ⟨rfl, hb4⟩; have HB4 := Aside0.mk (below_then HB3.out HB3.out.size hb4); clear hb4)
    | (go_at_call 92; (with_reducible refine (clavigerref08_Rounds.calls _ _ _ HN.out).mono ?_); rintro e w5 ⟨rfl, hd⟩; obtain ⟨n5, rfl⟩ := hd.out; clear hd)
    | (go_at_call 97; (with_reducible refine (clavigerlaw09_awake.calls _ _ HA.out).mono ?_); rintro e w6 ⟨rfl, hb6⟩; have HB6 := Aside0.mk (below_then (pw_below_drewN HB4.out n5) (pw_below_drewN HB4.out n5).size hb6); clear hb6))
  go_ret
  exact ⟨rfl, HB6.out⟩
set_option maxHeartbeats 4000000 in
set_option maxRecDepth 100000 in
theorem manyL_false (k : Nat) (key s r : ByteArray) (x : Int) (w : World) (haw : clavigerlaw09_awake.f = some true) (h1 : key.size ≤ 100) (h2 : s.size ≤ 160) (hk : M.okN key.size) (hm : aes_Many.f key s false = some (r, x)) (hr : clavigerref09_Many.f k key s false = some (r, x))
    (hx : (x ≠ 0) ∨ (x = 0 ∧ r = M.manyB (M.ksB key) false (s.size / 16) s)) :
    Calls Try.prog 18 #[.string key, .string s, .bool false] w fun e w' => e = .returned (.bool true) ∧ Below w.heap.size w w' := by
  have HA := Aside0.mk haw
  have HK := Aside0.mk hk
  have HM := Aside0.mk hm
  have HR := Aside0.mk hr
  have HX := Aside0.mk hx
  have HS := Aside0.mk (M.ks_facts hk).2.1
  have HD := Aside0.mk (Nat.div_add_mod s.size 16)
  have HD2 := Aside0.mk (Nat.mod_lt s.size (show 0 < 16 by omega))
  generalize s.size / 16 = m at *
  have e1 : decide (100 < (key.size : Int)) = false := decide_eq_false (by omega)
  have e2 : decide (160 < (s.size : Int)) = false := decide_eq_false (by omega)
  have q1 : (r.toList != r.toList) = false := bne_self_eq_false _
  have q2 : (x != x) = false := bne_self_eq_false _
  have q3 : ((key.size : Int) != (key.size : Int)) = false := bne_self_eq_false _
  clear haw hk hm hr hx h1
  go_enter Try.func18, Try.ntmps18
  go_wp2_with (first
    | (go_at_call 102; (with_reducible refine (aes_Many.calls _ _ _ _ _ _ HM.out).mono ?_); rintro e w2 ⟨rfl, hb2⟩; have HB2 := Aside0.mk hb2; clear hb2)
    | (go_at_call 103; (with_reducible refine (clavigerref09_Many.calls k _ _ _ _ _ _ HR.out).mono ?_); rintro e w3 ⟨rfl, hb3⟩; have HB3 := Aside0.mk (below_then HB2.out HB2.out.size hb3); clear hb3)
    | (go_at_call 104; (with_reducible refine (new_ok _ _ HK.out).mono ?_); rintro e w4 ⟨g, rfl, hC, hb4⟩; have HC := Aside0.mk hC; have HCC : Aside0 (IsC w4 g key.size (M.ksB key)) := ⟨hC⟩; have HB4 := Aside0.mk (below_then HB3.out HB3.out.size hb4); clear hb4 hC)
    | (go_at_call 105; (with_reducible refine (size_calls g key.size (M.ksB key) _ HCC.out).mono ?_); rintro e w5 ⟨rfl, hd⟩; obtain ⟨n5, rfl⟩ := hd.out; clear hd))
  have HW : Aside0 (Below w4.heap.size w4 (w4.drewN n5)) := ⟨pw_below_drewN (Below.refl _ _) n5⟩
  clear e1 e2 q1 q2 q3 HM HR HB2 HB3 HCC
  go_loopw [13, 14] (fun v i wr => ∃ (j : Nat), j ≤ m ∧ v = .string (M.manyB (M.ksB key) false j s) ∧ i = .int .i64 ((16 * j : Nat) : Int) ∧ Aside0 (Below w4.heap.size w4 wr)) (fun _ i _ => 1000 - (intOf i).toNat)
  case atStart => exact ⟨0, Nat.zero_le _, rfl, rfl, HW⟩
  case round =>
    clear HW
    obtain ⟨j, hj, rfl, rfl, HB⟩ := hrel
    by_cases hlt : j < m
    · have hz : (s.extract (16 * j) (16 * j + 16)).size = 16 := by have := HD.out; rw [ByteArray.size_extract]; omega
      have HE : Aside0 (M.encR key (s.extract (16 * j) (16 * j + 16)) = (M.encT (M.ksB key) (s.extract (16 * j) (16 * j + 16)), 0)) := ⟨by unfold M.encR; rw [if_pos hz]⟩
      have HF : Aside0 (M.decR key (s.extract (16 * j) (16 * j + 16)) = (M.decT (M.ksB key) (s.extract (16 * j) (16 * j + 16)), 0)) := ⟨by unfold M.decR; rw [if_pos hz]⟩
      have hds := HD.out
      have hle : decide (((16 * j : Nat) : Int) + 16 ≤ (s.size : Int)) = true := decide_eq_true (by omega)
      have hle2 : decide (16 * (j : Int) + 16 ≤ (s.size : Int)) = true := decide_eq_true (by omega)
      have hms := M.many_size HS.out false (m := j) (s := s) (by omega)
      have hcz := M.enc_size HS.out hz
      have hcat : (M.manyB (M.ksB key) false j s).size + (M.encT (M.ksB key) (s.extract (16 * j) (16 * j + 16))).size ≤ 9223372036854775807 := by omega
      have hsl : ∀ W, (Instr.slice 9 (.string s) (some (.int .i64 (16 * (j : Int)))) (some (.int .i64 (16 * (j : Int) + 16))) none).run Try.prog W = .ok (.string (s.extract (16 * j) (16 * j + 16))) W := fun W => by
        have := run_slice_string (P := Try.prog) (w := W) 9 s .i64 .i64 (16 * (j : Int)) (16 * (j : Int) + 16) Try.underlying9 (by omega) (by omega) (by omega)
        rw [this, show (16 * (j : Int)).toNat = 16 * j by omega, show (16 * (j : Int) + 16).toNat = 16 * j + 16 by omega]
      clear hz
      go_wp2_with (first
        | (go_at_call 106; (with_reducible refine (enc_any g key _ _ (HC.out.below HB.out) HK.out).mono ?_); rintro e w6 ⟨rfl, hb6⟩; rw [HE.out]; have HB6 := Aside0.mk (below_then HB.out HB.out.size hb6); clear hb6)
        | (go_at_call 107; (with_reducible refine (dec_any g key _ _ (HC.out.below HB6.out) HK.out).mono ?_); rintro e w7 ⟨rfl, hb7⟩; rw [HF.out]; have HB7 := Aside0.mk (below_then HB6.out HB6.out.size hb7); clear hb7))
      exact ⟨⟨j + 1, hlt, by rw [M.many_succ]; rfl, by go_num, HB6⟩, by simp [intOf]; omega⟩
    · obtain rfl : j = m := by omega
      have hds := HD.out
      have hle : decide (16 * (j : Int) + 16 ≤ (s.size : Int)) = false := decide_eq_false (by have := HD2.out; omega)
      obtain ⟨b, y, hh, hz, q4, q5⟩ : ∃ (b : Bool) (y : ByteArray) (hh : Int), M.encR key (s ++ (⟨#[48]⟩ : ByteArray)) = (y, hh) ∧ (hh == 4) = b ∧ ((s.size : Int) != 15) = b := by
        have hsz : (s ++ (⟨#[48]⟩ : ByteArray)).size = s.size + 1 := by rw [ByteArray.size_append]; rfl
        unfold M.encR
        by_cases h15 : s.size = 15
        · exact ⟨false, _, 0, if_pos (by omega), rfl, bne_eq_false_iff_eq.mpr (by omega)⟩
        · exact ⟨true, _, 4, if_neg (by omega), rfl, bne_iff_ne.mpr (by omega)⟩
      have HZ := Aside0.mk hz
      have hcat : s.size + (⟨#[48]⟩ : ByteArray).size ≤ 9223372036854775807 := by show s.size + 1 ≤ _; omega
      have hcat1 : s.size + 1 ≤ 9223372036854775807 := by omega
      have qb : (b == b) = true := beq_self_eq_true _
      have hjb : j ≤ 10 := by omega
      clear hz hds
      rcases HX.out with hx | ⟨rfl, hx⟩
      · have qx : (x != 0) = true := bne_iff_ne.mpr hx
        clear hx
        go_wp2_with (first
          | (go_at_call 106; (with_reducible refine (enc_any g key _ _ (HC.out.below HB.out) HK.out).mono ?_); rintro e w6 ⟨rfl, hb6⟩; rw [HZ.out]; have HB6 := Aside0.mk (below_then HB.out HB.out.size hb6); clear hb6)
          | (go_at_call 97; (with_reducible refine (clavigerlaw09_awake.calls _ _ HA.out).mono ?_); rintro e w7 ⟨rfl, hb7⟩; have HB7 := Aside0.mk (below_then HB6.out HB6.out.size hb7); clear hb7))
        go_ret
        exact ⟨rfl, HB4.out.trans (HB7.out.mono HB4.out.size)⟩
      · subst hx
        have qr : ((M.manyB (M.ksB key) false j s).toList == (M.manyB (M.ksB key) false j s).toList) = true := beq_self_eq_true _
        go_wp2_with (first
          | (go_at_call 106; (with_reducible refine (enc_any g key _ _ (HC.out.below HB.out) HK.out).mono ?_); rintro e w6 ⟨rfl, hb6⟩; rw [HZ.out]; have HB6 := Aside0.mk (below_then HB.out HB.out.size hb6); clear hb6)
          | (go_at_call 97; (with_reducible refine (clavigerlaw09_awake.calls _ _ HA.out).mono ?_); rintro e w7 ⟨rfl, hb7⟩; have HB7 := Aside0.mk (below_then HB6.out HB6.out.size hb7); clear hb7))
        go_ret
        exact ⟨rfl, HB4.out.trans (HB7.out.mono HB4.out.size)⟩
set_option maxHeartbeats 4000000 in
set_option maxRecDepth 100000 in
theorem manyL_true (k : Nat) (key s r : ByteArray) (x : Int) (w : World) (haw : clavigerlaw09_awake.f = some true) (h1 : key.size ≤ 100) (h2 : s.size ≤ 160) (hk : M.okN key.size) (hm : aes_Many.f key s true = some (r, x)) (hr : clavigerref09_Many.f k key s true = some (r, x))
    (hx : (x ≠ 0) ∨ (x = 0 ∧ r = M.manyB (M.ksB key) true (s.size / 16) s)) :
    Calls Try.prog 18 #[.string key, .string s, .bool true] w fun e w' => e = .returned (.bool true) ∧ Below w.heap.size w w' := by
  have HA := Aside0.mk haw
  have HK := Aside0.mk hk
  have HM := Aside0.mk hm
  have HR := Aside0.mk hr
  have HX := Aside0.mk hx
  have HS := Aside0.mk (M.ks_facts hk).2.1
  have HD := Aside0.mk (Nat.div_add_mod s.size 16)
  have HD2 := Aside0.mk (Nat.mod_lt s.size (show 0 < 16 by omega))
  generalize s.size / 16 = m at *
  have e1 : decide (100 < (key.size : Int)) = false := decide_eq_false (by omega)
  have e2 : decide (160 < (s.size : Int)) = false := decide_eq_false (by omega)
  have q1 : (r.toList != r.toList) = false := bne_self_eq_false _
  have q2 : (x != x) = false := bne_self_eq_false _
  have q3 : ((key.size : Int) != (key.size : Int)) = false := bne_self_eq_false _
  clear haw hk hm hr hx h1
  go_enter Try.func18, Try.ntmps18
  go_wp2_with (first
    | (go_at_call 102; (with_reducible refine (aes_Many.calls _ _ _ _ _ _ HM.out).mono ?_); rintro e w2 ⟨rfl, hb2⟩; have HB2 := Aside0.mk hb2; clear hb2)
    | (go_at_call 103; (with_reducible refine (clavigerref09_Many.calls k _ _ _ _ _ _ HR.out).mono ?_); rintro e w3 ⟨rfl, hb3⟩; have HB3 := Aside0.mk (below_then HB2.out HB2.out.size hb3); clear hb3)
    | (go_at_call 104; (with_reducible refine (new_ok _ _ HK.out).mono ?_); rintro e w4 ⟨g, rfl, hC, hb4⟩; have HC := Aside0.mk hC; have HCC : Aside0 (IsC w4 g key.size (M.ksB key)) := ⟨hC⟩; have HB4 := Aside0.mk (below_then HB3.out HB3.out.size hb4); clear hb4 hC)
    | (go_at_call 105; (with_reducible refine (size_calls g key.size (M.ksB key) _ HCC.out).mono ?_); rintro e w5 ⟨rfl, hd⟩; obtain ⟨n5, rfl⟩ := hd.out; clear hd))
  have HW : Aside0 (Below w4.heap.size w4 (w4.drewN n5)) := ⟨pw_below_drewN (Below.refl _ _) n5⟩
  clear e1 e2 q1 q2 q3 HM HR HB2 HB3 HCC
  go_loopw [13, 14] (fun v i wr => ∃ (j : Nat), j ≤ m ∧ v = .string (M.manyB (M.ksB key) true j s) ∧ i = .int .i64 ((16 * j : Nat) : Int) ∧ Aside0 (Below w4.heap.size w4 wr)) (fun _ i _ => 1000 - (intOf i).toNat)
  case atStart => exact ⟨0, Nat.zero_le _, rfl, rfl, HW⟩
  case round =>
    clear HW
    obtain ⟨j, hj, rfl, rfl, HB⟩ := hrel
    by_cases hlt : j < m
    · have hz : (s.extract (16 * j) (16 * j + 16)).size = 16 := by have := HD.out; rw [ByteArray.size_extract]; omega
      have HE : Aside0 (M.encR key (s.extract (16 * j) (16 * j + 16)) = (M.encT (M.ksB key) (s.extract (16 * j) (16 * j + 16)), 0)) := ⟨by unfold M.encR; rw [if_pos hz]⟩
      have HF : Aside0 (M.decR key (s.extract (16 * j) (16 * j + 16)) = (M.decT (M.ksB key) (s.extract (16 * j) (16 * j + 16)), 0)) := ⟨by unfold M.decR; rw [if_pos hz]⟩
      have hds := HD.out
      have hle : decide (((16 * j : Nat) : Int) + 16 ≤ (s.size : Int)) = true := decide_eq_true (by omega)
      have hle2 : decide (16 * (j : Int) + 16 ≤ (s.size : Int)) = true := decide_eq_true (by omega)
      have hms := M.many_size HS.out true (m := j) (s := s) (by omega)
      have hcz := M.dec_size HS.out hz
      have hcat : (M.manyB (M.ksB key) true j s).size + (M.decT (M.ksB key) (s.extract (16 * j) (16 * j + 16))).size ≤ 9223372036854775807 := by omega
      have hsl : ∀ W, (Instr.slice 9 (.string s) (some (.int .i64 (16 * (j : Int)))) (some (.int .i64 (16 * (j : Int) + 16))) none).run Try.prog W = .ok (.string (s.extract (16 * j) (16 * j + 16))) W := fun W => by
        have := run_slice_string (P := Try.prog) (w := W) 9 s .i64 .i64 (16 * (j : Int)) (16 * (j : Int) + 16) Try.underlying9 (by omega) (by omega) (by omega)
        rw [this, show (16 * (j : Int)).toNat = 16 * j by omega, show (16 * (j : Int) + 16).toNat = 16 * j + 16 by omega]
      clear hz
      go_wp2_with (first
        | (go_at_call 106; (with_reducible refine (enc_any g key _ _ (HC.out.below HB.out) HK.out).mono ?_); rintro e w6 ⟨rfl, hb6⟩; rw [HE.out]; have HB6 := Aside0.mk (below_then HB.out HB.out.size hb6); clear hb6)
        | (go_at_call 107; (with_reducible refine (dec_any g key _ _ (HC.out.below HB6.out) HK.out).mono ?_); rintro e w7 ⟨rfl, hb7⟩; rw [HF.out]; have HB7 := Aside0.mk (below_then HB6.out HB6.out.size hb7); clear hb7))
      exact ⟨⟨j + 1, hlt, by rw [M.many_succ]; rfl, by go_num, HB7⟩, by simp [intOf]; omega⟩
    · obtain rfl : j = m := by omega
      have hds := HD.out
      have hle : decide (16 * (j : Int) + 16 ≤ (s.size : Int)) = false := decide_eq_false (by have := HD2.out; omega)
      obtain ⟨b, y, hh, hz, q4, q5⟩ : ∃ (b : Bool) (y : ByteArray) (hh : Int), M.encR key (s ++ (⟨#[48]⟩ : ByteArray)) = (y, hh) ∧ (hh == 4) = b ∧ ((s.size : Int) != 15) = b := by
        have hsz : (s ++ (⟨#[48]⟩ : ByteArray)).size = s.size + 1 := by rw [ByteArray.size_append]; rfl
        unfold M.encR
        by_cases h15 : s.size = 15
        · exact ⟨false, _, 0, if_pos (by omega), rfl, bne_eq_false_iff_eq.mpr (by omega)⟩
        · exact ⟨true, _, 4, if_neg (by omega), rfl, bne_iff_ne.mpr (by omega)⟩
      have HZ := Aside0.mk hz
      have hcat : s.size + (⟨#[48]⟩ : ByteArray).size ≤ 9223372036854775807 := by show s.size + 1 ≤ _; omega
      have hcat1 : s.size + 1 ≤ 9223372036854775807 := by omega
      have qb : (b == b) = true := beq_self_eq_true _
      have hjb : j ≤ 10 := by omega
      clear hz hds
      rcases HX.out with hx | ⟨rfl, hx⟩
      · have qx : (x != 0) = true := bne_iff_ne.mpr hx
        clear hx
        go_wp2_with (first
          | (go_at_call 106; (with_reducible refine (enc_any g key _ _ (HC.out.below HB.out) HK.out).mono ?_); rintro e w6 ⟨rfl, hb6⟩; rw [HZ.out]; have HB6 := Aside0.mk (below_then HB.out HB.out.size hb6); clear hb6)
          | (go_at_call 97; (with_reducible refine (clavigerlaw09_awake.calls _ _ HA.out).mono ?_); rintro e w7 ⟨rfl, hb7⟩; have HB7 := Aside0.mk (below_then HB6.out HB6.out.size hb7); clear hb7))
        go_ret
        exact ⟨rfl, HB4.out.trans (HB7.out.mono HB4.out.size)⟩
      · subst hx
        have qr : ((M.manyB (M.ksB key) true j s).toList == (M.manyB (M.ksB key) true j s).toList) = true := beq_self_eq_true _
        go_wp2_with (first
          | (go_at_call 106; (with_reducible refine (enc_any g key _ _ (HC.out.below HB.out) HK.out).mono ?_); rintro e w6 ⟨rfl, hb6⟩; rw [HZ.out]; have HB6 := Aside0.mk (below_then HB.out HB.out.size hb6); clear hb6)
          | (go_at_call 97; (with_reducible refine (clavigerlaw09_awake.calls _ _ HA.out).mono ?_); rintro e w7 ⟨rfl, hb7⟩; have HB7 := Aside0.mk (below_then HB6.out HB6.out.size hb7); clear hb7))
        go_ret
        exact ⟨rfl, HB4.out.trans (HB7.out.mono HB4.out.size)⟩
theorem many_x (key s : ByteArray) (back : Bool) (h : s.size < 1000000) : aes_Many.f key s back = some (M.manyX key s back) := by unfold aes_Many.f; rw [if_pos h]
theorem manyL_walk (key s : ByteArray) (back : Bool) (w : World) :
    Calls Try.prog 18 #[.string key, .string s, .bool back] w fun e w' => e = .returned (.bool true) ∧ Below w.heap.size w w' := by
  by_cases h : key.size > 100 ∨ s.size > 160
  · exact manyL_a key s back w M.awake09 h
  · obtain ⟨k, hk⟩ := Ev.rounds (M.rmany_c key s back (by omega))
    have hm := many_x key s back (by omega)
    by_cases ok : M.okN key.size
    · have hx : ((M.manyX key s back).2 ≠ 0) ∨ ((M.manyX key s back).2 = 0 ∧ (M.manyX key s back).1 = M.manyB (M.ksB key) back (s.size / 16) s) := by
        unfold M.manyX
        rw [if_pos ok]
        by_cases h16 : s.size % 16 = 0
        · rw [if_pos h16]; exact .inr ⟨rfl, rfl⟩
        · rw [if_neg h16]; exact .inl (by decide)
      cases back
      · exact manyL_false k key s _ _ w M.awake09 (by omega) (by omega) ok hm hk hx
      · exact manyL_true k key s _ _ w M.awake09 (by omega) (by omega) ok hm hk hx
    · have hx : M.manyX key s back = (⟨#[]⟩, 2) := by unfold M.manyX; rw [if_neg ok]
      rw [hx] at hk hm
      exact manyL_b k key s back w M.awake09 (by omega) (by omega) ok hm hk (by rw [M.rrounds_i, M.rnd_no ok])
end Go.Proofs.Ytokkhnjedmlbhaa.Pr
end
section
namespace Go.Proofs.Ytokkhnjedmlbhaa.RowAid
set_option maxRecDepth 100000
def c (n : Nat) : Char := Char.ofNat n
def L : List Char := [c 104, c 97, c 114, c 110, c 101, c 115, c 115, c 32, c 50, c 53, c 55, c 48, c 97, c 52, c 51, c 49, c 101, c 53, c 52, c 48, c 48, c 98, c 97, c 54, c 51, c 101, c 54, c 102, c 101, c 53, c 55, c 55, c 55, c 56, c 102, c 97, c 52, c 56, c 50, c 99, c 57, c 102, c 56, c 101, c 100, c 98, c 57, c 99, c 53, c 50, c 50, c 51, c 53, c 48, c 97, c 101, c 101, c 53, c 51, c 48, c 98, c 102, c 54, c 97, c 50, c 53, c 49, c 99, c 57, c 50, c 99, c 52, c 32, c 99, c 117, c 116, c 32, c 97, c 116, c 32, c 99, c 108, c 97, c 118, c 105, c 103, c 101, c 114, c 47, c 99, c 108, c 97, c 118, c 105, c 103, c 101, c 114, c 108, c 97, c 119, c 48, c 53, c 46, c 70, c 105, c 101, c 108, c 100, c 84, c 101, c 108, c 108, c 115, c 32, c 99, c 108, c 97, c 118, c 105, c 103, c 101, c 114, c 47, c 99, c 108, c 97, c 118, c 105, c 103, c 101, c 114, c 108, c 97, c 119, c 48, c 53, c 46, c 70, c 105, c 101, c 108, c 100, c 76, c 97, c 119, c 115, c 32, c 99, c 108, c 97, c 118, c 105, c 103, c 101, c 114, c 47, c 99, c 108, c 97, c 118, c 105, c 103, c 101, c 114, c 108, c 97, c 119, c 48, c 53, c 46, c 70, c 105, c 101, c 108, c 100, c 68, c 111, c 116, c 115, c 32, c 99, c 108, c 97, c 118, c 105, c 103, c 101, c 114, c 47, c 99, c 108, c 97, c 118, c 105, c 103, c 101, c 114, c 108, c 97, c 119, c 48, c 55, c 46, c 82, c 111, c 117, c 110, c 100, c 65, c 100, c 100, c 115, c 32, c 99, c 108, c 97, c 118, c 105, c 103, c 101, c 114, c 47, c 99, c 108, c 97, c 118, c 105, c 103, c 101, c 114, c 108, c 97, c 119, c 48, c 54, c 46, c 83, c 98, c 111, c 120, c 66, c 121, c 32, c 99, c 108, c 97, c 118, c 105, c 103, c 101, c 114, c 47, c 99, c 108, c 97, c 118, c 105, c 103, c 101, c 114, c 108, c 97, c 119, c 51, c 56, c 46, c 79, c 112, c 101, c 110, c 66, c 97, c 99, c 107, c 32, c 99, c 108, c 97, c 118, c 105, c 103, c 101, c 114, c 47, c 99, c 108, c 97, c 118, c 105, c 103, c 101, c 114, c 108, c 97, c 119, c 48, c 54, c 46, c 83, c 98, c 111, c 120, c 84, c 101, c 108, c 108, c 115, c 32, c 99, c 108, c 97, c 118, c 105, c 103, c 101, c 114, c 47, c 99, c 108, c 97, c 118, c 105, c 103, c 101, c 114, c 108, c 97, c 119, c 48, c 54, c 46, c 83, c 98, c 111, c 120, c 79, c 110, c 99, c 101, c 32, c 99, c 108, c 97, c 118, c 105, c 103, c 101, c 114, c 47, c 99, c 108, c 97, c 118, c 105, c 103, c 101, c 114, c 108, c 97, c 119, c 51, c 56, c 46, c 79, c 112, c 101, c 110, c 66, c 105, c 110, c 100, c 115, c 32, c 99, c 108, c 97, c 118, c 105, c 103, c 101, c 114, c 47, c 99, c 108, c 97, c 118, c 105, c 103, c 101, c 114, c 108, c 97, c 119, c 48, c 55, c 46, c 82, c 111, c 117, c 110, c 100, c 84, c 101, c 108, c 108, c 115, c 32, c 99, c 108, c 97, c 118, c 105, c 103, c 101, c 114, c 47, c 99, c 108, c 97, c 118, c 105, c 103, c 101, c 114, c 108, c 97, c 119, c 48, c 55, c 46, c 82, c 111, c 117, c 110, c 100, c 66, c 97, c 99, c 107, c 32, c 99, c 108, c 97, c 118, c 105, c 103, c 101, c 114, c 47, c 99, c 108, c 97, c 118, c 105, c 103, c 101, c 114, c 108, c 97, c 119, c 48, c 56, c 46, c 83, c 99, c 104, c 101, c 100, c 66, c 101, c 103, c 105, c 110, c 115, c 32, c 99, c 108, c 97, c 118, c 105, c 103, c 101, c 114, c 47, c 99, c 108, c 97, c 118, c 105, c 103, c 101, c 114, c 108, c 97, c 119, c 48, c 56, c 46, c 83, c 99, c 104, c 101, c 100, c 84, c 101, c 108, c 108, c 115, c 32, c 99, c 108, c 97, c 118, c 105, c 103, c 101, c 114, c 47, c 99, c 108, c 97, c 118, c 105, c 103, c 101, c 114, c 108, c 97, c 119, c 48, c 57, c 46, c 65, c 101, c 115, c 84, c 101, c 108, c 108, c 115, c 32, c 99, c 108, c 97, c 118, c 105, c 103, c 101, c 114, c 47, c 99, c 108, c 97, c 118, c 105, c 103, c 101, c 114, c 108, c 97, c 119, c 48, c 57, c 46, c 65, c 101, c 115, c 66, c 97, c 99, c 107, c 32, c 99, c 108, c 97, c 118, c 105, c 103, c 101, c 114, c 47, c 99, c 108, c 97, c 118, c 105, c 103, c 101, c 114, c 108, c 97, c 119, c 48, c 57, c 46, c 65, c 101, c 115, c 77, c 97, c 110, c 121, c 32, c 99, c 108, c 97, c 118, c 105, c 103, c 101, c 114, c 47, c 99, c 108, c 97, c 118, c 105, c 103, c 101, c 114, c 108, c 97, c 119, c 49, c 49, c 46, c 67, c 109, c 97, c 99, c 68, c 111, c 117, c 98, c 108, c 101, c 115, c 32, c 99, c 108, c 97, c 118, c 105, c 103, c 101, c 114, c 47, c 99, c 108, c 97, c 118, c 105, c 103, c 101, c 114, c 108, c 97, c 119, c 49, c 49, c 46, c 67, c 109, c 97, c 99, c 84, c 101, c 108, c 108, c 115, c 32, c 99, c 108, c 97, c 118, c 105, c 103, c 101, c 114, c 47, c 99, c 108, c 97, c 118, c 105, c 103, c 101, c 114, c 108, c 97, c 119, c 49, c 48, c 46, c 67, c 98, c 99, c 84, c 101, c 108, c 108, c 115, c 32, c 99, c 108, c 97, c 118, c 105, c 103, c 101, c 114, c 47, c 99, c 108, c 97, c 118, c 105, c 103, c 101, c 114, c 108, c 97, c 119, c 49, c 48, c 46, c 67, c 98, c 99, c 66, c 97, c 99, c 107, c 32, c 99, c 108, c 97, c 118, c 105, c 103, c 101, c 114, c 47, c 99, c 108, c 97, c 118, c 105, c 103, c 101, c 114, c 108, c 97, c 119, c 49, c 49, c 46, c 67, c 109, c 97, c 99, c 67, c 104, c 101, c 99, c 107, c 115, c 32, c 99, c 108, c 97, c 118, c 105, c 103, c 101, c 114, c 47, c 99, c 108, c 97, c 118, c 105, c 103, c 101, c 114, c 108, c 97, c 119, c 49, c 50, c 46, c 75, c 100, c 102, c 84, c 101, c 108, c 108, c 115, c 32, c 99, c 108, c 97, c 118, c 105, c 103, c 101, c 114, c 47, c 99, c 108, c 97, c 118, c 105, c 103, c 101, c 114, c 108, c 97, c 119, c 49, c 50, c 46, c 75, c 100, c 102, c 66, c 101, c 103, c 105, c 110, c 115, c 32, c 99, c 108, c 97, c 118, c 105, c 103, c 101, c 114, c 47, c 99, c 108, c 97, c 118, c 105, c 103, c 101, c 114, c 108, c 97, c 119, c 51, c 53, c 46, c 68, c 101, c 114, c 105, c 118, c 101, c 84, c 101, c 108, c 108, c 115, c 32, c 99, c 108, c 97, c 118, c 105, c 103, c 101, c 114, c 47, c 99, c 108, c 97, c 118, c 105, c 103, c 101, c 114, c 108, c 97, c 119, c 51, c 53, c 46, c 68, c 101, c 114, c 105, c 118, c 101, c 83, c 105, c 122, c 101, c 115, c 32, c 99, c 108, c 97, c 118, c 105, c 103, c 101, c 114, c 47, c 99, c 108, c 97, c 118, c 105, c 103, c 101, c 114, c 108, c 97, c 119, c 49, c 52, c 46, c 80, c 97, c 100, c 119, c 114, c 97, c 112, c 84, c 101, c 108, c 108, c 115, c 32, c 99, c 108, c 97, c 118, c 105, c 103, c 101, c 114, c 47, c 99, c 108, c 97, c 118, c 105, c 103, c 101, c 114, c 108, c 97, c 119, c 49, c 52, c 46, c 80, c 97, c 100, c 119, c 114, c 97, c 112, c 66, c 97, c 99, c 107, c 32, c 99, c 108, c 97, c 118, c 105, c 103, c 101, c 114, c 47, c 99, c 108, c 97, c 118, c 105, c 103, c 101, c 114, c 108, c 97, c 119, c 49, c 52, c 46, c 80, c 97, c 100, c 119, c 114, c 97, c 112, c 79, c 110, c 101, c 32, c 99, c 108, c 97, c 118, c 105, c 103, c 101, c 114, c 47, c 99, c 108, c 97, c 118, c 105, c 103, c 101, c 114, c 108, c 97, c 119, c 51, c 55, c 46, c 83, c 101, c 97, c 108, c 84, c 101, c 108, c 108, c 115, c 32, c 99, c 108, c 97, c 118, c 105, c 103, c 101, c 114, c 47, c 99, c 108, c 97, c 118, c 105, c 103, c 101, c 114, c 108, c 97, c 119, c 51, c 55, c 46, c 83, c 101, c 97, c 108, c 72, c 111, c 108, c 100, c 115, c 32, c 99, c 108, c 97, c 118, c 105, c 103, c 101, c 114, c 47, c 99, c 108, c 97, c 118, c 105, c 103, c 101, c 114, c 108, c 97, c 119, c 49, c 51, c 46, c 87, c 114, c 97, c 112, c 84, c 101, c 108, c 108, c 115, c 32, c 99, c 108, c 97, c 118, c 105, c 103, c 101, c 114, c 47, c 99, c 108, c 97, c 118, c 105, c 103, c 101, c 114, c 108, c 97, c 119, c 49, c 51, c 46, c 87, c 114, c 97, c 112, c 66, c 97, c 99, c 107, c 32, c 99, c 108, c 97, c 118, c 105, c 103, c 101, c 114, c 47, c 99, c 108, c 97, c 118, c 105, c 103, c 101, c 114, c 108, c 97, c 119, c 49, c 51, c 46, c 87, c 114, c 97, c 112, c 79, c 110, c 101, c 32, c 99, c 108, c 97, c 118, c 105, c 103, c 101, c 114, c 47, c 99, c 108, c 97, c 118, c 105, c 103, c 101, c 114, c 108, c 97, c 119, c 51, c 56, c 46, c 79, c 112, c 101, c 110, c 84, c 101, c 108, c 108, c 115]
def WL : List (List Char) := [[c 97, c 116], [c 99, c 108, c 97, c 118, c 105, c 103, c 101, c 114, c 47, c 99, c 108, c 97, c 118, c 105, c 103, c 101, c 114, c 108, c 97, c 119, c 48, c 53, c 46, c 70, c 105, c 101, c 108, c 100, c 84, c 101, c 108, c 108, c 115], [c 99, c 108, c 97, c 118, c 105, c 103, c 101, c 114, c 47, c 99, c 108, c 97, c 118, c 105, c 103, c 101, c 114, c 108, c 97, c 119, c 48, c 53, c 46, c 70, c 105, c 101, c 108, c 100, c 76, c 97, c 119, c 115], [c 99, c 108, c 97, c 118, c 105, c 103, c 101, c 114, c 47, c 99, c 108, c 97, c 118, c 105, c 103, c 101, c 114, c 108, c 97, c 119, c 48, c 53, c 46, c 70, c 105, c 101, c 108, c 100, c 68, c 111, c 116, c 115], [c 99, c 108, c 97, c 118, c 105, c 103, c 101, c 114, c 47, c 99, c 108, c 97, c 118, c 105, c 103, c 101, c 114, c 108, c 97, c 119, c 48, c 55, c 46, c 82, c 111, c 117, c 110, c 100, c 65, c 100, c 100, c 115], [c 99, c 108, c 97, c 118, c 105, c 103, c 101, c 114, c 47, c 99, c 108, c 97, c 118, c 105, c 103, c 101, c 114, c 108, c 97, c 119, c 48, c 54, c 46, c 83, c 98, c 111, c 120, c 66, c 121], [c 99, c 108, c 97, c 118, c 105, c 103, c 101, c 114, c 47, c 99, c 108, c 97, c 118, c 105, c 103, c 101, c 114, c 108, c 97, c 119, c 51, c 56, c 46, c 79, c 112, c 101, c 110, c 66, c 97, c 99, c 107], [c 99, c 108, c 97, c 118, c 105, c 103, c 101, c 114, c 47, c 99, c 108, c 97, c 118, c 105, c 103, c 101, c 114, c 108, c 97, c 119, c 48, c 54, c 46, c 83, c 98, c 111, c 120, c 84, c 101, c 108, c 108, c 115], [c 99, c 108, c 97, c 118, c 105, c 103, c 101, c 114, c 47, c 99, c 108, c 97, c 118, c 105, c 103, c 101, c 114, c 108, c 97, c 119, c 48, c 54, c 46, c 83, c 98, c 111, c 120, c 79, c 110, c 99, c 101], [c 99, c 108, c 97, c 118, c 105, c 103, c 101, c 114, c 47, c 99, c 108, c 97, c 118, c 105, c 103, c 101, c 114, c 108, c 97, c 119, c 51, c 56, c 46, c 79, c 112, c 101, c 110, c 66, c 105, c 110, c 100, c 115], [c 99, c 108, c 97, c 118, c 105, c 103, c 101, c 114, c 47, c 99, c 108, c 97, c 118, c 105, c 103, c 101, c 114, c 108, c 97, c 119, c 48, c 55, c 46, c 82, c 111, c 117, c 110, c 100, c 84, c 101, c 108, c 108, c 115], [c 99, c 108, c 97, c 118, c 105, c 103, c 101, c 114, c 47, c 99, c 108, c 97, c 118, c 105, c 103, c 101, c 114, c 108, c 97, c 119, c 48, c 55, c 46, c 82, c 111, c 117, c 110, c 100, c 66, c 97, c 99, c 107], [c 99, c 108, c 97, c 118, c 105, c 103, c 101, c 114, c 47, c 99, c 108, c 97, c 118, c 105, c 103, c 101, c 114, c 108, c 97, c 119, c 48, c 56, c 46, c 83, c 99, c 104, c 101, c 100, c 66, c 101, c 103, c 105, c 110, c 115], [c 99, c 108, c 97, c 118, c 105, c 103, c 101, c 114, c 47, c 99, c 108, c 97, c 118, c 105, c 103, c 101, c 114, c 108, c 97, c 119, c 48, c 56, c 46, c 83, c 99, c 104, c 101, c 100, c 84, c 101, c 108, c 108, c 115], [c 99, c 108, c 97, c 118, c 105, c 103, c 101, c 114, c 47, c 99, c 108, c 97, c 118, c 105, c 103, c 101, c 114, c 108, c 97, c 119, c 48, c 57, c 46, c 65, c 101, c 115, c 84, c 101, c 108, c 108, c 115], [c 99, c 108, c 97, c 118, c 105, c 103, c 101, c 114, c 47, c 99, c 108, c 97, c 118, c 105, c 103, c 101, c 114, c 108, c 97, c 119, c 48, c 57, c 46, c 65, c 101, c 115, c 66, c 97, c 99, c 107], [c 99, c 108, c 97, c 118, c 105, c 103, c 101, c 114, c 47, c 99, c 108, c 97, c 118, c 105, c 103, c 101, c 114, c 108, c 97, c 119, c 48, c 57, c 46, c 65, c 101, c 115, c 77, c 97, c 110, c 121], [c 99, c 108, c 97, c 118, c 105, c 103, c 101, c 114, c 47, c 99, c 108, c 97, c 118, c 105, c 103, c 101, c 114, c 108, c 97, c 119, c 49, c 49, c 46, c 67, c 109, c 97, c 99, c 68, c 111, c 117, c 98, c 108, c 101, c 115], [c 99, c 108, c 97, c 118, c 105, c 103, c 101, c 114, c 47, c 99, c 108, c 97, c 118, c 105, c 103, c 101, c 114, c 108, c 97, c 119, c 49, c 49, c 46, c 67, c 109, c 97, c 99, c 84, c 101, c 108, c 108, c 115], [c 99, c 108, c 97, c 118, c 105, c 103, c 101, c 114, c 47, c 99, c 108, c 97, c 118, c 105, c 103, c 101, c 114, c 108, c 97, c 119, c 49, c 48, c 46, c 67, c 98, c 99, c 84, c 101, c 108, c 108, c 115], [c 99, c 108, c 97, c 118, c 105, c 103, c 101, c 114, c 47, c 99, c 108, c 97, c 118, c 105, c 103, c 101, c 114, c 108, c 97, c 119, c 49, c 48, c 46, c 67, c 98, c 99, c 66, c 97, c 99, c 107], [c 99, c 108, c 97, c 118, c 105, c 103, c 101, c 114, c 47, c 99, c 108, c 97, c 118, c 105, c 103, c 101, c 114, c 108, c 97, c 119, c 49, c 49, c 46, c 67, c 109, c 97, c 99, c 67, c 104, c 101, c 99, c 107, c 115], [c 99, c 108, c 97, c 118, c 105, c 103, c 101, c 114, c 47, c 99, c 108, c 97, c 118, c 105, c 103, c 101, c 114, c 108, c 97, c 119, c 49, c 50, c 46, c 75, c 100, c 102, c 84, c 101, c 108, c 108, c 115], [c 99, c 108, c 97, c 118, c 105, c 103, c 101, c 114, c 47, c 99, c 108, c 97, c 118, c 105, c 103, c 101, c 114, c 108, c 97, c 119, c 49, c 50, c 46, c 75, c 100, c 102, c 66, c 101, c 103, c 105, c 110, c 115], [c 99, c 108, c 97, c 118, c 105, c 103, c 101, c 114, c 47, c 99, c 108, c 97, c 118, c 105, c 103, c 101, c 114, c 108, c 97, c 119, c 51, c 53, c 46, c 68, c 101, c 114, c 105, c 118, c 101, c 84, c 101, c 108, c 108, c 115], [c 99, c 108, c 97, c 118, c 105, c 103, c 101, c 114, c 47, c 99, c 108, c 97, c 118, c 105, c 103, c 101, c 114, c 108, c 97, c 119, c 51, c 53, c 46, c 68, c 101, c 114, c 105, c 118, c 101, c 83, c 105, c 122, c 101, c 115], [c 99, c 108, c 97, c 118, c 105, c 103, c 101, c 114, c 47, c 99, c 108, c 97, c 118, c 105, c 103, c 101, c 114, c 108, c 97, c 119, c 49, c 52, c 46, c 80, c 97, c 100, c 119, c 114, c 97, c 112, c 84, c 101, c 108, c 108, c 115], [c 99, c 108, c 97, c 118, c 105, c 103, c 101, c 114, c 47, c 99, c 108, c 97, c 118, c 105, c 103, c 101, c 114, c 108, c 97, c 119, c 49, c 52, c 46, c 80, c 97, c 100, c 119, c 114, c 97, c 112, c 66, c 97, c 99, c 107], [c 99, c 108, c 97, c 118, c 105, c 103, c 101, c 114, c 47, c 99, c 108, c 97, c 118, c 105, c 103, c 101, c 114, c 108, c 97, c 119, c 49, c 52, c 46, c 80, c 97, c 100, c 119, c 114, c 97, c 112, c 79, c 110, c 101], [c 99, c 108, c 97, c 118, c 105, c 103, c 101, c 114, c 47, c 99, c 108, c 97, c 118, c 105, c 103, c 101, c 114, c 108, c 97, c 119, c 51, c 55, c 46, c 83, c 101, c 97, c 108, c 84, c 101, c 108, c 108, c 115], [c 99, c 108, c 97, c 118, c 105, c 103, c 101, c 114, c 47, c 99, c 108, c 97, c 118, c 105, c 103, c 101, c 114, c 108, c 97, c 119, c 51, c 55, c 46, c 83, c 101, c 97, c 108, c 72, c 111, c 108, c 100, c 115], [c 99, c 108, c 97, c 118, c 105, c 103, c 101, c 114, c 47, c 99, c 108, c 97, c 118, c 105, c 103, c 101, c 114, c 108, c 97, c 119, c 49, c 51, c 46, c 87, c 114, c 97, c 112, c 84, c 101, c 108, c 108, c 115], [c 99, c 108, c 97, c 118, c 105, c 103, c 101, c 114, c 47, c 99, c 108, c 97, c 118, c 105, c 103, c 101, c 114, c 108, c 97, c 119, c 49, c 51, c 46, c 87, c 114, c 97, c 112, c 66, c 97, c 99, c 107], [c 99, c 108, c 97, c 118, c 105, c 103, c 101, c 114, c 47, c 99, c 108, c 97, c 118, c 105, c 103, c 101, c 114, c 108, c 97, c 119, c 49, c 51, c 46, c 87, c 114, c 97, c 112, c 79, c 110, c 101], [c 99, c 108, c 97, c 118, c 105, c 103, c 101, c 114, c 47, c 99, c 108, c 97, c 118, c 105, c 103, c 101, c 114, c 108, c 97, c 119, c 51, c 56, c 46, c 79, c 112, c 101, c 110, c 84, c 101, c 108, c 108, c 115]]
theorem z0 : Try.prog.initOrder = String.ofList L := by kernel_rfl
theorem z1 : Try.prog.initOrder.toList = L := by rw [z0]; exact String.toList_ofList
theorem z2 : behindMainWord (wordsSigns L) = "cut".toList :: WL := by kernel_rfl
theorem z3 : behindMainWord (wordsSigns Try.prog.initOrder.toList) = "cut".toList :: WL := (congrArg (fun x => behindMainWord (wordsSigns x)) z1).trans z2
theorem strip_cut (r : List (List Char)) : stripLifts liftWords ("cut".toList :: r) = ([], "cut".toList :: r) := by
  unfold liftWords
  simp [stripLifts]
theorem make_cut {P : Program} {r : List (List Char)} (h : behindMainWord (wordsSigns P.initOrder.toList) = "cut".toList :: r) : P.make = some .cut := by
  unfold Program.make
  rw [h]
  simp
theorem lifts_cut {P : Program} {r : List (List Char)} (h : behindMainWord (wordsSigns P.initOrder.toList) = "cut".toList :: r) : P.headLifts = [] := by
  unfold Program.headLifts
  rw [h, strip_cut]
  simp
theorem final_cut {P : Program} {r : List (List Char)} (h : behindMainWord (wordsSigns P.initOrder.toList) = "cut".toList :: r) : P.liftsFinal = false := by
  unfold Program.liftsFinal
  rw [lifts_cut h, h]
  simp
theorem enter_cut {P : Program} {r : List (List Char)} (h : behindMainWord (wordsSigns P.initOrder.toList) = "cut".toList :: r) (h1 : P.laysLater = false) (h2 : P.bearsReflect = false) (h3 : P.doorFits [] = true) : P.mayEnter = true := by
  unfold Program.mayEnter
  rw [h]
  simp only [strip_cut]
  simp [h1, h2, h3]
theorem enter : Try.prog.mayEnter = true := enter_cut z3 (by as_aux_lemma => kernel_rfl) (by as_aux_lemma => kernel_rfl) (by as_aux_lemma => kernel_rfl)
theorem final : Try.prog.liftsFinal = false := final_cut z3
theorem make : Try.prog.make = some .cut := make_cut z3
theorem laid : laidOutB Try.prog = true := by kernel_rfl
theorem rowed : mapsRowed Try.prog = true := by kernel_rfl
theorem heard : Try.prog.stopsHeard = true := by kernel_rfl
theorem plain : Try.prog.plainKeys = true := by kernel_rfl
theorem and_mk {a b : Bool} (h : a = true) (k : b = true) : (a && b) = true := by rw [h, k]; rfl
end Go.Proofs.Ytokkhnjedmlbhaa.RowAid
end
