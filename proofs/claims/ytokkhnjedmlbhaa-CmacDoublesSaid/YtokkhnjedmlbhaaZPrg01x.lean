-- several texts in one (by the session's program shake.py)
import Derived.Test.YtokkhnjedmlbhaaZAesD
import Derived.Test.YtokkhnjedmlbhaaZShelf
import Derived.Laws.BitsAllLaws
section
namespace Go.Proofs.Ytokkhnjedmlbhaa.Pr
open Go.RowKit Go.Proofs.YtokkhnjedmlbhaaW.PrintWords Go.Proofs.YtokkhnjedmlbhaaW.PrintLast Go.Proofs.YtokkhnjedmlbhaaW.PrintMore Go.Proofs.YtokkhnjedmlbhaaHw Go.Proofs.YtokkhnjedmlbhaaGf
theorem sT_get (i : Nat) (hi : i < (M.mkB M.sT).size) : ((M.mkB M.sT)[i]'hi).toNat = M.sN i := by
  have h := bt_at (M.mkB M.sT) (i : Int) (by simpa using hi)
  have h2 : bt (M.mkB M.sT) (i : Int) = ((M.sN i : Nat) : Int) := by
    rw [M.bt_bb, M.bb_nb, M.nb_mkB (show M.isB M.sT from M.isB_map M.sN_lt _)]
    have hi' : i < 256 := by rw [M.mkB_size] at hi; simpa [M.sT] using hi
    simp [M.sT, hi']
  rw [h2] at h
  simp only [Int.toNat_natCast] at h
  omega
set_option maxHeartbeats 2000000 in
set_option maxRecDepth 100000 in
theorem ready_calls (w : World) :
    Calls Try.prog 192 #[] w fun e w' => ∃ g : Nat, e = .returned (.pointer (some ⟨g, 0, none⟩)) ∧ w.heap.size ≤ g ∧ BY w' g 113 (tabR 256) ∧ Below w.heap.size w w' := by
  obtain ⟨k, hk⟩ := Ev.rounds M.table_c
  have HTB := Aside0.mk hk
  have HSZ : (M.mkB M.sT).size = 256 := by rw [M.mkB_size]; simp [M.sT]
  have hz : Try.zeroCells113 = ((tabR 0).map (Value.int .u8)).toArray := by rw [tabR_zero]; kernel_rfl
  have HZ := Aside0.mk hz
  clear hk hz
  go_enter Try.func192, Try.ntmps192
  go_wp2_with (go_at_call 70; (with_reducible refine (sbox_Table.calls k _ _ HTB.out).mono ?_); rintro e w2 ⟨rfl, hb2⟩)
  have h1 : BY (w.alloc (.cells Try.zeroCells113 113)) w.heap.size 113 (tabR 0) := by
    unfold BY
    rw [← HZ.out]
    exact heap_alloc_new w _
  have HK0 := Aside0.mk (h1.below hb2)
  have HB0 := Aside0.mk (below_then ((Below.refl w.heap.size w).alloc (Nat.le_refl _) (.cells Try.zeroCells113 113)) (by simp) hb2)
  clear h1 hb2 HTB HZ
  go_loopw [10] (fun i wr => ∃ j : Nat, j ≤ 256 ∧ i = .int .i64 j ∧ Aside0 (BY wr w.heap.size 113 (tabR j)) ∧ Aside0 (Below w.heap.size w wr)) (fun i _ => 256 - (intOf i).toNat)
  case atStart => exact ⟨0, Nat.zero_le _, rfl, HK0, HB0⟩
  case round =>
    clear HK0 HB0
    obtain ⟨j, hj, rfl, HK, HB⟩ := hrel
    by_cases hlt : j < 256
    · have et := fun hi => sT_get j hi
      have hs := M.sN_lt j
      have xl := xt_lt hlt
      have xl2 := xt_lt xl
      have xl3 := xt_lt xl2
      have g9 : Go.bits .xor .u8 ((xt (xt (xt j)) : Nat) : Int) ((j : Nat) : Int) = ((gm 9 j : Nat) : Int) := by rw [M.bx xl3 hlt, (M.gm_sm hlt).2.2.2.1]
      have g31 : Go.bits .xor .u8 ((xt (xt (xt j)) : Nat) : Int) ((xt j : Nat) : Int) = ((xt (xt (xt j)) ^^^ xt j : Nat) : Int) := M.bx xl3 xl
      have g11 : Go.bits .xor .u8 ((xt (xt (xt j)) ^^^ xt j : Nat) : Int) ((j : Nat) : Int) = ((gm 11 j : Nat) : Int) := by rw [M.bx (xor_lt xl3 xl) hlt, (M.gm_sm hlt).2.2.2.2.1, Nat.xor_assoc]
      have g32 : Go.bits .xor .u8 ((xt (xt (xt j)) : Nat) : Int) ((xt (xt j) : Nat) : Int) = ((xt (xt (xt j)) ^^^ xt (xt j) : Nat) : Int) := M.bx xl3 xl2
      have g13 : Go.bits .xor .u8 ((xt (xt (xt j)) ^^^ xt (xt j) : Nat) : Int) ((j : Nat) : Int) = ((gm 13 j : Nat) : Int) := by rw [M.bx (xor_lt xl3 xl2) hlt, (M.gm_sm hlt).2.2.2.2.2.1, Nat.xor_assoc]
      have g14 : Go.bits .xor .u8 ((xt (xt (xt j)) ^^^ xt (xt j) : Nat) : Int) ((xt j : Nat) : Int) = ((gm 14 j : Nat) : Int) := by rw [M.bx (xor_lt xl3 xl2) xl, (M.gm_sm hlt).2.2.2.2.2.2, Nat.xor_assoc]
      have G := Aside0.mk (And.intro g9 (And.intro g31 (And.intro g11 (And.intro g32 (And.intro g13 g14)))))
      clear g9 g31 g11 g32 g13 g14
      have f0 := HK.out.frozen j
      have c0 := HK.out.cell j (by rw [tabR_length]; omega)
      go_wp2
      go_region
      have HK1 := Aside0.mk ((HK.out.set (j) ((M.sN j : Nat) : Int)).drew)
      have HB1 := Aside0.mk (below_drew1 (below_set (j := j) (v := .int .u8 ((M.sN j : Nat) : Int)) HB.out (Nat.le_refl _)))
      clear f0 c0 HK HB
      generalize (wr.setCell ⟨w.heap.size, j, none⟩ (.int .u8 ((M.sN j : Nat) : Int))).drew = W1 at *
      have f0 := HK1.out.frozen (256 + M.sN j)
      have c0 := HK1.out.cell (256 + M.sN j) (by simp only [List.length_set, tabR_length]; omega)
      go_wp2
      go_region
      have HK2 := Aside0.mk ((HK1.out.set (256 + M.sN j) ((j : Nat) : Int)).drew)
      have HB2 := Aside0.mk (below_drew1 (below_set (j := 256 + M.sN j) (v := .int .u8 ((j : Nat) : Int)) HB1.out (Nat.le_refl _)))
      clear f0 c0 HK1 HB1
      generalize (W1.setCell ⟨w.heap.size, 256 + M.sN j, none⟩ (.int .u8 ((j : Nat) : Int))).drew = W2 at *
      have f0 := HK2.out.frozen (512 + j)
      have c0 := HK2.out.cell (512 + j) (by simp only [List.length_set, tabR_length]; omega)
      go_wp2
      refine still_tail 7 (by kernel_rfl) (by kernel_rfl) ?_
      simp only [List.take_succ_cons, List.take_zero, List.drop_succ_cons, List.drop_zero]
      repeat still_step
      still_call (twice_nat hlt _)
      repeat still_step
      refine wpStill_nil ?_
      have f1 := HK2.out.frozen (768 + j)
      have c1 := HK2.out.cell (768 + j) (by simp only [List.length_set, tabR_length]; omega)
      have g9 := G.out.1
      go_wp2_with (go_at_call 41; (first | (with_reducible refine (twice_nat xl _).mono ?_) | (with_reducible refine (twice_nat xl2 _).mono ?_)); rintro e w' ⟨rfl, rfl⟩)
      have HK4 := Aside0.mk ((HK2.out.set (512 + j) ((xt j : Nat) : Int)).set (768 + j) ((gm 9 j : Nat) : Int)).drew
      have HB4 := Aside0.mk (below_drew1 (below_set (j := 768 + j) (v := .int .u8 ((gm 9 j : Nat) : Int)) (below_set (j := 512 + j) (v := .int .u8 ((xt j : Nat) : Int)) HB2.out (Nat.le_refl _)) (Nat.le_refl _)))
      clear f0 c0 f1 c1 g9 HK2 HB2
      generalize ((W2.setCell ⟨w.heap.size, 512 + j, none⟩ (.int .u8 ((xt j : Nat) : Int))).setCell ⟨w.heap.size, 768 + j, none⟩ (.int .u8 ((gm 9 j : Nat) : Int))).drew = W4 at *
      have c0 : W4.cell? ⟨w.heap.size, 512 + j, none⟩ = some (.int .u8 ((xt j : Nat) : Int)) := by
        have h := HK4.out.cell (512 + j) (by simp only [List.length_set, tabR_length]; omega)
        rw [List.getD_eq_getElem?_getD, List.getElem?_set_ne (by omega), List.getElem?_set_self (by simp only [List.length_set, tabR_length]; omega)] at h
        exact h
      have f1 := HK4.out.frozen (1024 + j)
      have c1 := HK4.out.cell (1024 + j) (by simp only [List.length_set, tabR_length]; omega)
      have g31 := G.out.2.1
      have g11 := G.out.2.2.1
      go_region
      have HK5 := Aside0.mk (HK4.out.set (1024 + j) ((gm 11 j : Nat) : Int)).drew
      have HB5 := Aside0.mk (below_drew1 (below_set (j := 1024 + j) (v := .int .u8 ((gm 11 j : Nat) : Int)) HB4.out (Nat.le_refl _)))
      clear f1 c1 g31 g11 HK4 HB4 c0
      generalize (W4.setCell ⟨w.heap.size, 1024 + j, none⟩ (.int .u8 ((gm 11 j : Nat) : Int))).drew = W5 at *
      have f1 := HK5.out.frozen (1280 + j)
      have c1 := HK5.out.cell (1280 + j) (by simp only [List.length_set, tabR_length]; omega)
      have g32 := G.out.2.2.2.1
      have g13 := G.out.2.2.2.2.1
      go_wp2
      have HK6 := Aside0.mk (HK5.out.set (1280 + j) ((gm 13 j : Nat) : Int))
      have HB6 := Aside0.mk (below_set (j := 1280 + j) (v := .int .u8 ((gm 13 j : Nat) : Int)) HB5.out (Nat.le_refl _))
      clear f1 c1 g32 g13 HK5 HB5
      generalize (W5.setCell ⟨w.heap.size, 1280 + j, none⟩ (.int .u8 ((gm 13 j : Nat) : Int))) = W6 at *
      have c0 : W6.cell? ⟨w.heap.size, 512 + j, none⟩ = some (.int .u8 ((xt j : Nat) : Int)) := by
        have h := HK6.out.cell (512 + j) (by simp only [List.length_set, tabR_length]; omega)
        rw [List.getD_eq_getElem?_getD, List.getElem?_set_ne (by omega), List.getElem?_set_ne (by omega), List.getElem?_set_ne (by omega), List.getElem?_set_self (by simp only [List.length_set, tabR_length]; omega)] at h
        exact h
      have f1 := HK6.out.frozen (1536 + j)
      have c1 := HK6.out.cell (1536 + j) (by simp only [List.length_set, tabR_length]; omega)
      have g32 := G.out.2.2.2.1
      have g14 := G.out.2.2.2.2.2
      go_region
      have HK7 := Aside0.mk (HK6.out.set (1536 + j) ((gm 14 j : Nat) : Int)).drew
      have HB7 := Aside0.mk (below_drew1 (below_set (j := 1536 + j) (v := .int .u8 ((gm 14 j : Nat) : Int)) HB6.out (Nat.le_refl _)))
      clear f1 c1 g32 g14 HK6 HB6 c0
      generalize (W6.setCell ⟨w.heap.size, 1536 + j, none⟩ (.int .u8 ((gm 14 j : Nat) : Int))).drew = W7 at *
      have HE : Aside0 (BY W7 w.heap.size 113 (tabR (j + 1))) := ⟨by rw [← tab_step j hlt]; exact HK7.out⟩
      clear HK7
      go_wp2
      exact ⟨⟨j + 1, hlt, by go_num, HE, HB7⟩, by simp [intOf]; omega⟩
    · obtain rfl : j = 256 := by omega
      go_wp2
      go_ret
      exact ⟨_, rfl, Nat.le_refl _, HK.out, HB.out⟩
end Go.Proofs.Ytokkhnjedmlbhaa.Pr
end
section
namespace Go.Proofs.Ytokkhnjedmlbhaa.Pr
open Go.RowKit Go.Proofs.YtokkhnjedmlbhaaW.PrintWords Go.Proofs.YtokkhnjedmlbhaaW.PrintLast Go.Proofs.YtokkhnjedmlbhaaW.PrintMore
theorem and255 {x : Int} (h0 : 0 ≤ x) (h1 : x < 4294967296) : Go.bits .and .u32 x 255 = x % 256 := by
  obtain ⟨n, rfl⟩ := Int.eq_ofNat_of_zero_le h0
  have h := u32_and_nat n 255 (by omega) (by omega)
  rw [show (255 : Nat) = 2 ^ 8 - 1 from rfl, Nat.and_two_pow_sub_one_eq_mod] at h
  exact h
/-- The word of four bytes. -/
def wordI (a b c d : Int) : Int := Go.bits .or .u32 (Go.bits .or .u32 (Go.bits .or .u32 (a % 4294967296 * 16777216 % 4294967296) (b % 4294967296 * 65536 % 4294967296)) (c % 4294967296 * 256 % 4294967296)) (d % 4294967296)
def subW (tb : ByteArray) (x : Int) : Int := wordI (bt tb (x / 16777216)) (bt tb (x / 65536 % 256)) (bt tb (x / 256 % 256)) (bt tb (x % 256))
set_option maxHeartbeats 1000000 in
set_option maxRecDepth 100000 in
theorem subW_calls (b : Nat) (tb : ByteArray) (x : Int) (w : World) (hc : w.cell? ⟨b, 0, none⟩ = some (.string tb)) (ht : tb.size = 256) (h0 : 0 ≤ x) (h1 : x < 4294967296) :
    Calls Try.prog 221 #[.int .u32 x, .pointer (some ⟨b, 0, none⟩)] w fun e w' => e = .returned (.int .u32 (subW tb x)) ∧ Drawn0 w w' := by
  have e1 := and255 (x := x / 65536) (by omega) (by omega)
  have e2 := and255 (x := x / 256) (by omega) (by omega)
  have e3 := and255 (x := x) (by omega) (by omega)
  have i0 : x / 16777216 < (tb.size : Int) := by omega
  have i1 : x / 65536 % 256 < (tb.size : Int) := by omega
  have i2 : x / 256 % 256 < (tb.size : Int) := by omega
  have i3 : x % 256 < (tb.size : Int) := by omega
  have j0 : 0 ≤ x / 16777216 := by omega
  have j1 : 0 ≤ x / 65536 % 256 := by omega
  have j2 : 0 ≤ x / 256 % 256 := by omega
  have j3 : 0 ≤ x % 256 := by omega
  have k0 : (x / 16777216).toNat < tb.size := by omega
  have k1 : (x / 65536 % 256).toNat < tb.size := by omega
  have k2 : (x / 256 % 256).toNat < tb.size := by omega
  have k3 : (x % 256).toNat < tb.size := by omega
  have es : subW tb x = wordI ((tb[(x / 16777216).toNat]'k0).toNat : Int) ((tb[(x / 65536 % 256).toNat]'k1).toNat : Int) ((tb[(x / 256 % 256).toNat]'k2).toNat : Int) ((tb[(x % 256).toNat]'k3).toNat : Int) := by
    unfold subW
    rw [bt_at tb (x / 16777216) k0, bt_at tb (x / 65536 % 256) k1, bt_at tb (x / 256 % 256) k2, bt_at tb (x % 256) k3]
  unfold wordI at es
  rw [es]
  clear ht es
  go_enter Try.func221, Try.ntmps221
  go_wp2
  go_quiet (fail)
  go_wp2
  go_ret
  exact ⟨rfl, ⟨⟨_, rfl⟩⟩⟩
end Go.Proofs.Ytokkhnjedmlbhaa.Pr
end
section
namespace Go.Proofs.Ytokkhnjedmlbhaa.Pr
open Go.RowKit Go.Proofs.YtokkhnjedmlbhaaW.PrintWords Go.Proofs.YtokkhnjedmlbhaaW.PrintLast Go.Proofs.YtokkhnjedmlbhaaW.PrintMore
attribute [local go_sem] max2_int min2_int max_two min_two max_three min_three max_four min_four   -- for this text's walks alone
set_option linter.unusedVariables false
set_option linter.unusedSimpArgs false

def clavigerref01_Zeros.f (a0 : Int) : Option (ByteArray) := if a0 < 1 then (some (⟨#[]⟩ : ByteArray)) else (if a0 > 65552 then (some (⟨#[]⟩ : ByteArray)) else (if 0 ≤ a0 then (if (a0 : Int).toNat ≤ 281474976710656 then (some (strOfNums (List.replicate (a0 : Int).toNat 0))) else (none)) else (none)))
mutual
def clavigerref01_Pad.j0 : Nat → ByteArray → Int → Bool → Option (ByteArray)
 | 0, _, _, _ => none
 | k + 1, x0, x1, x11 => if x11 = true then (some x0) else (clavigerref01_Pad.l0 k x0 x1 0)
def clavigerref01_Pad.l0 : Nat → ByteArray → Int → Int → Option (ByteArray)
 | 0, _, _, _ => none
 | k + 1, x0, x1, x5 => if x1 = 0 then (none) else (if (Int.tmod (wrap64 ((x0.size : Int) + x5)) x1) = 0 then ((clavigerref01_Zeros.f x5).bind fun t1 => (if x0.size + t1.size ≤ 9223372036854775807 then (some (x0 ++ t1)) else (none))) else (clavigerref01_Pad.l0 k x0 x1 (wrap64 (x5 + 1))))
end
def clavigerref01_Pad.f (k : Nat) (a0 : ByteArray) (a1 : Int) : Option (ByteArray) := if a1 < 1 then (clavigerref01_Pad.j0 k a0 a1 true) else (clavigerref01_Pad.j0 k a0 a1 (decide (a1 > 65535)))
theorem clavigerref01_Pad.mono_l : ∀ k, (∀ y2 y3 y4, LeO (clavigerref01_Pad.j0 k y2 y3 y4) (clavigerref01_Pad.j0 (k + 1) y2 y3 y4)) ∧ (∀ y2 y3 y4, LeO (clavigerref01_Pad.l0 k y2 y3 y4) (clavigerref01_Pad.l0 (k + 1) y2 y3 y4))
 | 0 => ⟨fun _ _ _ r h => by simp [clavigerref01_Pad.j0] at h, fun _ _ _ r h => by simp [clavigerref01_Pad.l0] at h⟩
 | k + 1 => by
  obtain ⟨ih0, ih1⟩ := clavigerref01_Pad.mono_l k
  refine ⟨?_, ?_⟩
  ·intro y2 y3 y4
   unfold clavigerref01_Pad.j0
   repeat' first
   | (with_reducible exact ih0 _ _ _)
   | (with_reducible exact ih1 _ _ _)
   | (with_reducible exact LeO.refl _)
   | (with_reducible exact LeO.none _)
   | (with_reducible refine LeO.ite ?_ ?_)
   | (with_reducible refine LeO.bind ?_ (fun _ => ?_))
  ·intro y2 y3 y4
   unfold clavigerref01_Pad.l0
   repeat' first
   | (with_reducible exact ih0 _ _ _)
   | (with_reducible exact ih1 _ _ _)
   | (with_reducible exact LeO.refl _)
   | (with_reducible exact LeO.none _)
   | (with_reducible refine LeO.ite ?_ ?_)
   | (with_reducible refine LeO.bind ?_ (fun _ => ?_))
theorem clavigerref01_Pad.mono : ∀ a0 a1 k, LeO (clavigerref01_Pad.f k a0 a1) (clavigerref01_Pad.f (k + 1) a0 a1) := by
 intro a0 a1 k
 obtain ⟨ih0, ih1⟩ := clavigerref01_Pad.mono_l k
 unfold clavigerref01_Pad.f
 repeat' first
   | (with_reducible exact ih0 _ _ _)
   | (with_reducible exact ih1 _ _ _)
   | (with_reducible exact LeO.refl _)
   | (with_reducible exact LeO.none _)
   | (with_reducible refine LeO.ite ?_ ?_)
   | (with_reducible refine LeO.bind ?_ (fun _ => ?_))
mutual
def clavigerref01_Put.j0 : Nat → Int → Int → Bool → Option (ByteArray)
 | 0, _, _, _ => none
 | k + 1, x0, x1, x12 => if x12 = true then (some (⟨#[]⟩ : ByteArray)) else (clavigerref01_Put.l0 k x0 x1 (⟨#[]⟩ : ByteArray) 0)
def clavigerref01_Put.l0 : Nat → Int → Int → ByteArray → Int → Option (ByteArray)
 | 0, _, _, _, _ => none
 | k + 1, x0, x1, x5, x6 => if x6 < x1 then ((some (([(Int.tmod x0 256) % 256] : List Int) : List Int)).bind fun y1 => (if (strOfNums y1).size + x5.size ≤ 9223372036854775807 then (clavigerref01_Put.l0 k (IntKind.u64.wrap (Int.tdiv x0 256)) x1 ((strOfNums y1) ++ x5) (wrap64 (x6 + 1))) else (none))) else (some x5)
end
def clavigerref01_Put.f (k : Nat) (a0 : Int) (a1 : Int) : Option (ByteArray) := if a1 < 1 then (clavigerref01_Put.j0 k a0 a1 true) else (clavigerref01_Put.j0 k a0 a1 (decide (a1 > 8)))
theorem clavigerref01_Put.mono_l : ∀ k, (∀ y2 y3 y4, LeO (clavigerref01_Put.j0 k y2 y3 y4) (clavigerref01_Put.j0 (k + 1) y2 y3 y4)) ∧ (∀ y2 y3 y4 y5, LeO (clavigerref01_Put.l0 k y2 y3 y4 y5) (clavigerref01_Put.l0 (k + 1) y2 y3 y4 y5))
 | 0 => ⟨fun _ _ _ r h => by simp [clavigerref01_Put.j0] at h, fun _ _ _ _ r h => by simp [clavigerref01_Put.l0] at h⟩
 | k + 1 => by
  obtain ⟨ih0, ih1⟩ := clavigerref01_Put.mono_l k
  refine ⟨?_, ?_⟩
  ·intro y2 y3 y4
   unfold clavigerref01_Put.j0
   repeat' first
   | (with_reducible exact ih0 _ _ _)
   | (with_reducible exact ih1 _ _ _ _)
   | (with_reducible exact LeO.refl _)
   | (with_reducible exact LeO.none _)
   | (with_reducible refine LeO.ite ?_ ?_)
   | (with_reducible refine LeO.bind ?_ (fun _ => ?_))
  ·intro y2 y3 y4 y5
   unfold clavigerref01_Put.l0
   repeat' first
   | (with_reducible exact ih0 _ _ _)
   | (with_reducible exact ih1 _ _ _ _)
   | (with_reducible exact LeO.refl _)
   | (with_reducible exact LeO.none _)
   | (with_reducible refine LeO.ite ?_ ?_)
   | (with_reducible refine LeO.bind ?_ (fun _ => ?_))
theorem clavigerref01_Put.mono : ∀ a0 a1 k, LeO (clavigerref01_Put.f k a0 a1) (clavigerref01_Put.f (k + 1) a0 a1) := by
 intro a0 a1 k
 obtain ⟨ih0, ih1⟩ := clavigerref01_Put.mono_l k
 unfold clavigerref01_Put.f
 repeat' first
   | (with_reducible exact ih0 _ _ _)
   | (with_reducible exact ih1 _ _ _ _)
   | (with_reducible exact LeO.refl _)
   | (with_reducible exact LeO.none _)
   | (with_reducible refine LeO.ite ?_ ?_)
   | (with_reducible refine LeO.bind ?_ (fun _ => ?_))
mutual
def octets_Pieces.j0 : Nat → ByteArray → Int → Bool → Option (List ByteArray)
 | 0, _, _, _ => none
 | k + 1, x0, x1, x11 => if x11 = true then (some ([] : List ByteArray)) else (if x1 = 0 then (none) else (if 0 ≤ (wrap64 ((wrap64 ((x0.size : Int) / x1)) + 1)) then (if (wrap64 ((wrap64 ((x0.size : Int) / x1)) + 1)) ≤ 17592186044416 then (octets_Pieces.l0 k x0 x1 (([] : List ByteArray))) else (none)) else (none)))
def octets_Pieces.l0 : Nat → ByteArray → Int → List ByteArray → Option (List ByteArray)
 | 0, _, _, _ => none
 | k + 1, x0, x1, x5 => if (x0.size : Int) > x1 then (if 0 ≤ x1 then (if x1 ≤ (x0.size : Int) then (if x5.length < 8796093022208 then (octets_Pieces.l0 k (x0.extract (x1 : Int).toNat x0.size) x1 (x5 ++ [x0.extract 0 (x1 : Int).toNat])) else (none)) else (none)) else (none)) else (if x5.length < 8796093022208 then (some (x5 ++ [x0])) else (none))
end
def octets_Pieces.f (k : Nat) (a0 : ByteArray) (a1 : Int) : Option (List ByteArray) := if a1 < 1 then (octets_Pieces.j0 k a0 a1 true) else (octets_Pieces.j0 k a0 a1 (a0.toList == ([] : List UInt8)))
theorem octets_Pieces.mono_l : ∀ k, (∀ y1 y2 y3, LeO (octets_Pieces.j0 k y1 y2 y3) (octets_Pieces.j0 (k + 1) y1 y2 y3)) ∧ (∀ y1 y2 y3, LeO (octets_Pieces.l0 k y1 y2 y3) (octets_Pieces.l0 (k + 1) y1 y2 y3))
 | 0 => ⟨fun _ _ _ r h => by simp [octets_Pieces.j0] at h, fun _ _ _ r h => by simp [octets_Pieces.l0] at h⟩
 | k + 1 => by
  obtain ⟨ih0, ih1⟩ := octets_Pieces.mono_l k
  refine ⟨?_, ?_⟩
  ·intro y1 y2 y3
   unfold octets_Pieces.j0
   repeat' first
   | (with_reducible exact ih0 _ _ _)
   | (with_reducible exact ih1 _ _ _)
   | (with_reducible exact LeO.refl _)
   | (with_reducible exact LeO.none _)
   | (with_reducible refine LeO.ite ?_ ?_)
   | (with_reducible refine LeO.bind ?_ (fun _ => ?_))
  ·intro y1 y2 y3
   unfold octets_Pieces.l0
   repeat' first
   | (with_reducible exact ih0 _ _ _)
   | (with_reducible exact ih1 _ _ _)
   | (with_reducible exact LeO.refl _)
   | (with_reducible exact LeO.none _)
   | (with_reducible refine LeO.ite ?_ ?_)
   | (with_reducible refine LeO.bind ?_ (fun _ => ?_))
theorem octets_Pieces.mono : ∀ a0 a1 k, LeO (octets_Pieces.f k a0 a1) (octets_Pieces.f (k + 1) a0 a1) := by
 intro a0 a1 k
 obtain ⟨ih0, ih1⟩ := octets_Pieces.mono_l k
 unfold octets_Pieces.f
 repeat' first
   | (with_reducible exact ih0 _ _ _)
   | (with_reducible exact ih1 _ _ _)
   | (with_reducible exact LeO.refl _)
   | (with_reducible exact LeO.none _)
   | (with_reducible refine LeO.ite ?_ ?_)
   | (with_reducible refine LeO.bind ?_ (fun _ => ?_))
set_option maxHeartbeats 8000000 in
set_option maxRecDepth 100000 in
theorem octets_Pieces.calls (k : Nat) (a0 : ByteArray) (a1 : Int) (r : List ByteArray) (w : World) (h : octets_Pieces.f k a0 a1 = some r) :
  Calls Try.prog 186 #[.string a0, .int .i64 a1] w fun e w' => ∃ v0_ : Value, e = .returned (v0_) ∧ Kd.R Kd.string 9 w' w.heap.size (fun _ => True) v0_ r ∧ Below w.heap.size w w' := by
 have HB := Aside0.mk (Below.refl w.heap.size w)
 have H : (if a1 < 1 then (octets_Pieces.j0 k a0 a1 true) else (octets_Pieces.j0 k a0 a1 (a0.toList == ([] : List UInt8)))) = some r := h
 clear h
 have HC3 := Aside0.mk H
 clear H
 go_enter Try.func186, Try.ntmps186
 go_upto_region 1 with (fail)
 go_cut [11] (fun v11 wc => ∃ (kq : Nat) (x11_2 : Bool), v11 = .bool x11_2 ∧ Aside0 (octets_Pieces.j0 kq a0 a1 x11_2 = some r) ∧ Aside0 (kq ≤ k) ∧ Aside0 (Below w.heap.size w wc))
 case first =>
  have H := HC3.out
  clear HC3
  by_cases c4 : a1 < 1
  ·rw [if_pos c4] at H
   have c4b0 : decide (a1 < 1) = true := decide_eq_true c4
   clear c4
   (first | rw [c4b0] | (simp only [i64_w, i32_w]; rw [c4b0]) | skip)
   have H' := Aside0.mk H
   clear H
   go_wp2
   go_meet
   case rel => exact ⟨_, (true), (by first | rfl | (simp; done) | (simp [*]; done)), H', ⟨by first | omega | exact Nat.le_refl _⟩, ⟨by repeat first | with_reducible (first | exact HB.out | apply bA | apply bN | apply bD) | exact HB.out⟩⟩
  ·rw [if_neg c4] at H
   have c4b0 : decide (a1 < 1) = false := decide_eq_false c4
   clear c4
   (first | rw [c4b0] | (simp only [i64_w, i32_w]; rw [c4b0]) | skip)
   have H' := Aside0.mk H
   clear H
   go_wp2
   go_meet
   case rel => exact ⟨_, ((a0.toList == ([] : List UInt8))), (by first | rfl | (simp; done) | (simp [*]; done)), H', ⟨by first | omega | exact Nat.le_refl _⟩, ⟨by repeat first | with_reducible (first | exact HB.out | apply bA | apply bN | apply bD) | exact HB.out⟩⟩
 case rest =>
  clear HC3
  try clear c1
  try clear p2
  try clear c4
  try clear c4b0
  obtain ⟨kq, x11_2, rfl, HA, HJ2, HB⟩ := hcut
  cases kq with
  | zero => exact absurd HA.out (by simp [octets_Pieces.j0])
  | succ kj2 =>
   have H := HA.out
   clear HA
   simp only [octets_Pieces.j0] at H
   by_cases c5 : x11_2 = true
   ·subst c5
    have H1 : (some ([] : List ByteArray)) = some r := by rw [if_pos rfl] at H; exact H
    clear H
    have H := H1
    clear H1
    obtain rfl := Option.some.inj H
    go_wp2
    go_ret
    exact ⟨_, by first | rfl | (simp [*, errW_none, errW_some] <;> rfl), by first | exact Kd.R_nil _ _ _ _ _ | exact Kd.N_nil _ _ _ _ _ | exact Kd.V_nil _ _ _ _ _ | exact Kd.Q_nil _ _ _ _ _ | exact Kd.S_nil _ _ _ _ _, by repeat first | with_reducible (first | exact HB.out | apply bA | apply bN | apply bD) | exact HB.out⟩
   ·replace c5 := Bool.eq_false_iff.mpr c5
    subst c5
    have H1 : (if a1 = 0 then (none) else (if 0 ≤ (wrap64 ((wrap64 ((a0.size : Int) / a1)) + 1)) then (if (wrap64 ((wrap64 ((a0.size : Int) / a1)) + 1)) ≤ 17592186044416 then (octets_Pieces.l0 kj2 a0 a1 (([] : List ByteArray))) else (none)) else (none))) = some r := by rw [if_neg (show ¬ (false = true) by decide)] at H; exact H
    clear H
    have H := H1
    clear H1
    by_cases c6 : a1 = 0
    ·rw [if_pos c6] at H
     exact absurd H (by simp)
    ·rw [if_neg c6] at H
     have c6b0 : (a1 == 0) = false := beq_eq_false_iff_ne.mpr c6
     have c6b1 : (a1 != 0) = true := bne_iff_ne.mpr c6
     obtain ⟨ji7, hji7⟩ : ∃ j_ : Int, (wrap64 ((wrap64 ((a0.size : Int) / a1)) + 1)) = j_ := ⟨_, rfl⟩
     replace H : (if 0 ≤ (ji7) then (if (ji7) ≤ 17592186044416 then (octets_Pieces.l0 kj2 a0 a1 (([] : List ByteArray))) else (none)) else (none)) = some r := by first | (rw [hji7] at H; exact H) | (simp only [hji7] at H ⊢; exact H)
     have hji7w : (IntKind.i64.wrap ((wrap64 ((a0.size : Int) / a1)) + 1)) = ji7 := (i64_w _).trans hji7
     by_cases c8 : 0 ≤ (ji7)
     ·rw [if_pos c8] at H
      have c8b0 := eq_true c8
      have c8b1 : decide (0 ≤ (ji7)) = true := decide_eq_true c8
      clear c8
      by_cases c9 : (ji7) ≤ 17592186044416
      ·rw [if_pos c9] at H
       have c9b0 := eq_true c9
       have c9b1 : decide ((ji7) ≤ 17592186044416) = true := decide_eq_true c9
       clear c9
       obtain ⟨y4, hy4⟩ : ∃ y_ : List ByteArray, y_ = (([] : List ByteArray)) := ⟨_, rfl⟩
       replace H : (octets_Pieces.l0 kj2 a0 a1 y4) = some r := by first | (rw [hy4]; with_reducible exact H) | (have H2_ := (Option.bind_some _ _).symm.trans H; rw [hy4]; with_reducible exact H2_) | (have H2_ := (Option.bind_some _ _).symm.trans H; with_reducible exact H2_) | with_reducible exact H | (rw [hy4]; exact H) | exact H
       have Ny5001 := Aside0.mk hy4
       clear hy4
       have H' := Aside0.mk H
       clear H
       go_wp2_with (first | ((with_reducible refine gate_dst (N := 17) rfl ?_); refine Go.Proofs.YtokkhnjedmlbhaaHw.R_make0 Kd.string _ 9 rfl (N := 17) rfl 49 _ _ rfl ji7 rfl rfl Try.underlying49 (.string ⟨#[]⟩) 16 info9 rfl (by decide) (by decide) (ok := fun _ => True) (okp := fun _ => True) (fun _ hk => hk) trivial (of_decide_eq_true (by assumption)) (Int.le_trans (Int.mul_le_mul_of_nonneg_right (of_decide_eq_true (by assumption) : ji7 ≤ 17592186044416) (by omega)) (by omega)) (Below.refl _ _) (Nat.le_refl _) ?_; intro v338 w10 ho11 hb hg_ hnew_; clear hg_ hnew_; (first | rw [← Ny5001.out] at ho11 | (simp only [Int.reduceToNat] at ho11; rw [← Ny5001.out] at ho11)); have n0_ := Aside0.mk (Kd.R_lower ho11 (below_size (by repeat first | with_reducible (first | exact HB.out | apply bA | apply bN | apply bD) | exact HB.out))); have n1_ := Aside0.mk (below_step (by repeat first | with_reducible (first | exact HB.out | apply bA | apply bN | apply bD) | exact HB.out) hb); clear HB; have HO339 := n0_; have HB := n1_; clear n0_ n1_; clear hb ho11))
       go_loopg [0, 5] kj2 (fun kq v0 v5 w' => ∃ (x0_2 : ByteArray) (x5_2 : List ByteArray), v0 = .string x0_2 ∧ Aside0 (octets_Pieces.l0 kq x0_2 a1 x5_2 = some r) ∧ Aside0 (kq ≤ kj2) ∧ Aside0 (Kd.R Kd.string 9 w' w.heap.size (fun _ => True) v5 x5_2) ∧ Aside0 (Below w.heap.size w w'))
       case atStart => exact ⟨(a0), (y4), (by first | rfl | (simp; done) | (simp [*]; done)), H', ⟨Nat.le_refl _⟩, ⟨by (with_reducible repeat (first | apply Kd.R_alloc | apply Kd.R_drewN | apply Kd.R_drew)); exact HO339.out⟩, ⟨by repeat first | with_reducible (first | exact HB.out | apply bA | apply bN | apply bD) | exact HB.out⟩⟩
       case round =>
        clear H'
        try clear c1
        try clear p2
        try clear c4
        try clear c4b0
        try clear c5
        try clear c6
        try clear c6b0
        try clear c6b1
        try clear p6
        try clear c8
        try clear c8b0
        try clear c8b1
        try clear c9
        try clear c9b0
        try clear c9b1
        try clear p2
        obtain ⟨x0_2, x5_2, rfl, HA, HK2, HO_5, HB⟩ := hrel
        cases gk with
        | zero => exact absurd HA.out (by simp [octets_Pieces.l0])
        | succ k2 =>
         have H := HA.out
         clear HA
         simp only [octets_Pieces.l0] at H
         by_cases c12 : (x0_2.size : Int) > a1
         ·rw [if_pos c12] at H
          have c12b0 : decide (a1 < (x0_2.size : Int)) = true := decide_eq_true c12
          clear c12
          by_cases c13 : 0 ≤ a1
          ·rw [if_pos c13] at H
           have c13b0 := eq_true c13
           have c13b1 : decide (0 ≤ a1) = true := decide_eq_true c13
           clear c13
           by_cases c14 : a1 ≤ (x0_2.size : Int)
           ·rw [if_pos c14] at H
            have c14b0 := eq_true c14
            have c14b1 : decide (a1 ≤ (x0_2.size : Int)) = true := decide_eq_true c14
            clear c14
            by_cases c15 : x5_2.length < 8796093022208
            ·rw [if_pos c15] at H
             have LMc15 := Aside0.mk c15
             clear c15
             obtain ⟨y5, hy5⟩ : ∃ y_ : List ByteArray, y_ = (x5_2 ++ [x0_2.extract 0 (a1 : Int).toNat]) := ⟨_, rfl⟩
             replace H : (octets_Pieces.l0 k2 (x0_2.extract (a1 : Int).toNat x0_2.size) a1 y5) = some r := by first | (rw [hy5]; with_reducible exact H) | (have H2_ := (Option.bind_some _ _).symm.trans H; rw [hy5]; with_reducible exact H2_) | (have H2_ := (Option.bind_some _ _).symm.trans H; with_reducible exact H2_) | with_reducible exact H | (rw [hy5]; exact H) | exact H
             have Ny5002 := Aside0.mk hy5
             clear hy5
             have c16b0 := eq_true (of_decide_eq_true (by assumption) : 0 ≤ a1)
             have c17b0 := eq_true (of_decide_eq_true (by assumption) : a1 ≤ (x0_2.size : Int))
             have H' := Aside0.mk H
             clear H
             go_wp2_with (first | ((with_reducible refine gate_builtin (b := .append) (xs := #[.tmp 22, .tmp 26]) rfl ?_); at_builtin; refine Kd.R_append Kd.string (w0 := w) w.heap.size rfl (.tmp 22) (.tmp 26) 49 9 (.string ⟨#[]⟩) 16 rfl Try.underlying49 info9 rfl (by decide) (by omega) u5 x5_2 (x0_2.extract 0 (a1 : Int).toNat) [.string (x0_2.extract 0 (a1 : Int).toNat)] (fun _ => True) (fun _ => False) rfl rfl ?aP (fun _ hk => hk.elim) ?aF ?aO ?aB ?aS ?aL ?_; (case aP => exact rfl); (case aB => exact (by repeat first | with_reducible (first | exact HB.out | apply bA | apply bN | apply bD) | exact HB.out)); (case aF => exact (fun _ _ => trivial)); (case aO => exact (by (with_reducible repeat (first | apply Kd.R_alloc | apply Kd.R_drewN | apply Kd.R_drew)); exact HO_5.out)); (case aS => exact (below_size (by repeat first | with_reducible (first | exact HB.out | apply bA | apply bN | apply bD) | exact HB.out))); (case aL => have := LMc15.out; omega); intro v341 w18 ho hb hg hat; rw [← Ny5002.out] at ho; have n0_ := Aside0.mk (hb); have n1_ := Aside0.mk (ho); clear HB; clear HO_5; have HB := n0_; have HO342 := n1_; clear n0_ n1_; clear ho hb hg hat))
             go_roundg k2
             case measure => have := HJ2.out; have := HK2.out; omega
             case rel => exact ⟨(x0_2.extract (a1 : Int).toNat x0_2.size), (y5), (by first | rfl | (simp; done) | (simp [*]; done)), H', ⟨by have := HJ2.out; have := HK2.out; omega⟩, ⟨by (with_reducible repeat (first | apply Kd.R_alloc | apply Kd.R_drewN | apply Kd.R_drew)); exact HO342.out⟩, ⟨by repeat first | with_reducible (first | exact HB.out | apply bA | apply bN | apply bD) | exact HB.out⟩⟩
            ·rw [if_neg c15] at H
             exact absurd H (by simp)
           ·rw [if_neg c14] at H
            exact absurd H (by simp)
          ·rw [if_neg c13] at H
           exact absurd H (by simp)
         ·rw [if_neg c12] at H
          have c12b0 : decide (a1 < (x0_2.size : Int)) = false := decide_eq_false c12
          clear c12
          by_cases c19 : x5_2.length < 8796093022208
          ·rw [if_pos c19] at H
           have LMc19 := Aside0.mk c19
           clear c19
           obtain ⟨y6, hy6⟩ : ∃ y_ : List ByteArray, y_ = (x5_2 ++ [x0_2]) := ⟨_, rfl⟩
           replace H : (some y6) = some r := by first | (rw [hy6]; with_reducible exact H) | (have H2_ := (Option.bind_some _ _).symm.trans H; rw [hy6]; with_reducible exact H2_) | (have H2_ := (Option.bind_some _ _).symm.trans H; with_reducible exact H2_) | with_reducible exact H | (rw [hy6]; exact H) | exact H
           have Ny5003 := Aside0.mk hy6
           clear hy6
           obtain rfl := Option.some.inj H
           go_wp2_with (first | ((with_reducible refine gate_builtin (b := .append) (xs := #[.tmp 31, .tmp 33]) rfl ?_); at_builtin; refine Kd.R_append Kd.string (w0 := w) w.heap.size rfl (.tmp 31) (.tmp 33) 49 9 (.string ⟨#[]⟩) 16 rfl Try.underlying49 info9 rfl (by decide) (by omega) u5 x5_2 x0_2 [.string x0_2] (fun _ => True) (fun _ => False) rfl rfl ?aP (fun _ hk => hk.elim) ?aF ?aO ?aB ?aS ?aL ?_; (case aP => exact rfl); (case aB => exact (by repeat first | with_reducible (first | exact HB.out | apply bA | apply bN | apply bD) | exact HB.out)); (case aF => exact (fun _ _ => trivial)); (case aO => exact (by (with_reducible repeat (first | apply Kd.R_alloc | apply Kd.R_drewN | apply Kd.R_drew)); exact HO_5.out)); (case aS => exact (below_size (by repeat first | with_reducible (first | exact HB.out | apply bA | apply bN | apply bD) | exact HB.out))); (case aL => have := LMc19.out; omega); intro v344 w20 ho hb hg hat; rw [← Ny5003.out] at ho; have n0_ := Aside0.mk (hb); have n1_ := Aside0.mk (ho); clear HB; clear HO_5; have HB := n0_; have HO345 := n1_; clear n0_ n1_; clear ho hb hg hat))
           go_ret
           exact ⟨_, by first | rfl | (simp [errW_none, errW_some] <;> rfl) | (simp only [← hji7]; first | rfl | (simp [errW_none, errW_some] <;> rfl)) | (simp [*, errW_none, errW_some] <;> rfl), by (with_reducible repeat (first | apply Kd.R_alloc | apply Kd.R_drewN | apply Kd.R_drew)); exact HO345.out, by repeat first | with_reducible (first | exact HB.out | apply bA | apply bN | apply bD) | exact HB.out⟩
          ·rw [if_neg c19] at H
           exact absurd H (by simp)
      ·rw [if_neg c9] at H
       exact absurd H (by simp)
     ·rw [if_neg c8] at H
      exact absurd H (by simp)

mutual
def octets_Get.j0 : Nat → ByteArray → Bool → Option (Int × Bool)
 | 0, _, _ => none
 | k + 1, x0, x13 => if x13 = true then (some (0, false)) else (octets_Get.l0 k x0 0 (x0.size : Int) 0)
def octets_Get.l0 : Nat → ByteArray → Int → Int → Int → Option (Int × Bool)
 | 0, _, _, _, _ => none
 | k + 1, x0, x4, x15, x16 => if x16 < x15 then (if 0 ≤ x16 then (if x16 < (x0.size : Int) then (octets_Get.l0 k x0 (Go.bits .or .u64 (IntKind.u64.wrap (x4 * 256)) (IntKind.u64.wrap (bt x0 x16))) x15 (wrap64 (x16 + 1))) else (none)) else (none)) else (some (x4, true))
end
def octets_Get.f (k : Nat) (a0 : ByteArray) : Option (Int × Bool) := if (a0.size : Int) = 0 then (octets_Get.j0 k a0 true) else (octets_Get.j0 k a0 (decide ((a0.size : Int) > 8)))
theorem octets_Get.mono_l : ∀ k, (∀ y1 y2, LeO (octets_Get.j0 k y1 y2) (octets_Get.j0 (k + 1) y1 y2)) ∧ (∀ y1 y2 y3 y4, LeO (octets_Get.l0 k y1 y2 y3 y4) (octets_Get.l0 (k + 1) y1 y2 y3 y4))
 | 0 => ⟨fun _ _ r h => by simp [octets_Get.j0] at h, fun _ _ _ _ r h => by simp [octets_Get.l0] at h⟩
 | k + 1 => by
  obtain ⟨ih0, ih1⟩ := octets_Get.mono_l k
  refine ⟨?_, ?_⟩
  ·intro y1 y2
   unfold octets_Get.j0
   repeat' first
   | (with_reducible exact ih0 _ _)
   | (with_reducible exact ih1 _ _ _ _)
   | (with_reducible exact LeO.refl _)
   | (with_reducible exact LeO.none _)
   | (with_reducible refine LeO.ite ?_ ?_)
   | (with_reducible refine LeO.bind ?_ (fun _ => ?_))
  ·intro y1 y2 y3 y4
   unfold octets_Get.l0
   repeat' first
   | (with_reducible exact ih0 _ _)
   | (with_reducible exact ih1 _ _ _ _)
   | (with_reducible exact LeO.refl _)
   | (with_reducible exact LeO.none _)
   | (with_reducible refine LeO.ite ?_ ?_)
   | (with_reducible refine LeO.bind ?_ (fun _ => ?_))
theorem octets_Get.mono : ∀ a0 k, LeO (octets_Get.f k a0) (octets_Get.f (k + 1) a0) := by
 intro a0 k
 obtain ⟨ih0, ih1⟩ := octets_Get.mono_l k
 unfold octets_Get.f
 repeat' first
   | (with_reducible exact ih0 _ _)
   | (with_reducible exact ih1 _ _ _ _)
   | (with_reducible exact LeO.refl _)
   | (with_reducible exact LeO.none _)
   | (with_reducible refine LeO.ite ?_ ?_)
   | (with_reducible refine LeO.bind ?_ (fun _ => ?_))
set_option maxHeartbeats 8000000 in
set_option maxRecDepth 100000 in
theorem octets_Get.calls (k : Nat) (a0 : ByteArray) (r1 : Int) (r2 : Bool) (w : World) (h : octets_Get.f k a0 = some (r1, r2)) :
  Calls Try.prog 195 #[.string a0] w fun e w' => e = .returned (.tuple #[.int .u64 r1, .bool r2]) ∧ Drawn0 w w' := by
 have H : (if (a0.size : Int) = 0 then (octets_Get.j0 k a0 true) else (octets_Get.j0 k a0 (decide ((a0.size : Int) > 8)))) = some (r1, r2) := h
 clear h
 have HC2 := Aside0.mk H
 clear H
 go_enter Try.func195, Try.ntmps195
 go_upto_region 1 with (fail)
 go_cut [13] (fun v13 wc => ∃ (kq : Nat) (x13_1 : Bool), v13 = .bool x13_1 ∧ Aside0 (octets_Get.j0 kq a0 x13_1 = some (r1, r2)) ∧ Aside0 (kq ≤ k) ∧ Drawn0 w wc)
 case first =>
  have H := HC2.out
  clear HC2
  by_cases c3 : (a0.size : Int) = 0
  ·rw [if_pos c3] at H
   have c3b0 : ((a0.size : Int) == 0) = true := beq_iff_eq.mpr c3
   have c3b1 : ((a0.size : Int) != 0) = false := bne_eq_false_iff_eq.mpr c3
   clear c3
   (first | rw [c3b0] | (simp only [i64_w, i32_w]; rw [c3b0]) | skip)
   have H' := Aside0.mk H
   clear H
   go_wp2
   go_meet
   case rel => exact ⟨_, (true), (by first | rfl | (simp; done) | (simp [*]; done)), H', ⟨by first | omega | exact Nat.le_refl _⟩, by repeat (first | exact Drawn0.refl _ | apply Drawn0.step)⟩
  ·rw [if_neg c3] at H
   have c3b0 : ((a0.size : Int) == 0) = false := beq_eq_false_iff_ne.mpr c3
   have c3b1 : ((a0.size : Int) != 0) = true := bne_iff_ne.mpr c3
   (first | rw [c3b0] | (simp only [i64_w, i32_w]; rw [c3b0]) | skip)
   have H' := Aside0.mk H
   clear H
   go_wp2
   go_meet
   case rel => exact ⟨_, (decide ((a0.size : Int) > 8)), (by first | rfl | (simp; done) | (simp [*]; done)), H', ⟨by first | omega | exact Nat.le_refl _⟩, by repeat (first | exact Drawn0.refl _ | apply Drawn0.step)⟩
 case rest =>
  clear HC2
  try clear c1
  try clear p2
  try clear c3
  try clear c3b0
  try clear c3b1
  obtain ⟨kq, x13_1, rfl, HA, HJ1, ⟨mc1, rfl⟩⟩ := hcut
  cases kq with
  | zero => exact absurd HA.out (by simp [octets_Get.j0])
  | succ kj1 =>
   have H := HA.out
   clear HA
   simp only [octets_Get.j0] at H
   by_cases c4 : x13_1 = true
   ·subst c4
    have H1 : (some (0, false)) = some (r1, r2) := by rw [if_pos rfl] at H; exact H
    clear H
    have H := H1
    clear H1
    simp only [Option.some.injEq, Prod.mk.injEq] at H
    obtain ⟨rfl, rfl⟩ := H
    go_wp2
    go_ret2
    exact ⟨by first | rfl | (simp; done) | (simp [*]; done) | (simp [IntKind.wrap_u8, IntKind.wrap_i64, wrap64]; done), by repeat (first | exact Drawn0.refl _ | apply Drawn0.step)⟩
   ·replace c4 := Bool.eq_false_iff.mpr c4
    subst c4
    have H1 : (octets_Get.l0 kj1 a0 0 (a0.size : Int) 0) = some (r1, r2) := by rw [if_neg (show ¬ (false = true) by decide)] at H; exact H
    clear H
    have H := H1
    clear H1
    have H' := Aside0.mk H
    clear H
    go_wp2
    go_loopg [4, 16] kj1 (fun kq v4 v16 w' => ∃ (x4_2 : Int) (x16_2 : Int), v4 = .int .u64 x4_2 ∧ v16 = .int .i64 x16_2 ∧ Aside0 (octets_Get.l0 kq a0 x4_2 (a0.size : Int) x16_2 = some (r1, r2)) ∧ Aside0 (kq ≤ kj1) ∧ Drawn0 w w')
    case atStart => exact ⟨(0), (0), (by first | rfl | (simp; done) | (simp [*]; done)), (by first | rfl | (simp; done) | (simp [*]; done)), H', ⟨Nat.le_refl _⟩, by repeat (first | exact Drawn0.refl _ | apply Drawn0.step)⟩
    case round =>
     clear H'
     try clear c1
     try clear p2
     try clear c3
     try clear c3b0
     try clear c3b1
     try clear c4
     try clear p2
     obtain ⟨x4_2, x16_2, rfl, rfl, HA, HK2, ⟨m2, rfl⟩⟩ := hrel
     cases gk with
     | zero => exact absurd HA.out (by simp [octets_Get.l0])
     | succ k2 =>
      have H := HA.out
      clear HA
      simp only [octets_Get.l0] at H
      by_cases c5 : x16_2 < (a0.size : Int)
      ·rw [if_pos c5] at H
       have c5b0 : decide (x16_2 < (a0.size : Int)) = true := decide_eq_true c5
       clear c5
       by_cases c6 : 0 ≤ x16_2
       ·rw [if_pos c6] at H
        have c6b0 : decide (0 ≤ x16_2) = true := decide_eq_true c6
        clear c6
        by_cases c7 : x16_2 < (a0.size : Int)
        ·rw [if_pos c7] at H
         have c7b0 : decide (x16_2 < (a0.size : Int)) = true := decide_eq_true c7
         clear c7
         have H' := Aside0.mk H
         clear H
         have p8 : 0 ≤ (x16_2 : Int) := of_decide_eq_true (by assumption)
         have q8 : x16_2 < (a0.size : Int) := of_decide_eq_true (by assumption)
         have hx8 := bt_at a0 x16_2
         replace p8 := eq_true p8
         replace q8 := eq_true q8
         go_wp2
         go_roundg k2
         case measure => have := HJ1.out; have := HK2.out; omega
         case rel => exact ⟨(Go.bits .or .u64 (IntKind.u64.wrap (x4_2 * 256)) (IntKind.u64.wrap (bt a0 x16_2))), (wrap64 (x16_2 + 1)), (by first | rfl | (simp; done) | (simp [*]; done)), (by first | rfl | (simp; done) | (simp [*]; done)), H', ⟨by have := HJ1.out; have := HK2.out; omega⟩, by repeat (first | exact Drawn0.refl _ | apply Drawn0.step)⟩
        ·rw [if_neg c7] at H
         exact absurd H (by simp)
       ·rw [if_neg c6] at H
        exact absurd H (by simp)
      ·rw [if_neg c5] at H
       have c5b0 : decide (x16_2 < (a0.size : Int)) = false := decide_eq_false c5
       clear c5
       simp only [Option.some.injEq, Prod.mk.injEq] at H
       obtain ⟨rfl, rfl⟩ := H
       go_wp2
       go_ret2
       exact ⟨by first | rfl | (simp; done) | (simp [*]; done) | (simp [IntKind.wrap_u8, IntKind.wrap_i64, wrap64]; done), by repeat (first | exact Drawn0.refl _ | apply Drawn0.step)⟩

def octets_Zeros.f (a0 : Int) : Option (ByteArray) := if a0 < 1 then (some (⟨#[]⟩ : ByteArray)) else (if a0 > 65552 then (some (⟨#[]⟩ : ByteArray)) else (if 0 ≤ a0 then (if (a0 : Int).toNat ≤ 281474976710656 then (some (strOfNums (List.replicate (a0 : Int).toNat 0))) else (none)) else (none)))
set_option maxHeartbeats 8000000 in
set_option maxRecDepth 100000 in
theorem octets_Zeros.calls (a0 : Int) (r : ByteArray) (w : World) (h : octets_Zeros.f a0 = some r) :
  Calls Try.prog 198 #[.int .i64 a0] w fun e w' => e = .returned (.string r) ∧ Below w.heap.size w w' := by
 have HB := Aside0.mk (Below.refl w.heap.size w)
 have H : (if a0 < 1 then (some (⟨#[]⟩ : ByteArray)) else (if a0 > 65552 then (some (⟨#[]⟩ : ByteArray)) else (if 0 ≤ a0 then (if (a0 : Int).toNat ≤ 281474976710656 then (some (strOfNums (List.replicate (a0 : Int).toNat 0))) else (none)) else (none)))) = some r := h
 clear h
 by_cases c2 : a0 < 1
 ·rw [if_pos c2] at H
  have c2b0 : decide (a0 < 1) = true := decide_eq_true c2
  clear c2
  obtain rfl := Option.some.inj H
  go_enter Try.func198, Try.ntmps198
  go_wp2
  go_ret
  exact ⟨by first | rfl | (simp [*, errW_none, errW_some] <;> rfl), by repeat first | with_reducible (first | exact HB.out | apply bA | apply bN | apply bD) | exact HB.out⟩
 ·rw [if_neg c2] at H
  have c2b0 : decide (a0 < 1) = false := decide_eq_false c2
  clear c2
  by_cases c3 : a0 > 65552
  ·rw [if_pos c3] at H
   have c3b0 : decide (65552 < a0) = true := decide_eq_true c3
   clear c3
   obtain rfl := Option.some.inj H
   go_enter Try.func198, Try.ntmps198
   go_wp2
   go_ret
   exact ⟨by first | rfl | (simp [*, errW_none, errW_some] <;> rfl), by repeat first | with_reducible (first | exact HB.out | apply bA | apply bN | apply bD) | exact HB.out⟩
  ·rw [if_neg c3] at H
   have c3b0 : decide (65552 < a0) = false := decide_eq_false c3
   clear c3
   by_cases c4 : 0 ≤ a0
   ·rw [if_pos c4] at H
    have c4b0 := eq_true c4
    have c4b1 : decide (0 ≤ a0) = true := decide_eq_true c4
    clear c4
    by_cases c5 : (a0 : Int).toNat ≤ 281474976710656
    ·rw [if_pos c5] at H
     have c5b0 := eq_true c5
     have c5b1 : decide ((a0 : Int).toNat ≤ 281474976710656) = true := decide_eq_true c5
     clear c5
     obtain ⟨y1, hy1⟩ : ∃ y_ : List Int, y_ = (List.replicate (a0 : Int).toNat 0) := ⟨_, rfl⟩
     replace H : (some (strOfNums y1)) = some r := by first | (rw [hy1]; with_reducible exact H) | (have H2_ := (Option.bind_some _ _).symm.trans H; rw [hy1]; with_reducible exact H2_) | (have H2_ := (Option.bind_some _ _).symm.trans H; with_reducible exact H2_) | with_reducible exact H | (rw [hy1]; exact H) | exact H
     have Ny5001 := Aside0.mk hy1
     clear hy1
     obtain rfl := Option.some.inj H
     go_enter Try.func198, Try.ntmps198
     go_wp2_with (first | ((with_reducible refine gate_dst (N := 10) rfl ?_); refine Kd.R_make (Kd.int .u8) _ 5 rfl (N := 10) rfl 66 _ _ rfl a0 rfl rfl Try.underlying66 (.int .u8 0) 1 info5 rfl (by decide) (by omega) 0 (ok := fun _ => True) (okp := fun _ => True) rfl (fun _ hk => hk) trivial (of_decide_eq_true (by assumption)) (Nat.le_trans (Nat.mul_le_mul_right _ (of_decide_eq_true (by assumption) : a0.toNat ≤ 281474976710656)) (by omega)) (Below.refl _ _) (Nat.le_refl _) ?_; intro v370 w6 ho7 hb hg_ hnew_; clear hg_ hnew_; (first | rw [← Ny5001.out] at ho7 | (simp only [Int.reduceToNat] at ho7; rw [← Ny5001.out] at ho7)); have n0_ := Aside0.mk (Kd.R_lower ho7 (below_size (by repeat first | with_reducible (first | exact HB.out | apply bA | apply bN | apply bD) | exact HB.out))); have n1_ := Aside0.mk (below_step (by repeat first | with_reducible (first | exact HB.out | apply bA | apply bN | apply bD) | exact HB.out) hb); clear HB; have HO371 := n0_; have HB := n1_; clear n0_ n1_; clear hb ho7; have hcv8 := own_string (P := Try.prog) Try.underlying66 Try.underlying5 Try.underlying9 (Kd.own_of_R HO371.out)))
     go_ret
     exact ⟨by first | rfl | (simp [*, errW_none, errW_some] <;> rfl), by repeat first | with_reducible (first | exact HB.out | apply bA | apply bN | apply bD) | exact HB.out⟩
    ·rw [if_neg c5] at H
     exact absurd H (by simp)
   ·rw [if_neg c4] at H
    exact absurd H (by simp)

def octets_Pad.f (a0 : ByteArray) (a1 : Int) : Option (ByteArray) := if a1 < 1 then (some a0) else (if a1 > 65535 then (some a0) else (if a1 = 0 then (none) else ((octets_Zeros.f (Int.tmod (wrap64 (a1 - ((a0.size : Int) % a1))) a1)).bind fun t1 => (if a0.size + t1.size ≤ 9223372036854775807 then (some (a0 ++ t1)) else (none)))))
set_option maxHeartbeats 8000000 in
set_option maxRecDepth 100000 in
theorem octets_Pad.calls (a0 : ByteArray) (a1 : Int) (r : ByteArray) (w : World) (h : octets_Pad.f a0 a1 = some r) :
  Calls Try.prog 204 #[.string a0, .int .i64 a1] w fun e w' => e = .returned (.string r) ∧ Below w.heap.size w w' := by
 have HB := Aside0.mk (Below.refl w.heap.size w)
 have H : (if a1 < 1 then (some a0) else (if a1 > 65535 then (some a0) else (if a1 = 0 then (none) else ((octets_Zeros.f (Int.tmod (wrap64 (a1 - ((a0.size : Int) % a1))) a1)).bind fun t1 => (if a0.size + t1.size ≤ 9223372036854775807 then (some (a0 ++ t1)) else (none)))))) = some r := h
 clear h
 by_cases c3 : a1 < 1
 ·rw [if_pos c3] at H
  have c3b0 : decide (a1 < 1) = true := decide_eq_true c3
  clear c3
  obtain rfl := Option.some.inj H
  go_enter Try.func204, Try.ntmps204
  go_wp2
  go_ret
  exact ⟨by first | rfl | (simp [*, errW_none, errW_some] <;> rfl), by repeat first | with_reducible (first | exact HB.out | apply bA | apply bN | apply bD) | exact HB.out⟩
 ·rw [if_neg c3] at H
  have c3b0 : decide (a1 < 1) = false := decide_eq_false c3
  clear c3
  by_cases c4 : a1 > 65535
  ·rw [if_pos c4] at H
   have c4b0 : decide (65535 < a1) = true := decide_eq_true c4
   clear c4
   obtain rfl := Option.some.inj H
   go_enter Try.func204, Try.ntmps204
   go_wp2
   go_ret
   exact ⟨by first | rfl | (simp [*, errW_none, errW_some] <;> rfl), by repeat first | with_reducible (first | exact HB.out | apply bA | apply bN | apply bD) | exact HB.out⟩
  ·rw [if_neg c4] at H
   have c4b0 : decide (65535 < a1) = false := decide_eq_false c4
   clear c4
   by_cases c5 : a1 = 0
   ·rw [if_pos c5] at H
    exact absurd H (by simp)
   ·rw [if_neg c5] at H
    have c5b0 : (a1 == 0) = false := beq_eq_false_iff_ne.mpr c5
    have c5b1 : (a1 != 0) = true := bne_iff_ne.mpr c5
    replace H := Option.bind_eq_some_iff.mp H
    obtain ⟨t1, A60, H⟩ := H
    try dsimp only at H
    have A6 := Aside0.mk A60
    clear A60
    by_cases c7 : a0.size + t1.size ≤ 9223372036854775807
    ·rw [if_pos c7] at H
     have c7b0 := eq_true c7
     have c7b1 : decide (a0.size + t1.size ≤ 9223372036854775807) = true := decide_eq_true c7
     try have c7b2 : (9223372036854775807 < a0.size + t1.size) = False := eq_false (Nat.not_lt.2 c7)
     obtain rfl := Option.some.inj H
     go_enter Try.func204, Try.ntmps204
     go_wp2_with (first | ((with_reducible refine gate_callee (f := 198) rfl ?_); refine goesL_ (some 21) rfl rfl Try.func198 (by kernel_rfl) rfl #[.int .i64 (Int.tmod (wrap64 (a1 - ((a0.size : Int) % a1))) a1)] rfl (by (try simp only [lT, lC, lN]); first | done | rfl | (simp only [List.length_drop, List.length_take]; rfl) | (simp only [ByteArray.size_extract, Nat.min_self, Nat.sub_zero, ByteArray.size_append]; first | done | rfl)) ?_; (with_reducible refine (octets_Zeros.calls (Int.tmod (wrap64 (a1 - ((a0.size : Int) % a1))) a1) t1 _ A6.out).mono ?_); rintro e w8 ⟨rfl, hb⟩; refine ⟨_, rfl, ?_⟩; have n0_ := Aside0.mk (below_step (by repeat first | with_reducible (first | exact HB.out | apply bA | apply bN | apply bD) | exact HB.out) hb); clear HB; have HB := n0_; clear n0_; (try clear hb); (try clear hb2); (try clear hk); (try clear hi)))
     go_ret
     exact ⟨by first | rfl | (simp [*, errW_none, errW_some] <;> rfl), by repeat first | with_reducible (first | exact HB.out | apply bA | apply bN | apply bD) | exact HB.out⟩
    ·rw [if_neg c7] at H
     exact absurd H (by simp)

def octets_Cut.f (a0 : ByteArray) (a1 : Int) (a2 : Int) : Option (ByteArray) := if a1 < 0 then (some (⟨#[]⟩ : ByteArray)) else (if a1 ≥ (a0.size : Int) then (some (⟨#[]⟩ : ByteArray)) else (if a2 < 1 then (some (⟨#[]⟩ : ByteArray)) else (if 0 ≤ a1 then (if a1 ≤ (wrap64 (a1 + (mn a2 (wrap64 ((a0.size : Int) - a1))))) then (if (wrap64 (a1 + (mn a2 (wrap64 ((a0.size : Int) - a1))))) ≤ (a0.size : Int) then (some (a0.extract (a1 : Int).toNat ((wrap64 (a1 + (mn a2 (wrap64 ((a0.size : Int) - a1))))) : Int).toNat)) else (none)) else (none)) else (none))))
def equal_Nought.l0 : Nat → ByteArray → Int → Int → Int → Option (Bool × Int)
 | 0, _, _, _, _ => none
 | k + 1, x0, x4, x7, x8 => if x8 < x7 then (if 0 ≤ x8 then (if x8 < (x0.size : Int) then (equal_Nought.l0 k x0 (Go.bits .or .u8 x4 (bt x0 x8)) x7 (wrap64 (x8 + 1))) else (none)) else (none)) else (some ((x4 == 0), (x0.size : Int)))
def equal_Nought.f (k : Nat) (a0 : ByteArray) : Option (Bool × Int) := equal_Nought.l0 k a0 0 (a0.size : Int) 0
theorem equal_Nought.mono_l : ∀ k, (∀ y1 y2 y3 y4, LeO (equal_Nought.l0 k y1 y2 y3 y4) (equal_Nought.l0 (k + 1) y1 y2 y3 y4))
 | 0 => fun _ _ _ _ r h => by simp [equal_Nought.l0] at h
 | k + 1 => by
  have ih0 := equal_Nought.mono_l k
  ·intro y1 y2 y3 y4
   unfold equal_Nought.l0
   repeat' first
   | (with_reducible exact ih0 _ _ _ _)
   | (with_reducible exact LeO.refl _)
   | (with_reducible exact LeO.none _)
   | (with_reducible refine LeO.ite ?_ ?_)
   | (with_reducible refine LeO.bind ?_ (fun _ => ?_))
theorem equal_Nought.mono : ∀ a0 k, LeO (equal_Nought.f k a0) (equal_Nought.f (k + 1) a0) := by
 intro a0 k
 have ih0 := equal_Nought.mono_l k
 unfold equal_Nought.f
 repeat' first
   | (with_reducible exact ih0 _ _ _ _)
   | (with_reducible exact LeO.refl _)
   | (with_reducible exact LeO.none _)
   | (with_reducible refine LeO.ite ?_ ?_)
   | (with_reducible refine LeO.bind ?_ (fun _ => ?_))
end Go.Proofs.Ytokkhnjedmlbhaa.Pr
end
section
namespace Go.Proofs.Ytokkhnjedmlbhaa.Pr
open Go.RowKit Go.Proofs.YtokkhnjedmlbhaaW.PrintWords Go.Proofs.YtokkhnjedmlbhaaW.PrintLast Go.Proofs.YtokkhnjedmlbhaaW.PrintMore
attribute [local go_sem] max2_int min2_int max_two min_two max_three min_three max_four min_four   -- for this text's walks alone
set_option linter.unusedVariables false
set_option linter.unusedSimpArgs false

mutual
def clavigerref01_Xor.l0 : Nat → ByteArray → ByteArray → ByteArray → Int → Option (ByteArray)
 | 0, _, _, _, _ => none
 | k + 1, x0, x1, x5, x6 => if x6 < (x0.size : Int) then (clavigerref01_Xor.j1 k x0 x1 x5 x6 (decide (x6 < (x1.size : Int)))) else (clavigerref01_Xor.j1 k x0 x1 x5 x6 false)
def clavigerref01_Xor.j1 : Nat → ByteArray → ByteArray → ByteArray → Int → Bool → Option (ByteArray)
 | 0, _, _, _, _, _ => none
 | k + 1, x0, x1, x5, x6, x20 => if x20 = true then (if 0 ≤ x6 then (if x6 < (x0.size : Int) then (if x6 < (x1.size : Int) then (clavigerref01_Xor.l1 k x0 x1 x5 x6 (wrap64 (bt x0 x6)) (wrap64 (bt x1 x6)) 0 1) else (none)) else (none)) else (none)) else (some x5)
def clavigerref01_Xor.l1 : Nat → ByteArray → ByteArray → ByteArray → Int → Int → Int → Int → Int → Option (ByteArray)
 | 0, _, _, _, _, _, _, _, _ => none
 | k + 1, x0, x1, x5, x6, x7, x8, x9, x10 => if x10 < 256 then (if x10 = 0 then (none) else (if (Int.tmod (wrap64 (Int.tdiv x7 x10)) 2) = (Int.tmod (wrap64 (Int.tdiv x8 x10)) 2) then (clavigerref01_Xor.l1 k x0 x1 x5 x6 x7 x8 x9 (wrap64 (2 * x10))) else (clavigerref01_Xor.l1 k x0 x1 x5 x6 x7 x8 (wrap64 (x9 + x10)) (wrap64 (2 * x10))))) else ((some (([(x9) % 256] : List Int) : List Int)).bind fun y1 => (if x5.size + (strOfNums y1).size ≤ 9223372036854775807 then (clavigerref01_Xor.l0 k x0 x1 (x5 ++ (strOfNums y1)) (wrap64 (x6 + 1))) else (none)))
end
def clavigerref01_Xor.f (k : Nat) (a0 : ByteArray) (a1 : ByteArray) : Option (ByteArray) := clavigerref01_Xor.l0 k a0 a1 (⟨#[]⟩ : ByteArray) 0
theorem clavigerref01_Xor.mono_l : ∀ k, (∀ y2 y3 y4 y5, LeO (clavigerref01_Xor.l0 k y2 y3 y4 y5) (clavigerref01_Xor.l0 (k + 1) y2 y3 y4 y5)) ∧ (∀ y2 y3 y4 y5 y6, LeO (clavigerref01_Xor.j1 k y2 y3 y4 y5 y6) (clavigerref01_Xor.j1 (k + 1) y2 y3 y4 y5 y6)) ∧ (∀ y2 y3 y4 y5 y6 y7 y8 y9, LeO (clavigerref01_Xor.l1 k y2 y3 y4 y5 y6 y7 y8 y9) (clavigerref01_Xor.l1 (k + 1) y2 y3 y4 y5 y6 y7 y8 y9))
 | 0 => ⟨fun _ _ _ _ r h => by simp [clavigerref01_Xor.l0] at h, fun _ _ _ _ _ r h => by simp [clavigerref01_Xor.j1] at h, fun _ _ _ _ _ _ _ _ r h => by simp [clavigerref01_Xor.l1] at h⟩
 | k + 1 => by
  obtain ⟨ih0, ih1, ih2⟩ := clavigerref01_Xor.mono_l k
  refine ⟨?_, ?_, ?_⟩
  ·intro y2 y3 y4 y5
   unfold clavigerref01_Xor.l0
   repeat' first
   | (with_reducible exact ih0 _ _ _ _)
   | (with_reducible exact ih1 _ _ _ _ _)
   | (with_reducible exact ih2 _ _ _ _ _ _ _ _)
   | (with_reducible exact LeO.refl _)
   | (with_reducible exact LeO.none _)
   | (with_reducible refine LeO.ite ?_ ?_)
   | (with_reducible refine LeO.bind ?_ (fun _ => ?_))
  ·intro y2 y3 y4 y5 y6
   unfold clavigerref01_Xor.j1
   repeat' first
   | (with_reducible exact ih0 _ _ _ _)
   | (with_reducible exact ih1 _ _ _ _ _)
   | (with_reducible exact ih2 _ _ _ _ _ _ _ _)
   | (with_reducible exact LeO.refl _)
   | (with_reducible exact LeO.none _)
   | (with_reducible refine LeO.ite ?_ ?_)
   | (with_reducible refine LeO.bind ?_ (fun _ => ?_))
  ·intro y2 y3 y4 y5 y6 y7 y8 y9
   unfold clavigerref01_Xor.l1
   repeat' first
   | (with_reducible exact ih0 _ _ _ _)
   | (with_reducible exact ih1 _ _ _ _ _)
   | (with_reducible exact ih2 _ _ _ _ _ _ _ _)
   | (with_reducible exact LeO.refl _)
   | (with_reducible exact LeO.none _)
   | (with_reducible refine LeO.ite ?_ ?_)
   | (with_reducible refine LeO.bind ?_ (fun _ => ?_))
theorem clavigerref01_Xor.mono : ∀ a0 a1 k, LeO (clavigerref01_Xor.f k a0 a1) (clavigerref01_Xor.f (k + 1) a0 a1) := by
 intro a0 a1 k
 obtain ⟨ih0, ih1, ih2⟩ := clavigerref01_Xor.mono_l k
 unfold clavigerref01_Xor.f
 repeat' first
   | (with_reducible exact ih0 _ _ _ _)
   | (with_reducible exact ih1 _ _ _ _ _)
   | (with_reducible exact ih2 _ _ _ _ _ _ _ _)
   | (with_reducible exact LeO.refl _)
   | (with_reducible exact LeO.none _)
   | (with_reducible refine LeO.ite ?_ ?_)
   | (with_reducible refine LeO.bind ?_ (fun _ => ?_))
end Go.Proofs.Ytokkhnjedmlbhaa.Pr
end
