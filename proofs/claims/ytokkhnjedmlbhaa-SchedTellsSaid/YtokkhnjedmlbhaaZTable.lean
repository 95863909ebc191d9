/-
  sbox.Table: all bytes for which bytes stand. No conditions.
-/
import Derived.Test.YtokkhnjedmlbhaaZHx
import Derived.Test.YtokkhnjedmlbhaaZPrg05
import Derived.Test.YtokkhnjedmlbhaaZPrg06
import Derived.Test.YtokkhnjedmlbhaaZPrk
import Derived.RegionTactic
import Derived.ChangeAlike
namespace Go.Proofs.Ytokkhnjedmlbhaa.Pr
open Go.RowKit Go.Proofs.YtokkhnjedmlbhaaW.PrintWords Go.Proofs.YtokkhnjedmlbhaaW.PrintLast Go.Proofs.YtokkhnjedmlbhaaW.PrintMore Go.Proofs.YtokkhnjedmlbhaaHw
/-- n rounds more, from p and q on. -/
def tabL (k : Nat) (third : Int) : Nat → Int → Int → List Int → Option (List Int)
  | 0, _, _, xs => some xs
  | n + 1, p, q, xs => (sbox_mixed.f q).bind fun m => (field_Mul.f k p 3).bind fun p' => (field_Mul.f k q third).bind fun q' => if 0 ≤ p then if p < 256 then tabL k third n p' q' (xs.set p.toNat m) else none else none
def sbox_Table.f (k : Nat) : Option ByteArray := (field_Inv.f k 3).bind fun third => (tabL k third 255 1 1 (List.replicate 256 0)).map fun xs => strOfNums (xs.set 0 99)
theorem tabL_mono (k : Nat) (third : Int) : ∀ n p q xs, LeO (tabL k third n p q xs) (tabL (k + 1) third n p q xs)
  | 0, _, _, _ => LeO.refl _
  | n + 1, p, q, xs => by
    simp only [tabL]
    exact LeO.bind (LeO.refl _) fun m => LeO.bind (field_Mul.mono _ _ _) fun p' => LeO.bind (field_Mul.mono _ _ _) fun q' => LeO.ite (LeO.ite (tabL_mono k third n p' q' _) (LeO.none _)) (LeO.none _)
theorem sbox_Table.mono : ∀ k, LeO (sbox_Table.f k) (sbox_Table.f (k + 1)) := fun k => LeO.bind (field_Inv.mono _ _) fun third => LeO.map _ (tabL_mono k third _ _ _ _)
theorem map_set_u8 (xs : List Int) (i : Nat) (v : Int) : ((xs.map (Value.int .u8)).toArray.setIfInBounds i (.int .u8 v)) = (((xs.set i v).map (Value.int .u8)).toArray) := by
  apply Array.ext'
  simp only [Array.toList_setIfInBounds]
  exact (List.map_set).symm
theorem row_get (xs : List Int) (i : Nat) (h : i < xs.length) : (xs.map (Value.int .u8)).toArray[i]? = some (.int .u8 (xs.getD i 0)) := by
  simp [h]
set_option maxHeartbeats 1000000 in
set_option maxRecDepth 100000 in
theorem sbox_Table.calls (k : Nat) (r : ByteArray) (w : World) (h : sbox_Table.f k = some r) :
    Calls Try.prog 70 #[] w fun e w' => e = .returned (.string r) ∧ Below w.heap.size w w' := by
  unfold sbox_Table.f at h
  replace h := Option.bind_eq_some_iff.1 h
  obtain ⟨third, h3, h⟩ := h
  replace h := Option.map_eq_some_iff.1 h
  obtain ⟨xs, hx, hr⟩ := h
  subst hr
  have H3 := Aside0.mk h3
  have HX := Aside0.mk hx
  clear h3 hx
  go_enter Try.func70, Try.ntmps70
  go_wp2_with (go_at_call 47; refine (field_Inv.calls k _ _ _ H3.out).mono ?_; rintro e w1 ⟨rfl, hd⟩)
  obtain ⟨nd, rfl⟩ := hd.out
  have hz : Try.zeroCells93 = ((List.replicate 256 (0 : Int)).map (Value.int .u8)).toArray := by kernel_rfl
  have hb0 : ((w.alloc (.cells Try.zeroCells93 93)).drewN nd).heap[w.heap.size]? = some (.cells ((List.replicate 256 (0 : Int)).map (Value.int .u8)).toArray 93 (0, 0)) := by
    rw [← hz]; exact heap_alloc_new w _
  have HK0 := Aside0.mk hb0
  have HL0 := Aside0.mk (pw_below_drewN ((Below.refl w.heap.size w).alloc (Nat.le_refl _) (.cells Try.zeroCells93 93)) nd)
  clear hz hb0 hd
  go_loopw [3, 4, 6] (fun vp vq i wr => ∃ (j : Nat) (p q : Int) (ys : List Int), j ≤ 255 ∧ vp = .int .u8 p ∧ vq = .int .u8 q ∧ i = .int .i64 j ∧ Aside0 (tabL k third (255 - j) p q ys = some xs) ∧ Aside0 (ys.length = 256) ∧ Aside0 (wr.heap[w.heap.size]? = some (.cells (ys.map (Value.int .u8)).toArray 93 (0, 0))) ∧ Aside0 (Below w.heap.size w wr)) (fun _ _ i _ => 255 - (intOf i).toNat)
  case atStart => exact ⟨0, 1, 1, _, by omega, rfl, rfl, rfl, HX, ⟨by rw [List.length_replicate]⟩, HK0, HL0⟩
  case round =>
    clear HX HK0 HL0
    obtain ⟨j, p, q, ys, hj, rfl, rfl, rfl, HX, HY, HK, HB⟩ := hrel
    by_cases hlt : j < 255
    · have hx := HX.out
      rw [show 255 - j = (255 - (j + 1)) + 1 by omega] at hx
      simp only [tabL] at hx
      replace hx := Option.bind_eq_some_iff.1 hx
      obtain ⟨m, hm, hx⟩ := hx
      replace hx := Option.bind_eq_some_iff.1 hx
      obtain ⟨p', hp', hx⟩ := hx
      replace hx := Option.bind_eq_some_iff.1 hx
      obtain ⟨q', hq', hx⟩ := hx
      split at hx
      case isFalse => cases hx
      case isTrue h0 =>
      split at hx
      case isFalse => cases hx
      case isTrue h1 =>
      obtain ⟨pn, rfl⟩ := Int.eq_ofNat_of_zero_le h0
      rw [Int.toNat_natCast] at hx
      have HM := Aside0.mk hm
      have HP := Aside0.mk hp'
      have HQ := Aside0.mk hq'
      have HX1 := Aside0.mk hx
      clear HX hx hm hp' hq'
      have hpn : pn < 256 := by omega
      have HC : Aside0 (∀ n2, (wr.drewN n2).cell? ⟨w.heap.size, pn, none⟩ = some (.int .u8 (ys.getD pn 0))) := ⟨fun n2 => (blk_cell (w := wr.drewN n2) HK.out pn).trans (row_get ys pn (by rw [HY.out]; exact hpn))⟩
      have HF : Aside0 (∀ n2, (wr.drewN n2).frozen? ⟨w.heap.size, pn, none⟩ = false) := ⟨fun n2 => blk_frozen (w := wr.drewN n2) HK.out pn⟩
      go_wp2_with (go_at_call 172; refine (sbox_mixed.calls _ _ _ HM.out).mono ?_; rintro e w2 ⟨rfl, hd⟩; obtain ⟨n2, rfl⟩ := hd.out; clear hd; have hc := HC.out n2; have hf := HF.out n2)
      go_wp2_with (first | (go_at_call 43; (with_reducible refine (field_Mul.calls k _ _ _ _ HP.out).mono ?_); rintro e w3 ⟨rfl, hd⟩; obtain ⟨n3, rfl⟩ := hd.out; clear hd) | (go_at_call 43; (with_reducible refine (field_Mul.calls k _ _ _ _ HQ.out).mono ?_); rintro e w3 ⟨rfl, hd⟩; obtain ⟨n3, rfl⟩ := hd.out; clear hd))
      rename_i n1
      refine ⟨⟨j + 1, p', q', ys.set pn m, by omega, rfl, rfl, by go_num, HX1, ⟨by rw [List.length_set]; exact HY.out⟩, ⟨?_⟩, ⟨?_⟩⟩, by simp [intOf]; omega⟩
      · rw [← map_set_u8]
        exact blk_set (w := wr.drewN n2) HK.out pn _
      · exact pw_below_drewN (below_set (pw_below_drewN HB.out n2) (Nat.le_refl _)) _
    · obtain rfl : j = 255 := by omega
      have hx : ys = xs := by simpa [tabL] using HX.out
      subst hx
      clear HX
      have hc : wr.cell? ⟨w.heap.size, 0, none⟩ = some (.int .u8 (ys.getD 0 0)) := (blk_cell HK.out 0).trans (row_get ys 0 (by rw [HY.out]; omega))
      have hf : wr.frozen? ⟨w.heap.size, 0, none⟩ = false := blk_frozen HK.out 0
      have hb := blk_set HK.out 0 (.int .u8 99)
      rw [map_set_u8] at hb
      have hlen : (ys.set 0 99).length = 256 := by rw [List.length_set]; exact HY.out
      have hcv := run_convert_bytes_arg (P := Try.prog) (wr.setCell ⟨w.heap.size, 0, none⟩ (.int .u8 99)) 66 5 Try.underlying66 Try.underlying5 w.heap.size 0 256 256 (ys.set 0 99) hlen (fun i hi => by
        rw [Nat.zero_add, blk_cell hb i]
        exact row_get _ i (by rw [hlen]; exact hi)) 9 Try.underlying9
      clear hb hlen
      go_wp2
      go_ret
      exact ⟨rfl, below_set HB.out (Nat.le_refl _)⟩
end Go.Proofs.Ytokkhnjedmlbhaa.Pr
