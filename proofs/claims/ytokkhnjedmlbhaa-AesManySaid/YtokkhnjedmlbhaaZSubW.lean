-- several texts in one (by the session's program shake.py)
import Derived.Test.YtokkhnjedmlbhaaZFieldP
import Derived.Lib.Strings
import Derived.Lib.Slices
import Derived.Lib.Walk
import Derived.Lib.Builder
import Derived.Lib.AppendStr
import Derived.Lib.UnsafeStr
import Derived.Lib.MakeNoZero
import Derived.Laws.Externs
import Derived.Test.YtokkhnjedmlbhaaZShelf
import Derived.Test.YtokkhnjedmlbhaaZPrg06
import Derived.Lib.BufferWrite
import Derived.RegionTactic
import Derived.ChangeAlike
import Derived.StillTailTactics
import Derived.Laws.Rows
import Derived.Laws.CopyOwn
import Derived.Laws.BitsAllLaws
section
namespace Go.Proofs.Ytokkhnjedmlbhaa.Pr
open Go.RowKit Go.Proofs.YtokkhnjedmlbhaaW.PrintWords Go.Proofs.YtokkhnjedmlbhaaW.PrintLast Go.Proofs.YtokkhnjedmlbhaaW.PrintMore
def inBytes (ys : List Int) : Bool := ys.all fun n => decide (0 ≤ n) && decide (n ≤ 255)
/-- All bytes of a text, by a function that may not answer. -/
def eachF (g : Int → Option Int) (s : ByteArray) : Option ByteArray := if s.size ≤ 140737488355328 then ((bytesOf s).mapM g).bind (fun ys => if inBytes ys = true then some (strOfNums ys) else none) else none
theorem mapM_mono {g g' : Int → Option Int} (h : ∀ x, LeO (g x) (g' x)) : ∀ l : List Int, LeO (l.mapM g) (l.mapM g')
  | [] => by simp only [List.mapM_nil]; exact LeO.refl _
  | x :: l => by
    simp only [List.mapM_cons]
    exact LeO.bind (h x) (fun y => LeO.bind (mapM_mono h l) (fun z => LeO.refl _))
theorem eachF_mono {g g' : Int → Option Int} (h : ∀ x, LeO (g x) (g' x)) (s : ByteArray) : LeO (eachF g s) (eachF g' s) := by
  unfold eachF
  exact LeO.ite (LeO.bind (mapM_mono h _) (fun _ => LeO.refl _)) (LeO.none _)

def sbox_Subs.f (k : Nat) (s : ByteArray) : Option ByteArray := eachF (sbox_Sub.f k) s
theorem sbox_Subs.mono : ∀ a0 k, LeO (sbox_Subs.f k a0) (sbox_Subs.f (k + 1) a0) := fun a0 k => eachF_mono (fun x => sbox_Sub.mono x k) a0
def sbox_Backs.f (k : Nat) (s : ByteArray) : Option ByteArray := eachF (sbox_Back.f k) s
theorem sbox_Backs.mono : ∀ a0 k, LeO (sbox_Backs.f k a0) (sbox_Backs.f (k + 1) a0) := fun a0 k => eachF_mono (fun x => sbox_Back.mono x k) a0
end Go.Proofs.Ytokkhnjedmlbhaa.Pr
end
section
namespace Go.Proofs.Ytokkhnjedmlbhaa.Pr
open Go.RowKit Go.Proofs.YtokkhnjedmlbhaaW.PrintWords Go.Proofs.YtokkhnjedmlbhaaW.PrintLast Go.Proofs.YtokkhnjedmlbhaaW.PrintMore
attribute [local go_sem] max2_int min2_int max_two min_two max_three min_three max_four min_four   -- for this text's walks alone
set_option linter.unusedVariables false
set_option linter.unusedSimpArgs false

def clavigerref02_Unhex.l0 : Nat → ByteArray → ByteArray → Int → Option (ByteArray × Bool)
 | 0, _, _, _ => none
 | k + 1, x0, x4, x5 => if x5 < (x0.size : Int) then (if 0 ≤ x5 then ((clavigerref02_Value.f k (bt x0 x5)).bind fun t1 => (if 0 ≤ (wrap64 (x5 + 1)) then (if (wrap64 (x5 + 1)) < (x0.size : Int) then ((clavigerref02_Value.f k (bt x0 (wrap64 (x5 + 1)))).bind fun t2 => (if t1 < 0 then (some ((⟨#[]⟩ : ByteArray), false)) else (if t2 < 0 then (some ((⟨#[]⟩ : ByteArray), false)) else ((some (([(wrap64 ((wrap64 (16 * t1)) + t2)) % 256] : List Int) : List Int)).bind fun y3 => (if x4.size + (strOfNums y3).size ≤ 9223372036854775807 then (clavigerref02_Unhex.l0 k x0 (x4 ++ (strOfNums y3)) (wrap64 (x5 + 2))) else (none)))))) else (none)) else (none))) else (none)) else (some (x4, true))
def clavigerref02_Unhex.f (k : Nat) (a0 : ByteArray) : Option (ByteArray × Bool) := if ((a0.size : Int) % 2) = 0 then (clavigerref02_Unhex.l0 k a0 (⟨#[]⟩ : ByteArray) 0) else (some ((⟨#[]⟩ : ByteArray), false))
theorem clavigerref02_Unhex.mono_l : ∀ k, (∀ y4 y5 y6, LeO (clavigerref02_Unhex.l0 k y4 y5 y6) (clavigerref02_Unhex.l0 (k + 1) y4 y5 y6))
 | 0 => fun _ _ _ r h => by simp [clavigerref02_Unhex.l0] at h
 | k + 1 => by
  have ih0 := clavigerref02_Unhex.mono_l k
  ·intro y4 y5 y6
   unfold clavigerref02_Unhex.l0
   repeat' first
   | (with_reducible exact ih0 _ _ _)
   | (with_reducible exact clavigerref02_Value.mono _ _)
   | (with_reducible exact LeO.refl _)
   | (with_reducible exact LeO.none _)
   | (with_reducible refine LeO.ite ?_ ?_)
   | (with_reducible refine LeO.bind ?_ (fun _ => ?_))
theorem clavigerref02_Unhex.mono : ∀ a0 k, LeO (clavigerref02_Unhex.f k a0) (clavigerref02_Unhex.f (k + 1) a0) := by
 intro a0 k
 have ih0 := clavigerref02_Unhex.mono_l k
 unfold clavigerref02_Unhex.f
 repeat' first
   | (with_reducible exact ih0 _ _ _)
   | (with_reducible exact clavigerref02_Value.mono _ _)
   | (with_reducible exact LeO.refl _)
   | (with_reducible exact LeO.none _)
   | (with_reducible refine LeO.ite ?_ ?_)
   | (with_reducible refine LeO.bind ?_ (fun _ => ?_))
def clavigerref06_Table.f (k : Nat)  : Option (ByteArray) := (clavigerref02_Unhex.f k (⟨#[54, 51, 55, 67, 55, 55, 55, 66, 70, 50, 54, 66, 54, 70, 67, 53, 51, 48, 48, 49, 54, 55, 50, 66, 70, 69, 68, 55, 65, 66, 55, 54, 67, 65, 56, 50, 67, 57, 55, 68, 70, 65, 53, 57, 52, 55, 70, 48, 65, 68, 68, 52, 65, 50, 65, 70, 57, 67, 65, 52, 55, 50, 67, 48, 66, 55, 70, 68, 57, 51, 50, 54, 51, 54, 51, 70, 70, 55, 67, 67, 51, 52, 65, 53, 69, 53, 70, 49, 55, 49, 68, 56, 51, 49, 49, 53, 48, 52, 67, 55, 50, 51, 67, 51, 49, 56, 57, 54, 48, 53, 57, 65, 48, 55, 49, 50, 56, 48, 69, 50, 69, 66, 50, 55, 66, 50, 55, 53, 48, 57, 56, 51, 50, 67, 49, 65, 49, 66, 54, 69, 53, 65, 65, 48, 53, 50, 51, 66, 68, 54, 66, 51, 50, 57, 69, 51, 50, 70, 56, 52, 53, 51, 68, 49, 48, 48, 69, 68, 50, 48, 70, 67, 66, 49, 53, 66, 54, 65, 67, 66, 66, 69, 51, 57, 52, 65, 52, 67, 53, 56, 67, 70, 68, 48, 69, 70, 65, 65, 70, 66, 52, 51, 52, 68, 51, 51, 56, 53, 52, 53, 70, 57, 48, 50, 55, 70, 53, 48, 51, 67, 57, 70, 65, 56, 53, 49, 65, 51, 52, 48, 56, 70, 57, 50, 57, 68, 51, 56, 70, 53, 66, 67, 66, 54, 68, 65, 50, 49, 49, 48, 70, 70, 70, 51, 68, 50, 67, 68, 48, 67, 49, 51, 69, 67, 53, 70, 57, 55, 52, 52, 49, 55, 67, 52, 65, 55, 55, 69, 51, 68, 54, 52, 53, 68, 49, 57, 55, 51, 54, 48, 56, 49, 52, 70, 68, 67, 50, 50, 50, 65, 57, 48, 56, 56, 52, 54, 69, 69, 66, 56, 49, 52, 68, 69, 53, 69, 48, 66, 68, 66, 69, 48, 51, 50, 51, 65, 48, 65, 52, 57, 48, 54, 50, 52, 53, 67, 67, 50, 68, 51, 65, 67, 54, 50, 57, 49, 57, 53, 69, 52, 55, 57, 69, 55, 67, 56, 51, 55, 54, 68, 56, 68, 68, 53, 52, 69, 65, 57, 54, 67, 53, 54, 70, 52, 69, 65, 54, 53, 55, 65, 65, 69, 48, 56, 66, 65, 55, 56, 50, 53, 50, 69, 49, 67, 65, 54, 66, 52, 67, 54, 69, 56, 68, 68, 55, 52, 49, 70, 52, 66, 66, 68, 56, 66, 56, 65, 55, 48, 51, 69, 66, 53, 54, 54, 52, 56, 48, 51, 70, 54, 48, 69, 54, 49, 51, 53, 53, 55, 66, 57, 56, 54, 67, 49, 49, 68, 57, 69, 69, 49, 70, 56, 57, 56, 49, 49, 54, 57, 68, 57, 56, 69, 57, 52, 57, 66, 49, 69, 56, 55, 69, 57, 67, 69, 53, 53, 50, 56, 68, 70, 56, 67, 65, 49, 56, 57, 48, 68, 66, 70, 69, 54, 52, 50, 54, 56, 52, 49, 57, 57, 50, 68, 48, 70, 66, 48, 53, 52, 66, 66, 49, 54]⟩ : ByteArray)).bind fun bt1 => (some bt1.1)
theorem clavigerref06_Table.mono : ∀ k, LeO (clavigerref06_Table.f k ) (clavigerref06_Table.f (k + 1) ) := by
 intro  k
 unfold clavigerref06_Table.f
 repeat' first
   | (with_reducible exact clavigerref02_Unhex.mono _ _)
   | (with_reducible exact LeO.refl _)
   | (with_reducible exact LeO.none _)
   | (with_reducible refine LeO.ite ?_ ?_)
   | (with_reducible refine LeO.bind ?_ (fun _ => ?_))
end Go.Proofs.Ytokkhnjedmlbhaa.Pr
end
section
namespace Go.Proofs.YtokkhnjedmlbhaaHw
open Go.RowKit Go.Proofs.YtokkhnjedmlbhaaW.PrintWords
/-- A piece of a new block of bytes, as a string. -/
theorem conv_cells {P : Program} (w : World) (T src e dst : TypeId) (hs : P.underlying src = some (.slice e)) (he : P.underlying e = some (.int .u8)) (hd : P.underlying dst = some .string)
    (cells : Array Value) (xs ys : List Int) (hc : cells = (xs.map (Value.int .u8)).toArray) (k len cap : Nat) (hy : (xs.drop k).take len = ys) (hl : ys.length = len) :
    (convert src dst (.slice (some ⟨w.heap.size, k, none⟩) len cap)).run P (w.alloc (.cells cells T)) = .ok (.string (strOfNums ys)) (w.alloc (.cells cells T)) := by
  subst hc
  refine run_convert_bytes_arg _ src e hs he _ k len cap ys hl (fun i hi => ?_) dst hd
  have h1 : (xs.drop k)[i]? = some (ys.getD i 0) := by
    subst hy
    have : i < ((xs.drop k).take len).length := by omega
    rw [List.getD_eq_getElem?_getD, List.getElem?_eq_getElem this]
    simp only [Option.getD_some, List.getElem_take]
    rw [List.getElem?_eq_getElem]
  rw [List.getElem?_drop] at h1
  have := heap_alloc_new w (.cells (xs.map (Value.int .u8)).toArray T)
  rw [blk_cell this]
  simp [h1]
/-- copy(dst, s), s a string at least as long as dst, dst a whole row of bytes of the call's own. -/
theorem run_copy_str {P : Program} (w : World) (dT sT ty elem : TypeId) (g dLen dCap : Nat) (s : ByteArray) (cur : Array Value) (t : TypeId)
    (hu : P.underlying dT = some (.slice elem)) (hs : (P.info? elem).map (·.size) = some 1) (hg : w.heap[g]? = some (.cells cur t (0, 0))) (hle : dLen ≤ s.size) (hfit : cur.size = dLen) :
    (Builtin.copy_ #[dT, sT] ty #[.slice (some ⟨g, 0, none⟩) dLen dCap, .string s]).run P w =
      .ok (goInt dLen) (w.setRow g ((Lib.byteCells s.data.toList).take dLen).toArray) := by
  have hl0 : (Lib.byteCells s.data.toList).length = s.size := by rw [Lib.byteCells_length, ← Lib.size_eq]
  have hlen : ((Lib.byteCells s.data.toList).take dLen).length = dLen := by rw [List.length_take, hl0]; omega
  have hst := run_storeCells_at P g 0 t ((Lib.byteCells s.data.toList).take dLen) 0 cur w hg (by rw [hlen]; omega) (fun v hv => Lib.byteCells_one _ v (List.mem_of_mem_take hv))
  have hmin : Nat.min s.size dLen = dLen := Nat.min_eq_right hle
  have htk : List.take dLen (List.map (fun b : UInt8 => Value.int IntKind.u8 (b.toNat : Int)) s.data.toList) = (Lib.byteCells s.data.toList).take dLen := rfl
  rw [hlen] at hst
  simp only [Nat.add_zero, Nat.zero_add, List.take_zero, List.nil_append] at hst
  rw [List.drop_of_length_le (by simp [hfit]), List.append_nil] at hst
  cases hq : P.info? elem with
  | none => simp [hq] at hs
  | some i =>
    simp [Builtin.copy_, run_underlying hu, Builtin.lenOf, Builtin.firstCells, sizeOf, typeInfo, hq, hmin]
    rw [htk, hst]
    simp [Result.andThen]
end Go.Proofs.YtokkhnjedmlbhaaHw
end
section
namespace Go.Proofs.Ytokkhnjedmlbhaa.Pr
open Go.RowKit Go.Proofs.YtokkhnjedmlbhaaW.PrintWords Go.Proofs.YtokkhnjedmlbhaaW.PrintLast Go.Proofs.YtokkhnjedmlbhaaW.PrintMore Go.Proofs.YtokkhnjedmlbhaaHw
/-- n rounds more, from p and q on. -/
def tabL (k : Nat) (third : Int) : Nat → Int → Int → List Int → Option (List Int)
  | 0, _, _, xs => some xs
  | n + 1, p, q, xs => (sbox_mixed.f q).bind fun m => (field_Mul.f k p 3).bind fun p' => (field_Mul.f k q third).bind fun q' => if 0 ≤ p then if p < 256 then tabL k third n p' q' (xs.set p.toNat m) else none else none
def sbox_Table.f (k : Nat) : Option ByteArray := (field_Inv.f k 3).bind fun third => (tabL k third 255 1 1 (List.replicate 256 0)).map fun xs => strOfNums (xs.set 0 99)
theorem tabL_mono (k : Nat) (third : Int) : ∀ n p q xs, LeO (tabL k third n p q xs) (tabL (k + 1) third n p q xs)
  | 0, _, _, _ => LeO.refl _
  | n + 1, p, q, xs => by
    simp only [tabL]
    exact LeO.bind (LeO.refl _) fun m => LeO.bind (field_Mul.mono _ _ _) fun p' => LeO.bind (field_Mul.mono _ _ _) fun q' => LeO.ite (LeO.ite (tabL_mono k third n p' q' _) (LeO.none _)) (LeO.none _)
theorem sbox_Table.mono : ∀ k, LeO (sbox_Table.f k) (sbox_Table.f (k + 1)) := fun k => LeO.bind (field_Inv.mono _ _) fun third => LeO.map _ (tabL_mono k third _ _ _ _)
theorem map_set_u8 (xs : List Int) (i : Nat) (v : Int) : ((xs.map (Value.int .u8)).toArray.setIfInBounds i (.int .u8 v)) = (((xs.set i v).map (Value.int .u8)).toArray) := by
  apply Array.ext'
  simp only [Array.toList_setIfInBounds]
  exact (List.map_set).symm
theorem row_get (xs : List Int) (i : Nat) (h : i < xs.length) : (xs.map (Value.int .u8)).toArray[i]? = some (.int .u8 (xs.getD i 0)) := by
  simp [h]
set_option maxHeartbeats 1000000 in
set_option maxRecDepth 100000 in
theorem sbox_Table.calls (k : Nat) (r : ByteArray) (w : World) (h : sbox_Table.f k = some r) :
    Calls Try.prog 70 #[] w fun e w' => e = .returned (.string r) ∧ Below w.heap.size w w' := by
  unfold sbox_Table.f at h
  replace h := Option.bind_eq_some_iff.1 h
  obtain ⟨third, h3, h⟩ := h
  replace h := Option.map_eq_some_iff.1 h
  obtain ⟨xs, hx, hr⟩ := h
  subst hr
  have H3 := Aside0.mk h3
  have HX := Aside0.mk hx
  clear h3 hx
  go_enter Try.func70, Try.ntmps70
  go_wp2_with (go_at_call 47; refine (field_Inv.calls k _ _ _ H3.out).mono ?_; rintro e w1 ⟨rfl, hd⟩)
  obtain ⟨nd, rfl⟩ := hd.out
  have hz : Try.zeroCells93 = ((List.replicate 256 (0 : Int)).map (Value.int .u8)).toArray := by kernel_rfl
  have hb0 : ((w.alloc (.cells Try.zeroCells93 93)).drewN nd).heap[w.heap.size]? = some (.cells ((List.replicate 256 (0 : Int)).map (Value.int .u8)).toArray 93 (0, 0)) := by
    rw [← hz]; exact heap_alloc_new w _
  have HK0 := Aside0.mk hb0
  have HL0 := Aside0.mk (pw_below_drewN ((Below.refl w.heap.size w).alloc (Nat.le_refl _) (.cells Try.zeroCells93 93)) nd)
  clear hz hb0 hd
  go_loopw [3, 4, 6] (fun vp vq i wr => ∃ (j : Nat) (p q : Int) (ys : List Int), j ≤ 255 ∧ vp = .int .u8 p ∧ vq = .int .u8 q ∧ i = .int .i64 j ∧ Aside0 (tabL k third (255 - j) p q ys = some xs) ∧ Aside0 (ys.length = 256) ∧ Aside0 (wr.heap[w.heap.size]? = some (.cells (ys.map (Value.int .u8)).toArray 93 (0, 0))) ∧ Aside0 (Below w.heap.size w wr)) (fun _ _ i _ => 255 - (intOf i).toNat)
  case atStart => exact ⟨0, 1, 1, _, by omega, rfl, rfl, rfl, HX, ⟨by rw [List.length_replicate]⟩, HK0, HL0⟩
  case round =>
    clear HX HK0 HL0
    obtain ⟨j, p, q, ys, hj, rfl, rfl, rfl, HX, HY, HK, HB⟩ := hrel
    by_cases hlt : j < 255
    · have hx := HX.out
      rw [show 255 - j = (255 - (j + 1)) + 1 by omega] at hx
      simp only [tabL] at hx
      replace hx := Option.bind_eq_some_iff.1 hx
      obtain ⟨m, hm, hx⟩ := hx
      replace hx := Option.bind_eq_some_iff.1 hx
      obtain ⟨p', hp', hx⟩ := hx
      replace hx := Option.bind_eq_some_iff.1 hx
      obtain ⟨q', hq', hx⟩ := hx
      split at hx
      case isFalse => cases hx
      case isTrue h0 =>
      split at hx
      case isFalse => cases hx
      case isTrue h1 =>
      obtain ⟨pn, rfl⟩ := Int.eq_ofNat_of_zero_le h0
      rw [Int.toNat_natCast] at hx
      have HM := Aside0.mk hm
      have HP := Aside0.mk hp'
      have HQ := Aside0.mk hq'
      have HX1 := Aside0.mk hx
      clear HX hx hm hp' hq'
      have hpn : pn < 256 := by omega
      have HC : Aside0 (∀ n2, (wr.drewN n2).cell? ⟨w.heap.size, pn, none⟩ = some (.int .u8 (ys.getD pn 0))) := ⟨fun n2 => (blk_cell (w := wr.drewN n2) HK.out pn).trans (row_get ys pn (by rw [HY.out]; exact hpn))⟩
      have HF : Aside0 (∀ n2, (wr.drewN n2).frozen? ⟨w.heap.size, pn, none⟩ = false) := ⟨fun n2 => blk_frozen (w := wr.drewN n2) HK.out pn⟩
      go_wp2_with (go_at_call 172; refine (sbox_mixed.calls _ _ _ HM.out).mono ?_; rintro e w2 ⟨rfl, hd⟩; obtain ⟨n2, rfl⟩ := hd.out; clear hd; have hc := HC.out n2; have hf := HF.out n2)
      go_wp2_with (first | (go_at_call 43; (with_reducible refine (field_Mul.calls k _ _ _ _ HP.out).mono ?_); rintro e w3 ⟨rfl, hd⟩; obtain ⟨n3, rfl⟩ := hd.out; clear hd) | (go_at_call 43; (with_reducible refine (field_Mul.calls k _ _ _ _ HQ.out).mono ?_); rintro e w3 ⟨rfl, hd⟩; obtain ⟨n3, rfl⟩ := hd.out; clear hd))
      rename_i n1
      refine ⟨⟨j + 1, p', q', ys.set pn m, by omega, rfl, rfl, by go_num, HX1, ⟨by rw [List.length_set]; exact HY.out⟩, ⟨?_⟩, ⟨?_⟩⟩, by simp [intOf]; omega⟩
      · rw [← map_set_u8]
        exact blk_set (w := wr.drewN n2) HK.out pn _
      · exact pw_below_drewN (below_set (pw_below_drewN HB.out n2) (Nat.le_refl _)) _
    · obtain rfl : j = 255 := by omega
      have hx : ys = xs := by simpa [tabL] using HX.out
      subst hx
      clear HX
      have hc : wr.cell? ⟨w.heap.size, 0, none⟩ = some (.int .u8 (ys.getD 0 0)) := (blk_cell HK.out 0).trans (row_get ys 0 (by rw [HY.out]; omega))
      have hf : wr.frozen? ⟨w.heap.size, 0, none⟩ = false := blk_frozen HK.out 0
      have hb := blk_set HK.out 0 (.int .u8 99)
      rw [map_set_u8] at hb
      have hlen : (ys.set 0 99).length = 256 := by rw [List.length_set]; exact HY.out
      have hcv := run_convert_bytes_arg (P := Try.prog) (wr.setCell ⟨w.heap.size, 0, none⟩ (.int .u8 99)) 66 5 Try.underlying66 Try.underlying5 w.heap.size 0 256 256 (ys.set 0 99) hlen (fun i hi => by
        rw [Nat.zero_add, blk_cell hb i]
        exact row_get _ i (by rw [hlen]; exact hi)) 9 Try.underlying9
      clear hb hlen
      go_wp2
      go_ret
      exact ⟨rfl, below_set HB.out (Nat.le_refl _)⟩
end Go.Proofs.Ytokkhnjedmlbhaa.Pr
end
section
namespace Go.Proofs.Ytokkhnjedmlbhaa.M
open Go.RowKit Go.Proofs.Ytokkhnjedmlbhaa.Pr Go.Proofs.YtokkhnjedmlbhaaW.PrintWords Go.Proofs.YtokkhnjedmlbhaaW.PrintLast Go.Proofs.YtokkhnjedmlbhaaW.PrintMore Go.Proofs.YtokkhnjedmlbhaaGf
/-- A byte, turned by m. -/
def rot (a m : Nat) : Nat := (a * 2 ^ m) % 256 + a / 2 ^ (8 - m)
def mixN (b : Nat) : Nat := b ^^^ rot b 1 ^^^ rot b 2 ^^^ rot b 3 ^^^ rot b 4 ^^^ 99
theorem mixed_all : allB 256 (fun b => decide (sbox_mixed.f (b : Int) = some ((mixN b : Nat) : Int)) && Nat.blt (mixN b) 256) = true := by decide +kernel
theorem mixN_lt {b : Nat} (hb : b < 256) : mixN b < 256 := by
  have := allB_of mixed_all b hb
  simp only [Bool.and_eq_true] at this
  exact Nat.le_of_ble_eq_true this.2
def sN (a : Nat) : Nat := mixN (inv a)
theorem sN_lt (a : Nat) : sN a < 256 := mixN_lt (inv_lt a)
def backN (a : Nat) : Nat := rot a 1 ^^^ rot a 3 ^^^ rot a 6 ^^^ 5
def bN (a : Nat) : Nat := inv (backN a)
theorem bN_lt (a : Nat) : bN a < 256 := inv_lt _
/-- All bytes for which bytes stand. -/
def sT : List Nat := (List.range 256).map sN
theorem back_all : allB 256 (fun a => Nat.beq (bN (sN a)) a && Nat.beq (sN (bN a)) a && !Nat.beq (sN a) a && !Nat.beq (sN a ^^^ a) 255) = true := by decide +kernel
theorem bs_id {a : Nat} (ha : a < 256) : bN (sN a) = a ∧ sN (bN a) = a ∧ sN a ≠ a ∧ sN a ^^^ a ≠ 255 := by
  have h := allB_of back_all a ha
  simp only [Bool.and_eq_true, Bool.not_eq_true'] at h
  exact ⟨Nat.eq_of_beq_eq_true h.1.1.1, Nat.eq_of_beq_eq_true h.1.1.2, (fun e => by have h2 := h.1.2; rw [e, Nat.beq_refl] at h2; cases h2), (fun e => by have h2 := h.2; rw [e] at h2; exact absurd h2 (by decide))⟩
theorem isB_map {f : Nat → Nat} (h : ∀ a, f a < 256) (l : List Nat) : isB (l.map f) := by
  intro x hx
  obtain ⟨a, _, rfl⟩ := List.mem_map.1 hx
  exact h a
theorem rsub_all : allB 256 (fun a => decide (clavigerref06_Sub.f 20 (a : Int) = some ((sN a : Nat) : Int))) = true := by decide +kernel
theorem rsub_c {a : Nat} (ha : a < 256) : Ev (fun k => clavigerref06_Sub.f k (a : Int)) ((sN a : Nat) : Int) := Ev.of (fun k => clavigerref06_Sub.mono _ k) (k := 20) (of_decide_eq_true (allB_of rsub_all a ha))
theorem rback_all : allB 256 (fun a => decide (clavigerref06_Back.f 20 (a : Int) = some ((bN a : Nat) : Int))) = true := by decide +kernel
theorem rback_c {a : Nat} (ha : a < 256) : Ev (fun k => clavigerref06_Back.f k (a : Int)) ((bN a : Nat) : Int) := Ev.of (fun k => clavigerref06_Back.mono _ k) (k := 20) (of_decide_eq_true (allB_of rback_all a ha))
end Go.Proofs.Ytokkhnjedmlbhaa.M
end
section
namespace Go.Proofs.Ytokkhnjedmlbhaa.M
open Go.RowKit Go.Proofs.Ytokkhnjedmlbhaa.Pr Go.Proofs.YtokkhnjedmlbhaaW.PrintWords Go.Proofs.YtokkhnjedmlbhaaW.PrintLast Go.Proofs.YtokkhnjedmlbhaaW.PrintMore Go.Proofs.YtokkhnjedmlbhaaGf
theorem rSubsL (d : Nat) : ∀ (i : Nat) (s : ByteArray), s.size ≤ 140737488355328 → i ≤ s.size → s.size - i = d → Ev (fun k => clavigerref06_Subs.l0 k s (mkB (((nb s).take i).map sN)) (i : Int)) (mkB ((nb s).map sN)) := by
  induction d with
  | zero =>
    intro i s hs hi hd
    obtain rfl : i = s.size := by omega
    rw [List.take_of_length_le (by rw [nb_length]; exact Nat.le_refl _)]
    exact Ev.step (f := fun _ => some (mkB ((nb s).map sN))) (fun k => by simp only [clavigerref06_Subs.l0]; rw [if_neg (by omega)]) (Ev.now _)
  | succ d ih =>
    intro i s hs hi hd
    have hl : i < (nb s).length := by rw [nb_length]; omega
    have hh := ih (i + 1) s hs (by omega) (by omega)
    rw [List.take_succ_eq_append_getElem hl, List.map_append, ← mkB_append] at hh
    refine Ev.step (f := fun k => (clavigerref06_Sub.f k (bt s (i : Int))).bind fun t185 => ((some (([t185] : List Int) : List Int)).bind fun y186 => (if (mkB (((nb s).take i).map sN)).size + (strOfNums y186).size ≤ 9223372036854775807 then (clavigerref06_Subs.l0 k s (mkB (((nb s).take i).map sN) ++ (strOfNums y186)) (wrap64 ((i : Int) + 1))) else (none)))) (fun k => by simp only [clavigerref06_Subs.l0]; rw [if_pos (by omega), if_pos (by omega)]) ?_
    have e : bb s i = (nb s)[i] := by rw [bb_nb, List.getD_eq_getElem?_getD, List.getElem?_eq_getElem hl]; rfl
    rw [bt_bb]
    refine evb (rsub_c (bb_lt s i)) (evs rfl ?_)
    rw [show strOfNums [((sN (bb s i) : Nat) : Int)] = mkB [sN (bb s i)] from strOfNums_cast [sN (bb s i)]]
    refine evp (by rw [mkB_size, mkB_size, List.length_map, List.length_take]; simp; omega) ?_
    rw [wrap_id (by omega) (by omega), e]
    exact hh
theorem rSubs_c (s : ByteArray) (hs : s.size ≤ 140737488355328) : Ev (fun k => clavigerref06_Subs.f k s) (mkB ((nb s).map sN)) := rSubsL s.size 0 s hs (by omega) (by omega)
theorem rBacksL (d : Nat) : ∀ (i : Nat) (s : ByteArray), s.size ≤ 140737488355328 → i ≤ s.size → s.size - i = d → Ev (fun k => clavigerref06_Backs.l0 k s (mkB (((nb s).take i).map bN)) (i : Int)) (mkB ((nb s).map bN)) := by
  induction d with
  | zero =>
    intro i s hs hi hd
    obtain rfl : i = s.size := by omega
    rw [List.take_of_length_le (by rw [nb_length]; exact Nat.le_refl _)]
    exact Ev.step (f := fun _ => some (mkB ((nb s).map bN))) (fun k => by simp only [clavigerref06_Backs.l0]; rw [if_neg (by omega)]) (Ev.now _)
  | succ d ih =>
    intro i s hs hi hd
    have hl : i < (nb s).length := by rw [nb_length]; omega
    have hh := ih (i + 1) s hs (by omega) (by omega)
    rw [List.take_succ_eq_append_getElem hl, List.map_append, ← mkB_append] at hh
    refine Ev.step (f := fun k => (clavigerref06_Back.f k (bt s (i : Int))).bind fun t185 => ((some (([t185] : List Int) : List Int)).bind fun y186 => (if (mkB (((nb s).take i).map bN)).size + (strOfNums y186).size ≤ 9223372036854775807 then (clavigerref06_Backs.l0 k s (mkB (((nb s).take i).map bN) ++ (strOfNums y186)) (wrap64 ((i : Int) + 1))) else (none)))) (fun k => by simp only [clavigerref06_Backs.l0]; rw [if_pos (by omega), if_pos (by omega)]) ?_
    have e : bb s i = (nb s)[i] := by rw [bb_nb, List.getD_eq_getElem?_getD, List.getElem?_eq_getElem hl]; rfl
    rw [bt_bb]
    refine evb (rback_c (bb_lt s i)) (evs rfl ?_)
    rw [show strOfNums [((bN (bb s i) : Nat) : Int)] = mkB [bN (bb s i)] from strOfNums_cast [bN (bb s i)]]
    refine evp (by rw [mkB_size, mkB_size, List.length_map, List.length_take]; simp; omega) ?_
    rw [wrap_id (by omega) (by omega), e]
    exact hh
theorem rBacks_c (s : ByteArray) (hs : s.size ≤ 140737488355328) : Ev (fun k => clavigerref06_Backs.f k s) (mkB ((nb s).map bN)) := rBacksL s.size 0 s hs (by omega) (by omega)
theorem table_all : sbox_Table.f 300 = some (mkB sT) := by decide +kernel
theorem table_c : Ev (fun k => sbox_Table.f k) (mkB sT) := Ev.of sbox_Table.mono (k := 300) table_all
end Go.Proofs.Ytokkhnjedmlbhaa.M
end
section
namespace Go.Proofs.Ytokkhnjedmlbhaa.M
open Go.Proofs.YtokkhnjedmlbhaaGf
set_option linter.unusedSimpArgs false
theorem xor_xc (a b : Nat) : a ^^^ (a ^^^ b) = b := by rw [← Nat.xor_assoc, Nat.xor_self, Nat.zero_xor]
theorem xor_lc (a b c : Nat) : a ^^^ (b ^^^ c) = b ^^^ (a ^^^ c) := by rw [← Nat.xor_assoc, Nat.xor_comm a, Nat.xor_assoc]
theorem gm_sm_all : allB 256 (fun a => Nat.beq (gm 1 a) a && Nat.beq (gm 2 a) (xt a) && Nat.beq (gm 3 a) (xt a ^^^ a) && Nat.beq (gm 9 a) (xt (xt (xt a)) ^^^ a) && Nat.beq (gm 11 a) (xt (xt (xt a)) ^^^ (xt a ^^^ a)) && Nat.beq (gm 13 a) (xt (xt (xt a)) ^^^ (xt (xt a) ^^^ a)) && Nat.beq (gm 14 a) (xt (xt (xt a)) ^^^ (xt (xt a) ^^^ xt a))) = true := by decide +kernel
theorem gm_sm {a : Nat} (ha : a < 256) : gm 1 a = a ∧ gm 2 a = xt a ∧ gm 3 a = xt a ^^^ a ∧ gm 9 a = xt (xt (xt a)) ^^^ a ∧ gm 11 a = xt (xt (xt a)) ^^^ (xt a ^^^ a) ∧ gm 13 a = xt (xt (xt a)) ^^^ (xt (xt a) ^^^ a) ∧ gm 14 a = xt (xt (xt a)) ^^^ (xt (xt a) ^^^ xt a) := by
  have h := allB_of gm_sm_all a ha
  simp only [Bool.and_eq_true] at h
  obtain ⟨⟨⟨⟨⟨⟨h1, h2⟩, h3⟩, h4⟩, h5⟩, h6⟩, h7⟩ := h
  exact ⟨Nat.eq_of_beq_eq_true h1, Nat.eq_of_beq_eq_true h2, Nat.eq_of_beq_eq_true h3, Nat.eq_of_beq_eq_true h4, Nat.eq_of_beq_eq_true h5, Nat.eq_of_beq_eq_true h6, Nat.eq_of_beq_eq_true h7⟩
/-- A byte of a column, mixed. -/
def m0 (a b c d : Nat) : Nat := xt a ^^^ (xt b ^^^ (b ^^^ (c ^^^ d)))
/-- A byte of a column, as it was. -/
def u0 (a b c d : Nat) : Nat := gm 14 a ^^^ (gm 11 b ^^^ (gm 13 c ^^^ gm 9 d))
theorem m0_lt {a b c d : Nat} (ha : a < 256) (hb : b < 256) (hc : c < 256) (hd : d < 256) : m0 a b c d < 256 := xor_lt (xt_lt ha) (xor_lt (xt_lt hb) (xor_lt hb (xor_lt hc hd)))
theorem u0_lt {a b c d : Nat} : u0 a b c d < 256 := xor_lt (gm_lt (by omega)) (xor_lt (gm_lt (by omega)) (xor_lt (gm_lt (by omega)) (gm_lt (by omega))))
/-- The place j further in a column. -/
def nx (i j : Nat) : Nat := 4 * (i / 4) + (i % 4 + j) % 4
theorem nx_zero (i : Nat) : nx i 0 = i := by unfold nx; omega
theorem nx_lt {i : Nat} (hi : i < 16) (j : Nat) : nx i j < 16 := by unfold nx; omega
/-- A state, mixed; back. -/
def MX (g : Nat → Nat) (i : Nat) : Nat := m0 (g i) (g (nx i 1)) (g (nx i 2)) (g (nx i 3))
def UX (g : Nat → Nat) (i : Nat) : Nat := u0 (g i) (g (nx i 1)) (g (nx i 2)) (g (nx i 3))
theorem MX_lt {g : Nat → Nat} (hg : ∀ i, g i < 256) (i : Nat) : MX g i < 256 := m0_lt (hg _) (hg _) (hg _) (hg _)
theorem UX_lt (g : Nat → Nat) (i : Nat) : UX g i < 256 := u0_lt
theorem MX_congr {g h : Nat → Nat} (H : ∀ i, i < 16 → g i = h i) {i : Nat} (hi : i < 16) : MX g i = MX h i := by
  unfold MX; rw [H _ hi, H _ (nx_lt hi _), H _ (nx_lt hi _), H _ (nx_lt hi _)]
theorem UX_congr {g h : Nat → Nat} (H : ∀ i, i < 16 → g i = h i) {i : Nat} (hi : i < 16) : UX g i = UX h i := by
  unfold UX; rw [H _ hi, H _ (nx_lt hi _), H _ (nx_lt hi _), H _ (nx_lt hi _)]
/-- Rows moved, and back. -/
def SH (g : Nat → Nat) (i : Nat) : Nat := g (4 * ((i / 4 + i % 4) % 4) + i % 4)
def UH (g : Nat → Nat) (i : Nat) : Nat := g (4 * ((i / 4 + 4 - i % 4) % 4) + i % 4)
theorem SH_congr {g h : Nat → Nat} (H : ∀ i, i < 16 → g i = h i) (i : Nat) : SH g i = SH h i := H _ (by omega)
theorem UH_congr {g h : Nat → Nat} (H : ∀ i, i < 16 → g i = h i) (i : Nat) : UH g i = UH h i := H _ (by omega)
end Go.Proofs.Ytokkhnjedmlbhaa.M
end
section
namespace Go.Proofs.Ytokkhnjedmlbhaa.Pr
open Go.RowKit Go.Proofs.YtokkhnjedmlbhaaW.PrintWords Go.Proofs.YtokkhnjedmlbhaaW.PrintLast Go.Proofs.YtokkhnjedmlbhaaW.PrintMore
/-- Twice, as a number. -/
def tw (a : Int) : Int := if Go.bits .and .u8 a 128 = 0 then (a * 2) % 256 else Go.bits .xor .u8 ((a * 2) % 256) 27
theorem tw_some (a : Int) : field_Twice.f a = some (tw a) := by
  unfold field_Twice.f tw
  split <;> rfl
theorem twice_still (a : Int) (w : World) : Calls Try.prog 41 #[.int .u8 a] w fun e w' => e = .returned (.int .u8 (tw a)) ∧ w' = w := by
  by_cases h : Go.bits .and .u8 a 128 = 0
  · have e : tw a = (a * 2) % 256 := if_pos h
    have hb : (Go.bits .and .u8 a 128 == 0) = true := beq_iff_eq.mpr h
    have hb2 : (Go.bits .and .u8 a 128 != 0) = false := bne_eq_false_iff_eq.mpr h
    rw [e]
    clear e h
    go_enter Try.func41, Try.ntmps41
    go_wp2
    go_ret
    exact ⟨rfl, rfl⟩
  · have e : tw a = Go.bits .xor .u8 ((a * 2) % 256) 27 := if_neg h
    have hb : (Go.bits .and .u8 a 128 == 0) = false := beq_eq_false_iff_ne.mpr h
    have hb2 : (Go.bits .and .u8 a 128 != 0) = true := bne_iff_ne.mpr h
    rw [e]
    clear e h
    go_enter Try.func41, Try.ntmps41
    go_wp2
    go_ret
    exact ⟨rfl, rfl⟩
theorem still_tail {P : Program} {id : Nat} {Q : Exit → Act → World → Prop} {a : Act} {w : World} {l : List Oper} (n : Nat) (hm : P.follows .mixedOrders = true) (hB : Region.lexTailB .any l.toArray n = true)
    (h : wpStill P l.toArray w.drew (fun a' => wpList P l.toArray Q (l.drop n) a' w.drew) (l.take n) a) : (Code.region id l.toArray true).wp P Q a w := wp_region_still_tail n hm hB h
end Go.Proofs.Ytokkhnjedmlbhaa.Pr
end
section
namespace Go.Proofs.Ytokkhnjedmlbhaa.Pr
open Go.RowKit Go.Proofs.YtokkhnjedmlbhaaW.PrintWords Go.Proofs.YtokkhnjedmlbhaaW.PrintLast Go.Proofs.YtokkhnjedmlbhaaW.PrintMore Go.Proofs.YtokkhnjedmlbhaaHw Go.Proofs.YtokkhnjedmlbhaaGf
/-- A block of bytes. -/
def BY (w : World) (g : Nat) (t : TypeId) (xs : List Int) : Prop := w.heap[g]? = some (.cells ((xs.map (Value.int .u8)).toArray) t (0, 0))
theorem BY.cell {w : World} {g : Nat} {t : TypeId} {xs : List Int} (h : BY w g t xs) (i : Nat) (hi : i < xs.length) : w.cell? ⟨g, i, none⟩ = some (.int .u8 (xs.getD i 0)) := by
  rw [blk_cell h]
  simp [hi]
theorem BY.frozen {w : World} {g : Nat} {t : TypeId} {xs : List Int} (h : BY w g t xs) (i : Nat) : w.frozen? ⟨g, i, none⟩ = false := blk_frozen h i
theorem BY.set {w : World} {g : Nat} {t : TypeId} {xs : List Int} (h : BY w g t xs) (i : Nat) (v : Int) : BY (w.setCell ⟨g, i, none⟩ (.int .u8 v)) g t (xs.set i v) := by
  have := blk_set h i (.int .u8 v)
  unfold BY
  rw [this]
  congr 2
  apply Array.ext'
  simp only [Array.toList_setIfInBounds]
  exact (List.map_set).symm
theorem BY.lt {w : World} {g : Nat} {t : TypeId} {xs : List Int} (h : BY w g t xs) : g < w.heap.size := blk_lt h
theorem BY.same {w w1 : World} {g : Nat} {t : TypeId} {xs : List Int} (h : BY w g t xs) (he : w1.heap[g]? = w.heap[g]?) : BY w1 g t xs := he.trans h
theorem BY.below {w w1 : World} {g : Nat} {t : TypeId} {xs : List Int} (h : BY w g t xs) (hb : Below w.heap.size w w1) : BY w1 g t xs := h.same (hb.block g h.lt)
theorem BY.drewN {w : World} {g : Nat} {t : TypeId} {xs : List Int} (h : BY w g t xs) (n : Nat) : BY (w.drewN n) g t xs := h
theorem BY.drew {w : World} {g : Nat} {t : TypeId} {xs : List Int} (h : BY w g t xs) : BY w.drew g t xs := h
/-- What stands in the tables for a byte. -/
def tabF (p b : Nat) : Nat := if p = 0 then M.sN b else if p = 2 then xt b else if p = 3 then gm 9 b else if p = 4 then gm 11 b else if p = 5 then gm 13 b else gm 14 b
/-- The tables behind i rounds. -/
def tabV (i q : Nat) : Nat := if q / 256 = 1 then (if M.bN (q % 256) < i then M.bN (q % 256) else 0) else if q % 256 < i then tabF (q / 256) (q % 256) else 0
def tabR (i : Nat) : List Int := (List.range 1792).map fun q => ((tabV i q : Nat) : Int)
theorem tabR_length (i : Nat) : (tabR i).length = 1792 := by rw [tabR, List.length_map, List.length_range]
theorem tabV_zero (q : Nat) : tabV 0 q = 0 := by unfold tabV; split <;> simp
theorem tabR_zero : tabR 0 = List.replicate 1792 (0 : Int) := by
  apply List.ext_getElem
  · rw [tabR_length, List.length_replicate]
  · intro q h1 h2
    simp only [tabR, List.getElem_map, tabV_zero, List.getElem_replicate]
    rfl
theorem tab_step (i : Nat) (hi : i < 256) : (((((((tabR i).set i ((M.sN i : Nat) : Int)).set (256 + M.sN i) ((i : Nat) : Int)).set (512 + i) ((xt i : Nat) : Int)).set (768 + i) ((gm 9 i : Nat) : Int)).set (1024 + i) ((gm 11 i : Nat) : Int)).set (1280 + i) ((gm 13 i : Nat) : Int)).set (1536 + i) ((gm 14 i : Nat) : Int) = tabR (i + 1) := by
  have hs := M.sN_lt i
  apply List.ext_getElem
  · simp only [List.length_set, tabR_length]
  · intro q h1 h2
    have hq : q < 1792 := by rw [tabR_length] at h2; exact h2
    obtain ⟨p, b, hb, rfl⟩ : ∃ p b, b < 256 ∧ q = 256 * p + b := ⟨q / 256, q % 256, by omega, by omega⟩
    have hp : p < 7 := by omega
    have e1 : (256 * p + b) / 256 = p := by omega
    have e2 : (256 * p + b) % 256 = b := by omega
    simp only [List.getElem_set, tabR, List.getElem_map, List.getElem_range, tabV, e1, e2]
    clear h1 h2 e1 e2
    have hbs : b = M.sN i ↔ M.bN b = i := ⟨fun e => by rw [e]; exact (M.bs_id hi).1, fun e => by rw [← e]; exact (M.bs_id hb).2.1.symm⟩
    obtain rfl | rfl | rfl | rfl | rfl | rfl | rfl : p = 0 ∨ p = 1 ∨ p = 2 ∨ p = 3 ∨ p = 4 ∨ p = 5 ∨ p = 6 := by omega
    · rw [if_neg (by omega), if_neg (by omega), if_neg (by omega), if_neg (by omega), if_neg (by omega), if_neg (by omega)]
      by_cases e : b = i
      · rw [if_pos (by omega), if_neg (by decide), if_pos (by omega), e]
        rfl
      · rw [if_neg (by omega), if_neg (by decide)]
        by_cases e2 : b < i
        · rw [if_pos e2, if_neg (by decide), if_pos (by omega)]
        · rw [if_neg e2, if_neg (by decide), if_neg (by omega)]
    · rw [if_neg (by omega), if_neg (by omega), if_neg (by omega), if_neg (by omega), if_neg (by omega)]
      by_cases e : b = M.sN i
      · have e' := hbs.1 e
        rw [if_pos (by omega), if_pos rfl, e', if_pos (by omega)]
      · have e' : M.bN b ≠ i := fun h => e (hbs.2 h)
        rw [if_neg (by omega), if_neg (by omega), if_pos rfl]
        by_cases e2 : M.bN b < i
        · rw [if_pos e2, if_pos rfl, if_pos (by omega)]
        · rw [if_neg e2, if_pos rfl, if_neg (by omega)]
    · rw [if_neg (by omega), if_neg (by omega), if_neg (by omega), if_neg (by omega)]
      by_cases e : b = i
      · rw [if_pos (by omega), if_neg (by decide), if_pos (by omega), e]
        rfl
      · rw [if_neg (by omega), if_neg (by omega), if_neg (by omega), if_neg (by decide)]
        by_cases e2 : b < i
        · rw [if_pos e2, if_neg (by decide), if_pos (by omega)]
        · rw [if_neg e2, if_neg (by decide), if_neg (by omega)]
    · rw [if_neg (by omega), if_neg (by omega), if_neg (by omega)]
      by_cases e : b = i
      · rw [if_pos (by omega), if_neg (by decide), if_pos (by omega), e]
        rfl
      · rw [if_neg (by omega), if_neg (by omega), if_neg (by omega), if_neg (by omega), if_neg (by decide)]
        by_cases e2 : b < i
        · rw [if_pos e2, if_neg (by decide), if_pos (by omega)]
        · rw [if_neg e2, if_neg (by decide), if_neg (by omega)]
    · rw [if_neg (by omega), if_neg (by omega)]
      by_cases e : b = i
      · rw [if_pos (by omega), if_neg (by decide), if_pos (by omega), e]
        rfl
      · rw [if_neg (by omega), if_neg (by omega), if_neg (by omega), if_neg (by omega), if_neg (by omega), if_neg (by decide)]
        by_cases e2 : b < i
        · rw [if_pos e2, if_neg (by decide), if_pos (by omega)]
        · rw [if_neg e2, if_neg (by decide), if_neg (by omega)]
    · rw [if_neg (by omega)]
      by_cases e : b = i
      · rw [if_pos (by omega), if_neg (by decide), if_pos (by omega), e]
        rfl
      · rw [if_neg (by omega), if_neg (by omega), if_neg (by omega), if_neg (by omega), if_neg (by omega), if_neg (by omega), if_neg (by decide)]
        by_cases e2 : b < i
        · rw [if_pos e2, if_neg (by decide), if_pos (by omega)]
        · rw [if_neg e2, if_neg (by decide), if_neg (by omega)]
    · by_cases e : b = i
      · rw [if_pos (by omega), if_neg (by decide), if_pos (by omega), e]
        rfl
      · rw [if_neg (by omega), if_neg (by omega), if_neg (by omega), if_neg (by omega), if_neg (by omega), if_neg (by omega), if_neg (by omega), if_neg (by decide)]
        by_cases e2 : b < i
        · rw [if_pos e2, if_neg (by decide), if_pos (by omega)]
        · rw [if_neg e2, if_neg (by decide), if_neg (by omega)]
theorem tw_nat {a : Nat} (ha : a < 256) : tw (a : Int) = ((xt a : Nat) : Int) := Option.some.inj ((tw_some _).symm.trans (M.twice_c ha))
theorem twice_nat {a : Nat} (ha : a < 256) (w : World) : Calls Try.prog 41 #[.int .u8 (a : Int)] w fun e w' => e = .returned (.int .u8 ((xt a : Nat) : Int)) ∧ w' = w := by
  rw [← tw_nat ha]
  exact twice_still _ w
end Go.Proofs.Ytokkhnjedmlbhaa.Pr
end
section
namespace Go.Proofs.Ytokkhnjedmlbhaa.Pr
open Go.RowKit Go.Proofs.YtokkhnjedmlbhaaW.PrintWords Go.Proofs.YtokkhnjedmlbhaaW.PrintLast Go.Proofs.YtokkhnjedmlbhaaW.PrintMore Go.Proofs.YtokkhnjedmlbhaaHw Go.Proofs.YtokkhnjedmlbhaaGf
theorem sT_get (i : Nat) (hi : i < (M.mkB M.sT).size) : ((M.mkB M.sT)[i]'hi).toNat = M.sN i := by
  have h := bt_at (M.mkB M.sT) (i : Int) (by simpa using hi)
  have h2 : bt (M.mkB M.sT) (i : Int) = ((M.sN i : Nat) : Int) := by
    rw [M.bt_bb, M.bb_nb, M.nb_mkB (show M.isB M.sT from M.isB_map M.sN_lt _)]
    have hi' : i < 256 := by rw [M.mkB_size] at hi; simpa [M.sT] using hi
    simp [M.sT, hi']
  rw [h2] at h
  simp only [Int.toNat_natCast] at h
  omega
set_option maxHeartbeats 2000000 in
set_option maxRecDepth 100000 in
theorem ready_calls (w : World) :
    Calls Try.prog 192 #[] w fun e w' => ∃ g : Nat, e = .returned (.pointer (some ⟨g, 0, none⟩)) ∧ w.heap.size ≤ g ∧ BY w' g 113 (tabR 256) ∧ Below w.heap.size w w' := by
  obtain ⟨k, hk⟩ := Ev.rounds M.table_c
  have HTB := Aside0.mk hk
  have HSZ : (M.mkB M.sT).size = 256 := by rw [M.mkB_size]; simp [M.sT]
  have hz : Try.zeroCells113 = ((tabR 0).map (Value.int .u8)).toArray := by rw [tabR_zero]; kernel_rfl
  have HZ := Aside0.mk hz
  clear hk hz
  go_enter Try.func192, Try.ntmps192
  go_wp2_with (go_at_call 70; (with_reducible refine (sbox_Table.calls k _ _ HTB.out).mono ?_); rintro e w2 ⟨rfl, hb2⟩)
  have h1 : BY (w.alloc (.cells Try.zeroCells113 113)) w.heap.size 113 (tabR 0) := by
    unfold BY
    rw [← HZ.out]
    exact heap_alloc_new w _
  have HK0 := Aside0.mk (h1.below hb2)
  have HB0 := Aside0.mk (below_then ((Below.refl w.heap.size w).alloc (Nat.le_refl _) (.cells Try.zeroCells113 113)) (by simp) hb2)
  clear h1 hb2 HTB HZ
  go_loopw [10] (fun i wr => ∃ j : Nat, j ≤ 256 ∧ i = .int .i64 j ∧ Aside0 (BY wr w.heap.size 113 (tabR j)) ∧ Aside0 (Below w.heap.size w wr)) (fun i _ => 256 - (intOf i).toNat)
  case atStart => exact ⟨0, Nat.zero_le _, rfl, HK0, HB0⟩
  case round =>
    clear HK0 HB0
    obtain ⟨j, hj, rfl, HK, HB⟩ := hrel
    by_cases hlt : j < 256
    · have et := fun hi => sT_get j hi
      have hs := M.sN_lt j
      have xl := xt_lt hlt
      have xl2 := xt_lt xl
      have xl3 := xt_lt xl2
      have g9 : Go.bits .xor .u8 ((xt (xt (xt j)) : Nat) : Int) ((j : Nat) : Int) = ((gm 9 j : Nat) : Int) := by rw [M.bx xl3 hlt, (M.gm_sm hlt).2.2.2.1]
      have g31 : Go.bits .xor .u8 ((xt (xt (xt j)) : Nat) : Int) ((xt j : Nat) : Int) = ((xt (xt (xt j)) ^^^ xt j : Nat) : Int) := M.bx xl3 xl
      have g11 : Go.bits .xor .u8 ((xt (xt (xt j)) ^^^ xt j : Nat) : Int) ((j : Nat) : Int) = ((gm 11 j : Nat) : Int) := by rw [M.bx (xor_lt xl3 xl) hlt, (M.gm_sm hlt).2.2.2.2.1, Nat.xor_assoc]
      have g32 : Go.bits .xor .u8 ((xt (xt (xt j)) : Nat) : Int) ((xt (xt j) : Nat) : Int) = ((xt (xt (xt j)) ^^^ xt (xt j) : Nat) : Int) := M.bx xl3 xl2
      have g13 : Go.bits .xor .u8 ((xt (xt (xt j)) ^^^ xt (xt j) : Nat) : Int) ((j : Nat) : Int) = ((gm 13 j : Nat) : Int) := by rw [M.bx (xor_lt xl3 xl2) hlt, (M.gm_sm hlt).2.2.2.2.2.1, Nat.xor_assoc]
      have g14 : Go.bits .xor .u8 ((xt (xt (xt j)) ^^^ xt (xt j) : Nat) : Int) ((xt j : Nat) : Int) = ((gm 14 j : Nat) : Int) := by rw [M.bx (xor_lt xl3 xl2) xl, (M.gm_sm hlt).2.2.2.2.2.2, Nat.xor_assoc]
      have G := Aside0.mk (And.intro g9 (And.intro g31 (And.intro g11 (And.intro g32 (And.intro g13 g14)))))
      clear g9 g31 g11 g32 g13 g14
      have f0 := HK.out.frozen j
      have c0 := HK.out.cell j (by rw [tabR_length]; omega)
      go_wp2
      go_region
      have HK1 := Aside0.mk ((HK.out.set (j) ((M.sN j : Nat) : Int)).drew)
      have HB1 := Aside0.mk (below_drew1 (below_set (j := j) (v := .int .u8 ((M.sN j : Nat) : Int)) HB.out (Nat.le_refl _)))
      clear f0 c0 HK HB
      generalize (wr.setCell ⟨w.heap.size, j, none⟩ (.int .u8 ((M.sN j : Nat) : Int))).drew = W1 at *
      have f0 := HK1.out.frozen (256 + M.sN j)
      have c0 := HK1.out.cell (256 + M.sN j) (by simp only [List.length_set, tabR_length]; omega)
      go_wp2
      go_region
      have HK2 := Aside0.mk ((HK1.out.set (256 + M.sN j) ((j : Nat) : Int)).drew)
      have HB2 := Aside0.mk (below_drew1 (below_set (j := 256 + M.sN j) (v := .int .u8 ((j : Nat) : Int)) HB1.out (Nat.le_refl _)))
      clear f0 c0 HK1 HB1
      generalize (W1.setCell ⟨w.heap.size, 256 + M.sN j, none⟩ (.int .u8 ((j : Nat) : Int))).drew = W2 at *
      have f0 := HK2.out.frozen (512 + j)
      have c0 := HK2.out.cell (512 + j) (by simp only [List.length_set, tabR_length]; omega)
      go_wp2
      refine still_tail 7 (by kernel_rfl) (by kernel_rfl) ?_
      simp only [List.take_succ_cons, List.take_zero, List.drop_succ_cons, List.drop_zero]
      repeat still_step
      still_call (twice_nat hlt _)
      repeat still_step
      refine wpStill_nil ?_
      have f1 := HK2.out.frozen (768 + j)
      have c1 := HK2.out.cell (768 + j) (by simp only [List.length_set, tabR_length]; omega)
      have g9 := G.out.1
      go_wp2_with (go_at_call 41; (first | (with_reducible refine (twice_nat xl _).mono ?_) | (with_reducible refine (twice_nat xl2 _).mono ?_)); rintro e w' ⟨rfl, rfl⟩)
      have HK4 := Aside0.mk ((HK2.out.set (512 + j) ((xt j : Nat) : Int)).set (768 + j) ((gm 9 j : Nat) : Int)).drew
      have HB4 := Aside0.mk (below_drew1 (below_set (j := 768 + j) (v := .int .u8 ((gm 9 j : Nat) : Int)) (below_set (j := 512 + j) (v := .int .u8 ((xt j : Nat) : Int)) HB2.out (Nat.le_refl _)) (Nat.le_refl _)))
      clear f0 c0 f1 c1 g9 HK2 HB2
      generalize ((W2.setCell ⟨w.heap.size, 512 + j, none⟩ (.int .u8 ((xt j : Nat) : Int))).setCell ⟨w.heap.size, 768 + j, none⟩ (.int .u8 ((gm 9 j : Nat) : Int))).drew = W4 at *
      have c0 : W4.cell? ⟨w.heap.size, 512 + j, none⟩ = some (.int .u8 ((xt j : Nat) : Int)) := by
        have h := HK4.out.cell (512 + j) (by simp only [List.length_set, tabR_length]; omega)
        rw [List.getD_eq_getElem?_getD, List.getElem?_set_ne (by omega), List.getElem?_set_self (by simp only [List.length_set, tabR_length]; omega)] at h
        exact h
      have f1 := HK4.out.frozen (1024 + j)
      have c1 := HK4.out.cell (1024 + j) (by simp only [List.length_set, tabR_length]; omega)
      have g31 := G.out.2.1
      have g11 := G.out.2.2.1
      go_region
      have HK5 := Aside0.mk (HK4.out.set (1024 + j) ((gm 11 j : Nat) : Int)).drew
      have HB5 := Aside0.mk (below_drew1 (below_set (j := 1024 + j) (v := .int .u8 ((gm 11 j : Nat) : Int)) HB4.out (Nat.le_refl _)))
      clear f1 c1 g31 g11 HK4 HB4 c0
      generalize (W4.setCell ⟨w.heap.size, 1024 + j, none⟩ (.int .u8 ((gm 11 j : Nat) : Int))).drew = W5 at *
      have f1 := HK5.out.frozen (1280 + j)
      have c1 := HK5.out.cell (1280 + j) (by simp only [List.length_set, tabR_length]; omega)
      have g32 := G.out.2.2.2.1
      have g13 := G.out.2.2.2.2.1
      go_wp2
      have HK6 := Aside0.mk (HK5.out.set (1280 + j) ((gm 13 j : Nat) : Int))
      have HB6 := Aside0.mk (below_set (j := 1280 + j) (v := .int .u8 ((gm 13 j : Nat) : Int)) HB5.out (Nat.le_refl _))
      clear f1 c1 g32 g13 HK5 HB5
      generalize (W5.setCell ⟨w.heap.size, 1280 + j, none⟩ (.int .u8 ((gm 13 j : Nat) : Int))) = W6 at *
      have c0 : W6.cell? ⟨w.heap.size, 512 + j, none⟩ = some (.int .u8 ((xt j : Nat) : Int)) := by
        have h := HK6.out.cell (512 + j) (by simp only [List.length_set, tabR_length]; omega)
        rw [List.getD_eq_getElem?_getD, List.getElem?_set_ne (by omega), List.getElem?_set_ne (by omega), List.getElem?_set_ne (by omega), List.getElem?_set_self (by simp only [List.length_set, tabR_length]; omega)] at h
        exact h
      have f1 := HK6.out.frozen (1536 + j)
      have c1 := HK6.out.cell (1536 + j) (by simp only [List.length_set, tabR_length]; omega)
      have g32 := G.out.2.2.2.1
      have g14 := G.out.2.2.2.2.2
      go_region
      have HK7 := Aside0.mk (HK6.out.set (1536 + j) ((gm 14 j : Nat) : Int)).drew
      have HB7 := Aside0.mk (below_drew1 (below_set (j := 1536 + j) (v := .int .u8 ((gm 14 j : Nat) : Int)) HB6.out (Nat.le_refl _)))
      clear f1 c1 g32 g14 HK6 HB6 c0
      generalize (W6.setCell ⟨w.heap.size, 1536 + j, none⟩ (.int .u8 ((gm 14 j : Nat) : Int))).drew = W7 at *
      have HE : Aside0 (BY W7 w.heap.size 113 (tabR (j + 1))) := ⟨by rw [← tab_step j hlt]; exact HK7.out⟩
      clear HK7
      go_wp2
      exact ⟨⟨j + 1, hlt, by go_num, HE, HB7⟩, by simp [intOf]; omega⟩
    · obtain rfl : j = 256 := by omega
      go_wp2
      go_ret
      exact ⟨_, rfl, Nat.le_refl _, HK.out, HB.out⟩
end Go.Proofs.Ytokkhnjedmlbhaa.Pr
end
section
namespace Go.Proofs.Ytokkhnjedmlbhaa.Pr
open Go.RowKit Go.Proofs.YtokkhnjedmlbhaaW.PrintWords Go.Proofs.YtokkhnjedmlbhaaW.PrintLast Go.Proofs.YtokkhnjedmlbhaaW.PrintMore
theorem and255 {x : Int} (h0 : 0 ≤ x) (h1 : x < 4294967296) : Go.bits .and .u32 x 255 = x % 256 := by
  obtain ⟨n, rfl⟩ := Int.eq_ofNat_of_zero_le h0
  have h := u32_and_nat n 255 (by omega) (by omega)
  rw [show (255 : Nat) = 2 ^ 8 - 1 from rfl, Nat.and_two_pow_sub_one_eq_mod] at h
  exact h
/-- The word of four bytes. -/
def wordI (a b c d : Int) : Int := Go.bits .or .u32 (Go.bits .or .u32 (Go.bits .or .u32 (a % 4294967296 * 16777216 % 4294967296) (b % 4294967296 * 65536 % 4294967296)) (c % 4294967296 * 256 % 4294967296)) (d % 4294967296)
def subW (tb : ByteArray) (x : Int) : Int := wordI (bt tb (x / 16777216)) (bt tb (x / 65536 % 256)) (bt tb (x / 256 % 256)) (bt tb (x % 256))
set_option maxHeartbeats 1000000 in
set_option maxRecDepth 100000 in
theorem subW_calls (b : Nat) (tb : ByteArray) (x : Int) (w : World) (hc : w.cell? ⟨b, 0, none⟩ = some (.string tb)) (ht : tb.size = 256) (h0 : 0 ≤ x) (h1 : x < 4294967296) :
    Calls Try.prog 221 #[.int .u32 x, .pointer (some ⟨b, 0, none⟩)] w fun e w' => e = .returned (.int .u32 (subW tb x)) ∧ Drawn0 w w' := by
  have e1 := and255 (x := x / 65536) (by omega) (by omega)
  have e2 := and255 (x := x / 256) (by omega) (by omega)
  have e3 := and255 (x := x) (by omega) (by omega)
  have i0 : x / 16777216 < (tb.size : Int) := by omega
  have i1 : x / 65536 % 256 < (tb.size : Int) := by omega
  have i2 : x / 256 % 256 < (tb.size : Int) := by omega
  have i3 : x % 256 < (tb.size : Int) := by omega
  have j0 : 0 ≤ x / 16777216 := by omega
  have j1 : 0 ≤ x / 65536 % 256 := by omega
  have j2 : 0 ≤ x / 256 % 256 := by omega
  have j3 : 0 ≤ x % 256 := by omega
  have k0 : (x / 16777216).toNat < tb.size := by omega
  have k1 : (x / 65536 % 256).toNat < tb.size := by omega
  have k2 : (x / 256 % 256).toNat < tb.size := by omega
  have k3 : (x % 256).toNat < tb.size := by omega
  have es : subW tb x = wordI ((tb[(x / 16777216).toNat]'k0).toNat : Int) ((tb[(x / 65536 % 256).toNat]'k1).toNat : Int) ((tb[(x / 256 % 256).toNat]'k2).toNat : Int) ((tb[(x % 256).toNat]'k3).toNat : Int) := by
    unfold subW
    rw [bt_at tb (x / 16777216) k0, bt_at tb (x / 65536 % 256) k1, bt_at tb (x / 256 % 256) k2, bt_at tb (x % 256) k3]
  unfold wordI at es
  rw [es]
  clear ht es
  go_enter Try.func221, Try.ntmps221
  go_wp2
  go_quiet (fail)
  go_wp2
  go_ret
  exact ⟨rfl, ⟨⟨_, rfl⟩⟩⟩
end Go.Proofs.Ytokkhnjedmlbhaa.Pr
end
