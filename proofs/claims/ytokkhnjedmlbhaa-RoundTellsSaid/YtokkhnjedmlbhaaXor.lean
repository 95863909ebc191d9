/-
  octets.Xor: the exclusive or of two texts, as far as the shorter one goes. Conditions: the row of bytes fits.
-/
import Derived.Test.YtokkhnjedmlbhaaHx
import Derived.RegionTactic
import Derived.Laws.CopyOwn
import Derived.ChangeAlike
namespace Go.Proofs.Ytokkhnjedmlbhaa.Pr
open Go.RowKit Go.Proofs.YtokkhnjedmlbhaaW.PrintWords Go.Proofs.YtokkhnjedmlbhaaW.PrintLast Go.Proofs.YtokkhnjedmlbhaaW.PrintMore Go.Proofs.YtokkhnjedmlbhaaHw
attribute [local go_sem] max2_int min2_int max_two min_two max_three min_three max_four min_four
/-- What lies in the row behind k rounds. -/
def xorRow (a b : ByteArray) (m k : Nat) : List Int := (List.range m).map fun i => if i < k then Go.bits .xor .u8 (bt a i) (bt b i) else bt a i
theorem xorRow_length (a b : ByteArray) (m k : Nat) : (xorRow a b m k).length = m := by simp [xorRow]
theorem xorRow_zero (a b : ByteArray) (m : Nat) (h : m ≤ a.size) : (Lib.byteCells a.data.toList).take m = (xorRow a b m 0).map (Value.int .u8) := by
  apply List.ext_getElem
  · rw [List.length_take, Lib.byteCells_length, List.length_map, xorRow_length, ← Lib.size_eq]; omega
  · intro i h1 h2
    have hi : i < m := by simpa [xorRow] using h2
    simp only [List.getElem_take, Lib.byteCells, List.getElem_map, xorRow, List.getElem_range, Nat.not_lt_zero, if_false]
    rw [← bt_at a (i : Int) (by simp; omega)]
    rfl
theorem xorRow_get (a b : ByteArray) (m k : Nat) (h : k < m) : ((xorRow a b m k).map (Value.int .u8)).toArray[k]? = some (.int .u8 (bt a k)) := by
  simp [xorRow, h]
theorem xorRow_set (a b : ByteArray) (m k : Nat) : ((xorRow a b m k).map (Value.int .u8)).toArray.setIfInBounds k (.int .u8 (Go.bits .xor .u8 (bt a k) (bt b k))) = ((xorRow a b m (k + 1)).map (Value.int .u8)).toArray := by
  apply Array.ext'
  simp only [Array.toList_setIfInBounds]
  apply List.ext_getElem
  · simp [xorRow]
  · intro i h1 h2
    have hi : i < m := by simpa [xorRow] using h2
    rw [List.getElem_set]
    by_cases e : k = i
    · subst e; simp [xorRow]
    · rw [if_neg e]
      simp only [List.getElem_map, xorRow, List.getElem_range]
      have : (i < k) = (i < k + 1) := by apply propext; omega
      simp only [this]
def octets_Xor.f (a b : ByteArray) : Option ByteArray := if min a.size b.size ≤ 281474976710656 then some (strOfNums (xorRow a b (min a.size b.size) (min a.size b.size))) else none
set_option maxHeartbeats 1000000 in
theorem octets_Xor.loop (a b : ByteArray) (m : Nat) (w : World) (hm : m ≤ 281474976710656) (ha : m ≤ a.size) (hb : m ≤ b.size) (hmin : (if (b.size : Int) < (a.size : Int) then (b.size : Int) else (a.size : Int)) = (m : Int)) (hmin2 : (if b.size < a.size then (b.size : Int) else (a.size : Int)) = (m : Int)) :
    Calls Try.prog 170 #[.string a, .string b] w fun e w' => e = .returned (.string (strOfNums (xorRow a b m m))) ∧ Below w.heap.size w w' := by
  have hmk := print_make (P := Try.prog) 66 5 .u8 1 Try.underlying66 (by kernel_rfl) (by decide) m (by omega)
  have hcp : ∀ (ty : TypeId), (Builtin.copy_ #[66, 9] ty #[.slice (some ⟨w.heap.size, 0, none⟩) m m, .string a]).run Try.prog (w.alloc (.cells (madeCells #[.int .u8 0] m) 5)) = .ok (goInt m) ((w.alloc (.cells (madeCells #[.int .u8 0] m) 5)).setRow w.heap.size ((xorRow a b m 0).map (Value.int .u8)).toArray) := fun ty => by
    rw [← xorRow_zero a b m ha]
    exact run_copy_str (P := Try.prog) _ 66 9 ty 5 w.heap.size m m a _ 5 Try.underlying66 (by kernel_rfl) (heap_alloc_new w _) ha (by simp [size_madeCells])
  go_enter Try.func170, Try.ntmps170
  go_wp2
  clear hmk hcp
  have hbk := setRow_heap (w.alloc (.cells (madeCells #[.int .u8 0] m) 5)) w.heap.size _ ((xorRow a b m 0).map (Value.int .u8)).toArray 5 (0, 0) (heap_alloc_new w _)
  have hbl : Below w.heap.size w ((w.alloc (.cells (madeCells #[.int .u8 0] m) 5)).setRow w.heap.size ((xorRow a b m 0).map (Value.int .u8)).toArray) := below_setRow ((Below.refl _ _).alloc (Nat.le_refl _) _) (Nat.le_refl _) _
  have HK := Aside0.mk hbk
  have HL := Aside0.mk hbl
  clear hbk hbl hmin hmin2
  go_loopw [18] (fun i wr => ∃ k : Nat, k ≤ m ∧ i = .int .i64 k ∧ Aside0 (wr.heap[w.heap.size]? = some (.cells ((xorRow a b m k).map (Value.int .u8)).toArray 5 (0, 0))) ∧ Aside0 (Below w.heap.size w wr)) (fun i _ => m - (intOf i).toNat)
  case atStart => exact ⟨0, Nat.zero_le _, rfl, HK, HL⟩
  case round =>
    clear HK HL
    obtain ⟨k, hk, rfl, HK, HB⟩ := hrel
    by_cases hlt : k < m
    · have hc : wr.cell? ⟨w.heap.size, k, none⟩ = some (.int .u8 (bt a k)) := (blk_cell HK.out k).trans (xorRow_get a b m k hlt)
      have hf : wr.frozen? ⟨w.heap.size, k, none⟩ = false := blk_frozen HK.out k
      have hbi : k < b.size := by omega
      go_wp2
      go_region
      go_wp2
      have hbt : ((b[k]'hbi).toNat : Int) = bt b k := bt_at b (k : Int) (by simpa using hbi)
      rw [hbt]
      have hs : ((wr.setCell ⟨w.heap.size, k, none⟩ (.int .u8 (Go.bits .xor .u8 (bt a k) (bt b k)))).drew).heap[w.heap.size]? = some (.cells ((xorRow a b m (k + 1)).map (Value.int .u8)).toArray 5 (0, 0)) := by
        rw [← xorRow_set a b m k]
        exact blk_set HK.out k _
      exact ⟨⟨k + 1, hlt, by go_num, ⟨hs⟩, ⟨below_drew1 (below_set HB.out (Nat.le_refl _))⟩⟩, by simp [intOf]; omega⟩
    · obtain rfl : k = m := by omega
      have hcv := run_convert_bytes_arg (P := Try.prog) wr 66 5 Try.underlying66 Try.underlying5 w.heap.size 0 k k (xorRow a b k k) (xorRow_length a b k k) (fun i hi => by
        rw [Nat.zero_add, blk_cell HK.out i]
        simp [List.getD_eq_getElem?_getD, List.getElem?_eq_getElem (show i < (xorRow a b k k).length by rw [xorRow_length]; exact hi)]) 9 Try.underlying9
      go_wp2
      go_ret
      exact ⟨rfl, HB.out⟩
theorem octets_Xor.calls (a b : ByteArray) (r : ByteArray) (w : World) (h : octets_Xor.f a b = some r) :
    Calls Try.prog 170 #[.string a, .string b] w fun e w' => e = .returned (.string r) ∧ Below w.heap.size w w' := by
  unfold octets_Xor.f at h
  split at h
  case isFalse => cases h
  case isTrue hm =>
  obtain rfl := Option.some.inj h
  exact octets_Xor.loop a b (min a.size b.size) w hm (by omega) (by omega) (by split <;> omega) (by split <;> omega)
end Go.Proofs.Ytokkhnjedmlbhaa.Pr
