/-
  Words of the session's own for contracts by hand: a block of bytes as a string.
-/
import Derived.Test.YtokkhnjedmlbhaaPrk
import Derived.Lib.BufferWrite
namespace Go.Proofs.YtokkhnjedmlbhaaHw
open Go.RowKit Go.Proofs.YtokkhnjedmlbhaaW.PrintWords
/-- A piece of a new block of bytes, as a string. -/
theorem conv_cells {P : Program} (w : World) (T src e dst : TypeId) (hs : P.underlying src = some (.slice e)) (he : P.underlying e = some (.int .u8)) (hd : P.underlying dst = some .string)
    (cells : Array Value) (xs ys : List Int) (hc : cells = (xs.map (Value.int .u8)).toArray) (k len cap : Nat) (hy : (xs.drop k).take len = ys) (hl : ys.length = len) :
    (convert src dst (.slice (some ⟨w.heap.size, k, none⟩) len cap)).run P (w.alloc (.cells cells T)) = .ok (.string (strOfNums ys)) (w.alloc (.cells cells T)) := by
  subst hc
  refine run_convert_bytes_arg _ src e hs he _ k len cap ys hl (fun i hi => ?_) dst hd
  have h1 : (xs.drop k)[i]? = some (ys.getD i 0) := by
    subst hy
    have : i < ((xs.drop k).take len).length := by omega
    rw [List.getD_eq_getElem?_getD, List.getElem?_eq_getElem this]
    simp only [Option.getD_some, List.getElem_take]
    rw [List.getElem?_eq_getElem]
  rw [List.getElem?_drop] at h1
  have := heap_alloc_new w (.cells (xs.map (Value.int .u8)).toArray T)
  rw [blk_cell this]
  simp [h1]
/-- copy(dst, s), s a string at least as long as dst, dst a whole row of bytes of the call's own. -/
theorem run_copy_str {P : Program} (w : World) (dT sT ty elem : TypeId) (g dLen dCap : Nat) (s : ByteArray) (cur : Array Value) (t : TypeId)
    (hu : P.underlying dT = some (.slice elem)) (hs : (P.info? elem).map (·.size) = some 1) (hg : w.heap[g]? = some (.cells cur t (0, 0))) (hle : dLen ≤ s.size) (hfit : cur.size = dLen) :
    (Builtin.copy_ #[dT, sT] ty #[.slice (some ⟨g, 0, none⟩) dLen dCap, .string s]).run P w =
      .ok (goInt dLen) (w.setRow g ((Lib.byteCells s.data.toList).take dLen).toArray) := by
  have hl0 : (Lib.byteCells s.data.toList).length = s.size := by rw [Lib.byteCells_length, ← Lib.size_eq]
  have hlen : ((Lib.byteCells s.data.toList).take dLen).length = dLen := by rw [List.length_take, hl0]; omega
  have hst := run_storeCells_at P g 0 t ((Lib.byteCells s.data.toList).take dLen) 0 cur w hg (by rw [hlen]; omega) (fun v hv => Lib.byteCells_one _ v (List.mem_of_mem_take hv))
  have hmin : Nat.min s.size dLen = dLen := Nat.min_eq_right hle
  have htk : List.take dLen (List.map (fun b : UInt8 => Value.int IntKind.u8 (b.toNat : Int)) s.data.toList) = (Lib.byteCells s.data.toList).take dLen := rfl
  rw [hlen] at hst
  simp only [Nat.add_zero, Nat.zero_add, List.take_zero, List.nil_append] at hst
  rw [List.drop_of_length_le (by simp [hfit]), List.append_nil] at hst
  cases hq : P.info? elem with
  | none => simp [hq] at hs
  | some i =>
    simp [Builtin.copy_, run_underlying hu, Builtin.lenOf, Builtin.firstCells, sizeOf, typeInfo, hq, hmin]
    rw [htk, hst]
    simp [Result.andThen]
end Go.Proofs.YtokkhnjedmlbhaaHw
