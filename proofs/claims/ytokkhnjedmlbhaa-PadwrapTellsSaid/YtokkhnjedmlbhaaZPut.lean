-- several texts in one (by the session's program shake.py)
import Derived.Test.YtokkhnjedmlbhaaZPrg05
import Derived.Lib.BufferWrite
section
namespace Go.Proofs.YtokkhnjedmlbhaaHw
open Go.RowKit Go.Proofs.YtokkhnjedmlbhaaW.PrintWords
/-- A piece of a new block of bytes, as a string. -/
theorem conv_cells {P : Program} (w : World) (T src e dst : TypeId) (hs : P.underlying src = some (.slice e)) (he : P.underlying e = some (.int .u8)) (hd : P.underlying dst = some .string)
    (cells : Array Value) (xs ys : List Int) (hc : cells = (xs.map (Value.int .u8)).toArray) (k len cap : Nat) (hy : (xs.drop k).take len = ys) (hl : ys.length = len) :
    (convert src dst (.slice (some ⟨w.heap.size, k, none⟩) len cap)).run P (w.alloc (.cells cells T)) = .ok (.string (strOfNums ys)) (w.alloc (.cells cells T)) := by
  subst hc
  refine run_convert_bytes_arg _ src e hs he _ k len cap ys hl (fun i hi => ?_) dst hd
  have h1 : (xs.drop k)[i]? = some (ys.getD i 0) := by
    subst hy
    have : i < ((xs.drop k).take len).length := by omega
    rw [List.getD_eq_getElem?_getD, List.getElem?_eq_getElem this]
    simp only [Option.getD_some, List.getElem_take]
    rw [List.getElem?_eq_getElem]
  rw [List.getElem?_drop] at h1
  have := heap_alloc_new w (.cells (xs.map (Value.int .u8)).toArray T)
  rw [blk_cell this]
  simp [h1]
/-- copy(dst, s), s a string at least as long as dst, dst a whole row of bytes of the call's own. -/
theorem run_copy_str {P : Program} (w : World) (dT sT ty elem : TypeId) (g dLen dCap : Nat) (s : ByteArray) (cur : Array Value) (t : TypeId)
    (hu : P.underlying dT = some (.slice elem)) (hs : (P.info? elem).map (·.size) = some 1) (hg : w.heap[g]? = some (.cells cur t (0, 0))) (hle : dLen ≤ s.size) (hfit : cur.size = dLen) :
    (Builtin.copy_ #[dT, sT] ty #[.slice (some ⟨g, 0, none⟩) dLen dCap, .string s]).run P w =
      .ok (goInt dLen) (w.setRow g ((Lib.byteCells s.data.toList).take dLen).toArray) := by
  have hl0 : (Lib.byteCells s.data.toList).length = s.size := by rw [Lib.byteCells_length, ← Lib.size_eq]
  have hlen : ((Lib.byteCells s.data.toList).take dLen).length = dLen := by rw [List.length_take, hl0]; omega
  have hst := run_storeCells_at P g 0 t ((Lib.byteCells s.data.toList).take dLen) 0 cur w hg (by rw [hlen]; omega) (fun v hv => Lib.byteCells_one _ v (List.mem_of_mem_take hv))
  have hmin : Nat.min s.size dLen = dLen := Nat.min_eq_right hle
  have htk : List.take dLen (List.map (fun b : UInt8 => Value.int IntKind.u8 (b.toNat : Int)) s.data.toList) = (Lib.byteCells s.data.toList).take dLen := rfl
  rw [hlen] at hst
  simp only [Nat.add_zero, Nat.zero_add, List.take_zero, List.nil_append] at hst
  rw [List.drop_of_length_le (by simp [hfit]), List.append_nil] at hst
  cases hq : P.info? elem with
  | none => simp [hq] at hs
  | some i =>
    simp [Builtin.copy_, run_underlying hu, Builtin.lenOf, Builtin.firstCells, sizeOf, typeInfo, hq, hmin]
    rw [htk, hst]
    simp [Result.andThen]
end Go.Proofs.YtokkhnjedmlbhaaHw
end
section
namespace Go.Proofs.Ytokkhnjedmlbhaa.Pr
open Go.RowKit Go.Proofs.YtokkhnjedmlbhaaW.PrintWords Go.Proofs.YtokkhnjedmlbhaaW.PrintLast Go.Proofs.YtokkhnjedmlbhaaW.PrintMore Go.Proofs.YtokkhnjedmlbhaaHw
/-- The eight bytes of a number, the greatest first. -/
def putAll (n : Int) : List Int := [n / 72057594037927936 % 256, n / 281474976710656 % 256, n / 1099511627776 % 256, n / 4294967296 % 256, n / 16777216 % 256, n / 65536 % 256, n / 256 % 256, n % 256]
def octets_Put.f (n wd : Int) : Option ByteArray := if wd < 1 then some ⟨#[]⟩ else if wd > 8 then some ⟨#[]⟩ else some (strOfNums ((putAll n).drop (8 - wd).toNat))
set_option maxHeartbeats 2000000 in
set_option maxRecDepth 100000 in
theorem octets_Put.walk (n wd : Int) (w : World) (h1 : 1 ≤ wd) (h8 : wd ≤ 8) :
    Calls Try.prog 189 #[.int .u64 n, .int .i64 wd] w fun e w' => e = .returned (.string (strOfNums ((putAll n).drop (8 - wd).toNat))) ∧ Below w.heap.size w w' := by
  have c1 : decide (wd < 1) = false := decide_eq_false (by omega)
  have c2 : decide (8 < wd) = false := decide_eq_false (by omega)
  go_enter Try.func189, Try.ntmps189
  go_wp2
  refine wp_loop_rounds 9 ?_
  iterate 8 (rw [rounds_succ]; go_wp2)
  rw [rounds_succ]
  clear c1 c2
  have hw : wd = 1 ∨ wd = 2 ∨ wd = 3 ∨ wd = 4 ∨ wd = 5 ∨ wd = 6 ∨ wd = 7 ∨ wd = 8 := by omega
  rcases hw with rfl | rfl | rfl | rfl | rfl | rfl | rfl | rfl
  · have hcv : (convert 66 9 (.slice (some ⟨w.heap.size, 7, none⟩) 1 1)).run Try.prog (w.alloc (.cells #[.int .u8 (n / 72057594037927936 % 256), .int .u8 (n / 281474976710656 % 256), .int .u8 (n / 1099511627776 % 256), .int .u8 (n / 4294967296 % 256), .int .u8 (n / 16777216 % 256), .int .u8 (n / 65536 % 256), .int .u8 (n / 256 % 256), .int .u8 (n % 256)] 144)) = .ok (.string (strOfNums ((putAll n).drop 7))) (w.alloc (.cells #[.int .u8 (n / 72057594037927936 % 256), .int .u8 (n / 281474976710656 % 256), .int .u8 (n / 1099511627776 % 256), .int .u8 (n / 4294967296 % 256), .int .u8 (n / 16777216 % 256), .int .u8 (n / 65536 % 256), .int .u8 (n / 256 % 256), .int .u8 (n % 256)] 144)) :=
      conv_cells (P := Try.prog) w 144 66 5 9 Try.underlying66 Try.underlying5 Try.underlying9 _ (putAll n) ((putAll n).drop 7) rfl 7 1 1 rfl rfl
    go_wp2
    go_ret
    exact ⟨rfl, (Below.refl _ _).alloc (Nat.le_refl _) _⟩
  · have hcv : (convert 66 9 (.slice (some ⟨w.heap.size, 6, none⟩) 2 2)).run Try.prog (w.alloc (.cells #[.int .u8 (n / 72057594037927936 % 256), .int .u8 (n / 281474976710656 % 256), .int .u8 (n / 1099511627776 % 256), .int .u8 (n / 4294967296 % 256), .int .u8 (n / 16777216 % 256), .int .u8 (n / 65536 % 256), .int .u8 (n / 256 % 256), .int .u8 (n % 256)] 144)) = .ok (.string (strOfNums ((putAll n).drop 6))) (w.alloc (.cells #[.int .u8 (n / 72057594037927936 % 256), .int .u8 (n / 281474976710656 % 256), .int .u8 (n / 1099511627776 % 256), .int .u8 (n / 4294967296 % 256), .int .u8 (n / 16777216 % 256), .int .u8 (n / 65536 % 256), .int .u8 (n / 256 % 256), .int .u8 (n % 256)] 144)) :=
      conv_cells (P := Try.prog) w 144 66 5 9 Try.underlying66 Try.underlying5 Try.underlying9 _ (putAll n) ((putAll n).drop 6) rfl 6 2 2 rfl rfl
    go_wp2
    go_ret
    exact ⟨rfl, (Below.refl _ _).alloc (Nat.le_refl _) _⟩
  · have hcv : (convert 66 9 (.slice (some ⟨w.heap.size, 5, none⟩) 3 3)).run Try.prog (w.alloc (.cells #[.int .u8 (n / 72057594037927936 % 256), .int .u8 (n / 281474976710656 % 256), .int .u8 (n / 1099511627776 % 256), .int .u8 (n / 4294967296 % 256), .int .u8 (n / 16777216 % 256), .int .u8 (n / 65536 % 256), .int .u8 (n / 256 % 256), .int .u8 (n % 256)] 144)) = .ok (.string (strOfNums ((putAll n).drop 5))) (w.alloc (.cells #[.int .u8 (n / 72057594037927936 % 256), .int .u8 (n / 281474976710656 % 256), .int .u8 (n / 1099511627776 % 256), .int .u8 (n / 4294967296 % 256), .int .u8 (n / 16777216 % 256), .int .u8 (n / 65536 % 256), .int .u8 (n / 256 % 256), .int .u8 (n % 256)] 144)) :=
      conv_cells (P := Try.prog) w 144 66 5 9 Try.underlying66 Try.underlying5 Try.underlying9 _ (putAll n) ((putAll n).drop 5) rfl 5 3 3 rfl rfl
    go_wp2
    go_ret
    exact ⟨rfl, (Below.refl _ _).alloc (Nat.le_refl _) _⟩
  · have hcv : (convert 66 9 (.slice (some ⟨w.heap.size, 4, none⟩) 4 4)).run Try.prog (w.alloc (.cells #[.int .u8 (n / 72057594037927936 % 256), .int .u8 (n / 281474976710656 % 256), .int .u8 (n / 1099511627776 % 256), .int .u8 (n / 4294967296 % 256), .int .u8 (n / 16777216 % 256), .int .u8 (n / 65536 % 256), .int .u8 (n / 256 % 256), .int .u8 (n % 256)] 144)) = .ok (.string (strOfNums ((putAll n).drop 4))) (w.alloc (.cells #[.int .u8 (n / 72057594037927936 % 256), .int .u8 (n / 281474976710656 % 256), .int .u8 (n / 1099511627776 % 256), .int .u8 (n / 4294967296 % 256), .int .u8 (n / 16777216 % 256), .int .u8 (n / 65536 % 256), .int .u8 (n / 256 % 256), .int .u8 (n % 256)] 144)) :=
      conv_cells (P := Try.prog) w 144 66 5 9 Try.underlying66 Try.underlying5 Try.underlying9 _ (putAll n) ((putAll n).drop 4) rfl 4 4 4 rfl rfl
    go_wp2
    go_ret
    exact ⟨rfl, (Below.refl _ _).alloc (Nat.le_refl _) _⟩
  · have hcv : (convert 66 9 (.slice (some ⟨w.heap.size, 3, none⟩) 5 5)).run Try.prog (w.alloc (.cells #[.int .u8 (n / 72057594037927936 % 256), .int .u8 (n / 281474976710656 % 256), .int .u8 (n / 1099511627776 % 256), .int .u8 (n / 4294967296 % 256), .int .u8 (n / 16777216 % 256), .int .u8 (n / 65536 % 256), .int .u8 (n / 256 % 256), .int .u8 (n % 256)] 144)) = .ok (.string (strOfNums ((putAll n).drop 3))) (w.alloc (.cells #[.int .u8 (n / 72057594037927936 % 256), .int .u8 (n / 281474976710656 % 256), .int .u8 (n / 1099511627776 % 256), .int .u8 (n / 4294967296 % 256), .int .u8 (n / 16777216 % 256), .int .u8 (n / 65536 % 256), .int .u8 (n / 256 % 256), .int .u8 (n % 256)] 144)) :=
      conv_cells (P := Try.prog) w 144 66 5 9 Try.underlying66 Try.underlying5 Try.underlying9 _ (putAll n) ((putAll n).drop 3) rfl 3 5 5 rfl rfl
    go_wp2
    go_ret
    exact ⟨rfl, (Below.refl _ _).alloc (Nat.le_refl _) _⟩
  · have hcv : (convert 66 9 (.slice (some ⟨w.heap.size, 2, none⟩) 6 6)).run Try.prog (w.alloc (.cells #[.int .u8 (n / 72057594037927936 % 256), .int .u8 (n / 281474976710656 % 256), .int .u8 (n / 1099511627776 % 256), .int .u8 (n / 4294967296 % 256), .int .u8 (n / 16777216 % 256), .int .u8 (n / 65536 % 256), .int .u8 (n / 256 % 256), .int .u8 (n % 256)] 144)) = .ok (.string (strOfNums ((putAll n).drop 2))) (w.alloc (.cells #[.int .u8 (n / 72057594037927936 % 256), .int .u8 (n / 281474976710656 % 256), .int .u8 (n / 1099511627776 % 256), .int .u8 (n / 4294967296 % 256), .int .u8 (n / 16777216 % 256), .int .u8 (n / 65536 % 256), .int .u8 (n / 256 % 256), .int .u8 (n % 256)] 144)) :=
      conv_cells (P := Try.prog) w 144 66 5 9 Try.underlying66 Try.underlying5 Try.underlying9 _ (putAll n) ((putAll n).drop 2) rfl 2 6 6 rfl rfl
    go_wp2
    go_ret
    exact ⟨rfl, (Below.refl _ _).alloc (Nat.le_refl _) _⟩
  · have hcv : (convert 66 9 (.slice (some ⟨w.heap.size, 1, none⟩) 7 7)).run Try.prog (w.alloc (.cells #[.int .u8 (n / 72057594037927936 % 256), .int .u8 (n / 281474976710656 % 256), .int .u8 (n / 1099511627776 % 256), .int .u8 (n / 4294967296 % 256), .int .u8 (n / 16777216 % 256), .int .u8 (n / 65536 % 256), .int .u8 (n / 256 % 256), .int .u8 (n % 256)] 144)) = .ok (.string (strOfNums ((putAll n).drop 1))) (w.alloc (.cells #[.int .u8 (n / 72057594037927936 % 256), .int .u8 (n / 281474976710656 % 256), .int .u8 (n / 1099511627776 % 256), .int .u8 (n / 4294967296 % 256), .int .u8 (n / 16777216 % 256), .int .u8 (n / 65536 % 256), .int .u8 (n / 256 % 256), .int .u8 (n % 256)] 144)) :=
      conv_cells (P := Try.prog) w 144 66 5 9 Try.underlying66 Try.underlying5 Try.underlying9 _ (putAll n) ((putAll n).drop 1) rfl 1 7 7 rfl rfl
    go_wp2
    go_ret
    exact ⟨rfl, (Below.refl _ _).alloc (Nat.le_refl _) _⟩
  · have hcv : (convert 66 9 (.slice (some ⟨w.heap.size, 0, none⟩) 8 8)).run Try.prog (w.alloc (.cells #[.int .u8 (n / 72057594037927936 % 256), .int .u8 (n / 281474976710656 % 256), .int .u8 (n / 1099511627776 % 256), .int .u8 (n / 4294967296 % 256), .int .u8 (n / 16777216 % 256), .int .u8 (n / 65536 % 256), .int .u8 (n / 256 % 256), .int .u8 (n % 256)] 144)) = .ok (.string (strOfNums ((putAll n).drop 0))) (w.alloc (.cells #[.int .u8 (n / 72057594037927936 % 256), .int .u8 (n / 281474976710656 % 256), .int .u8 (n / 1099511627776 % 256), .int .u8 (n / 4294967296 % 256), .int .u8 (n / 16777216 % 256), .int .u8 (n / 65536 % 256), .int .u8 (n / 256 % 256), .int .u8 (n % 256)] 144)) :=
      conv_cells (P := Try.prog) w 144 66 5 9 Try.underlying66 Try.underlying5 Try.underlying9 _ (putAll n) ((putAll n).drop 0) rfl 0 8 8 rfl rfl
    go_wp2
    go_ret
    exact ⟨rfl, (Below.refl _ _).alloc (Nat.le_refl _) _⟩
set_option maxHeartbeats 1000000 in
theorem octets_Put.calls (n wd : Int) (r : ByteArray) (w : World) (h : octets_Put.f n wd = some r) :
    Calls Try.prog 189 #[.int .u64 n, .int .i64 wd] w fun e w' => e = .returned (.string r) ∧ Below w.heap.size w w' := by
  unfold octets_Put.f at h
  by_cases h1 : wd < 1
  · rw [if_pos h1] at h
    obtain rfl := Option.some.inj h
    have c1 : decide (wd < 1) = true := decide_eq_true h1
    clear h1 h
    go_enter Try.func189, Try.ntmps189
    go_wp2
    go_ret
    exact ⟨rfl, Below.refl _ _⟩
  · rw [if_neg h1] at h
    by_cases h8 : wd > 8
    · rw [if_pos h8] at h
      obtain rfl := Option.some.inj h
      have c1 : decide (wd < 1) = false := decide_eq_false h1
      have c2 : decide (8 < wd) = true := decide_eq_true h8
      clear h1 h
      go_enter Try.func189, Try.ntmps189
      go_wp2
      go_ret
      exact ⟨rfl, Below.refl _ _⟩
    · rw [if_neg h8] at h
      obtain rfl := Option.some.inj h
      exact octets_Put.walk n wd w (by omega) (by omega)
end Go.Proofs.Ytokkhnjedmlbhaa.Pr
end
