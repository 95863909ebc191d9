-- several texts in one (by the session's program shake.py)
import Derived.Shelf.Strings.OnBuilder
import Derived.Shelf.Small.Strs
import Derived.Shelf.Strings.BuilderK
import Derived.Shelf.Strings.Search1
import Derived.Test.YtmcpfkgahmdkgaaProg
import Derived.Test.YtmcpfkgahmdkgaaZPreq3
import Derived.RegionTactic
import Derived.Laws.CopyOwn
import Derived.ChangeAlike
import Derived.Deep.RegionHeld3
section
namespace Go.Proofs
open Go.Shelf
def Try.lays156_ren : Go.Shelf.Ren := ⟨fun | 156 => 80 | 165 => 85 | 166 => 86 | 169 => 87 | 240 => 89 | 241 => 90 | 276 => 92 | 277 => 93 | n => n, fun | 31 => 104 | 9 => 9 | 3 => 3 | 4 => 4 | 0 => 0 | 20 => 20 | 72 => 117 | 76 => 121 | 70 => 115 | 37 => 91 | 75 => 120 | 127 => 125 | 164 => 126 | 5 => 5 | 80 => 123 | n => n, fun | n => n⟩
theorem Try.lays156 : Go.Proofs.Lays.n156 Try.prog Try.lays156_ren := {
  mixed := by kernel_rfl
  f156 := Try.func80.trans (congrArg some (by kernel_rfl))
  f165 := Try.func85.trans (congrArg some (by kernel_rfl))
  f166 := Try.func86.trans (congrArg some (by kernel_rfl))
  f169 := Try.func87.trans (congrArg some (by kernel_rfl))
  f240 := Try.func89.trans (congrArg some (by kernel_rfl))
  f241 := Try.func90.trans (congrArg some (by kernel_rfl))
  f276 := Try.func92.trans (congrArg some (by kernel_rfl))
  f277 := Try.func93.trans (congrArg some (by kernel_rfl))
  t0 := Try.underlying0
  a0 := Try.isAgg0
  z0 := Try.sizeOf0
  v0 := Try.zeroValue0
  t3 := Try.underlying3
  a3 := Try.isAgg3
  z3 := Try.sizeOf3
  v3 := Try.zeroValue3
  t4 := Try.underlying4
  a4 := Try.isAgg4
  z4 := Try.sizeOf4
  v4 := Try.zeroValue4
  t9 := Try.underlying9
  a9 := Try.isAgg9
  z9 := Try.sizeOf9
  v9 := Try.zeroValue9
  t20 := Try.underlying20
  a20 := Try.isAgg20
  z20 := Try.sizeOf20
  v20 := Try.zeroValue20
  t31 := Try.underlying104
  a31 := Try.isAgg104
  z31 := Try.sizeOf104
  v31 := Try.zeroValue104
  t37 := Try.underlying91
  a37 := Try.isAgg91
  z37 := Try.sizeOf91
  v37 := Try.zeroValue91
  t70 := Try.underlying115
  a70 := Try.isAgg115
  z70 := Try.sizeOf115
  v70 := Try.zeroValue115
  t72 := Try.underlying117
  a72 := Try.isAgg117
  z72 := Try.sizeOf117
  v72 := Try.zeroValue117
  t75 := Try.underlying120
  a75 := Try.isAgg120
  z75 := Try.sizeOf120
  v75 := Try.zeroValue120
  t76 := Try.underlying121
  a76 := Try.isAgg121
  z76 := Try.sizeOf121
  v76 := Try.zeroValue121
  t127 := Try.underlying125
  a127 := Try.isAgg125
  z127 := Try.sizeOf125
  v127 := Try.zeroValue125
  t164 := Try.underlying126
  a164 := Try.isAgg126
  z164 := Try.sizeOf126
  v164 := Try.zeroValue126 }
theorem Try.Builder_Extra_156 : Builder.Extra Try.prog Try.lays156_ren := {
  sizeBuilder := by kernel_rfl
  liesBuilder := by kernel_rfl
  t5 := Try.underlying5
  a5 := Try.isAgg5
  z5 := Try.sizeOf5
  v5 := Try.zeroValue5
  infoByte := by kernel_rfl
  cellsByte := by kernel_rfl
  sizeByte := by kernel_rfl
  neB5 := by decide }
open Go.RowKit in
/-- No element: the empty string; the world is as it was. (Whatever the slice's address and capacity: a nil slice too.) (LAID: no walk: one application.) -/
theorem Try.strings_Join_none (a : Option Addr) (c : Nat) (sep : ByteArray) (w : World) :
    Calls Try.prog 80 #[.slice a 0 c, .string sep] w fun e w' => e = .returned (.string ⟨#[]⟩) ∧ w' = w := Any.strings_Join_none Try.lays156 Try.Builder_Extra_156 a c sep w
open Go.RowKit in
/-- strings.Join: "Join concatenates the elements of its first argument to create a single string. The separator string sep is placed between elements in the resulting string.": HOWEVER MANY ELEMENTS. Below the heap's end the world is as it was. (LAID: no walk: one application.) -/
theorem Try.strings_Join (bk o c : Nat) (xs : List ByteArray) (sep : ByteArray) (w : World) (hcells : ∀ (j : Nat) x, xs[j]? = some x → w.cell? ⟨bk, o + j, none⟩ = some (.string x)) (hbk : bk < w.heap.size) (hN : xs.length ≤ 140737488355328) (hcap : xs.length ≤ c) (hlen : (Lib.join (xs.map (·.data.toList)) sep.data.toList).length ≤ 140737488355328) :
    Calls Try.prog 80 #[.slice (some ⟨bk, o, none⟩) xs.length c, .string sep] w fun e w' => e = .returned (.string ⟨(Lib.join (xs.map (·.data.toList)) sep.data.toList).toArray⟩) ∧ Below w.heap.size w w' := Any.strings_Join Try.lays156 Try.Builder_Extra_156 bk o c xs sep w hcells hbk hN hcap hlen
def Try.lays137_ren : Go.Shelf.Ren := ⟨fun | 137 => 88 | 217 => 91 | 266 => 94 | n => n, fun | 9 => 9 | 5 => 5 | 3 => 3 | n => n, fun | n => n⟩
theorem Try.lays137 : Go.Proofs.Lays.n137 Try.prog Try.lays137_ren := {
  mixed := by kernel_rfl
  f137 := Try.func88.trans (congrArg some (by kernel_rfl))
  f217 := Try.func91.trans (congrArg some (by kernel_rfl))
  f266 := Try.func94.trans (congrArg some (by kernel_rfl))
  t3 := Try.underlying3
  a3 := Try.isAgg3
  z3 := Try.sizeOf3
  v3 := Try.zeroValue3
  t5 := Try.underlying5
  a5 := Try.isAgg5
  z5 := Try.sizeOf5
  v5 := Try.zeroValue5
  t9 := Try.underlying9
  a9 := Try.isAgg9
  z9 := Try.sizeOf9
  v9 := Try.zeroValue9 }
open Go.RowKit in
/-- strings.IndexByte: "IndexByte returns the index of the first instance of c in s, or -1 if c is not present in s.": IT RETURNS 'Lib.indexByte s c'; the world is as it was. (LAID: no walk: one application.) -/
theorem Try.strings_IndexByte (s : ByteArray) (c : Int) (w : World) :
    Calls Try.prog 88 #[.string s, .int .u8 c] w fun e w' => e = .returned (.int .i64 (Lib.indexByte s.data.toList c.toNat.toUInt8)) ∧ w' = w := Any.strings_IndexByte Try.lays137 s c w
end Go.Proofs
end
section
namespace Go.Proofs.Ytmcpfkgahmdkgaa.Pr
open Go.RowKit Go.Proofs.YtmcpfkgahmdkgaaW.PrintWords Go.Proofs.YtmcpfkgahmdkgaaW.PrintLast Go.Proofs.YtmcpfkgahmdkgaaW.PrintMore
def digits_Value.f (a0 : Int) : Option Int := some (Lib.indexByte [48, 49, 50, 51, 52, 53, 54, 55, 56, 57, 65, 66, 67, 68, 69, 70] a0.toNat.toUInt8)
theorem value_walk (a0 : Int) (w : World) :
    Calls Try.prog 82 #[.int .u8 a0] w fun e w' => e = .returned (.int .i64 (Lib.indexByte [48, 49, 50, 51, 52, 53, 54, 55, 56, 57, 65, 66, 67, 68, 69, 70] a0.toNat.toUInt8)) ∧ w' = w := by
  have HH := Aside0.mk (Try.strings_IndexByte ⟨#[48, 49, 50, 51, 52, 53, 54, 55, 56, 57, 65, 66, 67, 68, 69, 70]⟩ a0 w)
  go_enter Try.func82, Try.ntmps82
  go_wp2_with (go_at_call 88; refine HH.out.mono ?_; rintro e w1 ⟨rfl, rfl⟩)
  go_ret
  exact ⟨rfl, rfl⟩
end Go.Proofs.Ytmcpfkgahmdkgaa.Pr
end
section
namespace Go.Proofs.Ytmcpfkgahmdkgaa.Pr
open Go.RowKit Go.Proofs.YtmcpfkgahmdkgaaW.PrintWords Go.Proofs.YtmcpfkgahmdkgaaW.PrintLast Go.Proofs.YtmcpfkgahmdkgaaW.PrintMore Go.Proofs.YtmcpfkgahmdkgaaHw
attribute [local go_sem] max2_int min2_int max_two min_two max_three min_three max_four min_four
/-- What the digit at a place is. -/
def vd (t : ByteArray) (j : Nat) : Int := Lib.indexByte [48, 49, 50, 51, 52, 53, 54, 55, 56, 57, 65, 66, 67, 68, 69, 70] (bt t (j : Int)).toNat.toUInt8
theorem index_range (c : UInt8) : -1 ≤ Lib.indexByte [48, 49, 50, 51, 52, 53, 54, 55, 56, 57, 65, 66, 67, 68, 69, 70] c ∧ Lib.indexByte [48, 49, 50, 51, 52, 53, 54, 55, 56, 57, 65, 66, 67, 68, 69, 70] c ≤ 15 := by
  revert c
  have h : ∀ n : Fin 256, -1 ≤ Lib.indexByte [48, 49, 50, 51, 52, 53, 54, 55, 56, 57, 65, 66, 67, 68, 69, 70] (UInt8.ofNat n.1) ∧ Lib.indexByte [48, 49, 50, 51, 52, 53, 54, 55, 56, 57, 65, 66, 67, 68, 69, 70] (UInt8.ofNat n.1) ≤ 15 := by decide +kernel
  intro c
  have := h ⟨c.toNat, c.toNat_lt⟩
  simpa using this
theorem vd_range (t : ByteArray) (j : Nat) : -1 ≤ vd t j ∧ vd t j ≤ 15 := index_range _
theorem and_i64_one (a : Nat) (ha : a < 4611686018427387904) : Go.bits .and .i64 (a : Int) 1 = ((a % 2 : Nat) : Int) := by
  have h1 : (BitVec.ofInt 64 (a : Int)).toNat = a := by
    rw [BitVec.ofInt_natCast, BitVec.toNat_ofNat]; exact Nat.mod_eq_of_lt (by omega)
  show IntKind.i64.wrap ((BitVec.ofInt 64 (a : Int) &&& BitVec.ofInt 64 1).toNat : Int) = _
  rw [BitVec.toNat_and, h1, show (BitVec.ofInt 64 1).toNat = 2 ^ 1 - 1 from rfl, Nat.and_two_pow_sub_one_eq_mod, IntKind.wrap_i64]
  omega
/-- What lies in the row behind k rounds. -/
def hexRow (t : ByteArray) (m k : Nat) : List Int := (List.range m).map fun i => if i < k then (Go.bits .or .i64 (vd t (2 * i) * 16) (vd t (2 * i + 1))) % 256 else 0
theorem hexRow_length (t : ByteArray) (m k : Nat) : (hexRow t m k).length = m := by simp [hexRow]
theorem hexRow_zero (t : ByteArray) (m : Nat) : madeCells #[.int .u8 0] m = ((hexRow t m 0).map (Value.int .u8)).toArray := by
  unfold madeCells
  apply Array.ext
  · simp [hexRow]
  · intro i h1 h2
    simp [hexRow, Nat.mod_one]
theorem hexRow_set (t : ByteArray) (m k : Nat) : ((hexRow t m k).map (Value.int .u8)).toArray.setIfInBounds k (.int .u8 ((Go.bits .or .i64 (vd t (2 * k) * 16) (vd t (2 * k + 1))) % 256)) = ((hexRow t m (k + 1)).map (Value.int .u8)).toArray := by
  apply Array.ext'
  simp only [Array.toList_setIfInBounds]
  apply List.ext_getElem
  · simp [hexRow]
  · intro i h1 h2
    have hi : i < m := by simpa [hexRow] using h2
    rw [List.getElem_set]
    by_cases e : k = i
    · subst e; simp [hexRow]
    · rw [if_neg e]
      simp only [List.getElem_map, hexRow, List.getElem_range]
      have : (i < k) = (i < k + 1) := by apply propext; omega
      simp only [this]
/-- Whether the first k pairs are digits. -/
def goodTo (t : ByteArray) : Nat → Bool
  | 0 => true
  | k + 1 => goodTo t k && (decide (0 ≤ vd t (2 * k)) && decide (0 ≤ vd t (2 * k + 1)))
theorem goodTo_bad (t : ByteArray) {k m : Nat} (h : goodTo t k = false) (hk : k ≤ m) : goodTo t m = false := by
  induction m with
  | zero =>
    obtain rfl : k = 0 := by omega
    exact h
  | succ m ih =>
    by_cases e : k = m + 1
    · rw [← e, h]
    · rw [goodTo, ih (by omega)]; rfl
/-- What Unhex answers. -/
def unhexF (t : ByteArray) : ByteArray × Bool := if t.size % 2 = 1 then (⟨#[]⟩, false) else if goodTo t (t.size / 2) = true then (strOfNums (hexRow t (t.size / 2) (t.size / 2)), true) else (⟨#[]⟩, false)
theorem cut_late {T : Prop} (G : Prop) (main : G → T) (tail : G) : T := main tail
set_option maxHeartbeats 2000000 in
theorem unhex_walk (t : ByteArray) (m : Nat) (w : World) (r : ByteArray) (b : Bool) (hm : m ≤ 140737488351232) (ht : t.size = 2 * m) (hrb : (if goodTo t m = true then (strOfNums (hexRow t m m), true) else ((⟨#[]⟩ : ByteArray), false)) = (r, b)) :
    Calls Try.prog 77 #[.string t] w fun e w' => e = .returned (.tuple #[.string r, .bool b]) ∧ Below w.heap.size w w' := by
  have hmk := print_make (P := Try.prog) 91 5 .u8 1 Try.underlying91 (by kernel_rfl) (by decide) m (by omega)
  have e1 : (Go.bits .and .i64 (t.size : Int) 1 == 1) = false := by rw [and_i64_one _ (by omega)]; exact beq_eq_false_iff_ne.2 (by omega)
  have e2 : Int.tdiv (t.size : Int) 2 = (m : Int) := by rw [Int.tdiv_eq_ediv_of_nonneg (by omega)]; omega
  have HT := Aside0.mk ht
  have HRB := Aside0.mk hrb
  clear ht hrb
  go_enter Try.func77, Try.ntmps77
  go_wp2
  clear hmk
  have HK : Aside0 ((w.alloc (.cells (madeCells #[.int .u8 0] m) 5)).heap[w.heap.size]? = some (.cells ((hexRow t m 0).map (Value.int .u8)).toArray 5 (0, 0))) := ⟨by rw [← hexRow_zero]; exact heap_alloc_new w _⟩
  have HL : Aside0 (Below w.heap.size w (w.alloc (.cells (madeCells #[.int .u8 0] m) 5))) := ⟨below_alloc (Below.refl _ _) _⟩
  go_loopw [17] (fun i wr => ∃ k : Nat, k ≤ m ∧ i = .int .i64 k ∧ goodTo t k = true ∧ Aside0 (wr.heap[w.heap.size]? = some (.cells ((hexRow t m k).map (Value.int .u8)).toArray 5 (0, 0))) ∧ Aside0 (Below w.heap.size w wr)) (fun i _ => m - (intOf i).toNat)
  case atStart => exact ⟨0, Nat.zero_le _, rfl, rfl, HK, HL⟩
  case round =>
    clear HK HL
    obtain ⟨k, hk, rfl, hg, HK, HB⟩ := hrel
    have HG := Aside0.mk hg
    clear hg
    by_cases hlt : k < m
    · have hl1 : 2 * k < t.size := by have := HT.out; omega
      have hl2 : 2 * k + 1 < t.size := by have := HT.out; omega
      have eq1 : ((2 * k : Nat) : Int) = 2 * (k : Int) := by omega
      have eq2 : ((2 * k + 1 : Nat) : Int) = 2 * (k : Int) + 1 := by omega
      have hx1 := bt_at t (2 * (k : Int))
      have hx2 := bt_at t (2 * (k : Int) + 1)
      have hv1 := value_walk (bt t ((2 * k : Nat) : Int))
      have hv2 := value_walk (bt t ((2 * k + 1 : Nat) : Int))
      change ∀ w, Calls _ _ _ w fun e w' => e = .returned (.int .i64 (vd t (2 * k))) ∧ w' = w at hv1
      change ∀ w, Calls _ _ _ w fun e w' => e = .returned (.int .i64 (vd t (2 * k + 1))) ∧ w' = w at hv2
      have hr1 := vd_range t (2 * k)
      have hr2 := vd_range t (2 * k + 1)
      have hset := hexRow_set t m k
      have hgood : goodTo t (k + 1) = (decide (0 ≤ vd t (2 * k)) && decide (0 ≤ vd t (2 * k + 1))) := by rw [goodTo, HG.out]; rfl
      rw [eq1] at hv1
      rw [eq2] at hv2
      clear eq1 eq2
      have HV1 := Aside0.mk hv1
      have HV2 := Aside0.mk hv2
      have HS := Aside0.mk hset
      have HGD := Aside0.mk hgood
      clear hv1 hv2 hset hgood
      generalize bt t (2 * (k : Int)) = b1 at *
      generalize bt t (2 * (k : Int) + 1) = b2 at *
      generalize vd t (2 * k) = x at *
      generalize vd t (2 * k + 1) = y at *
      go_wp2
      have v1 : True ∧ True := ⟨trivial, trivial⟩
      have f0 : wrap64 (2 * (k : Int)) = 2 * (k : Int) := by unfold wrap64; omega
      have f1 : wrap64 (2 * (k : Int) + 1) = 2 * (k : Int) + 1 := by unfold wrap64; omega
      have f6 : IntKind.i64.wrap (2 * (k : Int)) = 2 * (k : Int) := by rw [IntKind.wrap_i64]; omega
      have f7 : IntKind.i64.wrap (2 * (k : Int) + 1) = 2 * (k : Int) + 1 := by rw [IntKind.wrap_i64]; omega
      have f2 : (0 ≤ 2 * (k : Int)) = True := eq_true (by omega)
      have f3 : (0 ≤ 2 * (k : Int) + 1) = True := eq_true (by omega)
      have f4 : (2 * (k : Int) < (t.size : Int)) = True := eq_true (by omega)
      have f5 : (2 * (k : Int) + 1 < (t.size : Int)) = True := eq_true (by omega)
      apply cut_late
      case main =>
        intro fin
        go_region_held3 (fun _ => True ∧ True) (first | exact v1) (first
          | (go_at_call 82; (with_reducible refine (HV1.out _).mono ?_); rintro e w1 ⟨rfl, hw⟩; subst hw)
          | (go_at_call 82; (with_reducible refine (HV2.out _).mono ?_); rintro e w1 ⟨rfl, hw⟩; subst hw))
        all_goals exact fin
      case tail =>
        have hwl : w.heap.size < wr.heap.size := by
          have h := HK.out
          rcases Nat.lt_or_ge w.heap.size wr.heap.size with g | g
          · exact g
          · rw [Array.getElem?_eq_none g] at h; cases h
        have C5 : Aside0 (((wr.alloc (Obj.cells #[.int .i64 x, .int .i64 y] 36)).drew).heap[wr.heap.size]? = some (.cells #[.int .i64 x, .int .i64 y] 36 (0, 0))) := ⟨Array.getElem?_push_size⟩
        have K5 : Aside0 (((wr.alloc (Obj.cells #[.int .i64 x, .int .i64 y] 36)).drew).heap[w.heap.size]? = some (.cells ((hexRow t m k).map (Value.int .u8)).toArray 5 (0, 0))) := ⟨((below_alloc (Below.refl wr.heap.size wr) (Obj.cells #[.int .i64 x, .int .i64 y] 36)).block _ hwl).trans HK.out⟩
        have B5 : Aside0 (Below w.heap.size w ((wr.alloc (Obj.cells #[.int .i64 x, .int .i64 y] 36)).drew)) := ⟨below_drew1 (below_alloc HB.out _)⟩
        clear v1 f0 f1 f2 f3 f4 f5 f6 f7 hx1 hx2
        generalize (wr.alloc (Obj.cells #[.int .i64 x, .int .i64 y] 36)).drew = W5 at C5 K5 B5 ⊢
        have p0 := blk_cell C5.out 0
        have p1 := blk_cell C5.out 1
        have q0 := blk_frozen K5.out k
        obtain ⟨mv, hmin⟩ : ∃ mv, (if y < x then y else x) = mv := ⟨_, rfl⟩
        by_cases hneg : mv < 0
        · have g1 : decide (mv < 0) = true := decide_eq_true hneg
          have hbad : goodTo t (k + 1) = false := by
            rw [HGD.out]
            by_cases e : y < x
            · rw [if_pos e] at hmin
              rw [decide_eq_false (show ¬ 0 ≤ y by omega), Bool.and_false]
            · rw [if_neg e] at hmin
              rw [decide_eq_false (show ¬ 0 ≤ x by omega), Bool.false_and]
          have HBAD := Aside0.mk (goodTo_bad t hbad hlt)
          clear hneg hbad hr1 hr2
          have hrb := HRB.out
          rw [HBAD.out, if_neg (by decide)] at hrb
          obtain ⟨rfl, rfl⟩ := Prod.mk.inj hrb
          clear hrb HRB
          go_wp2
          go_ret2
          exact ⟨rfl, B5.out⟩
        · have g1 : decide (mv < 0) = false := decide_eq_false hneg
          have hxy : 0 ≤ x ∧ 0 ≤ y := by
            by_cases e : y < x
            · rw [if_pos e] at hmin; omega
            · rw [if_neg e] at hmin; omega
          have HGOOD := Aside0.mk (show goodTo t (k + 1) = true by rw [HGD.out, decide_eq_true hxy.1, decide_eq_true hxy.2]; rfl)
          have w0 : IntKind.i64.wrap (x * 16) = x * 16 := by rw [IntKind.wrap_i64]; omega
          have w1 : wrap64 (x * 16) = x * 16 := by unfold wrap64; omega
          have c0 : W5.cell? ⟨w.heap.size, k, none⟩ = some (.int .u8 0) := (blk_cell K5.out k).trans (by simp [hexRow, hlt])
          clear hneg
          go_wp2
          have hs : (W5.setCell ⟨w.heap.size, k, none⟩ (.int .u8 (Go.bits .or .i64 (x * 16) y % 256))).heap[w.heap.size]? = some (.cells ((hexRow t m (k + 1)).map (Value.int .u8)).toArray 5 (0, 0)) := by
            rw [← HS.out]
            exact blk_set K5.out k _
          exact ⟨⟨k + 1, hlt, by go_num, HGOOD.out, ⟨hs⟩, ⟨below_set B5.out (Nat.le_refl _)⟩⟩, by simp [intOf]; omega⟩
    · obtain rfl : k = m := by omega
      have hcv := run_convert_bytes_arg (P := Try.prog) wr 91 5 Try.underlying91 Try.underlying5 w.heap.size 0 k k (hexRow t k k) (hexRow_length t k k) (fun i hi => by
        rw [Nat.zero_add, blk_cell HK.out i]
        simp [List.getD_eq_getElem?_getD, List.getElem?_eq_getElem (show i < (hexRow t k k).length by rw [hexRow_length]; exact hi)]) 9 Try.underlying9
      have hrb := HRB.out
      rw [HG.out, if_pos rfl] at hrb
      obtain ⟨rfl, rfl⟩ := Prod.mk.inj hrb
      clear hrb HRB
      go_wp2
      go_ret2
      exact ⟨rfl, HB.out⟩
set_option maxHeartbeats 1000000 in
set_option maxRecDepth 100000 in
theorem unhex_odd (t : ByteArray) (w : World) (ht : t.size % 2 = 1) (hs : t.size ≤ 140737488351232) :
    Calls Try.prog 77 #[.string t] w fun e w' => e = .returned (.tuple #[.string ⟨#[]⟩, .bool false]) ∧ Below w.heap.size w w' := by
  have e1 : (Go.bits .and .i64 (t.size : Int) 1 == 1) = true := by rw [and_i64_one _ (by omega)]; exact beq_iff_eq.2 (by omega)
  clear ht hs
  go_enter Try.func77, Try.ntmps77
  go_wp2
  go_ret2
  exact ⟨rfl, Below.refl _ _⟩
def digits_Unhex.f (t : ByteArray) : Option (ByteArray × Bool) := if t.size ≤ 140737488351232 then some (unhexF t) else none
theorem digits_Unhex.calls (t : ByteArray) (r1 : ByteArray) (r2 : Bool) (w : World) (h : digits_Unhex.f t = some (r1, r2)) :
    Calls Try.prog 77 #[.string t] w fun e w' => e = .returned (.tuple #[.string r1, .bool r2]) ∧ Below w.heap.size w w' := by
  unfold digits_Unhex.f at h
  split at h
  case isFalse => cases h
  case isTrue hs =>
  have he := Option.some.inj h
  clear h
  unfold unhexF at he
  by_cases hodd : t.size % 2 = 1
  · rw [if_pos hodd] at he
    obtain ⟨rfl, rfl⟩ := Prod.mk.inj he
    exact unhex_odd t w hodd hs
  · rw [if_neg hodd] at he
    exact unhex_walk t (t.size / 2) w r1 r2 (by omega) (by omega) he
end Go.Proofs.Ytmcpfkgahmdkgaa.Pr
end
