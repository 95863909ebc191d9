-- several texts in one (by the session's program shake.py)
import Derived.Test.YtmcpfkgahmdkgaaZWWords
import Derived.Test.YtmcpfkgahmdkgaaZWLast
import Derived.Test.YtmcpfkgahmdkgaaZWMore
import Derived.Test.YtmcpfkgahmdkgaaProg
import Derived.Below
import Derived.Deep.Draws
import Derived.Deep.AppendLies
import Derived.Maps.AppendAt
import Derived.OwnWalk
import Derived.Laws.BytesArg
import Derived.Laws.MakeOwn
import Derived.Laws.OwnMore
import Derived.Deep.OwnRows
import Derived.Tactics
import Derived.Lib.ConvBytes
import Derived.Laws.Slices
import Derived.WalkKit
import Derived.KernelRfl
import Derived.RowKit3
import Derived.Deep.LoopGhost
import Derived.Deep.QuietTactic
import Derived.BigQuiet
import Derived.WideLaws
import Derived.Deep.DeepCutAuto
import Derived.Deep.CutBlock
import Derived.Deep.RegionHeld3
import Derived.Laws.Rows
import Derived.Lib.AppendStr
import Derived.ArgAppend
import Derived.Laws.IdiomCopy
import Derived.OrdersHeld
import Derived.Laws.BitsLemmas
import Derived.RowKit
import Derived.Test.YtmcpfkgahmdkgaaZWTab
import Derived.Test.YtmcpfkgahmdkgaaZWRepsOne
import Derived.Test.YtmcpfkgahmdkgaaZWGuard
import Derived.Test.YtmcpfkgahmdkgaaZWEqStruct
import Derived.Lib.BufferWrite
section
namespace Go.Proofs.YtmcpfkgahmdkgaaHw
open Go.RowKit Go.Proofs.YtmcpfkgahmdkgaaW.PrintWords
section
variable {P : Program} {ops : Array Oper} {rest : List Oper} {o : Oper} {a : Act} {Q : Exit → Act → World → Prop} {α : Type}
/-- make([]T, 0, c): a row of its own, with no element. -/
theorem R_make0 (d : Kd α) {w0 W : World} (base e : Nat) (hgd : o.guard = none) {N : Tmp} (_hd : o.dst = some N) (t : TypeId) (x y : Operand) (ho : o.op = .makeSlice t x y) (n : Int) (hx : a.eval x = .int .i64 0) (hy : a.eval y = .int .i64 n)
    (ht : P.underlying t = some (.slice e)) (z : Value) (bytes : Nat) (hinfo : (P.info? e).map (fun i => (i.zero, i.size, i.bytes)) = some (some z, d.sz, bytes)) (_hz : z.cells.size = d.sz) (_hs0 : 0 < d.sz) (_hb0 : 0 < bytes)
    {ok okp : Nat → Prop} (_hok : ∀ k, okp k → ok k) (hfresh : ok W.heap.size) (h0 : 0 ≤ n) (hl : n * (bytes : Int) ≤ 281474976710656) (HB : Below base w0 W) (hbase : base ≤ W.heap.size)
    (h : ∀ v1 w1, d.R e w1 base ok v1 ([] : List α) → Below base w0 w1 → W.grownBy w1 none → (∃ b, v1.ownBlock = some b ∧ W.heap.size ≤ b) → wpList P ops Q rest (a.put o.dst v1) w1) : wpList P ops Q (o :: rest) a W := by
  obtain ⟨m, rfl⟩ := Int.eq_ofNat_of_zero_le h0
  obtain ⟨i0, hi, hzz⟩ := Option.map_eq_some_iff.1 hinfo
  simp only [Prod.mk.injEq] at hzz
  obtain ⟨hz0, hz1, hz2⟩ := hzz
  have hl' : m * bytes ≤ 281474976710656 := by
    have h3 : ((m * bytes : Nat) : Int) ≤ 281474976710656 := by rw [Int.natCast_mul]; exact hl
    omega
  have hm : m ≤ 281474976710656 := Nat.le_trans (Nat.le_mul_of_pos_right _ _hb0) hl'
  have hr := run_make (P := P) W t e i0 z ht hi hz0 .i64 .i64 0 (m : Int) (Int.le_refl _) (by omega)
    (by
      have h3 : ((i0.bytes * m : Nat) : Int) ≤ 281474976710656 := by rw [hz2, Nat.mul_comm]; omega
      rwa [Int.natCast_mul] at h3) (by omega)
  simp only [Int.toNat_zero, Int.toNat_natCast] at hr
  rw [hz1] at hr
  have hown := World.ownsRow_made (base := base) (e := e) (size := d.sz) W (madeCells z.cells (m * d.sz)) m hbase (by simp [maxLen]; omega) (size_madeCells _ _)
  refine Kd.event_run (w1 := W.alloc (.cells (madeCells z.cells (m * d.sz)) e)) (v := .slice (some ⟨W.heap.size, 0, none⟩) 0 m) hgd (by simp [execOp, ho, hx, hy, hr]) ?_
  refine h _ _ ⟨fun k hk => ?_, [], by simpa using hown, Reps.none _ _⟩ (HB.alloc hbase _) (World.grownBy_alloc W _ none) ⟨W.heap.size, by simp [Value.ownBlock], Nat.le_refl _⟩
  have : W.heap.size = k := by simpa [Value.ownBlock] using hk
  subst this
  exact hfresh
end
end Go.Proofs.YtmcpfkgahmdkgaaHw
end
section
namespace Go.Proofs.Ytmcpfkgahmdkgaa.Pr
open Go.RowKit Go.Proofs.YtmcpfkgahmdkgaaW.PrintWords Go.Proofs.YtmcpfkgahmdkgaaW.PrintLast Go.Proofs.YtmcpfkgahmdkgaaW.PrintMore
attribute [local go_sem] max2_int min2_int max_two min_two max_three min_three max_four min_four   -- for this text's walks alone
set_option linter.unusedVariables false
set_option linter.unusedSimpArgs false

def errW : Option Int → Value
 | none => .nilIface
 | some c => .iface 0 (.int .i64 c)
theorem errW_none : errW none = .nilIface := rfl
theorem errW_some (c : Int) : errW (some c) = .iface 0 (.int .i64 c) := rfl

theorem info5 : (Try.prog.info? 5).map (fun i => (i.zero, i.size, i.bytes)) = some (some (.int .u8 0), 1, 1) := by kernel_rfl
theorem info9 : (Try.prog.info? 9).map (fun i => (i.zero, i.size, i.bytes)) = some (some (.string ⟨#[]⟩), 1, 16) := by kernel_rfl
theorem info77 : (Try.prog.info? 77).map (fun i => (i.zero, i.size, i.bytes)) = some (some (.agg #[(.string ⟨#[]⟩), (.string ⟨#[]⟩)]), 2, 32) := by kernel_rfl
theorem info102 : (Try.prog.info? 102).map (fun i => (i.zero, i.size, i.bytes)) = some (some (.agg #[(.int .i64 0), (.string ⟨#[]⟩)]), 2, 24) := by kernel_rfl
-- the values' own types
structure S55 where
 f0 : Int
 f1 : Int
 f2 : Bool
 f3 : Int
structure S102 where
 f0 : Int
 f1 : ByteArray
def z102 : S102 := ⟨(0 : Int), (⟨#[]⟩ : ByteArray)⟩
def k102 : Kd S102 := Kd.iso (Kd.pair (Kd.int .i64) Kd.string) (fun x : S102 => (x.f0, x.f1))
theorem k102_open {w : World} {x : S102} {cs : List Value} (h : k102.K w x cs) : cs = [.int .i64 x.f0, .string x.f1] := by
 obtain ⟨_, _, rfl, rfl, rfl⟩ := h
 exact rfl
theorem k102_mk (w : World) (x : S102)  : k102.K w x [.int .i64 x.f0, .string x.f1] := ⟨[.int .i64 x.f0], [.string x.f1], rfl, rfl, rfl⟩
theorem k102_mkM (w : World) (base : Nat) (ok : Nat → Prop) (x : S102)  : k102.M w base ok x [.int .i64 x.f0, .string x.f1] := ⟨[.int .i64 x.f0], [.string x.f1], rfl, rfl, rfl⟩
def rd_T102 (xs : List S102) (i : Int) : S102 := xs.getD i.toNat z102
theorem at_T102 {w : World} {A : Option Addr} {n : Nat} {xs : List S102} (h : Kd.C k102 w A n xs) (i : Int) (h0 : 0 ≤ i) (h1 : i < n) : ∃ ad , A = some ad ∧ w.cell? (ad.add (i.toNat * 2)) = some (.int .i64 (rd_T102 xs i).f0) ∧ w.cell? ⟨(ad.add (i.toNat * 2)).block, (ad.add (i.toNat * 2)).off + 1, none⟩ = some (.string (rd_T102 xs i).f1) := by
 obtain ⟨ad, c, e, _, hK, hc0⟩ := Kd.C_get h z102 i h0 h1
 have hc : ∀ j u, c[j]? = some u → w.cell? (ad.add (i.toNat * 2 + j)) = some u := hc0
 obtain rfl := k102_open hK
 exact ⟨ad, e, hc 0 _ rfl, by rw [← add_field _ _ 1 (by omega)]; exact hc 1 _ rfl⟩

structure S77 where
 f0 : ByteArray
 f1 : ByteArray
def z77 : S77 := ⟨(⟨#[]⟩ : ByteArray), (⟨#[]⟩ : ByteArray)⟩
def k77 : Kd S77 := Kd.iso (Kd.pair Kd.string Kd.string) (fun x : S77 => (x.f0, x.f1))
theorem k77_open {w : World} {x : S77} {cs : List Value} (h : k77.K w x cs) : cs = [.string x.f0, .string x.f1] := by
 obtain ⟨_, _, rfl, rfl, rfl⟩ := h
 exact rfl
theorem k77_mkM (w : World) (base : Nat) (ok : Nat → Prop) (x : S77)  : k77.M w base ok x [.string x.f0, .string x.f1] := ⟨[.string x.f0], [.string x.f1], rfl, rfl, rfl⟩
def rd_T77 (xs : List S77) (i : Int) : S77 := xs.getD i.toNat z77
theorem at_T77 {w : World} {A : Option Addr} {n : Nat} {xs : List S77} (h : Kd.C k77 w A n xs) (i : Int) (h0 : 0 ≤ i) (h1 : i < n) : ∃ ad , A = some ad ∧ w.cell? (ad.add (i.toNat * 2)) = some (.string (rd_T77 xs i).f0) ∧ w.cell? ⟨(ad.add (i.toNat * 2)).block, (ad.add (i.toNat * 2)).off + 1, none⟩ = some (.string (rd_T77 xs i).f1) := by
 obtain ⟨ad, c, e, _, hK, hc0⟩ := Kd.C_get h z77 i h0 h1
 have hc : ∀ j u, c[j]? = some u → w.cell? (ad.add (i.toNat * 2 + j)) = some u := hc0
 obtain rfl := k77_open hK
 exact ⟨ad, e, hc 0 _ rfl, by rw [← add_field _ _ 1 (by omega)]; exact hc 1 _ rfl⟩

structure S76 where
 f0 : ByteArray
 f1 : ByteArray
def z76 : S76 := ⟨(⟨#[]⟩ : ByteArray), (⟨#[]⟩ : ByteArray)⟩
def k76 : Kd S76 := Kd.iso (Kd.pair Kd.string Kd.string) (fun x : S76 => (x.f0, x.f1))
theorem k76_open {w : World} {x : S76} {cs : List Value} (h : k76.K w x cs) : cs = [.string x.f0, .string x.f1] := by
 obtain ⟨_, _, rfl, rfl, rfl⟩ := h
 exact rfl
theorem k76_mk (w : World) (x : S76)  : k76.K w x [.string x.f0, .string x.f1] := ⟨[.string x.f0], [.string x.f1], rfl, rfl, rfl⟩
theorem k76_mkM (w : World) (base : Nat) (ok : Nat → Prop) (x : S76)  : k76.M w base ok x [.string x.f0, .string x.f1] := ⟨[.string x.f0], [.string x.f1], rfl, rfl, rfl⟩
def rd_T76 (xs : List S76) (i : Int) : S76 := xs.getD i.toNat z76
theorem at_T76 {w : World} {A : Option Addr} {n : Nat} {xs : List S76} (h : Kd.C k76 w A n xs) (i : Int) (h0 : 0 ≤ i) (h1 : i < n) : ∃ ad , A = some ad ∧ w.cell? (ad.add (i.toNat * 2)) = some (.string (rd_T76 xs i).f0) ∧ w.cell? ⟨(ad.add (i.toNat * 2)).block, (ad.add (i.toNat * 2)).off + 1, none⟩ = some (.string (rd_T76 xs i).f1) := by
 obtain ⟨ad, c, e, _, hK, hc0⟩ := Kd.C_get h z76 i h0 h1
 have hc : ∀ j u, c[j]? = some u → w.cell? (ad.add (i.toNat * 2 + j)) = some u := hc0
 obtain rfl := k76_open hK
 exact ⟨ad, e, hc 0 _ rfl, by rw [← add_field _ _ 1 (by omega)]; exact hc 1 _ rfl⟩

theorem bA {w W : World} (h : Below w.heap.size w W) (o : Obj) : Below w.heap.size w (W.alloc o) := below_alloc h o
theorem lT {α β : Type} {f : α → β} {l : List α} : l.toArray.map f = (l.map f).toArray := List.map_toArray
theorem lC {α β : Type} {f : α → β} {a : α} {l : List α} : (a :: l).map f = f a :: l.map f := List.map_cons
theorem lN {α β : Type} {f : α → β} : ([] : List α).map f = [] := List.map_nil
theorem bN {B : Nat} {w W : World} (h : Below B w W) (n : Nat) : Below B w (W.drewN n) := pw_below_drewN h n
theorem bD {B : Nat} {w W : World} (h : Below B w W) : Below B w W.drew := below_drew1 h
end Go.Proofs.Ytmcpfkgahmdkgaa.Pr
end
section
namespace Go.Proofs.Ytmcpfkgahmdkgaa.M
open Go.RowKit Go.Proofs.Ytmcpfkgahmdkgaa.Pr Go.Proofs.YtmcpfkgahmdkgaaW.PrintWords Go.Proofs.YtmcpfkgahmdkgaaW.PrintLast Go.Proofs.YtmcpfkgahmdkgaaW.PrintMore
theorem wrap_id {x : Int} (h0 : -9223372036854775808 ≤ x) (h1 : x ≤ 9223372036854775807) : wrap64 x = x := by unfold wrap64; omega
/-- A call whose answer is known, ahead of what goes on with it. -/
theorem evb {α β : Type} {g : Nat → Option α} {f : Nat → α → Option β} {a : α} {r : β} (h : Ev g a) (k : Ev (fun n => f n a) r) : Ev (fun n => (g n).bind (f n)) r := Ev.bind h k
theorem evs {α β : Type} {g : Option α} {f : Nat → α → Option β} {a : α} {r : β} (h : g = some a) (k : Ev (fun n => f n a) r) : Ev (fun n => g.bind (f n)) r := by subst h; exact k
theorem evp {α : Type} {c : Prop} [Decidable c] {f g : Nat → Option α} {r : α} (h : c) (k : Ev f r) : Ev (fun n => if c then f n else g n) r := by simp only [if_pos h]; exact k
theorem evn {α : Type} {c : Prop} [Decidable c] {f g : Nat → Option α} {r : α} (h : ¬ c) (k : Ev g r) : Ev (fun n => if c then f n else g n) r := by simp only [if_neg h]; exact k
/-- The byte at a place, as a number. -/
def bb (s : ByteArray) (i : Nat) : Nat := (bt s (i : Int)).toNat
theorem bb_lt (s : ByteArray) (i : Nat) : bb s i < 256 := by have := bt_range s (i : Int); unfold bb; omega
theorem bt_bb (s : ByteArray) (i : Nat) : bt s (i : Int) = ((bb s i : Nat) : Int) := by have := bt_range s (i : Int); unfold bb; omega
theorem mn_c (a b : Nat) : mn (a : Int) (b : Int) = ((min a b : Nat) : Int) := by unfold mn; omega
/-- The text of a list of bytes. -/
def mkB (l : List Nat) : ByteArray := ⟨(l.map UInt8.ofNat).toArray⟩
/-- A text's bytes. -/
def nb (s : ByteArray) : List Nat := s.data.toList.map UInt8.toNat
def isB (l : List Nat) : Prop := ∀ x ∈ l, x < 256
theorem mkB_size (l : List Nat) : (mkB l).size = l.length := by
  show (l.map UInt8.ofNat).toArray.size = _
  simp
theorem nb_length (s : ByteArray) : (nb s).length = s.size := by rw [nb, List.length_map, data_length]
theorem isB_nb (s : ByteArray) : isB (nb s) := by
  intro x hx
  obtain ⟨u, _, rfl⟩ := List.mem_map.1 hx
  exact UInt8.toNat_lt u
theorem mkB_nb (s : ByteArray) : mkB (nb s) = s := by
  cases s with | mk d =>
  simp only [mkB, nb, List.map_map]
  congr 1
  apply Array.ext'
  simp only []
  conv => rhs; rw [← List.map_id d.toList]
  apply List.map_congr_left
  intro u _
  simp
theorem nb_mkB {l : List Nat} (h : isB l) : nb (mkB l) = l := by
  simp only [nb, mkB, List.map_map]
  conv => rhs; rw [← List.map_id l]
  apply List.map_congr_left
  intro n hn
  have := h n hn
  simp
  omega
theorem mkB_append (l m : List Nat) : mkB l ++ mkB m = mkB (l ++ m) := by
  apply ByteArray.ext
  simp [mkB]
theorem bb_nb (s : ByteArray) (i : Nat) : bb s i = (nb s).getD i 0 := by
  unfold bb bt
  by_cases h : i < s.size
  · rw [dif_pos (by simpa using h)]
    have h' : i < (nb s).length := by rw [nb_length]; exact h
    rw [List.getD_eq_getElem?_getD, List.getElem?_eq_getElem h']
    simp only [Option.getD_some, nb, List.getElem_map, Int.toNat_natCast]
    rfl
  · rw [dif_neg (by simpa using h)]
    rw [List.getD_eq_getElem?_getD, List.getElem?_eq_none (by rw [nb_length]; omega)]
    rfl
theorem strOfNums_cast (l : List Nat) : strOfNums (l.map Int.ofNat) = mkB l := by
  simp only [strOfNums, mkB, List.map_map]
  rfl
theorem extract_nb (s : ByteArray) (i j : Nat) : s.extract i j = mkB (((nb s).take j).drop i) := by
  apply ByteArray.ext
  simp only [ByteArray.data_extract, mkB]
  apply Array.ext'
  rw [Array.toList_extract]
  simp only [List.extract_eq_take_drop, nb]
  rw [← List.map_take, ← List.map_drop, List.map_map]
  rw [show (UInt8.ofNat ∘ UInt8.toNat) = id from by funext u; simp, List.map_id, List.drop_take]
theorem isB_append {l m : List Nat} : isB (l ++ m) ↔ isB l ∧ isB m := by
  simp [isB, or_imp, forall_and]
theorem isB_take {l : List Nat} (h : isB l) (n : Nat) : isB (l.take n) := fun x hx => h x (List.mem_of_mem_take hx)
theorem isB_drop {l : List Nat} (h : isB l) (n : Nat) : isB (l.drop n) := fun x hx => h x (List.mem_of_mem_drop hx)
end Go.Proofs.Ytmcpfkgahmdkgaa.M
end
section
namespace Go.Proofs.YtmcpfkgahmdkgaaHw
open Go.RowKit Go.Proofs.YtmcpfkgahmdkgaaW.PrintWords
/-- A piece of a new block of bytes, as a string. -/
theorem conv_cells {P : Program} (w : World) (T src e dst : TypeId) (hs : P.underlying src = some (.slice e)) (he : P.underlying e = some (.int .u8)) (hd : P.underlying dst = some .string)
    (cells : Array Value) (xs ys : List Int) (hc : cells = (xs.map (Value.int .u8)).toArray) (k len cap : Nat) (hy : (xs.drop k).take len = ys) (hl : ys.length = len) :
    (convert src dst (.slice (some ⟨w.heap.size, k, none⟩) len cap)).run P (w.alloc (.cells cells T)) = .ok (.string (strOfNums ys)) (w.alloc (.cells cells T)) := by
  subst hc
  refine run_convert_bytes_arg _ src e hs he _ k len cap ys hl (fun i hi => ?_) dst hd
  have h1 : (xs.drop k)[i]? = some (ys.getD i 0) := by
    subst hy
    have : i < ((xs.drop k).take len).length := by omega
    rw [List.getD_eq_getElem?_getD, List.getElem?_eq_getElem this]
    simp only [Option.getD_some, List.getElem_take]
    rw [List.getElem?_eq_getElem]
  rw [List.getElem?_drop] at h1
  have := heap_alloc_new w (.cells (xs.map (Value.int .u8)).toArray T)
  rw [blk_cell this]
  simp [h1]
end Go.Proofs.YtmcpfkgahmdkgaaHw
end
section
namespace Go.Proofs.Ytmcpfkgahmdkgaa.Pr
open Go.RowKit Go.Proofs.YtmcpfkgahmdkgaaW.PrintWords Go.Proofs.YtmcpfkgahmdkgaaW.PrintLast Go.Proofs.YtmcpfkgahmdkgaaW.PrintMore Go.Proofs.YtmcpfkgahmdkgaaHw
/-- The eight bytes of a number, the greatest first. -/
def bytes8 (n : Int) : List Int := [n / 72057594037927936 % 256, n / 281474976710656 % 256, n / 1099511627776 % 256, n / 4294967296 % 256, n / 16777216 % 256, n / 65536 % 256, n / 256 % 256, n % 256]
def octets_Put.f (n wd : Int) : Option ByteArray := if wd < 1 then some ⟨#[]⟩ else if wd > 8 then some ⟨#[]⟩ else some (strOfNums ((bytes8 n).drop (8 - wd).toNat))
set_option maxHeartbeats 2000000 in
set_option maxRecDepth 100000 in
theorem octets_Put.walk (n wd : Int) (w : World) (h1 : 1 ≤ wd) (h8 : wd ≤ 8) :
    Calls Try.prog 72 #[.int .u64 n, .int .i64 wd] w fun e w' => e = .returned (.string (strOfNums ((bytes8 n).drop (8 - wd).toNat))) ∧ Below w.heap.size w w' := by
  have c1 : decide (wd < 1) = false := decide_eq_false (by omega)
  have c2 : decide (8 < wd) = false := decide_eq_false (by omega)
  go_enter Try.func72, Try.ntmps72
  go_wp2
  refine wp_loop_rounds 9 ?_
  iterate 8 (rw [rounds_succ]; go_wp2)
  rw [rounds_succ]
  clear c1 c2
  have hw : wd = 1 ∨ wd = 2 ∨ wd = 3 ∨ wd = 4 ∨ wd = 5 ∨ wd = 6 ∨ wd = 7 ∨ wd = 8 := by omega
  rcases hw with rfl | rfl | rfl | rfl | rfl | rfl | rfl | rfl
  · have hcv : (convert 91 9 (.slice (some ⟨w.heap.size, 7, none⟩) 1 1)).run Try.prog (w.alloc (.cells #[.int .u8 (n / 72057594037927936 % 256), .int .u8 (n / 281474976710656 % 256), .int .u8 (n / 1099511627776 % 256), .int .u8 (n / 4294967296 % 256), .int .u8 (n / 16777216 % 256), .int .u8 (n / 65536 % 256), .int .u8 (n / 256 % 256), .int .u8 (n % 256)] 112)) = .ok (.string (strOfNums ((bytes8 n).drop 7))) (w.alloc (.cells #[.int .u8 (n / 72057594037927936 % 256), .int .u8 (n / 281474976710656 % 256), .int .u8 (n / 1099511627776 % 256), .int .u8 (n / 4294967296 % 256), .int .u8 (n / 16777216 % 256), .int .u8 (n / 65536 % 256), .int .u8 (n / 256 % 256), .int .u8 (n % 256)] 112)) :=
      conv_cells (P := Try.prog) w 112 91 5 9 Try.underlying91 Try.underlying5 Try.underlying9 _ (bytes8 n) ((bytes8 n).drop 7) rfl 7 1 1 rfl rfl
    go_wp2
    go_ret
    exact ⟨rfl, (Below.refl _ _).alloc (Nat.le_refl _) _⟩
  · have hcv : (convert 91 9 (.slice (some ⟨w.heap.size, 6, none⟩) 2 2)).run Try.prog (w.alloc (.cells #[.int .u8 (n / 72057594037927936 % 256), .int .u8 (n / 281474976710656 % 256), .int .u8 (n / 1099511627776 % 256), .int .u8 (n / 4294967296 % 256), .int .u8 (n / 16777216 % 256), .int .u8 (n / 65536 % 256), .int .u8 (n / 256 % 256), .int .u8 (n % 256)] 112)) = .ok (.string (strOfNums ((bytes8 n).drop 6))) (w.alloc (.cells #[.int .u8 (n / 72057594037927936 % 256), .int .u8 (n / 281474976710656 % 256), .int .u8 (n / 1099511627776 % 256), .int .u8 (n / 4294967296 % 256), .int .u8 (n / 16777216 % 256), .int .u8 (n / 65536 % 256), .int .u8 (n / 256 % 256), .int .u8 (n % 256)] 112)) :=
      conv_cells (P := Try.prog) w 112 91 5 9 Try.underlying91 Try.underlying5 Try.underlying9 _ (bytes8 n) ((bytes8 n).drop 6) rfl 6 2 2 rfl rfl
    go_wp2
    go_ret
    exact ⟨rfl, (Below.refl _ _).alloc (Nat.le_refl _) _⟩
  · have hcv : (convert 91 9 (.slice (some ⟨w.heap.size, 5, none⟩) 3 3)).run Try.prog (w.alloc (.cells #[.int .u8 (n / 72057594037927936 % 256), .int .u8 (n / 281474976710656 % 256), .int .u8 (n / 1099511627776 % 256), .int .u8 (n / 4294967296 % 256), .int .u8 (n / 16777216 % 256), .int .u8 (n / 65536 % 256), .int .u8 (n / 256 % 256), .int .u8 (n % 256)] 112)) = .ok (.string (strOfNums ((bytes8 n).drop 5))) (w.alloc (.cells #[.int .u8 (n / 72057594037927936 % 256), .int .u8 (n / 281474976710656 % 256), .int .u8 (n / 1099511627776 % 256), .int .u8 (n / 4294967296 % 256), .int .u8 (n / 16777216 % 256), .int .u8 (n / 65536 % 256), .int .u8 (n / 256 % 256), .int .u8 (n % 256)] 112)) :=
      conv_cells (P := Try.prog) w 112 91 5 9 Try.underlying91 Try.underlying5 Try.underlying9 _ (bytes8 n) ((bytes8 n).drop 5) rfl 5 3 3 rfl rfl
    go_wp2
    go_ret
    exact ⟨rfl, (Below.refl _ _).alloc (Nat.le_refl _) _⟩
  · have hcv : (convert 91 9 (.slice (some ⟨w.heap.size, 4, none⟩) 4 4)).run Try.prog (w.alloc (.cells #[.int .u8 (n / 72057594037927936 % 256), .int .u8 (n / 281474976710656 % 256), .int .u8 (n / 1099511627776 % 256), .int .u8 (n / 4294967296 % 256), .int .u8 (n / 16777216 % 256), .int .u8 (n / 65536 % 256), .int .u8 (n / 256 % 256), .int .u8 (n % 256)] 112)) = .ok (.string (strOfNums ((bytes8 n).drop 4))) (w.alloc (.cells #[.int .u8 (n / 72057594037927936 % 256), .int .u8 (n / 281474976710656 % 256), .int .u8 (n / 1099511627776 % 256), .int .u8 (n / 4294967296 % 256), .int .u8 (n / 16777216 % 256), .int .u8 (n / 65536 % 256), .int .u8 (n / 256 % 256), .int .u8 (n % 256)] 112)) :=
      conv_cells (P := Try.prog) w 112 91 5 9 Try.underlying91 Try.underlying5 Try.underlying9 _ (bytes8 n) ((bytes8 n).drop 4) rfl 4 4 4 rfl rfl
    go_wp2
    go_ret
    exact ⟨rfl, (Below.refl _ _).alloc (Nat.le_refl _) _⟩
  · have hcv : (convert 91 9 (.slice (some ⟨w.heap.size, 3, none⟩) 5 5)).run Try.prog (w.alloc (.cells #[.int .u8 (n / 72057594037927936 % 256), .int .u8 (n / 281474976710656 % 256), .int .u8 (n / 1099511627776 % 256), .int .u8 (n / 4294967296 % 256), .int .u8 (n / 16777216 % 256), .int .u8 (n / 65536 % 256), .int .u8 (n / 256 % 256), .int .u8 (n % 256)] 112)) = .ok (.string (strOfNums ((bytes8 n).drop 3))) (w.alloc (.cells #[.int .u8 (n / 72057594037927936 % 256), .int .u8 (n / 281474976710656 % 256), .int .u8 (n / 1099511627776 % 256), .int .u8 (n / 4294967296 % 256), .int .u8 (n / 16777216 % 256), .int .u8 (n / 65536 % 256), .int .u8 (n / 256 % 256), .int .u8 (n % 256)] 112)) :=
      conv_cells (P := Try.prog) w 112 91 5 9 Try.underlying91 Try.underlying5 Try.underlying9 _ (bytes8 n) ((bytes8 n).drop 3) rfl 3 5 5 rfl rfl
    go_wp2
    go_ret
    exact ⟨rfl, (Below.refl _ _).alloc (Nat.le_refl _) _⟩
  · have hcv : (convert 91 9 (.slice (some ⟨w.heap.size, 2, none⟩) 6 6)).run Try.prog (w.alloc (.cells #[.int .u8 (n / 72057594037927936 % 256), .int .u8 (n / 281474976710656 % 256), .int .u8 (n / 1099511627776 % 256), .int .u8 (n / 4294967296 % 256), .int .u8 (n / 16777216 % 256), .int .u8 (n / 65536 % 256), .int .u8 (n / 256 % 256), .int .u8 (n % 256)] 112)) = .ok (.string (strOfNums ((bytes8 n).drop 2))) (w.alloc (.cells #[.int .u8 (n / 72057594037927936 % 256), .int .u8 (n / 281474976710656 % 256), .int .u8 (n / 1099511627776 % 256), .int .u8 (n / 4294967296 % 256), .int .u8 (n / 16777216 % 256), .int .u8 (n / 65536 % 256), .int .u8 (n / 256 % 256), .int .u8 (n % 256)] 112)) :=
      conv_cells (P := Try.prog) w 112 91 5 9 Try.underlying91 Try.underlying5 Try.underlying9 _ (bytes8 n) ((bytes8 n).drop 2) rfl 2 6 6 rfl rfl
    go_wp2
    go_ret
    exact ⟨rfl, (Below.refl _ _).alloc (Nat.le_refl _) _⟩
  · have hcv : (convert 91 9 (.slice (some ⟨w.heap.size, 1, none⟩) 7 7)).run Try.prog (w.alloc (.cells #[.int .u8 (n / 72057594037927936 % 256), .int .u8 (n / 281474976710656 % 256), .int .u8 (n / 1099511627776 % 256), .int .u8 (n / 4294967296 % 256), .int .u8 (n / 16777216 % 256), .int .u8 (n / 65536 % 256), .int .u8 (n / 256 % 256), .int .u8 (n % 256)] 112)) = .ok (.string (strOfNums ((bytes8 n).drop 1))) (w.alloc (.cells #[.int .u8 (n / 72057594037927936 % 256), .int .u8 (n / 281474976710656 % 256), .int .u8 (n / 1099511627776 % 256), .int .u8 (n / 4294967296 % 256), .int .u8 (n / 16777216 % 256), .int .u8 (n / 65536 % 256), .int .u8 (n / 256 % 256), .int .u8 (n % 256)] 112)) :=
      conv_cells (P := Try.prog) w 112 91 5 9 Try.underlying91 Try.underlying5 Try.underlying9 _ (bytes8 n) ((bytes8 n).drop 1) rfl 1 7 7 rfl rfl
    go_wp2
    go_ret
    exact ⟨rfl, (Below.refl _ _).alloc (Nat.le_refl _) _⟩
  · have hcv : (convert 91 9 (.slice (some ⟨w.heap.size, 0, none⟩) 8 8)).run Try.prog (w.alloc (.cells #[.int .u8 (n / 72057594037927936 % 256), .int .u8 (n / 281474976710656 % 256), .int .u8 (n / 1099511627776 % 256), .int .u8 (n / 4294967296 % 256), .int .u8 (n / 16777216 % 256), .int .u8 (n / 65536 % 256), .int .u8 (n / 256 % 256), .int .u8 (n % 256)] 112)) = .ok (.string (strOfNums ((bytes8 n).drop 0))) (w.alloc (.cells #[.int .u8 (n / 72057594037927936 % 256), .int .u8 (n / 281474976710656 % 256), .int .u8 (n / 1099511627776 % 256), .int .u8 (n / 4294967296 % 256), .int .u8 (n / 16777216 % 256), .int .u8 (n / 65536 % 256), .int .u8 (n / 256 % 256), .int .u8 (n % 256)] 112)) :=
      conv_cells (P := Try.prog) w 112 91 5 9 Try.underlying91 Try.underlying5 Try.underlying9 _ (bytes8 n) ((bytes8 n).drop 0) rfl 0 8 8 rfl rfl
    go_wp2
    go_ret
    exact ⟨rfl, (Below.refl _ _).alloc (Nat.le_refl _) _⟩
set_option maxHeartbeats 1000000 in
theorem octets_Put.calls (n wd : Int) (r : ByteArray) (w : World) (h : octets_Put.f n wd = some r) :
    Calls Try.prog 72 #[.int .u64 n, .int .i64 wd] w fun e w' => e = .returned (.string r) ∧ Below w.heap.size w w' := by
  unfold octets_Put.f at h
  by_cases h1 : wd < 1
  · rw [if_pos h1] at h
    obtain rfl := Option.some.inj h
    have c1 : decide (wd < 1) = true := decide_eq_true h1
    clear h1 h
    go_enter Try.func72, Try.ntmps72
    go_wp2
    go_ret
    exact ⟨rfl, Below.refl _ _⟩
  · rw [if_neg h1] at h
    by_cases h8 : wd > 8
    · rw [if_pos h8] at h
      obtain rfl := Option.some.inj h
      have c1 : decide (wd < 1) = false := decide_eq_false h1
      have c2 : decide (8 < wd) = true := decide_eq_true h8
      clear h1 h
      go_enter Try.func72, Try.ntmps72
      go_wp2
      go_ret
      exact ⟨rfl, Below.refl _ _⟩
    · rw [if_neg h8] at h
      obtain rfl := Option.some.inj h
      exact octets_Put.walk n wd w (by omega) (by omega)
end Go.Proofs.Ytmcpfkgahmdkgaa.Pr
end
section
namespace Go.Proofs.Ytmcpfkgahmdkgaa.Pr
open Go.RowKit Go.Proofs.YtmcpfkgahmdkgaaW.PrintWords Go.Proofs.YtmcpfkgahmdkgaaW.PrintLast Go.Proofs.YtmcpfkgahmdkgaaW.PrintMore
attribute [local go_sem] max2_int min2_int max_two min_two max_three min_three max_four min_four   -- for this text's walks alone
set_option linter.unusedVariables false
set_option linter.unusedSimpArgs false

def octets_Cut.f (a0 : ByteArray) (a1 : Int) (a2 : Int) : Option (ByteArray) := if a1 < 0 then (some (⟨#[]⟩ : ByteArray)) else (if a1 ≥ (a0.size : Int) then (some (⟨#[]⟩ : ByteArray)) else (if a2 < 1 then (some (⟨#[]⟩ : ByteArray)) else (if 0 ≤ a1 then (if a1 ≤ (wrap64 (a1 + (mn a2 (wrap64 ((a0.size : Int) - a1))))) then (if (wrap64 (a1 + (mn a2 (wrap64 ((a0.size : Int) - a1))))) ≤ (a0.size : Int) then (some (a0.extract (a1 : Int).toNat ((wrap64 (a1 + (mn a2 (wrap64 ((a0.size : Int) - a1))))) : Int).toNat)) else (none)) else (none)) else (none))))
set_option maxHeartbeats 8000000 in
set_option maxRecDepth 100000 in
theorem octets_Cut.calls (a0 : ByteArray) (a1 : Int) (a2 : Int) (r : ByteArray) (w : World) (h : octets_Cut.f a0 a1 a2 = some r) :
  Calls Try.prog 60 #[.string a0, .int .i64 a1, .int .i64 a2] w fun e w' => e = .returned (.string r) ∧ Below w.heap.size w w' := by
 have HB := Aside0.mk (Below.refl w.heap.size w)
 have H : (if a1 < 0 then (some (⟨#[]⟩ : ByteArray)) else (if a1 ≥ (a0.size : Int) then (some (⟨#[]⟩ : ByteArray)) else (if a2 < 1 then (some (⟨#[]⟩ : ByteArray)) else (if 0 ≤ a1 then (if a1 ≤ (wrap64 (a1 + (mn a2 (wrap64 ((a0.size : Int) - a1))))) then (if (wrap64 (a1 + (mn a2 (wrap64 ((a0.size : Int) - a1))))) ≤ (a0.size : Int) then (some (a0.extract (a1 : Int).toNat ((wrap64 (a1 + (mn a2 (wrap64 ((a0.size : Int) - a1))))) : Int).toNat)) else (none)) else (none)) else (none))))) = some r := h
 clear h
 by_cases c4 : a1 < 0
 ·rw [if_pos c4] at H
  have c4b0 : decide (a1 < 0) = true := decide_eq_true c4
  clear c4
  obtain rfl := Option.some.inj H
  go_enter Try.func60, Try.ntmps60
  go_wp2
  go_ret
  exact ⟨by first | rfl | (simp [*, errW_none, errW_some] <;> rfl), by repeat first | with_reducible (first | exact HB.out | apply bA | apply bN | apply bD) | exact HB.out⟩
 ·rw [if_neg c4] at H
  have c4b0 : decide (a1 < 0) = false := decide_eq_false c4
  clear c4
  by_cases c5 : a1 ≥ (a0.size : Int)
  ·rw [if_pos c5] at H
   have c5b0 : decide ((a0.size : Int) ≤ a1) = true := decide_eq_true c5
   clear c5
   obtain rfl := Option.some.inj H
   go_enter Try.func60, Try.ntmps60
   go_wp2
   go_ret
   exact ⟨by first | rfl | (simp [*, errW_none, errW_some] <;> rfl), by repeat first | with_reducible (first | exact HB.out | apply bA | apply bN | apply bD) | exact HB.out⟩
  ·rw [if_neg c5] at H
   have c5b0 : decide ((a0.size : Int) ≤ a1) = false := decide_eq_false c5
   clear c5
   by_cases c6 : a2 < 1
   ·rw [if_pos c6] at H
    have c6b0 : decide (a2 < 1) = true := decide_eq_true c6
    clear c6
    obtain rfl := Option.some.inj H
    go_enter Try.func60, Try.ntmps60
    go_wp2
    go_ret
    exact ⟨by first | rfl | (simp [*, errW_none, errW_some] <;> rfl), by repeat first | with_reducible (first | exact HB.out | apply bA | apply bN | apply bD) | exact HB.out⟩
   ·rw [if_neg c6] at H
    have c6b0 : decide (a2 < 1) = false := decide_eq_false c6
    clear c6
    obtain ⟨ji7, hji7⟩ : ∃ j_ : Int, (mn a2 (wrap64 ((a0.size : Int) - a1))) = j_ := ⟨_, rfl⟩
    replace H : (if 0 ≤ a1 then (if a1 ≤ (wrap64 (a1 + (ji7))) then (if (wrap64 (a1 + (ji7))) ≤ (a0.size : Int) then (some (a0.extract (a1 : Int).toNat ((wrap64 (a1 + (ji7))) : Int).toNat)) else (none)) else (none)) else (none)) = some r := by first | (rw [hji7] at H; exact H) | (simp only [hji7] at H ⊢; exact H)
    have hji7_ : (if (wrap64 ((a0.size : Int) - a1)) < a2 then (wrap64 ((a0.size : Int) - a1)) else a2) = ji7 := hji7
    by_cases c8 : 0 ≤ a1
    ·rw [if_pos c8] at H
     have c8b0 := eq_true c8
     have c8b1 : decide (0 ≤ a1) = true := decide_eq_true c8
     clear c8
     by_cases c9 : a1 ≤ (wrap64 (a1 + (ji7)))
     ·rw [if_pos c9] at H
      have c9b0 := eq_true c9
      have c9b1 : decide (a1 ≤ (wrap64 (a1 + (ji7)))) = true := decide_eq_true c9
      by_cases c10 : (wrap64 (a1 + (ji7))) ≤ (a0.size : Int)
      ·rw [if_pos c10] at H
       have c10b0 := eq_true c10
       have c10b1 : decide ((wrap64 (a1 + (ji7))) ≤ (a0.size : Int)) = true := decide_eq_true c10
       obtain rfl := Option.some.inj H
       go_enter Try.func60, Try.ntmps60
       go_wp2
       go_ret
       exact ⟨by first | rfl | (simp [errW_none, errW_some] <;> rfl) | (simp only [← hji7]; first | rfl | (simp [errW_none, errW_some] <;> rfl)) | (simp [*, errW_none, errW_some] <;> rfl), by repeat first | with_reducible (first | exact HB.out | apply bA | apply bN | apply bD) | exact HB.out⟩
      ·rw [if_neg c10] at H
       exact absurd H (by simp)
     ·rw [if_neg c9] at H
      exact absurd H (by simp)
    ·rw [if_neg c8] at H
     exact absurd H (by simp)

mutual
def clavigerref01_Put.j0 : Nat → Int → Int → Bool → Option (ByteArray)
 | 0, _, _, _ => none
 | k + 1, x0, x1, x12 => if x12 = true then (some (⟨#[]⟩ : ByteArray)) else (clavigerref01_Put.l0 k x0 x1 (⟨#[]⟩ : ByteArray) 0)
def clavigerref01_Put.l0 : Nat → Int → Int → ByteArray → Int → Option (ByteArray)
 | 0, _, _, _, _ => none
 | k + 1, x0, x1, x5, x6 => if x6 < x1 then ((some (([(Int.tmod x0 256) % 256] : List Int) : List Int)).bind fun y1 => (if (strOfNums y1).size + x5.size ≤ 9223372036854775807 then (clavigerref01_Put.l0 k (IntKind.u64.wrap (Int.tdiv x0 256)) x1 ((strOfNums y1) ++ x5) (wrap64 (x6 + 1))) else (none))) else (some x5)
end
def clavigerref01_Put.f (k : Nat) (a0 : Int) (a1 : Int) : Option (ByteArray) := if a1 < 1 then (clavigerref01_Put.j0 k a0 a1 true) else (clavigerref01_Put.j0 k a0 a1 (decide (a1 > 8)))
theorem clavigerref01_Put.mono_l : ∀ k, (∀ y2 y3 y4, LeO (clavigerref01_Put.j0 k y2 y3 y4) (clavigerref01_Put.j0 (k + 1) y2 y3 y4)) ∧ (∀ y2 y3 y4 y5, LeO (clavigerref01_Put.l0 k y2 y3 y4 y5) (clavigerref01_Put.l0 (k + 1) y2 y3 y4 y5))
 | 0 => ⟨fun _ _ _ r h => by simp [clavigerref01_Put.j0] at h, fun _ _ _ _ r h => by simp [clavigerref01_Put.l0] at h⟩
 | k + 1 => by
  obtain ⟨ih0, ih1⟩ := clavigerref01_Put.mono_l k
  refine ⟨?_, ?_⟩
  ·intro y2 y3 y4
   unfold clavigerref01_Put.j0
   repeat' first
   | (with_reducible exact ih0 _ _ _)
   | (with_reducible exact ih1 _ _ _ _)
   | (with_reducible exact LeO.refl _)
   | (with_reducible exact LeO.none _)
   | (with_reducible refine LeO.ite ?_ ?_)
   | (with_reducible refine LeO.bind ?_ (fun _ => ?_))
  ·intro y2 y3 y4 y5
   unfold clavigerref01_Put.l0
   repeat' first
   | (with_reducible exact ih0 _ _ _)
   | (with_reducible exact ih1 _ _ _ _)
   | (with_reducible exact LeO.refl _)
   | (with_reducible exact LeO.none _)
   | (with_reducible refine LeO.ite ?_ ?_)
   | (with_reducible refine LeO.bind ?_ (fun _ => ?_))
theorem clavigerref01_Put.mono : ∀ a0 a1 k, LeO (clavigerref01_Put.f k a0 a1) (clavigerref01_Put.f (k + 1) a0 a1) := by
 intro a0 a1 k
 obtain ⟨ih0, ih1⟩ := clavigerref01_Put.mono_l k
 unfold clavigerref01_Put.f
 repeat' first
   | (with_reducible exact ih0 _ _ _)
   | (with_reducible exact ih1 _ _ _ _)
   | (with_reducible exact LeO.refl _)
   | (with_reducible exact LeO.none _)
   | (with_reducible refine LeO.ite ?_ ?_)
   | (with_reducible refine LeO.bind ?_ (fun _ => ?_))
set_option maxHeartbeats 8000000 in
set_option maxRecDepth 100000 in
theorem clavigerref01_Put.calls (k : Nat) (a0 : Int) (a1 : Int) (r : ByteArray) (w : World) (h : clavigerref01_Put.f k a0 a1 = some r) :
  Calls Try.prog 68 #[.int .u64 a0, .int .i64 a1] w fun e w' => e = .returned (.string r) ∧ Below w.heap.size w w' := by
 have HB := Aside0.mk (Below.refl w.heap.size w)
 have H : (if a1 < 1 then (clavigerref01_Put.j0 k a0 a1 true) else (clavigerref01_Put.j0 k a0 a1 (decide (a1 > 8)))) = some r := h
 clear h
 have HC3 := Aside0.mk H
 clear H
 go_enter Try.func68, Try.ntmps68
 go_upto_region 1 with (fail)
 go_cut [12] (fun v12 wc => ∃ (kq : Nat) (x12_2 : Bool), v12 = .bool x12_2 ∧ Aside0 (clavigerref01_Put.j0 kq a0 a1 x12_2 = some r) ∧ Aside0 (kq ≤ k) ∧ Aside0 (Below w.heap.size w wc))
 case first =>
  have H := HC3.out
  clear HC3
  by_cases c4 : a1 < 1
  ·rw [if_pos c4] at H
   have c4b0 : decide (a1 < 1) = true := decide_eq_true c4
   clear c4
   (first | rw [c4b0] | (simp only [i64_w, i32_w]; rw [c4b0]) | skip)
   have H' := Aside0.mk H
   clear H
   go_wp2
   go_meet
   case rel => exact ⟨_, (true), (by first | rfl | (simp; done) | (simp [*]; done)), H', ⟨by first | omega | exact Nat.le_refl _⟩, ⟨by repeat first | with_reducible (first | exact HB.out | apply bA | apply bN | apply bD) | exact HB.out⟩⟩
  ·rw [if_neg c4] at H
   have c4b0 : decide (a1 < 1) = false := decide_eq_false c4
   clear c4
   (first | rw [c4b0] | (simp only [i64_w, i32_w]; rw [c4b0]) | skip)
   have H' := Aside0.mk H
   clear H
   go_wp2
   go_meet
   case rel => exact ⟨_, (decide (a1 > 8)), (by first | rfl | (simp; done) | (simp [*]; done)), H', ⟨by first | omega | exact Nat.le_refl _⟩, ⟨by repeat first | with_reducible (first | exact HB.out | apply bA | apply bN | apply bD) | exact HB.out⟩⟩
 case rest =>
  clear HC3
  try clear p2
  try clear c4
  try clear c4b0
  obtain ⟨kq, x12_2, rfl, HA, HJ2, HB⟩ := hcut
  cases kq with
  | zero => exact absurd HA.out (by simp [clavigerref01_Put.j0])
  | succ kj2 =>
   have H := HA.out
   clear HA
   simp only [clavigerref01_Put.j0] at H
   by_cases c5 : x12_2 = true
   ·subst c5
    have H1 : (some (⟨#[]⟩ : ByteArray)) = some r := by rw [if_pos rfl] at H; exact H
    clear H
    have H := H1
    clear H1
    obtain rfl := Option.some.inj H
    go_wp2
    go_ret
    exact ⟨by first | rfl | (simp [*, errW_none, errW_some] <;> rfl), by repeat first | with_reducible (first | exact HB.out | apply bA | apply bN | apply bD) | exact HB.out⟩
   ·replace c5 := Bool.eq_false_iff.mpr c5
    subst c5
    have H1 : (clavigerref01_Put.l0 kj2 a0 a1 (⟨#[]⟩ : ByteArray) 0) = some r := by rw [if_neg (show ¬ (false = true) by decide)] at H; exact H
    clear H
    have H := H1
    clear H1
    have H' := Aside0.mk H
    clear H
    go_wp2
    go_loopg [0, 5, 6] kj2 (fun kq v0 v5 v6 w' => ∃ (x0_2 : Int) (x5_2 : ByteArray) (x6_2 : Int), v0 = .int .u64 x0_2 ∧ v5 = .string x5_2 ∧ v6 = .int .i64 x6_2 ∧ Aside0 (clavigerref01_Put.l0 kq x0_2 a1 x5_2 x6_2 = some r) ∧ Aside0 (kq ≤ kj2) ∧ Aside0 (Below w.heap.size w w'))
    case atStart => exact ⟨(a0), ((⟨#[]⟩ : ByteArray)), (0), (by first | rfl | (simp; done) | (simp [*]; done)), (by first | rfl | (simp; done) | (simp [*]; done)), (by first | rfl | (simp; done) | (simp [*]; done)), H', ⟨Nat.le_refl _⟩, ⟨by repeat first | with_reducible (first | exact HB.out | apply bA | apply bN | apply bD) | exact HB.out⟩⟩
    case round =>
     clear H'
     try clear p2
     try clear c4
     try clear c4b0
     try clear c5
     try clear p2
     obtain ⟨x0_2, x5_2, x6_2, rfl, rfl, rfl, HA, HK2, HB⟩ := hrel
     cases gk with
     | zero => exact absurd HA.out (by simp [clavigerref01_Put.l0])
     | succ k2 =>
      have H := HA.out
      clear HA
      simp only [clavigerref01_Put.l0] at H
      by_cases c6 : x6_2 < a1
      ·rw [if_pos c6] at H
       have c6b0 : decide (x6_2 < a1) = true := decide_eq_true c6
       clear c6
       obtain ⟨y1, hy1⟩ : ∃ y_ : List Int, y_ = (([(Int.tmod x0_2 256) % 256] : List Int)) := ⟨_, rfl⟩
       replace H : (if (strOfNums y1).size + x5_2.size ≤ 9223372036854775807 then (clavigerref01_Put.l0 k2 (IntKind.u64.wrap (Int.tdiv x0_2 256)) a1 ((strOfNums y1) ++ x5_2) (wrap64 (x6_2 + 1))) else (none)) = some r := by first | (rw [hy1]; with_reducible exact H) | (have H2_ := (Option.bind_some _ _).symm.trans H; rw [hy1]; with_reducible exact H2_) | (have H2_ := (Option.bind_some _ _).symm.trans H; with_reducible exact H2_) | with_reducible exact H | (rw [hy1]; exact H) | exact H
       have Ny5001 := Aside0.mk hy1
       clear hy1
       by_cases c7 : (strOfNums y1).size + x5_2.size ≤ 9223372036854775807
       ·rw [if_pos c7] at H
        have c7b0 := eq_true c7
        have c7b1 : decide ((strOfNums y1).size + x5_2.size ≤ 9223372036854775807) = true := decide_eq_true c7
        try have c7b2 : (9223372036854775807 < (strOfNums y1).size + x5_2.size) = False := eq_false (Nat.not_lt.2 c7)
        have H' := Aside0.mk H
        clear H
        go_wp2_with (first | ((with_reducible refine gate_dst (N := 21) rfl ?_); refine Kd.R_lit (Kd.int .u8) _ 5 ?hg (N := 21) ?hd (xs := ([(Int.tmod x0_2 256) % 256] : List Int)) (inner := [.int .u8 ((Int.tmod x0_2 256) % 256)]) (ok := fun _ => True) (okp := fun _ => True) ?hr ?hp (fun _ hk => hk) trivial (Below.refl _ _) (Nat.le_refl _) (by simp) ?_; (case hd => rfl); (case hg => rfl); (case hr => first | (go_simp; done) | (go_simp; rfl)); (case hp => exact (Reps.one (show Kd.M (Kd.int .u8) _ _ _ ((Int.tmod x0_2 256) % 256) [.int .u8 ((Int.tmod x0_2 256) % 256)] from rfl) (Reps.none _ _))); intro v241 w8 ho9 hb hg_ hnew_; clear hg_ hnew_; (first | rw [← Ny5001.out] at ho9 | (simp only [Int.reduceToNat] at ho9; rw [← Ny5001.out] at ho9)); have n0_ := Aside0.mk (Kd.R_lower ho9 (below_size (by repeat first | with_reducible (first | exact HB.out | apply bA | apply bN | apply bD) | exact HB.out))); have n1_ := Aside0.mk (below_step (by repeat first | with_reducible (first | exact HB.out | apply bA | apply bN | apply bD) | exact HB.out) hb); clear HB; have HO242 := n0_; have HB := n1_; clear n0_ n1_; clear hb ho9; have hcv10 := own_string (P := Try.prog) Try.underlying91 Try.underlying5 Try.underlying9 (Kd.own_of_R HO242.out)))
        go_roundg k2
        case measure => have := HJ2.out; have := HK2.out; omega
        case rel => exact ⟨(IntKind.u64.wrap (Int.tdiv x0_2 256)), ((strOfNums y1) ++ x5_2), (wrap64 (x6_2 + 1)), (by first | rfl | (simp; done) | (simp [*]; done)), (by first | rfl | (simp; done) | (simp [*]; done)), (by first | rfl | (simp; done) | (simp [*]; done)), H', ⟨by have := HJ2.out; have := HK2.out; omega⟩, ⟨by repeat first | with_reducible (first | exact HB.out | apply bA | apply bN | apply bD) | exact HB.out⟩⟩
       ·rw [if_neg c7] at H
        exact absurd H (by simp)
      ·rw [if_neg c6] at H
       have c6b0 : decide (x6_2 < a1) = false := decide_eq_false c6
       clear c6
       obtain rfl := Option.some.inj H
       go_wp2
       go_ret
       exact ⟨by first | rfl | (simp [*, errW_none, errW_some] <;> rfl), by repeat first | with_reducible (first | exact HB.out | apply bA | apply bN | apply bD) | exact HB.out⟩

mutual
def clavigerref01_Get.j0 : Nat → ByteArray → Bool → Option (Int × Bool)
 | 0, _, _ => none
 | k + 1, x0, x13 => if x13 = true then (some (0, false)) else (clavigerref01_Get.l0 k x0 0 0)
def clavigerref01_Get.l0 : Nat → ByteArray → Int → Int → Option (Int × Bool)
 | 0, _, _, _ => none
 | k + 1, x0, x4, x5 => if x5 < (x0.size : Int) then (if 0 ≤ x5 then (clavigerref01_Get.l0 k x0 (IntKind.u64.wrap ((IntKind.u64.wrap (x4 * 256)) + (IntKind.u64.wrap (bt x0 x5)))) (wrap64 (x5 + 1))) else (none)) else (some (x4, true))
end
def clavigerref01_Get.f (k : Nat) (a0 : ByteArray) : Option (Int × Bool) := if (a0.size : Int) < 1 then (clavigerref01_Get.j0 k a0 true) else (clavigerref01_Get.j0 k a0 (decide ((a0.size : Int) > 8)))
theorem clavigerref01_Get.mono_l : ∀ k, (∀ y1 y2, LeO (clavigerref01_Get.j0 k y1 y2) (clavigerref01_Get.j0 (k + 1) y1 y2)) ∧ (∀ y1 y2 y3, LeO (clavigerref01_Get.l0 k y1 y2 y3) (clavigerref01_Get.l0 (k + 1) y1 y2 y3))
 | 0 => ⟨fun _ _ r h => by simp [clavigerref01_Get.j0] at h, fun _ _ _ r h => by simp [clavigerref01_Get.l0] at h⟩
 | k + 1 => by
  obtain ⟨ih0, ih1⟩ := clavigerref01_Get.mono_l k
  refine ⟨?_, ?_⟩
  ·intro y1 y2
   unfold clavigerref01_Get.j0
   repeat' first
   | (with_reducible exact ih0 _ _)
   | (with_reducible exact ih1 _ _ _)
   | (with_reducible exact LeO.refl _)
   | (with_reducible exact LeO.none _)
   | (with_reducible refine LeO.ite ?_ ?_)
   | (with_reducible refine LeO.bind ?_ (fun _ => ?_))
  ·intro y1 y2 y3
   unfold clavigerref01_Get.l0
   repeat' first
   | (with_reducible exact ih0 _ _)
   | (with_reducible exact ih1 _ _ _)
   | (with_reducible exact LeO.refl _)
   | (with_reducible exact LeO.none _)
   | (with_reducible refine LeO.ite ?_ ?_)
   | (with_reducible refine LeO.bind ?_ (fun _ => ?_))
theorem clavigerref01_Get.mono : ∀ a0 k, LeO (clavigerref01_Get.f k a0) (clavigerref01_Get.f (k + 1) a0) := by
 intro a0 k
 obtain ⟨ih0, ih1⟩ := clavigerref01_Get.mono_l k
 unfold clavigerref01_Get.f
 repeat' first
   | (with_reducible exact ih0 _ _)
   | (with_reducible exact ih1 _ _ _)
   | (with_reducible exact LeO.refl _)
   | (with_reducible exact LeO.none _)
   | (with_reducible refine LeO.ite ?_ ?_)
   | (with_reducible refine LeO.bind ?_ (fun _ => ?_))
mutual
def octets_Get.j0 : Nat → ByteArray → Bool → Option (Int × Bool)
 | 0, _, _ => none
 | k + 1, x0, x13 => if x13 = true then (some (0, false)) else (octets_Get.l0 k x0 0 (x0.size : Int) 0)
def octets_Get.l0 : Nat → ByteArray → Int → Int → Int → Option (Int × Bool)
 | 0, _, _, _, _ => none
 | k + 1, x0, x4, x15, x16 => if x16 < x15 then (if 0 ≤ x16 then (if x16 < (x0.size : Int) then (octets_Get.l0 k x0 (Go.bits .or .u64 (IntKind.u64.wrap (x4 * 256)) (IntKind.u64.wrap (bt x0 x16))) x15 (wrap64 (x16 + 1))) else (none)) else (none)) else (some (x4, true))
end
def octets_Get.f (k : Nat) (a0 : ByteArray) : Option (Int × Bool) := if (a0.size : Int) = 0 then (octets_Get.j0 k a0 true) else (octets_Get.j0 k a0 (decide ((a0.size : Int) > 8)))
theorem octets_Get.mono_l : ∀ k, (∀ y1 y2, LeO (octets_Get.j0 k y1 y2) (octets_Get.j0 (k + 1) y1 y2)) ∧ (∀ y1 y2 y3 y4, LeO (octets_Get.l0 k y1 y2 y3 y4) (octets_Get.l0 (k + 1) y1 y2 y3 y4))
 | 0 => ⟨fun _ _ r h => by simp [octets_Get.j0] at h, fun _ _ _ _ r h => by simp [octets_Get.l0] at h⟩
 | k + 1 => by
  obtain ⟨ih0, ih1⟩ := octets_Get.mono_l k
  refine ⟨?_, ?_⟩
  ·intro y1 y2
   unfold octets_Get.j0
   repeat' first
   | (with_reducible exact ih0 _ _)
   | (with_reducible exact ih1 _ _ _ _)
   | (with_reducible exact LeO.refl _)
   | (with_reducible exact LeO.none _)
   | (with_reducible refine LeO.ite ?_ ?_)
   | (with_reducible refine LeO.bind ?_ (fun _ => ?_))
  ·intro y1 y2 y3 y4
   unfold octets_Get.l0
   repeat' first
   | (with_reducible exact ih0 _ _)
   | (with_reducible exact ih1 _ _ _ _)
   | (with_reducible exact LeO.refl _)
   | (with_reducible exact LeO.none _)
   | (with_reducible refine LeO.ite ?_ ?_)
   | (with_reducible refine LeO.bind ?_ (fun _ => ?_))
theorem octets_Get.mono : ∀ a0 k, LeO (octets_Get.f k a0) (octets_Get.f (k + 1) a0) := by
 intro a0 k
 obtain ⟨ih0, ih1⟩ := octets_Get.mono_l k
 unfold octets_Get.f
 repeat' first
   | (with_reducible exact ih0 _ _)
   | (with_reducible exact ih1 _ _ _ _)
   | (with_reducible exact LeO.refl _)
   | (with_reducible exact LeO.none _)
   | (with_reducible refine LeO.ite ?_ ?_)
   | (with_reducible refine LeO.bind ?_ (fun _ => ?_))
set_option maxHeartbeats 8000000 in
set_option maxRecDepth 100000 in
theorem octets_Get.calls (k : Nat) (a0 : ByteArray) (r1 : Int) (r2 : Bool) (w : World) (h : octets_Get.f k a0 = some (r1, r2)) :
  Calls Try.prog 83 #[.string a0] w fun e w' => e = .returned (.tuple #[.int .u64 r1, .bool r2]) ∧ Drawn0 w w' := by
 have H : (if (a0.size : Int) = 0 then (octets_Get.j0 k a0 true) else (octets_Get.j0 k a0 (decide ((a0.size : Int) > 8)))) = some (r1, r2) := h
 clear h
 have HC2 := Aside0.mk H
 clear H
 go_enter Try.func83, Try.ntmps83
 go_upto_region 1 with (fail)
 go_cut [13] (fun v13 wc => ∃ (kq : Nat) (x13_1 : Bool), v13 = .bool x13_1 ∧ Aside0 (octets_Get.j0 kq a0 x13_1 = some (r1, r2)) ∧ Aside0 (kq ≤ k) ∧ Drawn0 w wc)
 case first =>
  have H := HC2.out
  clear HC2
  by_cases c3 : (a0.size : Int) = 0
  ·rw [if_pos c3] at H
   have c3b0 : ((a0.size : Int) == 0) = true := beq_iff_eq.mpr c3
   have c3b1 : ((a0.size : Int) != 0) = false := bne_eq_false_iff_eq.mpr c3
   clear c3
   (first | rw [c3b0] | (simp only [i64_w, i32_w]; rw [c3b0]) | skip)
   have H' := Aside0.mk H
   clear H
   go_wp2
   go_meet
   case rel => exact ⟨_, (true), (by first | rfl | (simp; done) | (simp [*]; done)), H', ⟨by first | omega | exact Nat.le_refl _⟩, by repeat (first | exact Drawn0.refl _ | apply Drawn0.step)⟩
  ·rw [if_neg c3] at H
   have c3b0 : ((a0.size : Int) == 0) = false := beq_eq_false_iff_ne.mpr c3
   have c3b1 : ((a0.size : Int) != 0) = true := bne_iff_ne.mpr c3
   (first | rw [c3b0] | (simp only [i64_w, i32_w]; rw [c3b0]) | skip)
   have H' := Aside0.mk H
   clear H
   go_wp2
   go_meet
   case rel => exact ⟨_, (decide ((a0.size : Int) > 8)), (by first | rfl | (simp; done) | (simp [*]; done)), H', ⟨by first | omega | exact Nat.le_refl _⟩, by repeat (first | exact Drawn0.refl _ | apply Drawn0.step)⟩
 case rest =>
  clear HC2
  try clear p2
  try clear c3
  try clear c3b0
  try clear c3b1
  obtain ⟨kq, x13_1, rfl, HA, HJ1, ⟨mc1, rfl⟩⟩ := hcut
  cases kq with
  | zero => exact absurd HA.out (by simp [octets_Get.j0])
  | succ kj1 =>
   have H := HA.out
   clear HA
   simp only [octets_Get.j0] at H
   by_cases c4 : x13_1 = true
   ·subst c4
    have H1 : (some (0, false)) = some (r1, r2) := by rw [if_pos rfl] at H; exact H
    clear H
    have H := H1
    clear H1
    simp only [Option.some.injEq, Prod.mk.injEq] at H
    obtain ⟨rfl, rfl⟩ := H
    go_wp2
    go_ret2
    exact ⟨by first | rfl | (simp; done) | (simp [*]; done) | (simp [IntKind.wrap_u8, IntKind.wrap_i64, wrap64]; done), by repeat (first | exact Drawn0.refl _ | apply Drawn0.step)⟩
   ·replace c4 := Bool.eq_false_iff.mpr c4
    subst c4
    have H1 : (octets_Get.l0 kj1 a0 0 (a0.size : Int) 0) = some (r1, r2) := by rw [if_neg (show ¬ (false = true) by decide)] at H; exact H
    clear H
    have H := H1
    clear H1
    have H' := Aside0.mk H
    clear H
    go_wp2
    go_loopg [4, 16] kj1 (fun kq v4 v16 w' => ∃ (x4_2 : Int) (x16_2 : Int), v4 = .int .u64 x4_2 ∧ v16 = .int .i64 x16_2 ∧ Aside0 (octets_Get.l0 kq a0 x4_2 (a0.size : Int) x16_2 = some (r1, r2)) ∧ Aside0 (kq ≤ kj1) ∧ Drawn0 w w')
    case atStart => exact ⟨(0), (0), (by first | rfl | (simp; done) | (simp [*]; done)), (by first | rfl | (simp; done) | (simp [*]; done)), H', ⟨Nat.le_refl _⟩, by repeat (first | exact Drawn0.refl _ | apply Drawn0.step)⟩
    case round =>
     clear H'
     try clear c1
     try clear p2
     try clear c3
     try clear c3b0
     try clear c3b1
     try clear c4
     try clear p2
     obtain ⟨x4_2, x16_2, rfl, rfl, HA, HK2, ⟨m2, rfl⟩⟩ := hrel
     cases gk with
     | zero => exact absurd HA.out (by simp [octets_Get.l0])
     | succ k2 =>
      have H := HA.out
      clear HA
      simp only [octets_Get.l0] at H
      by_cases c5 : x16_2 < (a0.size : Int)
      ·rw [if_pos c5] at H
       have c5b0 : decide (x16_2 < (a0.size : Int)) = true := decide_eq_true c5
       clear c5
       by_cases c6 : 0 ≤ x16_2
       ·rw [if_pos c6] at H
        have c6b0 : decide (0 ≤ x16_2) = true := decide_eq_true c6
        clear c6
        by_cases c7 : x16_2 < (a0.size : Int)
        ·rw [if_pos c7] at H
         have c7b0 : decide (x16_2 < (a0.size : Int)) = true := decide_eq_true c7
         clear c7
         have H' := Aside0.mk H
         clear H
         have p8 : 0 ≤ (x16_2 : Int) := of_decide_eq_true (by assumption)
         have q8 : x16_2 < (a0.size : Int) := of_decide_eq_true (by assumption)
         have hx8 := bt_at a0 x16_2
         replace p8 := eq_true p8
         replace q8 := eq_true q8
         go_wp2
         go_roundg k2
         case measure => have := HJ1.out; have := HK2.out; omega
         case rel => exact ⟨(Go.bits .or .u64 (IntKind.u64.wrap (x4_2 * 256)) (IntKind.u64.wrap (bt a0 x16_2))), (wrap64 (x16_2 + 1)), (by first | rfl | (simp; done) | (simp [*]; done)), (by first | rfl | (simp; done) | (simp [*]; done)), H', ⟨by have := HJ1.out; have := HK2.out; omega⟩, by repeat (first | exact Drawn0.refl _ | apply Drawn0.step)⟩
        ·rw [if_neg c7] at H
         exact absurd H (by simp)
       ·rw [if_neg c6] at H
        exact absurd H (by simp)
      ·rw [if_neg c5] at H
       have c5b0 : decide (x16_2 < (a0.size : Int)) = false := decide_eq_false c5
       clear c5
       simp only [Option.some.injEq, Prod.mk.injEq] at H
       obtain ⟨rfl, rfl⟩ := H
       go_wp2
       go_ret2
       exact ⟨by first | rfl | (simp; done) | (simp [*]; done) | (simp [IntKind.wrap_u8, IntKind.wrap_i64, wrap64]; done), by repeat (first | exact Drawn0.refl _ | apply Drawn0.step)⟩

end Go.Proofs.Ytmcpfkgahmdkgaa.Pr
end
section
namespace Go.Proofs.Ytmcpfkgahmdkgaa.M
open Go.RowKit Go.Proofs.Ytmcpfkgahmdkgaa.Pr Go.Proofs.YtmcpfkgahmdkgaaW.PrintWords Go.Proofs.YtmcpfkgahmdkgaaW.PrintLast Go.Proofs.YtmcpfkgahmdkgaaW.PrintMore
set_option linter.unusedSimpArgs false
theorem sNs1 (q : Nat) : strOfNums [((q : Nat) : Int)] = mkB [q] := strOfNums_cast [q]
theorem evu {α : Type} {g : Nat → Option α} {r : α} (h : Ev (fun k => g (k + 1)) r) : Ev g r := Ev.step (f := fun k => g (k + 1)) (fun _ => rfl) h
/-- The lowest bytes of a number, the greatest first. -/
def lowL (u : Nat) : Nat → List Nat
  | 0 => []
  | i + 1 => u / 256 ^ i % 256 :: lowL u i
theorem lowL_length (u : Nat) : ∀ i, (lowL u i).length = i
  | 0 => rfl
  | i + 1 => by simp [lowL, lowL_length u i]
theorem isB_lowL (u : Nat) : ∀ i, isB (lowL u i)
  | 0 => fun x hx => by cases hx
  | i + 1 => fun x hx => by
    rcases List.mem_cons.1 hx with rfl | hx
    · exact Nat.mod_lt _ (by omega)
    · exact isB_lowL u i x hx
theorem put_1 (u : Nat) : octets_Put.f (u : Int) 1 = some (mkB (lowL u 1)) := by
  unfold octets_Put.f
  rw [if_neg (by decide), if_neg (by decide)]
  show some (strOfNums [(u : Int) % 256]) = some (mkB [u / 1 % 256])
  rw [Nat.div_one, ← strOfNums_cast]
  rfl
theorem put_2 (u : Nat) : octets_Put.f (u : Int) 2 = some (mkB (lowL u 2)) := by
  unfold octets_Put.f
  rw [if_neg (by decide), if_neg (by decide)]
  show some (strOfNums [(u : Int) / 256 % 256, (u : Int) % 256]) = some (mkB [u / 256 % 256, u / 1 % 256])
  rw [Nat.div_one, ← strOfNums_cast]
  rfl
theorem rputL (u wd : Nat) (hu : u < 18446744073709551616) (hw : wd ≤ 8) (d : Nat) : ∀ i, wd - i = d → i ≤ wd → Ev (fun k => clavigerref01_Put.l0 k ((u / 256 ^ i : Nat) : Int) (wd : Int) (mkB (lowL u i)) (i : Int)) (mkB (lowL u wd)) := by
  induction d with
  | zero =>
    intro i hd hi
    obtain rfl : i = wd := by omega
    refine Ev.step (f := fun _ => some (mkB (lowL u i))) (fun k => ?_) (Ev.now _)
    simp only [clavigerref01_Put.l0]
    rw [if_neg (by omega)]
  | succ d ih =>
    intro i hd hi
    have hh := ih (i + 1) (by omega) (by omega)
    have hq : u / 256 ^ i ≤ u := Nat.div_le_self _ _
    have e1 : u / 256 ^ (i + 1) = u / 256 ^ i / 256 := by rw [Nat.pow_succ, Nat.div_div_eq_div_mul]
    have e2 : lowL u (i + 1) = u / 256 ^ i % 256 :: lowL u i := rfl
    rw [e1, e2] at hh
    generalize u / 256 ^ i = q at *
    have e3 : (Int.tmod (q : Int) 256) % 256 = ((q % 256 : Nat) : Int) := by rw [Int.tmod_eq_emod_of_nonneg (by omega)]; omega
    have e4 : IntKind.u64.wrap (Int.tdiv (q : Int) 256) = ((q / 256 : Nat) : Int) := by rw [Int.tdiv_eq_ediv_of_nonneg (by omega), IntKind.wrap_u64]; omega
    refine Ev.step (fun k => ?_) hh
    simp only [clavigerref01_Put.l0, e3, e4, Option.bind_some]
    rw [if_pos (by omega), sNs1, mkB_append, if_pos (by rw [mkB_size, mkB_size, lowL_length]; show 1 + i ≤ _; omega), wrap_id (by omega) (by omega)]
    rfl
theorem rput_c (u wd : Nat) (hu : u < 18446744073709551616) (hw : 1 ≤ wd) (hw2 : wd ≤ 8) : Ev (fun k => clavigerref01_Put.f k (u : Int) (wd : Int)) (mkB (lowL u wd)) := by
  unfold clavigerref01_Put.f
  refine evn (by omega) ?_
  have hh := rputL u wd hu hw2 _ 0 rfl (by omega)
  rw [Nat.pow_zero, Nat.div_one] at hh
  refine Ev.step (fun k => ?_) hh
  simp only [clavigerref01_Put.j0]
  rw [if_neg (by simp; omega)]
  rfl
/-- The number that so many bytes tell, behind a. -/
def valL : Nat → List Nat → Nat
  | a, [] => a
  | a, b :: l => valL (256 * a + b) l
end Go.Proofs.Ytmcpfkgahmdkgaa.M
end
section
namespace Go.Proofs.Ytmcpfkgahmdkgaa.Pr
open Go.RowKit Go.Proofs.YtmcpfkgahmdkgaaW.PrintWords Go.Proofs.YtmcpfkgahmdkgaaW.PrintLast Go.Proofs.YtmcpfkgahmdkgaaW.PrintMore
attribute [local go_sem] max2_int min2_int max_two min_two max_three min_three max_four min_four   -- for this text's walks alone
set_option linter.unusedVariables false
set_option linter.unusedSimpArgs false

theorem eqA102 (d : Nat) (w : World) (x0 y0 : Int) (x1 y1 : ByteArray) :
  (Op.equalIn (d + 2) 102 (.agg #[.int .i64 x0, .string x1]) (.agg #[.int .i64 y0, .string y1])).run Try.prog w = .ok (x0 == y0 && (x1.toList == y1.toList)) w := by
 refine eqA_of Try.underlying102 (by kernel_rfl) ?_
 refine eqf_cons (by rfl) (by go_simp; rfl) (by go_simp; rfl) (by go_simp) ?_
 exact eqf_last (by rfl) (by go_simp; rfl) (by go_simp; rfl) (by go_simp)
end Go.Proofs.Ytmcpfkgahmdkgaa.Pr
end
