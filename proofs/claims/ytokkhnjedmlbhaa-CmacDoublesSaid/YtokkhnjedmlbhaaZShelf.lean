-- several texts in one (by the session's program shake.py)
import Derived.Test.YtokkhnjedmlbhaaZWWords
import Derived.Test.YtokkhnjedmlbhaaZWLast
import Derived.Test.YtokkhnjedmlbhaaZWMore
import Derived.Test.YtokkhnjedmlbhaaProg
import Derived.Below
import Derived.Deep.Draws
import Derived.Deep.AppendLies
import Derived.Maps.AppendAt
import Derived.OwnWalk
import Derived.Laws.BytesArg
import Derived.Laws.MakeOwn
import Derived.Laws.OwnMore
import Derived.Deep.OwnRows
import Derived.Tactics
import Derived.Lib.ConvBytes
import Derived.Laws.Slices
import Derived.WalkKit
import Derived.KernelRfl
import Derived.RowKit3
import Derived.Deep.LoopGhost
import Derived.Deep.QuietTactic
import Derived.BigQuiet
import Derived.WideLaws
import Derived.Deep.DeepCutAuto
import Derived.Deep.CutBlock
import Derived.Deep.RegionHeld3
import Derived.Laws.Rows
import Derived.Lib.AppendStr
import Derived.ArgAppend
import Derived.Laws.IdiomCopy
import Derived.OrdersHeld
import Derived.Laws.BitsLemmas
import Derived.RowKit
import Derived.Test.YtokkhnjedmlbhaaZWTab
import Derived.Test.YtokkhnjedmlbhaaZWRepsOne
import Derived.Laws.BitsAllLaws
import Derived.Shelf.Strings.OnBuilder
import Derived.Shelf.Strings.BuilderK
import Derived.Shelf.Strings.Repeat
section
namespace Go.Proofs.YtokkhnjedmlbhaaHw
open Go.RowKit Go.Proofs.YtokkhnjedmlbhaaW.PrintWords
section
variable {P : Program} {ops : Array Oper} {rest : List Oper} {o : Oper} {a : Act} {Q : Exit → Act → World → Prop} {α : Type}
/-- make([]T, 0, c): a row of its own, with no element. -/
theorem R_make0 (d : Kd α) {w0 W : World} (base e : Nat) (hgd : o.guard = none) {N : Tmp} (_hd : o.dst = some N) (t : TypeId) (x y : Operand) (ho : o.op = .makeSlice t x y) (n : Int) (hx : a.eval x = .int .i64 0) (hy : a.eval y = .int .i64 n)
    (ht : P.underlying t = some (.slice e)) (z : Value) (bytes : Nat) (hinfo : (P.info? e).map (fun i => (i.zero, i.size, i.bytes)) = some (some z, d.sz, bytes)) (_hz : z.cells.size = d.sz) (_hs0 : 0 < d.sz) (_hb0 : 0 < bytes)
    {ok okp : Nat → Prop} (_hok : ∀ k, okp k → ok k) (hfresh : ok W.heap.size) (h0 : 0 ≤ n) (hl : n * (bytes : Int) ≤ 281474976710656) (HB : Below base w0 W) (hbase : base ≤ W.heap.size)
    (h : ∀ v1 w1, d.R e w1 base ok v1 ([] : List α) → Below base w0 w1 → W.grownBy w1 none → (∃ b, v1.ownBlock = some b ∧ W.heap.size ≤ b) → wpList P ops Q rest (a.put o.dst v1) w1) : wpList P ops Q (o :: rest) a W := by
  obtain ⟨m, rfl⟩ := Int.eq_ofNat_of_zero_le h0
  obtain ⟨i0, hi, hzz⟩ := Option.map_eq_some_iff.1 hinfo
  simp only [Prod.mk.injEq] at hzz
  obtain ⟨hz0, hz1, hz2⟩ := hzz
  have hl' : m * bytes ≤ 281474976710656 := by
    have h3 : ((m * bytes : Nat) : Int) ≤ 281474976710656 := by rw [Int.natCast_mul]; exact hl
    omega
  have hm : m ≤ 281474976710656 := Nat.le_trans (Nat.le_mul_of_pos_right _ _hb0) hl'
  have hr := run_make (P := P) W t e i0 z ht hi hz0 .i64 .i64 0 (m : Int) (Int.le_refl _) (by omega)
    (by
      have h3 : ((i0.bytes * m : Nat) : Int) ≤ 281474976710656 := by rw [hz2, Nat.mul_comm]; omega
      rwa [Int.natCast_mul] at h3) (by omega)
  simp only [Int.toNat_zero, Int.toNat_natCast] at hr
  rw [hz1] at hr
  have hown := World.ownsRow_made (base := base) (e := e) (size := d.sz) W (madeCells z.cells (m * d.sz)) m hbase (by simp [maxLen]; omega) (size_madeCells _ _)
  refine Kd.event_run (w1 := W.alloc (.cells (madeCells z.cells (m * d.sz)) e)) (v := .slice (some ⟨W.heap.size, 0, none⟩) 0 m) hgd (by simp [execOp, ho, hx, hy, hr]) ?_
  refine h _ _ ⟨fun k hk => ?_, [], by simpa using hown, Reps.none _ _⟩ (HB.alloc hbase _) (World.grownBy_alloc W _ none) ⟨W.heap.size, by simp [Value.ownBlock], Nat.le_refl _⟩
  have : W.heap.size = k := by simpa [Value.ownBlock] using hk
  subst this
  exact hfresh
end
end Go.Proofs.YtokkhnjedmlbhaaHw
end
section
namespace Go.Proofs.Ytokkhnjedmlbhaa.Pr
open Go.RowKit Go.Proofs.YtokkhnjedmlbhaaW.PrintWords Go.Proofs.YtokkhnjedmlbhaaW.PrintLast Go.Proofs.YtokkhnjedmlbhaaW.PrintMore
attribute [local go_sem] max2_int min2_int max_two min_two max_three min_three max_four min_four   -- for this text's walks alone
set_option linter.unusedVariables false
set_option linter.unusedSimpArgs false

def errW : Option Int → Value
 | none => .nilIface
 | some c => .iface 0 (.int .i64 c)
theorem errW_none : errW none = .nilIface := rfl
theorem errW_some (c : Int) : errW (some c) = .iface 0 (.int .i64 c) := rfl

theorem info5 : (Try.prog.info? 5).map (fun i => (i.zero, i.size, i.bytes)) = some (some (.int .u8 0), 1, 1) := by kernel_rfl
theorem info9 : (Try.prog.info? 9).map (fun i => (i.zero, i.size, i.bytes)) = some (some (.string ⟨#[]⟩), 1, 16) := by kernel_rfl
-- the values' own types
theorem bA {w W : World} (h : Below w.heap.size w W) (o : Obj) : Below w.heap.size w (W.alloc o) := below_alloc h o
theorem lT {α β : Type} {f : α → β} {l : List α} : l.toArray.map f = (l.map f).toArray := List.map_toArray
theorem lC {α β : Type} {f : α → β} {a : α} {l : List α} : (a :: l).map f = f a :: l.map f := List.map_cons
theorem lN {α β : Type} {f : α → β} : ([] : List α).map f = [] := List.map_nil
theorem bN {B : Nat} {w W : World} (h : Below B w W) (n : Nat) : Below B w (W.drewN n) := pw_below_drewN h n
theorem bD {B : Nat} {w W : World} (h : Below B w W) : Below B w W.drew := below_drew1 h
end Go.Proofs.Ytokkhnjedmlbhaa.Pr
end
section
namespace Go.Proofs.Ytokkhnjedmlbhaa.Pr
open Go.RowKit Go.Proofs.YtokkhnjedmlbhaaW.PrintWords Go.Proofs.YtokkhnjedmlbhaaW.PrintLast Go.Proofs.YtokkhnjedmlbhaaW.PrintMore
attribute [local go_sem] max2_int min2_int max_two min_two max_three min_three max_four min_four   -- for this text's walks alone
set_option linter.unusedVariables false
set_option linter.unusedSimpArgs false

def field_Twice.f (a0 : Int) : Option (Int) := if (Go.bits .and .u8 a0 128) = 0 then (some ((a0 * 2) % 256)) else (some (Go.bits .xor .u8 ((a0 * 2) % 256) 27))
set_option maxHeartbeats 8000000 in
set_option maxRecDepth 100000 in
theorem field_Twice.calls (a0 : Int) (r : Int) (w : World) (h : field_Twice.f a0 = some r) :
  Calls Try.prog 41 #[.int .u8 a0] w fun e w' => e = .returned (.int .u8 r) ∧ Drawn0 w w' := by
 have H : (if (Go.bits .and .u8 a0 128) = 0 then (some ((a0 * 2) % 256)) else (some (Go.bits .xor .u8 ((a0 * 2) % 256) 27))) = some r := h
 clear h
 by_cases c2 : (Go.bits .and .u8 a0 128) = 0
 ·rw [if_pos c2] at H
  have c2b0 : ((Go.bits .and .u8 a0 128) == 0) = true := beq_iff_eq.mpr c2
  have c2b1 : ((Go.bits .and .u8 a0 128) != 0) = false := bne_eq_false_iff_eq.mpr c2
  clear c2
  obtain rfl := Option.some.inj H
  go_enter Try.func41, Try.ntmps41
  go_wp2
  go_ret
  exact ⟨by first | rfl | (simp; done) | (simp [*]; done) | (simp [IntKind.wrap_u8, IntKind.wrap_i64, wrap64]; done), by repeat (first | exact Drawn0.refl _ | apply Drawn0.step)⟩
 ·rw [if_neg c2] at H
  have c2b0 : ((Go.bits .and .u8 a0 128) == 0) = false := beq_eq_false_iff_ne.mpr c2
  have c2b1 : ((Go.bits .and .u8 a0 128) != 0) = true := bne_iff_ne.mpr c2
  obtain rfl := Option.some.inj H
  go_enter Try.func41, Try.ntmps41
  go_wp2
  go_ret
  exact ⟨by first | rfl | (simp; done) | (simp [*]; done) | (simp [IntKind.wrap_u8, IntKind.wrap_i64, wrap64]; done), by repeat (first | exact Drawn0.refl _ | apply Drawn0.step)⟩

def field_Log.l0 : Nat → Int → Int → Int → Option (Int × Bool)
 | 0, _, _, _ => none
 | k + 1, x0, x4, x5 => if x5 = x0 then (some (x4, true)) else ((field_Twice.f x5).bind fun t1 => (field_Log.l0 k x0 (wrap64 (x4 + 1)) (Go.bits .xor .u8 x5 t1)))
def field_Log.f (k : Nat) (a0 : Int) : Option (Int × Bool) := if a0 = 0 then (some (0, false)) else (field_Log.l0 k a0 0 1)
theorem field_Log.mono_l : ∀ k, (∀ y2 y3 y4, LeO (field_Log.l0 k y2 y3 y4) (field_Log.l0 (k + 1) y2 y3 y4))
 | 0 => fun _ _ _ r h => by simp [field_Log.l0] at h
 | k + 1 => by
  have ih0 := field_Log.mono_l k
  ·intro y2 y3 y4
   unfold field_Log.l0
   repeat' first
   | (with_reducible exact ih0 _ _ _)
   | (with_reducible exact LeO.refl _)
   | (with_reducible exact LeO.none _)
   | (with_reducible refine LeO.ite ?_ ?_)
   | (with_reducible refine LeO.bind ?_ (fun _ => ?_))
theorem field_Log.mono : ∀ a0 k, LeO (field_Log.f k a0) (field_Log.f (k + 1) a0) := by
 intro a0 k
 have ih0 := field_Log.mono_l k
 unfold field_Log.f
 repeat' first
   | (with_reducible exact ih0 _ _ _)
   | (with_reducible exact LeO.refl _)
   | (with_reducible exact LeO.none _)
   | (with_reducible refine LeO.ite ?_ ?_)
   | (with_reducible refine LeO.bind ?_ (fun _ => ?_))
mutual
def clavigerref05_Mul.l0 : Nat → Int → Int → Int → Int → Option (Int)
 | 0, _, _, _, _ => none
 | k + 1, x0, x1, x5, x6 => if x6 < 8 then (if 0 ≤ x6 then (if (Int.tmod (shr .i64 (wrap64 (x1)) x6) 2) = 1 then (clavigerref05_Mul.l0 k x0 x1 (Go.bits .xor .i64 x5 (shl .i64 (wrap64 (x0)) x6)) (wrap64 (x6 + 1))) else (clavigerref05_Mul.l0 k x0 x1 x5 (wrap64 (x6 + 1)))) else (none)) else (clavigerref05_Mul.l1 k x5 14)
def clavigerref05_Mul.l1 : Nat → Int → Int → Option (Int)
 | 0, _, _ => none
 | k + 1, x5, x7 => if x7 ≥ 8 then (if 0 ≤ x7 then (if (Int.tmod (shr .i64 x5 x7) 2) = 1 then (if 0 ≤ (wrap64 (x7 - 8)) then (clavigerref05_Mul.l1 k (Go.bits .xor .i64 x5 (shl .i64 283 (wrap64 (x7 - 8)))) (wrap64 (x7 - 1))) else (none)) else (clavigerref05_Mul.l1 k x5 (wrap64 (x7 - 1)))) else (none)) else (some ((x5) % 256))
end
def clavigerref05_Mul.f (k : Nat) (a0 : Int) (a1 : Int) : Option (Int) := clavigerref05_Mul.l0 k a0 a1 0 0
theorem clavigerref05_Mul.mono_l : ∀ k, (∀ y1 y2 y3 y4, LeO (clavigerref05_Mul.l0 k y1 y2 y3 y4) (clavigerref05_Mul.l0 (k + 1) y1 y2 y3 y4)) ∧ (∀ y1 y2, LeO (clavigerref05_Mul.l1 k y1 y2) (clavigerref05_Mul.l1 (k + 1) y1 y2))
 | 0 => ⟨fun _ _ _ _ r h => by simp [clavigerref05_Mul.l0] at h, fun _ _ r h => by simp [clavigerref05_Mul.l1] at h⟩
 | k + 1 => by
  obtain ⟨ih0, ih1⟩ := clavigerref05_Mul.mono_l k
  refine ⟨?_, ?_⟩
  ·intro y1 y2 y3 y4
   unfold clavigerref05_Mul.l0
   repeat' first
   | (with_reducible exact ih0 _ _ _ _)
   | (with_reducible exact ih1 _ _)
   | (with_reducible exact LeO.refl _)
   | (with_reducible exact LeO.none _)
   | (with_reducible refine LeO.ite ?_ ?_)
   | (with_reducible refine LeO.bind ?_ (fun _ => ?_))
  ·intro y1 y2
   unfold clavigerref05_Mul.l1
   repeat' first
   | (with_reducible exact ih0 _ _ _ _)
   | (with_reducible exact ih1 _ _)
   | (with_reducible exact LeO.refl _)
   | (with_reducible exact LeO.none _)
   | (with_reducible refine LeO.ite ?_ ?_)
   | (with_reducible refine LeO.bind ?_ (fun _ => ?_))
theorem clavigerref05_Mul.mono : ∀ a0 a1 k, LeO (clavigerref05_Mul.f k a0 a1) (clavigerref05_Mul.f (k + 1) a0 a1) := by
 intro a0 a1 k
 obtain ⟨ih0, ih1⟩ := clavigerref05_Mul.mono_l k
 unfold clavigerref05_Mul.f
 repeat' first
   | (with_reducible exact ih0 _ _ _ _)
   | (with_reducible exact ih1 _ _)
   | (with_reducible exact LeO.refl _)
   | (with_reducible exact LeO.none _)
   | (with_reducible refine LeO.ite ?_ ?_)
   | (with_reducible refine LeO.bind ?_ (fun _ => ?_))
def clavigerref05_Log.l0 : Nat → Int → Int → Int → Option (Int × Bool)
 | 0, _, _, _ => none
 | k + 1, x0, x4, x5 => if x5 < 255 then (if x4 = x0 then (some (x5, true)) else ((clavigerref05_Mul.f k x4 3).bind fun t1 => (clavigerref05_Log.l0 k x0 t1 (wrap64 (x5 + 1))))) else (some (0, false))
def clavigerref05_Log.f (k : Nat) (a0 : Int) : Option (Int × Bool) := clavigerref05_Log.l0 k a0 1 0
theorem clavigerref05_Log.mono_l : ∀ k, (∀ y2 y3 y4, LeO (clavigerref05_Log.l0 k y2 y3 y4) (clavigerref05_Log.l0 (k + 1) y2 y3 y4))
 | 0 => fun _ _ _ r h => by simp [clavigerref05_Log.l0] at h
 | k + 1 => by
  have ih0 := clavigerref05_Log.mono_l k
  ·intro y2 y3 y4
   unfold clavigerref05_Log.l0
   repeat' first
   | (with_reducible exact ih0 _ _ _)
   | (with_reducible exact clavigerref05_Mul.mono _ _ _)
   | (with_reducible exact LeO.refl _)
   | (with_reducible exact LeO.none _)
   | (with_reducible refine LeO.ite ?_ ?_)
   | (with_reducible refine LeO.bind ?_ (fun _ => ?_))
theorem clavigerref05_Log.mono : ∀ a0 k, LeO (clavigerref05_Log.f k a0) (clavigerref05_Log.f (k + 1) a0) := by
 intro a0 k
 have ih0 := clavigerref05_Log.mono_l k
 unfold clavigerref05_Log.f
 repeat' first
   | (with_reducible exact ih0 _ _ _)
   | (with_reducible exact clavigerref05_Mul.mono _ _ _)
   | (with_reducible exact LeO.refl _)
   | (with_reducible exact LeO.none _)
   | (with_reducible refine LeO.ite ?_ ?_)
   | (with_reducible refine LeO.bind ?_ (fun _ => ?_))
def field_Add.f (a0 : Int) (a1 : Int) : Option (Int) := some (Go.bits .xor .u8 a0 a1)
def clavigerref05_Add.f (a0 : Int) (a1 : Int) : Option (Int) := some (Go.bits .xor .u8 a0 a1)
def clavigerref05_Twice.f (k : Nat) (a0 : Int) : Option (Int) := (clavigerref05_Mul.f k a0 2).bind fun t1 => (some t1)
theorem clavigerref05_Twice.mono : ∀ a0 k, LeO (clavigerref05_Twice.f k a0) (clavigerref05_Twice.f (k + 1) a0) := by
 intro a0 k
 unfold clavigerref05_Twice.f
 repeat' first
   | (with_reducible exact clavigerref05_Mul.mono _ _ _)
   | (with_reducible exact LeO.refl _)
   | (with_reducible exact LeO.none _)
   | (with_reducible refine LeO.ite ?_ ?_)
   | (with_reducible refine LeO.bind ?_ (fun _ => ?_))
def field_Mul.l0 : Nat → Int → Int → Int → Option (Int)
 | 0, _, _, _ => none
 | k + 1, x0, x1, x5 => if x1 = 0 then (some x5) else (if (Go.bits .and .u8 x1 1) = 1 then ((field_Twice.f x0).bind fun t1 => (field_Mul.l0 k t1 (x1 / 2) (Go.bits .xor .u8 x5 x0))) else ((field_Twice.f x0).bind fun t2 => (field_Mul.l0 k t2 (x1 / 2) x5)))
def field_Mul.f (k : Nat) (a0 : Int) (a1 : Int) : Option (Int) := field_Mul.l0 k a0 a1 0
theorem field_Mul.mono_l : ∀ k, (∀ y3 y4 y5, LeO (field_Mul.l0 k y3 y4 y5) (field_Mul.l0 (k + 1) y3 y4 y5))
 | 0 => fun _ _ _ r h => by simp [field_Mul.l0] at h
 | k + 1 => by
  have ih0 := field_Mul.mono_l k
  ·intro y3 y4 y5
   unfold field_Mul.l0
   repeat' first
   | (with_reducible exact ih0 _ _ _)
   | (with_reducible exact LeO.refl _)
   | (with_reducible exact LeO.none _)
   | (with_reducible refine LeO.ite ?_ ?_)
   | (with_reducible refine LeO.bind ?_ (fun _ => ?_))
theorem field_Mul.mono : ∀ a0 a1 k, LeO (field_Mul.f k a0 a1) (field_Mul.f (k + 1) a0 a1) := by
 intro a0 a1 k
 have ih0 := field_Mul.mono_l k
 unfold field_Mul.f
 repeat' first
   | (with_reducible exact ih0 _ _ _)
   | (with_reducible exact LeO.refl _)
   | (with_reducible exact LeO.none _)
   | (with_reducible refine LeO.ite ?_ ?_)
   | (with_reducible refine LeO.bind ?_ (fun _ => ?_))
set_option maxHeartbeats 8000000 in
set_option maxRecDepth 100000 in
theorem field_Mul.calls (k : Nat) (a0 : Int) (a1 : Int) (r : Int) (w : World) (h : field_Mul.f k a0 a1 = some r) :
  Calls Try.prog 43 #[.int .u8 a0, .int .u8 a1] w fun e w' => e = .returned (.int .u8 r) ∧ Drawn0 w w' := by
 have H : (field_Mul.l0 k a0 a1 0) = some r := h
 clear h
 have H' := Aside0.mk H
 clear H
 go_enter Try.func43, Try.ntmps43
 go_wp2
 go_loopg [0, 1, 5] k (fun kq v0 v1 v5 w' => ∃ (x0_1 : Int) (x1_1 : Int) (x5_1 : Int), v0 = .int .u8 x0_1 ∧ v1 = .int .u8 x1_1 ∧ v5 = .int .u8 x5_1 ∧ Aside0 (field_Mul.l0 kq x0_1 x1_1 x5_1 = some r) ∧ Aside0 (kq ≤ k) ∧ Drawn0 w w')
 case atStart => exact ⟨(a0), (a1), (0), (by first | rfl | (simp; done) | (simp [*]; done)), (by first | rfl | (simp; done) | (simp [*]; done)), (by first | rfl | (simp; done) | (simp [*]; done)), H', ⟨Nat.le_refl _⟩, by repeat (first | exact Drawn0.refl _ | apply Drawn0.step)⟩
 case round =>
  clear H'
  try clear p2
  obtain ⟨x0_1, x1_1, x5_1, rfl, rfl, rfl, HA, HK1, ⟨m1, rfl⟩⟩ := hrel
  cases gk with
  | zero => exact absurd HA.out (by simp [field_Mul.l0])
  | succ k1 =>
   have H := HA.out
   clear HA
   simp only [field_Mul.l0] at H
   by_cases c3 : x1_1 = 0
   ·rw [if_pos c3] at H
    have c3b0 : (x1_1 == 0) = true := beq_iff_eq.mpr c3
    have c3b1 : (x1_1 != 0) = false := bne_eq_false_iff_eq.mpr c3
    clear c3
    obtain rfl := Option.some.inj H
    go_wp2
    go_ret
    exact ⟨by first | rfl | (simp; done) | (simp [*]; done) | (simp [IntKind.wrap_u8, IntKind.wrap_i64, wrap64]; done), by repeat (first | exact Drawn0.refl _ | apply Drawn0.step)⟩
   ·rw [if_neg c3] at H
    have c3b0 : (x1_1 == 0) = false := beq_eq_false_iff_ne.mpr c3
    have c3b1 : (x1_1 != 0) = true := bne_iff_ne.mpr c3
    by_cases c4 : (Go.bits .and .u8 x1_1 1) = 1
    ·rw [if_pos c4] at H
     have c4b0 : ((Go.bits .and .u8 x1_1 1) == 1) = true := beq_iff_eq.mpr c4
     have c4b1 : ((Go.bits .and .u8 x1_1 1) != 1) = false := bne_eq_false_iff_eq.mpr c4
     clear c4
     replace H := Option.bind_eq_some_iff.mp H
     obtain ⟨t1, A50, H⟩ := H
     try dsimp only at H
     have A5 := Aside0.mk A50
     clear A50
     have H' := Aside0.mk H
     clear H
     go_wp2_with (first | ((with_reducible refine gate_callee (f := 41) rfl ?_); refine goesL_ (some 15) rfl rfl Try.func41 (by kernel_rfl) rfl #[.int .u8 x0_1] rfl (by (try simp only [lT, lC, lN]); first | done | rfl) ?_; (with_reducible refine (field_Twice.calls x0_1 t1 _ A5.out).mono ?_); rintro e w' ⟨rfl, ⟨nd, rfl⟩⟩; refine ⟨_, rfl, ?_⟩))
     go_roundg k1
     case measure => have := HK1.out; omega
     case rel => exact ⟨(t1), (x1_1 / 2), (Go.bits .xor .u8 x5_1 x0_1), (by first | rfl | (simp; done) | (simp [*]; done)), (by first | rfl | (simp; done) | (simp [*]; done)), (by first | rfl | (simp; done) | (simp [*]; done)), H', ⟨by have := HK1.out; omega⟩, by repeat (first | exact Drawn0.refl _ | apply Drawn0.step)⟩
    ·rw [if_neg c4] at H
     have c4b0 : ((Go.bits .and .u8 x1_1 1) == 1) = false := beq_eq_false_iff_ne.mpr c4
     have c4b1 : ((Go.bits .and .u8 x1_1 1) != 1) = true := bne_iff_ne.mpr c4
     replace H := Option.bind_eq_some_iff.mp H
     obtain ⟨t2, A60, H⟩ := H
     replace H : (field_Mul.l0 k1 t2 (x1_1 / 2) x5_1) = some r := H
     have A6 := Aside0.mk A60
     clear A60
     have H' := Aside0.mk H
     clear H
     go_wp2_with (first | ((with_reducible refine gate_callee (f := 41) rfl ?_); refine goesL_ (some 15) rfl rfl Try.func41 (by kernel_rfl) rfl #[.int .u8 x0_1] rfl (by (try simp only [lT, lC, lN]); first | done | rfl) ?_; (with_reducible refine (field_Twice.calls x0_1 t2 _ A6.out).mono ?_); rintro e w' ⟨rfl, ⟨nd, rfl⟩⟩; refine ⟨_, rfl, ?_⟩))
     go_roundg k1
     case measure => have := HK1.out; omega
     case rel => exact ⟨(t2), (x1_1 / 2), (x5_1), (by first | rfl | (simp; done) | (simp [*]; done)), (by first | rfl | (simp; done) | (simp [*]; done)), (by first | rfl | (simp; done) | (simp [*]; done)), H', ⟨by have := HK1.out; omega⟩, by repeat (first | exact Drawn0.refl _ | apply Drawn0.step)⟩

def field_Pow.l0 : Nat → Int → Int → Int → Option (Int)
 | 0, _, _, _ => none
 | k + 1, x0, x1, x5 => if x1 > 0 then (if (Go.bits .and .i64 x1 1) = 1 then ((field_Mul.f k x5 x0).bind fun t1 => ((field_Mul.f k x0 x0).bind fun t2 => (field_Pow.l0 k t2 (x1 / 2) t1))) else ((field_Mul.f k x0 x0).bind fun t3 => (field_Pow.l0 k t3 (x1 / 2) x5))) else (some x5)
def field_Pow.f (k : Nat) (a0 : Int) (a1 : Int) : Option (Int) := field_Pow.l0 k a0 a1 1
theorem field_Pow.mono_l : ∀ k, (∀ y4 y5 y6, LeO (field_Pow.l0 k y4 y5 y6) (field_Pow.l0 (k + 1) y4 y5 y6))
 | 0 => fun _ _ _ r h => by simp [field_Pow.l0] at h
 | k + 1 => by
  have ih0 := field_Pow.mono_l k
  ·intro y4 y5 y6
   unfold field_Pow.l0
   repeat' first
   | (with_reducible exact ih0 _ _ _)
   | (with_reducible exact field_Mul.mono _ _ _)
   | (with_reducible exact LeO.refl _)
   | (with_reducible exact LeO.none _)
   | (with_reducible refine LeO.ite ?_ ?_)
   | (with_reducible refine LeO.bind ?_ (fun _ => ?_))
theorem field_Pow.mono : ∀ a0 a1 k, LeO (field_Pow.f k a0 a1) (field_Pow.f (k + 1) a0 a1) := by
 intro a0 a1 k
 have ih0 := field_Pow.mono_l k
 unfold field_Pow.f
 repeat' first
   | (with_reducible exact ih0 _ _ _)
   | (with_reducible exact field_Mul.mono _ _ _)
   | (with_reducible exact LeO.refl _)
   | (with_reducible exact LeO.none _)
   | (with_reducible refine LeO.ite ?_ ?_)
   | (with_reducible refine LeO.bind ?_ (fun _ => ?_))
set_option maxHeartbeats 8000000 in
set_option maxRecDepth 100000 in
theorem field_Pow.calls (k : Nat) (a0 : Int) (a1 : Int) (r : Int) (w : World) (h : field_Pow.f k a0 a1 = some r) :
  Calls Try.prog 45 #[.int .u8 a0, .int .i64 a1] w fun e w' => e = .returned (.int .u8 r) ∧ Drawn0 w w' := by
 have H : (field_Pow.l0 k a0 a1 1) = some r := h
 clear h
 have H' := Aside0.mk H
 clear H
 go_enter Try.func45, Try.ntmps45
 go_wp2
 go_loopg [0, 1, 5] k (fun kq v0 v1 v5 w' => ∃ (x0_1 : Int) (x1_1 : Int) (x5_1 : Int), v0 = .int .u8 x0_1 ∧ v1 = .int .i64 x1_1 ∧ v5 = .int .u8 x5_1 ∧ Aside0 (field_Pow.l0 kq x0_1 x1_1 x5_1 = some r) ∧ Aside0 (kq ≤ k) ∧ Drawn0 w w')
 case atStart => exact ⟨(a0), (a1), (1), (by first | rfl | (simp; done) | (simp [*]; done)), (by first | rfl | (simp; done) | (simp [*]; done)), (by first | rfl | (simp; done) | (simp [*]; done)), H', ⟨Nat.le_refl _⟩, by repeat (first | exact Drawn0.refl _ | apply Drawn0.step)⟩
 case round =>
  clear H'
  try clear p2
  obtain ⟨x0_1, x1_1, x5_1, rfl, rfl, rfl, HA, HK1, ⟨m1, rfl⟩⟩ := hrel
  cases gk with
  | zero => exact absurd HA.out (by simp [field_Pow.l0])
  | succ k1 =>
   have H := HA.out
   clear HA
   simp only [field_Pow.l0] at H
   by_cases c3 : x1_1 > 0
   ·rw [if_pos c3] at H
    have c3b0 : decide (0 < x1_1) = true := decide_eq_true c3
    clear c3
    by_cases c4 : (Go.bits .and .i64 x1_1 1) = 1
    ·rw [if_pos c4] at H
     have c4b0 : ((Go.bits .and .i64 x1_1 1) == 1) = true := beq_iff_eq.mpr c4
     have c4b1 : ((Go.bits .and .i64 x1_1 1) != 1) = false := bne_eq_false_iff_eq.mpr c4
     clear c4
     replace H := Option.bind_eq_some_iff.mp H
     obtain ⟨t1, A50, H⟩ := H
     try dsimp only at H
     have A5 := Aside0.mk A50
     clear A50
     replace H := Option.bind_eq_some_iff.mp H
     obtain ⟨t2, A60, H⟩ := H
     replace H : (field_Pow.l0 k1 t2 (x1_1 / 2) t1) = some r := H
     have A6 := Aside0.mk A60
     clear A60
     have H' := Aside0.mk H
     clear H
     go_wp2_with (first | ((with_reducible refine gate_callee (f := 43) rfl ?_); refine goesL_ (some 13) rfl rfl Try.func43 (by kernel_rfl) rfl #[.int .u8 x5_1, .int .u8 x0_1] rfl (by (try simp only [lT, lC, lN]); first | done | rfl) ?_; (with_reducible refine (field_Mul.calls k1 x5_1 x0_1 t1 _ A5.out).mono ?_); rintro e w' ⟨rfl, ⟨nd, rfl⟩⟩; refine ⟨_, rfl, ?_⟩) | ((with_reducible refine gate_callee (f := 43) rfl ?_); refine goesL_ (some 16) rfl rfl Try.func43 (by kernel_rfl) rfl #[.int .u8 x0_1, .int .u8 x0_1] rfl (by (try simp only [lT, lC, lN]); first | done | rfl) ?_; (with_reducible refine (field_Mul.calls k1 x0_1 x0_1 t2 _ A6.out).mono ?_); rintro e w' ⟨rfl, ⟨nd, rfl⟩⟩; refine ⟨_, rfl, ?_⟩))
     go_roundg k1
     case measure => have := HK1.out; omega
     case rel => exact ⟨(t2), (x1_1 / 2), (t1), (by first | rfl | (simp; done) | (simp [*]; done)), (by first | rfl | (simp; done) | (simp [*]; done)), (by first | rfl | (simp; done) | (simp [*]; done)), H', ⟨by have := HK1.out; omega⟩, by repeat (first | exact Drawn0.refl _ | apply Drawn0.step)⟩
    ·rw [if_neg c4] at H
     have c4b0 : ((Go.bits .and .i64 x1_1 1) == 1) = false := beq_eq_false_iff_ne.mpr c4
     have c4b1 : ((Go.bits .and .i64 x1_1 1) != 1) = true := bne_iff_ne.mpr c4
     replace H := Option.bind_eq_some_iff.mp H
     obtain ⟨t3, A70, H⟩ := H
     replace H : (field_Pow.l0 k1 t3 (x1_1 / 2) x5_1) = some r := H
     have A7 := Aside0.mk A70
     clear A70
     have H' := Aside0.mk H
     clear H
     go_wp2_with (first | ((with_reducible refine gate_callee (f := 43) rfl ?_); refine goesL_ (some 16) rfl rfl Try.func43 (by kernel_rfl) rfl #[.int .u8 x0_1, .int .u8 x0_1] rfl (by (try simp only [lT, lC, lN]); first | done | rfl) ?_; (with_reducible refine (field_Mul.calls k1 x0_1 x0_1 t3 _ A7.out).mono ?_); rintro e w' ⟨rfl, ⟨nd, rfl⟩⟩; refine ⟨_, rfl, ?_⟩))
     go_roundg k1
     case measure => have := HK1.out; omega
     case rel => exact ⟨(t3), (x1_1 / 2), (x5_1), (by first | rfl | (simp; done) | (simp [*]; done)), (by first | rfl | (simp; done) | (simp [*]; done)), (by first | rfl | (simp; done) | (simp [*]; done)), H', ⟨by have := HK1.out; omega⟩, by repeat (first | exact Drawn0.refl _ | apply Drawn0.step)⟩
   ·rw [if_neg c3] at H
    have c3b0 : decide (0 < x1_1) = false := decide_eq_false c3
    clear c3
    obtain rfl := Option.some.inj H
    go_wp2
    go_ret
    exact ⟨by first | rfl | (simp; done) | (simp [*]; done) | (simp [IntKind.wrap_u8, IntKind.wrap_i64, wrap64]; done), by repeat (first | exact Drawn0.refl _ | apply Drawn0.step)⟩

def clavigerref05_Pow.l0 : Nat → Int → Int → Int → Int → Option (Int)
 | 0, _, _, _, _ => none
 | k + 1, x0, x1, x5, x6 => if x6 < (Int.tmod x1 255) then ((clavigerref05_Mul.f k x5 x0).bind fun t1 => (clavigerref05_Pow.l0 k x0 x1 t1 (wrap64 (x6 + 1)))) else (some x5)
def clavigerref05_Pow.f (k : Nat) (a0 : Int) (a1 : Int) : Option (Int) := if a1 < 1 then (some 1) else (if a0 = 0 then (some 0) else (clavigerref05_Pow.l0 k a0 a1 1 0))
theorem clavigerref05_Pow.mono_l : ∀ k, (∀ y2 y3 y4 y5, LeO (clavigerref05_Pow.l0 k y2 y3 y4 y5) (clavigerref05_Pow.l0 (k + 1) y2 y3 y4 y5))
 | 0 => fun _ _ _ _ r h => by simp [clavigerref05_Pow.l0] at h
 | k + 1 => by
  have ih0 := clavigerref05_Pow.mono_l k
  ·intro y2 y3 y4 y5
   unfold clavigerref05_Pow.l0
   repeat' first
   | (with_reducible exact ih0 _ _ _ _)
   | (with_reducible exact clavigerref05_Mul.mono _ _ _)
   | (with_reducible exact LeO.refl _)
   | (with_reducible exact LeO.none _)
   | (with_reducible refine LeO.ite ?_ ?_)
   | (with_reducible refine LeO.bind ?_ (fun _ => ?_))
theorem clavigerref05_Pow.mono : ∀ a0 a1 k, LeO (clavigerref05_Pow.f k a0 a1) (clavigerref05_Pow.f (k + 1) a0 a1) := by
 intro a0 a1 k
 have ih0 := clavigerref05_Pow.mono_l k
 unfold clavigerref05_Pow.f
 repeat' first
   | (with_reducible exact ih0 _ _ _ _)
   | (with_reducible exact clavigerref05_Mul.mono _ _ _)
   | (with_reducible exact LeO.refl _)
   | (with_reducible exact LeO.none _)
   | (with_reducible refine LeO.ite ?_ ?_)
   | (with_reducible refine LeO.bind ?_ (fun _ => ?_))
def field_Inv.f (k : Nat) (a0 : Int) : Option (Int) := (field_Pow.f k a0 254).bind fun t1 => (some t1)
theorem field_Inv.mono : ∀ a0 k, LeO (field_Inv.f k a0) (field_Inv.f (k + 1) a0) := by
 intro a0 k
 unfold field_Inv.f
 repeat' first
   | (with_reducible exact field_Pow.mono _ _ _)
   | (with_reducible exact LeO.refl _)
   | (with_reducible exact LeO.none _)
   | (with_reducible refine LeO.ite ?_ ?_)
   | (with_reducible refine LeO.bind ?_ (fun _ => ?_))
set_option maxHeartbeats 8000000 in
set_option maxRecDepth 100000 in
theorem field_Inv.calls (k : Nat) (a0 : Int) (r : Int) (w : World) (h : field_Inv.f k a0 = some r) :
  Calls Try.prog 47 #[.int .u8 a0] w fun e w' => e = .returned (.int .u8 r) ∧ Drawn0 w w' := by
 have H : ((field_Pow.f k a0 254).bind fun t1 => (some t1)) = some r := h
 clear h
 replace H := Option.bind_eq_some_iff.mp H
 obtain ⟨t1, A20, H⟩ := H
 replace H : (some t1) = some r := H
 have A2 := Aside0.mk A20
 clear A20
 obtain rfl := Option.some.inj H
 go_enter Try.func47, Try.ntmps47
 go_wp2_with (first | ((with_reducible refine gate_callee (f := 45) rfl ?_); refine goesL_ (some 4) rfl rfl Try.func45 (by kernel_rfl) rfl #[.int .u8 a0, .int .i64 254] rfl (by (try simp only [lT, lC, lN]); first | done | rfl) ?_; (with_reducible refine (field_Pow.calls k a0 254 t1 _ A2.out).mono ?_); rintro e w' ⟨rfl, ⟨nd, rfl⟩⟩; refine ⟨_, rfl, ?_⟩))
 go_ret
 exact ⟨by first | rfl | (simp; done) | (simp [*]; done) | (simp [IntKind.wrap_u8, IntKind.wrap_i64, wrap64]; done), by repeat (first | exact Drawn0.refl _ | apply Drawn0.step)⟩

def clavigerref05_Inv.l0 : Nat → Int → Int → Option (Int)
 | 0, _, _ => none
 | k + 1, x0, x3 => if x3 < 256 then ((clavigerref05_Mul.f k x0 ((x3) % 256)).bind fun t1 => (if t1 = 1 then (some ((x3) % 256)) else (clavigerref05_Inv.l0 k x0 (wrap64 (x3 + 1))))) else (some 0)
def clavigerref05_Inv.f (k : Nat) (a0 : Int) : Option (Int) := clavigerref05_Inv.l0 k a0 1
theorem clavigerref05_Inv.mono_l : ∀ k, (∀ y2 y3, LeO (clavigerref05_Inv.l0 k y2 y3) (clavigerref05_Inv.l0 (k + 1) y2 y3))
 | 0 => fun _ _ r h => by simp [clavigerref05_Inv.l0] at h
 | k + 1 => by
  have ih0 := clavigerref05_Inv.mono_l k
  ·intro y2 y3
   unfold clavigerref05_Inv.l0
   repeat' first
   | (with_reducible exact ih0 _ _)
   | (with_reducible exact clavigerref05_Mul.mono _ _ _)
   | (with_reducible exact LeO.refl _)
   | (with_reducible exact LeO.none _)
   | (with_reducible refine LeO.ite ?_ ?_)
   | (with_reducible refine LeO.bind ?_ (fun _ => ?_))
theorem clavigerref05_Inv.mono : ∀ a0 k, LeO (clavigerref05_Inv.f k a0) (clavigerref05_Inv.f (k + 1) a0) := by
 intro a0 k
 have ih0 := clavigerref05_Inv.mono_l k
 unfold clavigerref05_Inv.f
 repeat' first
   | (with_reducible exact ih0 _ _)
   | (with_reducible exact clavigerref05_Mul.mono _ _ _)
   | (with_reducible exact LeO.refl _)
   | (with_reducible exact LeO.none _)
   | (with_reducible refine LeO.ite ?_ ?_)
   | (with_reducible refine LeO.bind ?_ (fun _ => ?_))
def field_Dot.l0 : Nat → ByteArray → ByteArray → Int → Int → Int → Option (Int)
 | 0, _, _, _, _, _ => none
 | k + 1, x0, x1, x5, x11, x12 => if x12 < x11 then (if 0 ≤ x12 then (if x12 < (x0.size : Int) then (if x12 < (x1.size : Int) then ((field_Mul.f k (bt x0 x12) (bt x1 x12)).bind fun t1 => (field_Dot.l0 k x0 x1 (Go.bits .xor .u8 x5 t1) x11 (wrap64 (x12 + 1)))) else (none)) else (none)) else (none)) else (some x5)
def field_Dot.f (k : Nat) (a0 : ByteArray) (a1 : ByteArray) : Option (Int) := field_Dot.l0 k a0 a1 0 (mn (a0.size : Int) (a1.size : Int)) 0
theorem field_Dot.mono_l : ∀ k, (∀ y2 y3 y4 y5 y6, LeO (field_Dot.l0 k y2 y3 y4 y5 y6) (field_Dot.l0 (k + 1) y2 y3 y4 y5 y6))
 | 0 => fun _ _ _ _ _ r h => by simp [field_Dot.l0] at h
 | k + 1 => by
  have ih0 := field_Dot.mono_l k
  ·intro y2 y3 y4 y5 y6
   unfold field_Dot.l0
   repeat' first
   | (with_reducible exact ih0 _ _ _ _ _)
   | (with_reducible exact field_Mul.mono _ _ _)
   | (with_reducible exact LeO.refl _)
   | (with_reducible exact LeO.none _)
   | (with_reducible refine LeO.ite ?_ ?_)
   | (with_reducible refine LeO.bind ?_ (fun _ => ?_))
theorem field_Dot.mono : ∀ a0 a1 k, LeO (field_Dot.f k a0 a1) (field_Dot.f (k + 1) a0 a1) := by
 intro a0 a1 k
 have ih0 := field_Dot.mono_l k
 unfold field_Dot.f
 repeat' first
   | (with_reducible exact ih0 _ _ _ _ _)
   | (with_reducible exact field_Mul.mono _ _ _)
   | (with_reducible exact LeO.refl _)
   | (with_reducible exact LeO.none _)
   | (with_reducible refine LeO.ite ?_ ?_)
   | (with_reducible refine LeO.bind ?_ (fun _ => ?_))
def clavigerref05_Dot.l0 : Nat → ByteArray → ByteArray → Int → Int → Option (Int)
 | 0, _, _, _, _ => none
 | k + 1, x0, x1, x5, x6 => if x6 < (x0.size : Int) then (if x6 < (x1.size : Int) then (if 0 ≤ x6 then ((clavigerref05_Mul.f k (bt x0 x6) (bt x1 x6)).bind fun t1 => (clavigerref05_Dot.l0 k x0 x1 (Go.bits .xor .u8 x5 t1) (wrap64 (x6 + 1)))) else (none)) else (some x5)) else (some x5)
def clavigerref05_Dot.f (k : Nat) (a0 : ByteArray) (a1 : ByteArray) : Option (Int) := clavigerref05_Dot.l0 k a0 a1 0 0
theorem clavigerref05_Dot.mono_l : ∀ k, (∀ y2 y3 y4 y5, LeO (clavigerref05_Dot.l0 k y2 y3 y4 y5) (clavigerref05_Dot.l0 (k + 1) y2 y3 y4 y5))
 | 0 => fun _ _ _ _ r h => by simp [clavigerref05_Dot.l0] at h
 | k + 1 => by
  have ih0 := clavigerref05_Dot.mono_l k
  ·intro y2 y3 y4 y5
   unfold clavigerref05_Dot.l0
   repeat' first
   | (with_reducible exact ih0 _ _ _ _)
   | (with_reducible exact clavigerref05_Mul.mono _ _ _)
   | (with_reducible exact LeO.refl _)
   | (with_reducible exact LeO.none _)
   | (with_reducible refine LeO.ite ?_ ?_)
   | (with_reducible refine LeO.bind ?_ (fun _ => ?_))
theorem clavigerref05_Dot.mono : ∀ a0 a1 k, LeO (clavigerref05_Dot.f k a0 a1) (clavigerref05_Dot.f (k + 1) a0 a1) := by
 intro a0 a1 k
 have ih0 := clavigerref05_Dot.mono_l k
 unfold clavigerref05_Dot.f
 repeat' first
   | (with_reducible exact ih0 _ _ _ _)
   | (with_reducible exact clavigerref05_Mul.mono _ _ _)
   | (with_reducible exact LeO.refl _)
   | (with_reducible exact LeO.none _)
   | (with_reducible refine LeO.ite ?_ ?_)
   | (with_reducible refine LeO.bind ?_ (fun _ => ?_))
end Go.Proofs.Ytokkhnjedmlbhaa.Pr
end
section
namespace Go.Proofs.YtokkhnjedmlbhaaGf
/-- A byte times x. -/
def xt (a : Nat) : Nat := if a < 128 then 2 * a else (2 * a - 256) ^^^ 27
def allB (n : Nat) (p : Nat → Bool) : Bool := match n with | 0 => true | n + 1 => p n && allB n p
theorem allB_of {n : Nat} {p : Nat → Bool} (h : allB n p = true) : ∀ a, a < n → p a = true := by
  induction n with
  | zero => intro a ha; omega
  | succ n ih =>
    intro a ha
    simp only [allB, Bool.and_eq_true] at h
    rcases Nat.lt_succ_iff_lt_or_eq.1 ha with h1 | rfl
    · exact ih h.2 a h1
    · exact h.1
theorem xt_lin_all : allB 256 (fun a => allB 256 fun b => Nat.beq (xt (a ^^^ b)) (xt a ^^^ xt b)) = true := by decide +kernel
theorem xt_lin {a b : Nat} (ha : a < 256) (hb : b < 256) : xt (a ^^^ b) = xt a ^^^ xt b :=
  Nat.eq_of_beq_eq_true (allB_of (allB_of xt_lin_all a ha) b hb)
theorem xor_lt {a b : Nat} (ha : a < 256) (hb : b < 256) : a ^^^ b < 256 := Nat.xor_lt_two_pow (n := 8) ha hb
theorem xt_lt {a : Nat} (ha : a < 256) : xt a < 256 := by
  unfold xt; split
  · omega
  · exact xor_lt (by omega) (by omega)
theorem xt_zero : xt 0 = 0 := rfl
/-- The product, by the bits of b: n of them. -/
def mulF : Nat → Nat → Nat → Nat
  | 0, _, _ => 0
  | n + 1, a, b => (if b % 2 = 1 then a else 0) ^^^ mulF n (xt a) (b / 2)
def gm (a b : Nat) : Nat := mulF 8 a b
theorem ite_lt {a : Nat} {p : Prop} [Decidable p] (ha : a < 256) : (if p then a else 0) < 256 := by split <;> omega
theorem mulF_lt (n : Nat) : ∀ {a b : Nat}, a < 256 → mulF n a b < 256 := by
  induction n with
  | zero => intro a b _; simp [mulF]
  | succ n ih => intro a b ha; exact xor_lt (ite_lt ha) (ih (xt_lt ha))
theorem gm_lt {a b : Nat} (ha : a < 256) : gm a b < 256 := mulF_lt 8 ha
theorem mulF_zero (n : Nat) : ∀ b, mulF n 0 b = 0 := by
  induction n with
  | zero => intro b; rfl
  | succ n ih => intro b; simp [mulF, xt_zero, ih]
theorem xor4 (a b c d : Nat) : (a ^^^ b) ^^^ (c ^^^ d) = (a ^^^ c) ^^^ (b ^^^ d) := by
  rw [Nat.xor_assoc, Nat.xor_assoc, ← Nat.xor_assoc b, Nat.xor_comm b c, Nat.xor_assoc c]
theorem mulF_addL (n : Nat) : ∀ {a c b : Nat}, a < 256 → c < 256 → mulF n (a ^^^ c) b = mulF n a b ^^^ mulF n c b := by
  induction n with
  | zero => intro a c b _ _; simp [mulF]
  | succ n ih =>
    intro a c b ha hc
    simp only [mulF]
    rw [xt_lin ha hc, ih (xt_lt ha) (xt_lt hc), xor4]
    congr 1
    split <;> simp
theorem mulF_xt (n : Nat) : ∀ {a b : Nat}, a < 256 → mulF n (xt a) b = xt (mulF n a b) := by
  induction n with
  | zero => intro a b _; rfl
  | succ n ih =>
    intro a b ha
    simp only [mulF]
    rw [xt_lin (ite_lt ha) (mulF_lt n (xt_lt ha)), ih (xt_lt ha)]
    congr 1
    split <;> simp [xt_zero]
theorem gm_addL {a c b : Nat} (ha : a < 256) (hc : c < 256) : gm (a ^^^ c) b = gm a b ^^^ gm c b := mulF_addL 8 ha hc
theorem gm_xt {a b : Nat} (ha : a < 256) : gm (xt a) b = xt (gm a b) := mulF_xt 8 ha
/-- A byte times 3. -/
def t3 (a : Nat) : Nat := a ^^^ xt a
theorem t3_lt {a : Nat} (ha : a < 256) : t3 a < 256 := xor_lt ha (xt_lt ha)
theorem gm_t3 {a b : Nat} (ha : a < 256) : gm (t3 a) b = t3 (gm a b) := by unfold t3; rw [gm_addL ha (xt_lt ha), gm_xt ha]
/-- b times the n-th power of 3. -/
def p3 : Nat → Nat → Nat
  | 0, b => b
  | n + 1, b => t3 (p3 n b)
theorem p3_lt (n : Nat) {b : Nat} (hb : b < 256) : p3 n b < 256 := by
  induction n with
  | zero => exact hb
  | succ n ih => exact t3_lt ih
theorem p3_add (n m b : Nat) : p3 (n + m) b = p3 n (p3 m b) := by
  induction n with
  | zero => simp [p3]
  | succ n ih => rw [Nat.succ_add]; simp only [p3]; rw [ih]
def E (n : Nat) : Nat := p3 n 1
theorem E_lt (n : Nat) : E n < 256 := p3_lt n (by omega)
theorem gm_one_all : allB 256 (fun b => Nat.beq (gm 1 b) b) = true := by decide +kernel
theorem gm_one {b : Nat} (hb : b < 256) : gm 1 b = b := Nat.eq_of_beq_eq_true (allB_of gm_one_all b hb)
theorem gm_E (n : Nat) {b : Nat} (hb : b < 256) : gm (E n) b = p3 n b := by
  induction n with
  | zero => exact gm_one hb
  | succ n ih => show gm (t3 (E n)) b = t3 (p3 n b); rw [gm_t3 (E_lt n), ih]
theorem gm_EE (n m : Nat) : gm (E n) (E m) = E (n + m) := by rw [gm_E n (E_lt m)]; unfold E; rw [p3_add]
/-- The least n at which the power of 3 is a, from p = 3^k on. -/
def lgF : Nat → Nat → Nat → Nat → Nat
  | 0, k, _, _ => k
  | f + 1, k, p, a => if p = a then k else lgF f (k + 1) (t3 p) a
def lg (a : Nat) : Nat := lgF 255 0 1 a
theorem lg_all : allB 256 (fun a => Nat.beq a 0 || (Nat.beq (E (lg a)) a && Nat.ble (lg a) 254)) = true := by decide +kernel
theorem E_lg {a : Nat} (ha : a < 256) (h0 : a ≠ 0) : E (lg a) = a ∧ lg a ≤ 254 := by
  have h := allB_of lg_all a ha
  simp only [Bool.or_eq_true, Bool.and_eq_true] at h
  rcases h with h | h
  · exact absurd (Nat.eq_of_beq_eq_true h) h0
  · exact ⟨Nat.eq_of_beq_eq_true h.1, Nat.le_of_ble_eq_true h.2⟩
theorem gm_zeroL (b : Nat) : gm 0 b = 0 := mulF_zero 8 b
theorem gm_zeroR {a : Nat} (ha : a < 256) : gm a 0 = 0 := by
  by_cases h : a = 0
  · subst h; rfl
  · rw [← (E_lg ha h).1, gm_E _ (by omega)]
    generalize lg a = n
    induction n with
    | zero => rfl
    | succ n ih => simp only [p3, ih]; rfl
theorem gm_comm {a b : Nat} (ha : a < 256) (hb : b < 256) : gm a b = gm b a := by
  by_cases h : a = 0
  · subst h; rw [gm_zeroL, gm_zeroR hb]
  by_cases h' : b = 0
  · subst h'; rw [gm_zeroL, gm_zeroR ha]
  rw [← (E_lg ha h).1, ← (E_lg hb h').1, gm_EE, gm_EE, Nat.add_comm]
theorem gm_two {a : Nat} (ha : a < 256) : gm a 2 = xt a := by rw [gm_comm ha (by omega)]; show gm (xt 1) a = _; rw [gm_xt (by omega), gm_one ha]
/-- Powers, one factor at a time. -/
def pw (a : Nat) : Nat → Nat
  | 0 => 1
  | n + 1 => gm (pw a n) a
theorem pw_lt {a : Nat} (n : Nat) : pw a n < 256 := by
  induction n with
  | zero => show 1 < 256; omega
  | succ n ih => exact gm_lt ih
/-- The byte with which the product is 1. -/
def inv (a : Nat) : Nat := if a = 0 then 0 else E ((255 - lg a) % 255)
theorem inv_lt (a : Nat) : inv a < 256 := by unfold inv; split; omega; exact E_lt _
end Go.Proofs.YtokkhnjedmlbhaaGf
end
section
namespace Go.Proofs.Ytokkhnjedmlbhaa.M
open Go.RowKit Go.Proofs.Ytokkhnjedmlbhaa.Pr Go.Proofs.YtokkhnjedmlbhaaW.PrintWords Go.Proofs.YtokkhnjedmlbhaaW.PrintLast Go.Proofs.YtokkhnjedmlbhaaW.PrintMore Go.Proofs.YtokkhnjedmlbhaaGf
theorem wrap_id {x : Int} (h0 : -9223372036854775808 ≤ x) (h1 : x ≤ 9223372036854775807) : wrap64 x = x := by unfold wrap64; omega
theorem bx {a b : Nat} (ha : a < 256) (hb : b < 256) : Go.bits .xor .u8 (a : Int) (b : Int) = ((a ^^^ b : Nat) : Int) := u8_xor_nat a b ha hb
theorem twice_all : allB 256 (fun a => decide (field_Twice.f (a : Int) = some ((xt a : Nat) : Int))) = true := by decide +kernel
theorem twice_c {a : Nat} (ha : a < 256) : field_Twice.f (a : Int) = some ((xt a : Nat) : Int) := of_decide_eq_true (allB_of twice_all a ha)
end Go.Proofs.Ytokkhnjedmlbhaa.M
end
section
namespace Go.Proofs.Ytokkhnjedmlbhaa.M
open Go.RowKit Go.Proofs.Ytokkhnjedmlbhaa.Pr Go.Proofs.YtokkhnjedmlbhaaW.PrintWords Go.Proofs.YtokkhnjedmlbhaaW.PrintLast Go.Proofs.YtokkhnjedmlbhaaW.PrintMore Go.Proofs.YtokkhnjedmlbhaaGf
/-- A call whose answer is known, ahead of what goes on with it. -/
theorem evb {α β : Type} {g : Nat → Option α} {f : Nat → α → Option β} {a : α} {r : β} (h : Ev g a) (k : Ev (fun n => f n a) r) : Ev (fun n => (g n).bind (f n)) r := Ev.bind h k
theorem evs {α β : Type} {g : Option α} {f : Nat → α → Option β} {a : α} {r : β} (h : g = some a) (k : Ev (fun n => f n a) r) : Ev (fun n => g.bind (f n)) r := by subst h; exact k
theorem evp {α : Type} {c : Prop} [Decidable c] {f g : Nat → Option α} {r : α} (h : c) (k : Ev f r) : Ev (fun n => if c then f n else g n) r := by simp only [if_pos h]; exact k
theorem evn {α : Type} {c : Prop} [Decidable c] {f g : Nat → Option α} {r : α} (h : ¬ c) (k : Ev g r) : Ev (fun n => if c then f n else g n) r := by simp only [if_neg h]; exact k
/-- The byte at a place, as a number. -/
def bb (s : ByteArray) (i : Nat) : Nat := (bt s (i : Int)).toNat
theorem bb_lt (s : ByteArray) (i : Nat) : bb s i < 256 := by have := bt_range s (i : Int); unfold bb; omega
theorem bt_bb (s : ByteArray) (i : Nat) : bt s (i : Int) = ((bb s i : Nat) : Int) := by have := bt_range s (i : Int); unfold bb; omega
end Go.Proofs.Ytokkhnjedmlbhaa.M
end
section
namespace Go.Proofs.Ytokkhnjedmlbhaa.M
open Go.RowKit Go.Proofs.Ytokkhnjedmlbhaa.Pr Go.Proofs.YtokkhnjedmlbhaaW.PrintWords Go.Proofs.YtokkhnjedmlbhaaW.PrintLast Go.Proofs.YtokkhnjedmlbhaaW.PrintMore Go.Proofs.YtokkhnjedmlbhaaGf
/-- The text of a list of bytes. -/
def mkB (l : List Nat) : ByteArray := ⟨(l.map UInt8.ofNat).toArray⟩
/-- A text's bytes. -/
def nb (s : ByteArray) : List Nat := s.data.toList.map UInt8.toNat
def isB (l : List Nat) : Prop := ∀ x ∈ l, x < 256
theorem mkB_size (l : List Nat) : (mkB l).size = l.length := by
  show (l.map UInt8.ofNat).toArray.size = _
  simp
theorem nb_length (s : ByteArray) : (nb s).length = s.size := by rw [nb, List.length_map, data_length]
theorem isB_nb (s : ByteArray) : isB (nb s) := by
  intro x hx
  obtain ⟨u, _, rfl⟩ := List.mem_map.1 hx
  exact UInt8.toNat_lt u
theorem mkB_nb (s : ByteArray) : mkB (nb s) = s := by
  cases s with | mk d =>
  simp only [mkB, nb, List.map_map]
  congr 1
  apply Array.ext'
  simp only []
  conv => rhs; rw [← List.map_id d.toList]
  apply List.map_congr_left
  intro u _
  simp
theorem nb_mkB {l : List Nat} (h : isB l) : nb (mkB l) = l := by
  simp only [nb, mkB, List.map_map]
  conv => rhs; rw [← List.map_id l]
  apply List.map_congr_left
  intro n hn
  have := h n hn
  simp
  omega
theorem mkB_append (l m : List Nat) : mkB l ++ mkB m = mkB (l ++ m) := by
  apply ByteArray.ext
  simp [mkB]
theorem bb_nb (s : ByteArray) (i : Nat) : bb s i = (nb s).getD i 0 := by
  unfold bb bt
  by_cases h : i < s.size
  · rw [dif_pos (by simpa using h)]
    have h' : i < (nb s).length := by rw [nb_length]; exact h
    rw [List.getD_eq_getElem?_getD, List.getElem?_eq_getElem h']
    simp only [Option.getD_some, nb, List.getElem_map, Int.toNat_natCast]
    rfl
  · rw [dif_neg (by simpa using h)]
    rw [List.getD_eq_getElem?_getD, List.getElem?_eq_none (by rw [nb_length]; omega)]
    rfl
theorem strOfNums_cast (l : List Nat) : strOfNums (l.map Int.ofNat) = mkB l := by
  simp only [strOfNums, mkB, List.map_map]
  rfl
theorem bytesOf_nb (s : ByteArray) : bytesOf s = (nb s).map Int.ofNat := by
  simp only [bytesOf, nb, List.map_map]
  rfl
theorem extract_nb (s : ByteArray) (i j : Nat) : s.extract i j = mkB (((nb s).take j).drop i) := by
  apply ByteArray.ext
  simp only [ByteArray.data_extract, mkB]
  apply Array.ext'
  rw [Array.toList_extract]
  simp only [List.extract_eq_take_drop, nb]
  rw [← List.map_take, ← List.map_drop, List.map_map]
  rw [show (UInt8.ofNat ∘ UInt8.toNat) = id from by funext u; simp, List.map_id, List.drop_take]
theorem isB_append {l m : List Nat} : isB (l ++ m) ↔ isB l ∧ isB m := by
  simp [isB, or_imp, forall_and]
theorem isB_take {l : List Nat} (h : isB l) (n : Nat) : isB (l.take n) := fun x hx => h x (List.mem_of_mem_take hx)
theorem isB_drop {l : List Nat} (h : isB l) (n : Nat) : isB (l.drop n) := fun x hx => h x (List.mem_of_mem_drop hx)
theorem isB_get {l : List Nat} (h : isB l) (i : Nat) : l.getD i 0 < 256 := by
  rw [List.getD_eq_getElem?_getD]
  by_cases hi : i < l.length
  · rw [List.getElem?_eq_getElem hi]; exact h _ (List.getElem_mem hi)
  · rw [List.getElem?_eq_none (by omega)]; decide
end Go.Proofs.Ytokkhnjedmlbhaa.M
end
section
namespace Go.Proofs
open Go.Shelf
def Try.lays156_ren : Go.Shelf.Ren := ⟨fun | 156 => 187 | 165 => 219 | 166 => 220 | 169 => 215 | 240 => 226 | 241 => 227 | 276 => 231 | 277 => 232 | n => n, fun | 31 => 49 | 9 => 9 | 3 => 3 | 4 => 4 | 0 => 0 | 20 => 20 | 72 => 135 | 76 => 141 | 70 => 133 | 37 => 66 | 75 => 137 | 127 => 149 | 164 => 154 | 5 => 5 | 80 => 41 | n => n, fun | n => n⟩
theorem Try.lays156 : Go.Proofs.Lays.n156 Try.prog Try.lays156_ren := {
  mixed := by kernel_rfl
  f156 := Try.func187.trans (congrArg some (by kernel_rfl))
  f165 := Try.func219.trans (congrArg some (by kernel_rfl))
  f166 := Try.func220.trans (congrArg some (by kernel_rfl))
  f169 := Try.func215.trans (congrArg some (by kernel_rfl))
  f240 := Try.func226.trans (congrArg some (by kernel_rfl))
  f241 := Try.func227.trans (congrArg some (by kernel_rfl))
  f276 := Try.func231.trans (congrArg some (by kernel_rfl))
  f277 := Try.func232.trans (congrArg some (by kernel_rfl))
  t0 := Try.underlying0
  a0 := Try.isAgg0
  z0 := Try.sizeOf0
  v0 := Try.zeroValue0
  t3 := Try.underlying3
  a3 := Try.isAgg3
  z3 := Try.sizeOf3
  v3 := Try.zeroValue3
  t4 := Try.underlying4
  a4 := Try.isAgg4
  z4 := Try.sizeOf4
  v4 := Try.zeroValue4
  t9 := Try.underlying9
  a9 := Try.isAgg9
  z9 := Try.sizeOf9
  v9 := Try.zeroValue9
  t20 := Try.underlying20
  a20 := Try.isAgg20
  z20 := Try.sizeOf20
  v20 := Try.zeroValue20
  t31 := Try.underlying49
  a31 := Try.isAgg49
  z31 := Try.sizeOf49
  v31 := Try.zeroValue49
  t37 := Try.underlying66
  a37 := Try.isAgg66
  z37 := Try.sizeOf66
  v37 := Try.zeroValue66
  t70 := Try.underlying133
  a70 := Try.isAgg133
  z70 := Try.sizeOf133
  v70 := Try.zeroValue133
  t72 := Try.underlying135
  a72 := Try.isAgg135
  z72 := Try.sizeOf135
  v72 := Try.zeroValue135
  t75 := Try.underlying137
  a75 := Try.isAgg137
  z75 := Try.sizeOf137
  v75 := Try.zeroValue137
  t76 := Try.underlying141
  a76 := Try.isAgg141
  z76 := Try.sizeOf141
  v76 := Try.zeroValue141
  t127 := Try.underlying149
  a127 := Try.isAgg149
  z127 := Try.sizeOf149
  v127 := Try.zeroValue149
  t164 := Try.underlying154
  a164 := Try.isAgg154
  z164 := Try.sizeOf154
  v164 := Try.zeroValue154 }
theorem Try.Builder_Extra_156 : Builder.Extra Try.prog Try.lays156_ren := {
  sizeBuilder := by kernel_rfl
  liesBuilder := by kernel_rfl
  t5 := Try.underlying5
  a5 := Try.isAgg5
  z5 := Try.sizeOf5
  v5 := Try.zeroValue5
  infoByte := by kernel_rfl
  cellsByte := by kernel_rfl
  sizeByte := by kernel_rfl
  neB5 := by decide }
open Go.RowKit in
/-- No element: the empty string; the world is as it was. (Whatever the slice's address and capacity: a nil slice too.) (LAID: no walk: one application.) -/
theorem Try.strings_Join_none (a : Option Addr) (c : Nat) (sep : ByteArray) (w : World) :
    Calls Try.prog 187 #[.slice a 0 c, .string sep] w fun e w' => e = .returned (.string ⟨#[]⟩) ∧ w' = w := Any.strings_Join_none Try.lays156 Try.Builder_Extra_156 a c sep w
open Go.RowKit in
/-- strings.Join: "Join concatenates the elements of its first argument to create a single string. The separator string sep is placed between elements in the resulting string.": HOWEVER MANY ELEMENTS. Below the heap's end the world is as it was. (LAID: no walk: one application.) -/
theorem Try.strings_Join (bk o c : Nat) (xs : List ByteArray) (sep : ByteArray) (w : World) (hcells : ∀ (j : Nat) x, xs[j]? = some x → w.cell? ⟨bk, o + j, none⟩ = some (.string x)) (hbk : bk < w.heap.size) (hN : xs.length ≤ 140737488355328) (hcap : xs.length ≤ c) (hlen : (Lib.join (xs.map (·.data.toList)) sep.data.toList).length ≤ 140737488355328) :
    Calls Try.prog 187 #[.slice (some ⟨bk, o, none⟩) xs.length c, .string sep] w fun e w' => e = .returned (.string ⟨(Lib.join (xs.map (·.data.toList)) sep.data.toList).toArray⟩) ∧ Below w.heap.size w w' := Any.strings_Join Try.lays156 Try.Builder_Extra_156 bk o c xs sep w hcells hbk hN hcap hlen
end Go.Proofs
end
