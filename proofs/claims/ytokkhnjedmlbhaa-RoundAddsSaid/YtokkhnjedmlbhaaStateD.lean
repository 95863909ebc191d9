/-
  round's states: sixteen bytes. Definitions.
-/
import Derived.Test.YtokkhnjedmlbhaaPrg05
import Derived.Test.YtokkhnjedmlbhaaPrk
import Derived.StillTailTactics
import Derived.Laws.Rows
namespace Go.Proofs.Ytokkhnjedmlbhaa.Pr
open Go.RowKit Go.Proofs.YtokkhnjedmlbhaaW.PrintWords Go.Proofs.YtokkhnjedmlbhaaW.PrintLast Go.Proofs.YtokkhnjedmlbhaaW.PrintMore
/-- Sixteen bytes as cells. -/
def st16 (f : Nat → Int) : Array Value := #[.int .u8 (f 0), .int .u8 (f 1), .int .u8 (f 2), .int .u8 (f 3), .int .u8 (f 4), .int .u8 (f 5), .int .u8 (f 6), .int .u8 (f 7), .int .u8 (f 8), .int .u8 (f 9), .int .u8 (f 10), .int .u8 (f 11), .int .u8 (f 12), .int .u8 (f 13), .int .u8 (f 14), .int .u8 (f 15)]
/-- The text of a state. -/
def txt16 (f : Nat → Int) : ByteArray := strOfNums ((List.range 16).map f)
theorem col0 (c0 c1 c2 c3 c4 c5 c6 c7 c8 c9 c10 c11 c12 c13 c14 c15 : Value) (w : World) : (Instr.index 90 (.agg #[c0, c1, c2, c3, c4, c5, c6, c7, c8, c9, c10, c11, c12, c13, c14, c15]) (.int .i64 0)).run Try.prog w = .ok (.agg #[c0, c1, c2, c3]) w := by kernel_rfl
theorem col1 (c0 c1 c2 c3 c4 c5 c6 c7 c8 c9 c10 c11 c12 c13 c14 c15 : Value) (w : World) : (Instr.index 90 (.agg #[c0, c1, c2, c3, c4, c5, c6, c7, c8, c9, c10, c11, c12, c13, c14, c15]) (.int .i64 1)).run Try.prog w = .ok (.agg #[c4, c5, c6, c7]) w := by kernel_rfl
theorem col2 (c0 c1 c2 c3 c4 c5 c6 c7 c8 c9 c10 c11 c12 c13 c14 c15 : Value) (w : World) : (Instr.index 90 (.agg #[c0, c1, c2, c3, c4, c5, c6, c7, c8, c9, c10, c11, c12, c13, c14, c15]) (.int .i64 2)).run Try.prog w = .ok (.agg #[c8, c9, c10, c11]) w := by kernel_rfl
theorem col3 (c0 c1 c2 c3 c4 c5 c6 c7 c8 c9 c10 c11 c12 c13 c14 c15 : Value) (w : World) : (Instr.index 90 (.agg #[c0, c1, c2, c3, c4, c5, c6, c7, c8, c9, c10, c11, c12, c13, c14, c15]) (.int .i64 3)).run Try.prog w = .ok (.agg #[c12, c13, c14, c15]) w := by kernel_rfl
/-- Twice, as a number. -/
def tw (a : Int) : Int := if Go.bits .and .u8 a 128 = 0 then (a * 2) % 256 else Go.bits .xor .u8 ((a * 2) % 256) 27
theorem tw_some (a : Int) : field_Twice.f a = some (tw a) := by
  unfold field_Twice.f tw
  split <;> rfl
theorem twice_still (a : Int) (w : World) : Calls Try.prog 41 #[.int .u8 a] w fun e w' => e = .returned (.int .u8 (tw a)) ∧ w' = w := by
  by_cases h : Go.bits .and .u8 a 128 = 0
  · have e : tw a = (a * 2) % 256 := if_pos h
    have hb : (Go.bits .and .u8 a 128 == 0) = true := beq_iff_eq.mpr h
    have hb2 : (Go.bits .and .u8 a 128 != 0) = false := bne_eq_false_iff_eq.mpr h
    rw [e]
    clear e h
    go_enter Try.func41, Try.ntmps41
    go_wp2
    go_ret
    exact ⟨rfl, rfl⟩
  · have e : tw a = Go.bits .xor .u8 ((a * 2) % 256) 27 := if_neg h
    have hb : (Go.bits .and .u8 a 128 == 0) = false := beq_eq_false_iff_ne.mpr h
    have hb2 : (Go.bits .and .u8 a 128 != 0) = true := bne_iff_ne.mpr h
    rw [e]
    clear e h
    go_enter Try.func41, Try.ntmps41
    go_wp2
    go_ret
    exact ⟨rfl, rfl⟩
theorem still_tail {P : Program} {id : Nat} {Q : Exit → Act → World → Prop} {a : Act} {w : World} {l : List Oper} (n : Nat) (hm : P.follows .mixedOrders = true) (hB : Region.lexTailB .any l.toArray n = true)
    (h : wpStill P l.toArray w.drew (fun a' => wpList P l.toArray Q (l.drop n) a' w.drew) (l.take n) a) : (Code.region id l.toArray true).wp P Q a w := wp_region_still_tail n hm hB h
theorem ret_state {fn : Func} {p : Tmp} (h : fn.results = #[.cell p 90]) {tmps : Array Value} {w : World} {g : Nat} {cs : Array Value} (ht : tmps.getD p undef = .pointer (some ⟨g, 0, none⟩)) (hg : w.heap[g]? = some (.cells cs 90 (0, 0))) (hc : cs.size = 16) : (results fn tmps).run Try.prog w = .ok (.agg cs) w := by
  have hl := run_loadVar_row (P := Try.prog) w g 90 90 cs (0, 0) _ hg Try.underlying90 rfl (by rw [hc]; kernel_rfl)
  have ht' : tmps[p]?.getD undef = .pointer (some ⟨g, 0, none⟩) := by simpa using ht
  simp only [results, h]
  simp [ht', asAddr, hl]
def bx8 (a b : Int) : Int := Go.bits .xor .u8 a b
/-- A state, mixed. -/
def mixI (f : Nat → Int) (i : Nat) : Int := bx8 (bx8 (f i) (bx8 (bx8 (bx8 (f (4 * (i / 4))) (f (4 * (i / 4) + 1))) (f (4 * (i / 4) + 2))) (f (4 * (i / 4) + 3)))) (tw (bx8 (f i) (f (4 * (i / 4) + (i % 4 + 1) % 4))))
/-- A state, made ready for the way back. -/
def preI (f : Nat → Int) (i : Nat) : Int := bx8 (f i) (tw (tw (bx8 (f (4 * (i / 4) + i % 2)) (f (4 * (i / 4) + i % 2 + 2)))))
end Go.Proofs.Ytokkhnjedmlbhaa.Pr
