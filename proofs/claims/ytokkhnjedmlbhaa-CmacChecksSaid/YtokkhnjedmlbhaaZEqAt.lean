/-
  equal.at: the byte at a place, and whether there is one. Conditions: the place isn't below 0.
-/
import Derived.Test.YtokkhnjedmlbhaaZPrg01x
namespace Go.Proofs.Ytokkhnjedmlbhaa.Pr
open Go.RowKit Go.Proofs.YtokkhnjedmlbhaaW.PrintWords Go.Proofs.YtokkhnjedmlbhaaW.PrintLast Go.Proofs.YtokkhnjedmlbhaaW.PrintMore
def at0 (s : ByteArray) (i : Int) : Int := if i < (s.size : Int) then bt s i else 0
def at1 (s : ByteArray) (i : Int) : Int := if i < (s.size : Int) then 1 else 0
set_option maxHeartbeats 400000 in
theorem equal_at.calls (s : ByteArray) (i : Int) (w : World) (h0 : 0 ≤ i) :
    Calls Try.prog 222 #[.string s, .int .i64 i] w fun e w' => e = .returned (.agg #[.int .u8 (at0 s i), .int .u8 (at1 s i)]) ∧ Below w.heap.size w w' := by
  by_cases h : i < (s.size : Int)
  · have e0 : at0 s i = bt s i := if_pos h
    have e1 : at1 s i = 1 := if_pos h
    rw [e0, e1]
    clear e0 e1
    have hb : decide (i < (s.size : Int)) = true := decide_eq_true h
    go_enter Try.func222, Try.ntmps222
    go_wp2
    exact bodyPost_ret (v := .agg #[.int .u8 (bt s i), .int .u8 1]) (by simp [results, Try.results222, go_sem, bt_at]) rfl ⟨rfl, (Below.refl _ _).alloc (Nat.le_refl _) _⟩
  · have e0 : at0 s i = 0 := if_neg h
    have e1 : at1 s i = 0 := if_neg h
    rw [e0, e1]
    clear e0 e1
    have hb : decide (i < (s.size : Int)) = false := decide_eq_false h
    go_enter Try.func222, Try.ntmps222
    go_wp2
    exact bodyPost_ret (v := .agg #[.int .u8 0, .int .u8 0]) (by simp [results, Try.results222, go_sem]) rfl ⟨rfl, (Below.refl _ _).alloc (Nat.le_refl _) _⟩
end Go.Proofs.Ytokkhnjedmlbhaa.Pr
