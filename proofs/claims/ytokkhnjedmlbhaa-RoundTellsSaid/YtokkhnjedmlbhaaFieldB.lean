/-
  Ways to tell what a printed function comes to; a text's bytes as numbers. Plain.
-/
import Derived.Test.YtokkhnjedmlbhaaFieldR
namespace Go.Proofs.Ytokkhnjedmlbhaa.M
open Go.RowKit Go.Proofs.Ytokkhnjedmlbhaa.Pr Go.Proofs.YtokkhnjedmlbhaaW.PrintWords Go.Proofs.YtokkhnjedmlbhaaW.PrintLast Go.Proofs.YtokkhnjedmlbhaaW.PrintMore Go.Proofs.YtokkhnjedmlbhaaGf
theorem of_byte {a : Int} (h : (Lit.int .u8 a).wf = true) : ∃ n : Nat, n < 256 ∧ a = (n : Int) := by
  simp [Lit.wf, IntKind.min, IntKind.max, IntKind.signed, IntKind.bits] at h
  exact ⟨a.toNat, by omega, by omega⟩
theorem of_i64 {a : Int} (h : (Lit.int .i64 a).wf = true) : -9223372036854775808 ≤ a ∧ a ≤ 9223372036854775807 := by
  simp [Lit.wf, IntKind.min, IntKind.max, IntKind.signed, IntKind.bits] at h
  omega
/-- A call whose answer is known, ahead of what goes on with it. -/
theorem evb {α β : Type} {g : Nat → Option α} {f : Nat → α → Option β} {a : α} {r : β} (h : Ev g a) (k : Ev (fun n => f n a) r) : Ev (fun n => (g n).bind (f n)) r := Ev.bind h k
theorem evs {α β : Type} {g : Option α} {f : Nat → α → Option β} {a : α} {r : β} (h : g = some a) (k : Ev (fun n => f n a) r) : Ev (fun n => g.bind (f n)) r := by subst h; exact k
theorem evp {α : Type} {c : Prop} [Decidable c] {f g : Nat → Option α} {r : α} (h : c) (k : Ev f r) : Ev (fun n => if c then f n else g n) r := by simp only [if_pos h]; exact k
theorem evn {α : Type} {c : Prop} [Decidable c] {f g : Nat → Option α} {r : α} (h : ¬ c) (k : Ev g r) : Ev (fun n => if c then f n else g n) r := by simp only [if_neg h]; exact k
/-- The byte at a place, as a number. -/
def bb (s : ByteArray) (i : Nat) : Nat := (bt s (i : Int)).toNat
theorem bb_lt (s : ByteArray) (i : Nat) : bb s i < 256 := by have := bt_range s (i : Int); unfold bb; omega
theorem bt_bb (s : ByteArray) (i : Nat) : bt s (i : Int) = ((bb s i : Nat) : Int) := by have := bt_range s (i : Int); unfold bb; omega
theorem mn_c (a b : Nat) : mn (a : Int) (b : Int) = ((min a b : Nat) : Int) := by unfold mn; omega
end Go.Proofs.Ytokkhnjedmlbhaa.M
