/-
  octets.Xor comes to the exclusive or. Plain.
-/
import Derived.Test.YtokkhnjedmlbhaaRoundM
import Derived.Test.YtokkhnjedmlbhaaPrk
import Derived.Test.YtokkhnjedmlbhaaXor
namespace Go.Proofs.Ytokkhnjedmlbhaa.M
open Go.RowKit Go.Proofs.Ytokkhnjedmlbhaa.Pr Go.Proofs.YtokkhnjedmlbhaaW.PrintWords Go.Proofs.YtokkhnjedmlbhaaW.PrintLast Go.Proofs.YtokkhnjedmlbhaaW.PrintMore Go.Proofs.YtokkhnjedmlbhaaGf
set_option linter.unusedSimpArgs false
theorem xor_c (a b : ByteArray) (h : min a.size b.size ≤ 281474976710656) : octets_Xor.f a b = some (xorT a b) := by
  unfold octets_Xor.f
  rw [if_pos h]
  unfold xorT
  rw [← strOfNums_cast, List.map_map]
  congr 2
  unfold xorRow
  apply List.map_congr_left
  intro i hi
  have := List.mem_range.1 hi
  rw [if_pos this, bt_bb, bt_bb, bx (bb_lt a i) (bb_lt b i)]
  rfl
end Go.Proofs.Ytokkhnjedmlbhaa.M
