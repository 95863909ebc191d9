/- Both keys have as many bytes as the one out of which they come, and are those of their purposes. Conditions: those of the row. -/
import Derived.Test.YtokkhnjedmlbhaaZRowAid
import Derived.Test.YtokkhnjedmlbhaaZPrg05
namespace Go.Proofs.Ytokkhnjedmlbhaa.Pure
open Go.RowKit Go.Proofs.Ytokkhnjedmlbhaa.Pr Go.Proofs.YtokkhnjedmlbhaaW.PrintWords Go.Proofs.YtokkhnjedmlbhaaW.PrintLast

theorem DeriveSizes : clavigerlaw35_DeriveSizes.Pure := M.DeriveSizes

end Go.Proofs.Ytokkhnjedmlbhaa.Pure
