/- The keys out of any key, or why there are none, are what the document says. Conditions: those of the row. -/
import Derived.Test.YtokkhnjedmlbhaaZPrL35DeriveTells
import Derived.Test.YtokkhnjedmlbhaaZPrg05
import Derived.Test.YtokkhnjedmlbhaaZRowAid
namespace Go.Proofs.Ytokkhnjedmlbhaa.Pure
open Go.RowKit Go.Proofs.Ytokkhnjedmlbhaa.Pr Go.Proofs.YtokkhnjedmlbhaaW.PrintWords Go.Proofs.YtokkhnjedmlbhaaW.PrintLast

theorem DeriveTells : clavigerlaw35_DeriveTells.Pure := M.DeriveTells

end Go.Proofs.Ytokkhnjedmlbhaa.Pure
