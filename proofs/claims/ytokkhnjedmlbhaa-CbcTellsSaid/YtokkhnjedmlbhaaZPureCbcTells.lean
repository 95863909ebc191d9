/- Any chain, there and back, or why there is none, is as the document says. Conditions: those of the row. -/
import Derived.Test.YtokkhnjedmlbhaaZCbcP
import Derived.Test.YtokkhnjedmlbhaaZPrg01x
import Derived.Test.YtokkhnjedmlbhaaZRowAid
namespace Go.Proofs.Ytokkhnjedmlbhaa.Pure
open Go.RowKit Go.Proofs.Ytokkhnjedmlbhaa.Pr Go.Proofs.YtokkhnjedmlbhaaW.PrintWords Go.Proofs.YtokkhnjedmlbhaaW.PrintLast

theorem CbcTells : clavigerlaw10_CbcTells.Pure := M.CbcTells

end Go.Proofs.Ytokkhnjedmlbhaa.Pure
