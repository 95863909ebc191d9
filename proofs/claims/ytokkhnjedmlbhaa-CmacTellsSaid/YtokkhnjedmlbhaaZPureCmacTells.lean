/- Any text's tag under any key, or why there is none, is what the document says. Conditions: those of the row. -/
import Derived.Test.YtokkhnjedmlbhaaZPrL11CmacTells
import Derived.Test.YtokkhnjedmlbhaaZPrg01x
import Derived.Test.YtokkhnjedmlbhaaZCmacA
namespace Go.Proofs.Ytokkhnjedmlbhaa.Pure
open Go.RowKit Go.Proofs.Ytokkhnjedmlbhaa.Pr Go.Proofs.YtokkhnjedmlbhaaW.PrintWords Go.Proofs.YtokkhnjedmlbhaaW.PrintLast

theorem CmacTells : clavigerlaw11_CmacTells.Pure := M.CmacTells

end Go.Proofs.Ytokkhnjedmlbhaa.Pure
