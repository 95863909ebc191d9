/- A tag is right just if it is the text's, whatever is handed in. Conditions: those of the row. -/
import Derived.Test.YtokkhnjedmlbhaaZPrL11CmacChecks
import Derived.Test.YtokkhnjedmlbhaaZPrg01x
import Derived.Test.YtokkhnjedmlbhaaZCmacA
namespace Go.Proofs.Ytokkhnjedmlbhaa.Pure
open Go.RowKit Go.Proofs.Ytokkhnjedmlbhaa.Pr Go.Proofs.YtokkhnjedmlbhaaW.PrintWords Go.Proofs.YtokkhnjedmlbhaaW.PrintLast

theorem CmacChecks : clavigerlaw11_CmacChecks.Pure := M.CmacChecks

end Go.Proofs.Ytokkhnjedmlbhaa.Pure
