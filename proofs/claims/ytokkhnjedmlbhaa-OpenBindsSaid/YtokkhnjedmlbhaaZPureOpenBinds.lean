/- With a right tag, and another top or cipher beside it, nothing is opened, but at a collision of tags. Conditions: those of the row. -/
import Derived.Test.YtokkhnjedmlbhaaZPrL38OpenBinds
import Derived.Test.YtokkhnjedmlbhaaZPrg01x
import Derived.Test.YtokkhnjedmlbhaaZOpenD
namespace Go.Proofs.Ytokkhnjedmlbhaa.Pure
open Go.RowKit Go.Proofs.Ytokkhnjedmlbhaa.Pr Go.Proofs.YtokkhnjedmlbhaaW.PrintWords Go.Proofs.YtokkhnjedmlbhaaW.PrintLast

theorem OpenBinds : clavigerlaw38_OpenBinds.Pure := M.OpenBinds

end Go.Proofs.Ytokkhnjedmlbhaa.Pure
