/- A key's words, the keys of its rounds, or why there are none, are as the document says. Conditions: those of the row. -/
import Derived.Test.YtokkhnjedmlbhaaZPrL08SchedTells
import Derived.Test.YtokkhnjedmlbhaaZPrk
import Derived.Test.YtokkhnjedmlbhaaZRowAid
namespace Go.Proofs.Ytokkhnjedmlbhaa.Pure
open Go.RowKit Go.Proofs.Ytokkhnjedmlbhaa.Pr Go.Proofs.YtokkhnjedmlbhaaW.PrintWords Go.Proofs.YtokkhnjedmlbhaaW.PrintLast

theorem SchedTells : clavigerlaw08_SchedTells.Pure := M.SchedTells

end Go.Proofs.Ytokkhnjedmlbhaa.Pure
