/- Whatever is handed in, the payload, or why there is none, is what the document says. Conditions: those of the row. -/
import Derived.Test.YtokkhnjedmlbhaaZPrL38OpenTells
import Derived.Test.YtokkhnjedmlbhaaZPrg01x
import Derived.Test.YtokkhnjedmlbhaaZOpenB
namespace Go.Proofs.Ytokkhnjedmlbhaa.Pure
open Go.RowKit Go.Proofs.Ytokkhnjedmlbhaa.Pr Go.Proofs.YtokkhnjedmlbhaaW.PrintWords Go.Proofs.YtokkhnjedmlbhaaW.PrintLast

theorem OpenTells : clavigerlaw38_OpenTells.Pure := M.OpenTells

end Go.Proofs.Ytokkhnjedmlbhaa.Pure
