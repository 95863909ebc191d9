/- What was sealed is opened as it was; what is opened was sealed so. Conditions: those of the row. -/
import Derived.Test.YtokkhnjedmlbhaaZPrL38OpenBack
import Derived.Test.YtokkhnjedmlbhaaZPrg01x
import Derived.Test.YtokkhnjedmlbhaaZOpenC
namespace Go.Proofs.Ytokkhnjedmlbhaa.Pure
open Go.RowKit Go.Proofs.Ytokkhnjedmlbhaa.Pr Go.Proofs.YtokkhnjedmlbhaaW.PrintWords Go.Proofs.YtokkhnjedmlbhaaW.PrintLast

theorem OpenBack : clavigerlaw38_OpenBack.Pure := M.OpenBack

end Go.Proofs.Ytokkhnjedmlbhaa.Pure
