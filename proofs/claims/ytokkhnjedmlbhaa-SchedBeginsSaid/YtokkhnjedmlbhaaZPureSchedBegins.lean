/- The first keys are the key, there is one more than rounds; unlike keys have unlike ones. Conditions: those of the row. -/
import Derived.Test.YtokkhnjedmlbhaaZPrL08SchedBegins
import Derived.Test.YtokkhnjedmlbhaaZPrk
import Derived.Test.YtokkhnjedmlbhaaZRowAid
namespace Go.Proofs.Ytokkhnjedmlbhaa.Pure
open Go.RowKit Go.Proofs.Ytokkhnjedmlbhaa.Pr Go.Proofs.YtokkhnjedmlbhaaW.PrintWords Go.Proofs.YtokkhnjedmlbhaaW.PrintLast

theorem SchedBegins : clavigerlaw08_SchedBegins.Pure := M.SchedBegins

end Go.Proofs.Ytokkhnjedmlbhaa.Pure
