/- Whatever bytes are unwrapped: wrapped again they are just these. -/
import Derived.Test.YtokkhnjedmlbhaaZPrL13WrapOne
import Derived.Test.YtokkhnjedmlbhaaZPrg01x
import Derived.Test.YtokkhnjedmlbhaaZWrapLO
namespace Go.Proofs.Ytokkhnjedmlbhaa.Pure
open Go.RowKit Go.Proofs.Ytokkhnjedmlbhaa.Pr Go.Proofs.YtokkhnjedmlbhaaW.PrintWords Go.Proofs.YtokkhnjedmlbhaaW.PrintLast

theorem WrapOne : clavigerlaw13_WrapOne.Pure := M.WrapOne

end Go.Proofs.Ytokkhnjedmlbhaa.Pure
