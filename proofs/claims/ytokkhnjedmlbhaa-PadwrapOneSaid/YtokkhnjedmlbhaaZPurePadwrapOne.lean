/- Whatever bytes are unwrapped: wrapped again they are just these. -/
import Derived.Test.YtokkhnjedmlbhaaZPrL14PadwrapOne
import Derived.Test.YtokkhnjedmlbhaaZPrg05
import Derived.Test.YtokkhnjedmlbhaaZPadLO
namespace Go.Proofs.Ytokkhnjedmlbhaa.Pure
open Go.RowKit Go.Proofs.Ytokkhnjedmlbhaa.Pr Go.Proofs.YtokkhnjedmlbhaaW.PrintWords Go.Proofs.YtokkhnjedmlbhaaW.PrintLast

theorem PadwrapOne : clavigerlaw14_PadwrapOne.Pure := M.PadwrapOne

end Go.Proofs.Ytokkhnjedmlbhaa.Pure
