/- What is wrapped, unwrapped, is what it was. -/
import Derived.Test.YtokkhnjedmlbhaaZPrL13WrapBack
import Derived.Test.YtokkhnjedmlbhaaZPrg01x
import Derived.Test.YtokkhnjedmlbhaaZWrapLB
namespace Go.Proofs.Ytokkhnjedmlbhaa.Pure
open Go.RowKit Go.Proofs.Ytokkhnjedmlbhaa.Pr Go.Proofs.YtokkhnjedmlbhaaW.PrintWords Go.Proofs.YtokkhnjedmlbhaaW.PrintLast

theorem WrapBack : clavigerlaw13_WrapBack.Pure := M.WrapBack

end Go.Proofs.Ytokkhnjedmlbhaa.Pure
