/- What is wrapped, padded, unwrapped, is what it was. -/
import Derived.Test.YtokkhnjedmlbhaaZPrL14PadwrapBack
import Derived.Test.YtokkhnjedmlbhaaZPrg05
import Derived.Test.YtokkhnjedmlbhaaZPadLB
namespace Go.Proofs.Ytokkhnjedmlbhaa.Pure
open Go.RowKit Go.Proofs.Ytokkhnjedmlbhaa.Pr Go.Proofs.YtokkhnjedmlbhaaW.PrintWords Go.Proofs.YtokkhnjedmlbhaaW.PrintLast

theorem PadwrapBack : clavigerlaw14_PadwrapBack.Pure := M.PadwrapBack

end Go.Proofs.Ytokkhnjedmlbhaa.Pure
