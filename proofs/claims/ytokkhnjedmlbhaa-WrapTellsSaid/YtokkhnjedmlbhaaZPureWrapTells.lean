/- Wrapping and unwrapping are as the reference says. -/
import Derived.Test.YtokkhnjedmlbhaaZPrL13WrapTells
import Derived.Test.YtokkhnjedmlbhaaZPrg01x
import Derived.Test.YtokkhnjedmlbhaaZWrapLT
namespace Go.Proofs.Ytokkhnjedmlbhaa.Pure
open Go.RowKit Go.Proofs.Ytokkhnjedmlbhaa.Pr Go.Proofs.YtokkhnjedmlbhaaW.PrintWords Go.Proofs.YtokkhnjedmlbhaaW.PrintLast

theorem WrapTells : clavigerlaw13_WrapTells.Pure := M.WrapTells

end Go.Proofs.Ytokkhnjedmlbhaa.Pure
