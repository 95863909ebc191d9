/- Padded wrapping and unwrapping are as the reference says. -/
import Derived.Test.YtokkhnjedmlbhaaZPrL14PadwrapTells
import Derived.Test.YtokkhnjedmlbhaaZPrg05
import Derived.Test.YtokkhnjedmlbhaaZPadLT
namespace Go.Proofs.Ytokkhnjedmlbhaa.Pure
open Go.RowKit Go.Proofs.Ytokkhnjedmlbhaa.Pr Go.Proofs.YtokkhnjedmlbhaaW.PrintWords Go.Proofs.YtokkhnjedmlbhaaW.PrintLast

theorem PadwrapTells : clavigerlaw14_PadwrapTells.Pure := M.PadwrapTells

end Go.Proofs.Ytokkhnjedmlbhaa.Pure
