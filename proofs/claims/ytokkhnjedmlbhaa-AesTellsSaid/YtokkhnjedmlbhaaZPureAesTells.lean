/- Any key makes of any block, or of what is none, what the document says. Conditions: those of the row. -/
import Derived.Test.YtokkhnjedmlbhaaZAesR
import Derived.Test.YtokkhnjedmlbhaaZPrg05
import Derived.Test.YtokkhnjedmlbhaaZAesA
namespace Go.Proofs.Ytokkhnjedmlbhaa.Pure
open Go.RowKit Go.Proofs.Ytokkhnjedmlbhaa.Pr Go.Proofs.YtokkhnjedmlbhaaW.PrintWords Go.Proofs.YtokkhnjedmlbhaaW.PrintLast

theorem AesTells : clavigerlaw09_AesTells.Pure := M.AesTells

end Go.Proofs.Ytokkhnjedmlbhaa.Pure
