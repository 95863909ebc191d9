/- The law RoundTells comes to true for all texts s and k and both answers to last. No conditions. -/
import Derived.Test.YtokkhnjedmlbhaaPrL07RoundTells
import Derived.Test.YtokkhnjedmlbhaaPrk
import Derived.Test.YtokkhnjedmlbhaaRoundA
namespace Go.Proofs.Ytokkhnjedmlbhaa.Pure
open Go.RowKit Go.Proofs.Ytokkhnjedmlbhaa.Pr Go.Proofs.YtokkhnjedmlbhaaW.PrintWords Go.Proofs.YtokkhnjedmlbhaaW.PrintLast

theorem RoundTells : clavigerlaw07_RoundTells.Pure := M.RoundTells

end Go.Proofs.Ytokkhnjedmlbhaa.Pure
