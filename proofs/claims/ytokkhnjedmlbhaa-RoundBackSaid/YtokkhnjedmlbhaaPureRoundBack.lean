/- The law RoundBack comes to true for all texts s and k and both answers to last. No conditions. -/
import Derived.Test.YtokkhnjedmlbhaaPrL07RoundBack
import Derived.Test.YtokkhnjedmlbhaaPrk
import Derived.Test.YtokkhnjedmlbhaaRoundA
namespace Go.Proofs.Ytokkhnjedmlbhaa.Pure
open Go.RowKit Go.Proofs.Ytokkhnjedmlbhaa.Pr Go.Proofs.YtokkhnjedmlbhaaW.PrintWords Go.Proofs.YtokkhnjedmlbhaaW.PrintLast

theorem RoundBack : clavigerlaw07_RoundBack.Pure := M.RoundBack

end Go.Proofs.Ytokkhnjedmlbhaa.Pure
