/- The law RoundAdds comes to true for all texts s and t. No conditions. -/
import Derived.Test.YtokkhnjedmlbhaaPrL07RoundAdds
import Derived.Test.YtokkhnjedmlbhaaPrk
import Derived.Test.YtokkhnjedmlbhaaRoundA
namespace Go.Proofs.Ytokkhnjedmlbhaa.Pure
open Go.RowKit Go.Proofs.Ytokkhnjedmlbhaa.Pr Go.Proofs.YtokkhnjedmlbhaaW.PrintWords Go.Proofs.YtokkhnjedmlbhaaW.PrintLast

theorem RoundAdds : clavigerlaw07_RoundAdds.Pure := M.RoundAdds

end Go.Proofs.Ytokkhnjedmlbhaa.Pure
