/- The law SboxOnce comes to true for all bytes a and b. No conditions. -/
import Derived.Test.YtokkhnjedmlbhaaPrx0
import Derived.Test.YtokkhnjedmlbhaaPrx18
import Derived.Test.YtokkhnjedmlbhaaSboxA
namespace Go.Proofs.Ytokkhnjedmlbhaa.Pure
open Go.RowKit Go.Proofs.Ytokkhnjedmlbhaa.Pr Go.Proofs.YtokkhnjedmlbhaaW.PrintWords Go.Proofs.YtokkhnjedmlbhaaW.PrintLast

theorem SboxOnce : clavigerlaw06_SboxOnce.Pure := M.SboxOnce

end Go.Proofs.Ytokkhnjedmlbhaa.Pure
