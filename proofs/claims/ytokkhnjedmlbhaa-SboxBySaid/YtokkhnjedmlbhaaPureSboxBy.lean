/- The law SboxBy comes to true for every byte a. No conditions. -/
import Derived.Test.YtokkhnjedmlbhaaPrx0
import Derived.Test.YtokkhnjedmlbhaaPrx10
import Derived.Test.YtokkhnjedmlbhaaSboxA
namespace Go.Proofs.Ytokkhnjedmlbhaa.Pure
open Go.RowKit Go.Proofs.Ytokkhnjedmlbhaa.Pr Go.Proofs.YtokkhnjedmlbhaaW.PrintWords Go.Proofs.YtokkhnjedmlbhaaW.PrintLast

theorem SboxBy : clavigerlaw06_SboxBy.Pure := M.SboxBy

end Go.Proofs.Ytokkhnjedmlbhaa.Pure
