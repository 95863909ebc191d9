/- The law SboxTells comes to true for every byte a, every int n and every text s. No conditions. -/
import Derived.Test.YtokkhnjedmlbhaaPrx0
import Derived.Test.YtokkhnjedmlbhaaPrx17
import Derived.Test.YtokkhnjedmlbhaaSboxA
namespace Go.Proofs.Ytokkhnjedmlbhaa.Pure
open Go.RowKit Go.Proofs.Ytokkhnjedmlbhaa.Pr Go.Proofs.YtokkhnjedmlbhaaW.PrintWords Go.Proofs.YtokkhnjedmlbhaaW.PrintLast

theorem SboxTells : clavigerlaw06_SboxTells.Pure := M.SboxTells

end Go.Proofs.Ytokkhnjedmlbhaa.Pure
