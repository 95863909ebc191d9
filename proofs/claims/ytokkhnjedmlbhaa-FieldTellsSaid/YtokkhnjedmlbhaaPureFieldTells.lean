/- The law FieldTells comes to true for all bytes a, b and every int n. No conditions. -/
import Derived.Test.YtokkhnjedmlbhaaPrx0
import Derived.Test.YtokkhnjedmlbhaaPrx2
import Derived.Test.YtokkhnjedmlbhaaFieldA
namespace Go.Proofs.Ytokkhnjedmlbhaa.Pure
open Go.RowKit Go.Proofs.Ytokkhnjedmlbhaa.Pr Go.Proofs.YtokkhnjedmlbhaaW.PrintWords Go.Proofs.YtokkhnjedmlbhaaW.PrintLast

theorem FieldTells : clavigerlaw05_FieldTells.Pure := M.FieldTells

end Go.Proofs.Ytokkhnjedmlbhaa.Pure
