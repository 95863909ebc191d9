/- The law FieldDots comes to true for all texts a, b. No conditions. -/
import Derived.Test.YtokkhnjedmlbhaaPrx0
import Derived.Test.YtokkhnjedmlbhaaPrx3
import Derived.Test.YtokkhnjedmlbhaaFieldA
namespace Go.Proofs.Ytokkhnjedmlbhaa.Pure
open Go.RowKit Go.Proofs.Ytokkhnjedmlbhaa.Pr Go.Proofs.YtokkhnjedmlbhaaW.PrintWords Go.Proofs.YtokkhnjedmlbhaaW.PrintLast

theorem FieldDots : clavigerlaw05_FieldDots.Pure := M.FieldDots

end Go.Proofs.Ytokkhnjedmlbhaa.Pure
