/- The law FieldLaws comes to true for all bytes a, b, c. No conditions. -/
import Derived.Test.YtokkhnjedmlbhaaPrx0
import Derived.Test.YtokkhnjedmlbhaaPrx3
import Derived.Test.YtokkhnjedmlbhaaFieldA
namespace Go.Proofs.Ytokkhnjedmlbhaa.Pure
open Go.RowKit Go.Proofs.Ytokkhnjedmlbhaa.Pr Go.Proofs.YtokkhnjedmlbhaaW.PrintWords Go.Proofs.YtokkhnjedmlbhaaW.PrintLast

theorem FieldLaws : clavigerlaw05_FieldLaws.Pure := M.FieldLaws

end Go.Proofs.Ytokkhnjedmlbhaa.Pure
