/- Fewer bytes are the beginning of more. Conditions: those of the row. -/
import Derived.Test.YtokkhnjedmlbhaaZPrL12KdfBegins
import Derived.Test.YtokkhnjedmlbhaaZPrg01x
import Derived.Test.YtokkhnjedmlbhaaZKdfA
namespace Go.Proofs.Ytokkhnjedmlbhaa.Pure
open Go.RowKit Go.Proofs.Ytokkhnjedmlbhaa.Pr Go.Proofs.YtokkhnjedmlbhaaW.PrintWords Go.Proofs.YtokkhnjedmlbhaaW.PrintLast

theorem KdfBegins : clavigerlaw12_KdfBegins.Pure := M.KdfBegins

end Go.Proofs.Ytokkhnjedmlbhaa.Pure
