/- Any key out of any key, or why there is none, is what the document says. Conditions: those of the row. -/
import Derived.Test.YtokkhnjedmlbhaaZPrL12KdfTells
import Derived.Test.YtokkhnjedmlbhaaZPrg01x
import Derived.Test.YtokkhnjedmlbhaaZKdfA
namespace Go.Proofs.Ytokkhnjedmlbhaa.Pure
open Go.RowKit Go.Proofs.Ytokkhnjedmlbhaa.Pr Go.Proofs.YtokkhnjedmlbhaaW.PrintWords Go.Proofs.YtokkhnjedmlbhaaW.PrintLast

theorem KdfTells : clavigerlaw12_KdfTells.Pure := M.KdfTells

end Go.Proofs.Ytokkhnjedmlbhaa.Pure
