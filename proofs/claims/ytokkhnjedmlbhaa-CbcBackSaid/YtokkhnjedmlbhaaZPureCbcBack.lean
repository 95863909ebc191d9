/- What is encrypted, decrypted, is what it was; a text in two pieces goes on with the last block of the first one. Conditions: those of the row. -/
import Derived.Test.YtokkhnjedmlbhaaZPrL10CbcBack
import Derived.Test.YtokkhnjedmlbhaaZPrg01x
import Derived.Test.YtokkhnjedmlbhaaZRowAid
namespace Go.Proofs.Ytokkhnjedmlbhaa.Pure
open Go.RowKit Go.Proofs.Ytokkhnjedmlbhaa.Pr Go.Proofs.YtokkhnjedmlbhaaW.PrintWords Go.Proofs.YtokkhnjedmlbhaaW.PrintLast

theorem CbcBack : clavigerlaw10_CbcBack.Pure := M.CbcBack

end Go.Proofs.Ytokkhnjedmlbhaa.Pure
