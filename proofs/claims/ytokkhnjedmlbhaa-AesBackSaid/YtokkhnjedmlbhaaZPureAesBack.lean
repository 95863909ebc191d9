/- What is encrypted, decrypted, is what it was, and the other way round; unlike blocks stay unlike. Conditions: those of the row. -/
import Derived.Test.YtokkhnjedmlbhaaZAesA
import Derived.Test.YtokkhnjedmlbhaaZPrg05
namespace Go.Proofs.Ytokkhnjedmlbhaa.Pure
open Go.RowKit Go.Proofs.Ytokkhnjedmlbhaa.Pr Go.Proofs.YtokkhnjedmlbhaaW.PrintWords Go.Proofs.YtokkhnjedmlbhaaW.PrintLast

theorem AesBack : clavigerlaw09_AesBack.Pure := M.AesBack

end Go.Proofs.Ytokkhnjedmlbhaa.Pure
