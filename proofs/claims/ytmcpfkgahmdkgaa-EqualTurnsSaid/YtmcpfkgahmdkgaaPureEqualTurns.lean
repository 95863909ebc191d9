/- The law EqualTurns comes to true for all arguments. No conditions. -/
import Derived.Test.YtmcpfkgahmdkgaaPrx0
import Derived.Test.YtmcpfkgahmdkgaaPrx6
import Derived.Test.YtmcpfkgahmdkgaaEqualP
namespace Go.Proofs.Ytmcpfkgahmdkgaa.Pure
open Go.RowKit Go.Proofs.Ytmcpfkgahmdkgaa.Pr Go.Proofs.YtmcpfkgahmdkgaaW.PrintWords Go.Proofs.YtmcpfkgahmdkgaaW.PrintLast

theorem EqualTurns : clavigerlaw04_EqualTurns.Pure := M.EqualTurns

end Go.Proofs.Ytmcpfkgahmdkgaa.Pure
