/- The law EqualTells comes to true for all arguments. No conditions. -/
import Derived.Test.YtmcpfkgahmdkgaaPrx0
import Derived.Test.YtmcpfkgahmdkgaaPrx7
import Derived.Test.YtmcpfkgahmdkgaaEqualP
namespace Go.Proofs.Ytmcpfkgahmdkgaa.Pure
open Go.RowKit Go.Proofs.Ytmcpfkgahmdkgaa.Pr Go.Proofs.YtmcpfkgahmdkgaaW.PrintWords Go.Proofs.YtmcpfkgahmdkgaaW.PrintLast

theorem EqualTells : clavigerlaw04_EqualTells.Pure := M.EqualTells

end Go.Proofs.Ytmcpfkgahmdkgaa.Pure
