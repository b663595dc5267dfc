/- No gatherer takes anything; which may be. For every input. -/
import Derived.Test.YtomenklhgofjaaaXTreeNonex1
import Derived.Test.YtomenklhgofjaaaXTreeNonex2
import Derived.Test.YtomenklhgofjaaaXTreeNonex3
import Derived.Test.YtomenklhgofjaaaXTreeNonex4
namespace Go.Proofs.Ytomenklhgofjaaa.Pure
open Go.RowKit Go.Proofs.Ytomenklhgofjaaa Go.Proofs.Ytomenklhgofjaaa.XTreeNone Go.Proofs.YtomenklhgofjaaaW.PrintWords Go.Proofs.YtomenklhgofjaaaW.PrintLast Go.Proofs.YtomenklhgofjaaaW.PrintMore
set_option linter.unusedVariables false
set_option linter.unusedSimpArgs false
set_option maxRecDepth 100000 in
theorem TreeNone : tinderboxlaw37_TreeNone.Pure := ⟨60, by decide +kernel⟩
end Go.Proofs.Ytomenklhgofjaaa.Pure
