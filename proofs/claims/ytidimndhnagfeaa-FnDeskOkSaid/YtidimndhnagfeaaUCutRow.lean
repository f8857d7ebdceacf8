/- The first row of a row of rows of the call's own is cut: what it reads as behind the store. No conditions. -/
import Derived.Test.YtidimndhnagfeaaUMore
namespace Go.Proofs.YtidimndhnagfeaaV.PrintWords
open Go.RowKit
set_option linter.unusedVariables false
namespace Kd
end Kd
end Go.Proofs.YtidimndhnagfeaaV.PrintWords
