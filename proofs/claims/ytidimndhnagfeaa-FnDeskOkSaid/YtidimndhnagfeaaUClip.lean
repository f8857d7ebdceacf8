/- A row of the call's own, clipped, is a row of the call's own. No conditions. -/
import Derived.Test.YtidimndhnagfeaaUMore
namespace Go.Proofs.YtidimndhnagfeaaV.PrintWords
open Go.RowKit
end Go.Proofs.YtidimndhnagfeaaV.PrintWords
