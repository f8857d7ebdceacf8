/- A row of the call's own, clipped, is a row of the call's own. No conditions. -/
import Derived.Test.YtbbhdgpiocojaaaUMore
namespace Go.Proofs.YtbbhdgpiocojaaaV.PrintWords
open Go.RowKit
end Go.Proofs.YtbbhdgpiocojaaaV.PrintWords
