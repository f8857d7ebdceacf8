/- A row of the call's own, clipped, is a row of the call's own. No conditions. -/
import Derived.Test.YtopfhdhdpnenpaaDoorUMore
namespace Go.Proofs.YtopfhdhdpnenpaaDoorV.PrintWords
open Go.RowKit
end Go.Proofs.YtopfhdhdpnenpaaDoorV.PrintWords
