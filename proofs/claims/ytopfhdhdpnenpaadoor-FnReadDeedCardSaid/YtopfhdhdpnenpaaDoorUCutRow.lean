/- The first row of a row of rows of the call's own is cut: what it reads as behind the store. No conditions. -/
import Derived.Test.YtopfhdhdpnenpaaDoorUMore
namespace Go.Proofs.YtopfhdhdpnenpaaDoorV.PrintWords
open Go.RowKit
set_option linter.unusedVariables false
namespace Kd
end Kd
end Go.Proofs.YtopfhdhdpnenpaaDoorV.PrintWords
