/- The first row of a row of rows of the call's own is cut: what it reads as behind the store. No conditions. -/
import Derived.Test.YtnpoeeliaolbaaaGreatDoorUMore
namespace Go.Proofs.YtnpoeeliaolbaaaGreatDoorV.PrintWords
open Go.RowKit
set_option linter.unusedVariables false
namespace Kd
end Kd
end Go.Proofs.YtnpoeeliaolbaaaGreatDoorV.PrintWords
