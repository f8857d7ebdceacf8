/- Words for the walks over rows that may be clipped. No conditions beyond those that each theorem names. -/
import Derived.Test.YtbbhdgpiocojaaaUInv
import Derived.Test.YtbbhdgpiocojaaaUFootNe
namespace Go.Proofs.YtbbhdgpiocojaaaV.PrintWords
open Go.RowKit
end Go.Proofs.YtbbhdgpiocojaaaV.PrintWords
namespace Go.Proofs.YtbbhdgpiocojaaaV.PrintLast
section
variable {ops : Array Oper} {a : Act} {o og : Oper} {g : Nat} {t : Tmp} {u : Bool}
end
end Go.Proofs.YtbbhdgpiocojaaaV.PrintLast
