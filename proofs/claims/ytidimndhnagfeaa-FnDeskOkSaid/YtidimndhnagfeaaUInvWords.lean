/- Words for the walks over rows that may be clipped. No conditions beyond those that each theorem names. -/
import Derived.Test.YtidimndhnagfeaaUInv
import Derived.Test.YtidimndhnagfeaaUFootNe
namespace Go.Proofs.YtidimndhnagfeaaV.PrintWords
open Go.RowKit
end Go.Proofs.YtidimndhnagfeaaV.PrintWords
namespace Go.Proofs.YtidimndhnagfeaaV.PrintLast
section
variable {ops : Array Oper} {a : Act} {o og : Oper} {g : Nat} {t : Tmp} {u : Bool}
end
end Go.Proofs.YtidimndhnagfeaaV.PrintLast
