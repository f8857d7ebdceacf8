/- Words for the walks over rows that may be clipped. No conditions beyond those that each theorem names. -/
import Derived.Test.YtghjiacfofeegaaUInv
import Derived.Test.YtghjiacfofeegaaUFootNe
namespace Go.Proofs.YtghjiacfofeegaaV.PrintWords
open Go.RowKit
end Go.Proofs.YtghjiacfofeegaaV.PrintWords
namespace Go.Proofs.YtghjiacfofeegaaV.PrintLast
section
variable {ops : Array Oper} {a : Act} {o og : Oper} {g : Nat} {t : Tmp} {u : Bool}
end
end Go.Proofs.YtghjiacfofeegaaV.PrintLast
