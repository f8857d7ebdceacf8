/- Words for the walks over rows that may be clipped. No conditions beyond those that each theorem names. -/
import Derived.Test.YtnbdobkgbdncpaaUInv
import Derived.Test.YtnbdobkgbdncpaaUFootNe
namespace Go.Proofs.YtnbdobkgbdncpaaV.PrintWords
open Go.RowKit
end Go.Proofs.YtnbdobkgbdncpaaV.PrintWords
namespace Go.Proofs.YtnbdobkgbdncpaaV.PrintLast
section
variable {ops : Array Oper} {a : Act} {o og : Oper} {g : Nat} {t : Tmp} {u : Bool}
end
end Go.Proofs.YtnbdobkgbdncpaaV.PrintLast
