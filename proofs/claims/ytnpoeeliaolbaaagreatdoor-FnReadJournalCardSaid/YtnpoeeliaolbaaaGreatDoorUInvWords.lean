/- Words for the walks over rows that may be clipped. No conditions beyond those that each theorem names. -/
import Derived.Test.YtnpoeeliaolbaaaGreatDoorUInv
import Derived.Test.YtnpoeeliaolbaaaGreatDoorUFootNe
namespace Go.Proofs.YtnpoeeliaolbaaaGreatDoorV.PrintWords
open Go.RowKit
end Go.Proofs.YtnpoeeliaolbaaaGreatDoorV.PrintWords
namespace Go.Proofs.YtnpoeeliaolbaaaGreatDoorV.PrintLast
section
variable {ops : Array Oper} {a : Act} {o og : Oper} {g : Nat} {t : Tmp} {u : Bool}
end
end Go.Proofs.YtnpoeeliaolbaaaGreatDoorV.PrintLast
