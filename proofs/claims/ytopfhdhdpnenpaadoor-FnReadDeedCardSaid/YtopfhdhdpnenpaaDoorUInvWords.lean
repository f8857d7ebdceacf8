/- Words for the walks over rows that may be clipped. No conditions beyond those that each theorem names. -/
import Derived.Test.YtopfhdhdpnenpaaDoorUInv
import Derived.Test.YtopfhdhdpnenpaaDoorUFootNe
namespace Go.Proofs.YtopfhdhdpnenpaaDoorV.PrintWords
open Go.RowKit
end Go.Proofs.YtopfhdhdpnenpaaDoorV.PrintWords
namespace Go.Proofs.YtopfhdhdpnenpaaDoorV.PrintLast
section
variable {ops : Array Oper} {a : Act} {o og : Oper} {g : Nat} {t : Tmp} {u : Bool}
end
end Go.Proofs.YtopfhdhdpnenpaaDoorV.PrintLast
