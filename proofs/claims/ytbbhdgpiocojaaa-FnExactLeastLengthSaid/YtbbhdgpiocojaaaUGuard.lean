/- Words for the walks over rows that may be clipped. No conditions beyond those that each theorem names. -/
import Derived.Test.YtbbhdgpiocojaaaUWords
namespace Go.Proofs.YtbbhdgpiocojaaaV.PrintWords
open Go.RowKit
section
variable {P : Program} {ops : Array Oper} {rest : List Oper} {o : Oper} {a : Act} {Q : Exit → Act → World → Prop} {W : World}
end
end Go.Proofs.YtbbhdgpiocojaaaV.PrintWords
