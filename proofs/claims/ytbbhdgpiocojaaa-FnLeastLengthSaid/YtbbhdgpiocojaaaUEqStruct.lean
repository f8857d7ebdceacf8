/- Words for the walks over rows that may be clipped. No conditions beyond those that each theorem names. -/
import Derived.Test.YtbbhdgpiocojaaaUWords
import Derived.Laws.StructEq
namespace Go.Proofs.YtbbhdgpiocojaaaV.PrintWords
open Go.RowKit
section
variable {P : Program} {d : Nat} {xs ys : Array Value} {f : Field} {fs : List Field} {a b : Value} {r s : Bool} {w : World}
end
end Go.Proofs.YtbbhdgpiocojaaaV.PrintWords
