/- What a law that marks what it made is told of its own values: each lies in a stretch of memory of its own. No conditions beyond those that each theorem names. -/
import Derived.Test.YtbbhdgpiocojaaaUMore
namespace Go.Proofs.YtbbhdgpiocojaaaV.PrintWords
open Go.RowKit
set_option linter.unusedVariables false
section
variable {α β : Type} {d : Kd α} {d' : Kd β} {e e' p : Nat} {w W W2 : World} {ok ok' : Nat → Prop} {v v' : Value} {xs : List α} {ys : List β}
end
end Go.Proofs.YtbbhdgpiocojaaaV.PrintWords
