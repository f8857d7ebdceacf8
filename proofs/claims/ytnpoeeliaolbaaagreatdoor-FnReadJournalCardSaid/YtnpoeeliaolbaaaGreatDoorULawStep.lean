/- What a law that marks what it made is told of its own values: each lies in a stretch of memory of its own. No conditions beyond those that each theorem names. -/
import Derived.Test.YtnpoeeliaolbaaaGreatDoorUMore
namespace Go.Proofs.YtnpoeeliaolbaaaGreatDoorV.PrintWords
open Go.RowKit
set_option linter.unusedVariables false
theorem below_drawn {W W2 : World} (h : D0w W W2) : Below W.heap.size W W2 := by
 obtain ⟨n, rfl⟩ := h.out;exact bN (Below.refl _ _) n
section
variable {α β : Type} {d : Kd α} {d' : Kd β} {e e' p : Nat} {w W W2 : World} {ok ok' : Nat → Prop} {v v' : Value} {xs : List α} {ys : List β}
end
end Go.Proofs.YtnpoeeliaolbaaaGreatDoorV.PrintWords
