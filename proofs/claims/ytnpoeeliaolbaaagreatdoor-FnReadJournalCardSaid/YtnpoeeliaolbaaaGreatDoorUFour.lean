/- Words for the walks over rows that may be clipped. No conditions beyond those that each theorem names. -/
import Derived.Test.YtnpoeeliaolbaaaGreatDoorUTab
namespace Go.Proofs.YtnpoeeliaolbaaaGreatDoorV.PrintLast
section
variable {P : Program} {ops : Array Oper} {Q : Exit → Act → World → Prop} {md : Region.Mode} {S : World → Prop} {ds : List Nat} {T : Bool × List (List Nat × List Nat)}
end
end Go.Proofs.YtnpoeeliaolbaaaGreatDoorV.PrintLast
