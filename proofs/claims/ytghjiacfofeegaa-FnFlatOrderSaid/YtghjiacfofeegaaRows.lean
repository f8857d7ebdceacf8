/-
  No cell of these rows narrows 'for every input' (looked for: loops, veiled, ifaces, maps, wideKeys, modest, calm, conditions, laid).
  DERIVED. THE GIVEN ROWS OF THIS SEAT. 12 by the template 'for every input the law returns true; each argument reads behind the call as it read before'; 0 by the template 'total and deterministic' (their statements: YtghjiacfofeegaaTotals.lean).
  GIVEN WITH THE SEED: the statements are not yours to turn. If you find one false, say at which input.
  Laid BY PROGRAM, IN A SANDBOX (cutbox-rows.mjs): the forced cells as the released guide's own fill.sh prints them over the translation 82ac436a7b1b3900… (all of the seat's roots in one cut). By AI agents, Wed Nov 11 2026. No macro, syntax, notation, axiom, sorry.
-/
import Derived.Test.YtghjiacfofeegaaChecked
import GoSem.Claim
import GoSem.ClaimJoined
import GoSem.ClaimMapViews
import Derived.JoinedTies
import Derived.KernelRfl
namespace Go.Proofs.Ytghjiacfofeegaa
/- THE CELL 'sum', in the pinned program and in every row, IS THE sha256 OF THE DUMP (.gsa) THAT YtghjiacfofeegaaProg.lean LOADS. Nothing in Lean hashes anything: it is a label: what it is worth is what the hold of that sum in a sandbox is worth. -/
noncomputable def Try.pinned : Pinned := { name := "ytghjiacfofeegaa", sum := "82ac436a7b1b390009ab59fa30ed8f50f8df3dd2670d3eb812814a6e9c285734", checked := Try.checked }
namespace Rows
def none {H : Type} : Left H := { results := [], args := [] }

/-- 'laws.FnLongestArc': WHATEVER THE INPUT: true; the input reads as it did. -/
def fnLongestArcSpec : ChangeSpec := { name := "fnLongestArc", fn := fun _ => fun
  | [d] => { results := [.lit (.bool true)], args := [d] }
  | _ => none }
def fnLongestArcRow : OpenClaim := { program := "ytghjiacfofeegaa", sum := "82ac436a7b1b390009ab59fa30ed8f50f8df3dd2670d3eb812814a6e9c285734", func := "loop.example/headtrees/laws.FnLongestArc", spec := "fnLongestArc", recurses := true, apart := false }
def FnLongestArcSaid : Prop := fnLongestArcRow.holds Try.pinned (OpenSpec.ofChange fnLongestArcSpec)

/-- ITS FALSE NEIGHBOUR: 'it returns false'. Refute it at one input. -/
def fnLongestArcWrong : ChangeSpec := { name := "fnLongestArc", fn := fun _ => fun
  | [d] => { results := [.lit (.bool false)], args := [d] }
  | _ => none }
def FnLongestArcWrongFalsely : Prop := fnLongestArcRow.holds Try.pinned (OpenSpec.ofChange fnLongestArcWrong)

/-- 'laws.FnLengthOf': WHATEVER THE INPUT: true; the input reads as it did. -/
def fnLengthOfSpec : ChangeSpec := { name := "fnLengthOf", fn := fun _ => fun
  | [d] => { results := [.lit (.bool true)], args := [d] }
  | _ => none }
def fnLengthOfRow : OpenClaim := { program := "ytghjiacfofeegaa", sum := "82ac436a7b1b390009ab59fa30ed8f50f8df3dd2670d3eb812814a6e9c285734", func := "loop.example/headtrees/laws.FnLengthOf", spec := "fnLengthOf", recurses := true, apart := false }
def FnLengthOfSaid : Prop := fnLengthOfRow.holds Try.pinned (OpenSpec.ofChange fnLengthOfSpec)

/-- ITS FALSE NEIGHBOUR: 'it returns false'. Refute it at one input. -/
def fnLengthOfWrong : ChangeSpec := { name := "fnLengthOf", fn := fun _ => fun
  | [d] => { results := [.lit (.bool false)], args := [d] }
  | _ => none }
def FnLengthOfWrongFalsely : Prop := fnLengthOfRow.holds Try.pinned (OpenSpec.ofChange fnLengthOfWrong)

/-- 'laws.FnEndsOf': WHATEVER THE INPUT: true; the input reads as it did. -/
def fnEndsOfSpec : ChangeSpec := { name := "fnEndsOf", fn := fun _ => fun
  | [d] => { results := [.lit (.bool true)], args := [d] }
  | _ => none }
def fnEndsOfRow : OpenClaim := { program := "ytghjiacfofeegaa", sum := "82ac436a7b1b390009ab59fa30ed8f50f8df3dd2670d3eb812814a6e9c285734", func := "loop.example/headtrees/laws.FnEndsOf", spec := "fnEndsOf", recurses := true, apart := false }
def FnEndsOfSaid : Prop := fnEndsOfRow.holds Try.pinned (OpenSpec.ofChange fnEndsOfSpec)

/-- ITS FALSE NEIGHBOUR: 'it returns false'. Refute it at one input. -/
def fnEndsOfWrong : ChangeSpec := { name := "fnEndsOf", fn := fun _ => fun
  | [d] => { results := [.lit (.bool false)], args := [d] }
  | _ => none }
def FnEndsOfWrongFalsely : Prop := fnEndsOfRow.holds Try.pinned (OpenSpec.ofChange fnEndsOfWrong)

/-- 'laws.FnPairsApart': WHATEVER THE INPUT: true; the input reads as it did. -/
def fnPairsApartSpec : ChangeSpec := { name := "fnPairsApart", fn := fun _ => fun
  | [d] => { results := [.lit (.bool true)], args := [d] }
  | _ => none }
def fnPairsApartRow : OpenClaim := { program := "ytghjiacfofeegaa", sum := "82ac436a7b1b390009ab59fa30ed8f50f8df3dd2670d3eb812814a6e9c285734", func := "loop.example/headtrees/laws.FnPairsApart", spec := "fnPairsApart", recurses := true, apart := false }
def FnPairsApartSaid : Prop := fnPairsApartRow.holds Try.pinned (OpenSpec.ofChange fnPairsApartSpec)

/-- ITS FALSE NEIGHBOUR: 'it returns false'. Refute it at one input. -/
def fnPairsApartWrong : ChangeSpec := { name := "fnPairsApart", fn := fun _ => fun
  | [d] => { results := [.lit (.bool false)], args := [d] }
  | _ => none }
def FnPairsApartWrongFalsely : Prop := fnPairsApartRow.holds Try.pinned (OpenSpec.ofChange fnPairsApartWrong)

/-- 'laws.FnSidesFor': WHATEVER THE INPUT: true; the input reads as it did. -/
def fnSidesForSpec : ChangeSpec := { name := "fnSidesFor", fn := fun _ => fun
  | [d] => { results := [.lit (.bool true)], args := [d] }
  | _ => none }
def fnSidesForRow : OpenClaim := { program := "ytghjiacfofeegaa", sum := "82ac436a7b1b390009ab59fa30ed8f50f8df3dd2670d3eb812814a6e9c285734", func := "loop.example/headtrees/laws.FnSidesFor", spec := "fnSidesFor", unfollowed := true, recurses := true, apart := false }
def FnSidesForSaid : Prop := fnSidesForRow.holds Try.pinned (OpenSpec.ofChange fnSidesForSpec)

/-- ITS FALSE NEIGHBOUR: 'it returns false'. Refute it at one input. -/
def fnSidesForWrong : ChangeSpec := { name := "fnSidesFor", fn := fun _ => fun
  | [d] => { results := [.lit (.bool false)], args := [d] }
  | _ => none }
def FnSidesForWrongFalsely : Prop := fnSidesForRow.holds Try.pinned (OpenSpec.ofChange fnSidesForWrong)

/-- 'laws.FnLengthsSum': WHATEVER THE INPUT: true; the input reads as it did. -/
def fnLengthsSumSpec : ChangeSpec := { name := "fnLengthsSum", fn := fun _ => fun
  | [d] => { results := [.lit (.bool true)], args := [d] }
  | _ => none }
def fnLengthsSumRow : OpenClaim := { program := "ytghjiacfofeegaa", sum := "82ac436a7b1b390009ab59fa30ed8f50f8df3dd2670d3eb812814a6e9c285734", func := "loop.example/headtrees/laws.FnLengthsSum", spec := "fnLengthsSum", unfollowed := true, recurses := true, apart := false }
def FnLengthsSumSaid : Prop := fnLengthsSumRow.holds Try.pinned (OpenSpec.ofChange fnLengthsSumSpec)

/-- ITS FALSE NEIGHBOUR: 'it returns false'. Refute it at one input. -/
def fnLengthsSumWrong : ChangeSpec := { name := "fnLengthsSum", fn := fun _ => fun
  | [d] => { results := [.lit (.bool false)], args := [d] }
  | _ => none }
def FnLengthsSumWrongFalsely : Prop := fnLengthsSumRow.holds Try.pinned (OpenSpec.ofChange fnLengthsSumWrong)

/-- 'laws.FnCountTurned': WHATEVER THE INPUT: true; the input reads as it did. -/
def fnCountTurnedSpec : ChangeSpec := { name := "fnCountTurned", fn := fun _ => fun
  | [d] => { results := [.lit (.bool true)], args := [d] }
  | _ => none }
def fnCountTurnedRow : OpenClaim := { program := "ytghjiacfofeegaa", sum := "82ac436a7b1b390009ab59fa30ed8f50f8df3dd2670d3eb812814a6e9c285734", func := "loop.example/headtrees/laws.FnCountTurned", spec := "fnCountTurned", unfollowed := true, recurses := true, apart := false }
def FnCountTurnedSaid : Prop := fnCountTurnedRow.holds Try.pinned (OpenSpec.ofChange fnCountTurnedSpec)

/-- ITS FALSE NEIGHBOUR: 'it returns false'. Refute it at one input. -/
def fnCountTurnedWrong : ChangeSpec := { name := "fnCountTurned", fn := fun _ => fun
  | [d] => { results := [.lit (.bool false)], args := [d] }
  | _ => none }
def FnCountTurnedWrongFalsely : Prop := fnCountTurnedRow.holds Try.pinned (OpenSpec.ofChange fnCountTurnedWrong)

/-- 'laws.FnExchangedAt': WHATEVER THE INPUT: true; the input reads as it did. -/
def fnExchangedAtSpec : ChangeSpec := { name := "fnExchangedAt", fn := fun _ => fun
  | [d] => { results := [.lit (.bool true)], args := [d] }
  | _ => none }
def fnExchangedAtRow : OpenClaim := { program := "ytghjiacfofeegaa", sum := "82ac436a7b1b390009ab59fa30ed8f50f8df3dd2670d3eb812814a6e9c285734", func := "loop.example/headtrees/laws.FnExchangedAt", spec := "fnExchangedAt", unfollowed := true, recurses := true, apart := false }
def FnExchangedAtSaid : Prop := fnExchangedAtRow.holds Try.pinned (OpenSpec.ofChange fnExchangedAtSpec)

/-- ITS FALSE NEIGHBOUR: 'it returns false'. Refute it at one input. -/
def fnExchangedAtWrong : ChangeSpec := { name := "fnExchangedAt", fn := fun _ => fun
  | [d] => { results := [.lit (.bool false)], args := [d] }
  | _ => none }
def FnExchangedAtWrongFalsely : Prop := fnExchangedAtRow.holds Try.pinned (OpenSpec.ofChange fnExchangedAtWrong)

/-- 'laws.FnRunEager': WHATEVER THE INPUT: true; the input reads as it did. -/
def fnRunEagerSpec : ChangeSpec := { name := "fnRunEager", fn := fun _ => fun
  | [d] => { results := [.lit (.bool true)], args := [d] }
  | _ => none }
def fnRunEagerRow : OpenClaim := { program := "ytghjiacfofeegaa", sum := "82ac436a7b1b390009ab59fa30ed8f50f8df3dd2670d3eb812814a6e9c285734", func := "loop.example/headtrees/laws.FnRunEager", spec := "fnRunEager", unfollowed := true, recurses := true, apart := false }
def FnRunEagerSaid : Prop := fnRunEagerRow.holds Try.pinned (OpenSpec.ofChange fnRunEagerSpec)

/-- ITS FALSE NEIGHBOUR: 'it returns false'. Refute it at one input. -/
def fnRunEagerWrong : ChangeSpec := { name := "fnRunEager", fn := fun _ => fun
  | [d] => { results := [.lit (.bool false)], args := [d] }
  | _ => none }
def FnRunEagerWrongFalsely : Prop := fnRunEagerRow.holds Try.pinned (OpenSpec.ofChange fnRunEagerWrong)

/-- 'laws.FnFlatOrder': WHATEVER THE INPUT: true; the input reads as it did. -/
def fnFlatOrderSpec : ChangeSpec := { name := "fnFlatOrder", fn := fun _ => fun
  | [d] => { results := [.lit (.bool true)], args := [d] }
  | _ => none }
def fnFlatOrderRow : OpenClaim := { program := "ytghjiacfofeegaa", sum := "82ac436a7b1b390009ab59fa30ed8f50f8df3dd2670d3eb812814a6e9c285734", func := "loop.example/headtrees/laws.FnFlatOrder", spec := "fnFlatOrder", unfollowed := true, recurses := true, apart := false }
def FnFlatOrderSaid : Prop := fnFlatOrderRow.holds Try.pinned (OpenSpec.ofChange fnFlatOrderSpec)

/-- ITS FALSE NEIGHBOUR: 'it returns false'. Refute it at one input. -/
def fnFlatOrderWrong : ChangeSpec := { name := "fnFlatOrder", fn := fun _ => fun
  | [d] => { results := [.lit (.bool false)], args := [d] }
  | _ => none }
def FnFlatOrderWrongFalsely : Prop := fnFlatOrderRow.holds Try.pinned (OpenSpec.ofChange fnFlatOrderWrong)

/-- 'laws.FnCrossingsSum': WHATEVER THE INPUT: true; the input reads as it did. -/
def fnCrossingsSumSpec : ChangeSpec := { name := "fnCrossingsSum", fn := fun _ => fun
  | [d] => { results := [.lit (.bool true)], args := [d] }
  | _ => none }
def fnCrossingsSumRow : OpenClaim := { program := "ytghjiacfofeegaa", sum := "82ac436a7b1b390009ab59fa30ed8f50f8df3dd2670d3eb812814a6e9c285734", func := "loop.example/headtrees/laws.FnCrossingsSum", spec := "fnCrossingsSum", unfollowed := true, recurses := true, apart := false }
def FnCrossingsSumSaid : Prop := fnCrossingsSumRow.holds Try.pinned (OpenSpec.ofChange fnCrossingsSumSpec)

/-- ITS FALSE NEIGHBOUR: 'it returns false'. Refute it at one input. -/
def fnCrossingsSumWrong : ChangeSpec := { name := "fnCrossingsSum", fn := fun _ => fun
  | [d] => { results := [.lit (.bool false)], args := [d] }
  | _ => none }
def FnCrossingsSumWrongFalsely : Prop := fnCrossingsSumRow.holds Try.pinned (OpenSpec.ofChange fnCrossingsSumWrong)

/-- 'laws.FnStarOk': WHATEVER THE INPUT: true; the input reads as it did. -/
def fnStarOkSpec : ChangeSpec := { name := "fnStarOk", fn := fun _ => fun
  | [d] => { results := [.lit (.bool true)], args := [d] }
  | _ => none }
def fnStarOkRow : OpenClaim := { program := "ytghjiacfofeegaa", sum := "82ac436a7b1b390009ab59fa30ed8f50f8df3dd2670d3eb812814a6e9c285734", func := "loop.example/headtrees/laws.FnStarOk", spec := "fnStarOk", unfollowed := true, recurses := true, apart := false }
def FnStarOkSaid : Prop := fnStarOkRow.holds Try.pinned (OpenSpec.ofChange fnStarOkSpec)

/-- ITS FALSE NEIGHBOUR: 'it returns false'. Refute it at one input. -/
def fnStarOkWrong : ChangeSpec := { name := "fnStarOk", fn := fun _ => fun
  | [d] => { results := [.lit (.bool false)], args := [d] }
  | _ => none }
def FnStarOkWrongFalsely : Prop := fnStarOkRow.holds Try.pinned (OpenSpec.ofChange fnStarOkWrong)

/- THE SECOND FORM. 'bulk': how many values and letters a reading holds, each counted each time it is reached (what is shared counts as often as it is met; a slice's spare places count too). A statement '..UptoSaid' is the law's where the arguments, and the package variables that the reading takes, are together of bulk at most 1048576: NARROWER than '..Said'. Prove '..Said' where nothing that the law and all that it calls make is longer than what came in: it says more and counts as full. Else prove '..UptoSaid'. A law counts once. -/
mutual
def uptoBulk {H : Type} : DataW H → Nat
  | .lit (.string bytes) => bytes.length + 1
  | .lit _ => 1
  | .nil => 1
  | .ptr d => uptoBulk d + 1
  | .slice elems spare => uptoBulkAll elems + uptoBulkAll spare + 1
  | .agg parts => uptoBulkAll parts + 1
  | .iface _ d => uptoBulk d + 1
  | .map entries => uptoBulkEntries entries + 1
  | .held _ => 1
def uptoBulkAll {H : Type} : List (DataW H) → Nat
  | [] => 0
  | d :: r => uptoBulk d + uptoBulkAll r
def uptoBulkEntries {H : Type} : List (Lit × DataW H) → Nat
  | [] => 0
  | x :: r => uptoBulkEntry x + uptoBulkEntries r
def uptoBulkEntry {H : Type} : Lit × DataW H → Nat
  | (.string bytes, d) => bytes.length + uptoBulk d + 1
  | (_, d) => uptoBulk d + 1
 end
def uptoSmall : (H : Type) → List (DataW H) → Bool := fun _ ds => decide (uptoBulkAll ds ≤ 1048576)
def OpenSpec.upto (s : _root_.Go.ChangeSpec) : _root_.Go.OpenSpec := { _root_.Go.OpenSpec.ofChange s with cond := some uptoSmall }

/-- 'laws.FnLongestArc', WHERE WHAT IT READS IS OF BULK AT MOST 1048576: true; the input reads as it did. -/
def fnLongestArcUptoRow : OpenClaim := { program := "ytghjiacfofeegaa", sum := "82ac436a7b1b390009ab59fa30ed8f50f8df3dd2670d3eb812814a6e9c285734", func := "loop.example/headtrees/laws.FnLongestArc", spec := "fnLongestArc", recurses := true, apart := false, narrowed := true }
def FnLongestArcUptoSaid : Prop := fnLongestArcUptoRow.holds Try.pinned (OpenSpec.upto fnLongestArcSpec)

/-- 'laws.FnLengthOf', WHERE WHAT IT READS IS OF BULK AT MOST 1048576: true; the input reads as it did. -/
def fnLengthOfUptoRow : OpenClaim := { program := "ytghjiacfofeegaa", sum := "82ac436a7b1b390009ab59fa30ed8f50f8df3dd2670d3eb812814a6e9c285734", func := "loop.example/headtrees/laws.FnLengthOf", spec := "fnLengthOf", recurses := true, apart := false, narrowed := true }
def FnLengthOfUptoSaid : Prop := fnLengthOfUptoRow.holds Try.pinned (OpenSpec.upto fnLengthOfSpec)

/-- 'laws.FnEndsOf', WHERE WHAT IT READS IS OF BULK AT MOST 1048576: true; the input reads as it did. -/
def fnEndsOfUptoRow : OpenClaim := { program := "ytghjiacfofeegaa", sum := "82ac436a7b1b390009ab59fa30ed8f50f8df3dd2670d3eb812814a6e9c285734", func := "loop.example/headtrees/laws.FnEndsOf", spec := "fnEndsOf", recurses := true, apart := false, narrowed := true }
def FnEndsOfUptoSaid : Prop := fnEndsOfUptoRow.holds Try.pinned (OpenSpec.upto fnEndsOfSpec)

/-- 'laws.FnPairsApart', WHERE WHAT IT READS IS OF BULK AT MOST 1048576: true; the input reads as it did. -/
def fnPairsApartUptoRow : OpenClaim := { program := "ytghjiacfofeegaa", sum := "82ac436a7b1b390009ab59fa30ed8f50f8df3dd2670d3eb812814a6e9c285734", func := "loop.example/headtrees/laws.FnPairsApart", spec := "fnPairsApart", recurses := true, apart := false, narrowed := true }
def FnPairsApartUptoSaid : Prop := fnPairsApartUptoRow.holds Try.pinned (OpenSpec.upto fnPairsApartSpec)

/-- 'laws.FnSidesFor', WHERE WHAT IT READS IS OF BULK AT MOST 1048576: true; the input reads as it did. -/
def fnSidesForUptoRow : OpenClaim := { program := "ytghjiacfofeegaa", sum := "82ac436a7b1b390009ab59fa30ed8f50f8df3dd2670d3eb812814a6e9c285734", func := "loop.example/headtrees/laws.FnSidesFor", spec := "fnSidesFor", unfollowed := true, recurses := true, apart := false, narrowed := true }
def FnSidesForUptoSaid : Prop := fnSidesForUptoRow.holds Try.pinned (OpenSpec.upto fnSidesForSpec)

/-- 'laws.FnLengthsSum', WHERE WHAT IT READS IS OF BULK AT MOST 1048576: true; the input reads as it did. -/
def fnLengthsSumUptoRow : OpenClaim := { program := "ytghjiacfofeegaa", sum := "82ac436a7b1b390009ab59fa30ed8f50f8df3dd2670d3eb812814a6e9c285734", func := "loop.example/headtrees/laws.FnLengthsSum", spec := "fnLengthsSum", unfollowed := true, recurses := true, apart := false, narrowed := true }
def FnLengthsSumUptoSaid : Prop := fnLengthsSumUptoRow.holds Try.pinned (OpenSpec.upto fnLengthsSumSpec)

/-- 'laws.FnCountTurned', WHERE WHAT IT READS IS OF BULK AT MOST 1048576: true; the input reads as it did. -/
def fnCountTurnedUptoRow : OpenClaim := { program := "ytghjiacfofeegaa", sum := "82ac436a7b1b390009ab59fa30ed8f50f8df3dd2670d3eb812814a6e9c285734", func := "loop.example/headtrees/laws.FnCountTurned", spec := "fnCountTurned", unfollowed := true, recurses := true, apart := false, narrowed := true }
def FnCountTurnedUptoSaid : Prop := fnCountTurnedUptoRow.holds Try.pinned (OpenSpec.upto fnCountTurnedSpec)

/-- 'laws.FnExchangedAt', WHERE WHAT IT READS IS OF BULK AT MOST 1048576: true; the input reads as it did. -/
def fnExchangedAtUptoRow : OpenClaim := { program := "ytghjiacfofeegaa", sum := "82ac436a7b1b390009ab59fa30ed8f50f8df3dd2670d3eb812814a6e9c285734", func := "loop.example/headtrees/laws.FnExchangedAt", spec := "fnExchangedAt", unfollowed := true, recurses := true, apart := false, narrowed := true }
def FnExchangedAtUptoSaid : Prop := fnExchangedAtUptoRow.holds Try.pinned (OpenSpec.upto fnExchangedAtSpec)

/-- 'laws.FnRunEager', WHERE WHAT IT READS IS OF BULK AT MOST 1048576: true; the input reads as it did. -/
def fnRunEagerUptoRow : OpenClaim := { program := "ytghjiacfofeegaa", sum := "82ac436a7b1b390009ab59fa30ed8f50f8df3dd2670d3eb812814a6e9c285734", func := "loop.example/headtrees/laws.FnRunEager", spec := "fnRunEager", unfollowed := true, recurses := true, apart := false, narrowed := true }
def FnRunEagerUptoSaid : Prop := fnRunEagerUptoRow.holds Try.pinned (OpenSpec.upto fnRunEagerSpec)

/-- 'laws.FnFlatOrder', WHERE WHAT IT READS IS OF BULK AT MOST 1048576: true; the input reads as it did. -/
def fnFlatOrderUptoRow : OpenClaim := { program := "ytghjiacfofeegaa", sum := "82ac436a7b1b390009ab59fa30ed8f50f8df3dd2670d3eb812814a6e9c285734", func := "loop.example/headtrees/laws.FnFlatOrder", spec := "fnFlatOrder", unfollowed := true, recurses := true, apart := false, narrowed := true }
def FnFlatOrderUptoSaid : Prop := fnFlatOrderUptoRow.holds Try.pinned (OpenSpec.upto fnFlatOrderSpec)

/-- 'laws.FnCrossingsSum', WHERE WHAT IT READS IS OF BULK AT MOST 1048576: true; the input reads as it did. -/
def fnCrossingsSumUptoRow : OpenClaim := { program := "ytghjiacfofeegaa", sum := "82ac436a7b1b390009ab59fa30ed8f50f8df3dd2670d3eb812814a6e9c285734", func := "loop.example/headtrees/laws.FnCrossingsSum", spec := "fnCrossingsSum", unfollowed := true, recurses := true, apart := false, narrowed := true }
def FnCrossingsSumUptoSaid : Prop := fnCrossingsSumUptoRow.holds Try.pinned (OpenSpec.upto fnCrossingsSumSpec)

/-- 'laws.FnStarOk', WHERE WHAT IT READS IS OF BULK AT MOST 1048576: true; the input reads as it did. -/
def fnStarOkUptoRow : OpenClaim := { program := "ytghjiacfofeegaa", sum := "82ac436a7b1b390009ab59fa30ed8f50f8df3dd2670d3eb812814a6e9c285734", func := "loop.example/headtrees/laws.FnStarOk", spec := "fnStarOk", unfollowed := true, recurses := true, apart := false, narrowed := true }
def FnStarOkUptoSaid : Prop := fnStarOkUptoRow.holds Try.pinned (OpenSpec.upto fnStarOkSpec)

end Rows
end Go.Proofs.Ytghjiacfofeegaa
