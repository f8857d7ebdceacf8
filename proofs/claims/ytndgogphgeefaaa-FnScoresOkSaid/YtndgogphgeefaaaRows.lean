/-
  No cell of these rows narrows 'for every input' (looked for: loops, veiled, ifaces, maps, wideKeys, modest, calm, conditions, laid).
  DERIVED. THE GIVEN ROWS OF THIS SEAT. 9 by the template 'for every input the law returns true; each argument reads behind the call as it read before'; 0 by the template 'total and deterministic' (their statements: YtndgogphgeefaaaTotals.lean).
  GIVEN WITH THE SEED: the statements are not yours to turn. If you find one false, say at which input.
  Laid BY PROGRAM, IN A SANDBOX (cutbox-rows.mjs): the forced cells as the released guide's own fill.sh prints them over the translation 06c0f370324334e8… (all of the seat's roots in one cut). By AI agents, Wed Nov 11 2026. No macro, syntax, notation, axiom, sorry.
-/
import Derived.Test.YtndgogphgeefaaaChecked
import GoSem.Claim
import GoSem.ClaimJoined
import GoSem.ClaimMapViews
import Derived.JoinedTies
import Derived.KernelRfl
namespace Go.Proofs.Ytndgogphgeefaaa
/- THE CELL 'sum', in the pinned program and in every row, IS THE sha256 OF THE DUMP (.gsa) THAT YtndgogphgeefaaaProg.lean LOADS. Nothing in Lean hashes anything: it is a label: what it is worth is what the hold of that sum in a sandbox is worth. -/
noncomputable def Try.pinned : Pinned := { name := "ytndgogphgeefaaa", sum := "06c0f370324334e87e4745a8d0198034eff7bd58afad6c5c85f7fcaf98bbcca6", checked := Try.checked }
namespace Rows
def none {H : Type} : Left H := { results := [], args := [] }

/-- 'laws.FnExactLengthsSum': WHATEVER THE INPUT: true; the input reads as it did. -/
def fnExactLengthsSumSpec : ChangeSpec := { name := "fnExactLengthsSum", fn := fun _ => fun
  | [d] => { results := [.lit (.bool true)], args := [d] }
  | _ => none }
def fnExactLengthsSumRow : OpenClaim := { program := "ytndgogphgeefaaa", sum := "06c0f370324334e87e4745a8d0198034eff7bd58afad6c5c85f7fcaf98bbcca6", func := "loop.example/headtrees/laws.FnExactLengthsSum", spec := "fnExactLengthsSum", apart := false }
def FnExactLengthsSumSaid : Prop := fnExactLengthsSumRow.holds Try.pinned (OpenSpec.ofChange fnExactLengthsSumSpec)

/-- ITS FALSE NEIGHBOUR: 'it returns false'. Refute it at one input. -/
def fnExactLengthsSumWrong : ChangeSpec := { name := "fnExactLengthsSum", fn := fun _ => fun
  | [d] => { results := [.lit (.bool false)], args := [d] }
  | _ => none }
def FnExactLengthsSumWrongFalsely : Prop := fnExactLengthsSumRow.holds Try.pinned (OpenSpec.ofChange fnExactLengthsSumWrong)

/-- 'laws.FnExactScoresOk': WHATEVER THE INPUT: true; the input reads as it did. -/
def fnExactScoresOkSpec : ChangeSpec := { name := "fnExactScoresOk", fn := fun _ => fun
  | [d] => { results := [.lit (.bool true)], args := [d] }
  | _ => none }
def fnExactScoresOkRow : OpenClaim := { program := "ytndgogphgeefaaa", sum := "06c0f370324334e87e4745a8d0198034eff7bd58afad6c5c85f7fcaf98bbcca6", func := "loop.example/headtrees/laws.FnExactScoresOk", spec := "fnExactScoresOk", apart := false }
def FnExactScoresOkSaid : Prop := fnExactScoresOkRow.holds Try.pinned (OpenSpec.ofChange fnExactScoresOkSpec)

/-- ITS FALSE NEIGHBOUR: 'it returns false'. Refute it at one input. -/
def fnExactScoresOkWrong : ChangeSpec := { name := "fnExactScoresOk", fn := fun _ => fun
  | [d] => { results := [.lit (.bool false)], args := [d] }
  | _ => none }
def FnExactScoresOkWrongFalsely : Prop := fnExactScoresOkRow.holds Try.pinned (OpenSpec.ofChange fnExactScoresOkWrong)

/-- 'laws.FnExactLongestArc': WHATEVER THE INPUT: true; the input reads as it did. -/
def fnExactLongestArcSpec : ChangeSpec := { name := "fnExactLongestArc", fn := fun _ => fun
  | [d] => { results := [.lit (.bool true)], args := [d] }
  | _ => none }
def fnExactLongestArcRow : OpenClaim := { program := "ytndgogphgeefaaa", sum := "06c0f370324334e87e4745a8d0198034eff7bd58afad6c5c85f7fcaf98bbcca6", func := "loop.example/headtrees/laws.FnExactLongestArc", spec := "fnExactLongestArc", apart := false }
def FnExactLongestArcSaid : Prop := fnExactLongestArcRow.holds Try.pinned (OpenSpec.ofChange fnExactLongestArcSpec)

/-- ITS FALSE NEIGHBOUR: 'it returns false'. Refute it at one input. -/
def fnExactLongestArcWrong : ChangeSpec := { name := "fnExactLongestArc", fn := fun _ => fun
  | [d] => { results := [.lit (.bool false)], args := [d] }
  | _ => none }
def FnExactLongestArcWrongFalsely : Prop := fnExactLongestArcRow.holds Try.pinned (OpenSpec.ofChange fnExactLongestArcWrong)

/-- 'laws.FnExactLengthOf': WHATEVER THE INPUT: true; the input reads as it did. -/
def fnExactLengthOfSpec : ChangeSpec := { name := "fnExactLengthOf", fn := fun _ => fun
  | [d] => { results := [.lit (.bool true)], args := [d] }
  | _ => none }
def fnExactLengthOfRow : OpenClaim := { program := "ytndgogphgeefaaa", sum := "06c0f370324334e87e4745a8d0198034eff7bd58afad6c5c85f7fcaf98bbcca6", func := "loop.example/headtrees/laws.FnExactLengthOf", spec := "fnExactLengthOf", apart := false }
def FnExactLengthOfSaid : Prop := fnExactLengthOfRow.holds Try.pinned (OpenSpec.ofChange fnExactLengthOfSpec)

/-- ITS FALSE NEIGHBOUR: 'it returns false'. Refute it at one input. -/
def fnExactLengthOfWrong : ChangeSpec := { name := "fnExactLengthOf", fn := fun _ => fun
  | [d] => { results := [.lit (.bool false)], args := [d] }
  | _ => none }
def FnExactLengthOfWrongFalsely : Prop := fnExactLengthOfRow.holds Try.pinned (OpenSpec.ofChange fnExactLengthOfWrong)

/-- 'laws.FnScoresOk': WHATEVER THE INPUT: true; the input reads as it did. -/
def fnScoresOkSpec : ChangeSpec := { name := "fnScoresOk", fn := fun _ => fun
  | [d] => { results := [.lit (.bool true)], args := [d] }
  | _ => none }
def fnScoresOkRow : OpenClaim := { program := "ytndgogphgeefaaa", sum := "06c0f370324334e87e4745a8d0198034eff7bd58afad6c5c85f7fcaf98bbcca6", func := "loop.example/headtrees/laws.FnScoresOk", spec := "fnScoresOk", apart := false }
def FnScoresOkSaid : Prop := fnScoresOkRow.holds Try.pinned (OpenSpec.ofChange fnScoresOkSpec)

/-- ITS FALSE NEIGHBOUR: 'it returns false'. Refute it at one input. -/
def fnScoresOkWrong : ChangeSpec := { name := "fnScoresOk", fn := fun _ => fun
  | [d] => { results := [.lit (.bool false)], args := [d] }
  | _ => none }
def FnScoresOkWrongFalsely : Prop := fnScoresOkRow.holds Try.pinned (OpenSpec.ofChange fnScoresOkWrong)

/-- 'laws.FnExactEndsOf': WHATEVER THE INPUT: true; the input reads as it did. -/
def fnExactEndsOfSpec : ChangeSpec := { name := "fnExactEndsOf", fn := fun _ => fun
  | [d] => { results := [.lit (.bool true)], args := [d] }
  | _ => none }
def fnExactEndsOfRow : OpenClaim := { program := "ytndgogphgeefaaa", sum := "06c0f370324334e87e4745a8d0198034eff7bd58afad6c5c85f7fcaf98bbcca6", func := "loop.example/headtrees/laws.FnExactEndsOf", spec := "fnExactEndsOf", apart := false }
def FnExactEndsOfSaid : Prop := fnExactEndsOfRow.holds Try.pinned (OpenSpec.ofChange fnExactEndsOfSpec)

/-- ITS FALSE NEIGHBOUR: 'it returns false'. Refute it at one input. -/
def fnExactEndsOfWrong : ChangeSpec := { name := "fnExactEndsOf", fn := fun _ => fun
  | [d] => { results := [.lit (.bool false)], args := [d] }
  | _ => none }
def FnExactEndsOfWrongFalsely : Prop := fnExactEndsOfRow.holds Try.pinned (OpenSpec.ofChange fnExactEndsOfWrong)

/-- 'laws.FnExactPairsApart': WHATEVER THE INPUT: true; the input reads as it did. -/
def fnExactPairsApartSpec : ChangeSpec := { name := "fnExactPairsApart", fn := fun _ => fun
  | [d] => { results := [.lit (.bool true)], args := [d] }
  | _ => none }
def fnExactPairsApartRow : OpenClaim := { program := "ytndgogphgeefaaa", sum := "06c0f370324334e87e4745a8d0198034eff7bd58afad6c5c85f7fcaf98bbcca6", func := "loop.example/headtrees/laws.FnExactPairsApart", spec := "fnExactPairsApart", apart := false }
def FnExactPairsApartSaid : Prop := fnExactPairsApartRow.holds Try.pinned (OpenSpec.ofChange fnExactPairsApartSpec)

/-- ITS FALSE NEIGHBOUR: 'it returns false'. Refute it at one input. -/
def fnExactPairsApartWrong : ChangeSpec := { name := "fnExactPairsApart", fn := fun _ => fun
  | [d] => { results := [.lit (.bool false)], args := [d] }
  | _ => none }
def FnExactPairsApartWrongFalsely : Prop := fnExactPairsApartRow.holds Try.pinned (OpenSpec.ofChange fnExactPairsApartWrong)

/-- 'laws.FnExactStarOk': WHATEVER THE INPUT: true; the input reads as it did. -/
def fnExactStarOkSpec : ChangeSpec := { name := "fnExactStarOk", fn := fun _ => fun
  | [d] => { results := [.lit (.bool true)], args := [d] }
  | _ => none }
def fnExactStarOkRow : OpenClaim := { program := "ytndgogphgeefaaa", sum := "06c0f370324334e87e4745a8d0198034eff7bd58afad6c5c85f7fcaf98bbcca6", func := "loop.example/headtrees/laws.FnExactStarOk", spec := "fnExactStarOk", apart := false }
def FnExactStarOkSaid : Prop := fnExactStarOkRow.holds Try.pinned (OpenSpec.ofChange fnExactStarOkSpec)

/-- ITS FALSE NEIGHBOUR: 'it returns false'. Refute it at one input. -/
def fnExactStarOkWrong : ChangeSpec := { name := "fnExactStarOk", fn := fun _ => fun
  | [d] => { results := [.lit (.bool false)], args := [d] }
  | _ => none }
def FnExactStarOkWrongFalsely : Prop := fnExactStarOkRow.holds Try.pinned (OpenSpec.ofChange fnExactStarOkWrong)

/-- 'laws.FnExactCrossingsSum': WHATEVER THE INPUT: true; the input reads as it did. -/
def fnExactCrossingsSumSpec : ChangeSpec := { name := "fnExactCrossingsSum", fn := fun _ => fun
  | [d] => { results := [.lit (.bool true)], args := [d] }
  | _ => none }
def fnExactCrossingsSumRow : OpenClaim := { program := "ytndgogphgeefaaa", sum := "06c0f370324334e87e4745a8d0198034eff7bd58afad6c5c85f7fcaf98bbcca6", func := "loop.example/headtrees/laws.FnExactCrossingsSum", spec := "fnExactCrossingsSum", apart := false }
def FnExactCrossingsSumSaid : Prop := fnExactCrossingsSumRow.holds Try.pinned (OpenSpec.ofChange fnExactCrossingsSumSpec)

/-- ITS FALSE NEIGHBOUR: 'it returns false'. Refute it at one input. -/
def fnExactCrossingsSumWrong : ChangeSpec := { name := "fnExactCrossingsSum", fn := fun _ => fun
  | [d] => { results := [.lit (.bool false)], args := [d] }
  | _ => none }
def FnExactCrossingsSumWrongFalsely : Prop := fnExactCrossingsSumRow.holds Try.pinned (OpenSpec.ofChange fnExactCrossingsSumWrong)

/- THE SECOND FORM. 'bulk': how many values and letters a reading holds, each counted each time it is reached (what is shared counts as often as it is met; a slice's spare places count too). A statement '..UptoSaid' is the law's where the arguments, and the package variables that the reading takes, are together of bulk at most 1048576: NARROWER than '..Said'. Prove '..Said' where nothing that the law and all that it calls make is longer than what came in: it says more and counts as full. Else prove '..UptoSaid'. A law counts once. -/
mutual
def uptoBulk {H : Type} : DataW H → Nat
  | .lit (.string bytes) => bytes.length + 1
  | .lit _ => 1
  | .nil => 1
  | .ptr d => uptoBulk d + 1
  | .slice elems spare => uptoBulkAll elems + uptoBulkAll spare + 1
  | .agg parts => uptoBulkAll parts + 1
  | .iface _ d => uptoBulk d + 1
  | .map entries => uptoBulkEntries entries + 1
  | .held _ => 1
def uptoBulkAll {H : Type} : List (DataW H) → Nat
  | [] => 0
  | d :: r => uptoBulk d + uptoBulkAll r
def uptoBulkEntries {H : Type} : List (Lit × DataW H) → Nat
  | [] => 0
  | x :: r => uptoBulkEntry x + uptoBulkEntries r
def uptoBulkEntry {H : Type} : Lit × DataW H → Nat
  | (.string bytes, d) => bytes.length + uptoBulk d + 1
  | (_, d) => uptoBulk d + 1
 end
def uptoSmall : (H : Type) → List (DataW H) → Bool := fun _ ds => decide (uptoBulkAll ds ≤ 1048576)
def OpenSpec.upto (s : _root_.Go.ChangeSpec) : _root_.Go.OpenSpec := { _root_.Go.OpenSpec.ofChange s with cond := some uptoSmall }

/-- 'laws.FnExactLengthsSum', WHERE WHAT IT READS IS OF BULK AT MOST 1048576: true; the input reads as it did. -/
def fnExactLengthsSumUptoRow : OpenClaim := { program := "ytndgogphgeefaaa", sum := "06c0f370324334e87e4745a8d0198034eff7bd58afad6c5c85f7fcaf98bbcca6", func := "loop.example/headtrees/laws.FnExactLengthsSum", spec := "fnExactLengthsSum", apart := false, narrowed := true }
def FnExactLengthsSumUptoSaid : Prop := fnExactLengthsSumUptoRow.holds Try.pinned (OpenSpec.upto fnExactLengthsSumSpec)

/-- 'laws.FnExactScoresOk', WHERE WHAT IT READS IS OF BULK AT MOST 1048576: true; the input reads as it did. -/
def fnExactScoresOkUptoRow : OpenClaim := { program := "ytndgogphgeefaaa", sum := "06c0f370324334e87e4745a8d0198034eff7bd58afad6c5c85f7fcaf98bbcca6", func := "loop.example/headtrees/laws.FnExactScoresOk", spec := "fnExactScoresOk", apart := false, narrowed := true }
def FnExactScoresOkUptoSaid : Prop := fnExactScoresOkUptoRow.holds Try.pinned (OpenSpec.upto fnExactScoresOkSpec)

/-- 'laws.FnExactLongestArc', WHERE WHAT IT READS IS OF BULK AT MOST 1048576: true; the input reads as it did. -/
def fnExactLongestArcUptoRow : OpenClaim := { program := "ytndgogphgeefaaa", sum := "06c0f370324334e87e4745a8d0198034eff7bd58afad6c5c85f7fcaf98bbcca6", func := "loop.example/headtrees/laws.FnExactLongestArc", spec := "fnExactLongestArc", apart := false, narrowed := true }
def FnExactLongestArcUptoSaid : Prop := fnExactLongestArcUptoRow.holds Try.pinned (OpenSpec.upto fnExactLongestArcSpec)

/-- 'laws.FnExactLengthOf', WHERE WHAT IT READS IS OF BULK AT MOST 1048576: true; the input reads as it did. -/
def fnExactLengthOfUptoRow : OpenClaim := { program := "ytndgogphgeefaaa", sum := "06c0f370324334e87e4745a8d0198034eff7bd58afad6c5c85f7fcaf98bbcca6", func := "loop.example/headtrees/laws.FnExactLengthOf", spec := "fnExactLengthOf", apart := false, narrowed := true }
def FnExactLengthOfUptoSaid : Prop := fnExactLengthOfUptoRow.holds Try.pinned (OpenSpec.upto fnExactLengthOfSpec)

/-- 'laws.FnScoresOk', WHERE WHAT IT READS IS OF BULK AT MOST 1048576: true; the input reads as it did. -/
def fnScoresOkUptoRow : OpenClaim := { program := "ytndgogphgeefaaa", sum := "06c0f370324334e87e4745a8d0198034eff7bd58afad6c5c85f7fcaf98bbcca6", func := "loop.example/headtrees/laws.FnScoresOk", spec := "fnScoresOk", apart := false, narrowed := true }
def FnScoresOkUptoSaid : Prop := fnScoresOkUptoRow.holds Try.pinned (OpenSpec.upto fnScoresOkSpec)

/-- 'laws.FnExactEndsOf', WHERE WHAT IT READS IS OF BULK AT MOST 1048576: true; the input reads as it did. -/
def fnExactEndsOfUptoRow : OpenClaim := { program := "ytndgogphgeefaaa", sum := "06c0f370324334e87e4745a8d0198034eff7bd58afad6c5c85f7fcaf98bbcca6", func := "loop.example/headtrees/laws.FnExactEndsOf", spec := "fnExactEndsOf", apart := false, narrowed := true }
def FnExactEndsOfUptoSaid : Prop := fnExactEndsOfUptoRow.holds Try.pinned (OpenSpec.upto fnExactEndsOfSpec)

/-- 'laws.FnExactPairsApart', WHERE WHAT IT READS IS OF BULK AT MOST 1048576: true; the input reads as it did. -/
def fnExactPairsApartUptoRow : OpenClaim := { program := "ytndgogphgeefaaa", sum := "06c0f370324334e87e4745a8d0198034eff7bd58afad6c5c85f7fcaf98bbcca6", func := "loop.example/headtrees/laws.FnExactPairsApart", spec := "fnExactPairsApart", apart := false, narrowed := true }
def FnExactPairsApartUptoSaid : Prop := fnExactPairsApartUptoRow.holds Try.pinned (OpenSpec.upto fnExactPairsApartSpec)

/-- 'laws.FnExactStarOk', WHERE WHAT IT READS IS OF BULK AT MOST 1048576: true; the input reads as it did. -/
def fnExactStarOkUptoRow : OpenClaim := { program := "ytndgogphgeefaaa", sum := "06c0f370324334e87e4745a8d0198034eff7bd58afad6c5c85f7fcaf98bbcca6", func := "loop.example/headtrees/laws.FnExactStarOk", spec := "fnExactStarOk", apart := false, narrowed := true }
def FnExactStarOkUptoSaid : Prop := fnExactStarOkUptoRow.holds Try.pinned (OpenSpec.upto fnExactStarOkSpec)

/-- 'laws.FnExactCrossingsSum', WHERE WHAT IT READS IS OF BULK AT MOST 1048576: true; the input reads as it did. -/
def fnExactCrossingsSumUptoRow : OpenClaim := { program := "ytndgogphgeefaaa", sum := "06c0f370324334e87e4745a8d0198034eff7bd58afad6c5c85f7fcaf98bbcca6", func := "loop.example/headtrees/laws.FnExactCrossingsSum", spec := "fnExactCrossingsSum", apart := false, narrowed := true }
def FnExactCrossingsSumUptoSaid : Prop := fnExactCrossingsSumUptoRow.holds Try.pinned (OpenSpec.upto fnExactCrossingsSumSpec)

end Rows
end Go.Proofs.Ytndgogphgeefaaa
