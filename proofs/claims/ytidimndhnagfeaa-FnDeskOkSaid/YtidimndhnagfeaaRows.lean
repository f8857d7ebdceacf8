/-
  No cell of these rows narrows 'for every input' (looked for: loops, veiled, ifaces, maps, wideKeys, modest, calm, conditions, laid).
  DERIVED. THE GIVEN ROWS OF THIS SEAT. 12 by the template 'for every input the law returns true; each argument reads behind the call as it read before'; 0 by the template 'total and deterministic' (their statements: YtidimndhnagfeaaTotals.lean).
  GIVEN WITH THE SEED: the statements are not yours to turn. If you find one false, say at which input.
  Laid BY PROGRAM, IN A SANDBOX (cutbox-rows.mjs): the forced cells as the released guide's own fill.sh prints them over the translation 61f0113f25230eea… (all of the seat's roots in one cut). By AI agents, Wed Nov 11 2026. No macro, syntax, notation, axiom, sorry.
-/
import Derived.Test.YtidimndhnagfeaaChecked
import GoSem.Claim
import GoSem.ClaimJoined
import GoSem.ClaimMapViews
import Derived.JoinedTies
import Derived.KernelRfl
namespace Go.Proofs.Ytidimndhnagfeaa
/- THE CELL 'sum', in the pinned program and in every row, IS THE sha256 OF THE DUMP (.gsa) THAT YtidimndhnagfeaaProg.lean LOADS. Nothing in Lean hashes anything: it is a label: what it is worth is what the hold of that sum in a sandbox is worth. -/
noncomputable def Try.pinned : Pinned := { name := "ytidimndhnagfeaa", sum := "61f0113f25230eea36e386dbf606c80a4d741b188a904a5654baaf53094a8362", checked := Try.checked }
namespace Rows
def none {H : Type} : Left H := { results := [], args := [] }

/-- 'laws.FnExchangesFor': WHATEVER THE INPUT: true; the input reads as it did. -/
def fnExchangesForSpec : ChangeSpec := { name := "fnExchangesFor", fn := fun _ => fun
  | [d] => { results := [.lit (.bool true)], args := [d] }
  | _ => none }
def fnExchangesForRow : OpenClaim := { program := "ytidimndhnagfeaa", sum := "61f0113f25230eea36e386dbf606c80a4d741b188a904a5654baaf53094a8362", func := "loop.example/headtrees/laws.FnExchangesFor", spec := "fnExchangesFor", unfollowed := true, recurses := true, apart := false }
def FnExchangesForSaid : Prop := fnExchangesForRow.holds Try.pinned (OpenSpec.ofChange fnExchangesForSpec)

/-- ITS FALSE NEIGHBOUR: 'it returns false'. Refute it at one input. -/
def fnExchangesForWrong : ChangeSpec := { name := "fnExchangesFor", fn := fun _ => fun
  | [d] => { results := [.lit (.bool false)], args := [d] }
  | _ => none }
def FnExchangesForWrongFalsely : Prop := fnExchangesForRow.holds Try.pinned (OpenSpec.ofChange fnExchangesForWrong)

/-- 'laws.FnMadeFlat': WHATEVER THE INPUT: true; the input reads as it did. -/
def fnMadeFlatSpec : ChangeSpec := { name := "fnMadeFlat", fn := fun _ => fun
  | [d] => { results := [.lit (.bool true)], args := [d] }
  | _ => none }
def fnMadeFlatRow : OpenClaim := { program := "ytidimndhnagfeaa", sum := "61f0113f25230eea36e386dbf606c80a4d741b188a904a5654baaf53094a8362", func := "loop.example/headtrees/laws.FnMadeFlat", spec := "fnMadeFlat", unfollowed := true, recurses := true, apart := false }
def FnMadeFlatSaid : Prop := fnMadeFlatRow.holds Try.pinned (OpenSpec.ofChange fnMadeFlatSpec)

/-- ITS FALSE NEIGHBOUR: 'it returns false'. Refute it at one input. -/
def fnMadeFlatWrong : ChangeSpec := { name := "fnMadeFlat", fn := fun _ => fun
  | [d] => { results := [.lit (.bool false)], args := [d] }
  | _ => none }
def FnMadeFlatWrongFalsely : Prop := fnMadeFlatRow.holds Try.pinned (OpenSpec.ofChange fnMadeFlatWrong)

/-- 'laws.FnLeastLength': WHATEVER THE INPUT: true; the input reads as it did. -/
def fnLeastLengthSpec : ChangeSpec := { name := "fnLeastLength", fn := fun _ => fun
  | [d1, d2] => { results := [.lit (.bool true)], args := [d1, d2] }
  | _ => none }
def fnLeastLengthRow : OpenClaim := { program := "ytidimndhnagfeaa", sum := "61f0113f25230eea36e386dbf606c80a4d741b188a904a5654baaf53094a8362", func := "loop.example/headtrees/laws.FnLeastLength", spec := "fnLeastLength", unfollowed := true, recurses := true, apart := false }
def FnLeastLengthSaid : Prop := fnLeastLengthRow.holds Try.pinned (OpenSpec.ofChange fnLeastLengthSpec)

/-- ITS FALSE NEIGHBOUR: 'it returns false'. Refute it at one input. -/
def fnLeastLengthWrong : ChangeSpec := { name := "fnLeastLength", fn := fun _ => fun
  | [d1, d2] => { results := [.lit (.bool false)], args := [d1, d2] }
  | _ => none }
def FnLeastLengthWrongFalsely : Prop := fnLeastLengthRow.holds Try.pinned (OpenSpec.ofChange fnLeastLengthWrong)

/-- 'laws.FnBestScore': WHATEVER THE INPUT: true; the input reads as it did. -/
def fnBestScoreSpec : ChangeSpec := { name := "fnBestScore", fn := fun _ => fun
  | [d] => { results := [.lit (.bool true)], args := [d] }
  | _ => none }
def fnBestScoreRow : OpenClaim := { program := "ytidimndhnagfeaa", sum := "61f0113f25230eea36e386dbf606c80a4d741b188a904a5654baaf53094a8362", func := "loop.example/headtrees/laws.FnBestScore", spec := "fnBestScore", unfollowed := true, recurses := true, apart := false }
def FnBestScoreSaid : Prop := fnBestScoreRow.holds Try.pinned (OpenSpec.ofChange fnBestScoreSpec)

/-- ITS FALSE NEIGHBOUR: 'it returns false'. Refute it at one input. -/
def fnBestScoreWrong : ChangeSpec := { name := "fnBestScore", fn := fun _ => fun
  | [d] => { results := [.lit (.bool false)], args := [d] }
  | _ => none }
def FnBestScoreWrongFalsely : Prop := fnBestScoreRow.holds Try.pinned (OpenSpec.ofChange fnBestScoreWrong)

/-- 'laws.FnRaisedBy': WHATEVER THE INPUT: true; the input reads as it did. -/
def fnRaisedBySpec : ChangeSpec := { name := "fnRaisedBy", fn := fun _ => fun
  | [d] => { results := [.lit (.bool true)], args := [d] }
  | _ => none }
def fnRaisedByRow : OpenClaim := { program := "ytidimndhnagfeaa", sum := "61f0113f25230eea36e386dbf606c80a4d741b188a904a5654baaf53094a8362", func := "loop.example/headtrees/laws.FnRaisedBy", spec := "fnRaisedBy", unfollowed := true, recurses := true, apart := false }
def FnRaisedBySaid : Prop := fnRaisedByRow.holds Try.pinned (OpenSpec.ofChange fnRaisedBySpec)

/-- ITS FALSE NEIGHBOUR: 'it returns false'. Refute it at one input. -/
def fnRaisedByWrong : ChangeSpec := { name := "fnRaisedBy", fn := fun _ => fun
  | [d] => { results := [.lit (.bool false)], args := [d] }
  | _ => none }
def FnRaisedByWrongFalsely : Prop := fnRaisedByRow.holds Try.pinned (OpenSpec.ofChange fnRaisedByWrong)

/-- 'laws.FnScoreOf': WHATEVER THE INPUT: true; the input reads as it did. -/
def fnScoreOfSpec : ChangeSpec := { name := "fnScoreOf", fn := fun _ => fun
  | [d] => { results := [.lit (.bool true)], args := [d] }
  | _ => none }
def fnScoreOfRow : OpenClaim := { program := "ytidimndhnagfeaa", sum := "61f0113f25230eea36e386dbf606c80a4d741b188a904a5654baaf53094a8362", func := "loop.example/headtrees/laws.FnScoreOf", spec := "fnScoreOf", unfollowed := true, recurses := true, apart := false }
def FnScoreOfSaid : Prop := fnScoreOfRow.holds Try.pinned (OpenSpec.ofChange fnScoreOfSpec)

/-- ITS FALSE NEIGHBOUR: 'it returns false'. Refute it at one input. -/
def fnScoreOfWrong : ChangeSpec := { name := "fnScoreOf", fn := fun _ => fun
  | [d] => { results := [.lit (.bool false)], args := [d] }
  | _ => none }
def FnScoreOfWrongFalsely : Prop := fnScoreOfRow.holds Try.pinned (OpenSpec.ofChange fnScoreOfWrong)

/-- 'laws.FnBestFlat': WHATEVER THE INPUT: true; the input reads as it did. -/
def fnBestFlatSpec : ChangeSpec := { name := "fnBestFlat", fn := fun _ => fun
  | [d] => { results := [.lit (.bool true)], args := [d] }
  | _ => none }
def fnBestFlatRow : OpenClaim := { program := "ytidimndhnagfeaa", sum := "61f0113f25230eea36e386dbf606c80a4d741b188a904a5654baaf53094a8362", func := "loop.example/headtrees/laws.FnBestFlat", spec := "fnBestFlat", unfollowed := true, recurses := true, apart := false }
def FnBestFlatSaid : Prop := fnBestFlatRow.holds Try.pinned (OpenSpec.ofChange fnBestFlatSpec)

/-- ITS FALSE NEIGHBOUR: 'it returns false'. Refute it at one input. -/
def fnBestFlatWrong : ChangeSpec := { name := "fnBestFlat", fn := fun _ => fun
  | [d] => { results := [.lit (.bool false)], args := [d] }
  | _ => none }
def FnBestFlatWrongFalsely : Prop := fnBestFlatRow.holds Try.pinned (OpenSpec.ofChange fnBestFlatWrong)

/-- 'laws.FnDeskNew': WHATEVER THE INPUT: true; the input reads as it did. -/
def fnDeskNewSpec : ChangeSpec := { name := "fnDeskNew", fn := fun _ => fun
  | [d] => { results := [.lit (.bool true)], args := [d] }
  | _ => none }
def fnDeskNewRow : OpenClaim := { program := "ytidimndhnagfeaa", sum := "61f0113f25230eea36e386dbf606c80a4d741b188a904a5654baaf53094a8362", func := "loop.example/headtrees/laws.FnDeskNew", spec := "fnDeskNew", unfollowed := true, recurses := true, apart := false }
def FnDeskNewSaid : Prop := fnDeskNewRow.holds Try.pinned (OpenSpec.ofChange fnDeskNewSpec)

/-- ITS FALSE NEIGHBOUR: 'it returns false'. Refute it at one input. -/
def fnDeskNewWrong : ChangeSpec := { name := "fnDeskNew", fn := fun _ => fun
  | [d] => { results := [.lit (.bool false)], args := [d] }
  | _ => none }
def FnDeskNewWrongFalsely : Prop := fnDeskNewRow.holds Try.pinned (OpenSpec.ofChange fnDeskNewWrong)

/-- 'laws.FnDeskOk': WHATEVER THE INPUT: true; the input reads as it did. -/
def fnDeskOkSpec : ChangeSpec := { name := "fnDeskOk", fn := fun _ => fun
  | [d] => { results := [.lit (.bool true)], args := [d] }
  | _ => none }
def fnDeskOkRow : OpenClaim := { program := "ytidimndhnagfeaa", sum := "61f0113f25230eea36e386dbf606c80a4d741b188a904a5654baaf53094a8362", func := "loop.example/headtrees/laws.FnDeskOk", spec := "fnDeskOk", unfollowed := true, recurses := true, apart := false }
def FnDeskOkSaid : Prop := fnDeskOkRow.holds Try.pinned (OpenSpec.ofChange fnDeskOkSpec)

/-- ITS FALSE NEIGHBOUR: 'it returns false'. Refute it at one input. -/
def fnDeskOkWrong : ChangeSpec := { name := "fnDeskOk", fn := fun _ => fun
  | [d] => { results := [.lit (.bool false)], args := [d] }
  | _ => none }
def FnDeskOkWrongFalsely : Prop := fnDeskOkRow.holds Try.pinned (OpenSpec.ofChange fnDeskOkWrong)

/-- 'laws.FnExactDeskOk': WHATEVER THE INPUT: true; the input reads as it did. -/
def fnExactDeskOkSpec : ChangeSpec := { name := "fnExactDeskOk", fn := fun _ => fun
  | [d] => { results := [.lit (.bool true)], args := [d] }
  | _ => none }
def fnExactDeskOkRow : OpenClaim := { program := "ytidimndhnagfeaa", sum := "61f0113f25230eea36e386dbf606c80a4d741b188a904a5654baaf53094a8362", func := "loop.example/headtrees/laws.FnExactDeskOk", spec := "fnExactDeskOk", unfollowed := true, recurses := true, apart := false }
def FnExactDeskOkSaid : Prop := fnExactDeskOkRow.holds Try.pinned (OpenSpec.ofChange fnExactDeskOkSpec)

/-- ITS FALSE NEIGHBOUR: 'it returns false'. Refute it at one input. -/
def fnExactDeskOkWrong : ChangeSpec := { name := "fnExactDeskOk", fn := fun _ => fun
  | [d] => { results := [.lit (.bool false)], args := [d] }
  | _ => none }
def FnExactDeskOkWrongFalsely : Prop := fnExactDeskOkRow.holds Try.pinned (OpenSpec.ofChange fnExactDeskOkWrong)

/-- 'laws.FnExactDeskDo': WHATEVER THE INPUT: true; the input reads as it did. -/
def fnExactDeskDoSpec : ChangeSpec := { name := "fnExactDeskDo", fn := fun _ => fun
  | [d1, d2] => { results := [.lit (.bool true)], args := [d1, d2] }
  | _ => none }
def fnExactDeskDoRow : OpenClaim := { program := "ytidimndhnagfeaa", sum := "61f0113f25230eea36e386dbf606c80a4d741b188a904a5654baaf53094a8362", func := "loop.example/headtrees/laws.FnExactDeskDo", spec := "fnExactDeskDo", unfollowed := true, recurses := true, apart := false }
def FnExactDeskDoSaid : Prop := fnExactDeskDoRow.holds Try.pinned (OpenSpec.ofChange fnExactDeskDoSpec)

/-- ITS FALSE NEIGHBOUR: 'it returns false'. Refute it at one input. -/
def fnExactDeskDoWrong : ChangeSpec := { name := "fnExactDeskDo", fn := fun _ => fun
  | [d1, d2] => { results := [.lit (.bool false)], args := [d1, d2] }
  | _ => none }
def FnExactDeskDoWrongFalsely : Prop := fnExactDeskDoRow.holds Try.pinned (OpenSpec.ofChange fnExactDeskDoWrong)

/-- 'laws.FnExactDeskRun': WHATEVER THE INPUT: true; the input reads as it did. -/
def fnExactDeskRunSpec : ChangeSpec := { name := "fnExactDeskRun", fn := fun _ => fun
  | [d1, d2] => { results := [.lit (.bool true)], args := [d1, d2] }
  | _ => none }
def fnExactDeskRunRow : OpenClaim := { program := "ytidimndhnagfeaa", sum := "61f0113f25230eea36e386dbf606c80a4d741b188a904a5654baaf53094a8362", func := "loop.example/headtrees/laws.FnExactDeskRun", spec := "fnExactDeskRun", unfollowed := true, recurses := true, apart := false }
def FnExactDeskRunSaid : Prop := fnExactDeskRunRow.holds Try.pinned (OpenSpec.ofChange fnExactDeskRunSpec)

/-- ITS FALSE NEIGHBOUR: 'it returns false'. Refute it at one input. -/
def fnExactDeskRunWrong : ChangeSpec := { name := "fnExactDeskRun", fn := fun _ => fun
  | [d1, d2] => { results := [.lit (.bool false)], args := [d1, d2] }
  | _ => none }
def FnExactDeskRunWrongFalsely : Prop := fnExactDeskRunRow.holds Try.pinned (OpenSpec.ofChange fnExactDeskRunWrong)

/- THE SECOND FORM. 'bulk': how many values and letters a reading holds, each counted each time it is reached (what is shared counts as often as it is met; a slice's spare places count too). A statement '..UptoSaid' is the law's where the arguments, and the package variables that the reading takes, are together of bulk at most 1048576: NARROWER than '..Said'. Prove '..Said' where nothing that the law and all that it calls make is longer than what came in: it says more and counts as full. Else prove '..UptoSaid'. A law counts once. -/
mutual
def uptoBulk {H : Type} : DataW H → Nat
  | .lit (.string bytes) => bytes.length + 1
  | .lit _ => 1
  | .nil => 1
  | .ptr d => uptoBulk d + 1
  | .slice elems spare => uptoBulkAll elems + uptoBulkAll spare + 1
  | .agg parts => uptoBulkAll parts + 1
  | .iface _ d => uptoBulk d + 1
  | .map entries => uptoBulkEntries entries + 1
  | .held _ => 1
def uptoBulkAll {H : Type} : List (DataW H) → Nat
  | [] => 0
  | d :: r => uptoBulk d + uptoBulkAll r
def uptoBulkEntries {H : Type} : List (Lit × DataW H) → Nat
  | [] => 0
  | x :: r => uptoBulkEntry x + uptoBulkEntries r
def uptoBulkEntry {H : Type} : Lit × DataW H → Nat
  | (.string bytes, d) => bytes.length + uptoBulk d + 1
  | (_, d) => uptoBulk d + 1
 end
def uptoSmall : (H : Type) → List (DataW H) → Bool := fun _ ds => decide (uptoBulkAll ds ≤ 1048576)
def OpenSpec.upto (s : _root_.Go.ChangeSpec) : _root_.Go.OpenSpec := { _root_.Go.OpenSpec.ofChange s with cond := some uptoSmall }

/-- 'laws.FnExchangesFor', WHERE WHAT IT READS IS OF BULK AT MOST 1048576: true; the input reads as it did. -/
def fnExchangesForUptoRow : OpenClaim := { program := "ytidimndhnagfeaa", sum := "61f0113f25230eea36e386dbf606c80a4d741b188a904a5654baaf53094a8362", func := "loop.example/headtrees/laws.FnExchangesFor", spec := "fnExchangesFor", unfollowed := true, recurses := true, apart := false, narrowed := true }
def FnExchangesForUptoSaid : Prop := fnExchangesForUptoRow.holds Try.pinned (OpenSpec.upto fnExchangesForSpec)

/-- 'laws.FnMadeFlat', WHERE WHAT IT READS IS OF BULK AT MOST 1048576: true; the input reads as it did. -/
def fnMadeFlatUptoRow : OpenClaim := { program := "ytidimndhnagfeaa", sum := "61f0113f25230eea36e386dbf606c80a4d741b188a904a5654baaf53094a8362", func := "loop.example/headtrees/laws.FnMadeFlat", spec := "fnMadeFlat", unfollowed := true, recurses := true, apart := false, narrowed := true }
def FnMadeFlatUptoSaid : Prop := fnMadeFlatUptoRow.holds Try.pinned (OpenSpec.upto fnMadeFlatSpec)

/-- 'laws.FnLeastLength', WHERE WHAT IT READS IS OF BULK AT MOST 1048576: true; the input reads as it did. -/
def fnLeastLengthUptoRow : OpenClaim := { program := "ytidimndhnagfeaa", sum := "61f0113f25230eea36e386dbf606c80a4d741b188a904a5654baaf53094a8362", func := "loop.example/headtrees/laws.FnLeastLength", spec := "fnLeastLength", unfollowed := true, recurses := true, apart := false, narrowed := true }
def FnLeastLengthUptoSaid : Prop := fnLeastLengthUptoRow.holds Try.pinned (OpenSpec.upto fnLeastLengthSpec)

/-- 'laws.FnBestScore', WHERE WHAT IT READS IS OF BULK AT MOST 1048576: true; the input reads as it did. -/
def fnBestScoreUptoRow : OpenClaim := { program := "ytidimndhnagfeaa", sum := "61f0113f25230eea36e386dbf606c80a4d741b188a904a5654baaf53094a8362", func := "loop.example/headtrees/laws.FnBestScore", spec := "fnBestScore", unfollowed := true, recurses := true, apart := false, narrowed := true }
def FnBestScoreUptoSaid : Prop := fnBestScoreUptoRow.holds Try.pinned (OpenSpec.upto fnBestScoreSpec)

/-- 'laws.FnRaisedBy', WHERE WHAT IT READS IS OF BULK AT MOST 1048576: true; the input reads as it did. -/
def fnRaisedByUptoRow : OpenClaim := { program := "ytidimndhnagfeaa", sum := "61f0113f25230eea36e386dbf606c80a4d741b188a904a5654baaf53094a8362", func := "loop.example/headtrees/laws.FnRaisedBy", spec := "fnRaisedBy", unfollowed := true, recurses := true, apart := false, narrowed := true }
def FnRaisedByUptoSaid : Prop := fnRaisedByUptoRow.holds Try.pinned (OpenSpec.upto fnRaisedBySpec)

/-- 'laws.FnScoreOf', WHERE WHAT IT READS IS OF BULK AT MOST 1048576: true; the input reads as it did. -/
def fnScoreOfUptoRow : OpenClaim := { program := "ytidimndhnagfeaa", sum := "61f0113f25230eea36e386dbf606c80a4d741b188a904a5654baaf53094a8362", func := "loop.example/headtrees/laws.FnScoreOf", spec := "fnScoreOf", unfollowed := true, recurses := true, apart := false, narrowed := true }
def FnScoreOfUptoSaid : Prop := fnScoreOfUptoRow.holds Try.pinned (OpenSpec.upto fnScoreOfSpec)

/-- 'laws.FnBestFlat', WHERE WHAT IT READS IS OF BULK AT MOST 1048576: true; the input reads as it did. -/
def fnBestFlatUptoRow : OpenClaim := { program := "ytidimndhnagfeaa", sum := "61f0113f25230eea36e386dbf606c80a4d741b188a904a5654baaf53094a8362", func := "loop.example/headtrees/laws.FnBestFlat", spec := "fnBestFlat", unfollowed := true, recurses := true, apart := false, narrowed := true }
def FnBestFlatUptoSaid : Prop := fnBestFlatUptoRow.holds Try.pinned (OpenSpec.upto fnBestFlatSpec)

/-- 'laws.FnDeskNew', WHERE WHAT IT READS IS OF BULK AT MOST 1048576: true; the input reads as it did. -/
def fnDeskNewUptoRow : OpenClaim := { program := "ytidimndhnagfeaa", sum := "61f0113f25230eea36e386dbf606c80a4d741b188a904a5654baaf53094a8362", func := "loop.example/headtrees/laws.FnDeskNew", spec := "fnDeskNew", unfollowed := true, recurses := true, apart := false, narrowed := true }
def FnDeskNewUptoSaid : Prop := fnDeskNewUptoRow.holds Try.pinned (OpenSpec.upto fnDeskNewSpec)

/-- 'laws.FnDeskOk', WHERE WHAT IT READS IS OF BULK AT MOST 1048576: true; the input reads as it did. -/
def fnDeskOkUptoRow : OpenClaim := { program := "ytidimndhnagfeaa", sum := "61f0113f25230eea36e386dbf606c80a4d741b188a904a5654baaf53094a8362", func := "loop.example/headtrees/laws.FnDeskOk", spec := "fnDeskOk", unfollowed := true, recurses := true, apart := false, narrowed := true }
def FnDeskOkUptoSaid : Prop := fnDeskOkUptoRow.holds Try.pinned (OpenSpec.upto fnDeskOkSpec)

/-- 'laws.FnExactDeskOk', WHERE WHAT IT READS IS OF BULK AT MOST 1048576: true; the input reads as it did. -/
def fnExactDeskOkUptoRow : OpenClaim := { program := "ytidimndhnagfeaa", sum := "61f0113f25230eea36e386dbf606c80a4d741b188a904a5654baaf53094a8362", func := "loop.example/headtrees/laws.FnExactDeskOk", spec := "fnExactDeskOk", unfollowed := true, recurses := true, apart := false, narrowed := true }
def FnExactDeskOkUptoSaid : Prop := fnExactDeskOkUptoRow.holds Try.pinned (OpenSpec.upto fnExactDeskOkSpec)

/-- 'laws.FnExactDeskDo', WHERE WHAT IT READS IS OF BULK AT MOST 1048576: true; the input reads as it did. -/
def fnExactDeskDoUptoRow : OpenClaim := { program := "ytidimndhnagfeaa", sum := "61f0113f25230eea36e386dbf606c80a4d741b188a904a5654baaf53094a8362", func := "loop.example/headtrees/laws.FnExactDeskDo", spec := "fnExactDeskDo", unfollowed := true, recurses := true, apart := false, narrowed := true }
def FnExactDeskDoUptoSaid : Prop := fnExactDeskDoUptoRow.holds Try.pinned (OpenSpec.upto fnExactDeskDoSpec)

/-- 'laws.FnExactDeskRun', WHERE WHAT IT READS IS OF BULK AT MOST 1048576: true; the input reads as it did. -/
def fnExactDeskRunUptoRow : OpenClaim := { program := "ytidimndhnagfeaa", sum := "61f0113f25230eea36e386dbf606c80a4d741b188a904a5654baaf53094a8362", func := "loop.example/headtrees/laws.FnExactDeskRun", spec := "fnExactDeskRun", unfollowed := true, recurses := true, apart := false, narrowed := true }
def FnExactDeskRunUptoSaid : Prop := fnExactDeskRunUptoRow.holds Try.pinned (OpenSpec.upto fnExactDeskRunSpec)

end Rows
end Go.Proofs.Ytidimndhnagfeaa
