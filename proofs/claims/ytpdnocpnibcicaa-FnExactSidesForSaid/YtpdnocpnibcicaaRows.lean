/-
  No cell of these rows narrows 'for every input' (looked for: loops, veiled, ifaces, maps, wideKeys, modest, calm, conditions, laid).
  DERIVED. THE GIVEN ROWS OF THIS SEAT. 12 by the template 'for every input the law returns true; each argument reads behind the call as it read before'; 0 by the template 'total and deterministic' (their statements: YtpdnocpnibcicaaTotals.lean).
  GIVEN WITH THE SEED: the statements are not yours to turn. If you find one false, say at which input.
  Laid BY PROGRAM, IN A SANDBOX (cutbox-rows.mjs): the forced cells as the released guide's own fill.sh prints them over the translation d030210c84e9a240… (all of the seat's roots in one cut). By AI agents, Wed Nov 11 2026. No macro, syntax, notation, axiom, sorry.
-/
import Derived.Test.YtpdnocpnibcicaaChecked
import GoSem.Claim
import GoSem.ClaimJoined
import GoSem.ClaimMapViews
import Derived.JoinedTies
import Derived.KernelRfl
namespace Go.Proofs.Ytpdnocpnibcicaa
/- THE CELL 'sum', in the pinned program and in every row, IS THE sha256 OF THE DUMP (.gsa) THAT YtpdnocpnibcicaaProg.lean LOADS. Nothing in Lean hashes anything: it is a label: what it is worth is what the hold of that sum in a sandbox is worth. -/
noncomputable def Try.pinned : Pinned := { name := "ytpdnocpnibcicaa", sum := "d030210c84e9a24046d0341e9124113f4f4ba0a6e052dd05d9b561764e763bfc", checked := Try.checked }
namespace Rows
def none {H : Type} : Left H := { results := [], args := [] }

/-- 'laws.FnExactFlatOrder': WHATEVER THE INPUT: true; the input reads as it did. -/
def fnExactFlatOrderSpec : ChangeSpec := { name := "fnExactFlatOrder", fn := fun _ => fun
  | [d] => { results := [.lit (.bool true)], args := [d] }
  | _ => none }
def fnExactFlatOrderRow : OpenClaim := { program := "ytpdnocpnibcicaa", sum := "d030210c84e9a24046d0341e9124113f4f4ba0a6e052dd05d9b561764e763bfc", func := "loop.example/headtrees/laws.FnExactFlatOrder", spec := "fnExactFlatOrder", recurses := true, apart := false }
def FnExactFlatOrderSaid : Prop := fnExactFlatOrderRow.holds Try.pinned (OpenSpec.ofChange fnExactFlatOrderSpec)

/-- ITS FALSE NEIGHBOUR: 'it returns false'. Refute it at one input. -/
def fnExactFlatOrderWrong : ChangeSpec := { name := "fnExactFlatOrder", fn := fun _ => fun
  | [d] => { results := [.lit (.bool false)], args := [d] }
  | _ => none }
def FnExactFlatOrderWrongFalsely : Prop := fnExactFlatOrderRow.holds Try.pinned (OpenSpec.ofChange fnExactFlatOrderWrong)

/-- 'laws.FnExactLeastLength': WHATEVER THE INPUT: true; the input reads as it did. -/
def fnExactLeastLengthSpec : ChangeSpec := { name := "fnExactLeastLength", fn := fun _ => fun
  | [d] => { results := [.lit (.bool true)], args := [d] }
  | _ => none }
def fnExactLeastLengthRow : OpenClaim := { program := "ytpdnocpnibcicaa", sum := "d030210c84e9a24046d0341e9124113f4f4ba0a6e052dd05d9b561764e763bfc", func := "loop.example/headtrees/laws.FnExactLeastLength", spec := "fnExactLeastLength", unfollowed := true, recurses := true, apart := false }
def FnExactLeastLengthSaid : Prop := fnExactLeastLengthRow.holds Try.pinned (OpenSpec.ofChange fnExactLeastLengthSpec)

/-- ITS FALSE NEIGHBOUR: 'it returns false'. Refute it at one input. -/
def fnExactLeastLengthWrong : ChangeSpec := { name := "fnExactLeastLength", fn := fun _ => fun
  | [d] => { results := [.lit (.bool false)], args := [d] }
  | _ => none }
def FnExactLeastLengthWrongFalsely : Prop := fnExactLeastLengthRow.holds Try.pinned (OpenSpec.ofChange fnExactLeastLengthWrong)

/-- 'laws.FnExactSidesFor': WHATEVER THE INPUT: true; the input reads as it did. -/
def fnExactSidesForSpec : ChangeSpec := { name := "fnExactSidesFor", fn := fun _ => fun
  | [d] => { results := [.lit (.bool true)], args := [d] }
  | _ => none }
def fnExactSidesForRow : OpenClaim := { program := "ytpdnocpnibcicaa", sum := "d030210c84e9a24046d0341e9124113f4f4ba0a6e052dd05d9b561764e763bfc", func := "loop.example/headtrees/laws.FnExactSidesFor", spec := "fnExactSidesFor", unfollowed := true, recurses := true, apart := false }
def FnExactSidesForSaid : Prop := fnExactSidesForRow.holds Try.pinned (OpenSpec.ofChange fnExactSidesForSpec)

/-- ITS FALSE NEIGHBOUR: 'it returns false'. Refute it at one input. -/
def fnExactSidesForWrong : ChangeSpec := { name := "fnExactSidesFor", fn := fun _ => fun
  | [d] => { results := [.lit (.bool false)], args := [d] }
  | _ => none }
def FnExactSidesForWrongFalsely : Prop := fnExactSidesForRow.holds Try.pinned (OpenSpec.ofChange fnExactSidesForWrong)

/-- 'laws.FnExactCountTurned': WHATEVER THE INPUT: true; the input reads as it did. -/
def fnExactCountTurnedSpec : ChangeSpec := { name := "fnExactCountTurned", fn := fun _ => fun
  | [d] => { results := [.lit (.bool true)], args := [d] }
  | _ => none }
def fnExactCountTurnedRow : OpenClaim := { program := "ytpdnocpnibcicaa", sum := "d030210c84e9a24046d0341e9124113f4f4ba0a6e052dd05d9b561764e763bfc", func := "loop.example/headtrees/laws.FnExactCountTurned", spec := "fnExactCountTurned", unfollowed := true, recurses := true, apart := false }
def FnExactCountTurnedSaid : Prop := fnExactCountTurnedRow.holds Try.pinned (OpenSpec.ofChange fnExactCountTurnedSpec)

/-- ITS FALSE NEIGHBOUR: 'it returns false'. Refute it at one input. -/
def fnExactCountTurnedWrong : ChangeSpec := { name := "fnExactCountTurned", fn := fun _ => fun
  | [d] => { results := [.lit (.bool false)], args := [d] }
  | _ => none }
def FnExactCountTurnedWrongFalsely : Prop := fnExactCountTurnedRow.holds Try.pinned (OpenSpec.ofChange fnExactCountTurnedWrong)

/-- 'laws.FnExactExchangedAt': WHATEVER THE INPUT: true; the input reads as it did. -/
def fnExactExchangedAtSpec : ChangeSpec := { name := "fnExactExchangedAt", fn := fun _ => fun
  | [d1, d2] => { results := [.lit (.bool true)], args := [d1, d2] }
  | _ => none }
def fnExactExchangedAtRow : OpenClaim := { program := "ytpdnocpnibcicaa", sum := "d030210c84e9a24046d0341e9124113f4f4ba0a6e052dd05d9b561764e763bfc", func := "loop.example/headtrees/laws.FnExactExchangedAt", spec := "fnExactExchangedAt", unfollowed := true, recurses := true, apart := false }
def FnExactExchangedAtSaid : Prop := fnExactExchangedAtRow.holds Try.pinned (OpenSpec.ofChange fnExactExchangedAtSpec)

/-- ITS FALSE NEIGHBOUR: 'it returns false'. Refute it at one input. -/
def fnExactExchangedAtWrong : ChangeSpec := { name := "fnExactExchangedAt", fn := fun _ => fun
  | [d1, d2] => { results := [.lit (.bool false)], args := [d1, d2] }
  | _ => none }
def FnExactExchangedAtWrongFalsely : Prop := fnExactExchangedAtRow.holds Try.pinned (OpenSpec.ofChange fnExactExchangedAtWrong)

/-- 'laws.FnExactExchangesFor': WHATEVER THE INPUT: true; the input reads as it did. -/
def fnExactExchangesForSpec : ChangeSpec := { name := "fnExactExchangesFor", fn := fun _ => fun
  | [d] => { results := [.lit (.bool true)], args := [d] }
  | _ => none }
def fnExactExchangesForRow : OpenClaim := { program := "ytpdnocpnibcicaa", sum := "d030210c84e9a24046d0341e9124113f4f4ba0a6e052dd05d9b561764e763bfc", func := "loop.example/headtrees/laws.FnExactExchangesFor", spec := "fnExactExchangesFor", unfollowed := true, recurses := true, apart := false }
def FnExactExchangesForSaid : Prop := fnExactExchangesForRow.holds Try.pinned (OpenSpec.ofChange fnExactExchangesForSpec)

/-- ITS FALSE NEIGHBOUR: 'it returns false'. Refute it at one input. -/
def fnExactExchangesForWrong : ChangeSpec := { name := "fnExactExchangesFor", fn := fun _ => fun
  | [d] => { results := [.lit (.bool false)], args := [d] }
  | _ => none }
def FnExactExchangesForWrongFalsely : Prop := fnExactExchangesForRow.holds Try.pinned (OpenSpec.ofChange fnExactExchangesForWrong)

/-- 'laws.FnExactMadeFlat': WHATEVER THE INPUT: true; the input reads as it did. -/
def fnExactMadeFlatSpec : ChangeSpec := { name := "fnExactMadeFlat", fn := fun _ => fun
  | [d] => { results := [.lit (.bool true)], args := [d] }
  | _ => none }
def fnExactMadeFlatRow : OpenClaim := { program := "ytpdnocpnibcicaa", sum := "d030210c84e9a24046d0341e9124113f4f4ba0a6e052dd05d9b561764e763bfc", func := "loop.example/headtrees/laws.FnExactMadeFlat", spec := "fnExactMadeFlat", unfollowed := true, recurses := true, apart := false }
def FnExactMadeFlatSaid : Prop := fnExactMadeFlatRow.holds Try.pinned (OpenSpec.ofChange fnExactMadeFlatSpec)

/-- ITS FALSE NEIGHBOUR: 'it returns false'. Refute it at one input. -/
def fnExactMadeFlatWrong : ChangeSpec := { name := "fnExactMadeFlat", fn := fun _ => fun
  | [d] => { results := [.lit (.bool false)], args := [d] }
  | _ => none }
def FnExactMadeFlatWrongFalsely : Prop := fnExactMadeFlatRow.holds Try.pinned (OpenSpec.ofChange fnExactMadeFlatWrong)

/-- 'laws.FnExactRaisedBy': WHATEVER THE INPUT: true; the input reads as it did. -/
def fnExactRaisedBySpec : ChangeSpec := { name := "fnExactRaisedBy", fn := fun _ => fun
  | [d1, d2] => { results := [.lit (.bool true)], args := [d1, d2] }
  | _ => none }
def fnExactRaisedByRow : OpenClaim := { program := "ytpdnocpnibcicaa", sum := "d030210c84e9a24046d0341e9124113f4f4ba0a6e052dd05d9b561764e763bfc", func := "loop.example/headtrees/laws.FnExactRaisedBy", spec := "fnExactRaisedBy", apart := false }
def FnExactRaisedBySaid : Prop := fnExactRaisedByRow.holds Try.pinned (OpenSpec.ofChange fnExactRaisedBySpec)

/-- ITS FALSE NEIGHBOUR: 'it returns false'. Refute it at one input. -/
def fnExactRaisedByWrong : ChangeSpec := { name := "fnExactRaisedBy", fn := fun _ => fun
  | [d1, d2] => { results := [.lit (.bool false)], args := [d1, d2] }
  | _ => none }
def FnExactRaisedByWrongFalsely : Prop := fnExactRaisedByRow.holds Try.pinned (OpenSpec.ofChange fnExactRaisedByWrong)

/-- 'laws.FnExactScoreOf': WHATEVER THE INPUT: true; the input reads as it did. -/
def fnExactScoreOfSpec : ChangeSpec := { name := "fnExactScoreOf", fn := fun _ => fun
  | [d1, d2] => { results := [.lit (.bool true)], args := [d1, d2] }
  | _ => none }
def fnExactScoreOfRow : OpenClaim := { program := "ytpdnocpnibcicaa", sum := "d030210c84e9a24046d0341e9124113f4f4ba0a6e052dd05d9b561764e763bfc", func := "loop.example/headtrees/laws.FnExactScoreOf", spec := "fnExactScoreOf", apart := false }
def FnExactScoreOfSaid : Prop := fnExactScoreOfRow.holds Try.pinned (OpenSpec.ofChange fnExactScoreOfSpec)

/-- ITS FALSE NEIGHBOUR: 'it returns false'. Refute it at one input. -/
def fnExactScoreOfWrong : ChangeSpec := { name := "fnExactScoreOf", fn := fun _ => fun
  | [d1, d2] => { results := [.lit (.bool false)], args := [d1, d2] }
  | _ => none }
def FnExactScoreOfWrongFalsely : Prop := fnExactScoreOfRow.holds Try.pinned (OpenSpec.ofChange fnExactScoreOfWrong)

/-- 'laws.FnExactBestScore': WHATEVER THE INPUT: true; the input reads as it did. -/
def fnExactBestScoreSpec : ChangeSpec := { name := "fnExactBestScore", fn := fun _ => fun
  | [d] => { results := [.lit (.bool true)], args := [d] }
  | _ => none }
def fnExactBestScoreRow : OpenClaim := { program := "ytpdnocpnibcicaa", sum := "d030210c84e9a24046d0341e9124113f4f4ba0a6e052dd05d9b561764e763bfc", func := "loop.example/headtrees/laws.FnExactBestScore", spec := "fnExactBestScore", unfollowed := true, recurses := true, apart := false }
def FnExactBestScoreSaid : Prop := fnExactBestScoreRow.holds Try.pinned (OpenSpec.ofChange fnExactBestScoreSpec)

/-- ITS FALSE NEIGHBOUR: 'it returns false'. Refute it at one input. -/
def fnExactBestScoreWrong : ChangeSpec := { name := "fnExactBestScore", fn := fun _ => fun
  | [d] => { results := [.lit (.bool false)], args := [d] }
  | _ => none }
def FnExactBestScoreWrongFalsely : Prop := fnExactBestScoreRow.holds Try.pinned (OpenSpec.ofChange fnExactBestScoreWrong)

/-- 'laws.FnExactBestFlat': WHATEVER THE INPUT: true; the input reads as it did. -/
def fnExactBestFlatSpec : ChangeSpec := { name := "fnExactBestFlat", fn := fun _ => fun
  | [d] => { results := [.lit (.bool true)], args := [d] }
  | _ => none }
def fnExactBestFlatRow : OpenClaim := { program := "ytpdnocpnibcicaa", sum := "d030210c84e9a24046d0341e9124113f4f4ba0a6e052dd05d9b561764e763bfc", func := "loop.example/headtrees/laws.FnExactBestFlat", spec := "fnExactBestFlat", unfollowed := true, recurses := true, apart := false }
def FnExactBestFlatSaid : Prop := fnExactBestFlatRow.holds Try.pinned (OpenSpec.ofChange fnExactBestFlatSpec)

/-- ITS FALSE NEIGHBOUR: 'it returns false'. Refute it at one input. -/
def fnExactBestFlatWrong : ChangeSpec := { name := "fnExactBestFlat", fn := fun _ => fun
  | [d] => { results := [.lit (.bool false)], args := [d] }
  | _ => none }
def FnExactBestFlatWrongFalsely : Prop := fnExactBestFlatRow.holds Try.pinned (OpenSpec.ofChange fnExactBestFlatWrong)

/-- 'laws.FnExactDeskNew': WHATEVER THE INPUT: true; the input reads as it did. -/
def fnExactDeskNewSpec : ChangeSpec := { name := "fnExactDeskNew", fn := fun _ => fun
  | [d] => { results := [.lit (.bool true)], args := [d] }
  | _ => none }
def fnExactDeskNewRow : OpenClaim := { program := "ytpdnocpnibcicaa", sum := "d030210c84e9a24046d0341e9124113f4f4ba0a6e052dd05d9b561764e763bfc", func := "loop.example/headtrees/laws.FnExactDeskNew", spec := "fnExactDeskNew", apart := false }
def FnExactDeskNewSaid : Prop := fnExactDeskNewRow.holds Try.pinned (OpenSpec.ofChange fnExactDeskNewSpec)

/-- ITS FALSE NEIGHBOUR: 'it returns false'. Refute it at one input. -/
def fnExactDeskNewWrong : ChangeSpec := { name := "fnExactDeskNew", fn := fun _ => fun
  | [d] => { results := [.lit (.bool false)], args := [d] }
  | _ => none }
def FnExactDeskNewWrongFalsely : Prop := fnExactDeskNewRow.holds Try.pinned (OpenSpec.ofChange fnExactDeskNewWrong)

/- THE SECOND FORM. 'bulk': how many values and letters a reading holds, each counted each time it is reached (what is shared counts as often as it is met; a slice's spare places count too). A statement '..UptoSaid' is the law's where the arguments, and the package variables that the reading takes, are together of bulk at most 1048576: NARROWER than '..Said'. Prove '..Said' where nothing that the law and all that it calls make is longer than what came in: it says more and counts as full. Else prove '..UptoSaid'. A law counts once. -/
mutual
def uptoBulk {H : Type} : DataW H → Nat
  | .lit (.string bytes) => bytes.length + 1
  | .lit _ => 1
  | .nil => 1
  | .ptr d => uptoBulk d + 1
  | .slice elems spare => uptoBulkAll elems + uptoBulkAll spare + 1
  | .agg parts => uptoBulkAll parts + 1
  | .iface _ d => uptoBulk d + 1
  | .map entries => uptoBulkEntries entries + 1
  | .held _ => 1
def uptoBulkAll {H : Type} : List (DataW H) → Nat
  | [] => 0
  | d :: r => uptoBulk d + uptoBulkAll r
def uptoBulkEntries {H : Type} : List (Lit × DataW H) → Nat
  | [] => 0
  | x :: r => uptoBulkEntry x + uptoBulkEntries r
def uptoBulkEntry {H : Type} : Lit × DataW H → Nat
  | (.string bytes, d) => bytes.length + uptoBulk d + 1
  | (_, d) => uptoBulk d + 1
 end
def uptoSmall : (H : Type) → List (DataW H) → Bool := fun _ ds => decide (uptoBulkAll ds ≤ 1048576)
def OpenSpec.upto (s : _root_.Go.ChangeSpec) : _root_.Go.OpenSpec := { _root_.Go.OpenSpec.ofChange s with cond := some uptoSmall }

/-- 'laws.FnExactFlatOrder', WHERE WHAT IT READS IS OF BULK AT MOST 1048576: true; the input reads as it did. -/
def fnExactFlatOrderUptoRow : OpenClaim := { program := "ytpdnocpnibcicaa", sum := "d030210c84e9a24046d0341e9124113f4f4ba0a6e052dd05d9b561764e763bfc", func := "loop.example/headtrees/laws.FnExactFlatOrder", spec := "fnExactFlatOrder", recurses := true, apart := false, narrowed := true }
def FnExactFlatOrderUptoSaid : Prop := fnExactFlatOrderUptoRow.holds Try.pinned (OpenSpec.upto fnExactFlatOrderSpec)

/-- 'laws.FnExactLeastLength', WHERE WHAT IT READS IS OF BULK AT MOST 1048576: true; the input reads as it did. -/
def fnExactLeastLengthUptoRow : OpenClaim := { program := "ytpdnocpnibcicaa", sum := "d030210c84e9a24046d0341e9124113f4f4ba0a6e052dd05d9b561764e763bfc", func := "loop.example/headtrees/laws.FnExactLeastLength", spec := "fnExactLeastLength", unfollowed := true, recurses := true, apart := false, narrowed := true }
def FnExactLeastLengthUptoSaid : Prop := fnExactLeastLengthUptoRow.holds Try.pinned (OpenSpec.upto fnExactLeastLengthSpec)

/-- 'laws.FnExactSidesFor', WHERE WHAT IT READS IS OF BULK AT MOST 1048576: true; the input reads as it did. -/
def fnExactSidesForUptoRow : OpenClaim := { program := "ytpdnocpnibcicaa", sum := "d030210c84e9a24046d0341e9124113f4f4ba0a6e052dd05d9b561764e763bfc", func := "loop.example/headtrees/laws.FnExactSidesFor", spec := "fnExactSidesFor", unfollowed := true, recurses := true, apart := false, narrowed := true }
def FnExactSidesForUptoSaid : Prop := fnExactSidesForUptoRow.holds Try.pinned (OpenSpec.upto fnExactSidesForSpec)

/-- 'laws.FnExactCountTurned', WHERE WHAT IT READS IS OF BULK AT MOST 1048576: true; the input reads as it did. -/
def fnExactCountTurnedUptoRow : OpenClaim := { program := "ytpdnocpnibcicaa", sum := "d030210c84e9a24046d0341e9124113f4f4ba0a6e052dd05d9b561764e763bfc", func := "loop.example/headtrees/laws.FnExactCountTurned", spec := "fnExactCountTurned", unfollowed := true, recurses := true, apart := false, narrowed := true }
def FnExactCountTurnedUptoSaid : Prop := fnExactCountTurnedUptoRow.holds Try.pinned (OpenSpec.upto fnExactCountTurnedSpec)

/-- 'laws.FnExactExchangedAt', WHERE WHAT IT READS IS OF BULK AT MOST 1048576: true; the input reads as it did. -/
def fnExactExchangedAtUptoRow : OpenClaim := { program := "ytpdnocpnibcicaa", sum := "d030210c84e9a24046d0341e9124113f4f4ba0a6e052dd05d9b561764e763bfc", func := "loop.example/headtrees/laws.FnExactExchangedAt", spec := "fnExactExchangedAt", unfollowed := true, recurses := true, apart := false, narrowed := true }
def FnExactExchangedAtUptoSaid : Prop := fnExactExchangedAtUptoRow.holds Try.pinned (OpenSpec.upto fnExactExchangedAtSpec)

/-- 'laws.FnExactExchangesFor', WHERE WHAT IT READS IS OF BULK AT MOST 1048576: true; the input reads as it did. -/
def fnExactExchangesForUptoRow : OpenClaim := { program := "ytpdnocpnibcicaa", sum := "d030210c84e9a24046d0341e9124113f4f4ba0a6e052dd05d9b561764e763bfc", func := "loop.example/headtrees/laws.FnExactExchangesFor", spec := "fnExactExchangesFor", unfollowed := true, recurses := true, apart := false, narrowed := true }
def FnExactExchangesForUptoSaid : Prop := fnExactExchangesForUptoRow.holds Try.pinned (OpenSpec.upto fnExactExchangesForSpec)

/-- 'laws.FnExactMadeFlat', WHERE WHAT IT READS IS OF BULK AT MOST 1048576: true; the input reads as it did. -/
def fnExactMadeFlatUptoRow : OpenClaim := { program := "ytpdnocpnibcicaa", sum := "d030210c84e9a24046d0341e9124113f4f4ba0a6e052dd05d9b561764e763bfc", func := "loop.example/headtrees/laws.FnExactMadeFlat", spec := "fnExactMadeFlat", unfollowed := true, recurses := true, apart := false, narrowed := true }
def FnExactMadeFlatUptoSaid : Prop := fnExactMadeFlatUptoRow.holds Try.pinned (OpenSpec.upto fnExactMadeFlatSpec)

/-- 'laws.FnExactRaisedBy', WHERE WHAT IT READS IS OF BULK AT MOST 1048576: true; the input reads as it did. -/
def fnExactRaisedByUptoRow : OpenClaim := { program := "ytpdnocpnibcicaa", sum := "d030210c84e9a24046d0341e9124113f4f4ba0a6e052dd05d9b561764e763bfc", func := "loop.example/headtrees/laws.FnExactRaisedBy", spec := "fnExactRaisedBy", apart := false, narrowed := true }
def FnExactRaisedByUptoSaid : Prop := fnExactRaisedByUptoRow.holds Try.pinned (OpenSpec.upto fnExactRaisedBySpec)

/-- 'laws.FnExactScoreOf', WHERE WHAT IT READS IS OF BULK AT MOST 1048576: true; the input reads as it did. -/
def fnExactScoreOfUptoRow : OpenClaim := { program := "ytpdnocpnibcicaa", sum := "d030210c84e9a24046d0341e9124113f4f4ba0a6e052dd05d9b561764e763bfc", func := "loop.example/headtrees/laws.FnExactScoreOf", spec := "fnExactScoreOf", apart := false, narrowed := true }
def FnExactScoreOfUptoSaid : Prop := fnExactScoreOfUptoRow.holds Try.pinned (OpenSpec.upto fnExactScoreOfSpec)

/-- 'laws.FnExactBestScore', WHERE WHAT IT READS IS OF BULK AT MOST 1048576: true; the input reads as it did. -/
def fnExactBestScoreUptoRow : OpenClaim := { program := "ytpdnocpnibcicaa", sum := "d030210c84e9a24046d0341e9124113f4f4ba0a6e052dd05d9b561764e763bfc", func := "loop.example/headtrees/laws.FnExactBestScore", spec := "fnExactBestScore", unfollowed := true, recurses := true, apart := false, narrowed := true }
def FnExactBestScoreUptoSaid : Prop := fnExactBestScoreUptoRow.holds Try.pinned (OpenSpec.upto fnExactBestScoreSpec)

/-- 'laws.FnExactBestFlat', WHERE WHAT IT READS IS OF BULK AT MOST 1048576: true; the input reads as it did. -/
def fnExactBestFlatUptoRow : OpenClaim := { program := "ytpdnocpnibcicaa", sum := "d030210c84e9a24046d0341e9124113f4f4ba0a6e052dd05d9b561764e763bfc", func := "loop.example/headtrees/laws.FnExactBestFlat", spec := "fnExactBestFlat", unfollowed := true, recurses := true, apart := false, narrowed := true }
def FnExactBestFlatUptoSaid : Prop := fnExactBestFlatUptoRow.holds Try.pinned (OpenSpec.upto fnExactBestFlatSpec)

/-- 'laws.FnExactDeskNew', WHERE WHAT IT READS IS OF BULK AT MOST 1048576: true; the input reads as it did. -/
def fnExactDeskNewUptoRow : OpenClaim := { program := "ytpdnocpnibcicaa", sum := "d030210c84e9a24046d0341e9124113f4f4ba0a6e052dd05d9b561764e763bfc", func := "loop.example/headtrees/laws.FnExactDeskNew", spec := "fnExactDeskNew", apart := false, narrowed := true }
def FnExactDeskNewUptoSaid : Prop := fnExactDeskNewUptoRow.holds Try.pinned (OpenSpec.upto fnExactDeskNewSpec)

end Rows
end Go.Proofs.Ytpdnocpnibcicaa
