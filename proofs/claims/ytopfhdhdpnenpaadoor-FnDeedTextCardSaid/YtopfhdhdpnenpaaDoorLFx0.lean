/- Printed by a program of this session (wip/lp/lp.py) out of the translation: functions with the same answers as the Go code, and their contracts; no conditions beyond those that each theorem names. -/
import Derived.Test.YtopfhdhdpnenpaaDoorProg
import Derived.Below
import Derived.Deep.Draws
import Derived.Deep.AppendLies
import Derived.Maps.AppendAt
import Derived.OwnWalk
import Derived.Laws.BytesArg
import Derived.Laws.MakeOwn
import Derived.Laws.OwnMore
import Derived.Deep.OwnRows
import Derived.Tactics
import Derived.Lib.ConvBytes
import Derived.Laws.Slices
import Derived.WalkKit
import Derived.KernelRfl
import Derived.RowKit3
import Derived.Deep.LoopGhost
import Derived.Deep.QuietTactic
import Derived.BigQuiet
import Derived.WideLaws
import Derived.Deep.DeepCutAuto
import Derived.Deep.CutBlock
import Derived.Deep.RegionHeld3
import Derived.Laws.Rows
import Derived.Lib.AppendStr
import Derived.ArgAppend
import Derived.Laws.IdiomCopy
import Derived.OrdersHeld
import Derived.Laws.BitsLemmas
import Derived.RowKit
import Derived.Test.YtopfhdhdpnenpaaDoorUCutRow
import Derived.Test.YtopfhdhdpnenpaaDoorUPop
import Derived.Test.YtopfhdhdpnenpaaDoorUCloneRow
import Derived.Shelf.Strconv.AtoiAll
import Derived.Shelf.Small.Bits
import Derived.Test.YtopfhdhdpnenpaaDoorUClip
import Derived.WalkSpells
import Derived.LoopTactic
import Derived.Shelf.Strings.Cut
import Derived.Shelf.Strconv.Itoa3
import Derived.Test.YtopfhdhdpnenpaaDoorULawStep
import Derived.Shelf.SlIterI.Collect
import Derived.Shelf.Strings.Split
import Derived.Test.YtopfhdhdpnenpaaDoorUTold
import Derived.Test.YtopfhdhdpnenpaaDoorUWords
import Derived.Test.YtopfhdhdpnenpaaDoorULast
import Derived.Test.YtopfhdhdpnenpaaDoorUTab
import Derived.Test.YtopfhdhdpnenpaaDoorUFour
import Derived.Test.YtopfhdhdpnenpaaDoorUQPut
import Derived.Test.YtopfhdhdpnenpaaDoorUApart
import Derived.Test.YtopfhdhdpnenpaaDoorUArr
import Derived.Test.YtopfhdhdpnenpaaDoorUZeros
import Derived.Test.YtopfhdhdpnenpaaDoorUFoot
import Derived.Test.YtopfhdhdpnenpaaDoorUKept
import Derived.Test.YtopfhdhdpnenpaaDoorUShare
import Derived.Test.YtopfhdhdpnenpaaDoorUN
import Derived.Test.YtopfhdhdpnenpaaDoorUFootNe
import Derived.Test.YtopfhdhdpnenpaaDoorUAt
import Derived.Test.YtopfhdhdpnenpaaDoorUEqStruct
import Derived.Test.YtopfhdhdpnenpaaDoorURepsOne
import Derived.Test.YtopfhdhdpnenpaaDoorUInv
import Derived.Test.YtopfhdhdpnenpaaDoorUInvWords
import Derived.Test.YtopfhdhdpnenpaaDoorUGuard
import Derived.Test.YtopfhdhdpnenpaaDoorUNEv
import Derived.Test.YtopfhdhdpnenpaaDoorUMore
namespace Go.Proofs.YtopfhdhdpnenpaaDoor.LF
open Go.RowKit Go.Proofs.YtopfhdhdpnenpaaDoorV.PrintWords Go.Proofs.YtopfhdhdpnenpaaDoorV.PrintLast Go.Proofs.YtopfhdhdpnenpaaDoorV.PrintMore
attribute [local go_sem] max2_int min2_int max_two min_two max_three min_three max_four min_four   -- for this text's walks alone
set_option linter.unusedVariables false
set_option linter.unusedSimpArgs false



def errW : Option Int → Value
 | none => .nilIface
 | some c => .iface 0 (.int .i64 c)
theorem errW_none : errW none = .nilIface := rfl
theorem errW_some (c : Int) : errW (some c) = .iface 0 (.int .i64 c) := rfl

theorem info3 : (Tryd.prog.info? 3).map (fun i => (i.zero, i.size, i.bytes)) = some (some (.int .i64 0), 1, 8) := by kernel_rfl
theorem info5 : (Tryd.prog.info? 5).map (fun i => (i.zero, i.size, i.bytes)) = some (some (.int .u8 0), 1, 1) := by kernel_rfl
theorem info9 : (Tryd.prog.info? 9).map (fun i => (i.zero, i.size, i.bytes)) = some (some (.string ⟨#[]⟩), 1, 16) := by kernel_rfl
-- the values' own types

abbrev zA := @pw_below_drewN
abbrev zB := @below_alloc
abbrev zC := @below_drew1
abbrev zD := @below_set
abbrev zE := @List.setIfInBounds_toArray
abbrev zF := @List.set_cons_zero
abbrev zG := @List.set_cons_succ
abbrev zK := @KeepBut.set_
abbrev zM := @Aside0.mk
end Go.Proofs.YtopfhdhdpnenpaaDoor.LF
