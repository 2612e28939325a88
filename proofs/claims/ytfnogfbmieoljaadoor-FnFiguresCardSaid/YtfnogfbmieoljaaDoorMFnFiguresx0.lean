/- Each theorem here says that a call of one Go function answers what the Lean function beside it answers; its conditions stand in it. Written by a program of this session. -/
import Derived.Test.YtfnogfbmieoljaaDoorProg
import Derived.Below
import Derived.Deep.Draws
import Derived.Deep.AppendLies
import Derived.Maps.AppendAt
import Derived.OwnWalk
import Derived.Laws.BytesArg
import Derived.Laws.MakeOwn
import Derived.Laws.OwnMore
import Derived.Deep.OwnRows
import Derived.Tactics
import Derived.Lib.ConvBytes
import Derived.Laws.Slices
import Derived.WalkKit
import Derived.KernelRfl
import Derived.RowKit3
import Derived.Deep.LoopGhost
import Derived.Deep.QuietTactic
import Derived.BigQuiet
import Derived.WideLaws
import Derived.Deep.DeepCutAuto
import Derived.Deep.CutBlock
import Derived.Deep.RegionHeld3
import Derived.Laws.Rows
import Derived.Lib.AppendStr
import Derived.ArgAppend
import Derived.Laws.IdiomCopy
import Derived.OrdersHeld
import Derived.Laws.BitsLemmas
import Derived.RowKit
import Derived.Test.YtfnogfbmieoljaaDoorOpn
import Derived.Test.YtfnogfbmieoljaaDoorCap
import Derived.Lib.AppendIntMem
import Derived.Lib.LaidTab
import Derived.Shelf.Strconv.ErrVarAll
import Derived.Shelf.Strconv.Itoa3
import Derived.Test.YtfnogfbmieoljaaDoorShelf
import Derived.Shelf.Abstract
import Derived.Test.YtfnogfbmieoljaaDoorWWords
import Derived.Test.YtfnogfbmieoljaaDoorWLast
import Derived.Test.YtfnogfbmieoljaaDoorWTab
import Derived.Test.YtfnogfbmieoljaaDoorWFour
import Derived.Test.YtfnogfbmieoljaaDoorWQPut
import Derived.Test.YtfnogfbmieoljaaDoorWApart
import Derived.Test.YtfnogfbmieoljaaDoorWArr
import Derived.Test.YtfnogfbmieoljaaDoorWZeros
import Derived.Test.YtfnogfbmieoljaaDoorWFoot
import Derived.Test.YtfnogfbmieoljaaDoorWKept
import Derived.Test.YtfnogfbmieoljaaDoorWShare
import Derived.Test.YtfnogfbmieoljaaDoorWN
import Derived.Test.YtfnogfbmieoljaaDoorWFootNe
import Derived.Test.YtfnogfbmieoljaaDoorWAt
import Derived.Test.YtfnogfbmieoljaaDoorWEqStruct
import Derived.Test.YtfnogfbmieoljaaDoorWRepsOne
import Derived.Test.YtfnogfbmieoljaaDoorWInv
import Derived.Test.YtfnogfbmieoljaaDoorWInvWords
import Derived.Test.YtfnogfbmieoljaaDoorWGuard
import Derived.Test.YtfnogfbmieoljaaDoorWNEv
import Derived.Test.YtfnogfbmieoljaaDoorWMore
namespace Go.Proofs.YtfnogfbmieoljaaDoor.MFnFigures
open Go.RowKit Go.Proofs.YtfnogfbmieoljaaDoorW.PrintWords Go.Proofs.YtfnogfbmieoljaaDoorW.PrintLast Go.Proofs.YtfnogfbmieoljaaDoorW.PrintMore
attribute [local go_sem] max2_int min2_int max_two min_two max_three min_three max_four min_four   -- for this text's walks alone
set_option linter.unusedVariables false
set_option linter.unusedSimpArgs false



def errW : Option Int → Value
  | none => .nilIface
  | some c => .iface 0 (.int .i64 c)
theorem errW_none : errW none = .nilIface := rfl
theorem errW_some (c : Int) : errW (some c) = .iface 0 (.int .i64 c) := rfl

theorem info3 : (Tryd.prog.info? 3).map (fun i => (i.zero, i.size, i.bytes)) = some (some (.int .i64 0), 1, 8) := by kernel_rfl
theorem info5 : (Tryd.prog.info? 5).map (fun i => (i.zero, i.size, i.bytes)) = some (some (.int .u8 0), 1, 1) := by kernel_rfl
-- the values' own types

end Go.Proofs.YtfnogfbmieoljaaDoor.MFnFigures
