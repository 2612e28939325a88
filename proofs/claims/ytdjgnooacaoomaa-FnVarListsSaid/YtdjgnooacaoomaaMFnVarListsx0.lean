/- Each theorem here says that a call of one Go function answers what the Lean function beside it answers; its conditions stand in it. Written by a program of this session. -/
import Derived.Test.YtdjgnooacaoomaaProg
import Derived.Below
import Derived.Deep.Draws
import Derived.Deep.AppendLies
import Derived.Maps.AppendAt
import Derived.OwnWalk
import Derived.Laws.BytesArg
import Derived.Laws.MakeOwn
import Derived.Laws.OwnMore
import Derived.Deep.OwnRows
import Derived.Tactics
import Derived.Lib.ConvBytes
import Derived.Laws.Slices
import Derived.WalkKit
import Derived.KernelRfl
import Derived.RowKit3
import Derived.Deep.LoopGhost
import Derived.Deep.QuietTactic
import Derived.BigQuiet
import Derived.WideLaws
import Derived.Deep.DeepCutAuto
import Derived.Deep.CutBlock
import Derived.Deep.RegionHeld3
import Derived.Laws.Rows
import Derived.Lib.AppendStr
import Derived.ArgAppend
import Derived.Laws.IdiomCopy
import Derived.OrdersHeld
import Derived.Laws.BitsLemmas
import Derived.RowKit
import Derived.Test.YtdjgnooacaoomaaOpn
import Derived.Shelf.Strings.Builder1
import Derived.Test.YtdjgnooacaoomaaShelf
import Derived.Shelf.Abstract
import Derived.Test.YtdjgnooacaoomaaWWords
import Derived.Test.YtdjgnooacaoomaaWLast
import Derived.Test.YtdjgnooacaoomaaWTab
import Derived.Test.YtdjgnooacaoomaaWFour
import Derived.Test.YtdjgnooacaoomaaWQPut
import Derived.Test.YtdjgnooacaoomaaWApart
import Derived.Test.YtdjgnooacaoomaaWArr
import Derived.Test.YtdjgnooacaoomaaWZeros
import Derived.Test.YtdjgnooacaoomaaWFoot
import Derived.Test.YtdjgnooacaoomaaWKept
import Derived.Test.YtdjgnooacaoomaaWShare
import Derived.Test.YtdjgnooacaoomaaWN
import Derived.Test.YtdjgnooacaoomaaWFootNe
import Derived.Test.YtdjgnooacaoomaaWAt
import Derived.Test.YtdjgnooacaoomaaWEqStruct
import Derived.Test.YtdjgnooacaoomaaWRepsOne
import Derived.Test.YtdjgnooacaoomaaWInv
import Derived.Test.YtdjgnooacaoomaaWInvWords
import Derived.Test.YtdjgnooacaoomaaWGuard
import Derived.Test.YtdjgnooacaoomaaWNEv
import Derived.Test.YtdjgnooacaoomaaWMore
namespace Go.Proofs.Ytdjgnooacaoomaa.MFnVarLists
open Go.RowKit Go.Proofs.YtdjgnooacaoomaaW.PrintWords Go.Proofs.YtdjgnooacaoomaaW.PrintLast Go.Proofs.YtdjgnooacaoomaaW.PrintMore
attribute [local go_sem] max2_int min2_int max_two min_two max_three min_three max_four min_four   -- for this text's walks alone
set_option linter.unusedVariables false
set_option linter.unusedSimpArgs false



def errW : Option Int → Value
  | none => .nilIface
  | some c => .iface 0 (.int .i64 c)
theorem errW_none : errW none = .nilIface := rfl
theorem errW_some (c : Int) : errW (some c) = .iface 0 (.int .i64 c) := rfl

theorem info3 : (Try.prog.info? 3).map (fun i => (i.zero, i.size, i.bytes)) = some (some (.int .i64 0), 1, 8) := by kernel_rfl
theorem info5 : (Try.prog.info? 5).map (fun i => (i.zero, i.size, i.bytes)) = some (some (.int .u8 0), 1, 1) := by kernel_rfl
-- the values' own types

end Go.Proofs.Ytdjgnooacaoomaa.MFnVarLists
