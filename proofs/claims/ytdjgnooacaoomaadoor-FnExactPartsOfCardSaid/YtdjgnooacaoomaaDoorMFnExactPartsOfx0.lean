/- Each theorem here says that a call of one Go function answers what the Lean function beside it answers; its conditions stand in it. Written by a program of this session. -/
import Derived.Test.YtdjgnooacaoomaaDoorProg
import Derived.Below
import Derived.Deep.Draws
import Derived.Deep.AppendLies
import Derived.Maps.AppendAt
import Derived.OwnWalk
import Derived.Laws.BytesArg
import Derived.Laws.MakeOwn
import Derived.Laws.OwnMore
import Derived.Deep.OwnRows
import Derived.Tactics
import Derived.Lib.ConvBytes
import Derived.Laws.Slices
import Derived.WalkKit
import Derived.KernelRfl
import Derived.RowKit3
import Derived.Deep.LoopGhost
import Derived.Deep.QuietTactic
import Derived.BigQuiet
import Derived.WideLaws
import Derived.Deep.DeepCutAuto
import Derived.Deep.CutBlock
import Derived.Deep.RegionHeld3
import Derived.Laws.Rows
import Derived.Lib.AppendStr
import Derived.ArgAppend
import Derived.Laws.IdiomCopy
import Derived.OrdersHeld
import Derived.Laws.BitsLemmas
import Derived.RowKit
import Derived.Test.YtdjgnooacaoomaaDoorOpn
import Derived.Lib.AppendIntMem
import Derived.Lib.ConvBytes
import Derived.Lib.LaidTab
import Derived.Lib.Space
import Derived.Shelf.Strings.Fields
import Derived.Test.YtdjgnooacaoomaaDoorShelf
import Derived.Shelf.Abstract
import Derived.Test.YtdjgnooacaoomaaDoorWWords
import Derived.Test.YtdjgnooacaoomaaDoorWLast
import Derived.Test.YtdjgnooacaoomaaDoorWTab
import Derived.Test.YtdjgnooacaoomaaDoorWFour
import Derived.Test.YtdjgnooacaoomaaDoorWQPut
import Derived.Test.YtdjgnooacaoomaaDoorWApart
import Derived.Test.YtdjgnooacaoomaaDoorWArr
import Derived.Test.YtdjgnooacaoomaaDoorWZeros
import Derived.Test.YtdjgnooacaoomaaDoorWFoot
import Derived.Test.YtdjgnooacaoomaaDoorWKept
import Derived.Test.YtdjgnooacaoomaaDoorWShare
import Derived.Test.YtdjgnooacaoomaaDoorWN
import Derived.Test.YtdjgnooacaoomaaDoorWFootNe
import Derived.Test.YtdjgnooacaoomaaDoorWAt
import Derived.Test.YtdjgnooacaoomaaDoorWEqStruct
import Derived.Test.YtdjgnooacaoomaaDoorWRepsOne
import Derived.Test.YtdjgnooacaoomaaDoorWInv
import Derived.Test.YtdjgnooacaoomaaDoorWInvWords
import Derived.Test.YtdjgnooacaoomaaDoorWGuard
import Derived.Test.YtdjgnooacaoomaaDoorWNEv
import Derived.Test.YtdjgnooacaoomaaDoorWMore
namespace Go.Proofs.YtdjgnooacaoomaaDoor.MFnExactPartsOf
open Go.RowKit Go.Proofs.YtdjgnooacaoomaaDoorW.PrintWords Go.Proofs.YtdjgnooacaoomaaDoorW.PrintLast Go.Proofs.YtdjgnooacaoomaaDoorW.PrintMore
attribute [local go_sem] max2_int min2_int max_two min_two max_three min_three max_four min_four   -- for this text's walks alone
set_option linter.unusedVariables false
set_option linter.unusedSimpArgs false



def errW : Option Int → Value
  | none => .nilIface
  | some c => .iface 0 (.int .i64 c)
theorem errW_none : errW none = .nilIface := rfl
theorem errW_some (c : Int) : errW (some c) = .iface 0 (.int .i64 c) := rfl

theorem info5 : (Tryd.prog.info? 5).map (fun i => (i.zero, i.size, i.bytes)) = some (some (.int .u8 0), 1, 1) := by kernel_rfl
theorem info9 : (Tryd.prog.info? 9).map (fun i => (i.zero, i.size, i.bytes)) = some (some (.string ⟨#[]⟩), 1, 16) := by kernel_rfl
-- the values' own types

end Go.Proofs.YtdjgnooacaoomaaDoor.MFnExactPartsOf
