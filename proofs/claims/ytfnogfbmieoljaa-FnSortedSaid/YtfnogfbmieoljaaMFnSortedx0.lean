/- Each theorem here says that a call of one Go function answers what the Lean function beside it answers; its conditions stand in it. Written by a program of this session. -/
import Derived.Test.YtfnogfbmieoljaaProg
import Derived.Below
import Derived.Deep.Draws
import Derived.Deep.AppendLies
import Derived.Maps.AppendAt
import Derived.OwnWalk
import Derived.Laws.BytesArg
import Derived.Laws.MakeOwn
import Derived.Laws.OwnMore
import Derived.Deep.OwnRows
import Derived.Tactics
import Derived.Lib.ConvBytes
import Derived.Laws.Slices
import Derived.WalkKit
import Derived.KernelRfl
import Derived.RowKit3
import Derived.Deep.LoopGhost
import Derived.Deep.QuietTactic
import Derived.BigQuiet
import Derived.WideLaws
import Derived.Deep.DeepCutAuto
import Derived.Deep.CutBlock
import Derived.Deep.RegionHeld3
import Derived.Laws.Rows
import Derived.Lib.AppendStr
import Derived.ArgAppend
import Derived.Laws.IdiomCopy
import Derived.OrdersHeld
import Derived.Laws.BitsLemmas
import Derived.RowKit
import Derived.Test.YtfnogfbmieoljaaOpn
import Derived.Laws.Cover1
import Derived.Lib.OwnBridge
import Derived.Shelf.Slices.CompactS
import Derived.Shelf.Slices.In.SortNone
import Derived.Shelf.SlicesE.DeleteFunc
import Derived.Shelf.Sort.Plain
import Derived.Test.YtfnogfbmieoljaaShelf
import Derived.Shelf.Abstract
import Derived.Test.YtfnogfbmieoljaaWWords
import Derived.Test.YtfnogfbmieoljaaWLast
import Derived.Test.YtfnogfbmieoljaaWTab
import Derived.Test.YtfnogfbmieoljaaWFour
import Derived.Test.YtfnogfbmieoljaaWQPut
import Derived.Test.YtfnogfbmieoljaaWApart
import Derived.Test.YtfnogfbmieoljaaWArr
import Derived.Test.YtfnogfbmieoljaaWZeros
import Derived.Test.YtfnogfbmieoljaaWFoot
import Derived.Test.YtfnogfbmieoljaaWKept
import Derived.Test.YtfnogfbmieoljaaWShare
import Derived.Test.YtfnogfbmieoljaaWN
import Derived.Test.YtfnogfbmieoljaaWFootNe
import Derived.Test.YtfnogfbmieoljaaWAt
import Derived.Test.YtfnogfbmieoljaaWEqStruct
import Derived.Test.YtfnogfbmieoljaaWRepsOne
import Derived.Test.YtfnogfbmieoljaaWInv
import Derived.Test.YtfnogfbmieoljaaWInvWords
import Derived.Test.YtfnogfbmieoljaaWGuard
import Derived.Test.YtfnogfbmieoljaaWNEv
import Derived.Test.YtfnogfbmieoljaaWMore
namespace Go.Proofs.Ytfnogfbmieoljaa.MFnSorted
open Go.RowKit Go.Proofs.YtfnogfbmieoljaaW.PrintWords Go.Proofs.YtfnogfbmieoljaaW.PrintLast Go.Proofs.YtfnogfbmieoljaaW.PrintMore
attribute [local go_sem] max2_int min2_int max_two min_two max_three min_three max_four min_four   -- for this text's walks alone
set_option linter.unusedVariables false
set_option linter.unusedSimpArgs false



def errW : Option Int → Value
  | none => .nilIface
  | some c => .iface 0 (.int .i64 c)
theorem errW_none : errW none = .nilIface := rfl
theorem errW_some (c : Int) : errW (some c) = .iface 0 (.int .i64 c) := rfl

theorem info5 : (Try.prog.info? 5).map (fun i => (i.zero, i.size, i.bytes)) = some (some (.int .u8 0), 1, 1) := by kernel_rfl
theorem info9 : (Try.prog.info? 9).map (fun i => (i.zero, i.size, i.bytes)) = some (some (.string ⟨#[]⟩), 1, 16) := by kernel_rfl
-- the values' own types

end Go.Proofs.Ytfnogfbmieoljaa.MFnSorted
