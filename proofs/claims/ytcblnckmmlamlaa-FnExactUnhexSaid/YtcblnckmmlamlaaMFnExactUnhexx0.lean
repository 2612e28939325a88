/- Each theorem here says that a call of one Go function answers what the Lean function beside it answers; its conditions stand in it. Written by a program of this session. -/
import Derived.Test.YtcblnckmmlamlaaProg
import Derived.Below
import Derived.Deep.Draws
import Derived.Deep.AppendLies
import Derived.Maps.AppendAt
import Derived.OwnWalk
import Derived.Laws.BytesArg
import Derived.Laws.MakeOwn
import Derived.Laws.OwnMore
import Derived.Deep.OwnRows
import Derived.Tactics
import Derived.Lib.ConvBytes
import Derived.Laws.Slices
import Derived.WalkKit
import Derived.KernelRfl
import Derived.RowKit3
import Derived.Deep.LoopGhost
import Derived.Deep.QuietTactic
import Derived.BigQuiet
import Derived.WideLaws
import Derived.Deep.DeepCutAuto
import Derived.Deep.CutBlock
import Derived.Deep.RegionHeld3
import Derived.Laws.Rows
import Derived.Lib.AppendStr
import Derived.ArgAppend
import Derived.Laws.IdiomCopy
import Derived.OrdersHeld
import Derived.Laws.BitsLemmas
import Derived.RowKit
import Derived.Test.YtcblnckmmlamlaaOpn
import Derived.Test.YtcblnckmmlamlaaCap
import Derived.Shelf.Abstract
import Derived.Test.YtcblnckmmlamlaaWWords
import Derived.Test.YtcblnckmmlamlaaWLast
import Derived.Test.YtcblnckmmlamlaaWTab
import Derived.Test.YtcblnckmmlamlaaWFour
import Derived.Test.YtcblnckmmlamlaaWQPut
import Derived.Test.YtcblnckmmlamlaaWApart
import Derived.Test.YtcblnckmmlamlaaWArr
import Derived.Test.YtcblnckmmlamlaaWZeros
import Derived.Test.YtcblnckmmlamlaaWFoot
import Derived.Test.YtcblnckmmlamlaaWKept
import Derived.Test.YtcblnckmmlamlaaWShare
import Derived.Test.YtcblnckmmlamlaaWN
import Derived.Test.YtcblnckmmlamlaaWFootNe
import Derived.Test.YtcblnckmmlamlaaWAt
import Derived.Test.YtcblnckmmlamlaaWEqStruct
import Derived.Test.YtcblnckmmlamlaaWRepsOne
import Derived.Test.YtcblnckmmlamlaaWInv
import Derived.Test.YtcblnckmmlamlaaWInvWords
import Derived.Test.YtcblnckmmlamlaaWGuard
import Derived.Test.YtcblnckmmlamlaaWNEv
import Derived.Test.YtcblnckmmlamlaaWMore
namespace Go.Proofs.Ytcblnckmmlamlaa.MFnExactUnhex
open Go.RowKit Go.Proofs.YtcblnckmmlamlaaW.PrintWords Go.Proofs.YtcblnckmmlamlaaW.PrintLast Go.Proofs.YtcblnckmmlamlaaW.PrintMore
attribute [local go_sem] max2_int min2_int max_two min_two max_three min_three max_four min_four   -- for this text's walks alone
set_option linter.unusedVariables false
set_option linter.unusedSimpArgs false



def errW : Option Int → Value
  | none => .nilIface
  | some c => .iface 0 (.int .i64 c)
theorem errW_none : errW none = .nilIface := rfl
theorem errW_some (c : Int) : errW (some c) = .iface 0 (.int .i64 c) := rfl

theorem info5 : (Try.prog.info? 5).map (fun i => (i.zero, i.size, i.bytes)) = some (some (.int .u8 0), 1, 1) := by kernel_rfl
-- the values' own types

end Go.Proofs.Ytcblnckmmlamlaa.MFnExactUnhex
