/- Each theorem here says that a value that reads as data of some Go type is held by memory as a printed function's contract asks; its conditions stand in it. -/
import Derived.Test.YtokcccejijmkmaaGreatDoorWMore
import Derived.Test.YtokcccejijmkmaaGreatDoorWWords
import Derived.Deep.Slices
import Derived.ProofKit
import Derived.WalkKit
namespace Go.Proofs.YtokcccejijmkmaaGreatDoor.Opn
open Go.ChangeShapes Go.WideShapes Go.RowKit Go.Deep Go.Proofs.YtokcccejijmkmaaGreatDoorW.PrintWords
set_option linter.unusedVariables false
section
variable {H:Type} {enc:TypeId×Value→H} {P:Program} {w:World} {base:Nat} {spare:Nat→Bool} {held:Bool}
def Opn {α:Type} (enc:TypeId×Value→H) (P:Program) (w:World) (base:Nat) (spare:Nat→Bool) (held:Bool) (t:TypeId) (d:Kd α) (Q:α→Prop):Prop:=
  ∀ (fuel:Nat) (cs:List Value) (x:DataW H×List MemPlace),DataW.trod enc P w base spare held fuel t cs=some x→∃ a,d.K w a cs∧Q a
end
end Go.Proofs.YtokcccejijmkmaaGreatDoor.Opn
