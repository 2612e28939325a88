/- Each theorem here says that a value that reads as data of some Go type is held by memory as a printed function's contract asks; its conditions stand in it. -/
import Derived.Test.YthbffdjjmapaaaaGreatDoorWMore
import Derived.Test.YthbffdjjmapaaaaGreatDoorWWords
import Derived.Deep.Slices
import Derived.ProofKit
import Derived.WalkKit
namespace Go.Proofs.YthbffdjjmapaaaaGreatDoor.Opn
open Go.ChangeShapes Go.WideShapes Go.RowKit Go.Deep Go.Proofs.YthbffdjjmapaaaaGreatDoorW.PrintWords
set_option linter.unusedVariables false
section
variable {H:Type} {enc:TypeId×Value→H} {P:Program} {w:World} {base:Nat} {spare:Nat→Bool} {held:Bool}
/-- Whatever reads as data of type t is of kind d, and has the property Q. -/
def Opn {α:Type} (enc:TypeId×Value→H) (P:Program) (w:World) (base:Nat) (spare:Nat→Bool) (held:Bool) (t:TypeId) (d:Kd α) (Q:α→Prop):Prop:=
  ∀ (fuel:Nat) (cs:List Value) (x:DataW H×List MemPlace),DataW.trod enc P w base spare held fuel t cs=some x→∃ a,d.K w a cs∧Q a
end
end Go.Proofs.YthbffdjjmapaaaaGreatDoor.Opn
