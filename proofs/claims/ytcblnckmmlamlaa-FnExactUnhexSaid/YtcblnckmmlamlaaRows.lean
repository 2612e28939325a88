/-
  No cell of these rows narrows 'for every input' (looked for: loops, veiled, ifaces, maps, wideKeys, modest, calm, conditions, laid).
  DERIVED. THE GIVEN ROWS OF THIS SEAT. 12 by the template 'for every input the law returns true; each argument reads behind the call as it read before'; 0 by the template 'total and deterministic' (their statements: YtcblnckmmlamlaaTotals.lean).
  GIVEN WITH THE SEED: the statements are not yours to turn. If you find one false, say at which input.
  Laid BY PROGRAM, IN A SANDBOX (cutbox-rows.mjs): the forced cells as the released guide's own fill.sh prints them over the translation 4bab4c677ace763c… (all of the seat's roots in one cut). By AI agents, Wed Nov 11 2026. No macro, syntax, notation, axiom, sorry.
-/
import Derived.Test.YtcblnckmmlamlaaChecked
import GoSem.Claim
import GoSem.ClaimJoined
import GoSem.ClaimMapViews
import Derived.JoinedTies
import Derived.KernelRfl
namespace Go.Proofs.Ytcblnckmmlamlaa
/- THE CELL 'sum', in the pinned program and in every row, IS THE sha256 OF THE DUMP (.gsa) THAT YtcblnckmmlamlaaProg.lean LOADS. Nothing in Lean hashes anything: it is a label: what it is worth is what the hold of that sum in a sandbox is worth. -/
noncomputable def Try.pinned : Pinned := { name := "ytcblnckmmlamlaa", sum := "4bab4c677ace763cf997087ca8686ce09f1fb13268a045979a9b1c1b7e5242d0", checked := Try.checked }
namespace Rows
def none {H : Type} : Left H := { results := [], args := [] }

/-- 'laws.FnExactSumOf': WHATEVER THE INPUT: true; the input reads as it did. -/
def fnExactSumOfSpec : ChangeSpec := { name := "fnExactSumOf", fn := fun _ => fun
  | [d] => { results := [.lit (.bool true)], args := [d] }
  | _ => none }
def fnExactSumOfRow : OpenClaim := { program := "ytcblnckmmlamlaa", sum := "4bab4c677ace763cf997087ca8686ce09f1fb13268a045979a9b1c1b7e5242d0", func := "loop.example/g00971/laws.FnExactSumOf", spec := "fnExactSumOf", apart := false }
def FnExactSumOfSaid : Prop := fnExactSumOfRow.holds Try.pinned (OpenSpec.ofChange fnExactSumOfSpec)

/-- ITS FALSE NEIGHBOUR: 'it returns false'. Refute it at one input. -/
def fnExactSumOfWrong : ChangeSpec := { name := "fnExactSumOf", fn := fun _ => fun
  | [d] => { results := [.lit (.bool false)], args := [d] }
  | _ => none }
def FnExactSumOfWrongFalsely : Prop := fnExactSumOfRow.holds Try.pinned (OpenSpec.ofChange fnExactSumOfWrong)

/-- 'laws.FnExactTableSum': WHATEVER THE INPUT: true; the input reads as it did. -/
def fnExactTableSumSpec : ChangeSpec := { name := "fnExactTableSum", fn := fun _ => fun
  | [d1, d2] => { results := [.lit (.bool true)], args := [d1, d2] }
  | _ => none }
def fnExactTableSumRow : OpenClaim := { program := "ytcblnckmmlamlaa", sum := "4bab4c677ace763cf997087ca8686ce09f1fb13268a045979a9b1c1b7e5242d0", func := "loop.example/g00971/laws.FnExactTableSum", spec := "fnExactTableSum", apart := false }
def FnExactTableSumSaid : Prop := fnExactTableSumRow.holds Try.pinned (OpenSpec.ofChange fnExactTableSumSpec)

/-- ITS FALSE NEIGHBOUR: 'it returns false'. Refute it at one input. -/
def fnExactTableSumWrong : ChangeSpec := { name := "fnExactTableSum", fn := fun _ => fun
  | [d1, d2] => { results := [.lit (.bool false)], args := [d1, d2] }
  | _ => none }
def FnExactTableSumWrongFalsely : Prop := fnExactTableSumRow.holds Try.pinned (OpenSpec.ofChange fnExactTableSumWrong)

/-- 'laws.FnExactReadVar': WHATEVER THE INPUT: true; the input reads as it did. -/
def fnExactReadVarSpec : ChangeSpec := { name := "fnExactReadVar", fn := fun _ => fun
  | [d1, d2] => { results := [.lit (.bool true)], args := [d1, d2] }
  | _ => none }
def fnExactReadVarRow : OpenClaim := { program := "ytcblnckmmlamlaa", sum := "4bab4c677ace763cf997087ca8686ce09f1fb13268a045979a9b1c1b7e5242d0", func := "loop.example/g00971/laws.FnExactReadVar", spec := "fnExactReadVar", apart := false }
def FnExactReadVarSaid : Prop := fnExactReadVarRow.holds Try.pinned (OpenSpec.ofChange fnExactReadVarSpec)

/-- ITS FALSE NEIGHBOUR: 'it returns false'. Refute it at one input. -/
def fnExactReadVarWrong : ChangeSpec := { name := "fnExactReadVar", fn := fun _ => fun
  | [d1, d2] => { results := [.lit (.bool false)], args := [d1, d2] }
  | _ => none }
def FnExactReadVarWrongFalsely : Prop := fnExactReadVarRow.holds Try.pinned (OpenSpec.ofChange fnExactReadVarWrong)

/-- 'laws.FnExactSumShift': WHATEVER THE INPUT: true; the input reads as it did. -/
def fnExactSumShiftSpec : ChangeSpec := { name := "fnExactSumShift", fn := fun _ => fun
  | [d1, d2] => { results := [.lit (.bool true)], args := [d1, d2] }
  | _ => none }
def fnExactSumShiftRow : OpenClaim := { program := "ytcblnckmmlamlaa", sum := "4bab4c677ace763cf997087ca8686ce09f1fb13268a045979a9b1c1b7e5242d0", func := "loop.example/g00971/laws.FnExactSumShift", spec := "fnExactSumShift", apart := false }
def FnExactSumShiftSaid : Prop := fnExactSumShiftRow.holds Try.pinned (OpenSpec.ofChange fnExactSumShiftSpec)

/-- ITS FALSE NEIGHBOUR: 'it returns false'. Refute it at one input. -/
def fnExactSumShiftWrong : ChangeSpec := { name := "fnExactSumShift", fn := fun _ => fun
  | [d1, d2] => { results := [.lit (.bool false)], args := [d1, d2] }
  | _ => none }
def FnExactSumShiftWrongFalsely : Prop := fnExactSumShiftRow.holds Try.pinned (OpenSpec.ofChange fnExactSumShiftWrong)

/-- 'laws.FnExactSumJoined': WHATEVER THE INPUT: true; the input reads as it did. -/
def fnExactSumJoinedSpec : ChangeSpec := { name := "fnExactSumJoined", fn := fun _ => fun
  | [d1, d2, d3] => { results := [.lit (.bool true)], args := [d1, d2, d3] }
  | _ => none }
def fnExactSumJoinedRow : OpenClaim := { program := "ytcblnckmmlamlaa", sum := "4bab4c677ace763cf997087ca8686ce09f1fb13268a045979a9b1c1b7e5242d0", func := "loop.example/g00971/laws.FnExactSumJoined", spec := "fnExactSumJoined", apart := false }
def FnExactSumJoinedSaid : Prop := fnExactSumJoinedRow.holds Try.pinned (OpenSpec.ofChange fnExactSumJoinedSpec)

/-- ITS FALSE NEIGHBOUR: 'it returns false'. Refute it at one input. -/
def fnExactSumJoinedWrong : ChangeSpec := { name := "fnExactSumJoined", fn := fun _ => fun
  | [d1, d2, d3] => { results := [.lit (.bool false)], args := [d1, d2, d3] }
  | _ => none }
def FnExactSumJoinedWrongFalsely : Prop := fnExactSumJoinedRow.holds Try.pinned (OpenSpec.ofChange fnExactSumJoinedWrong)

/-- 'laws.FnExactUnhex': WHATEVER THE INPUT: true; the input reads as it did. -/
def fnExactUnhexSpec : ChangeSpec := { name := "fnExactUnhex", fn := fun _ => fun
  | [d] => { results := [.lit (.bool true)], args := [d] }
  | _ => none }
def fnExactUnhexRow : OpenClaim := { program := "ytcblnckmmlamlaa", sum := "4bab4c677ace763cf997087ca8686ce09f1fb13268a045979a9b1c1b7e5242d0", func := "loop.example/g00971/laws.FnExactUnhex", spec := "fnExactUnhex", apart := false }
def FnExactUnhexSaid : Prop := fnExactUnhexRow.holds Try.pinned (OpenSpec.ofChange fnExactUnhexSpec)

/-- ITS FALSE NEIGHBOUR: 'it returns false'. Refute it at one input. -/
def fnExactUnhexWrong : ChangeSpec := { name := "fnExactUnhex", fn := fun _ => fun
  | [d] => { results := [.lit (.bool false)], args := [d] }
  | _ => none }
def FnExactUnhexWrongFalsely : Prop := fnExactUnhexRow.holds Try.pinned (OpenSpec.ofChange fnExactUnhexWrong)

/-- 'laws.FnExactLinkMore': WHATEVER THE INPUT: true; the input reads as it did. -/
def fnExactLinkMoreSpec : ChangeSpec := { name := "fnExactLinkMore", fn := fun _ => fun
  | [d1, d2] => { results := [.lit (.bool true)], args := [d1, d2] }
  | _ => none }
def fnExactLinkMoreRow : OpenClaim := { program := "ytcblnckmmlamlaa", sum := "4bab4c677ace763cf997087ca8686ce09f1fb13268a045979a9b1c1b7e5242d0", func := "loop.example/g00971/laws.FnExactLinkMore", spec := "fnExactLinkMore", apart := false }
def FnExactLinkMoreSaid : Prop := fnExactLinkMoreRow.holds Try.pinned (OpenSpec.ofChange fnExactLinkMoreSpec)

/-- ITS FALSE NEIGHBOUR: 'it returns false'. Refute it at one input. -/
def fnExactLinkMoreWrong : ChangeSpec := { name := "fnExactLinkMore", fn := fun _ => fun
  | [d1, d2] => { results := [.lit (.bool false)], args := [d1, d2] }
  | _ => none }
def FnExactLinkMoreWrongFalsely : Prop := fnExactLinkMoreRow.holds Try.pinned (OpenSpec.ofChange fnExactLinkMoreWrong)

/-- 'laws.FnExactHeadText': WHATEVER THE INPUT: true; the input reads as it did. -/
def fnExactHeadTextSpec : ChangeSpec := { name := "fnExactHeadText", fn := fun _ => fun
  | [d] => { results := [.lit (.bool true)], args := [d] }
  | _ => none }
def fnExactHeadTextRow : OpenClaim := { program := "ytcblnckmmlamlaa", sum := "4bab4c677ace763cf997087ca8686ce09f1fb13268a045979a9b1c1b7e5242d0", func := "loop.example/g00971/laws.FnExactHeadText", spec := "fnExactHeadText", apart := false }
def FnExactHeadTextSaid : Prop := fnExactHeadTextRow.holds Try.pinned (OpenSpec.ofChange fnExactHeadTextSpec)

/-- ITS FALSE NEIGHBOUR: 'it returns false'. Refute it at one input. -/
def fnExactHeadTextWrong : ChangeSpec := { name := "fnExactHeadText", fn := fun _ => fun
  | [d] => { results := [.lit (.bool false)], args := [d] }
  | _ => none }
def FnExactHeadTextWrongFalsely : Prop := fnExactHeadTextRow.holds Try.pinned (OpenSpec.ofChange fnExactHeadTextWrong)

/-- 'laws.FnExactLinkOf': WHATEVER THE INPUT: true; the input reads as it did. -/
def fnExactLinkOfSpec : ChangeSpec := { name := "fnExactLinkOf", fn := fun _ => fun
  | [d] => { results := [.lit (.bool true)], args := [d] }
  | _ => none }
def fnExactLinkOfRow : OpenClaim := { program := "ytcblnckmmlamlaa", sum := "4bab4c677ace763cf997087ca8686ce09f1fb13268a045979a9b1c1b7e5242d0", func := "loop.example/g00971/laws.FnExactLinkOf", spec := "fnExactLinkOf", apart := false }
def FnExactLinkOfSaid : Prop := fnExactLinkOfRow.holds Try.pinned (OpenSpec.ofChange fnExactLinkOfSpec)

/-- ITS FALSE NEIGHBOUR: 'it returns false'. Refute it at one input. -/
def fnExactLinkOfWrong : ChangeSpec := { name := "fnExactLinkOf", fn := fun _ => fun
  | [d] => { results := [.lit (.bool false)], args := [d] }
  | _ => none }
def FnExactLinkOfWrongFalsely : Prop := fnExactLinkOfRow.holds Try.pinned (OpenSpec.ofChange fnExactLinkOfWrong)

/-- 'laws.FnExactReadVars': WHATEVER THE INPUT: true; the input reads as it did. -/
def fnExactReadVarsSpec : ChangeSpec := { name := "fnExactReadVars", fn := fun _ => fun
  | [d1, d2] => { results := [.lit (.bool true)], args := [d1, d2] }
  | _ => none }
def fnExactReadVarsRow : OpenClaim := { program := "ytcblnckmmlamlaa", sum := "4bab4c677ace763cf997087ca8686ce09f1fb13268a045979a9b1c1b7e5242d0", func := "loop.example/g00971/laws.FnExactReadVars", spec := "fnExactReadVars", apart := false }
def FnExactReadVarsSaid : Prop := fnExactReadVarsRow.holds Try.pinned (OpenSpec.ofChange fnExactReadVarsSpec)

/-- ITS FALSE NEIGHBOUR: 'it returns false'. Refute it at one input. -/
def fnExactReadVarsWrong : ChangeSpec := { name := "fnExactReadVars", fn := fun _ => fun
  | [d1, d2] => { results := [.lit (.bool false)], args := [d1, d2] }
  | _ => none }
def FnExactReadVarsWrongFalsely : Prop := fnExactReadVarsRow.holds Try.pinned (OpenSpec.ofChange fnExactReadVarsWrong)

/-- 'laws.FnSums': WHATEVER THE INPUT: true; the input reads as it did. -/
def fnSumsSpec : ChangeSpec := { name := "fnSums", fn := fun _ => fun
  | [d] => { results := [.lit (.bool true)], args := [d] }
  | _ => none }
def fnSumsRow : OpenClaim := { program := "ytcblnckmmlamlaa", sum := "4bab4c677ace763cf997087ca8686ce09f1fb13268a045979a9b1c1b7e5242d0", func := "loop.example/g00971/laws.FnSums", spec := "fnSums", apart := false }
def FnSumsSaid : Prop := fnSumsRow.holds Try.pinned (OpenSpec.ofChange fnSumsSpec)

/-- ITS FALSE NEIGHBOUR: 'it returns false'. Refute it at one input. -/
def fnSumsWrong : ChangeSpec := { name := "fnSums", fn := fun _ => fun
  | [d] => { results := [.lit (.bool false)], args := [d] }
  | _ => none }
def FnSumsWrongFalsely : Prop := fnSumsRow.holds Try.pinned (OpenSpec.ofChange fnSumsWrong)

/-- 'laws.FnJoined': WHATEVER THE INPUT: true; the input reads as it did. -/
def fnJoinedSpec : ChangeSpec := { name := "fnJoined", fn := fun _ => fun
  | [d] => { results := [.lit (.bool true)], args := [d] }
  | _ => none }
def fnJoinedRow : OpenClaim := { program := "ytcblnckmmlamlaa", sum := "4bab4c677ace763cf997087ca8686ce09f1fb13268a045979a9b1c1b7e5242d0", func := "loop.example/g00971/laws.FnJoined", spec := "fnJoined", apart := false }
def FnJoinedSaid : Prop := fnJoinedRow.holds Try.pinned (OpenSpec.ofChange fnJoinedSpec)

/-- ITS FALSE NEIGHBOUR: 'it returns false'. Refute it at one input. -/
def fnJoinedWrong : ChangeSpec := { name := "fnJoined", fn := fun _ => fun
  | [d] => { results := [.lit (.bool false)], args := [d] }
  | _ => none }
def FnJoinedWrongFalsely : Prop := fnJoinedRow.holds Try.pinned (OpenSpec.ofChange fnJoinedWrong)

/- THE SECOND FORM. 'bulk': how many values and letters a reading holds, each counted each time it is reached (what is shared counts as often as it is met; a slice's spare places count too). A statement '..UptoSaid' is the law's where the arguments, and the package variables that the reading takes, are together of bulk at most 1048576: NARROWER than '..Said'. Prove '..Said' where nothing that the law and all that it calls make is longer than what came in: it says more and counts as full. Else prove '..UptoSaid'. A law counts once. -/
mutual
def uptoBulk {H : Type} : DataW H → Nat
  | .lit (.string bytes) => bytes.length + 1
  | .lit _ => 1
  | .nil => 1
  | .ptr d => uptoBulk d + 1
  | .slice elems spare => uptoBulkAll elems + uptoBulkAll spare + 1
  | .agg parts => uptoBulkAll parts + 1
  | .iface _ d => uptoBulk d + 1
  | .map entries => uptoBulkEntries entries + 1
  | .held _ => 1
def uptoBulkAll {H : Type} : List (DataW H) → Nat
  | [] => 0
  | d :: r => uptoBulk d + uptoBulkAll r
def uptoBulkEntries {H : Type} : List (Lit × DataW H) → Nat
  | [] => 0
  | x :: r => uptoBulkEntry x + uptoBulkEntries r
def uptoBulkEntry {H : Type} : Lit × DataW H → Nat
  | (.string bytes, d) => bytes.length + uptoBulk d + 1
  | (_, d) => uptoBulk d + 1
 end
def uptoSmall : (H : Type) → List (DataW H) → Bool := fun _ ds => decide (uptoBulkAll ds ≤ 1048576)
def OpenSpec.upto (s : _root_.Go.ChangeSpec) : _root_.Go.OpenSpec := { _root_.Go.OpenSpec.ofChange s with cond := some uptoSmall }

/-- 'laws.FnExactSumOf', WHERE WHAT IT READS IS OF BULK AT MOST 1048576: true; the input reads as it did. -/
def fnExactSumOfUptoRow : OpenClaim := { program := "ytcblnckmmlamlaa", sum := "4bab4c677ace763cf997087ca8686ce09f1fb13268a045979a9b1c1b7e5242d0", func := "loop.example/g00971/laws.FnExactSumOf", spec := "fnExactSumOf", apart := false, narrowed := true }
def FnExactSumOfUptoSaid : Prop := fnExactSumOfUptoRow.holds Try.pinned (OpenSpec.upto fnExactSumOfSpec)

/-- 'laws.FnExactTableSum', WHERE WHAT IT READS IS OF BULK AT MOST 1048576: true; the input reads as it did. -/
def fnExactTableSumUptoRow : OpenClaim := { program := "ytcblnckmmlamlaa", sum := "4bab4c677ace763cf997087ca8686ce09f1fb13268a045979a9b1c1b7e5242d0", func := "loop.example/g00971/laws.FnExactTableSum", spec := "fnExactTableSum", apart := false, narrowed := true }
def FnExactTableSumUptoSaid : Prop := fnExactTableSumUptoRow.holds Try.pinned (OpenSpec.upto fnExactTableSumSpec)

/-- 'laws.FnExactReadVar', WHERE WHAT IT READS IS OF BULK AT MOST 1048576: true; the input reads as it did. -/
def fnExactReadVarUptoRow : OpenClaim := { program := "ytcblnckmmlamlaa", sum := "4bab4c677ace763cf997087ca8686ce09f1fb13268a045979a9b1c1b7e5242d0", func := "loop.example/g00971/laws.FnExactReadVar", spec := "fnExactReadVar", apart := false, narrowed := true }
def FnExactReadVarUptoSaid : Prop := fnExactReadVarUptoRow.holds Try.pinned (OpenSpec.upto fnExactReadVarSpec)

/-- 'laws.FnExactSumShift', WHERE WHAT IT READS IS OF BULK AT MOST 1048576: true; the input reads as it did. -/
def fnExactSumShiftUptoRow : OpenClaim := { program := "ytcblnckmmlamlaa", sum := "4bab4c677ace763cf997087ca8686ce09f1fb13268a045979a9b1c1b7e5242d0", func := "loop.example/g00971/laws.FnExactSumShift", spec := "fnExactSumShift", apart := false, narrowed := true }
def FnExactSumShiftUptoSaid : Prop := fnExactSumShiftUptoRow.holds Try.pinned (OpenSpec.upto fnExactSumShiftSpec)

/-- 'laws.FnExactSumJoined', WHERE WHAT IT READS IS OF BULK AT MOST 1048576: true; the input reads as it did. -/
def fnExactSumJoinedUptoRow : OpenClaim := { program := "ytcblnckmmlamlaa", sum := "4bab4c677ace763cf997087ca8686ce09f1fb13268a045979a9b1c1b7e5242d0", func := "loop.example/g00971/laws.FnExactSumJoined", spec := "fnExactSumJoined", apart := false, narrowed := true }
def FnExactSumJoinedUptoSaid : Prop := fnExactSumJoinedUptoRow.holds Try.pinned (OpenSpec.upto fnExactSumJoinedSpec)

/-- 'laws.FnExactUnhex', WHERE WHAT IT READS IS OF BULK AT MOST 1048576: true; the input reads as it did. -/
def fnExactUnhexUptoRow : OpenClaim := { program := "ytcblnckmmlamlaa", sum := "4bab4c677ace763cf997087ca8686ce09f1fb13268a045979a9b1c1b7e5242d0", func := "loop.example/g00971/laws.FnExactUnhex", spec := "fnExactUnhex", apart := false, narrowed := true }
def FnExactUnhexUptoSaid : Prop := fnExactUnhexUptoRow.holds Try.pinned (OpenSpec.upto fnExactUnhexSpec)

/-- 'laws.FnExactLinkMore', WHERE WHAT IT READS IS OF BULK AT MOST 1048576: true; the input reads as it did. -/
def fnExactLinkMoreUptoRow : OpenClaim := { program := "ytcblnckmmlamlaa", sum := "4bab4c677ace763cf997087ca8686ce09f1fb13268a045979a9b1c1b7e5242d0", func := "loop.example/g00971/laws.FnExactLinkMore", spec := "fnExactLinkMore", apart := false, narrowed := true }
def FnExactLinkMoreUptoSaid : Prop := fnExactLinkMoreUptoRow.holds Try.pinned (OpenSpec.upto fnExactLinkMoreSpec)

/-- 'laws.FnExactHeadText', WHERE WHAT IT READS IS OF BULK AT MOST 1048576: true; the input reads as it did. -/
def fnExactHeadTextUptoRow : OpenClaim := { program := "ytcblnckmmlamlaa", sum := "4bab4c677ace763cf997087ca8686ce09f1fb13268a045979a9b1c1b7e5242d0", func := "loop.example/g00971/laws.FnExactHeadText", spec := "fnExactHeadText", apart := false, narrowed := true }
def FnExactHeadTextUptoSaid : Prop := fnExactHeadTextUptoRow.holds Try.pinned (OpenSpec.upto fnExactHeadTextSpec)

/-- 'laws.FnExactLinkOf', WHERE WHAT IT READS IS OF BULK AT MOST 1048576: true; the input reads as it did. -/
def fnExactLinkOfUptoRow : OpenClaim := { program := "ytcblnckmmlamlaa", sum := "4bab4c677ace763cf997087ca8686ce09f1fb13268a045979a9b1c1b7e5242d0", func := "loop.example/g00971/laws.FnExactLinkOf", spec := "fnExactLinkOf", apart := false, narrowed := true }
def FnExactLinkOfUptoSaid : Prop := fnExactLinkOfUptoRow.holds Try.pinned (OpenSpec.upto fnExactLinkOfSpec)

/-- 'laws.FnExactReadVars', WHERE WHAT IT READS IS OF BULK AT MOST 1048576: true; the input reads as it did. -/
def fnExactReadVarsUptoRow : OpenClaim := { program := "ytcblnckmmlamlaa", sum := "4bab4c677ace763cf997087ca8686ce09f1fb13268a045979a9b1c1b7e5242d0", func := "loop.example/g00971/laws.FnExactReadVars", spec := "fnExactReadVars", apart := false, narrowed := true }
def FnExactReadVarsUptoSaid : Prop := fnExactReadVarsUptoRow.holds Try.pinned (OpenSpec.upto fnExactReadVarsSpec)

/-- 'laws.FnSums', WHERE WHAT IT READS IS OF BULK AT MOST 1048576: true; the input reads as it did. -/
def fnSumsUptoRow : OpenClaim := { program := "ytcblnckmmlamlaa", sum := "4bab4c677ace763cf997087ca8686ce09f1fb13268a045979a9b1c1b7e5242d0", func := "loop.example/g00971/laws.FnSums", spec := "fnSums", apart := false, narrowed := true }
def FnSumsUptoSaid : Prop := fnSumsUptoRow.holds Try.pinned (OpenSpec.upto fnSumsSpec)

/-- 'laws.FnJoined', WHERE WHAT IT READS IS OF BULK AT MOST 1048576: true; the input reads as it did. -/
def fnJoinedUptoRow : OpenClaim := { program := "ytcblnckmmlamlaa", sum := "4bab4c677ace763cf997087ca8686ce09f1fb13268a045979a9b1c1b7e5242d0", func := "loop.example/g00971/laws.FnJoined", spec := "fnJoined", apart := false, narrowed := true }
def FnJoinedUptoSaid : Prop := fnJoinedUptoRow.holds Try.pinned (OpenSpec.upto fnJoinedSpec)

end Rows
end Go.Proofs.Ytcblnckmmlamlaa
