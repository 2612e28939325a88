/-
  No cell of these rows narrows 'for every input' (looked for: loops, veiled, ifaces, maps, wideKeys, modest, calm, conditions, laid).
  DERIVED. THE GIVEN ROWS OF THIS SEAT. 12 by the template 'for every input the law returns true; each argument reads behind the call as it read before'; 0 by the template 'total and deterministic' (their statements: YtmmjiladgdmgjaaTotals.lean).
  GIVEN WITH THE SEED: the statements are not yours to turn. If you find one false, say at which input.
  Laid BY PROGRAM, IN A SANDBOX (cutbox-rows.mjs): the forced cells as the released guide's own fill.sh prints them over the translation b198401f7f8c7ef6… (all of the seat's roots in one cut). By AI agents, Wed Nov 11 2026. No macro, syntax, notation, axiom, sorry.
-/
import Derived.Test.YtmmjiladgdmgjaaChecked
import GoSem.Claim
import GoSem.ClaimJoined
import GoSem.ClaimMapViews
import Derived.JoinedTies
import Derived.KernelRfl
namespace Go.Proofs.Ytmmjiladgdmgjaa
/- THE CELL 'sum', in the pinned program and in every row, IS THE sha256 OF THE DUMP (.gsa) THAT YtmmjiladgdmgjaaProg.lean LOADS. Nothing in Lean hashes anything: it is a label: what it is worth is what the hold of that sum in a sandbox is worth. -/
noncomputable def Try.pinned : Pinned := { name := "ytmmjiladgdmgjaa", sum := "b198401f7f8c7ef60008ac7036d7537759202979833940dd8f44189b15268a19", checked := Try.checked }
namespace Rows
def none {H : Type} : Left H := { results := [], args := [] }

/-- 'laws.FnExactConstants': WHATEVER THE INPUT: true; the input reads as it did. -/
def fnExactConstantsSpec : ChangeSpec := { name := "fnExactConstants", fn := fun _ => fun
  | [] => { results := [.lit (.bool true)], args := [] }
  | _ => none }
def fnExactConstantsRow : OpenClaim := { program := "ytmmjiladgdmgjaa", sum := "b198401f7f8c7ef60008ac7036d7537759202979833940dd8f44189b15268a19", func := "loop.example/g00971/laws.FnExactConstants", spec := "fnExactConstants", apart := false }
def FnExactConstantsSaid : Prop := fnExactConstantsRow.holds Try.pinned (OpenSpec.ofChange fnExactConstantsSpec)

/-- ITS FALSE NEIGHBOUR: 'it returns false'. Refute it at one input. -/
def fnExactConstantsWrong : ChangeSpec := { name := "fnExactConstants", fn := fun _ => fun
  | [] => { results := [.lit (.bool false)], args := [] }
  | _ => none }
def FnExactConstantsWrongFalsely : Prop := fnExactConstantsRow.holds Try.pinned (OpenSpec.ofChange fnExactConstantsWrong)

/-- 'laws.FnExactBrought': WHATEVER THE INPUT: true; the input reads as it did. -/
def fnExactBroughtSpec : ChangeSpec := { name := "fnExactBrought", fn := fun _ => fun
  | [d1, d2, d3] => { results := [.lit (.bool true)], args := [d1, d2, d3] }
  | _ => none }
def fnExactBroughtRow : OpenClaim := { program := "ytmmjiladgdmgjaa", sum := "b198401f7f8c7ef60008ac7036d7537759202979833940dd8f44189b15268a19", func := "loop.example/g00971/laws.FnExactBrought", spec := "fnExactBrought", apart := false }
def FnExactBroughtSaid : Prop := fnExactBroughtRow.holds Try.pinned (OpenSpec.ofChange fnExactBroughtSpec)

/-- ITS FALSE NEIGHBOUR: 'it returns false'. Refute it at one input. -/
def fnExactBroughtWrong : ChangeSpec := { name := "fnExactBrought", fn := fun _ => fun
  | [d1, d2, d3] => { results := [.lit (.bool false)], args := [d1, d2, d3] }
  | _ => none }
def FnExactBroughtWrongFalsely : Prop := fnExactBroughtRow.holds Try.pinned (OpenSpec.ofChange fnExactBroughtWrong)

/-- 'laws.FnExactHeadOk': WHATEVER THE INPUT: true; the input reads as it did. -/
def fnExactHeadOkSpec : ChangeSpec := { name := "fnExactHeadOk", fn := fun _ => fun
  | [d] => { results := [.lit (.bool true)], args := [d] }
  | _ => none }
def fnExactHeadOkRow : OpenClaim := { program := "ytmmjiladgdmgjaa", sum := "b198401f7f8c7ef60008ac7036d7537759202979833940dd8f44189b15268a19", func := "loop.example/g00971/laws.FnExactHeadOk", spec := "fnExactHeadOk", apart := false }
def FnExactHeadOkSaid : Prop := fnExactHeadOkRow.holds Try.pinned (OpenSpec.ofChange fnExactHeadOkSpec)

/-- ITS FALSE NEIGHBOUR: 'it returns false'. Refute it at one input. -/
def fnExactHeadOkWrong : ChangeSpec := { name := "fnExactHeadOk", fn := fun _ => fun
  | [d] => { results := [.lit (.bool false)], args := [d] }
  | _ => none }
def FnExactHeadOkWrongFalsely : Prop := fnExactHeadOkRow.holds Try.pinned (OpenSpec.ofChange fnExactHeadOkWrong)

/-- 'laws.FnExactNameOk': WHATEVER THE INPUT: true; the input reads as it did. -/
def fnExactNameOkSpec : ChangeSpec := { name := "fnExactNameOk", fn := fun _ => fun
  | [d] => { results := [.lit (.bool true)], args := [d] }
  | _ => none }
def fnExactNameOkRow : OpenClaim := { program := "ytmmjiladgdmgjaa", sum := "b198401f7f8c7ef60008ac7036d7537759202979833940dd8f44189b15268a19", func := "loop.example/g00971/laws.FnExactNameOk", spec := "fnExactNameOk", apart := false }
def FnExactNameOkSaid : Prop := fnExactNameOkRow.holds Try.pinned (OpenSpec.ofChange fnExactNameOkSpec)

/-- ITS FALSE NEIGHBOUR: 'it returns false'. Refute it at one input. -/
def fnExactNameOkWrong : ChangeSpec := { name := "fnExactNameOk", fn := fun _ => fun
  | [d] => { results := [.lit (.bool false)], args := [d] }
  | _ => none }
def FnExactNameOkWrongFalsely : Prop := fnExactNameOkRow.holds Try.pinned (OpenSpec.ofChange fnExactNameOkWrong)

/-- 'laws.FnExactSumByte': WHATEVER THE INPUT: true; the input reads as it did. -/
def fnExactSumByteSpec : ChangeSpec := { name := "fnExactSumByte", fn := fun _ => fun
  | [d1, d2] => { results := [.lit (.bool true)], args := [d1, d2] }
  | _ => none }
def fnExactSumByteRow : OpenClaim := { program := "ytmmjiladgdmgjaa", sum := "b198401f7f8c7ef60008ac7036d7537759202979833940dd8f44189b15268a19", func := "loop.example/g00971/laws.FnExactSumByte", spec := "fnExactSumByte", apart := false }
def FnExactSumByteSaid : Prop := fnExactSumByteRow.holds Try.pinned (OpenSpec.ofChange fnExactSumByteSpec)

/-- ITS FALSE NEIGHBOUR: 'it returns false'. Refute it at one input. -/
def fnExactSumByteWrong : ChangeSpec := { name := "fnExactSumByte", fn := fun _ => fun
  | [d1, d2] => { results := [.lit (.bool false)], args := [d1, d2] }
  | _ => none }
def FnExactSumByteWrongFalsely : Prop := fnExactSumByteRow.holds Try.pinned (OpenSpec.ofChange fnExactSumByteWrong)

/-- 'laws.FnExactVarText': WHATEVER THE INPUT: true; the input reads as it did. -/
def fnExactVarTextSpec : ChangeSpec := { name := "fnExactVarText", fn := fun _ => fun
  | [d] => { results := [.lit (.bool true)], args := [d] }
  | _ => none }
def fnExactVarTextRow : OpenClaim := { program := "ytmmjiladgdmgjaa", sum := "b198401f7f8c7ef60008ac7036d7537759202979833940dd8f44189b15268a19", func := "loop.example/g00971/laws.FnExactVarText", spec := "fnExactVarText", apart := false }
def FnExactVarTextSaid : Prop := fnExactVarTextRow.holds Try.pinned (OpenSpec.ofChange fnExactVarTextSpec)

/-- ITS FALSE NEIGHBOUR: 'it returns false'. Refute it at one input. -/
def fnExactVarTextWrong : ChangeSpec := { name := "fnExactVarText", fn := fun _ => fun
  | [d] => { results := [.lit (.bool false)], args := [d] }
  | _ => none }
def FnExactVarTextWrongFalsely : Prop := fnExactVarTextRow.holds Try.pinned (OpenSpec.ofChange fnExactVarTextWrong)

/-- 'laws.FnExactFixText': WHATEVER THE INPUT: true; the input reads as it did. -/
def fnExactFixTextSpec : ChangeSpec := { name := "fnExactFixText", fn := fun _ => fun
  | [d1, d2] => { results := [.lit (.bool true)], args := [d1, d2] }
  | _ => none }
def fnExactFixTextRow : OpenClaim := { program := "ytmmjiladgdmgjaa", sum := "b198401f7f8c7ef60008ac7036d7537759202979833940dd8f44189b15268a19", func := "loop.example/g00971/laws.FnExactFixText", spec := "fnExactFixText", apart := false }
def FnExactFixTextSaid : Prop := fnExactFixTextRow.holds Try.pinned (OpenSpec.ofChange fnExactFixTextSpec)

/-- ITS FALSE NEIGHBOUR: 'it returns false'. Refute it at one input. -/
def fnExactFixTextWrong : ChangeSpec := { name := "fnExactFixText", fn := fun _ => fun
  | [d1, d2] => { results := [.lit (.bool false)], args := [d1, d2] }
  | _ => none }
def FnExactFixTextWrongFalsely : Prop := fnExactFixTextRow.holds Try.pinned (OpenSpec.ofChange fnExactFixTextWrong)

/-- 'laws.FnExactVarSize': WHATEVER THE INPUT: true; the input reads as it did. -/
def fnExactVarSizeSpec : ChangeSpec := { name := "fnExactVarSize", fn := fun _ => fun
  | [d] => { results := [.lit (.bool true)], args := [d] }
  | _ => none }
def fnExactVarSizeRow : OpenClaim := { program := "ytmmjiladgdmgjaa", sum := "b198401f7f8c7ef60008ac7036d7537759202979833940dd8f44189b15268a19", func := "loop.example/g00971/laws.FnExactVarSize", spec := "fnExactVarSize", apart := false }
def FnExactVarSizeSaid : Prop := fnExactVarSizeRow.holds Try.pinned (OpenSpec.ofChange fnExactVarSizeSpec)

/-- ITS FALSE NEIGHBOUR: 'it returns false'. Refute it at one input. -/
def fnExactVarSizeWrong : ChangeSpec := { name := "fnExactVarSize", fn := fun _ => fun
  | [d] => { results := [.lit (.bool false)], args := [d] }
  | _ => none }
def FnExactVarSizeWrongFalsely : Prop := fnExactVarSizeRow.holds Try.pinned (OpenSpec.ofChange fnExactVarSizeWrong)

/-- 'laws.FnExactReadFix': WHATEVER THE INPUT: true; the input reads as it did. -/
def fnExactReadFixSpec : ChangeSpec := { name := "fnExactReadFix", fn := fun _ => fun
  | [d1, d2, d3] => { results := [.lit (.bool true)], args := [d1, d2, d3] }
  | _ => none }
def fnExactReadFixRow : OpenClaim := { program := "ytmmjiladgdmgjaa", sum := "b198401f7f8c7ef60008ac7036d7537759202979833940dd8f44189b15268a19", func := "loop.example/g00971/laws.FnExactReadFix", spec := "fnExactReadFix", apart := false }
def FnExactReadFixSaid : Prop := fnExactReadFixRow.holds Try.pinned (OpenSpec.ofChange fnExactReadFixSpec)

/-- ITS FALSE NEIGHBOUR: 'it returns false'. Refute it at one input. -/
def fnExactReadFixWrong : ChangeSpec := { name := "fnExactReadFix", fn := fun _ => fun
  | [d1, d2, d3] => { results := [.lit (.bool false)], args := [d1, d2, d3] }
  | _ => none }
def FnExactReadFixWrongFalsely : Prop := fnExactReadFixRow.holds Try.pinned (OpenSpec.ofChange fnExactReadFixWrong)

/-- 'laws.FnExactHex': WHATEVER THE INPUT: true; the input reads as it did. -/
def fnExactHexSpec : ChangeSpec := { name := "fnExactHex", fn := fun _ => fun
  | [d] => { results := [.lit (.bool true)], args := [d] }
  | _ => none }
def fnExactHexRow : OpenClaim := { program := "ytmmjiladgdmgjaa", sum := "b198401f7f8c7ef60008ac7036d7537759202979833940dd8f44189b15268a19", func := "loop.example/g00971/laws.FnExactHex", spec := "fnExactHex", apart := false }
def FnExactHexSaid : Prop := fnExactHexRow.holds Try.pinned (OpenSpec.ofChange fnExactHexSpec)

/-- ITS FALSE NEIGHBOUR: 'it returns false'. Refute it at one input. -/
def fnExactHexWrong : ChangeSpec := { name := "fnExactHex", fn := fun _ => fun
  | [d] => { results := [.lit (.bool false)], args := [d] }
  | _ => none }
def FnExactHexWrongFalsely : Prop := fnExactHexRow.holds Try.pinned (OpenSpec.ofChange fnExactHexWrong)

/-- 'laws.FnExactSumMore': WHATEVER THE INPUT: true; the input reads as it did. -/
def fnExactSumMoreSpec : ChangeSpec := { name := "fnExactSumMore", fn := fun _ => fun
  | [d1, d2] => { results := [.lit (.bool true)], args := [d1, d2] }
  | _ => none }
def fnExactSumMoreRow : OpenClaim := { program := "ytmmjiladgdmgjaa", sum := "b198401f7f8c7ef60008ac7036d7537759202979833940dd8f44189b15268a19", func := "loop.example/g00971/laws.FnExactSumMore", spec := "fnExactSumMore", apart := false }
def FnExactSumMoreSaid : Prop := fnExactSumMoreRow.holds Try.pinned (OpenSpec.ofChange fnExactSumMoreSpec)

/-- ITS FALSE NEIGHBOUR: 'it returns false'. Refute it at one input. -/
def fnExactSumMoreWrong : ChangeSpec := { name := "fnExactSumMore", fn := fun _ => fun
  | [d1, d2] => { results := [.lit (.bool false)], args := [d1, d2] }
  | _ => none }
def FnExactSumMoreWrongFalsely : Prop := fnExactSumMoreRow.holds Try.pinned (OpenSpec.ofChange fnExactSumMoreWrong)

/-- 'laws.FnExactTableAt': WHATEVER THE INPUT: true; the input reads as it did. -/
def fnExactTableAtSpec : ChangeSpec := { name := "fnExactTableAt", fn := fun _ => fun
  | [d] => { results := [.lit (.bool true)], args := [d] }
  | _ => none }
def fnExactTableAtRow : OpenClaim := { program := "ytmmjiladgdmgjaa", sum := "b198401f7f8c7ef60008ac7036d7537759202979833940dd8f44189b15268a19", func := "loop.example/g00971/laws.FnExactTableAt", spec := "fnExactTableAt", apart := false }
def FnExactTableAtSaid : Prop := fnExactTableAtRow.holds Try.pinned (OpenSpec.ofChange fnExactTableAtSpec)

/-- ITS FALSE NEIGHBOUR: 'it returns false'. Refute it at one input. -/
def fnExactTableAtWrong : ChangeSpec := { name := "fnExactTableAt", fn := fun _ => fun
  | [d] => { results := [.lit (.bool false)], args := [d] }
  | _ => none }
def FnExactTableAtWrongFalsely : Prop := fnExactTableAtRow.holds Try.pinned (OpenSpec.ofChange fnExactTableAtWrong)

/- THE SECOND FORM. 'bulk': how many values and letters a reading holds, each counted each time it is reached (what is shared counts as often as it is met; a slice's spare places count too). A statement '..UptoSaid' is the law's where the arguments, and the package variables that the reading takes, are together of bulk at most 1048576: NARROWER than '..Said'. Prove '..Said' where nothing that the law and all that it calls make is longer than what came in: it says more and counts as full. Else prove '..UptoSaid'. A law counts once. -/
mutual
def uptoBulk {H : Type} : DataW H → Nat
  | .lit (.string bytes) => bytes.length + 1
  | .lit _ => 1
  | .nil => 1
  | .ptr d => uptoBulk d + 1
  | .slice elems spare => uptoBulkAll elems + uptoBulkAll spare + 1
  | .agg parts => uptoBulkAll parts + 1
  | .iface _ d => uptoBulk d + 1
  | .map entries => uptoBulkEntries entries + 1
  | .held _ => 1
def uptoBulkAll {H : Type} : List (DataW H) → Nat
  | [] => 0
  | d :: r => uptoBulk d + uptoBulkAll r
def uptoBulkEntries {H : Type} : List (Lit × DataW H) → Nat
  | [] => 0
  | x :: r => uptoBulkEntry x + uptoBulkEntries r
def uptoBulkEntry {H : Type} : Lit × DataW H → Nat
  | (.string bytes, d) => bytes.length + uptoBulk d + 1
  | (_, d) => uptoBulk d + 1
 end
def uptoSmall : (H : Type) → List (DataW H) → Bool := fun _ ds => decide (uptoBulkAll ds ≤ 1048576)
def OpenSpec.upto (s : _root_.Go.ChangeSpec) : _root_.Go.OpenSpec := { _root_.Go.OpenSpec.ofChange s with cond := some uptoSmall }

/-- 'laws.FnExactConstants', WHERE WHAT IT READS IS OF BULK AT MOST 1048576: true; the input reads as it did. -/
def fnExactConstantsUptoRow : OpenClaim := { program := "ytmmjiladgdmgjaa", sum := "b198401f7f8c7ef60008ac7036d7537759202979833940dd8f44189b15268a19", func := "loop.example/g00971/laws.FnExactConstants", spec := "fnExactConstants", apart := false, narrowed := true }
def FnExactConstantsUptoSaid : Prop := fnExactConstantsUptoRow.holds Try.pinned (OpenSpec.upto fnExactConstantsSpec)

/-- 'laws.FnExactBrought', WHERE WHAT IT READS IS OF BULK AT MOST 1048576: true; the input reads as it did. -/
def fnExactBroughtUptoRow : OpenClaim := { program := "ytmmjiladgdmgjaa", sum := "b198401f7f8c7ef60008ac7036d7537759202979833940dd8f44189b15268a19", func := "loop.example/g00971/laws.FnExactBrought", spec := "fnExactBrought", apart := false, narrowed := true }
def FnExactBroughtUptoSaid : Prop := fnExactBroughtUptoRow.holds Try.pinned (OpenSpec.upto fnExactBroughtSpec)

/-- 'laws.FnExactHeadOk', WHERE WHAT IT READS IS OF BULK AT MOST 1048576: true; the input reads as it did. -/
def fnExactHeadOkUptoRow : OpenClaim := { program := "ytmmjiladgdmgjaa", sum := "b198401f7f8c7ef60008ac7036d7537759202979833940dd8f44189b15268a19", func := "loop.example/g00971/laws.FnExactHeadOk", spec := "fnExactHeadOk", apart := false, narrowed := true }
def FnExactHeadOkUptoSaid : Prop := fnExactHeadOkUptoRow.holds Try.pinned (OpenSpec.upto fnExactHeadOkSpec)

/-- 'laws.FnExactNameOk', WHERE WHAT IT READS IS OF BULK AT MOST 1048576: true; the input reads as it did. -/
def fnExactNameOkUptoRow : OpenClaim := { program := "ytmmjiladgdmgjaa", sum := "b198401f7f8c7ef60008ac7036d7537759202979833940dd8f44189b15268a19", func := "loop.example/g00971/laws.FnExactNameOk", spec := "fnExactNameOk", apart := false, narrowed := true }
def FnExactNameOkUptoSaid : Prop := fnExactNameOkUptoRow.holds Try.pinned (OpenSpec.upto fnExactNameOkSpec)

/-- 'laws.FnExactSumByte', WHERE WHAT IT READS IS OF BULK AT MOST 1048576: true; the input reads as it did. -/
def fnExactSumByteUptoRow : OpenClaim := { program := "ytmmjiladgdmgjaa", sum := "b198401f7f8c7ef60008ac7036d7537759202979833940dd8f44189b15268a19", func := "loop.example/g00971/laws.FnExactSumByte", spec := "fnExactSumByte", apart := false, narrowed := true }
def FnExactSumByteUptoSaid : Prop := fnExactSumByteUptoRow.holds Try.pinned (OpenSpec.upto fnExactSumByteSpec)

/-- 'laws.FnExactVarText', WHERE WHAT IT READS IS OF BULK AT MOST 1048576: true; the input reads as it did. -/
def fnExactVarTextUptoRow : OpenClaim := { program := "ytmmjiladgdmgjaa", sum := "b198401f7f8c7ef60008ac7036d7537759202979833940dd8f44189b15268a19", func := "loop.example/g00971/laws.FnExactVarText", spec := "fnExactVarText", apart := false, narrowed := true }
def FnExactVarTextUptoSaid : Prop := fnExactVarTextUptoRow.holds Try.pinned (OpenSpec.upto fnExactVarTextSpec)

/-- 'laws.FnExactFixText', WHERE WHAT IT READS IS OF BULK AT MOST 1048576: true; the input reads as it did. -/
def fnExactFixTextUptoRow : OpenClaim := { program := "ytmmjiladgdmgjaa", sum := "b198401f7f8c7ef60008ac7036d7537759202979833940dd8f44189b15268a19", func := "loop.example/g00971/laws.FnExactFixText", spec := "fnExactFixText", apart := false, narrowed := true }
def FnExactFixTextUptoSaid : Prop := fnExactFixTextUptoRow.holds Try.pinned (OpenSpec.upto fnExactFixTextSpec)

/-- 'laws.FnExactVarSize', WHERE WHAT IT READS IS OF BULK AT MOST 1048576: true; the input reads as it did. -/
def fnExactVarSizeUptoRow : OpenClaim := { program := "ytmmjiladgdmgjaa", sum := "b198401f7f8c7ef60008ac7036d7537759202979833940dd8f44189b15268a19", func := "loop.example/g00971/laws.FnExactVarSize", spec := "fnExactVarSize", apart := false, narrowed := true }
def FnExactVarSizeUptoSaid : Prop := fnExactVarSizeUptoRow.holds Try.pinned (OpenSpec.upto fnExactVarSizeSpec)

/-- 'laws.FnExactReadFix', WHERE WHAT IT READS IS OF BULK AT MOST 1048576: true; the input reads as it did. -/
def fnExactReadFixUptoRow : OpenClaim := { program := "ytmmjiladgdmgjaa", sum := "b198401f7f8c7ef60008ac7036d7537759202979833940dd8f44189b15268a19", func := "loop.example/g00971/laws.FnExactReadFix", spec := "fnExactReadFix", apart := false, narrowed := true }
def FnExactReadFixUptoSaid : Prop := fnExactReadFixUptoRow.holds Try.pinned (OpenSpec.upto fnExactReadFixSpec)

/-- 'laws.FnExactHex', WHERE WHAT IT READS IS OF BULK AT MOST 1048576: true; the input reads as it did. -/
def fnExactHexUptoRow : OpenClaim := { program := "ytmmjiladgdmgjaa", sum := "b198401f7f8c7ef60008ac7036d7537759202979833940dd8f44189b15268a19", func := "loop.example/g00971/laws.FnExactHex", spec := "fnExactHex", apart := false, narrowed := true }
def FnExactHexUptoSaid : Prop := fnExactHexUptoRow.holds Try.pinned (OpenSpec.upto fnExactHexSpec)

/-- 'laws.FnExactSumMore', WHERE WHAT IT READS IS OF BULK AT MOST 1048576: true; the input reads as it did. -/
def fnExactSumMoreUptoRow : OpenClaim := { program := "ytmmjiladgdmgjaa", sum := "b198401f7f8c7ef60008ac7036d7537759202979833940dd8f44189b15268a19", func := "loop.example/g00971/laws.FnExactSumMore", spec := "fnExactSumMore", apart := false, narrowed := true }
def FnExactSumMoreUptoSaid : Prop := fnExactSumMoreUptoRow.holds Try.pinned (OpenSpec.upto fnExactSumMoreSpec)

/-- 'laws.FnExactTableAt', WHERE WHAT IT READS IS OF BULK AT MOST 1048576: true; the input reads as it did. -/
def fnExactTableAtUptoRow : OpenClaim := { program := "ytmmjiladgdmgjaa", sum := "b198401f7f8c7ef60008ac7036d7537759202979833940dd8f44189b15268a19", func := "loop.example/g00971/laws.FnExactTableAt", spec := "fnExactTableAt", apart := false, narrowed := true }
def FnExactTableAtUptoSaid : Prop := fnExactTableAtUptoRow.holds Try.pinned (OpenSpec.upto fnExactTableAtSpec)

end Rows
end Go.Proofs.Ytmmjiladgdmgjaa
