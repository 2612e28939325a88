/-
  DERIVED. GIVEN WITH THE SEED: THE CARDS: each row of YtfnogfbmieoljaaDoorRows.lean that lists a variable, with what it lists TIED to the program's text (the seventh form; the later family's looks); each row that meets fmt, with fmt's text TOLD by the authors' own Lean function (tested against real Go, not proved from fmt's source: count such statements apart). THE CARD IS WHAT COUNTS. Prove the row's statement (the work); the ties are given (YtfnogfbmieoljaaDoorTie.lean); close each card by the builder's one call (the guide's Derived/Test/ToyasCard.lean, 'card_holds'). Laid BY PROGRAM, IN A SANDBOX (cutbox-door.mjs). By AI agents, Wed Nov 11 2026. No macro, syntax, notation, axiom, sorry.
-/
import Derived.Test.YtfnogfbmieoljaaDoorRows
import GoSem.ClaimSeven
namespace Go.Proofs.YtfnogfbmieoljaaDoor
namespace Rows

/-- THE TIED CARD OF 'laws.FnExactDecimal'. -/
def fnExactDecimalCard : Claim7 := { stood := { row := fnExactDecimalRow, standIns := [], harness := (true, "ddd47260c343385842139325646c2d68491d201ed40f86905b76ceccd007130f"), looks := true }, kinds := [], alts := [], laidByText := true, laidKinds := [.data, .data, .data], laidTests := true, laidLooks := .later }
def FnExactDecimalCardSaid : Prop := Claim7.holds Tryd.pinned (.plain (OpenSpec.ofChange fnExactDecimalSpec)) fnExactDecimalCard

/-- THE TIED CARD OF 'laws.FnExactSegmentName'. -/
def fnExactSegmentNameCard : Claim7 := { stood := { row := fnExactSegmentNameRow, standIns := [], harness := (true, "ddd47260c343385842139325646c2d68491d201ed40f86905b76ceccd007130f"), looks := true }, kinds := [], alts := [], laidByText := true, laidKinds := [.data, .data, .data], laidTests := true, laidLooks := .later }
def FnExactSegmentNameCardSaid : Prop := Claim7.holds Tryd.pinned (.plain (OpenSpec.ofChange fnExactSegmentNameSpec)) fnExactSegmentNameCard

/-- THE TIED CARD OF 'laws.FnExactNextName'. -/
def fnExactNextNameCard : Claim7 := { stood := { row := fnExactNextNameRow, standIns := [], harness := (true, "ddd47260c343385842139325646c2d68491d201ed40f86905b76ceccd007130f"), looks := true }, kinds := [], alts := [], laidByText := true, laidKinds := [.data, .data, .data], laidTests := true, laidLooks := .later }
def FnExactNextNameCardSaid : Prop := Claim7.holds Tryd.pinned (.plain (OpenSpec.ofChange fnExactNextNameSpec)) fnExactNextNameCard

/-- THE TIED CARD OF 'laws.FnExactTempName'. -/
def fnExactTempNameCard : Claim7 := { stood := { row := fnExactTempNameRow, standIns := [], harness := (true, "ddd47260c343385842139325646c2d68491d201ed40f86905b76ceccd007130f"), looks := true }, kinds := [], alts := [], laidByText := true, laidKinds := [.data, .data, .data], laidTests := true, laidLooks := .later }
def FnExactTempNameCardSaid : Prop := Claim7.holds Tryd.pinned (.plain (OpenSpec.ofChange fnExactTempNameSpec)) fnExactTempNameCard

/-- THE TIED CARD OF 'laws.FnExactReadDecimal'. -/
def fnExactReadDecimalCard : Claim7 := { stood := { row := fnExactReadDecimalRow, standIns := [], harness := (true, "ddd47260c343385842139325646c2d68491d201ed40f86905b76ceccd007130f"), looks := true }, kinds := [], alts := [], laidByText := true, laidKinds := [.data, .data, .data, .sentinel, .sentinel], laidTests := true, laidLooks := .later }
def FnExactReadDecimalCardSaid : Prop := Claim7.holds Tryd.pinned (.plain (OpenSpec.ofChange fnExactReadDecimalSpec)) fnExactReadDecimalCard

/-- THE TIED CARD OF 'laws.FnFigures'. -/
def fnFiguresCard : Claim7 := { stood := { row := fnFiguresRow, standIns := [], harness := (true, "ddd47260c343385842139325646c2d68491d201ed40f86905b76ceccd007130f"), looks := true }, kinds := [], alts := [], laidByText := true, laidKinds := [.data, .data, .data, .sentinel, .sentinel], laidTests := true, laidLooks := .later }
def FnFiguresCardSaid : Prop := Claim7.holds Tryd.pinned (.plain (OpenSpec.ofChange fnFiguresSpec)) fnFiguresCard

/-- THE TIED CARD OF 'laws.FnExactReadName'. -/
def fnExactReadNameCard : Claim7 := { stood := { row := fnExactReadNameRow, standIns := [], harness := (true, "ddd47260c343385842139325646c2d68491d201ed40f86905b76ceccd007130f"), looks := true }, kinds := [], alts := [], laidByText := true, laidKinds := [.data, .data, .data, .sentinel, .sentinel], laidTests := true, laidLooks := .later }
def FnExactReadNameCardSaid : Prop := Claim7.holds Tryd.pinned (.plain (OpenSpec.ofChange fnExactReadNameSpec)) fnExactReadNameCard

/-- THE TIED CARD OF 'laws.FnNames'. -/
def fnNamesCard : Claim7 := { stood := { row := fnNamesRow, standIns := [], harness := (true, "ddd47260c343385842139325646c2d68491d201ed40f86905b76ceccd007130f"), looks := true }, kinds := [], alts := [], laidByText := true, laidKinds := [.data, .data, .data, .sentinel, .sentinel], laidTests := true, laidLooks := .later }
def FnNamesCardSaid : Prop := Claim7.holds Tryd.pinned (.plain (OpenSpec.ofChange fnNamesSpec)) fnNamesCard

/-- THE SECOND FORM's CARD OF 'laws.FnExactDecimal'. -/
def fnExactDecimalUptoCard : Claim7 := { stood := { row := fnExactDecimalUptoRow, standIns := [], harness := (true, "ddd47260c343385842139325646c2d68491d201ed40f86905b76ceccd007130f"), looks := true }, kinds := [], alts := [], laidByText := true, laidKinds := [.data, .data, .data], laidTests := true, laidLooks := .later }
def FnExactDecimalUptoCardSaid : Prop := Claim7.holds Tryd.pinned (.plain (OpenSpec.upto fnExactDecimalSpec)) fnExactDecimalUptoCard

/-- THE SECOND FORM's CARD OF 'laws.FnExactSegmentName'. -/
def fnExactSegmentNameUptoCard : Claim7 := { stood := { row := fnExactSegmentNameUptoRow, standIns := [], harness := (true, "ddd47260c343385842139325646c2d68491d201ed40f86905b76ceccd007130f"), looks := true }, kinds := [], alts := [], laidByText := true, laidKinds := [.data, .data, .data], laidTests := true, laidLooks := .later }
def FnExactSegmentNameUptoCardSaid : Prop := Claim7.holds Tryd.pinned (.plain (OpenSpec.upto fnExactSegmentNameSpec)) fnExactSegmentNameUptoCard

/-- THE SECOND FORM's CARD OF 'laws.FnExactNextName'. -/
def fnExactNextNameUptoCard : Claim7 := { stood := { row := fnExactNextNameUptoRow, standIns := [], harness := (true, "ddd47260c343385842139325646c2d68491d201ed40f86905b76ceccd007130f"), looks := true }, kinds := [], alts := [], laidByText := true, laidKinds := [.data, .data, .data], laidTests := true, laidLooks := .later }
def FnExactNextNameUptoCardSaid : Prop := Claim7.holds Tryd.pinned (.plain (OpenSpec.upto fnExactNextNameSpec)) fnExactNextNameUptoCard

/-- THE SECOND FORM's CARD OF 'laws.FnExactTempName'. -/
def fnExactTempNameUptoCard : Claim7 := { stood := { row := fnExactTempNameUptoRow, standIns := [], harness := (true, "ddd47260c343385842139325646c2d68491d201ed40f86905b76ceccd007130f"), looks := true }, kinds := [], alts := [], laidByText := true, laidKinds := [.data, .data, .data], laidTests := true, laidLooks := .later }
def FnExactTempNameUptoCardSaid : Prop := Claim7.holds Tryd.pinned (.plain (OpenSpec.upto fnExactTempNameSpec)) fnExactTempNameUptoCard

/-- THE SECOND FORM's CARD OF 'laws.FnExactReadDecimal'. -/
def fnExactReadDecimalUptoCard : Claim7 := { stood := { row := fnExactReadDecimalUptoRow, standIns := [], harness := (true, "ddd47260c343385842139325646c2d68491d201ed40f86905b76ceccd007130f"), looks := true }, kinds := [], alts := [], laidByText := true, laidKinds := [.data, .data, .data, .sentinel, .sentinel], laidTests := true, laidLooks := .later }
def FnExactReadDecimalUptoCardSaid : Prop := Claim7.holds Tryd.pinned (.plain (OpenSpec.upto fnExactReadDecimalSpec)) fnExactReadDecimalUptoCard

/-- THE SECOND FORM's CARD OF 'laws.FnFigures'. -/
def fnFiguresUptoCard : Claim7 := { stood := { row := fnFiguresUptoRow, standIns := [], harness := (true, "ddd47260c343385842139325646c2d68491d201ed40f86905b76ceccd007130f"), looks := true }, kinds := [], alts := [], laidByText := true, laidKinds := [.data, .data, .data, .sentinel, .sentinel], laidTests := true, laidLooks := .later }
def FnFiguresUptoCardSaid : Prop := Claim7.holds Tryd.pinned (.plain (OpenSpec.upto fnFiguresSpec)) fnFiguresUptoCard

/-- THE SECOND FORM's CARD OF 'laws.FnExactReadName'. -/
def fnExactReadNameUptoCard : Claim7 := { stood := { row := fnExactReadNameUptoRow, standIns := [], harness := (true, "ddd47260c343385842139325646c2d68491d201ed40f86905b76ceccd007130f"), looks := true }, kinds := [], alts := [], laidByText := true, laidKinds := [.data, .data, .data, .sentinel, .sentinel], laidTests := true, laidLooks := .later }
def FnExactReadNameUptoCardSaid : Prop := Claim7.holds Tryd.pinned (.plain (OpenSpec.upto fnExactReadNameSpec)) fnExactReadNameUptoCard

/-- THE SECOND FORM's CARD OF 'laws.FnNames'. -/
def fnNamesUptoCard : Claim7 := { stood := { row := fnNamesUptoRow, standIns := [], harness := (true, "ddd47260c343385842139325646c2d68491d201ed40f86905b76ceccd007130f"), looks := true }, kinds := [], alts := [], laidByText := true, laidKinds := [.data, .data, .data, .sentinel, .sentinel], laidTests := true, laidLooks := .later }
def FnNamesUptoCardSaid : Prop := Claim7.holds Tryd.pinned (.plain (OpenSpec.upto fnNamesSpec)) fnNamesUptoCard
end Rows
end Go.Proofs.YtfnogfbmieoljaaDoor
