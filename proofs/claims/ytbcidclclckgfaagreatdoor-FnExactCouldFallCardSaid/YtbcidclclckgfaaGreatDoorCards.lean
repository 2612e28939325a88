/-
  DERIVED. GIVEN WITH THE SEED: THE CARDS: each row of YtbcidclclckgfaaGreatDoorRows.lean that lists a variable, with what it lists TIED to the program's text (the seventh form; the later family's looks); each row that meets fmt, with fmt's text TOLD by the authors' own Lean function (tested against real Go, not proved from fmt's source: count such statements apart). THE CARD IS WHAT COUNTS. Prove the row's statement (the work); the ties are given (YtbcidclclckgfaaGreatDoorTie.lean); close each card by the builder's one call (the guide's Derived/Test/ToyasCard.lean, 'card_holds'). Laid BY PROGRAM, IN A SANDBOX (cutbox-door.mjs). By AI agents, Wed Nov 11 2026. No macro, syntax, notation, axiom, sorry.
-/
import Derived.Test.YtbcidclclckgfaaGreatDoorRows
import GoSem.ClaimSeven
namespace Go.Proofs.YtbcidclclckgfaaGreatDoor
namespace Rows

/-- THE TIED CARD OF 'laws.FnExactDiskOk'. -/
def fnExactDiskOkCard : Claim7 := { stood := { row := fnExactDiskOkRow, standIns := [], harness := (true, "71727d440b8b3ac2e68e0cdad8b68b4e7833456c2bf516e17de97ba2005e6989"), looks := true }, kinds := [], alts := [], laidByText := true, laidKinds := [.data, .data, .data, .sentinel, .sentinel], laidTests := true, laidLooks := .later }
def FnExactDiskOkCardSaid : Prop := Claim7.holds Tryz.pinned (.plain (OpenSpec.ofChange fnExactDiskOkSpec)) fnExactDiskOkCard

/-- THE TIED CARD OF 'laws.FnExactUnsureOn'. -/
def fnExactUnsureOnCard : Claim7 := { stood := { row := fnExactUnsureOnRow, standIns := [], harness := (true, "71727d440b8b3ac2e68e0cdad8b68b4e7833456c2bf516e17de97ba2005e6989"), looks := true }, kinds := [], alts := [], laidByText := true, laidKinds := [.data, .data, .data, .sentinel, .sentinel], laidTests := true, laidLooks := .later }
def FnExactUnsureOnCardSaid : Prop := Claim7.holds Tryz.pinned (.plain (OpenSpec.ofChange fnExactUnsureOnSpec)) fnExactUnsureOnCard

/-- THE TIED CARD OF 'laws.FnExactCalmDisk'. -/
def fnExactCalmDiskCard : Claim7 := { stood := { row := fnExactCalmDiskRow, standIns := [], harness := (true, "71727d440b8b3ac2e68e0cdad8b68b4e7833456c2bf516e17de97ba2005e6989"), looks := true }, kinds := [], alts := [], laidByText := true, laidKinds := [.data, .data, .data, .sentinel, .sentinel], laidTests := true, laidLooks := .later }
def FnExactCalmDiskCardSaid : Prop := Claim7.holds Tryz.pinned (.plain (OpenSpec.ofChange fnExactCalmDiskSpec)) fnExactCalmDiskCard

/-- THE TIED CARD OF 'laws.FnExactSyncFile'. -/
def fnExactSyncFileCard : Claim7 := { stood := { row := fnExactSyncFileRow, standIns := [], harness := (true, "71727d440b8b3ac2e68e0cdad8b68b4e7833456c2bf516e17de97ba2005e6989"), looks := true }, kinds := [], alts := [], laidByText := true, laidKinds := [.data, .data, .data, .sentinel, .sentinel], laidTests := true, laidLooks := .later }
def FnExactSyncFileCardSaid : Prop := Claim7.holds Tryz.pinned (.plain (OpenSpec.ofChange fnExactSyncFileSpec)) fnExactSyncFileCard

/-- THE TIED CARD OF 'laws.FnExactAppendFile'. -/
def fnExactAppendFileCard : Claim7 := { stood := { row := fnExactAppendFileRow, standIns := [], harness := (true, "71727d440b8b3ac2e68e0cdad8b68b4e7833456c2bf516e17de97ba2005e6989"), looks := true }, kinds := [], alts := [], laidByText := true, laidKinds := [.data, .data, .data, .sentinel, .sentinel], laidTests := true, laidLooks := .later }
def FnExactAppendFileCardSaid : Prop := Claim7.holds Tryz.pinned (.plain (OpenSpec.ofChange fnExactAppendFileSpec)) fnExactAppendFileCard

/-- THE TIED CARD OF 'laws.FnExactCouldFall'. -/
def fnExactCouldFallCard : Claim7 := { stood := { row := fnExactCouldFallRow, standIns := [], harness := (true, "71727d440b8b3ac2e68e0cdad8b68b4e7833456c2bf516e17de97ba2005e6989"), looks := true }, kinds := [], alts := [], laidByText := true, laidKinds := [.data, .data, .data, .sentinel, .sentinel], laidTests := true, laidLooks := .later }
def FnExactCouldFallCardSaid : Prop := Claim7.holds Tryz.pinned (.plain (OpenSpec.ofChange fnExactCouldFallSpec)) fnExactCouldFallCard

/-- THE TIED CARD OF 'laws.FnExactFallen'. -/
def fnExactFallenCard : Claim7 := { stood := { row := fnExactFallenRow, standIns := [], harness := (true, "71727d440b8b3ac2e68e0cdad8b68b4e7833456c2bf516e17de97ba2005e6989"), looks := true }, kinds := [], alts := [], laidByText := true, laidKinds := [.data, .data, .data, .sentinel, .sentinel], laidTests := true, laidLooks := .later }
def FnExactFallenCardSaid : Prop := Claim7.holds Tryz.pinned (.plain (OpenSpec.ofChange fnExactFallenSpec)) fnExactFallenCard

/-- THE TIED CARD OF 'laws.FnExactCreateFile'. -/
def fnExactCreateFileCard : Claim7 := { stood := { row := fnExactCreateFileRow, standIns := [], harness := (true, "71727d440b8b3ac2e68e0cdad8b68b4e7833456c2bf516e17de97ba2005e6989"), looks := true }, kinds := [], alts := [], laidByText := true, laidKinds := [.data, .data, .data, .sentinel, .sentinel], laidTests := true, laidLooks := .later }
def FnExactCreateFileCardSaid : Prop := Claim7.holds Tryz.pinned (.plain (OpenSpec.ofChange fnExactCreateFileSpec)) fnExactCreateFileCard

/-- THE TIED CARD OF 'laws.FnExactRemoveFile'. -/
def fnExactRemoveFileCard : Claim7 := { stood := { row := fnExactRemoveFileRow, standIns := [], harness := (true, "71727d440b8b3ac2e68e0cdad8b68b4e7833456c2bf516e17de97ba2005e6989"), looks := true }, kinds := [], alts := [], laidByText := true, laidKinds := [.data, .data, .data, .sentinel, .sentinel], laidTests := true, laidLooks := .later }
def FnExactRemoveFileCardSaid : Prop := Claim7.holds Tryz.pinned (.plain (OpenSpec.ofChange fnExactRemoveFileSpec)) fnExactRemoveFileCard

/-- THE TIED CARD OF 'laws.FnExactRenameFile'. -/
def fnExactRenameFileCard : Claim7 := { stood := { row := fnExactRenameFileRow, standIns := [], harness := (true, "71727d440b8b3ac2e68e0cdad8b68b4e7833456c2bf516e17de97ba2005e6989"), looks := true }, kinds := [], alts := [], laidByText := true, laidKinds := [.data, .data, .data, .sentinel, .sentinel], laidTests := true, laidLooks := .later }
def FnExactRenameFileCardSaid : Prop := Claim7.holds Tryz.pinned (.plain (OpenSpec.ofChange fnExactRenameFileSpec)) fnExactRenameFileCard

/-- THE TIED CARD OF 'laws.FnExactSyncNames'. -/
def fnExactSyncNamesCard : Claim7 := { stood := { row := fnExactSyncNamesRow, standIns := [], harness := (true, "71727d440b8b3ac2e68e0cdad8b68b4e7833456c2bf516e17de97ba2005e6989"), looks := true }, kinds := [], alts := [], laidByText := true, laidKinds := [.data, .data, .data, .sentinel, .sentinel], laidTests := true, laidLooks := .later }
def FnExactSyncNamesCardSaid : Prop := Claim7.holds Tryz.pinned (.plain (OpenSpec.ofChange fnExactSyncNamesSpec)) fnExactSyncNamesCard

/-- THE TIED CARD OF 'laws.FnFalls'. -/
def fnFallsCard : Claim7 := { stood := { row := fnFallsRow, standIns := [], harness := (true, "71727d440b8b3ac2e68e0cdad8b68b4e7833456c2bf516e17de97ba2005e6989"), looks := true }, kinds := [], alts := [], laidByText := true, laidKinds := [.data, .data, .data, .sentinel, .sentinel], laidTests := true, laidLooks := .later }
def FnFallsCardSaid : Prop := Claim7.holds Tryz.pinned (.plain (OpenSpec.ofChange fnFallsSpec)) fnFallsCard

/-- THE SECOND FORM's CARD OF 'laws.FnExactDiskOk'. -/
def fnExactDiskOkUptoCard : Claim7 := { stood := { row := fnExactDiskOkUptoRow, standIns := [], harness := (true, "71727d440b8b3ac2e68e0cdad8b68b4e7833456c2bf516e17de97ba2005e6989"), looks := true }, kinds := [], alts := [], laidByText := true, laidKinds := [.data, .data, .data, .sentinel, .sentinel], laidTests := true, laidLooks := .later }
def FnExactDiskOkUptoCardSaid : Prop := Claim7.holds Tryz.pinned (.plain (OpenSpec.upto fnExactDiskOkSpec)) fnExactDiskOkUptoCard

/-- THE SECOND FORM's CARD OF 'laws.FnExactUnsureOn'. -/
def fnExactUnsureOnUptoCard : Claim7 := { stood := { row := fnExactUnsureOnUptoRow, standIns := [], harness := (true, "71727d440b8b3ac2e68e0cdad8b68b4e7833456c2bf516e17de97ba2005e6989"), looks := true }, kinds := [], alts := [], laidByText := true, laidKinds := [.data, .data, .data, .sentinel, .sentinel], laidTests := true, laidLooks := .later }
def FnExactUnsureOnUptoCardSaid : Prop := Claim7.holds Tryz.pinned (.plain (OpenSpec.upto fnExactUnsureOnSpec)) fnExactUnsureOnUptoCard

/-- THE SECOND FORM's CARD OF 'laws.FnExactCalmDisk'. -/
def fnExactCalmDiskUptoCard : Claim7 := { stood := { row := fnExactCalmDiskUptoRow, standIns := [], harness := (true, "71727d440b8b3ac2e68e0cdad8b68b4e7833456c2bf516e17de97ba2005e6989"), looks := true }, kinds := [], alts := [], laidByText := true, laidKinds := [.data, .data, .data, .sentinel, .sentinel], laidTests := true, laidLooks := .later }
def FnExactCalmDiskUptoCardSaid : Prop := Claim7.holds Tryz.pinned (.plain (OpenSpec.upto fnExactCalmDiskSpec)) fnExactCalmDiskUptoCard

/-- THE SECOND FORM's CARD OF 'laws.FnExactSyncFile'. -/
def fnExactSyncFileUptoCard : Claim7 := { stood := { row := fnExactSyncFileUptoRow, standIns := [], harness := (true, "71727d440b8b3ac2e68e0cdad8b68b4e7833456c2bf516e17de97ba2005e6989"), looks := true }, kinds := [], alts := [], laidByText := true, laidKinds := [.data, .data, .data, .sentinel, .sentinel], laidTests := true, laidLooks := .later }
def FnExactSyncFileUptoCardSaid : Prop := Claim7.holds Tryz.pinned (.plain (OpenSpec.upto fnExactSyncFileSpec)) fnExactSyncFileUptoCard

/-- THE SECOND FORM's CARD OF 'laws.FnExactAppendFile'. -/
def fnExactAppendFileUptoCard : Claim7 := { stood := { row := fnExactAppendFileUptoRow, standIns := [], harness := (true, "71727d440b8b3ac2e68e0cdad8b68b4e7833456c2bf516e17de97ba2005e6989"), looks := true }, kinds := [], alts := [], laidByText := true, laidKinds := [.data, .data, .data, .sentinel, .sentinel], laidTests := true, laidLooks := .later }
def FnExactAppendFileUptoCardSaid : Prop := Claim7.holds Tryz.pinned (.plain (OpenSpec.upto fnExactAppendFileSpec)) fnExactAppendFileUptoCard

/-- THE SECOND FORM's CARD OF 'laws.FnExactCouldFall'. -/
def fnExactCouldFallUptoCard : Claim7 := { stood := { row := fnExactCouldFallUptoRow, standIns := [], harness := (true, "71727d440b8b3ac2e68e0cdad8b68b4e7833456c2bf516e17de97ba2005e6989"), looks := true }, kinds := [], alts := [], laidByText := true, laidKinds := [.data, .data, .data, .sentinel, .sentinel], laidTests := true, laidLooks := .later }
def FnExactCouldFallUptoCardSaid : Prop := Claim7.holds Tryz.pinned (.plain (OpenSpec.upto fnExactCouldFallSpec)) fnExactCouldFallUptoCard

/-- THE SECOND FORM's CARD OF 'laws.FnExactFallen'. -/
def fnExactFallenUptoCard : Claim7 := { stood := { row := fnExactFallenUptoRow, standIns := [], harness := (true, "71727d440b8b3ac2e68e0cdad8b68b4e7833456c2bf516e17de97ba2005e6989"), looks := true }, kinds := [], alts := [], laidByText := true, laidKinds := [.data, .data, .data, .sentinel, .sentinel], laidTests := true, laidLooks := .later }
def FnExactFallenUptoCardSaid : Prop := Claim7.holds Tryz.pinned (.plain (OpenSpec.upto fnExactFallenSpec)) fnExactFallenUptoCard

/-- THE SECOND FORM's CARD OF 'laws.FnExactCreateFile'. -/
def fnExactCreateFileUptoCard : Claim7 := { stood := { row := fnExactCreateFileUptoRow, standIns := [], harness := (true, "71727d440b8b3ac2e68e0cdad8b68b4e7833456c2bf516e17de97ba2005e6989"), looks := true }, kinds := [], alts := [], laidByText := true, laidKinds := [.data, .data, .data, .sentinel, .sentinel], laidTests := true, laidLooks := .later }
def FnExactCreateFileUptoCardSaid : Prop := Claim7.holds Tryz.pinned (.plain (OpenSpec.upto fnExactCreateFileSpec)) fnExactCreateFileUptoCard

/-- THE SECOND FORM's CARD OF 'laws.FnExactRemoveFile'. -/
def fnExactRemoveFileUptoCard : Claim7 := { stood := { row := fnExactRemoveFileUptoRow, standIns := [], harness := (true, "71727d440b8b3ac2e68e0cdad8b68b4e7833456c2bf516e17de97ba2005e6989"), looks := true }, kinds := [], alts := [], laidByText := true, laidKinds := [.data, .data, .data, .sentinel, .sentinel], laidTests := true, laidLooks := .later }
def FnExactRemoveFileUptoCardSaid : Prop := Claim7.holds Tryz.pinned (.plain (OpenSpec.upto fnExactRemoveFileSpec)) fnExactRemoveFileUptoCard

/-- THE SECOND FORM's CARD OF 'laws.FnExactRenameFile'. -/
def fnExactRenameFileUptoCard : Claim7 := { stood := { row := fnExactRenameFileUptoRow, standIns := [], harness := (true, "71727d440b8b3ac2e68e0cdad8b68b4e7833456c2bf516e17de97ba2005e6989"), looks := true }, kinds := [], alts := [], laidByText := true, laidKinds := [.data, .data, .data, .sentinel, .sentinel], laidTests := true, laidLooks := .later }
def FnExactRenameFileUptoCardSaid : Prop := Claim7.holds Tryz.pinned (.plain (OpenSpec.upto fnExactRenameFileSpec)) fnExactRenameFileUptoCard

/-- THE SECOND FORM's CARD OF 'laws.FnExactSyncNames'. -/
def fnExactSyncNamesUptoCard : Claim7 := { stood := { row := fnExactSyncNamesUptoRow, standIns := [], harness := (true, "71727d440b8b3ac2e68e0cdad8b68b4e7833456c2bf516e17de97ba2005e6989"), looks := true }, kinds := [], alts := [], laidByText := true, laidKinds := [.data, .data, .data, .sentinel, .sentinel], laidTests := true, laidLooks := .later }
def FnExactSyncNamesUptoCardSaid : Prop := Claim7.holds Tryz.pinned (.plain (OpenSpec.upto fnExactSyncNamesSpec)) fnExactSyncNamesUptoCard

/-- THE SECOND FORM's CARD OF 'laws.FnFalls'. -/
def fnFallsUptoCard : Claim7 := { stood := { row := fnFallsUptoRow, standIns := [], harness := (true, "71727d440b8b3ac2e68e0cdad8b68b4e7833456c2bf516e17de97ba2005e6989"), looks := true }, kinds := [], alts := [], laidByText := true, laidKinds := [.data, .data, .data, .sentinel, .sentinel], laidTests := true, laidLooks := .later }
def FnFallsUptoCardSaid : Prop := Claim7.holds Tryz.pinned (.plain (OpenSpec.upto fnFallsSpec)) fnFallsUptoCard
end Rows
end Go.Proofs.YtbcidclclckgfaaGreatDoor
