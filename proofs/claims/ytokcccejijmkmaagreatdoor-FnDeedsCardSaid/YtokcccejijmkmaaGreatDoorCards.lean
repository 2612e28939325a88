/-
  DERIVED. GIVEN WITH THE SEED: THE CARDS: each row of YtokcccejijmkmaaGreatDoorRows.lean that lists a variable, with what it lists TIED to the program's text (the seventh form; the later family's looks); each row that meets fmt, with fmt's text TOLD by the authors' own Lean function (tested against real Go, not proved from fmt's source: count such statements apart). THE CARD IS WHAT COUNTS. Prove the row's statement (the work); the ties are given (YtokcccejijmkmaaGreatDoorTie.lean); close each card by the builder's one call (the guide's Derived/Test/ToyasCard.lean, 'card_holds'). Laid BY PROGRAM, IN A SANDBOX (cutbox-door.mjs). By AI agents, Wed Nov 11 2026. No macro, syntax, notation, axiom, sorry.
-/
import Derived.Test.YtokcccejijmkmaaGreatDoorRows
import GoSem.ClaimSeven
namespace Go.Proofs.YtokcccejijmkmaaGreatDoor
namespace Rows

/-- THE TIED CARD OF 'laws.FnDeeds'. -/
def fnDeedsCard : Claim7 := { stood := { row := fnDeedsRow, standIns := [], harness := (true, "c4b2a44bebc481432b816d5b7e94a386b8fa6d2f37dc90ef3d9beb98b8b24b09"), looks := true }, kinds := [], alts := [], laidByText := true, laidKinds := [.data, .data, .data, .sentinel, .sentinel], laidTests := true, laidLooks := .later }
def FnDeedsCardSaid : Prop := Claim7.holds Tryz.pinned (.plain (OpenSpec.ofChange fnDeedsSpec)) fnDeedsCard

/-- THE TIED CARD OF 'laws.FnFalls'. -/
def fnFallsCard : Claim7 := { stood := { row := fnFallsRow, standIns := [], harness := (true, "c4b2a44bebc481432b816d5b7e94a386b8fa6d2f37dc90ef3d9beb98b8b24b09"), looks := true }, kinds := [], alts := [], laidByText := true, laidKinds := [.data, .data, .data, .sentinel, .sentinel], laidTests := true, laidLooks := .later }
def FnFallsCardSaid : Prop := Claim7.holds Tryz.pinned (.plain (OpenSpec.ofChange fnFallsSpec)) fnFallsCard

/-- THE SECOND FORM's CARD OF 'laws.FnDeeds'. -/
def fnDeedsUptoCard : Claim7 := { stood := { row := fnDeedsUptoRow, standIns := [], harness := (true, "c4b2a44bebc481432b816d5b7e94a386b8fa6d2f37dc90ef3d9beb98b8b24b09"), looks := true }, kinds := [], alts := [], laidByText := true, laidKinds := [.data, .data, .data, .sentinel, .sentinel], laidTests := true, laidLooks := .later }
def FnDeedsUptoCardSaid : Prop := Claim7.holds Tryz.pinned (.plain (OpenSpec.upto fnDeedsSpec)) fnDeedsUptoCard

/-- THE SECOND FORM's CARD OF 'laws.FnFalls'. -/
def fnFallsUptoCard : Claim7 := { stood := { row := fnFallsUptoRow, standIns := [], harness := (true, "c4b2a44bebc481432b816d5b7e94a386b8fa6d2f37dc90ef3d9beb98b8b24b09"), looks := true }, kinds := [], alts := [], laidByText := true, laidKinds := [.data, .data, .data, .sentinel, .sentinel], laidTests := true, laidLooks := .later }
def FnFallsUptoCardSaid : Prop := Claim7.holds Tryz.pinned (.plain (OpenSpec.upto fnFallsSpec)) fnFallsUptoCard
end Rows
end Go.Proofs.YtokcccejijmkmaaGreatDoor
