/-
  DERIVED. GIVEN WITH THE SEED: THE CARDS: each row of YtkmhmeldgfpfeaaGreatDoorRows.lean that lists a variable, with what it lists TIED to the program's text (the seventh form; the later family's looks); each row that meets fmt, with fmt's text TOLD by the authors' own Lean function (tested against real Go, not proved from fmt's source: count such statements apart). THE CARD IS WHAT COUNTS. Prove the row's statement (the work); the ties are given (YtkmhmeldgfpfeaaGreatDoorTie.lean); close each card by the builder's one call (the guide's Derived/Test/ToyasCard.lean, 'card_holds'). Laid BY PROGRAM, IN A SANDBOX (cutbox-door.mjs). By AI agents, Wed Nov 11 2026. No macro, syntax, notation, axiom, sorry.
-/
import Derived.Test.YtkmhmeldgfpfeaaGreatDoorRows
import GoSem.ClaimSeven
namespace Go.Proofs.YtkmhmeldgfpfeaaGreatDoor
namespace Rows

/-- THE TIED CARD OF 'ratchetlaw32.ArchivePlays'. -/
def archivePlaysCard : Claim7 := { stood := { row := archivePlaysRow, standIns := [], harness := (true, "82e5bc35ed877975b1a460a9fc96020ec10e446c4ee96330510825d6710a0bd6"), looks := true }, kinds := [], alts := [], laidByText := true, laidKinds := [.data, .data, .data, .data, .sentinel, .sentinel], laidTests := true, laidLooks := .later }
def ArchivePlaysCardSaid : Prop := Claim7.holds Tryz.pinned (.plain (OpenSpec.ofChange archivePlaysSpec)) archivePlaysCard

/-- THE SECOND FORM's CARD OF 'ratchetlaw32.ArchivePlays'. -/
def archivePlaysUptoCard : Claim7 := { stood := { row := archivePlaysUptoRow, standIns := [], harness := (true, "82e5bc35ed877975b1a460a9fc96020ec10e446c4ee96330510825d6710a0bd6"), looks := true }, kinds := [], alts := [], laidByText := true, laidKinds := [.data, .data, .data, .data, .sentinel, .sentinel], laidTests := true, laidLooks := .later }
def ArchivePlaysUptoCardSaid : Prop := Claim7.holds Tryz.pinned (.plain (OpenSpec.upto archivePlaysSpec)) archivePlaysUptoCard
end Rows
end Go.Proofs.YtkmhmeldgfpfeaaGreatDoor
