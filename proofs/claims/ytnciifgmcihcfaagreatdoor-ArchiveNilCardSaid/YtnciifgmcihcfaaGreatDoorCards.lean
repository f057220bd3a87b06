/-
  DERIVED. GIVEN WITH THE SEED: THE CARDS: each row of YtnciifgmcihcfaaGreatDoorRows.lean that lists a variable, with what it lists TIED to the program's text (the seventh form; the later family's looks); each row that meets fmt, with fmt's text TOLD by the authors' own Lean function (tested against real Go, not proved from fmt's source: count such statements apart). THE CARD IS WHAT COUNTS. Prove the row's statement (the work); the ties are given (YtnciifgmcihcfaaGreatDoorTie.lean); close each card by the builder's one call (the guide's Derived/Test/ToyasCard.lean, 'card_holds'). Laid BY PROGRAM, IN A SANDBOX (cutbox-door.mjs). By AI agents, Wed Nov 11 2026. No macro, syntax, notation, axiom, sorry.
-/
import Derived.Test.YtnciifgmcihcfaaGreatDoorRows
import GoSem.ClaimSeven
namespace Go.Proofs.YtnciifgmcihcfaaGreatDoor
namespace Rows

/-- THE TIED CARD OF 'ratchetlaw32.ArchiveNil'. -/
def archiveNilCard : Claim7 := { stood := { row := archiveNilRow, standIns := [], harness := (true, "fd6a028e249c49d9e3c9a359c60434da846ef832a536a061a70e153efc456430"), looks := true }, kinds := [], alts := [], laidByText := true, laidKinds := [.data, .data, .data, .data, .sentinel, .sentinel], laidTests := true, laidLooks := .later }
def ArchiveNilCardSaid : Prop := Claim7.holds Tryz.pinned (.plain (OpenSpec.ofChange archiveNilSpec)) archiveNilCard

/-- THE SECOND FORM's CARD OF 'ratchetlaw32.ArchiveNil'. -/
def archiveNilUptoCard : Claim7 := { stood := { row := archiveNilUptoRow, standIns := [], harness := (true, "fd6a028e249c49d9e3c9a359c60434da846ef832a536a061a70e153efc456430"), looks := true }, kinds := [], alts := [], laidByText := true, laidKinds := [.data, .data, .data, .data, .sentinel, .sentinel], laidTests := true, laidLooks := .later }
def ArchiveNilUptoCardSaid : Prop := Claim7.holds Tryz.pinned (.plain (OpenSpec.upto archiveNilSpec)) archiveNilUptoCard
end Rows
end Go.Proofs.YtnciifgmcihcfaaGreatDoor
