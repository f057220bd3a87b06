/-
  DERIVED. GIVEN WITH THE SEED: THE CARDS: each row of YtbmmknchcdhefaaGreatDoorRows.lean that lists a variable, with what it lists TIED to the program's text (the seventh form; the later family's looks); each row that meets fmt, with fmt's text TOLD by the authors' own Lean function (tested against real Go, not proved from fmt's source: count such statements apart). THE CARD IS WHAT COUNTS. Prove the row's statement (the work); the ties are given (YtbmmknchcdhefaaGreatDoorTie.lean); close each card by the builder's one call (the guide's Derived/Test/ToyasCard.lean, 'card_holds'). Laid BY PROGRAM, IN A SANDBOX (cutbox-door.mjs). By AI agents, Wed Nov 11 2026. No macro, syntax, notation, axiom, sorry.
-/
import Derived.Test.YtbmmknchcdhefaaGreatDoorRows
import GoSem.ClaimSeven
namespace Go.Proofs.YtbmmknchcdhefaaGreatDoor
namespace Rows

/-- THE TIED CARD OF 'ratchetlaw31.HistoryPlays'. -/
def historyPlaysCard : Claim7 := { stood := { row := historyPlaysRow, standIns := [], harness := (true, "26d4e34a7b11e4181f63282013fcb23b70c531ed4c78c2169db47b1dcd6a37bf"), looks := true }, kinds := [], alts := [], laidByText := true, laidKinds := [.data, .data, .data, .sentinel, .sentinel], laidTests := true, laidLooks := .later }
def HistoryPlaysCardSaid : Prop := Claim7.holds Tryz.pinned (.plain (OpenSpec.ofChange historyPlaysSpec)) historyPlaysCard

/-- THE TIED CARD OF 'ratchetlaw31.HistoryMade'. -/
def historyMadeCard : Claim7 := { stood := { row := historyMadeRow, standIns := [], harness := (true, "26d4e34a7b11e4181f63282013fcb23b70c531ed4c78c2169db47b1dcd6a37bf"), looks := true }, kinds := [], alts := [], laidByText := true, laidKinds := [.data, .data, .data, .sentinel, .sentinel], laidTests := true, laidLooks := .later }
def HistoryMadeCardSaid : Prop := Claim7.holds Tryz.pinned (.plain (OpenSpec.ofChange historyMadeSpec)) historyMadeCard

/-- THE TIED CARD OF 'ratchetlaw31.HistoryFinds'. -/
def historyFindsCard : Claim7 := { stood := { row := historyFindsRow, standIns := [], harness := (true, "26d4e34a7b11e4181f63282013fcb23b70c531ed4c78c2169db47b1dcd6a37bf"), looks := true }, kinds := [], alts := [], laidByText := true, laidKinds := [.data, .data, .data, .sentinel, .sentinel], laidTests := true, laidLooks := .later }
def HistoryFindsCardSaid : Prop := Claim7.holds Tryz.pinned (.plain (OpenSpec.ofChange historyFindsSpec)) historyFindsCard

/-- THE SECOND FORM's CARD OF 'ratchetlaw31.HistoryPlays'. -/
def historyPlaysUptoCard : Claim7 := { stood := { row := historyPlaysUptoRow, standIns := [], harness := (true, "26d4e34a7b11e4181f63282013fcb23b70c531ed4c78c2169db47b1dcd6a37bf"), looks := true }, kinds := [], alts := [], laidByText := true, laidKinds := [.data, .data, .data, .sentinel, .sentinel], laidTests := true, laidLooks := .later }
def HistoryPlaysUptoCardSaid : Prop := Claim7.holds Tryz.pinned (.plain (OpenSpec.upto historyPlaysSpec)) historyPlaysUptoCard

/-- THE SECOND FORM's CARD OF 'ratchetlaw31.HistoryMade'. -/
def historyMadeUptoCard : Claim7 := { stood := { row := historyMadeUptoRow, standIns := [], harness := (true, "26d4e34a7b11e4181f63282013fcb23b70c531ed4c78c2169db47b1dcd6a37bf"), looks := true }, kinds := [], alts := [], laidByText := true, laidKinds := [.data, .data, .data, .sentinel, .sentinel], laidTests := true, laidLooks := .later }
def HistoryMadeUptoCardSaid : Prop := Claim7.holds Tryz.pinned (.plain (OpenSpec.upto historyMadeSpec)) historyMadeUptoCard

/-- THE SECOND FORM's CARD OF 'ratchetlaw31.HistoryFinds'. -/
def historyFindsUptoCard : Claim7 := { stood := { row := historyFindsUptoRow, standIns := [], harness := (true, "26d4e34a7b11e4181f63282013fcb23b70c531ed4c78c2169db47b1dcd6a37bf"), looks := true }, kinds := [], alts := [], laidByText := true, laidKinds := [.data, .data, .data, .sentinel, .sentinel], laidTests := true, laidLooks := .later }
def HistoryFindsUptoCardSaid : Prop := Claim7.holds Tryz.pinned (.plain (OpenSpec.upto historyFindsSpec)) historyFindsUptoCard
end Rows
end Go.Proofs.YtbmmknchcdhefaaGreatDoor
