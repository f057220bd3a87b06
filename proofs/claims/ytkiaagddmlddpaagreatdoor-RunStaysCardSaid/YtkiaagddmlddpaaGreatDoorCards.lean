/-
  DERIVED. GIVEN WITH THE SEED: THE CARDS: each row of YtkiaagddmlddpaaGreatDoorRows.lean that lists a variable, with what it lists TIED to the program's text (the seventh form; the later family's looks); each row that meets fmt, with fmt's text TOLD by the authors' own Lean function (tested against real Go, not proved from fmt's source: count such statements apart). THE CARD IS WHAT COUNTS. Prove the row's statement (the work); the ties are given (YtkiaagddmlddpaaGreatDoorTie.lean); close each card by the builder's one call (the guide's Derived/Test/ToyasCard.lean, 'card_holds'). Laid BY PROGRAM, IN A SANDBOX (cutbox-door.mjs). By AI agents, Wed Nov 11 2026. No macro, syntax, notation, axiom, sorry.
-/
import Derived.Test.YtkiaagddmlddpaaGreatDoorRows
import GoSem.ClaimSeven
namespace Go.Proofs.YtkiaagddmlddpaaGreatDoor
namespace Rows

/-- THE TIED CARD OF 'ratchetlaw17.RunDigests'. -/
def runDigestsCard : Claim7 := { stood := { row := runDigestsRow, standIns := [], harness := (true, "5dbdfcc740a23ad77c2d3fd84dd904f916817f1804b876519423b676aa118395"), looks := true }, kinds := [], alts := [], laidByText := true, laidKinds := [.data, .data, .data, .data, .sentinel, .sentinel], laidTests := true, laidLooks := .later }
def RunDigestsCardSaid : Prop := Claim7.holds Tryz.pinned (.plain (OpenSpec.ofChange runDigestsSpec)) runDigestsCard

/-- THE TIED CARD OF 'ratchetlaw17.RunStays'. -/
def runStaysCard : Claim7 := { stood := { row := runStaysRow, standIns := [], harness := (true, "5dbdfcc740a23ad77c2d3fd84dd904f916817f1804b876519423b676aa118395"), looks := true }, kinds := [], alts := [], laidByText := true, laidKinds := [.data, .data, .data, .data, .sentinel, .sentinel], laidTests := true, laidLooks := .later }
def RunStaysCardSaid : Prop := Claim7.holds Tryz.pinned (.plain (OpenSpec.ofChange runStaysSpec)) runStaysCard

/-- THE SECOND FORM's CARD OF 'ratchetlaw17.RunDigests'. -/
def runDigestsUptoCard : Claim7 := { stood := { row := runDigestsUptoRow, standIns := [], harness := (true, "5dbdfcc740a23ad77c2d3fd84dd904f916817f1804b876519423b676aa118395"), looks := true }, kinds := [], alts := [], laidByText := true, laidKinds := [.data, .data, .data, .data, .sentinel, .sentinel], laidTests := true, laidLooks := .later }
def RunDigestsUptoCardSaid : Prop := Claim7.holds Tryz.pinned (.plain (OpenSpec.upto runDigestsSpec)) runDigestsUptoCard

/-- THE SECOND FORM's CARD OF 'ratchetlaw17.RunStays'. -/
def runStaysUptoCard : Claim7 := { stood := { row := runStaysUptoRow, standIns := [], harness := (true, "5dbdfcc740a23ad77c2d3fd84dd904f916817f1804b876519423b676aa118395"), looks := true }, kinds := [], alts := [], laidByText := true, laidKinds := [.data, .data, .data, .data, .sentinel, .sentinel], laidTests := true, laidLooks := .later }
def RunStaysUptoCardSaid : Prop := Claim7.holds Tryz.pinned (.plain (OpenSpec.upto runStaysSpec)) runStaysUptoCard
end Rows
end Go.Proofs.YtkiaagddmlddpaaGreatDoor
