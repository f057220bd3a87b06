/-
  DERIVED. GIVEN WITH THE SEED: THE CARDS: each row of YthekpemobnajhaaGreatDoorRows.lean that lists a variable, with what it lists TIED to the program's text (the seventh form; the later family's looks); each row that meets fmt, with fmt's text TOLD by the authors' own Lean function (tested against real Go, not proved from fmt's source: count such statements apart). THE CARD IS WHAT COUNTS. Prove the row's statement (the work); the ties are given (YthekpemobnajhaaGreatDoorTie.lean); close each card by the builder's one call (the guide's Derived/Test/ToyasCard.lean, 'card_holds'). Laid BY PROGRAM, IN A SANDBOX (cutbox-door.mjs). By AI agents, Wed Nov 11 2026. No macro, syntax, notation, axiom, sorry.
-/
import Derived.Test.YthekpemobnajhaaGreatDoorRows
import GoSem.ClaimSeven
namespace Go.Proofs.YthekpemobnajhaaGreatDoor
namespace Rows

/-- THE TIED CARD OF 'ratchetlaw30.InspectNil'. -/
def inspectNilCard : Claim7 := { stood := { row := inspectNilRow, standIns := [], harness := (true, "274c8606393d1043f5d6e1bc2be3e39f2ad194c7f2843761449f2a2c716628ef"), looks := false }, kinds := [], alts := [], laidByText := true, laidKinds := [.data], laidTests := true, laidLooks := .later }
def InspectNilCardSaid : Prop := Claim7.holds Tryz.pinned (.plain (OpenSpec.ofChange inspectNilSpec)) inspectNilCard

/-- THE SECOND FORM's CARD OF 'ratchetlaw30.InspectNil'. -/
def inspectNilUptoCard : Claim7 := { stood := { row := inspectNilUptoRow, standIns := [], harness := (true, "274c8606393d1043f5d6e1bc2be3e39f2ad194c7f2843761449f2a2c716628ef"), looks := false }, kinds := [], alts := [], laidByText := true, laidKinds := [.data], laidTests := true, laidLooks := .later }
def InspectNilUptoCardSaid : Prop := Claim7.holds Tryz.pinned (.plain (OpenSpec.upto inspectNilSpec)) inspectNilUptoCard
end Rows
end Go.Proofs.YthekpemobnajhaaGreatDoor
