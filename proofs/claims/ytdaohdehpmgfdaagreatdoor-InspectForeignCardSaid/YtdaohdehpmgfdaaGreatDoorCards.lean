/-
  DERIVED. GIVEN WITH THE SEED: THE CARDS: each row of YtdaohdehpmgfdaaGreatDoorRows.lean that lists a variable, with what it lists TIED to the program's text (the seventh form; the later family's looks); each row that meets fmt, with fmt's text TOLD by the authors' own Lean function (tested against real Go, not proved from fmt's source: count such statements apart). THE CARD IS WHAT COUNTS. Prove the row's statement (the work); the ties are given (YtdaohdehpmgfdaaGreatDoorTie.lean); close each card by the builder's one call (the guide's Derived/Test/ToyasCard.lean, 'card_holds'). Laid BY PROGRAM, IN A SANDBOX (cutbox-door.mjs). By AI agents, Wed Nov 11 2026. No macro, syntax, notation, axiom, sorry.
-/
import Derived.Test.YtdaohdehpmgfdaaGreatDoorRows
import GoSem.ClaimSeven
namespace Go.Proofs.YtdaohdehpmgfdaaGreatDoor
namespace Rows

/-- THE TIED CARD OF 'ratchetlaw30.InspectForeign'. -/
def inspectForeignCard : Claim7 := { stood := { row := inspectForeignRow, standIns := [], harness := (true, "a3857cf3e84777206a068621fb7416727408f63599f1dcc3acbae86619a7ce0b"), looks := false }, kinds := [], alts := [], laidByText := true, laidKinds := [.data], laidTests := true, laidLooks := .later }
def InspectForeignCardSaid : Prop := Claim7.holds Tryz.pinned (.plain (OpenSpec.ofChange inspectForeignSpec)) inspectForeignCard

/-- THE SECOND FORM's CARD OF 'ratchetlaw30.InspectForeign'. -/
def inspectForeignUptoCard : Claim7 := { stood := { row := inspectForeignUptoRow, standIns := [], harness := (true, "a3857cf3e84777206a068621fb7416727408f63599f1dcc3acbae86619a7ce0b"), looks := false }, kinds := [], alts := [], laidByText := true, laidKinds := [.data], laidTests := true, laidLooks := .later }
def InspectForeignUptoCardSaid : Prop := Claim7.holds Tryz.pinned (.plain (OpenSpec.upto inspectForeignSpec)) inspectForeignUptoCard
end Rows
end Go.Proofs.YtdaohdehpmgfdaaGreatDoor
