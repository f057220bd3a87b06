/-
  DERIVED. GIVEN WITH THE SEED: THE CARDS: each row of YtapmfbjlhjekiaaGreatDoorRows.lean that lists a variable, with what it lists TIED to the program's text (the seventh form; the later family's looks); each row that meets fmt, with fmt's text TOLD by the authors' own Lean function (tested against real Go, not proved from fmt's source: count such statements apart). THE CARD IS WHAT COUNTS. Prove the row's statement (the work); the ties are given (YtapmfbjlhjekiaaGreatDoorTie.lean); close each card by the builder's one call (the guide's Derived/Test/ToyasCard.lean, 'card_holds'). Laid BY PROGRAM, IN A SANDBOX (cutbox-door.mjs). By AI agents, Wed Nov 11 2026. No macro, syntax, notation, axiom, sorry.
-/
import Derived.Test.YtapmfbjlhjekiaaGreatDoorRows
import GoSem.ClaimSeven
namespace Go.Proofs.YtapmfbjlhjekiaaGreatDoor
namespace Rows

/-- THE TIED CARD OF 'ratchetlaw22.ReplicaNil'. -/
def replicaNilCard : Claim7 := { stood := { row := replicaNilRow, standIns := [], harness := (true, "154cc0b02953316b44bff0b62316265b5f8727fb6ac40f32b90bba7c9793e2c1"), looks := true }, kinds := [], alts := [], laidByText := true, laidKinds := [.data, .data, .data, .data, .sentinel, .sentinel], laidTests := true, laidLooks := .later }
def ReplicaNilCardSaid : Prop := Claim7.holds Tryz.pinned (.plain (OpenSpec.ofChange replicaNilSpec)) replicaNilCard

/-- THE SECOND FORM's CARD OF 'ratchetlaw22.ReplicaNil'. -/
def replicaNilUptoCard : Claim7 := { stood := { row := replicaNilUptoRow, standIns := [], harness := (true, "154cc0b02953316b44bff0b62316265b5f8727fb6ac40f32b90bba7c9793e2c1"), looks := true }, kinds := [], alts := [], laidByText := true, laidKinds := [.data, .data, .data, .data, .sentinel, .sentinel], laidTests := true, laidLooks := .later }
def ReplicaNilUptoCardSaid : Prop := Claim7.holds Tryz.pinned (.plain (OpenSpec.upto replicaNilSpec)) replicaNilUptoCard
end Rows
end Go.Proofs.YtapmfbjlhjekiaaGreatDoor
