/-
  DERIVED. GIVEN WITH THE SEED: THE CARDS: each row of YthfpmlpoiocfdaaGreatDoorRows.lean that lists a variable, with what it lists TIED to the program's text (the seventh form; the later family's looks); each row that meets fmt, with fmt's text TOLD by the authors' own Lean function (tested against real Go, not proved from fmt's source: count such statements apart). THE CARD IS WHAT COUNTS. Prove the row's statement (the work); the ties are given (YthfpmlpoiocfdaaGreatDoorTie.lean); close each card by the builder's one call (the guide's Derived/Test/ToyasCard.lean, 'card_holds'). Laid BY PROGRAM, IN A SANDBOX (cutbox-door.mjs). By AI agents, Wed Nov 11 2026. No macro, syntax, notation, axiom, sorry.
-/
import Derived.Test.YthfpmlpoiocfdaaGreatDoorRows
import GoSem.ClaimSeven
namespace Go.Proofs.YthfpmlpoiocfdaaGreatDoor
namespace Rows

/-- THE TIED CARD OF 'ratchetlaw22.ReplicaFalse'. -/
def replicaFalseCard : Claim7 := { stood := { row := replicaFalseRow, standIns := [], harness := (true, "c1f36910202380a48b9df2be5dfc1178820773afac2a7047162eb5bf6474b886"), looks := true }, kinds := [], alts := [], laidByText := true, laidKinds := [.data, .data, .data, .data, .sentinel, .sentinel], laidTests := true, laidLooks := .later }
def ReplicaFalseCardSaid : Prop := Claim7.holds Tryz.pinned (.plain (OpenSpec.ofChange replicaFalseSpec)) replicaFalseCard

/-- THE SECOND FORM's CARD OF 'ratchetlaw22.ReplicaFalse'. -/
def replicaFalseUptoCard : Claim7 := { stood := { row := replicaFalseUptoRow, standIns := [], harness := (true, "c1f36910202380a48b9df2be5dfc1178820773afac2a7047162eb5bf6474b886"), looks := true }, kinds := [], alts := [], laidByText := true, laidKinds := [.data, .data, .data, .data, .sentinel, .sentinel], laidTests := true, laidLooks := .later }
def ReplicaFalseUptoCardSaid : Prop := Claim7.holds Tryz.pinned (.plain (OpenSpec.upto replicaFalseSpec)) replicaFalseUptoCard
end Rows
end Go.Proofs.YthfpmlpoiocfdaaGreatDoor
