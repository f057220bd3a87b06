/-
  DERIVED. GIVEN WITH THE SEED: THE CARDS: each row of YthdggndldnefpaaGreatDoorRows.lean that lists a variable, with what it lists TIED to the program's text (the seventh form; the later family's looks); each row that meets fmt, with fmt's text TOLD by the authors' own Lean function (tested against real Go, not proved from fmt's source: count such statements apart). THE CARD IS WHAT COUNTS. Prove the row's statement (the work); the ties are given (YthdggndldnefpaaGreatDoorTie.lean); close each card by the builder's one call (the guide's Derived/Test/ToyasCard.lean, 'card_holds'). Laid BY PROGRAM, IN A SANDBOX (cutbox-door.mjs). By AI agents, Wed Nov 11 2026. No macro, syntax, notation, axiom, sorry.
-/
import Derived.Test.YthdggndldnefpaaGreatDoorRows
import GoSem.ClaimSeven
namespace Go.Proofs.YthdggndldnefpaaGreatDoor
namespace Rows

/-- THE TIED CARD OF 'ratchetlaw26.ClusterNil'. -/
def clusterNilCard : Claim7 := { stood := { row := clusterNilRow, standIns := [], harness := (true, "f625ad294ca21375e3e43a48073180654eae9b28763ec326c32cd6a91937239e"), looks := true }, kinds := [], alts := [], laidByText := true, laidKinds := [.data, .data, .data, .data, .sentinel, .sentinel], laidTests := true, laidLooks := .later }
def ClusterNilCardSaid : Prop := Claim7.holds Tryz.pinned (.plain (OpenSpec.ofChange clusterNilSpec)) clusterNilCard

/-- THE TIED CARD OF 'ratchetlaw27.WorldNil'. -/
def worldNilCard : Claim7 := { stood := { row := worldNilRow, standIns := [], harness := (true, "f625ad294ca21375e3e43a48073180654eae9b28763ec326c32cd6a91937239e"), looks := true }, kinds := [], alts := [], laidByText := true, laidKinds := [.data, .data, .data, .data, .sentinel, .sentinel], laidTests := true, laidLooks := .later }
def WorldNilCardSaid : Prop := Claim7.holds Tryz.pinned (.plain (OpenSpec.ofChange worldNilSpec)) worldNilCard

/-- THE SECOND FORM's CARD OF 'ratchetlaw26.ClusterNil'. -/
def clusterNilUptoCard : Claim7 := { stood := { row := clusterNilUptoRow, standIns := [], harness := (true, "f625ad294ca21375e3e43a48073180654eae9b28763ec326c32cd6a91937239e"), looks := true }, kinds := [], alts := [], laidByText := true, laidKinds := [.data, .data, .data, .data, .sentinel, .sentinel], laidTests := true, laidLooks := .later }
def ClusterNilUptoCardSaid : Prop := Claim7.holds Tryz.pinned (.plain (OpenSpec.upto clusterNilSpec)) clusterNilUptoCard

/-- THE SECOND FORM's CARD OF 'ratchetlaw27.WorldNil'. -/
def worldNilUptoCard : Claim7 := { stood := { row := worldNilUptoRow, standIns := [], harness := (true, "f625ad294ca21375e3e43a48073180654eae9b28763ec326c32cd6a91937239e"), looks := true }, kinds := [], alts := [], laidByText := true, laidKinds := [.data, .data, .data, .data, .sentinel, .sentinel], laidTests := true, laidLooks := .later }
def WorldNilUptoCardSaid : Prop := Claim7.holds Tryz.pinned (.plain (OpenSpec.upto worldNilSpec)) worldNilUptoCard
end Rows
end Go.Proofs.YthdggndldnefpaaGreatDoor
