/-
  DERIVED. GIVEN WITH THE SEED: THE CARDS: each row of YtlomlmbbiopaaaaGreatDoorRows.lean that lists a variable, with what it lists TIED to the program's text (the seventh form; the later family's looks); each row that meets fmt, with fmt's text TOLD by the authors' own Lean function (tested against real Go, not proved from fmt's source: count such statements apart). THE CARD IS WHAT COUNTS. Prove the row's statement (the work); the ties are given (YtlomlmbbiopaaaaGreatDoorTie.lean); close each card by the builder's one call (the guide's Derived/Test/ToyasCard.lean, 'card_holds'). Laid BY PROGRAM, IN A SANDBOX (cutbox-door.mjs). By AI agents, Wed Nov 11 2026. No macro, syntax, notation, axiom, sorry.
-/
import Derived.Test.YtlomlmbbiopaaaaGreatDoorRows
import GoSem.ClaimSeven
namespace Go.Proofs.YtlomlmbbiopaaaaGreatDoor
namespace Rows

/-- THE TIED CARD OF 'ratchetlaw33.TraceRaw'. -/
def traceRawCard : Claim7 := { stood := { row := traceRawRow, standIns := [], harness := (true, "875bd5d3479e81db12f59930b1ce1698e91cfebe3e13c8684eb65ebe4e9cbba3"), looks := true }, kinds := [], alts := [], laidByText := true, laidKinds := [.data, .sentinel, .sentinel, .data, .data, .data], laidTests := true, laidLooks := .later }
def TraceRawCardSaid : Prop := Claim7.holds Tryz.pinned (.plain (OpenSpec.ofChange traceRawSpec)) traceRawCard

/-- THE SECOND FORM's CARD OF 'ratchetlaw33.TraceRaw'. -/
def traceRawUptoCard : Claim7 := { stood := { row := traceRawUptoRow, standIns := [], harness := (true, "875bd5d3479e81db12f59930b1ce1698e91cfebe3e13c8684eb65ebe4e9cbba3"), looks := true }, kinds := [], alts := [], laidByText := true, laidKinds := [.data, .sentinel, .sentinel, .data, .data, .data], laidTests := true, laidLooks := .later }
def TraceRawUptoCardSaid : Prop := Claim7.holds Tryz.pinned (.plain (OpenSpec.upto traceRawSpec)) traceRawUptoCard
end Rows
end Go.Proofs.YtlomlmbbiopaaaaGreatDoor
