/-
  DERIVED. GIVEN WITH THE SEED: THE CARDS: each row of YteokklempfnpaaaGreatDoorRows.lean that lists a variable, with what it lists TIED to the program's text (the seventh form; the later family's looks); each row that meets fmt, with fmt's text TOLD by the authors' own Lean function (tested against real Go, not proved from fmt's source: count such statements apart). THE CARD IS WHAT COUNTS. Prove the row's statement (the work); the ties are given (YteokklempfnpaaaGreatDoorTie.lean); close each card by the builder's one call (the guide's Derived/Test/ToyasCard.lean, 'card_holds'). Laid BY PROGRAM, IN A SANDBOX (cutbox-door.mjs). By AI agents, Wed Nov 11 2026. No macro, syntax, notation, axiom, sorry.
-/
import Derived.Test.YteokklempfnpaaaGreatDoorRows
import GoSem.ClaimSeven
namespace Go.Proofs.YteokklempfnpaaaGreatDoor
namespace Rows

/-- THE TIED CARD OF 'ratchetlaw33.TraceNil'. -/
def traceNilCard : Claim7 := { stood := { row := traceNilRow, standIns := [], harness := (true, "614d94f6e5aff2500cb7934555701ccefab8be0593d852e0da0f6f3760b37ddc"), looks := true }, kinds := [], alts := [], laidByText := true, laidKinds := [.data, .data, .data, .data, .sentinel, .sentinel], laidTests := true, laidLooks := .later }
def TraceNilCardSaid : Prop := Claim7.holds Tryz.pinned (.plain (OpenSpec.ofChange traceNilSpec)) traceNilCard

/-- THE SECOND FORM's CARD OF 'ratchetlaw33.TraceNil'. -/
def traceNilUptoCard : Claim7 := { stood := { row := traceNilUptoRow, standIns := [], harness := (true, "614d94f6e5aff2500cb7934555701ccefab8be0593d852e0da0f6f3760b37ddc"), looks := true }, kinds := [], alts := [], laidByText := true, laidKinds := [.data, .data, .data, .data, .sentinel, .sentinel], laidTests := true, laidLooks := .later }
def TraceNilUptoCardSaid : Prop := Claim7.holds Tryz.pinned (.plain (OpenSpec.upto traceNilSpec)) traceNilUptoCard
end Rows
end Go.Proofs.YteokklempfnpaaaGreatDoor
