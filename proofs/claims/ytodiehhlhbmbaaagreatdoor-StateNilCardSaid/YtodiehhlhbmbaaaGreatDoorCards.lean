/-
  DERIVED. GIVEN WITH THE SEED: THE CARDS: each row of YtodiehhlhbmbaaaGreatDoorRows.lean that lists a variable, with what it lists TIED to the program's text (the seventh form; the later family's looks); each row that meets fmt, with fmt's text TOLD by the authors' own Lean function (tested against real Go, not proved from fmt's source: count such statements apart). THE CARD IS WHAT COUNTS. Prove the row's statement (the work); the ties are given (YtodiehhlhbmbaaaGreatDoorTie.lean); close each card by the builder's one call (the guide's Derived/Test/ToyasCard.lean, 'card_holds'). Laid BY PROGRAM, IN A SANDBOX (cutbox-door.mjs). By AI agents, Wed Nov 11 2026. No macro, syntax, notation, axiom, sorry.
-/
import Derived.Test.YtodiehhlhbmbaaaGreatDoorRows
import GoSem.ClaimSeven
namespace Go.Proofs.YtodiehhlhbmbaaaGreatDoor
namespace Rows

/-- THE TIED CARD OF 'ratchetlaw11.StateAdds'. -/
def stateAddsCard : Claim7 := { stood := { row := stateAddsRow, standIns := [], harness := (true, "ea2b37c383cf728f6e540a506f289079fddb502060e9ff303c5420dd5d52f4b3"), looks := true }, kinds := [], alts := [], laidByText := true, laidKinds := [.data, .data, .data, .sentinel, .sentinel], laidTests := true, laidLooks := .later }
def StateAddsCardSaid : Prop := Claim7.holds Tryz.pinned (.plain (OpenSpec.ofChange stateAddsSpec)) stateAddsCard

/-- THE TIED CARD OF 'ratchetlaw11.StateNil'. -/
def stateNilCard : Claim7 := { stood := { row := stateNilRow, standIns := [], harness := (true, "ea2b37c383cf728f6e540a506f289079fddb502060e9ff303c5420dd5d52f4b3"), looks := true }, kinds := [], alts := [], laidByText := true, laidKinds := [.data, .data, .data, .data, .sentinel, .sentinel], laidTests := true, laidLooks := .later }
def StateNilCardSaid : Prop := Claim7.holds Tryz.pinned (.plain (OpenSpec.ofChange stateNilSpec)) stateNilCard

/-- THE SECOND FORM's CARD OF 'ratchetlaw11.StateAdds'. -/
def stateAddsUptoCard : Claim7 := { stood := { row := stateAddsUptoRow, standIns := [], harness := (true, "ea2b37c383cf728f6e540a506f289079fddb502060e9ff303c5420dd5d52f4b3"), looks := true }, kinds := [], alts := [], laidByText := true, laidKinds := [.data, .data, .data, .sentinel, .sentinel], laidTests := true, laidLooks := .later }
def StateAddsUptoCardSaid : Prop := Claim7.holds Tryz.pinned (.plain (OpenSpec.upto stateAddsSpec)) stateAddsUptoCard

/-- THE SECOND FORM's CARD OF 'ratchetlaw11.StateNil'. -/
def stateNilUptoCard : Claim7 := { stood := { row := stateNilUptoRow, standIns := [], harness := (true, "ea2b37c383cf728f6e540a506f289079fddb502060e9ff303c5420dd5d52f4b3"), looks := true }, kinds := [], alts := [], laidByText := true, laidKinds := [.data, .data, .data, .data, .sentinel, .sentinel], laidTests := true, laidLooks := .later }
def StateNilUptoCardSaid : Prop := Claim7.holds Tryz.pinned (.plain (OpenSpec.upto stateNilSpec)) stateNilUptoCard
end Rows
end Go.Proofs.YtodiehhlhbmbaaaGreatDoor
