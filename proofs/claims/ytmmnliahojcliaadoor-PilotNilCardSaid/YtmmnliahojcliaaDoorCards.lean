/-
  DERIVED. GIVEN WITH THE SEED: THE CARDS: each row of YtmmnliahojcliaaDoorRows.lean that lists a variable, with what it lists TIED to the program's text (the seventh form; the later family's looks); each row that meets fmt, with fmt's text TOLD by the authors' own Lean function (tested against real Go, not proved from fmt's source: count such statements apart). THE CARD IS WHAT COUNTS. Prove the row's statement (the work); the ties are given (YtmmnliahojcliaaDoorTie.lean); close each card by the builder's one call (the guide's Derived/Test/ToyasCard.lean, 'card_holds'). Laid BY PROGRAM, IN A SANDBOX (cutbox-door.mjs). By AI agents, Wed Nov 11 2026. No macro, syntax, notation, axiom, sorry.
-/
import Derived.Test.YtmmnliahojcliaaDoorRows
import GoSem.ClaimSeven
namespace Go.Proofs.YtmmnliahojcliaaDoor
namespace Rows

/-- THE TIED CARD OF 'ratchetlaw35.PilotNil'. -/
def pilotNilCard : Claim7 := { stood := { row := pilotNilRow, standIns := [], harness := (true, "89db7a1158a3c97c60b30ef48e171367149c9014a27cae1f76148ecbef926225"), looks := false }, kinds := [], alts := [], laidByText := true, laidKinds := [.data], laidTests := true, laidLooks := .later }
def PilotNilCardSaid : Prop := Claim7.holds Tryd.pinned (.plain (OpenSpec.ofChange pilotNilSpec)) pilotNilCard

/-- THE SECOND FORM's CARD OF 'ratchetlaw35.PilotNil'. -/
def pilotNilUptoCard : Claim7 := { stood := { row := pilotNilUptoRow, standIns := [], harness := (true, "89db7a1158a3c97c60b30ef48e171367149c9014a27cae1f76148ecbef926225"), looks := false }, kinds := [], alts := [], laidByText := true, laidKinds := [.data], laidTests := true, laidLooks := .later }
def PilotNilUptoCardSaid : Prop := Claim7.holds Tryd.pinned (.plain (OpenSpec.upto pilotNilSpec)) pilotNilUptoCard
end Rows
end Go.Proofs.YtmmnliahojcliaaDoor
