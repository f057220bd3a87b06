/-
  DERIVED. GIVEN WITH THE SEED: THE CARDS: each row of YtnhjlddkmakfbaaDoorRows.lean that lists a variable, with what it lists TIED to the program's text (the seventh form; the later family's looks); each row that meets fmt, with fmt's text TOLD by the authors' own Lean function (tested against real Go, not proved from fmt's source: count such statements apart). THE CARD IS WHAT COUNTS. Prove the row's statement (the work); the ties are given (YtnhjlddkmakfbaaDoorTie.lean); close each card by the builder's one call (the guide's Derived/Test/ToyasCard.lean, 'card_holds'). Laid BY PROGRAM, IN A SANDBOX (cutbox-door.mjs). By AI agents, Wed Nov 11 2026. No macro, syntax, notation, axiom, sorry.
-/
import Derived.Test.YtnhjlddkmakfbaaDoorRows
import GoSem.ClaimSeven
namespace Go.Proofs.YtnhjlddkmakfbaaDoor
namespace Rows

/-- THE TIED CARD OF 'ratchetlaw35.PilotTimes'. -/
def pilotTimesCard : Claim7 := { stood := { row := pilotTimesRow, standIns := [], harness := (true, "74d543735af6fbb98c8dd2e20b4918824e1f06bfce8970b4815724e0d2f34d15"), looks := false }, kinds := [], alts := [], laidByText := true, laidKinds := [.data], laidTests := true, laidLooks := .later }
def PilotTimesCardSaid : Prop := Claim7.holds Tryd.pinned (.plain (OpenSpec.ofChange pilotTimesSpec)) pilotTimesCard

/-- THE SECOND FORM's CARD OF 'ratchetlaw35.PilotTimes'. -/
def pilotTimesUptoCard : Claim7 := { stood := { row := pilotTimesUptoRow, standIns := [], harness := (true, "74d543735af6fbb98c8dd2e20b4918824e1f06bfce8970b4815724e0d2f34d15"), looks := false }, kinds := [], alts := [], laidByText := true, laidKinds := [.data], laidTests := true, laidLooks := .later }
def PilotTimesUptoCardSaid : Prop := Claim7.holds Tryd.pinned (.plain (OpenSpec.upto pilotTimesSpec)) pilotTimesUptoCard
end Rows
end Go.Proofs.YtnhjlddkmakfbaaDoor
