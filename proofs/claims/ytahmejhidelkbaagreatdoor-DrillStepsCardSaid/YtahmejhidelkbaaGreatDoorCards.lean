/-
  DERIVED. GIVEN WITH THE SEED: THE CARDS: each row of YtahmejhidelkbaaGreatDoorRows.lean that lists a variable, with what it lists TIED to the program's text (the seventh form; the later family's looks); each row that meets fmt, with fmt's text TOLD by the authors' own Lean function (tested against real Go, not proved from fmt's source: count such statements apart). THE CARD IS WHAT COUNTS. Prove the row's statement (the work); the ties are given (YtahmejhidelkbaaGreatDoorTie.lean); close each card by the builder's one call (the guide's Derived/Test/ToyasCard.lean, 'card_holds'). Laid BY PROGRAM, IN A SANDBOX (cutbox-door.mjs). By AI agents, Wed Nov 11 2026. No macro, syntax, notation, axiom, sorry.
-/
import Derived.Test.YtahmejhidelkbaaGreatDoorRows
import GoSem.ClaimSeven
namespace Go.Proofs.YtahmejhidelkbaaGreatDoor
namespace Rows

/-- THE TIED CARD OF 'ratchetlaw34.DrillSteps'. -/
def drillStepsCard : Claim7 := { stood := { row := drillStepsRow, standIns := [], harness := (true, "0d62840aca05aa1602eeef6949f883b44cf5fcf3ae8b6ba6f6359b40f0962840"), looks := true }, kinds := [], alts := [], laidByText := true, laidKinds := [.data, .data, .data, .data, .sentinel, .sentinel], laidTests := true, laidLooks := .later }
def DrillStepsCardSaid : Prop := Claim7.holds Tryz.pinned (.plain (OpenSpec.ofChange drillStepsSpec)) drillStepsCard

/-- THE TIED CARD OF 'ratchetlaw34.DrillNil'. -/
def drillNilCard : Claim7 := { stood := { row := drillNilRow, standIns := [], harness := (true, "0d62840aca05aa1602eeef6949f883b44cf5fcf3ae8b6ba6f6359b40f0962840"), looks := true }, kinds := [], alts := [], laidByText := true, laidKinds := [.data, .data, .data, .data, .sentinel, .sentinel], laidTests := true, laidLooks := .later }
def DrillNilCardSaid : Prop := Claim7.holds Tryz.pinned (.plain (OpenSpec.ofChange drillNilSpec)) drillNilCard

/-- THE SECOND FORM's CARD OF 'ratchetlaw34.DrillSteps'. -/
def drillStepsUptoCard : Claim7 := { stood := { row := drillStepsUptoRow, standIns := [], harness := (true, "0d62840aca05aa1602eeef6949f883b44cf5fcf3ae8b6ba6f6359b40f0962840"), looks := true }, kinds := [], alts := [], laidByText := true, laidKinds := [.data, .data, .data, .data, .sentinel, .sentinel], laidTests := true, laidLooks := .later }
def DrillStepsUptoCardSaid : Prop := Claim7.holds Tryz.pinned (.plain (OpenSpec.upto drillStepsSpec)) drillStepsUptoCard

/-- THE SECOND FORM's CARD OF 'ratchetlaw34.DrillNil'. -/
def drillNilUptoCard : Claim7 := { stood := { row := drillNilUptoRow, standIns := [], harness := (true, "0d62840aca05aa1602eeef6949f883b44cf5fcf3ae8b6ba6f6359b40f0962840"), looks := true }, kinds := [], alts := [], laidByText := true, laidKinds := [.data, .data, .data, .data, .sentinel, .sentinel], laidTests := true, laidLooks := .later }
def DrillNilUptoCardSaid : Prop := Claim7.holds Tryz.pinned (.plain (OpenSpec.upto drillNilSpec)) drillNilUptoCard
end Rows
end Go.Proofs.YtahmejhidelkbaaGreatDoor
