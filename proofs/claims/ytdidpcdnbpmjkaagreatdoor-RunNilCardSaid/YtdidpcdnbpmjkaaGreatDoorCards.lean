/-
  DERIVED. GIVEN WITH THE SEED: THE CARDS: each row of YtdidpcdnbpmjkaaGreatDoorRows.lean that lists a variable, with what it lists TIED to the program's text (the seventh form; the later family's looks); each row that meets fmt, with fmt's text TOLD by the authors' own Lean function (tested against real Go, not proved from fmt's source: count such statements apart). THE CARD IS WHAT COUNTS. Prove the row's statement (the work); the ties are given (YtdidpcdnbpmjkaaGreatDoorTie.lean); close each card by the builder's one call (the guide's Derived/Test/ToyasCard.lean, 'card_holds'). Laid BY PROGRAM, IN A SANDBOX (cutbox-door.mjs). By AI agents, Wed Nov 11 2026. No macro, syntax, notation, axiom, sorry.
-/
import Derived.Test.YtdidpcdnbpmjkaaGreatDoorRows
import GoSem.ClaimSeven
namespace Go.Proofs.YtdidpcdnbpmjkaaGreatDoor
namespace Rows

/-- THE TIED CARD OF 'ratchetlaw17.RunNil'. -/
def runNilCard : Claim7 := { stood := { row := runNilRow, standIns := [], harness := (true, "da31cd53912e4e17da0764ed5b07d4cc59a818b46f29d763d6e41bca2f1602b4"), looks := true }, kinds := [], alts := [], laidByText := true, laidKinds := [.data, .data, .data, .data, .sentinel, .sentinel], laidTests := true, laidLooks := .later }
def RunNilCardSaid : Prop := Claim7.holds Tryz.pinned (.plain (OpenSpec.ofChange runNilSpec)) runNilCard

/-- THE SECOND FORM's CARD OF 'ratchetlaw17.RunNil'. -/
def runNilUptoCard : Claim7 := { stood := { row := runNilUptoRow, standIns := [], harness := (true, "da31cd53912e4e17da0764ed5b07d4cc59a818b46f29d763d6e41bca2f1602b4"), looks := true }, kinds := [], alts := [], laidByText := true, laidKinds := [.data, .data, .data, .data, .sentinel, .sentinel], laidTests := true, laidLooks := .later }
def RunNilUptoCardSaid : Prop := Claim7.holds Tryz.pinned (.plain (OpenSpec.upto runNilSpec)) runNilUptoCard
end Rows
end Go.Proofs.YtdidpcdnbpmjkaaGreatDoor
