/-
  What is known of sha.Block. Conditions: none.
-/
import Derived.Test.YtggkhhogpallbaaGreatDoorEvP
namespace Go.Proofs.YtggkhhogpallbaaGreatDoor
open Go.RowKit Go.Sx Go.Ev
set_option linter.unusedVariables false
set_option linter.unusedSimpArgs false
set_option linter.unnecessarySimpa false
set_option maxRecDepth 100000
noncomputable def X1 : Specs := X0
theorem x1_ok : SpecsOK Tryz.prog tabG X1 := x0_ok
end Go.Proofs.YtggkhhogpallbaaGreatDoor
