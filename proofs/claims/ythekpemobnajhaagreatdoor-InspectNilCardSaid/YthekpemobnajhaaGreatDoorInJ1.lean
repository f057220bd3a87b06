/-
  A piece of a long loop. Conditions: none.
-/
import Derived.Test.YthekpemobnajhaaGreatDoorInJM
namespace Go.Proofs.YthekpemobnajhaaGreatDoor
open Go.RowKit Go.Sx Go.Ev
set_option linter.unusedVariables false
set_option linter.unusedSimpArgs false
set_option linter.unnecessarySimpa false
set_option maxRecDepth 100000
theorem inJJ1_ok : jumpB Tryz.prog tabG plans X1 100000 6 Tryz.f6.ntmps inJLoop inJMem inJJ1 = true := by kernel_rfl
end Go.Proofs.YthekpemobnajhaaGreatDoor
