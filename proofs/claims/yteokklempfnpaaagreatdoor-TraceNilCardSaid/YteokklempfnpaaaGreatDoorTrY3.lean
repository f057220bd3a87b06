/-
  What is known by now. Conditions: none.
-/
import Derived.Test.YteokklempfnpaaaGreatDoorTrK3a
import Derived.Test.YteokklempfnpaaaGreatDoorTrK3b
namespace Go.Proofs.YteokklempfnpaaaGreatDoor
open Go.RowKit Go.Sx Go.Ev
set_option linter.unusedVariables false
set_option linter.unusedSimpArgs false
set_option linter.unnecessarySimpa false
set_option maxRecDepth 100000
noncomputable def tab3 : List Key := [k110_1363, k110_3386, k110_5409, k110_8229, k110_10252, k110_12275]
theorem tab3_ok : ∀ e ∈ tab3, KeyOK Tryz.prog tabG e := by
  intro e he
  simp only [tab3, List.mem_cons, List.not_mem_nil, or_false] at he
  rcases he with rfl | rfl | rfl | rfl | rfl | rfl
  · exact k110_1363_ok
  · exact k110_3386_ok
  · exact k110_5409_ok
  · exact k110_8229_ok
  · exact k110_10252_ok
  · exact k110_12275_ok
noncomputable def Y3 : Specs := withKeys Tryz.prog tabG plans Y2 100000 tab3
theorem y3_ok : SpecsOK Tryz.prog tabG Y3 := withKeys_ok y2_ok hpl mix 100000 tab3_ok
end Go.Proofs.YteokklempfnpaaaGreatDoor
