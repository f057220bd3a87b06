/-
  What is known by now. Conditions: none.
-/
import Derived.Test.YteokklempfnpaaaGreatDoorTrK5a
namespace Go.Proofs.YteokklempfnpaaaGreatDoor
open Go.RowKit Go.Sx Go.Ev
set_option linter.unusedVariables false
set_option linter.unusedSimpArgs false
set_option linter.unnecessarySimpa false
set_option maxRecDepth 100000
noncomputable def tab5 : List Key := [k12_6625]
theorem tab5_ok : ∀ e ∈ tab5, KeyOK Tryz.prog tabG e := by
  intro e he
  simp only [tab5, List.mem_cons, List.not_mem_nil, or_false] at he
  rcases he with rfl
  · exact k12_6625_ok
noncomputable def Y5 : Specs := withKeys Tryz.prog tabG plans Y4 100000 tab5
theorem y5_ok : SpecsOK Tryz.prog tabG Y5 := withKeys_ok y4_ok hpl mix 100000 tab5_ok
end Go.Proofs.YteokklempfnpaaaGreatDoor
