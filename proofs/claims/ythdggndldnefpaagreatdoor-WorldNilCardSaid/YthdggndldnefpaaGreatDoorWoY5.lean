/-
  What is known by now. Conditions: none.
-/
import Derived.Test.YthdggndldnefpaaGreatDoorWoK5a
import Derived.Test.YthdggndldnefpaaGreatDoorEvU
namespace Go.Proofs.YthdggndldnefpaaGreatDoor
open Go.RowKit Go.Sx Go.Ev
set_option linter.unusedVariables false
set_option linter.unusedSimpArgs false
set_option linter.unnecessarySimpa false
set_option maxRecDepth 100000
noncomputable def tab5 : List Key := [k17_11607]
theorem tab5_ok : ∀ e ∈ tab5, KeyOK Tryz.prog tabG e := by
  intro e he
  simp only [tab5, List.mem_cons, List.not_mem_nil, or_false] at he
  rcases he with rfl
  · exact k17_11607_ok
noncomputable def tall5 : List Key := tab5 ++ tall4
theorem tall5_ok : ∀ e ∈ tall5, KeyOK Tryz.prog tabG e := by
  intro e he
  simp only [tall5, List.mem_append] at he
  rcases he with he | he
  · exact tab5_ok e he
  · exact tall4_ok e he
noncomputable def Y5 : Specs := withAll Tryz.prog tabG plans X1 100000 (fun _ => false) tall5 10
theorem y5_ok : SpecsOK Tryz.prog tabG Y5 := withAll_ok x1_ok hpl mix 100000 _ tall5_ok 10
end Go.Proofs.YthdggndldnefpaaGreatDoor
