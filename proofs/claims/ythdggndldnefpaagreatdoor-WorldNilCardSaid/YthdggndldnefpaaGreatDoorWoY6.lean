/-
  What is known by now. Conditions: none.
-/
import Derived.Test.YthdggndldnefpaaGreatDoorWoK6a
import Derived.Test.YthdggndldnefpaaGreatDoorEvU
namespace Go.Proofs.YthdggndldnefpaaGreatDoor
open Go.RowKit Go.Sx Go.Ev
set_option linter.unusedVariables false
set_option linter.unusedSimpArgs false
set_option linter.unnecessarySimpa false
set_option maxRecDepth 100000
noncomputable def tab6 : List Key := [k69_10130]
theorem tab6_ok : ∀ e ∈ tab6, KeyOK Tryz.prog tabG e := by
  intro e he
  simp only [tab6, List.mem_cons, List.not_mem_nil, or_false] at he
  rcases he with rfl
  · exact k69_10130_ok
noncomputable def tall6 : List Key := tab6 ++ tall5
theorem tall6_ok : ∀ e ∈ tall6, KeyOK Tryz.prog tabG e := by
  intro e he
  simp only [tall6, List.mem_append] at he
  rcases he with he | he
  · exact tab6_ok e he
  · exact tall5_ok e he
noncomputable def Y6 : Specs := withAll Tryz.prog tabG plans X1 100000 (fun _ => false) tall6 10
theorem y6_ok : SpecsOK Tryz.prog tabG Y6 := withAll_ok x1_ok hpl mix 100000 _ tall6_ok 10
end Go.Proofs.YthdggndldnefpaaGreatDoor
