/-
  What is known by now. Conditions: none.
-/
import Derived.Test.YthdggndldnefpaaGreatDoorWoK4a
import Derived.Test.YthdggndldnefpaaGreatDoorEvU
namespace Go.Proofs.YthdggndldnefpaaGreatDoor
open Go.RowKit Go.Sx Go.Ev
set_option linter.unusedVariables false
set_option linter.unusedSimpArgs false
set_option linter.unnecessarySimpa false
set_option maxRecDepth 100000
noncomputable def tab4 : List Key := [k24_0, k156_13011, k165_17755, k165_21347, k17_26365, k17_38595, k17_31301, k17_33825, k17_43562, k17_46707]
theorem tab4_ok : ∀ e ∈ tab4, KeyOK Tryz.prog tabG e := by
  intro e he
  simp only [tab4, List.mem_cons, List.not_mem_nil, or_false] at he
  rcases he with rfl | rfl | rfl | rfl | rfl | rfl | rfl | rfl | rfl | rfl
  · exact k24_0_ok
  · exact k156_13011_ok
  · exact k165_17755_ok
  · exact k165_21347_ok
  · exact k17_26365_ok
  · exact k17_38595_ok
  · exact k17_31301_ok
  · exact k17_33825_ok
  · exact k17_43562_ok
  · exact k17_46707_ok
noncomputable def tall4 : List Key := tab4 ++ tall3
theorem tall4_ok : ∀ e ∈ tall4, KeyOK Tryz.prog tabG e := by
  intro e he
  simp only [tall4, List.mem_append] at he
  rcases he with he | he
  · exact tab4_ok e he
  · exact tall3_ok e he
noncomputable def Y4 : Specs := withAll Tryz.prog tabG plans X1 100000 (fun _ => false) tall4 10
theorem y4_ok : SpecsOK Tryz.prog tabG Y4 := withAll_ok x1_ok hpl mix 100000 _ tall4_ok 10
end Go.Proofs.YthdggndldnefpaaGreatDoor
