/-
  What is known by now. Conditions: none.
-/
import Derived.Test.YtnajnkhjnkilgaaGreatDoorClK3a
import Derived.Test.YtnajnkhjnkilgaaGreatDoorClK3b
namespace Go.Proofs.YtnajnkhjnkilgaaGreatDoor
open Go.RowKit Go.Sx Go.Ev
set_option linter.unusedVariables false
set_option linter.unusedSimpArgs false
set_option linter.unnecessarySimpa false
set_option maxRecDepth 100000
noncomputable def tab3 : List Key := [k85_1363, k85_3386, k85_5409, k143_10707, k143_13955, k156_16983]
theorem tab3_ok : ∀ e ∈ tab3, KeyOK Tryz.prog tabG e := by
  intro e he
  simp only [tab3, List.mem_cons, List.not_mem_nil, or_false] at he
  rcases he with rfl | rfl | rfl | rfl | rfl | rfl
  · exact k85_1363_ok
  · exact k85_3386_ok
  · exact k85_5409_ok
  · exact k143_10707_ok
  · exact k143_13955_ok
  · exact k156_16983_ok
noncomputable def Y3 : Specs := withKeys Tryz.prog tabG plans Y2 100000 tab3
theorem y3_ok : SpecsOK Tryz.prog tabG Y3 := withKeys_ok y2_ok hpl mix 100000 tab3_ok
end Go.Proofs.YtnajnkhjnkilgaaGreatDoor
