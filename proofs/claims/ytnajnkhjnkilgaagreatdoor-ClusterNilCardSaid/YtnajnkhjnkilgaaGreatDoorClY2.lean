/-
  What is known by now. Conditions: none.
-/
import Derived.Test.YtnajnkhjnkilgaaGreatDoorClK2a
import Derived.Test.YtnajnkhjnkilgaaGreatDoorClK2b
import Derived.Test.YtnajnkhjnkilgaaGreatDoorClK2c
namespace Go.Proofs.YtnajnkhjnkilgaaGreatDoor
open Go.RowKit Go.Sx Go.Ev
set_option linter.unusedVariables false
set_option linter.unusedSimpArgs false
set_option linter.unnecessarySimpa false
set_option maxRecDepth 100000
noncomputable def tab2 : List Key := [k131_1113, k131_1363, k131_3136, k131_3386, k131_5159, k131_5409, k330_10823, k330_12431, k330_13253, k330_14071, k143_18329]
theorem tab2_ok : ∀ e ∈ tab2, KeyOK Tryz.prog tabG e := by
  intro e he
  simp only [tab2, List.mem_cons, List.not_mem_nil, or_false] at he
  rcases he with rfl | rfl | rfl | rfl | rfl | rfl | rfl | rfl | rfl | rfl | rfl
  · exact k131_1113_ok
  · exact k131_1363_ok
  · exact k131_3136_ok
  · exact k131_3386_ok
  · exact k131_5159_ok
  · exact k131_5409_ok
  · exact k330_10823_ok
  · exact k330_12431_ok
  · exact k330_13253_ok
  · exact k330_14071_ok
  · exact k143_18329_ok
noncomputable def Y2 : Specs := withKeys Tryz.prog tabG plans Y1 100000 tab2
theorem y2_ok : SpecsOK Tryz.prog tabG Y2 := withKeys_ok y1_ok hpl mix 100000 tab2_ok
end Go.Proofs.YtnajnkhjnkilgaaGreatDoor
