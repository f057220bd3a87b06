/-
  What is known by now. Conditions: none.
-/
import Derived.Test.YtnajnkhjnkilgaaGreatDoorClK4a
namespace Go.Proofs.YtnajnkhjnkilgaaGreatDoor
open Go.RowKit Go.Sx Go.Ev
set_option linter.unusedVariables false
set_option linter.unusedSimpArgs false
set_option linter.unnecessarySimpa false
set_option maxRecDepth 100000
noncomputable def tab4 : List Key := [k24_0, k156_9115, k165_12313]
theorem tab4_ok : ∀ e ∈ tab4, KeyOK Tryz.prog tabG e := by
  intro e he
  simp only [tab4, List.mem_cons, List.not_mem_nil, or_false] at he
  rcases he with rfl | rfl | rfl
  · exact k24_0_ok
  · exact k156_9115_ok
  · exact k165_12313_ok
noncomputable def Y4 : Specs := withKeys Tryz.prog tabG plans Y3 100000 tab4
theorem y4_ok : SpecsOK Tryz.prog tabG Y4 := withKeys_ok y3_ok hpl mix 100000 tab4_ok
end Go.Proofs.YtnajnkhjnkilgaaGreatDoor
