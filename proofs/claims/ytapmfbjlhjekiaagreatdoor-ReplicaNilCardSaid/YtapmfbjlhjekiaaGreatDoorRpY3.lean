/-
  What is known by now. Conditions: none.
-/
import Derived.Test.YtapmfbjlhjekiaaGreatDoorRpK3a
namespace Go.Proofs.YtapmfbjlhjekiaaGreatDoor
open Go.RowKit Go.Sx Go.Ev
set_option linter.unusedVariables false
set_option linter.unusedSimpArgs false
set_option linter.unnecessarySimpa false
set_option maxRecDepth 100000
noncomputable def tab3 : List Key := [k19_6545, k19_9516]
theorem tab3_ok : ∀ e ∈ tab3, KeyOK Tryz.prog tabG e := by
  intro e he
  simp only [tab3, List.mem_cons, List.not_mem_nil, or_false] at he
  rcases he with rfl | rfl
  · exact k19_6545_ok
  · exact k19_9516_ok
noncomputable def Y3 : Specs := withKeys Tryz.prog tabG plans Y2 100000 tab3
theorem y3_ok : SpecsOK Tryz.prog tabG Y3 := withKeys_ok y2_ok hpl mix 100000 tab3_ok
end Go.Proofs.YtapmfbjlhjekiaaGreatDoor
