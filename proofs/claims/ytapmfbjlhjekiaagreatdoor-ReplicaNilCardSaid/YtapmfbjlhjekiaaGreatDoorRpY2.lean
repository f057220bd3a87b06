/-
  What is known by now. Conditions: none.
-/
import Derived.Test.YtapmfbjlhjekiaaGreatDoorRpK2a
namespace Go.Proofs.YtapmfbjlhjekiaaGreatDoor
open Go.RowKit Go.Sx Go.Ev
set_option linter.unusedVariables false
set_option linter.unusedSimpArgs false
set_option linter.unnecessarySimpa false
set_option maxRecDepth 100000
noncomputable def tab2 : List Key := [k27_81, k64_6233, k124_6661, k124_7992, k124_8814, k124_9632]
theorem tab2_ok : ∀ e ∈ tab2, KeyOK Tryz.prog tabG e := by
  intro e he
  simp only [tab2, List.mem_cons, List.not_mem_nil, or_false] at he
  rcases he with rfl | rfl | rfl | rfl | rfl | rfl
  · exact k27_81_ok
  · exact k64_6233_ok
  · exact k124_6661_ok
  · exact k124_7992_ok
  · exact k124_8814_ok
  · exact k124_9632_ok
noncomputable def Y2 : Specs := withKeys Tryz.prog tabG plans Y1 100000 tab2
theorem y2_ok : SpecsOK Tryz.prog tabG Y2 := withKeys_ok y1_ok hpl mix 100000 tab2_ok
end Go.Proofs.YtapmfbjlhjekiaaGreatDoor
