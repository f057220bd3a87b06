/-
  What is known by now. Conditions: none.
-/
import Derived.Test.YtapmfbjlhjekiaaGreatDoorRpK1a
import Derived.Test.YtapmfbjlhjekiaaGreatDoorRpK1b
import Derived.Test.YtapmfbjlhjekiaaGreatDoorRpK1c
import Derived.Test.YtapmfbjlhjekiaaGreatDoorRpK1d
namespace Go.Proofs.YtapmfbjlhjekiaaGreatDoor
open Go.RowKit Go.Sx Go.Ev
set_option linter.unusedVariables false
set_option linter.unusedSimpArgs false
set_option linter.unnecessarySimpa false
set_option maxRecDepth 100000
noncomputable def tab1 : List Key := [k171_193, k171_417, k171_425, k171_571, k171_579, k58_594, k60_1365, k58_1936, k60_2707, k60_3799, k58_4397, k60_5187, k171_6204, k171_6359, k171_6367, k171_6375, k171_6383, k171_6529, k171_6537, k219_7162, k58_7481, k219_8493, k219_9315, k219_10133, k58_10452, k60_11365]
theorem tab1_ok : ∀ e ∈ tab1, KeyOK Tryz.prog tabG e := by
  intro e he
  simp only [tab1, List.mem_cons, List.not_mem_nil, or_false] at he
  rcases he with rfl | rfl | rfl | rfl | rfl | rfl | rfl | rfl | rfl | rfl | rfl | rfl | rfl | rfl | rfl | rfl | rfl | rfl | rfl | rfl | rfl | rfl | rfl | rfl | rfl | rfl
  · exact k171_193_ok
  · exact k171_417_ok
  · exact k171_425_ok
  · exact k171_571_ok
  · exact k171_579_ok
  · exact k58_594_ok
  · exact k60_1365_ok
  · exact k58_1936_ok
  · exact k60_2707_ok
  · exact k60_3799_ok
  · exact k58_4397_ok
  · exact k60_5187_ok
  · exact k171_6204_ok
  · exact k171_6359_ok
  · exact k171_6367_ok
  · exact k171_6375_ok
  · exact k171_6383_ok
  · exact k171_6529_ok
  · exact k171_6537_ok
  · exact k219_7162_ok
  · exact k58_7481_ok
  · exact k219_8493_ok
  · exact k219_9315_ok
  · exact k219_10133_ok
  · exact k58_10452_ok
  · exact k60_11365_ok
noncomputable def Y1 : Specs := withKeys Tryz.prog tabG plans X1 100000 tab1
theorem y1_ok : SpecsOK Tryz.prog tabG Y1 := withKeys_ok x1_ok hpl mix 100000 tab1_ok
end Go.Proofs.YtapmfbjlhjekiaaGreatDoor
