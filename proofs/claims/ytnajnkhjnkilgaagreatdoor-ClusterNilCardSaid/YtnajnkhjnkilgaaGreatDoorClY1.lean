/-
  What is known by now. Conditions: none.
-/
import Derived.Test.YtnajnkhjnkilgaaGreatDoorClK1a
import Derived.Test.YtnajnkhjnkilgaaGreatDoorClK1b
import Derived.Test.YtnajnkhjnkilgaaGreatDoorClK1c
import Derived.Test.YtnajnkhjnkilgaaGreatDoorClK1d
import Derived.Test.YtnajnkhjnkilgaaGreatDoorClK1e
import Derived.Test.YtnajnkhjnkilgaaGreatDoorClK1f
import Derived.Test.YtnajnkhjnkilgaaGreatDoorClK1g
import Derived.Test.YtnajnkhjnkilgaaGreatDoorClK1h
import Derived.Test.YtnajnkhjnkilgaaGreatDoorClK1i
namespace Go.Proofs.YtnajnkhjnkilgaaGreatDoor
open Go.RowKit Go.Sx Go.Ev
set_option linter.unusedVariables false
set_option linter.unusedSimpArgs false
set_option linter.unnecessarySimpa false
set_option maxRecDepth 100000
noncomputable def tab1 : List Key := [k47_13, k328_1238, k328_1361, k328_1488, k328_1611, k47_2036, k328_3261, k328_3384, k328_3511, k328_3634, k47_4059, k328_5284, k328_5407, k328_5534, k328_5657, k218_6095, k218_6376, k290_7147, k290_8254, k218_8852, k204_9946, k204_11324, k218_11643, k204_12932, k204_13754, k204_14572, k218_14891, k290_16386, k204_17697, k204_18768]
theorem tab1_ok : ∀ e ∈ tab1, KeyOK Tryz.prog tabG e := by
  intro e he
  simp only [tab1, List.mem_cons, List.not_mem_nil, or_false] at he
  rcases he with rfl | rfl | rfl | rfl | rfl | rfl | rfl | rfl | rfl | rfl | rfl | rfl | rfl | rfl | rfl | rfl | rfl | rfl | rfl | rfl | rfl | rfl | rfl | rfl | rfl | rfl | rfl | rfl | rfl | rfl
  · exact k47_13_ok
  · exact k328_1238_ok
  · exact k328_1361_ok
  · exact k328_1488_ok
  · exact k328_1611_ok
  · exact k47_2036_ok
  · exact k328_3261_ok
  · exact k328_3384_ok
  · exact k328_3511_ok
  · exact k328_3634_ok
  · exact k47_4059_ok
  · exact k328_5284_ok
  · exact k328_5407_ok
  · exact k328_5534_ok
  · exact k328_5657_ok
  · exact k218_6095_ok
  · exact k218_6376_ok
  · exact k290_7147_ok
  · exact k290_8254_ok
  · exact k218_8852_ok
  · exact k204_9946_ok
  · exact k204_11324_ok
  · exact k218_11643_ok
  · exact k204_12932_ok
  · exact k204_13754_ok
  · exact k204_14572_ok
  · exact k218_14891_ok
  · exact k290_16386_ok
  · exact k204_17697_ok
  · exact k204_18768_ok
noncomputable def Y1 : Specs := withKeys Tryz.prog tabG plans X1 100000 tab1
theorem y1_ok : SpecsOK Tryz.prog tabG Y1 := withKeys_ok x1_ok hpl mix 100000 tab1_ok
end Go.Proofs.YtnajnkhjnkilgaaGreatDoor
