/-
  What is known by now. Conditions: none.
-/
import Derived.Test.YthekpemobnajhaaGreatDoorInK1j
import Derived.Test.YthekpemobnajhaaGreatDoorInK1a
import Derived.Test.YthekpemobnajhaaGreatDoorInK1b
import Derived.Test.YthekpemobnajhaaGreatDoorInK1c
import Derived.Test.YthekpemobnajhaaGreatDoorInK1d
import Derived.Test.YthekpemobnajhaaGreatDoorInK1e
namespace Go.Proofs.YthekpemobnajhaaGreatDoor
open Go.RowKit Go.Sx Go.Ev
set_option linter.unusedVariables false
set_option linter.unusedSimpArgs false
set_option linter.unnecessarySimpa false
set_option maxRecDepth 100000
noncomputable def tab1 : List Key := [k105_1100, k105_1223, k105_1351, k105_1474, k105_1792, k105_1915, k105_2043, k105_2166, k105_2517, k105_2640, k6_2764]
theorem tab1_ok : ∀ e ∈ tab1, KeyOK Tryz.prog tabG e := by
  intro e he
  simp only [tab1, List.mem_cons, List.not_mem_nil, or_false] at he
  rcases he with rfl | rfl | rfl | rfl | rfl | rfl | rfl | rfl | rfl | rfl | rfl
  · exact k105_1100_ok
  · exact k105_1223_ok
  · exact k105_1351_ok
  · exact k105_1474_ok
  · exact k105_1792_ok
  · exact k105_1915_ok
  · exact k105_2043_ok
  · exact k105_2166_ok
  · exact k105_2517_ok
  · exact k105_2640_ok
  · exact k6_2764_ok
noncomputable def Y1 : Specs := withKeys Tryz.prog tabG plans X1 100000 tab1
theorem y1_ok : SpecsOK Tryz.prog tabG Y1 := withKeys_ok x1_ok hpl mix 100000 tab1_ok
end Go.Proofs.YthekpemobnajhaaGreatDoor
