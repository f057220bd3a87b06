/-
  What is known by now. Conditions: none.
-/
import Derived.Test.YteokklempfnpaaaGreatDoorTrK1a
import Derived.Test.YteokklempfnpaaaGreatDoorTrK1b
import Derived.Test.YteokklempfnpaaaGreatDoorTrK1c
import Derived.Test.YteokklempfnpaaaGreatDoorTrK1d
import Derived.Test.YteokklempfnpaaaGreatDoorTrK1e
import Derived.Test.YteokklempfnpaaaGreatDoorTrK1f
import Derived.Test.YteokklempfnpaaaGreatDoorTrK1g
import Derived.Test.YteokklempfnpaaaGreatDoorTrK1h
import Derived.Test.YteokklempfnpaaaGreatDoorTrK1i
import Derived.Test.YteokklempfnpaaaGreatDoorTrK1j
import Derived.Test.YteokklempfnpaaaGreatDoorTrK1k
import Derived.Test.YteokklempfnpaaaGreatDoorTrK1l
namespace Go.Proofs.YteokklempfnpaaaGreatDoor
open Go.RowKit Go.Sx Go.Ev
set_option linter.unusedVariables false
set_option linter.unusedSimpArgs false
set_option linter.unnecessarySimpa false
set_option maxRecDepth 100000
noncomputable def tab1 : List Key := [k63_13, k322_1238, k322_1361, k322_1488, k322_1611, k63_2036, k322_3261, k322_3384, k322_3511, k322_3634, k63_4059, k322_5284, k322_5407, k322_5534, k322_5657, k240_6320, k63_6879, k322_8104, k322_8227, k322_8354, k322_8477, k63_8902, k322_10127, k322_10250, k322_10377, k322_10500, k63_10925, k322_12150, k322_12273, k322_12400, k322_12523, k240_13187]
theorem tab1_ok : ∀ e ∈ tab1, KeyOK Tryz.prog tabG e := by
  intro e he
  simp only [tab1, List.mem_cons, List.not_mem_nil, or_false] at he
  rcases he with rfl | rfl | rfl | rfl | rfl | rfl | rfl | rfl | rfl | rfl | rfl | rfl | rfl | rfl | rfl | rfl | rfl | rfl | rfl | rfl | rfl | rfl | rfl | rfl | rfl | rfl | rfl | rfl | rfl | rfl | rfl | rfl
  · exact k63_13_ok
  · exact k322_1238_ok
  · exact k322_1361_ok
  · exact k322_1488_ok
  · exact k322_1611_ok
  · exact k63_2036_ok
  · exact k322_3261_ok
  · exact k322_3384_ok
  · exact k322_3511_ok
  · exact k322_3634_ok
  · exact k63_4059_ok
  · exact k322_5284_ok
  · exact k322_5407_ok
  · exact k322_5534_ok
  · exact k322_5657_ok
  · exact k240_6320_ok
  · exact k63_6879_ok
  · exact k322_8104_ok
  · exact k322_8227_ok
  · exact k322_8354_ok
  · exact k322_8477_ok
  · exact k63_8902_ok
  · exact k322_10127_ok
  · exact k322_10250_ok
  · exact k322_10377_ok
  · exact k322_10500_ok
  · exact k63_10925_ok
  · exact k322_12150_ok
  · exact k322_12273_ok
  · exact k322_12400_ok
  · exact k322_12523_ok
  · exact k240_13187_ok
noncomputable def Y1 : Specs := withKeys Tryz.prog tabG plans X1 100000 tab1
theorem y1_ok : SpecsOK Tryz.prog tabG Y1 := withKeys_ok x1_ok hpl mix 100000 tab1_ok
end Go.Proofs.YteokklempfnpaaaGreatDoor
