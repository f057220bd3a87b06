/-
  What is known by now. Conditions: none.
-/
import Derived.Test.YteokklempfnpaaaGreatDoorTrK2a
import Derived.Test.YteokklempfnpaaaGreatDoorTrK2b
import Derived.Test.YteokklempfnpaaaGreatDoorTrK2c
namespace Go.Proofs.YteokklempfnpaaaGreatDoor
open Go.RowKit Go.Sx Go.Ev
set_option linter.unusedVariables false
set_option linter.unusedSimpArgs false
set_option linter.unnecessarySimpa false
set_option maxRecDepth 100000
noncomputable def tab2 : List Key := [k171_1113, k171_1363, k171_3136, k171_3386, k171_5159, k171_5409, k171_7979, k171_8229, k171_10002, k171_10252, k171_12025, k171_12275]
theorem tab2_ok : ∀ e ∈ tab2, KeyOK Tryz.prog tabG e := by
  intro e he
  simp only [tab2, List.mem_cons, List.not_mem_nil, or_false] at he
  rcases he with rfl | rfl | rfl | rfl | rfl | rfl | rfl | rfl | rfl | rfl | rfl | rfl
  · exact k171_1113_ok
  · exact k171_1363_ok
  · exact k171_3136_ok
  · exact k171_3386_ok
  · exact k171_5159_ok
  · exact k171_5409_ok
  · exact k171_7979_ok
  · exact k171_8229_ok
  · exact k171_10002_ok
  · exact k171_10252_ok
  · exact k171_12025_ok
  · exact k171_12275_ok
noncomputable def Y2 : Specs := withKeys Tryz.prog tabG plans Y1 100000 tab2
theorem y2_ok : SpecsOK Tryz.prog tabG Y2 := withKeys_ok y1_ok hpl mix 100000 tab2_ok
end Go.Proofs.YteokklempfnpaaaGreatDoor
