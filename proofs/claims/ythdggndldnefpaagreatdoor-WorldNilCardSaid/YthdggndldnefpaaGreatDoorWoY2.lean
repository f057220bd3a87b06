/-
  What is known by now. Conditions: none.
-/
import Derived.Test.YthdggndldnefpaaGreatDoorWoK2a
import Derived.Test.YthdggndldnefpaaGreatDoorWoK2b
import Derived.Test.YthdggndldnefpaaGreatDoorWoK2c
namespace Go.Proofs.YthdggndldnefpaaGreatDoor
open Go.RowKit Go.Sx Go.Ev
set_option linter.unusedVariables false
set_option linter.unusedSimpArgs false
set_option linter.unnecessarySimpa false
set_option maxRecDepth 100000
noncomputable def tab2 : List Key := [k131_1113, k131_1363, k131_3136, k131_3386, k131_5159, k131_5409, k17_6496, k17_7723, k17_8950, k330_14719, k17_15957, k330_17873, k330_18695, k330_19513, k330_21465, k330_22287, k330_23105, k143_28862, k17_29646, k143_32583, k330_33960, k143_35914, k143_41200, k17_41984, k143_45464, k143_47986]
theorem tab2_ok : ∀ e ∈ tab2, KeyOK Tryz.prog tabG e := by
  intro e he
  simp only [tab2, List.mem_cons, List.not_mem_nil, or_false] at he
  rcases he with rfl | rfl | rfl | rfl | rfl | rfl | rfl | rfl | rfl | rfl | rfl | rfl | rfl | rfl | rfl | rfl | rfl | rfl | rfl | rfl | rfl | rfl | rfl | rfl | rfl | rfl
  · exact k131_1113_ok
  · exact k131_1363_ok
  · exact k131_3136_ok
  · exact k131_3386_ok
  · exact k131_5159_ok
  · exact k131_5409_ok
  · exact k17_6496_ok
  · exact k17_7723_ok
  · exact k17_8950_ok
  · exact k330_14719_ok
  · exact k17_15957_ok
  · exact k330_17873_ok
  · exact k330_18695_ok
  · exact k330_19513_ok
  · exact k330_21465_ok
  · exact k330_22287_ok
  · exact k330_23105_ok
  · exact k143_28862_ok
  · exact k17_29646_ok
  · exact k143_32583_ok
  · exact k330_33960_ok
  · exact k143_35914_ok
  · exact k143_41200_ok
  · exact k17_41984_ok
  · exact k143_45464_ok
  · exact k143_47986_ok
noncomputable def Y2 : Specs := withKeys Tryz.prog tabG plans Y1 100000 tab2
theorem y2_ok : SpecsOK Tryz.prog tabG Y2 := withKeys_ok y1_ok hpl mix 100000 tab2_ok
end Go.Proofs.YthdggndldnefpaaGreatDoor
