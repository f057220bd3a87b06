/-
  What is known by now. Conditions: none.
-/
import Derived.Test.YthdggndldnefpaaGreatDoorWoK3a
import Derived.Test.YthdggndldnefpaaGreatDoorWoK3b
import Derived.Test.YthdggndldnefpaaGreatDoorWoK3c
import Derived.Test.YthdggndldnefpaaGreatDoorEvU
namespace Go.Proofs.YthdggndldnefpaaGreatDoor
open Go.RowKit Go.Sx Go.Ev
set_option linter.unusedVariables false
set_option linter.unusedSimpArgs false
set_option linter.unnecessarySimpa false
set_option maxRecDepth 100000
noncomputable def tab3 : List Key := [k85_1363, k85_3386, k85_5409, k34_6396, k143_14603, k143_19397, k143_22989, k156_27516, k166_31321, k166_33842, k156_39854, k166_43582, k166_46724, k17_10183, k155_11623, k17_24929, k155_26381, k167_36654, k17_37159, k155_38611, k67_43273]
theorem tab3_ok : ∀ e ∈ tab3, KeyOK Tryz.prog tabG e := by
  intro e he
  simp only [tab3, List.mem_cons, List.not_mem_nil, or_false] at he
  rcases he with rfl | rfl | rfl | rfl | rfl | rfl | rfl | rfl | rfl | rfl | rfl | rfl | rfl | rfl | rfl | rfl | rfl | rfl | rfl | rfl | rfl
  · exact k85_1363_ok
  · exact k85_3386_ok
  · exact k85_5409_ok
  · exact k34_6396_ok
  · exact k143_14603_ok
  · exact k143_19397_ok
  · exact k143_22989_ok
  · exact k156_27516_ok
  · exact k166_31321_ok
  · exact k166_33842_ok
  · exact k156_39854_ok
  · exact k166_43582_ok
  · exact k166_46724_ok
  · exact k17_10183_ok
  · exact k155_11623_ok
  · exact k17_24929_ok
  · exact k155_26381_ok
  · exact k167_36654_ok
  · exact k17_37159_ok
  · exact k155_38611_ok
  · exact k67_43273_ok
noncomputable def tall3 : List Key := tab3 ++ tab2 ++ tab1
theorem tall3_ok : ∀ e ∈ tall3, KeyOK Tryz.prog tabG e := by
  intro e he
  simp only [tall3, List.mem_append] at he
  rcases he with ((he | he) | he)
  · exact tab3_ok e he
  · exact tab2_ok e he
  · exact tab1_ok e he
noncomputable def Y3 : Specs := withAll Tryz.prog tabG plans X1 100000 (fun _ => false) tall3 10
theorem y3_ok : SpecsOK Tryz.prog tabG Y3 := withAll_ok x1_ok hpl mix 100000 _ tall3_ok 10
end Go.Proofs.YthdggndldnefpaaGreatDoor
