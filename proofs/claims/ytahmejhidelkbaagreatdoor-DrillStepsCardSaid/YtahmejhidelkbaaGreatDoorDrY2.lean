/-
  What is known by now. Conditions: none.
-/
import Derived.Test.YtahmejhidelkbaaGreatDoorDrK2a
import Derived.Test.YtahmejhidelkbaaGreatDoorDrK2b
import Derived.Test.YtahmejhidelkbaaGreatDoorDrK2c
import Derived.Test.YtahmejhidelkbaaGreatDoorDrK2d
import Derived.Test.YtahmejhidelkbaaGreatDoorEvU
namespace Go.Proofs.YtahmejhidelkbaaGreatDoor
open Go.RowKit Go.Sx Go.Ev
set_option linter.unusedVariables false
set_option linter.unusedSimpArgs false
set_option linter.unnecessarySimpa false
set_option maxRecDepth 100000
noncomputable def tab2 : List Key := [k133_1113, k133_1363, k133_3136, k133_3386, k133_5159, k133_5409, k12_6515, k12_7763, k12_9016, k12_10398, k12_11603, k12_14223, k12_17082, k12_19898, k12_22648, k145_27869, k12_28544, k145_31091, k145_36007, k12_36682, k145_39271, k301_43351, k329_44592, k329_48641, k220_49891, k329_52084, k329_52890, k329_53684, k329_54485, k329_55272, k329_56281, k329_57100, k145_63303, k198_66512, k220_67311, k145_71708, k307_72361, k198_72995, k12_74767, k220_76197, k30_78181, k394_54133a, k269_55037a, k394_70868a, k394_71431a]
theorem tab2_ok : ∀ e ∈ tab2, KeyOK Tryz.prog tabG e := by
  intro e he
  simp only [tab2, List.mem_cons, List.not_mem_nil, or_false] at he
  rcases he with rfl | rfl | rfl | rfl | rfl | rfl | rfl | rfl | rfl | rfl | rfl | rfl | rfl | rfl | rfl | rfl | rfl | rfl | rfl | rfl | rfl | rfl | rfl | rfl | rfl | rfl | rfl | rfl | rfl | rfl | rfl | rfl | rfl | rfl | rfl | rfl | rfl | rfl | rfl | rfl | rfl | rfl | rfl | rfl | rfl
  · exact k133_1113_ok
  · exact k133_1363_ok
  · exact k133_3136_ok
  · exact k133_3386_ok
  · exact k133_5159_ok
  · exact k133_5409_ok
  · exact k12_6515_ok
  · exact k12_7763_ok
  · exact k12_9016_ok
  · exact k12_10398_ok
  · exact k12_11603_ok
  · exact k12_14223_ok
  · exact k12_17082_ok
  · exact k12_19898_ok
  · exact k12_22648_ok
  · exact k145_27869_ok
  · exact k12_28544_ok
  · exact k145_31091_ok
  · exact k145_36007_ok
  · exact k12_36682_ok
  · exact k145_39271_ok
  · exact k301_43351_ok
  · exact k329_44592_ok
  · exact k329_48641_ok
  · exact k220_49891_ok
  · exact k329_52084_ok
  · exact k329_52890_ok
  · exact k329_53684_ok
  · exact k329_54485_ok
  · exact k329_55272_ok
  · exact k329_56281_ok
  · exact k329_57100_ok
  · exact k145_63303_ok
  · exact k198_66512_ok
  · exact k220_67311_ok
  · exact k145_71708_ok
  · exact k307_72361_ok
  · exact k198_72995_ok
  · exact k12_74767_ok
  · exact k220_76197_ok
  · exact k30_78181_ok
  · exact k394_54133a_ok
  · exact k269_55037a_ok
  · exact k394_70868a_ok
  · exact k394_71431a_ok
noncomputable def tall2 : List Key := tab2 ++ tall1
theorem tall2_ok : ∀ e ∈ tall2, KeyOK Tryz.prog tabG e := by
  intro e he
  simp only [tall2, List.mem_append] at he
  rcases he with he | he
  · exact tab2_ok e he
  · exact tall1_ok e he
noncomputable def Y2 : Specs := withAll Tryz.prog tabG plans XW0 100000 (fun g => Nat.beq g 307) tall2 10
theorem y2_ok : SpecsOK Tryz.prog tabG Y2 := withAll_ok xw0_ok hpl mix 100000 _ tall2_ok 10
end Go.Proofs.YtahmejhidelkbaaGreatDoor
