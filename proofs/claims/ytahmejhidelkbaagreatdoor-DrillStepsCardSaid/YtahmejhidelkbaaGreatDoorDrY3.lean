/-
  What is known by now. Conditions: none.
-/
import Derived.Test.YtahmejhidelkbaaGreatDoorDrK3a
import Derived.Test.YtahmejhidelkbaaGreatDoorDrK3b
import Derived.Test.YtahmejhidelkbaaGreatDoorDrK3c
import Derived.Test.YtahmejhidelkbaaGreatDoorDrK3d
import Derived.Test.YtahmejhidelkbaaGreatDoorEvU
namespace Go.Proofs.YtahmejhidelkbaaGreatDoor
open Go.RowKit Go.Sx Go.Ev
set_option linter.unusedVariables false
set_option linter.unusedSimpArgs false
set_option linter.unnecessarySimpa false
set_option maxRecDepth 100000
noncomputable def tab3 : List Key := [k88_1363, k88_3386, k88_5409, k10_6394, k221_26591, k231_29927, k221_34729, k231_38107, k221_42983, k145_48525, k145_56984, k221_62025, k221_65165, k12_12832, k12_15691, k12_18508, k12_21258, k12_24074, k12_32212, k23_37860, k12_40458, k301_47358, k145_55182, k307_56161, k12_59456, k23_67295, k23_68619, k12_69211, k306_69297, k306_69878, k23_76181, k12_78009, k12_78078, k12_79966, k12_80035, k329_53710a, k394_54860a, k264_70509a]
theorem tab3_ok : ∀ e ∈ tab3, KeyOK Tryz.prog tabG e := by
  intro e he
  simp only [tab3, List.mem_cons, List.not_mem_nil, or_false] at he
  rcases he with rfl | rfl | rfl | rfl | rfl | rfl | rfl | rfl | rfl | rfl | rfl | rfl | rfl | rfl | rfl | rfl | rfl | rfl | rfl | rfl | rfl | rfl | rfl | rfl | rfl | rfl | rfl | rfl | rfl | rfl | rfl | rfl | rfl | rfl | rfl | rfl | rfl | rfl
  · exact k88_1363_ok
  · exact k88_3386_ok
  · exact k88_5409_ok
  · exact k10_6394_ok
  · exact k221_26591_ok
  · exact k231_29927_ok
  · exact k221_34729_ok
  · exact k231_38107_ok
  · exact k221_42983_ok
  · exact k145_48525_ok
  · exact k145_56984_ok
  · exact k221_62025_ok
  · exact k221_65165_ok
  · exact k12_12832_ok
  · exact k12_15691_ok
  · exact k12_18508_ok
  · exact k12_21258_ok
  · exact k12_24074_ok
  · exact k12_32212_ok
  · exact k23_37860_ok
  · exact k12_40458_ok
  · exact k301_47358_ok
  · exact k145_55182_ok
  · exact k307_56161_ok
  · exact k12_59456_ok
  · exact k23_67295_ok
  · exact k23_68619_ok
  · exact k12_69211_ok
  · exact k306_69297_ok
  · exact k306_69878_ok
  · exact k23_76181_ok
  · exact k12_78009_ok
  · exact k12_78078_ok
  · exact k12_79966_ok
  · exact k12_80035_ok
  · exact k329_53710a_ok
  · exact k394_54860a_ok
  · exact k264_70509a_ok
noncomputable def tall3 : List Key := tab3 ++ tall2
theorem tall3_ok : ∀ e ∈ tall3, KeyOK Tryz.prog tabG e := by
  intro e he
  simp only [tall3, List.mem_append] at he
  rcases he with he | he
  · exact tab3_ok e he
  · exact tall2_ok e he
noncomputable def Y3 : Specs := withAll Tryz.prog tabG plans XW0 100000 (fun g => Nat.beq g 307) tall3 10
theorem y3_ok : SpecsOK Tryz.prog tabG Y3 := withAll_ok xw0_ok hpl mix 100000 _ tall3_ok 10
end Go.Proofs.YtahmejhidelkbaaGreatDoor
