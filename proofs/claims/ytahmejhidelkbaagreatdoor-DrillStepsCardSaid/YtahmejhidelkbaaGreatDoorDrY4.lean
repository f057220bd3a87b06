/-
  What is known by now. Conditions: none.
-/
import Derived.Test.YtahmejhidelkbaaGreatDoorDrK4a
import Derived.Test.YtahmejhidelkbaaGreatDoorDrK4b
import Derived.Test.YtahmejhidelkbaaGreatDoorEvU
namespace Go.Proofs.YtahmejhidelkbaaGreatDoor
open Go.RowKit Go.Sx Go.Ev
set_option linter.unusedVariables false
set_option linter.unusedSimpArgs false
set_option linter.unnecessarySimpa false
set_option maxRecDepth 100000
noncomputable def tab4 : List Key := [k29_0, k25_12768, k25_18444, k12_25464, k12_33602, k12_41848, k221_46933, k12_60866, k12_64000, k307_70503, k25_74679, k12_29910, k12_38090, k264_54406a]
theorem tab4_ok : ∀ e ∈ tab4, KeyOK Tryz.prog tabG e := by
  intro e he
  simp only [tab4, List.mem_cons, List.not_mem_nil, or_false] at he
  rcases he with rfl | rfl | rfl | rfl | rfl | rfl | rfl | rfl | rfl | rfl | rfl | rfl | rfl | rfl
  · exact k29_0_ok
  · exact k25_12768_ok
  · exact k25_18444_ok
  · exact k12_25464_ok
  · exact k12_33602_ok
  · exact k12_41848_ok
  · exact k221_46933_ok
  · exact k12_60866_ok
  · exact k12_64000_ok
  · exact k307_70503_ok
  · exact k25_74679_ok
  · exact k12_29910_ok
  · exact k12_38090_ok
  · exact k264_54406a_ok
noncomputable def tall4 : List Key := tab4 ++ tall3
theorem tall4_ok : ∀ e ∈ tall4, KeyOK Tryz.prog tabG e := by
  intro e he
  simp only [tall4, List.mem_append] at he
  rcases he with he | he
  · exact tab4_ok e he
  · exact tall3_ok e he
noncomputable def Y4 : Specs := withAll Tryz.prog tabG plans XW0 100000 (fun g => Nat.beq g 307) tall4 10
theorem y4_ok : SpecsOK Tryz.prog tabG Y4 := withAll_ok xw0_ok hpl mix 100000 _ tall4_ok 10
end Go.Proofs.YtahmejhidelkbaaGreatDoor
