/-
  What is known by now. Conditions: none.
-/
import Derived.Test.YtahmejhidelkbaaGreatDoorDrK1a
import Derived.Test.YtahmejhidelkbaaGreatDoorDrK1b
import Derived.Test.YtahmejhidelkbaaGreatDoorDrK1c
import Derived.Test.YtahmejhidelkbaaGreatDoorDrK1d
import Derived.Test.YtahmejhidelkbaaGreatDoorDrK1e
import Derived.Test.YtahmejhidelkbaaGreatDoorDrK1f
import Derived.Test.YtahmejhidelkbaaGreatDoorDrK1g
import Derived.Test.YtahmejhidelkbaaGreatDoorDrK1h
import Derived.Test.YtahmejhidelkbaaGreatDoorDrK1i
import Derived.Test.YtahmejhidelkbaaGreatDoorDrK1j
import Derived.Test.YtahmejhidelkbaaGreatDoorDrK1k
import Derived.Test.YtahmejhidelkbaaGreatDoorEvU
namespace Go.Proofs.YtahmejhidelkbaaGreatDoor
open Go.RowKit Go.Sx Go.Ev
set_option linter.unusedVariables false
set_option linter.unusedSimpArgs false
set_option linter.unnecessarySimpa false
set_option maxRecDepth 100000
noncomputable def tab1 : List Key := [k61_13, k327_1238, k327_1361, k327_1488, k327_1611, k61_2036, k327_3261, k327_3384, k327_3511, k327_3634, k61_4059, k327_5284, k327_5407, k327_5534, k327_5657, k292_6098, k348_7058, k348_8306, k348_9559, k348_10941, k348_12146, k292_12859, k348_13630, k348_14766, k292_15718, k348_16489, k348_17625, k292_18535, k348_19306, k348_20441, k292_21285, k348_22056, k348_23191, k292_24101, k348_24872, k348_26007, k201_27267, k201_28251, k348_29087, k201_30311, k201_30894, k201_31473, k292_32239, k348_33010, k348_34145, k201_35405, k201_36389, k348_37225, k201_38491, k201_39074, k201_39653, k292_40485, k348_41256, k348_42391, k269_43856, k269_45135, k348_46064, k292_46670, k201_47764, k201_49142, k292_49463, k348_50428, k292_51034, k97_51349, k269_52627, k201_53391, k269_54227, k201_54986, k269_55815, k201_56782, k201_57601, k292_57922, k232_58304, k292_59483, k348_60254, k348_61419, k201_62701, k201_63685, k348_64553, k201_65879, k201_66950, k348_67911, k97_68630, k201_69678, k201_70316, k201_70889, k201_71524, k201_72090, k201_72804, k201_73433, k232_73736, k292_74794, k348_75565, k348_76797, k97_77518, k348_78776, k97_79494, k269_54310a, k177_55043a, k269_71045a, k269_71608a]
theorem tab1_ok : ∀ e ∈ tab1, KeyOK Tryz.prog tabG e := by
  intro e he
  simp only [tab1, List.mem_cons, List.not_mem_nil, or_false] at he
  rcases he with rfl | rfl | rfl | rfl | rfl | rfl | rfl | rfl | rfl | rfl | rfl | rfl | rfl | rfl | rfl | rfl | rfl | rfl | rfl | rfl | rfl | rfl | rfl | rfl | rfl | rfl | rfl | rfl | rfl | rfl | rfl | rfl | rfl | rfl | rfl | rfl | rfl | rfl | rfl | rfl | rfl | rfl | rfl | rfl | rfl | rfl | rfl | rfl | rfl | rfl | rfl | rfl | rfl | rfl | rfl | rfl | rfl | rfl | rfl | rfl | rfl | rfl | rfl | rfl | rfl | rfl | rfl | rfl | rfl | rfl | rfl | rfl | rfl | rfl | rfl | rfl | rfl | rfl | rfl | rfl | rfl | rfl | rfl | rfl | rfl | rfl | rfl | rfl | rfl | rfl | rfl | rfl | rfl | rfl | rfl | rfl | rfl | rfl | rfl | rfl | rfl
  · exact k61_13_ok
  · exact k327_1238_ok
  · exact k327_1361_ok
  · exact k327_1488_ok
  · exact k327_1611_ok
  · exact k61_2036_ok
  · exact k327_3261_ok
  · exact k327_3384_ok
  · exact k327_3511_ok
  · exact k327_3634_ok
  · exact k61_4059_ok
  · exact k327_5284_ok
  · exact k327_5407_ok
  · exact k327_5534_ok
  · exact k327_5657_ok
  · exact k292_6098_ok
  · exact k348_7058_ok
  · exact k348_8306_ok
  · exact k348_9559_ok
  · exact k348_10941_ok
  · exact k348_12146_ok
  · exact k292_12859_ok
  · exact k348_13630_ok
  · exact k348_14766_ok
  · exact k292_15718_ok
  · exact k348_16489_ok
  · exact k348_17625_ok
  · exact k292_18535_ok
  · exact k348_19306_ok
  · exact k348_20441_ok
  · exact k292_21285_ok
  · exact k348_22056_ok
  · exact k348_23191_ok
  · exact k292_24101_ok
  · exact k348_24872_ok
  · exact k348_26007_ok
  · exact k201_27267_ok
  · exact k201_28251_ok
  · exact k348_29087_ok
  · exact k201_30311_ok
  · exact k201_30894_ok
  · exact k201_31473_ok
  · exact k292_32239_ok
  · exact k348_33010_ok
  · exact k348_34145_ok
  · exact k201_35405_ok
  · exact k201_36389_ok
  · exact k348_37225_ok
  · exact k201_38491_ok
  · exact k201_39074_ok
  · exact k201_39653_ok
  · exact k292_40485_ok
  · exact k348_41256_ok
  · exact k348_42391_ok
  · exact k269_43856_ok
  · exact k269_45135_ok
  · exact k348_46064_ok
  · exact k292_46670_ok
  · exact k201_47764_ok
  · exact k201_49142_ok
  · exact k292_49463_ok
  · exact k348_50428_ok
  · exact k292_51034_ok
  · exact k97_51349_ok
  · exact k269_52627_ok
  · exact k201_53391_ok
  · exact k269_54227_ok
  · exact k201_54986_ok
  · exact k269_55815_ok
  · exact k201_56782_ok
  · exact k201_57601_ok
  · exact k292_57922_ok
  · exact k232_58304_ok
  · exact k292_59483_ok
  · exact k348_60254_ok
  · exact k348_61419_ok
  · exact k201_62701_ok
  · exact k201_63685_ok
  · exact k348_64553_ok
  · exact k201_65879_ok
  · exact k201_66950_ok
  · exact k348_67911_ok
  · exact k97_68630_ok
  · exact k201_69678_ok
  · exact k201_70316_ok
  · exact k201_70889_ok
  · exact k201_71524_ok
  · exact k201_72090_ok
  · exact k201_72804_ok
  · exact k201_73433_ok
  · exact k232_73736_ok
  · exact k292_74794_ok
  · exact k348_75565_ok
  · exact k348_76797_ok
  · exact k97_77518_ok
  · exact k348_78776_ok
  · exact k97_79494_ok
  · exact k269_54310a_ok
  · exact k177_55043a_ok
  · exact k269_71045a_ok
  · exact k269_71608a_ok
noncomputable def tall1 : List Key := tab1
theorem tall1_ok : ∀ e ∈ tall1, KeyOK Tryz.prog tabG e := by
  intro e he
  simp only [tall1, List.mem_append] at he
  exact tab1_ok e he
noncomputable def Y1 : Specs := withAll Tryz.prog tabG plans XW0 100000 (fun g => Nat.beq g 307) tall1 10
theorem y1_ok : SpecsOK Tryz.prog tabG Y1 := withAll_ok xw0_ok hpl mix 100000 _ tall1_ok 10
end Go.Proofs.YtahmejhidelkbaaGreatDoor
