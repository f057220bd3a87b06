/-
  What is known by now. Conditions: none.
-/
import Derived.Test.YthdggndldnefpaaGreatDoorWoK1a
import Derived.Test.YthdggndldnefpaaGreatDoorWoK1b
import Derived.Test.YthdggndldnefpaaGreatDoorWoK1c
import Derived.Test.YthdggndldnefpaaGreatDoorWoK1d
import Derived.Test.YthdggndldnefpaaGreatDoorWoK1e
import Derived.Test.YthdggndldnefpaaGreatDoorWoK1f
import Derived.Test.YthdggndldnefpaaGreatDoorWoK1g
import Derived.Test.YthdggndldnefpaaGreatDoorWoK1h
namespace Go.Proofs.YthdggndldnefpaaGreatDoor
open Go.RowKit Go.Sx Go.Ev
set_option linter.unusedVariables false
set_option linter.unusedSimpArgs false
set_option linter.unnecessarySimpa false
set_option maxRecDepth 100000
noncomputable def tab1 : List Key := [k47_13, k328_1238, k328_1361, k328_1488, k328_1611, k47_2036, k328_3261, k328_3384, k328_3511, k328_3634, k47_4059, k328_5284, k328_5407, k328_5534, k328_5657, k218_6098, k290_7039, k290_8266, k290_9493, k218_10210, k290_10981, k290_12150, k218_12748, k204_13842, k204_15220, k218_15539, k290_16504, k218_17102, k17_17412, k204_18374, k204_19196, k204_20014, k218_20333, k204_21966, k204_22788, k204_23606, k218_23925, k218_24956, k290_25727, k290_26912, k204_28230, k204_29301, k290_30254, k17_30956, k204_31762, k204_32394, k204_33022, k204_34461, k204_35093, k204_35725, k204_36353, k218_37186, k290_37957, k290_39203, k204_40568, k204_41639, k290_42575, k204_44023, k204_44643, k204_45275, k204_45903, k204_47165, k204_47797, k204_48425]
theorem tab1_ok : ∀ e ∈ tab1, KeyOK Tryz.prog tabG e := by
  intro e he
  simp only [tab1, List.mem_cons, List.not_mem_nil, or_false] at he
  rcases he with rfl | rfl | rfl | rfl | rfl | rfl | rfl | rfl | rfl | rfl | rfl | rfl | rfl | rfl | rfl | rfl | rfl | rfl | rfl | rfl | rfl | rfl | rfl | rfl | rfl | rfl | rfl | rfl | rfl | rfl | rfl | rfl | rfl | rfl | rfl | rfl | rfl | rfl | rfl | rfl | rfl | rfl | rfl | rfl | rfl | rfl | rfl | rfl | rfl | rfl | rfl | rfl | rfl | rfl | rfl | rfl | rfl | rfl | rfl | rfl | rfl | rfl | rfl | rfl
  · exact k47_13_ok
  · exact k328_1238_ok
  · exact k328_1361_ok
  · exact k328_1488_ok
  · exact k328_1611_ok
  · exact k47_2036_ok
  · exact k328_3261_ok
  · exact k328_3384_ok
  · exact k328_3511_ok
  · exact k328_3634_ok
  · exact k47_4059_ok
  · exact k328_5284_ok
  · exact k328_5407_ok
  · exact k328_5534_ok
  · exact k328_5657_ok
  · exact k218_6098_ok
  · exact k290_7039_ok
  · exact k290_8266_ok
  · exact k290_9493_ok
  · exact k218_10210_ok
  · exact k290_10981_ok
  · exact k290_12150_ok
  · exact k218_12748_ok
  · exact k204_13842_ok
  · exact k204_15220_ok
  · exact k218_15539_ok
  · exact k290_16504_ok
  · exact k218_17102_ok
  · exact k17_17412_ok
  · exact k204_18374_ok
  · exact k204_19196_ok
  · exact k204_20014_ok
  · exact k218_20333_ok
  · exact k204_21966_ok
  · exact k204_22788_ok
  · exact k204_23606_ok
  · exact k218_23925_ok
  · exact k218_24956_ok
  · exact k290_25727_ok
  · exact k290_26912_ok
  · exact k204_28230_ok
  · exact k204_29301_ok
  · exact k290_30254_ok
  · exact k17_30956_ok
  · exact k204_31762_ok
  · exact k204_32394_ok
  · exact k204_33022_ok
  · exact k204_34461_ok
  · exact k204_35093_ok
  · exact k204_35725_ok
  · exact k204_36353_ok
  · exact k218_37186_ok
  · exact k290_37957_ok
  · exact k290_39203_ok
  · exact k204_40568_ok
  · exact k204_41639_ok
  · exact k290_42575_ok
  · exact k204_44023_ok
  · exact k204_44643_ok
  · exact k204_45275_ok
  · exact k204_45903_ok
  · exact k204_47165_ok
  · exact k204_47797_ok
  · exact k204_48425_ok
noncomputable def Y1 : Specs := withKeys Tryz.prog tabG plans X1 100000 tab1
theorem y1_ok : SpecsOK Tryz.prog tabG Y1 := withKeys_ok x1_ok hpl mix 100000 tab1_ok
end Go.Proofs.YthdggndldnefpaaGreatDoor
