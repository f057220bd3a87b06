/-
  What is known by now. Conditions: none.
-/
import Derived.Test.YtnciifgmcihcfaaGreatDoorArK1a
import Derived.Test.YtnciifgmcihcfaaGreatDoorArK1b
import Derived.Test.YtnciifgmcihcfaaGreatDoorArK1c
import Derived.Test.YtnciifgmcihcfaaGreatDoorArK1d
import Derived.Test.YtnciifgmcihcfaaGreatDoorArK1e
import Derived.Test.YtnciifgmcihcfaaGreatDoorArK1f
import Derived.Test.YtnciifgmcihcfaaGreatDoorArK1g
namespace Go.Proofs.YtnciifgmcihcfaaGreatDoor
open Go.RowKit Go.Sx Go.Ev
set_option linter.unusedVariables false
set_option linter.unusedSimpArgs false
set_option linter.unnecessarySimpa false
set_option maxRecDepth 100000
def tab1 : List Key := [k100_29, k100_265, k100_427, k100_551, k100_787, k100_949, k100_1073, k100_1309, k100_1471, k100_1595, k100_1831, k100_1993, k100_2951, k100_3136, k100_3350, k100_4297, k100_4482, k100_4696, k44_5444, k44_6024, k44_7310, k44_7884, k44_8462, k44_9039, k44_10892, k44_11466, k44_12044, k44_12621, k18_13854]
theorem tab1_ok : ∀ e ∈ tab1, KeyOK Tryz.prog tabG e := by
  intro e he
  simp only [tab1, List.mem_cons, List.not_mem_nil, or_false] at he
  rcases he with rfl | rfl | rfl | rfl | rfl | rfl | rfl | rfl | rfl | rfl | rfl | rfl | rfl | rfl | rfl | rfl | rfl | rfl | rfl | rfl | rfl | rfl | rfl | rfl | rfl | rfl | rfl | rfl | rfl
  · exact k100_29_ok
  · exact k100_265_ok
  · exact k100_427_ok
  · exact k100_551_ok
  · exact k100_787_ok
  · exact k100_949_ok
  · exact k100_1073_ok
  · exact k100_1309_ok
  · exact k100_1471_ok
  · exact k100_1595_ok
  · exact k100_1831_ok
  · exact k100_1993_ok
  · exact k100_2951_ok
  · exact k100_3136_ok
  · exact k100_3350_ok
  · exact k100_4297_ok
  · exact k100_4482_ok
  · exact k100_4696_ok
  · exact k44_5444_ok
  · exact k44_6024_ok
  · exact k44_7310_ok
  · exact k44_7884_ok
  · exact k44_8462_ok
  · exact k44_9039_ok
  · exact k44_10892_ok
  · exact k44_11466_ok
  · exact k44_12044_ok
  · exact k44_12621_ok
  · exact k18_13854_ok
noncomputable def Y1 : Specs := withKeys Tryz.prog tabG plans X1 100000 tab1
theorem y1_ok : SpecsOK Tryz.prog tabG Y1 := withKeys_ok x1_ok hpl mix 100000 tab1_ok
end Go.Proofs.YtnciifgmcihcfaaGreatDoor
