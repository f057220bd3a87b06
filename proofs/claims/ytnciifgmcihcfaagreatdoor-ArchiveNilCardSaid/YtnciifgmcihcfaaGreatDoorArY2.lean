/-
  What is known by now. Conditions: none.
-/
import Derived.Test.YtnciifgmcihcfaaGreatDoorArK2a
namespace Go.Proofs.YtnciifgmcihcfaaGreatDoor
open Go.RowKit Go.Sx Go.Ev
set_option linter.unusedVariables false
set_option linter.unusedSimpArgs false
set_option linter.unnecessarySimpa false
set_option maxRecDepth 100000
def tab2 : List Key := [k16_6639]
theorem tab2_ok : ∀ e ∈ tab2, KeyOK Tryz.prog tabG e := by
  intro e he
  simp only [tab2, List.mem_cons, List.not_mem_nil, or_false] at he
  rcases he with rfl
  · exact k16_6639_ok
noncomputable def Y2 : Specs := withKeys Tryz.prog tabG plans Y1 100000 tab2
theorem y2_ok : SpecsOK Tryz.prog tabG Y2 := withKeys_ok y1_ok hpl mix 100000 tab2_ok
end Go.Proofs.YtnciifgmcihcfaaGreatDoor
