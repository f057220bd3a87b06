/-
  Some calls of the anchor, reckoned by themselves. Conditions: none beside what ratchet/sha.table holds.
-/
import Derived.Test.YtnajnkhjnkilgaaGreatDoorClX
namespace Go.Proofs.YtnajnkhjnkilgaaGreatDoor
open Go.RowKit Go.Sx Go.Ev
set_option linter.unusedVariables false
set_option linter.unusedSimpArgs false
set_option linter.unnecessarySimpa false
set_option maxRecDepth 100000
/-- slices.IndexFunc[[]byte,byte] -/
noncomputable def k328_5284 : Key := ⟨328, [.sl 5283 0 1198 0 false, .flat (.func (.func 261) #[] #[])], [(5283, .buf (z8 1198) 1)], 5284, .flat (.int .i64 (-1)), [(5283, .buf (z8 1198) 1)], 5284⟩
theorem k328_5284_ok : KeyOK Tryz.prog tabG k328_5284 := KeyOK.of x1_ok hpl mix 100000 (by kernel_rfl) (by kernel_rfl : knownB Tryz.prog tabG plans X1 100000 k328_5284 = true)
/-- slices.IndexFunc[[]byte,byte] -/
noncomputable def k328_5407 : Key := ⟨328, [.sl 5406 0 1198 0 false, .flat (.func (.func 261) #[] #[])], [(5406, .buf (z8 1198) 1)], 5407, .flat (.int .i64 (-1)), [(5406, .buf (z8 1198) 1)], 5407⟩
theorem k328_5407_ok : KeyOK Tryz.prog tabG k328_5407 := KeyOK.of x1_ok hpl mix 100000 (by kernel_rfl) (by kernel_rfl : knownB Tryz.prog tabG plans X1 100000 k328_5407 = true)
end Go.Proofs.YtnajnkhjnkilgaaGreatDoor
