/-
  Some calls of the anchor, reckoned by themselves. Conditions: none beside what ratchet/sha.table holds.
-/
import Derived.Test.YteokklempfnpaaaGreatDoorTrX
namespace Go.Proofs.YteokklempfnpaaaGreatDoor
open Go.RowKit Go.Sx Go.Ev
set_option linter.unusedVariables false
set_option linter.unusedSimpArgs false
set_option linter.unnecessarySimpa false
set_option maxRecDepth 100000
/-- slices.IndexFunc[[]byte,byte] -/
noncomputable def k322_12150 : Key := ⟨322, [.sl 12149 0 1198 0 false, .flat (.func (.func 275) #[] #[])], [(12149, .buf (z8 1198) 1)], 12150, .flat (.int .i64 (-1)), [(12149, .buf (z8 1198) 1)], 12150⟩
theorem k322_12150_ok : KeyOK Tryz.prog tabG k322_12150 := KeyOK.of x1_ok hpl mix 100000 (by kernel_rfl) (by kernel_rfl : knownB Tryz.prog tabG plans X1 100000 k322_12150 = true)
/-- slices.IndexFunc[[]byte,byte] -/
noncomputable def k322_12273 : Key := ⟨322, [.sl 12272 0 1198 0 false, .flat (.func (.func 275) #[] #[])], [(12272, .buf (z8 1198) 1)], 12273, .flat (.int .i64 (-1)), [(12272, .buf (z8 1198) 1)], 12273⟩
theorem k322_12273_ok : KeyOK Tryz.prog tabG k322_12273 := KeyOK.of x1_ok hpl mix 100000 (by kernel_rfl) (by kernel_rfl : knownB Tryz.prog tabG plans X1 100000 k322_12273 = true)
end Go.Proofs.YteokklempfnpaaaGreatDoor
