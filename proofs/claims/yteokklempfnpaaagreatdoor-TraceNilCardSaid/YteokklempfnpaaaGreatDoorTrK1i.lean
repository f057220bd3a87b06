/-
  Some calls of the anchor, reckoned by themselves. Conditions: none beside what ratchet/sha.table holds.
-/
import Derived.Test.YteokklempfnpaaaGreatDoorTrX
namespace Go.Proofs.YteokklempfnpaaaGreatDoor
open Go.RowKit Go.Sx Go.Ev
set_option linter.unusedVariables false
set_option linter.unusedSimpArgs false
set_option linter.unnecessarySimpa false
set_option maxRecDepth 100000
/-- slices.IndexFunc[[]byte,byte] -/
noncomputable def k322_10127 : Key := ⟨322, [.sl 10126 0 1198 0 false, .flat (.func (.func 275) #[] #[])], [(10126, .buf (z8 1198) 1)], 10127, .flat (.int .i64 (-1)), [(10126, .buf (z8 1198) 1)], 10127⟩
theorem k322_10127_ok : KeyOK Tryz.prog tabG k322_10127 := KeyOK.of x1_ok hpl mix 100000 (by kernel_rfl) (by kernel_rfl : knownB Tryz.prog tabG plans X1 100000 k322_10127 = true)
/-- slices.IndexFunc[[]byte,byte] -/
noncomputable def k322_10250 : Key := ⟨322, [.sl 10249 0 1198 0 false, .flat (.func (.func 275) #[] #[])], [(10249, .buf (z8 1198) 1)], 10250, .flat (.int .i64 (-1)), [(10249, .buf (z8 1198) 1)], 10250⟩
theorem k322_10250_ok : KeyOK Tryz.prog tabG k322_10250 := KeyOK.of x1_ok hpl mix 100000 (by kernel_rfl) (by kernel_rfl : knownB Tryz.prog tabG plans X1 100000 k322_10250 = true)
end Go.Proofs.YteokklempfnpaaaGreatDoor
