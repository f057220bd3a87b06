/-
  Some calls of the anchor, reckoned by themselves. Conditions: none beside what ratchet/sha.table holds.
-/
import Derived.Test.YteokklempfnpaaaGreatDoorTrX
namespace Go.Proofs.YteokklempfnpaaaGreatDoor
open Go.RowKit Go.Sx Go.Ev
set_option linter.unusedVariables false
set_option linter.unusedSimpArgs false
set_option linter.unnecessarySimpa false
set_option maxRecDepth 100000
/-- slices.IndexFunc[[]byte,byte] -/
noncomputable def k322_10377 : Key := ⟨322, [.sl 10376 0 1198 0 false, .flat (.func (.func 275) #[] #[])], [(10376, .buf (z8 1198) 1)], 10377, .flat (.int .i64 (-1)), [(10376, .buf (z8 1198) 1)], 10377⟩
theorem k322_10377_ok : KeyOK Tryz.prog tabG k322_10377 := KeyOK.of x1_ok hpl mix 100000 (by kernel_rfl) (by kernel_rfl : knownB Tryz.prog tabG plans X1 100000 k322_10377 = true)
/-- slices.IndexFunc[[]byte,byte] -/
noncomputable def k322_10500 : Key := ⟨322, [.sl 10499 0 1198 0 false, .flat (.func (.func 275) #[] #[])], [(10499, .buf (z8 1198) 1)], 10500, .flat (.int .i64 (-1)), [(10499, .buf (z8 1198) 1)], 10500⟩
theorem k322_10500_ok : KeyOK Tryz.prog tabG k322_10500 := KeyOK.of x1_ok hpl mix 100000 (by kernel_rfl) (by kernel_rfl : knownB Tryz.prog tabG plans X1 100000 k322_10500 = true)
/-- ratchet/durable.Format -/
noncomputable def k63_10925 : Key := ⟨63, [.ptr 10924 0], [(10922, .map [] 0), (10923, .map [] 0), (10924, dB32)], 10925, .num .i64 0, [(10922, dB1), (10923, dB1), (10924, dB32)], 11901⟩
theorem k63_10925_ok : KeyOK Tryz.prog tabG k63_10925 := KeyOK.of x1_ok hpl mix 100000 (by kernel_rfl) (by kernel_rfl : knownB Tryz.prog tabG plans X1 100000 k63_10925 = true)
end Go.Proofs.YteokklempfnpaaaGreatDoor
