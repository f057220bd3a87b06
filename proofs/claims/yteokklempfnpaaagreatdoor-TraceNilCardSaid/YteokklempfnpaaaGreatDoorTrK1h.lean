/-
  Some calls of the anchor, reckoned by themselves. Conditions: none beside what ratchet/sha.table holds.
-/
import Derived.Test.YteokklempfnpaaaGreatDoorTrX
namespace Go.Proofs.YteokklempfnpaaaGreatDoor
open Go.RowKit Go.Sx Go.Ev
set_option linter.unusedVariables false
set_option linter.unusedSimpArgs false
set_option linter.unnecessarySimpa false
set_option maxRecDepth 100000
/-- slices.IndexFunc[[]byte,byte] -/
noncomputable def k322_8354 : Key := ⟨322, [.sl 8353 0 1198 0 false, .flat (.func (.func 275) #[] #[])], [(8353, .buf (z8 1198) 1)], 8354, .flat (.int .i64 (-1)), [(8353, .buf (z8 1198) 1)], 8354⟩
theorem k322_8354_ok : KeyOK Tryz.prog tabG k322_8354 := KeyOK.of x1_ok hpl mix 100000 (by kernel_rfl) (by kernel_rfl : knownB Tryz.prog tabG plans X1 100000 k322_8354 = true)
/-- slices.IndexFunc[[]byte,byte] -/
noncomputable def k322_8477 : Key := ⟨322, [.sl 8476 0 1198 0 false, .flat (.func (.func 275) #[] #[])], [(8476, .buf (z8 1198) 1)], 8477, .flat (.int .i64 (-1)), [(8476, .buf (z8 1198) 1)], 8477⟩
theorem k322_8477_ok : KeyOK Tryz.prog tabG k322_8477 := KeyOK.of x1_ok hpl mix 100000 (by kernel_rfl) (by kernel_rfl : knownB Tryz.prog tabG plans X1 100000 k322_8477 = true)
/-- ratchet/durable.Format -/
noncomputable def k63_8902 : Key := ⟨63, [.ptr 8901 0], [(8899, .map [] 0), (8900, .map [] 0), (8901, dB29)], 8902, .num .i64 0, [(8899, dB1), (8900, dB1), (8901, dB29)], 9878⟩
theorem k63_8902_ok : KeyOK Tryz.prog tabG k63_8902 := KeyOK.of x1_ok hpl mix 100000 (by kernel_rfl) (by kernel_rfl : knownB Tryz.prog tabG plans X1 100000 k63_8902 = true)
end Go.Proofs.YteokklempfnpaaaGreatDoor
