/-
  Some calls of the anchor, reckoned by themselves. Conditions: none beside what ratchet/sha.table holds.
-/
import Derived.Test.YteokklempfnpaaaGreatDoorTrX
namespace Go.Proofs.YteokklempfnpaaaGreatDoor
open Go.RowKit Go.Sx Go.Ev
set_option linter.unusedVariables false
set_option linter.unusedSimpArgs false
set_option linter.unnecessarySimpa false
set_option maxRecDepth 100000
/-- ratchet/durable.Format -/
noncomputable def k63_6879 : Key := ⟨63, [.ptr 6878 0], [(6876, .map [] 0), (6877, .map [] 0), (6878, dB26)], 6879, .num .i64 0, [(6876, dB1), (6877, dB1), (6878, dB26)], 7855⟩
theorem k63_6879_ok : KeyOK Tryz.prog tabG k63_6879 := KeyOK.of x1_ok hpl mix 100000 (by kernel_rfl) (by kernel_rfl : knownB Tryz.prog tabG plans X1 100000 k63_6879 = true)
/-- slices.IndexFunc[[]byte,byte] -/
noncomputable def k322_8104 : Key := ⟨322, [.sl 8103 0 1198 0 false, .flat (.func (.func 275) #[] #[])], [(8103, .buf (z8 1198) 1)], 8104, .flat (.int .i64 (-1)), [(8103, .buf (z8 1198) 1)], 8104⟩
theorem k322_8104_ok : KeyOK Tryz.prog tabG k322_8104 := KeyOK.of x1_ok hpl mix 100000 (by kernel_rfl) (by kernel_rfl : knownB Tryz.prog tabG plans X1 100000 k322_8104 = true)
/-- slices.IndexFunc[[]byte,byte] -/
noncomputable def k322_8227 : Key := ⟨322, [.sl 8226 0 1198 0 false, .flat (.func (.func 275) #[] #[])], [(8226, .buf (z8 1198) 1)], 8227, .flat (.int .i64 (-1)), [(8226, .buf (z8 1198) 1)], 8227⟩
theorem k322_8227_ok : KeyOK Tryz.prog tabG k322_8227 := KeyOK.of x1_ok hpl mix 100000 (by kernel_rfl) (by kernel_rfl : knownB Tryz.prog tabG plans X1 100000 k322_8227 = true)
end Go.Proofs.YteokklempfnpaaaGreatDoor
