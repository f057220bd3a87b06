/-
  Some calls of the anchor, reckoned by themselves. Conditions: none beside what ratchet/sha.table holds.
-/
import Derived.Test.YtnajnkhjnkilgaaGreatDoorClX
namespace Go.Proofs.YtnajnkhjnkilgaaGreatDoor
open Go.RowKit Go.Sx Go.Ev
set_option linter.unusedVariables false
set_option linter.unusedSimpArgs false
set_option linter.unnecessarySimpa false
set_option maxRecDepth 100000
/-- ratchet/durable.Format -/
noncomputable def k47_13 : Key := ⟨47, [.ptr 12 0], [(10, .map [] 0), (11, .map [] 0), (12, dB0)], 13, .num .i64 0, [(10, dB1), (11, dB1), (12, dB0)], 989⟩
theorem k47_13_ok : KeyOK Tryz.prog tabG k47_13 := KeyOK.of x1_ok hpl mix 100000 (by kernel_rfl) (by kernel_rfl : knownB Tryz.prog tabG plans X1 100000 k47_13 = true)
/-- slices.IndexFunc[[]byte,byte] -/
noncomputable def k328_1238 : Key := ⟨328, [.sl 1237 0 1198 0 false, .flat (.func (.func 261) #[] #[])], [(1237, .buf (z8 1198) 1)], 1238, .flat (.int .i64 (-1)), [(1237, .buf (z8 1198) 1)], 1238⟩
theorem k328_1238_ok : KeyOK Tryz.prog tabG k328_1238 := KeyOK.of x1_ok hpl mix 100000 (by kernel_rfl) (by kernel_rfl : knownB Tryz.prog tabG plans X1 100000 k328_1238 = true)
/-- slices.IndexFunc[[]byte,byte] -/
noncomputable def k328_1361 : Key := ⟨328, [.sl 1360 0 1198 0 false, .flat (.func (.func 261) #[] #[])], [(1360, .buf (z8 1198) 1)], 1361, .flat (.int .i64 (-1)), [(1360, .buf (z8 1198) 1)], 1361⟩
theorem k328_1361_ok : KeyOK Tryz.prog tabG k328_1361 := KeyOK.of x1_ok hpl mix 100000 (by kernel_rfl) (by kernel_rfl : knownB Tryz.prog tabG plans X1 100000 k328_1361 = true)
end Go.Proofs.YtnajnkhjnkilgaaGreatDoor
