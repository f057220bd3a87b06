/-
  Some calls of the anchor, reckoned by themselves. Conditions: none beside what ratchet/sha.table holds.
-/
import Derived.Test.YtahmejhidelkbaaGreatDoorDrX
namespace Go.Proofs.YtahmejhidelkbaaGreatDoor
open Go.RowKit Go.Sx Go.Ev
set_option linter.unusedVariables false
set_option linter.unusedSimpArgs false
set_option linter.unnecessarySimpa false
set_option maxRecDepth 100000
/-- ratchet/durable.Format -/
noncomputable def k61_13 : Key := ⟨61, [.ptr 12 0], [(10, .map [] 0), (11, .map [] 0), (12, dB0)], 13, ni 0, c0, 989⟩
theorem k61_13_ok : KeyOK Tryz.prog tabG k61_13 := KeyOK.of xw0_ok hpl mix 100000 (by kernel_rfl) (by kernel_rfl : knownB Tryz.prog tabG plans XW0 100000 k61_13 = true)
/-- slices.IndexFunc[[]byte,byte] -/
noncomputable def k327_1238 : Key := ⟨327, [.sl 1237 0 1198 0 false, .flat (.func (.func 261) #[] #[])], c1, 1238, .flat (.int .i64 (-1)), c1, 1238⟩
theorem k327_1238_ok : KeyOK Tryz.prog tabG k327_1238 := KeyOK.of xw0_ok hpl mix 100000 (by kernel_rfl) (by kernel_rfl : knownB Tryz.prog tabG plans XW0 100000 k327_1238 = true)
/-- slices.IndexFunc[[]byte,byte] -/
noncomputable def k327_1361 : Key := ⟨327, [.sl 1360 0 1198 0 false, .flat (.func (.func 261) #[] #[])], c2, 1361, .flat (.int .i64 (-1)), c2, 1361⟩
theorem k327_1361_ok : KeyOK Tryz.prog tabG k327_1361 := KeyOK.of xw0_ok hpl mix 100000 (by kernel_rfl) (by kernel_rfl : knownB Tryz.prog tabG plans XW0 100000 k327_1361 = true)
/-- slices.IndexFunc[[]byte,byte] -/
noncomputable def k327_1488 : Key := ⟨327, [.sl 1487 0 1198 0 false, .flat (.func (.func 261) #[] #[])], c3, 1488, .flat (.int .i64 (-1)), c3, 1488⟩
theorem k327_1488_ok : KeyOK Tryz.prog tabG k327_1488 := KeyOK.of xw0_ok hpl mix 100000 (by kernel_rfl) (by kernel_rfl : knownB Tryz.prog tabG plans XW0 100000 k327_1488 = true)
/-- slices.IndexFunc[[]byte,byte] -/
noncomputable def k327_1611 : Key := ⟨327, [.sl 1610 0 1198 0 false, .flat (.func (.func 261) #[] #[])], c4, 1611, .flat (.int .i64 (-1)), c4, 1611⟩
theorem k327_1611_ok : KeyOK Tryz.prog tabG k327_1611 := KeyOK.of xw0_ok hpl mix 100000 (by kernel_rfl) (by kernel_rfl : knownB Tryz.prog tabG plans XW0 100000 k327_1611 = true)
/-- ratchet/durable.Format -/
noncomputable def k61_2036 : Key := ⟨61, [.ptr 2035 0], [(2033, .map [] 0), (2034, .map [] 0), (2035, dB5)], 2036, ni 0, (aj c5 [(2035, dB5)]), 3012⟩
theorem k61_2036_ok : KeyOK Tryz.prog tabG k61_2036 := KeyOK.of xw0_ok hpl mix 100000 (by kernel_rfl) (by kernel_rfl : knownB Tryz.prog tabG plans XW0 100000 k61_2036 = true)
end Go.Proofs.YtahmejhidelkbaaGreatDoor
