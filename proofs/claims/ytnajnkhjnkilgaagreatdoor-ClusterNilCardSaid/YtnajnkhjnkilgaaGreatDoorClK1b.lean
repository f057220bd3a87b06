/-
  Some calls of the anchor, reckoned by themselves. Conditions: none beside what ratchet/sha.table holds.
-/
import Derived.Test.YtnajnkhjnkilgaaGreatDoorClX
namespace Go.Proofs.YtnajnkhjnkilgaaGreatDoor
open Go.RowKit Go.Sx Go.Ev
set_option linter.unusedVariables false
set_option linter.unusedSimpArgs false
set_option linter.unnecessarySimpa false
set_option maxRecDepth 100000
/-- slices.IndexFunc[[]byte,byte] -/
noncomputable def k328_1488 : Key := ⟨328, [.sl 1487 0 1198 0 false, .flat (.func (.func 261) #[] #[])], [(1487, .buf (z8 1198) 1)], 1488, .flat (.int .i64 (-1)), [(1487, .buf (z8 1198) 1)], 1488⟩
theorem k328_1488_ok : KeyOK Tryz.prog tabG k328_1488 := KeyOK.of x1_ok hpl mix 100000 (by kernel_rfl) (by kernel_rfl : knownB Tryz.prog tabG plans X1 100000 k328_1488 = true)
/-- slices.IndexFunc[[]byte,byte] -/
noncomputable def k328_1611 : Key := ⟨328, [.sl 1610 0 1198 0 false, .flat (.func (.func 261) #[] #[])], [(1610, .buf (z8 1198) 1)], 1611, .flat (.int .i64 (-1)), [(1610, .buf (z8 1198) 1)], 1611⟩
theorem k328_1611_ok : KeyOK Tryz.prog tabG k328_1611 := KeyOK.of x1_ok hpl mix 100000 (by kernel_rfl) (by kernel_rfl : knownB Tryz.prog tabG plans X1 100000 k328_1611 = true)
/-- ratchet/durable.Format -/
noncomputable def k47_2036 : Key := ⟨47, [.ptr 2035 0], [(2033, .map [] 0), (2034, .map [] 0), (2035, dB5)], 2036, .num .i64 0, [(2033, dB1), (2034, dB1), (2035, dB5)], 3012⟩
theorem k47_2036_ok : KeyOK Tryz.prog tabG k47_2036 := KeyOK.of x1_ok hpl mix 100000 (by kernel_rfl) (by kernel_rfl : knownB Tryz.prog tabG plans X1 100000 k47_2036 = true)
end Go.Proofs.YtnajnkhjnkilgaaGreatDoor
