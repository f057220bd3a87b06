/-
  Some calls of the anchor, reckoned by themselves. Conditions: none beside what ratchet/sha.table holds.
-/
import Derived.Test.YtahmejhidelkbaaGreatDoorDrX
namespace Go.Proofs.YtahmejhidelkbaaGreatDoor
open Go.RowKit Go.Sx Go.Ev
set_option linter.unusedVariables false
set_option linter.unusedSimpArgs false
set_option linter.unnecessarySimpa false
set_option maxRecDepth 100000
/-- slices.IndexFunc[[]byte,byte] -/
noncomputable def k327_5284 : Key := ⟨327, [.sl 5283 0 1198 0 false, .flat (.func (.func 261) #[] #[])], c11, 5284, .flat (.int .i64 (-1)), c11, 5284⟩
theorem k327_5284_ok : KeyOK Tryz.prog tabG k327_5284 := KeyOK.of xw0_ok hpl mix 100000 (by kernel_rfl) (by kernel_rfl : knownB Tryz.prog tabG plans XW0 100000 k327_5284 = true)
/-- slices.IndexFunc[[]byte,byte] -/
noncomputable def k327_5407 : Key := ⟨327, [.sl 5406 0 1198 0 false, .flat (.func (.func 261) #[] #[])], c12, 5407, .flat (.int .i64 (-1)), c12, 5407⟩
theorem k327_5407_ok : KeyOK Tryz.prog tabG k327_5407 := KeyOK.of xw0_ok hpl mix 100000 (by kernel_rfl) (by kernel_rfl : knownB Tryz.prog tabG plans XW0 100000 k327_5407 = true)
/-- slices.IndexFunc[[]byte,byte] -/
noncomputable def k327_5534 : Key := ⟨327, [.sl 5533 0 1198 0 false, .flat (.func (.func 261) #[] #[])], c13, 5534, .flat (.int .i64 (-1)), c13, 5534⟩
theorem k327_5534_ok : KeyOK Tryz.prog tabG k327_5534 := KeyOK.of xw0_ok hpl mix 100000 (by kernel_rfl) (by kernel_rfl : knownB Tryz.prog tabG plans XW0 100000 k327_5534 = true)
/-- slices.IndexFunc[[]byte,byte] -/
noncomputable def k327_5657 : Key := ⟨327, [.sl 5656 0 1198 0 false, .flat (.func (.func 261) #[] #[])], c14, 5657, .flat (.int .i64 (-1)), c14, 5657⟩
theorem k327_5657_ok : KeyOK Tryz.prog tabG k327_5657 := KeyOK.of xw0_ok hpl mix 100000 (by kernel_rfl) (by kernel_rfl : knownB Tryz.prog tabG plans XW0 100000 k327_5657 = true)
/-- ratchet/message.sign -/
noncomputable def k292_6098 : Key := ⟨292, [.agg (ap [ni 1, nu 1, nb 2, .flat (.string ⟨#[97]⟩), .flat (.string ⟨#[49]⟩), fs, fs, nu 0] (z8 32))], [], 6098, .agg (b8 [18, 71, 57, 66, 140, 84, 199, 250, 179, 72, 66, 17, 252, 175, 62, 1, 134, 61, 32, 207, 144, 148, 3, 95, 153, 188, 73, 203, 49, 103, 152, 126]), [], 6354⟩
theorem k292_6098_ok : KeyOK Tryz.prog tabG k292_6098 := KeyOK.of xw0_ok hpl mix 100000 (by kernel_rfl) (by kernel_rfl : knownB Tryz.prog tabG plans XW0 100000 k292_6098 = true)
/-- ratchet/state.Of -/
noncomputable def k348_7058 : Key := ⟨348, [.sl 7057 0 208 0 false], [(7057, .buf (z8 208) 1)], 7058, .tup [.ptr 7061 0, ni 0], [(7057, .buf (z8 208) 1), (7061, .cells [.ptr 7104 0, .ptr 7102 0, nu 0]), (7102, dB21), (7103, .map [] 0), (7104, .cells [.mp 7103])], 7618⟩
theorem k348_7058_ok : KeyOK Tryz.prog tabG k348_7058 := KeyOK.of xw0_ok hpl mix 100000 (by kernel_rfl) (by kernel_rfl : knownB Tryz.prog tabG plans XW0 100000 k348_7058 = true)
end Go.Proofs.YtahmejhidelkbaaGreatDoor
