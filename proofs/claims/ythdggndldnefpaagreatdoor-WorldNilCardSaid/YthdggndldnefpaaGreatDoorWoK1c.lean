/-
  Some calls of the anchor, reckoned by themselves. Conditions: none beside what ratchet/sha.table holds.
-/
import Derived.Test.YthdggndldnefpaaGreatDoorWoX
namespace Go.Proofs.YthdggndldnefpaaGreatDoor
open Go.RowKit Go.Sx Go.Ev
set_option linter.unusedVariables false
set_option linter.unusedSimpArgs false
set_option linter.unnecessarySimpa false
set_option maxRecDepth 100000
/-- slices.IndexFunc[[]byte,byte] -/
noncomputable def k328_5284 : Key := ⟨328, [.sl 5283 0 1198 0 false, .flat (.func (.func 261) #[] #[])], c11, 5284, .flat (.int .i64 (-1)), c11, 5284⟩
theorem k328_5284_ok : KeyOK Tryz.prog tabG k328_5284 := KeyOK.of x1_ok hpl mix 100000 (by kernel_rfl) (by kernel_rfl : knownB Tryz.prog tabG plans X1 100000 k328_5284 = true)
/-- slices.IndexFunc[[]byte,byte] -/
noncomputable def k328_5407 : Key := ⟨328, [.sl 5406 0 1198 0 false, .flat (.func (.func 261) #[] #[])], c12, 5407, .flat (.int .i64 (-1)), c12, 5407⟩
theorem k328_5407_ok : KeyOK Tryz.prog tabG k328_5407 := KeyOK.of x1_ok hpl mix 100000 (by kernel_rfl) (by kernel_rfl : knownB Tryz.prog tabG plans X1 100000 k328_5407 = true)
/-- slices.IndexFunc[[]byte,byte] -/
noncomputable def k328_5534 : Key := ⟨328, [.sl 5533 0 1198 0 false, .flat (.func (.func 261) #[] #[])], c13, 5534, .flat (.int .i64 (-1)), c13, 5534⟩
theorem k328_5534_ok : KeyOK Tryz.prog tabG k328_5534 := KeyOK.of x1_ok hpl mix 100000 (by kernel_rfl) (by kernel_rfl : knownB Tryz.prog tabG plans X1 100000 k328_5534 = true)
/-- slices.IndexFunc[[]byte,byte] -/
noncomputable def k328_5657 : Key := ⟨328, [.sl 5656 0 1198 0 false, .flat (.func (.func 261) #[] #[])], c14, 5657, .flat (.int .i64 (-1)), c14, 5657⟩
theorem k328_5657_ok : KeyOK Tryz.prog tabG k328_5657 := KeyOK.of x1_ok hpl mix 100000 (by kernel_rfl) (by kernel_rfl : knownB Tryz.prog tabG plans X1 100000 k328_5657 = true)
/-- ratchet/message.sign -/
noncomputable def k218_6098 : Key := ⟨218, [.agg (ap [ni 1, nu 1, nb 2, .flat (.string ⟨#[97]⟩), .flat (.string ⟨#[49]⟩), fs, fs, nu 0] (z8 32))], [], 6098, .agg (b8 [18, 71, 57, 66, 140, 84, 199, 250, 179, 72, 66, 17, 252, 175, 62, 1, 134, 61, 32, 207, 144, 148, 3, 95, 153, 188, 73, 203, 49, 103, 152, 126]), [], 6354⟩
theorem k218_6098_ok : KeyOK Tryz.prog tabG k218_6098 := KeyOK.of x1_ok hpl mix 100000 (by kernel_rfl) (by kernel_rfl : knownB Tryz.prog tabG plans X1 100000 k218_6098 = true)
/-- ratchet/state.Of -/
noncomputable def k290_7039 : Key := ⟨290, [.sl 7038 0 208 0 false], [(7038, .buf (z8 208) 1)], 7039, .tup [.ptr 7042 0, ni 0], [(7038, .buf (z8 208) 1), (7042, .cells [.ptr 7085 0, .ptr 7083 0, nu 0]), (7083, dB21), (7084, .map [] 0), (7085, .cells [.mp 7084])], 7599⟩
theorem k290_7039_ok : KeyOK Tryz.prog tabG k290_7039 := KeyOK.of x1_ok hpl mix 100000 (by kernel_rfl) (by kernel_rfl : knownB Tryz.prog tabG plans X1 100000 k290_7039 = true)
end Go.Proofs.YthdggndldnefpaaGreatDoor
