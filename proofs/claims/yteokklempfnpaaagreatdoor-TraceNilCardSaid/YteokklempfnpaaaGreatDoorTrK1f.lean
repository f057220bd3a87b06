/-
  Some calls of the anchor, reckoned by themselves. Conditions: none beside what ratchet/sha.table holds.
-/
import Derived.Test.YteokklempfnpaaaGreatDoorTrX
namespace Go.Proofs.YteokklempfnpaaaGreatDoor
open Go.RowKit Go.Sx Go.Ev
set_option linter.unusedVariables false
set_option linter.unusedSimpArgs false
set_option linter.unnecessarySimpa false
set_option maxRecDepth 100000
/-- slices.IndexFunc[[]byte,byte] -/
noncomputable def k322_5534 : Key := ⟨322, [.sl 5533 0 1198 0 false, .flat (.func (.func 275) #[] #[])], [(5533, .buf (z8 1198) 1)], 5534, .flat (.int .i64 (-1)), [(5533, .buf (z8 1198) 1)], 5534⟩
theorem k322_5534_ok : KeyOK Tryz.prog tabG k322_5534 := KeyOK.of x1_ok hpl mix 100000 (by kernel_rfl) (by kernel_rfl : knownB Tryz.prog tabG plans X1 100000 k322_5534 = true)
/-- slices.IndexFunc[[]byte,byte] -/
noncomputable def k322_5657 : Key := ⟨322, [.sl 5656 0 1198 0 false, .flat (.func (.func 275) #[] #[])], [(5656, .buf (z8 1198) 1)], 5657, .flat (.int .i64 (-1)), [(5656, .buf (z8 1198) 1)], 5657⟩
theorem k322_5657_ok : KeyOK Tryz.prog tabG k322_5657 := KeyOK.of x1_ok hpl mix 100000 (by kernel_rfl) (by kernel_rfl : knownB Tryz.prog tabG plans X1 100000 k322_5657 = true)
/-- ratchet/message.sign -/
noncomputable def k240_6320 : Key := ⟨240, [.agg (ap [.num .i64 1, .num .u64 1, .num .u8 2, .flat (.string ⟨#[97]⟩), .flat (.string ⟨#[49]⟩), .flat (.string ⟨#[]⟩), .flat (.string ⟨#[]⟩), .num .u64 0] (z8 32))], [], 6320, .agg (b8 [18, 71, 57, 66, 140, 84, 199, 250, 179, 72, 66, 17, 252, 175, 62, 1, 134, 61, 32, 207, 144, 148, 3, 95, 153, 188, 73, 203, 49, 103, 152, 126]), [], 6576⟩
theorem k240_6320_ok : KeyOK Tryz.prog tabG k240_6320 := KeyOK.of x1_ok hpl mix 100000 (by kernel_rfl) (by kernel_rfl : knownB Tryz.prog tabG plans X1 100000 k240_6320 = true)
end Go.Proofs.YteokklempfnpaaaGreatDoor
