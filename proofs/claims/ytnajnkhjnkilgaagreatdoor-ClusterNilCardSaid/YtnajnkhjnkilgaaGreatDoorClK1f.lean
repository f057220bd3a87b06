/-
  Some calls of the anchor, reckoned by themselves. Conditions: none beside what ratchet/sha.table holds.
-/
import Derived.Test.YtnajnkhjnkilgaaGreatDoorClX
namespace Go.Proofs.YtnajnkhjnkilgaaGreatDoor
open Go.RowKit Go.Sx Go.Ev
set_option linter.unusedVariables false
set_option linter.unusedSimpArgs false
set_option linter.unnecessarySimpa false
set_option maxRecDepth 100000
/-- slices.IndexFunc[[]byte,byte] -/
noncomputable def k328_5534 : Key := ⟨328, [.sl 5533 0 1198 0 false, .flat (.func (.func 261) #[] #[])], [(5533, .buf (z8 1198) 1)], 5534, .flat (.int .i64 (-1)), [(5533, .buf (z8 1198) 1)], 5534⟩
theorem k328_5534_ok : KeyOK Tryz.prog tabG k328_5534 := KeyOK.of x1_ok hpl mix 100000 (by kernel_rfl) (by kernel_rfl : knownB Tryz.prog tabG plans X1 100000 k328_5534 = true)
/-- slices.IndexFunc[[]byte,byte] -/
noncomputable def k328_5657 : Key := ⟨328, [.sl 5656 0 1198 0 false, .flat (.func (.func 261) #[] #[])], [(5656, .buf (z8 1198) 1)], 5657, .flat (.int .i64 (-1)), [(5656, .buf (z8 1198) 1)], 5657⟩
theorem k328_5657_ok : KeyOK Tryz.prog tabG k328_5657 := KeyOK.of x1_ok hpl mix 100000 (by kernel_rfl) (by kernel_rfl : knownB Tryz.prog tabG plans X1 100000 k328_5657 = true)
/-- ratchet/message.sign -/
noncomputable def k218_6095 : Key := ⟨218, [.agg (ap [.num .i64 1, .num .u64 1, .num .u8 2, .flat (.string ⟨#[97]⟩), .flat (.string ⟨#[49]⟩), .flat (.string ⟨#[]⟩), .flat (.string ⟨#[]⟩), .num .u64 0] (z8 32))], [], 6095, .agg (b8 [18, 71, 57, 66, 140, 84, 199, 250, 179, 72, 66, 17, 252, 175, 62, 1, 134, 61, 32, 207, 144, 148, 3, 95, 153, 188, 73, 203, 49, 103, 152, 126]), [], 6351⟩
theorem k218_6095_ok : KeyOK Tryz.prog tabG k218_6095 := KeyOK.of x1_ok hpl mix 100000 (by kernel_rfl) (by kernel_rfl : knownB Tryz.prog tabG plans X1 100000 k218_6095 = true)
end Go.Proofs.YtnajnkhjnkilgaaGreatDoor
