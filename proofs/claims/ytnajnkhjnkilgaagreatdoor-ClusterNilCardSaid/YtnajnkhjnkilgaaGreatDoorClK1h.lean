/-
  Some calls of the anchor, reckoned by themselves. Conditions: none beside what ratchet/sha.table holds.
-/
import Derived.Test.YtnajnkhjnkilgaaGreatDoorClX
namespace Go.Proofs.YtnajnkhjnkilgaaGreatDoor
open Go.RowKit Go.Sx Go.Ev
set_option linter.unusedVariables false
set_option linter.unusedSimpArgs false
set_option linter.unnecessarySimpa false
set_option maxRecDepth 100000
/-- ratchet/tag.Numbered -/
noncomputable def k204_11324 : Key := ⟨204, [.num .i64 1, .num .u64 1, .sl 11245 0 158 0 false], [(11245, dB40)], 11324, .agg (b8 [152, 243, 90, 56, 119, 241, 88, 247, 65, 96, 88, 42, 35, 111, 236, 29, 214, 119, 183, 61, 122, 65, 152, 51, 96, 200, 52, 227, 19, 77, 47, 195]), [(11245, dB40)], 11515⟩
theorem k204_11324_ok : KeyOK Tryz.prog tabG k204_11324 := KeyOK.of x1_ok hpl mix 100000 (by kernel_rfl) (by kernel_rfl : knownB Tryz.prog tabG plans X1 100000 k204_11324 = true)
/-- ratchet/message.sign -/
noncomputable def k218_11643 : Key := ⟨218, [.agg [.num .i64 1, .num .u64 1, .num .u8 2, .flat (.string ⟨#[97]⟩), .flat (.string ⟨#[49]⟩), .flat (.string ⟨#[]⟩), .flat (.string ⟨#[]⟩), .num .u64 0, .num .u8 18, .num .u8 71, .num .u8 57, .num .u8 66, .num .u8 140, .num .u8 84, .num .u8 199, .num .u8 250, .num .u8 179, .num .u8 72, .num .u8 66, .num .u8 17, .num .u8 252, .num .u8 175, .num .u8 62, .num .u8 1, .num .u8 134, .num .u8 61, .num .u8 32, .num .u8 207, .num .u8 144, .num .u8 148, .num .u8 3, .num .u8 95, .num .u8 153, .num .u8 188, .num .u8 73, .num .u8 203, .num .u8 49, .num .u8 103, .num .u8 152, .num .u8 126]], [], 11643, .agg (b8 [18, 71, 57, 66, 140, 84, 199, 250, 179, 72, 66, 17, 252, 175, 62, 1, 134, 61, 32, 207, 144, 148, 3, 95, 153, 188, 73, 203, 49, 103, 152, 126]), [], 11899⟩
theorem k218_11643_ok : KeyOK Tryz.prog tabG k218_11643 := KeyOK.of x1_ok hpl mix 100000 (by kernel_rfl) (by kernel_rfl : knownB Tryz.prog tabG plans X1 100000 k218_11643 = true)
/-- ratchet/tag.Numbered -/
noncomputable def k204_12932 : Key := ⟨204, [.num .i64 1, .num .u64 1, .sl 12853 0 158 0 false], [(12853, dB40)], 12932, .agg (b8 [152, 243, 90, 56, 119, 241, 88, 247, 65, 96, 88, 42, 35, 111, 236, 29, 214, 119, 183, 61, 122, 65, 152, 51, 96, 200, 52, 227, 19, 77, 47, 195]), [(12853, dB40)], 13123⟩
theorem k204_12932_ok : KeyOK Tryz.prog tabG k204_12932 := KeyOK.of x1_ok hpl mix 100000 (by kernel_rfl) (by kernel_rfl : knownB Tryz.prog tabG plans X1 100000 k204_12932 = true)
/-- ratchet/tag.Numbered -/
noncomputable def k204_13754 : Key := ⟨204, [.num .i64 1, .num .u64 1, .sl 13675 0 158 0 false], [(13675, dB40)], 13754, .agg (b8 [152, 243, 90, 56, 119, 241, 88, 247, 65, 96, 88, 42, 35, 111, 236, 29, 214, 119, 183, 61, 122, 65, 152, 51, 96, 200, 52, 227, 19, 77, 47, 195]), [(13675, dB40)], 13945⟩
theorem k204_13754_ok : KeyOK Tryz.prog tabG k204_13754 := KeyOK.of x1_ok hpl mix 100000 (by kernel_rfl) (by kernel_rfl : knownB Tryz.prog tabG plans X1 100000 k204_13754 = true)
/-- ratchet/tag.Numbered -/
noncomputable def k204_14572 : Key := ⟨204, [.num .i64 1, .num .u64 1, .sl 14493 0 158 0 false], [(14493, dB40)], 14572, .agg (b8 [152, 243, 90, 56, 119, 241, 88, 247, 65, 96, 88, 42, 35, 111, 236, 29, 214, 119, 183, 61, 122, 65, 152, 51, 96, 200, 52, 227, 19, 77, 47, 195]), [(14493, dB40)], 14763⟩
theorem k204_14572_ok : KeyOK Tryz.prog tabG k204_14572 := KeyOK.of x1_ok hpl mix 100000 (by kernel_rfl) (by kernel_rfl : knownB Tryz.prog tabG plans X1 100000 k204_14572 = true)
end Go.Proofs.YtnajnkhjnkilgaaGreatDoor
