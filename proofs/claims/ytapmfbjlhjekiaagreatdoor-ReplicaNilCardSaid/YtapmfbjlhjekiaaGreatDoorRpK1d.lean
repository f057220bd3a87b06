/-
  Some calls of the anchor, reckoned by themselves. Conditions: none beside what ratchet/sha.table holds.
-/
import Derived.Test.YtapmfbjlhjekiaaGreatDoorRpX
namespace Go.Proofs.YtapmfbjlhjekiaaGreatDoor
open Go.RowKit Go.Sx Go.Ev
set_option linter.unusedVariables false
set_option linter.unusedSimpArgs false
set_option linter.unnecessarySimpa false
set_option maxRecDepth 100000
/-- ratchet/tag.Numbered -/
noncomputable def k219_10133 : Key := ⟨219, [.num .i64 1, .num .u64 1, .sl 10054 0 158 0 false], [(10054, dB3)], 10133, .agg (b8 [228, 54, 78, 22, 168, 71, 71, 11, 228, 148, 73, 252, 105, 80, 244, 170, 236, 226, 247, 81, 166, 179, 225, 113, 113, 224, 58, 78, 236, 130, 148, 147]), [(10054, dB3)], 10324⟩
theorem k219_10133_ok : KeyOK Tryz.prog tabG k219_10133 := KeyOK.of x1_ok hpl mix 100000 (by kernel_rfl) (by kernel_rfl : knownB Tryz.prog tabG plans X1 100000 k219_10133 = true)
/-- ratchet/message.sign -/
noncomputable def k58_10452 : Key := ⟨58, [.agg [.num .i64 1, .num .u64 1, .num .u8 2, .flat (.string ⟨#[97]⟩), .flat (.string ⟨#[48]⟩), .flat (.string ⟨#[]⟩), .flat (.string ⟨#[]⟩), .num .u64 0, .num .u8 128, .num .u8 199, .num .u8 122, .num .u8 201, .num .u8 144, .num .u8 63, .num .u8 138, .num .u8 192, .num .u8 58, .num .u8 195, .num .u8 187, .num .u8 152, .num .u8 60, .num .u8 192, .num .u8 240, .num .u8 64, .num .u8 210, .num .u8 141, .num .u8 246, .num .u8 60, .num .u8 43, .num .u8 148, .num .u8 165, .num .u8 157, .num .u8 31, .num .u8 81, .num .u8 6, .num .u8 55, .num .u8 173, .num .u8 80, .num .u8 206, .num .u8 26]], [], 10452, .agg (b8 [128, 199, 122, 201, 144, 63, 138, 192, 58, 195, 187, 152, 60, 192, 240, 64, 210, 141, 246, 60, 43, 148, 165, 157, 31, 81, 6, 55, 173, 80, 206, 26]), [], 10708⟩
theorem k58_10452_ok : KeyOK Tryz.prog tabG k58_10452 := KeyOK.of x1_ok hpl mix 100000 (by kernel_rfl) (by kernel_rfl : knownB Tryz.prog tabG plans X1 100000 k58_10452 = true)
/-- ratchet/state.Of -/
noncomputable def k60_11365 : Key := ⟨60, [.sl 11364 0 208 0 false], [(11364, .buf (z8 208) 1)], 11365, .tup [.ptr 11368 0, .num .i64 0], [(11364, .buf (z8 208) 1), (11368, .cells [.ptr 11411 0, .ptr 11409 0, .num .u64 0]), (11409, dB0), (11410, .map [] 0), (11411, .cells [.mp 11410])], 11925⟩
theorem k60_11365_ok : KeyOK Tryz.prog tabG k60_11365 := KeyOK.of x1_ok hpl mix 100000 (by kernel_rfl) (by kernel_rfl : knownB Tryz.prog tabG plans X1 100000 k60_11365 = true)
end Go.Proofs.YtapmfbjlhjekiaaGreatDoor
