/-
  Some calls of the anchor, reckoned by themselves. Conditions: none beside what ratchet/sha.table holds.
-/
import Derived.Test.YtnajnkhjnkilgaaGreatDoorClX
namespace Go.Proofs.YtnajnkhjnkilgaaGreatDoor
open Go.RowKit Go.Sx Go.Ev
set_option linter.unusedVariables false
set_option linter.unusedSimpArgs false
set_option linter.unnecessarySimpa false
set_option maxRecDepth 100000
/-- ratchet/message.sign -/
noncomputable def k218_14891 : Key := ⟨218, [.agg [.num .i64 1, .num .u64 1, .num .u8 2, .flat (.string ⟨#[97]⟩), .flat (.string ⟨#[49]⟩), .flat (.string ⟨#[]⟩), .flat (.string ⟨#[]⟩), .num .u64 0, .num .u8 18, .num .u8 71, .num .u8 57, .num .u8 66, .num .u8 140, .num .u8 84, .num .u8 199, .num .u8 250, .num .u8 179, .num .u8 72, .num .u8 66, .num .u8 17, .num .u8 252, .num .u8 175, .num .u8 62, .num .u8 1, .num .u8 134, .num .u8 61, .num .u8 32, .num .u8 207, .num .u8 144, .num .u8 148, .num .u8 3, .num .u8 95, .num .u8 153, .num .u8 188, .num .u8 73, .num .u8 203, .num .u8 49, .num .u8 103, .num .u8 152, .num .u8 126]], [], 14891, .agg (b8 [18, 71, 57, 66, 140, 84, 199, 250, 179, 72, 66, 17, 252, 175, 62, 1, 134, 61, 32, 207, 144, 148, 3, 95, 153, 188, 73, 203, 49, 103, 152, 126]), [], 15147⟩
theorem k218_14891_ok : KeyOK Tryz.prog tabG k218_14891 := KeyOK.of x1_ok hpl mix 100000 (by kernel_rfl) (by kernel_rfl : knownB Tryz.prog tabG plans X1 100000 k218_14891 = true)
/-- ratchet/state.Of -/
noncomputable def k290_16386 : Key := ⟨290, [.sl 16385 0 208 0 false], [(16385, .buf (z8 208) 1)], 16386, .tup [.ptr 16389 0, .num .i64 0], [(16385, .buf (z8 208) 1), (16389, .cells [.ptr 16432 0, .ptr 16430 0, .num .u64 0]), (16430, dB12), (16431, .map [] 0), (16432, .cells [.mp 16431])], 16946⟩
theorem k290_16386_ok : KeyOK Tryz.prog tabG k290_16386 := KeyOK.of x1_ok hpl mix 100000 (by kernel_rfl) (by kernel_rfl : knownB Tryz.prog tabG plans X1 100000 k290_16386 = true)
/-- ratchet/tag.Numbered -/
noncomputable def k204_17697 : Key := ⟨204, [.num .i64 2, .num .u64 1, .sl 17290 0 106 0 false], [(17290, dB58)], 17697, .agg (b8 [41, 94, 244, 46, 165, 133, 76, 105, 204, 218, 139, 48, 126, 24, 159, 121, 43, 227, 250, 31, 36, 63, 44, 23, 121, 232, 135, 31, 63, 100, 15, 68]), [(17290, dB58)], 17876⟩
theorem k204_17697_ok : KeyOK Tryz.prog tabG k204_17697 := KeyOK.of x1_ok hpl mix 100000 (by kernel_rfl) (by kernel_rfl : knownB Tryz.prog tabG plans X1 100000 k204_17697 = true)
/-- ratchet/tag.Numbered -/
noncomputable def k204_18768 : Key := ⟨204, [.num .i64 2, .num .u64 1, .sl 18689 0 106 0 false], [(18689, dB58)], 18768, .agg (b8 [41, 94, 244, 46, 165, 133, 76, 105, 204, 218, 139, 48, 126, 24, 159, 121, 43, 227, 250, 31, 36, 63, 44, 23, 121, 232, 135, 31, 63, 100, 15, 68]), [(18689, dB58)], 18947⟩
theorem k204_18768_ok : KeyOK Tryz.prog tabG k204_18768 := KeyOK.of x1_ok hpl mix 100000 (by kernel_rfl) (by kernel_rfl : knownB Tryz.prog tabG plans X1 100000 k204_18768 = true)
end Go.Proofs.YtnajnkhjnkilgaaGreatDoor
