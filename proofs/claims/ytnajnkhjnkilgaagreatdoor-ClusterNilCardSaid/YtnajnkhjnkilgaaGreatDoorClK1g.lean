/-
  Some calls of the anchor, reckoned by themselves. Conditions: none beside what ratchet/sha.table holds.
-/
import Derived.Test.YtnajnkhjnkilgaaGreatDoorClX
namespace Go.Proofs.YtnajnkhjnkilgaaGreatDoor
open Go.RowKit Go.Sx Go.Ev
set_option linter.unusedVariables false
set_option linter.unusedSimpArgs false
set_option linter.unnecessarySimpa false
set_option maxRecDepth 100000
/-- ratchet/message.sign -/
noncomputable def k218_6376 : Key := ⟨218, [.agg [.num .i64 1, .num .u64 1, .num .u8 2, .flat (.string ⟨#[97]⟩), .flat (.string ⟨#[49]⟩), .flat (.string ⟨#[]⟩), .flat (.string ⟨#[]⟩), .num .u64 0, .num .u8 18, .num .u8 71, .num .u8 57, .num .u8 66, .num .u8 140, .num .u8 84, .num .u8 199, .num .u8 250, .num .u8 179, .num .u8 72, .num .u8 66, .num .u8 17, .num .u8 252, .num .u8 175, .num .u8 62, .num .u8 1, .num .u8 134, .num .u8 61, .num .u8 32, .num .u8 207, .num .u8 144, .num .u8 148, .num .u8 3, .num .u8 95, .num .u8 153, .num .u8 188, .num .u8 73, .num .u8 203, .num .u8 49, .num .u8 103, .num .u8 152, .num .u8 126]], [], 6376, .agg (b8 [18, 71, 57, 66, 140, 84, 199, 250, 179, 72, 66, 17, 252, 175, 62, 1, 134, 61, 32, 207, 144, 148, 3, 95, 153, 188, 73, 203, 49, 103, 152, 126]), [], 6632⟩
theorem k218_6376_ok : KeyOK Tryz.prog tabG k218_6376 := KeyOK.of x1_ok hpl mix 100000 (by kernel_rfl) (by kernel_rfl : knownB Tryz.prog tabG plans X1 100000 k218_6376 = true)
/-- ratchet/state.Of -/
noncomputable def k290_7147 : Key := ⟨290, [.sl 7146 0 208 0 false], [(7146, .buf (z8 208) 1)], 7147, .tup [.ptr 7150 0, .num .i64 0], [(7146, .buf (z8 208) 1), (7150, .cells [.ptr 7193 0, .ptr 7191 0, .num .u64 0]), (7191, dB12), (7192, .map [] 0), (7193, .cells [.mp 7192])], 7707⟩
theorem k290_7147_ok : KeyOK Tryz.prog tabG k290_7147 := KeyOK.of x1_ok hpl mix 100000 (by kernel_rfl) (by kernel_rfl : knownB Tryz.prog tabG plans X1 100000 k290_7147 = true)
/-- ratchet/state.Of -/
noncomputable def k290_8254 : Key := ⟨290, [.sl 8253 0 208 0 false], [(8253, .buf (z8 208) 1)], 8254, .tup [.ptr 8257 0, .num .i64 0], [(8253, .buf (z8 208) 1), (8257, .cells [.ptr 8300 0, .ptr 8298 0, .num .u64 0]), (8298, dB12), (8299, .map [] 0), (8300, .cells [.mp 8299])], 8814⟩
theorem k290_8254_ok : KeyOK Tryz.prog tabG k290_8254 := KeyOK.of x1_ok hpl mix 100000 (by kernel_rfl) (by kernel_rfl : knownB Tryz.prog tabG plans X1 100000 k290_8254 = true)
/-- ratchet/message.sign -/
noncomputable def k218_8852 : Key := ⟨218, [.agg [.num .i64 1, .num .u64 1, .num .u8 2, .flat (.string ⟨#[97]⟩), .flat (.string ⟨#[49]⟩), .flat (.string ⟨#[]⟩), .flat (.string ⟨#[]⟩), .num .u64 0, .num .u8 18, .num .u8 71, .num .u8 57, .num .u8 66, .num .u8 140, .num .u8 84, .num .u8 199, .num .u8 250, .num .u8 179, .num .u8 72, .num .u8 66, .num .u8 17, .num .u8 252, .num .u8 175, .num .u8 62, .num .u8 1, .num .u8 134, .num .u8 61, .num .u8 32, .num .u8 207, .num .u8 144, .num .u8 148, .num .u8 3, .num .u8 95, .num .u8 153, .num .u8 188, .num .u8 73, .num .u8 203, .num .u8 49, .num .u8 103, .num .u8 152, .num .u8 126]], [], 8852, .agg (b8 [18, 71, 57, 66, 140, 84, 199, 250, 179, 72, 66, 17, 252, 175, 62, 1, 134, 61, 32, 207, 144, 148, 3, 95, 153, 188, 73, 203, 49, 103, 152, 126]), [], 9108⟩
theorem k218_8852_ok : KeyOK Tryz.prog tabG k218_8852 := KeyOK.of x1_ok hpl mix 100000 (by kernel_rfl) (by kernel_rfl : knownB Tryz.prog tabG plans X1 100000 k218_8852 = true)
/-- ratchet/tag.Numbered -/
noncomputable def k204_9946 : Key := ⟨204, [.num .i64 1, .num .u64 1, .sl 9539 0 158 0 false], [(9539, dB40)], 9946, .agg (b8 [152, 243, 90, 56, 119, 241, 88, 247, 65, 96, 88, 42, 35, 111, 236, 29, 214, 119, 183, 61, 122, 65, 152, 51, 96, 200, 52, 227, 19, 77, 47, 195]), [(9539, dB40)], 10137⟩
theorem k204_9946_ok : KeyOK Tryz.prog tabG k204_9946 := KeyOK.of x1_ok hpl mix 100000 (by kernel_rfl) (by kernel_rfl : knownB Tryz.prog tabG plans X1 100000 k204_9946 = true)
end Go.Proofs.YtnajnkhjnkilgaaGreatDoor
