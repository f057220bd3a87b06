/-
  Some calls of the anchor, reckoned by themselves. Conditions: none beside what ratchet/sha.table holds.
-/
import Derived.Test.YtapmfbjlhjekiaaGreatDoorRpX
namespace Go.Proofs.YtapmfbjlhjekiaaGreatDoor
open Go.RowKit Go.Sx Go.Ev
set_option linter.unusedVariables false
set_option linter.unusedSimpArgs false
set_option linter.unnecessarySimpa false
set_option maxRecDepth 100000
/-- ratchet/message.sign -/
noncomputable def k58_1936 : Key := ⟨58, [.agg [.num .i64 1, .num .u64 1, .num .u8 2, .flat (.string ⟨#[97]⟩), .flat (.string ⟨#[48]⟩), .flat (.string ⟨#[]⟩), .flat (.string ⟨#[]⟩), .num .u64 0, .num .u8 128, .num .u8 199, .num .u8 122, .num .u8 201, .num .u8 144, .num .u8 63, .num .u8 138, .num .u8 192, .num .u8 58, .num .u8 195, .num .u8 187, .num .u8 152, .num .u8 60, .num .u8 192, .num .u8 240, .num .u8 64, .num .u8 210, .num .u8 141, .num .u8 246, .num .u8 60, .num .u8 43, .num .u8 148, .num .u8 165, .num .u8 157, .num .u8 31, .num .u8 81, .num .u8 6, .num .u8 55, .num .u8 173, .num .u8 80, .num .u8 206, .num .u8 26]], [], 1936, .agg (b8 [128, 199, 122, 201, 144, 63, 138, 192, 58, 195, 187, 152, 60, 192, 240, 64, 210, 141, 246, 60, 43, 148, 165, 157, 31, 81, 6, 55, 173, 80, 206, 26]), [], 2192⟩
theorem k58_1936_ok : KeyOK Tryz.prog tabG k58_1936 := KeyOK.of x1_ok hpl mix 100000 (by kernel_rfl) (by kernel_rfl : knownB Tryz.prog tabG plans X1 100000 k58_1936 = true)
/-- ratchet/state.Of -/
noncomputable def k60_2707 : Key := ⟨60, [.sl 2706 0 208 0 false], [(2706, .buf (z8 208) 1)], 2707, .tup [.ptr 2710 0, .num .i64 0], [(2706, .buf (z8 208) 1), (2710, .cells [.ptr 2753 0, .ptr 2751 0, .num .u64 0]), (2751, dB0), (2752, .map [] 0), (2753, .cells [.mp 2752])], 3267⟩
theorem k60_2707_ok : KeyOK Tryz.prog tabG k60_2707 := KeyOK.of x1_ok hpl mix 100000 (by kernel_rfl) (by kernel_rfl : knownB Tryz.prog tabG plans X1 100000 k60_2707 = true)
/-- ratchet/state.Of -/
noncomputable def k60_3799 : Key := ⟨60, [.sl 3798 0 208 0 false], [(3798, .buf (z8 208) 1)], 3799, .tup [.ptr 3802 0, .num .i64 0], [(3798, .buf (z8 208) 1), (3802, .cells [.ptr 3845 0, .ptr 3843 0, .num .u64 0]), (3843, dB0), (3844, .map [] 0), (3845, .cells [.mp 3844])], 4359⟩
theorem k60_3799_ok : KeyOK Tryz.prog tabG k60_3799 := KeyOK.of x1_ok hpl mix 100000 (by kernel_rfl) (by kernel_rfl : knownB Tryz.prog tabG plans X1 100000 k60_3799 = true)
/-- ratchet/message.sign -/
noncomputable def k58_4397 : Key := ⟨58, [.agg [.num .i64 1, .num .u64 1, .num .u8 2, .flat (.string ⟨#[97]⟩), .flat (.string ⟨#[48]⟩), .flat (.string ⟨#[]⟩), .flat (.string ⟨#[]⟩), .num .u64 0, .num .u8 128, .num .u8 199, .num .u8 122, .num .u8 201, .num .u8 144, .num .u8 63, .num .u8 138, .num .u8 192, .num .u8 58, .num .u8 195, .num .u8 187, .num .u8 152, .num .u8 60, .num .u8 192, .num .u8 240, .num .u8 64, .num .u8 210, .num .u8 141, .num .u8 246, .num .u8 60, .num .u8 43, .num .u8 148, .num .u8 165, .num .u8 157, .num .u8 31, .num .u8 81, .num .u8 6, .num .u8 55, .num .u8 173, .num .u8 80, .num .u8 206, .num .u8 26]], [], 4397, .agg (b8 [128, 199, 122, 201, 144, 63, 138, 192, 58, 195, 187, 152, 60, 192, 240, 64, 210, 141, 246, 60, 43, 148, 165, 157, 31, 81, 6, 55, 173, 80, 206, 26]), [], 4653⟩
theorem k58_4397_ok : KeyOK Tryz.prog tabG k58_4397 := KeyOK.of x1_ok hpl mix 100000 (by kernel_rfl) (by kernel_rfl : knownB Tryz.prog tabG plans X1 100000 k58_4397 = true)
/-- ratchet/state.Of -/
noncomputable def k60_5187 : Key := ⟨60, [.sl 5186 0 208 0 false], [(5186, .buf (z8 208) 1)], 5187, .tup [.ptr 5190 0, .num .i64 0], [(5186, .buf (z8 208) 1), (5190, .cells [.ptr 5233 0, .ptr 5231 0, .num .u64 0]), (5231, dB0), (5232, .map [] 0), (5233, .cells [.mp 5232])], 5747⟩
theorem k60_5187_ok : KeyOK Tryz.prog tabG k60_5187 := KeyOK.of x1_ok hpl mix 100000 (by kernel_rfl) (by kernel_rfl : knownB Tryz.prog tabG plans X1 100000 k60_5187 = true)
/-- ratchet/ratchetref02.Block -/
noncomputable def k171_6204 : Key := ⟨171, [.agg [.num .u32 1779033703, .num .u32 3144134277, .num .u32 1013904242, .num .u32 2773480762, .num .u32 1359893119, .num .u32 2600822924, .num .u32 528734635, .num .u32 1541459225], .agg (ap (b8 [114, 97, 116, 99, 104, 101, 116, 32, 114, 101, 112, 108, 105, 99, 97, 0, 0, 0, 0, 0, 0, 0, 1, 128]) (ap (z8 39) [.num .u8 184]))], [], 6204, .agg [.num .u32 2379578029, .num .u32 240531846, .num .u32 1991791493, .num .u32 3492588041, .num .u32 3796345849, .num .u32 447285144, .num .u32 3489656928, .num .u32 3370700188], [], 6211⟩
theorem k171_6204_ok : KeyOK Tryz.prog tabG k171_6204 := KeyOK.of x1_ok hpl mix 100000 (by kernel_rfl) (by kernel_rfl : knownB Tryz.prog tabG plans X1 100000 k171_6204 = true)
/-- ratchet/ratchetref02.Block -/
noncomputable def k171_6359 : Key := ⟨171, [.agg [.num .u32 1779033703, .num .u32 3144134277, .num .u32 1013904242, .num .u32 2773480762, .num .u32 1359893119, .num .u32 2600822924, .num .u32 528734635, .num .u32 1541459225], .agg (ap (b8 [187, 227, 76, 155, 56, 96, 15, 176, 64, 142, 101, 179, 230, 26, 156, 63, 212, 113, 149, 207, 44, 159, 49, 174, 249, 201, 198, 86, 254, 222, 251, 170]) (rp 32 (.num .u8 54)))], [], 6359, .agg [.num .u32 843027209, .num .u32 523299964, .num .u32 3914465907, .num .u32 3953653675, .num .u32 526692111, .num .u32 1225392310, .num .u32 3430092, .num .u32 1814491114], [], 6366⟩
theorem k171_6359_ok : KeyOK Tryz.prog tabG k171_6359 := KeyOK.of x1_ok hpl mix 100000 (by kernel_rfl) (by kernel_rfl : knownB Tryz.prog tabG plans X1 100000 k171_6359 = true)
/-- ratchet/ratchetref02.Block -/
noncomputable def k171_6367 : Key := ⟨171, [.agg [.num .u32 843027209, .num .u32 523299964, .num .u32 3914465907, .num .u32 3953653675, .num .u32 526692111, .num .u32 1225392310, .num .u32 3430092, .num .u32 1814491114], .agg (ap (b8 [0, 0, 0, 0, 0, 0, 0, 1, 1]) (z8 55))], [], 6367, .agg [.num .u32 4089824876, .num .u32 3267773438, .num .u32 918044150, .num .u32 1868261824, .num .u32 1419131882, .num .u32 2011485745, .num .u32 1682601465, .num .u32 2026468095], [], 6374⟩
theorem k171_6367_ok : KeyOK Tryz.prog tabG k171_6367 := KeyOK.of x1_ok hpl mix 100000 (by kernel_rfl) (by kernel_rfl : knownB Tryz.prog tabG plans X1 100000 k171_6367 = true)
end Go.Proofs.YtapmfbjlhjekiaaGreatDoor
