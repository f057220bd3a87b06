/-
  Some calls of the anchor, reckoned by themselves. Conditions: none beside what ratchet/sha.table holds.
-/
import Derived.Test.YtapmfbjlhjekiaaGreatDoorRpX
namespace Go.Proofs.YtapmfbjlhjekiaaGreatDoor
open Go.RowKit Go.Sx Go.Ev
set_option linter.unusedVariables false
set_option linter.unusedSimpArgs false
set_option linter.unnecessarySimpa false
set_option maxRecDepth 100000
/-- ratchet/ratchetref02.Block -/
noncomputable def k171_6375 : Key := ⟨171, [.agg [.num .u32 4089824876, .num .u32 3267773438, .num .u32 918044150, .num .u32 1868261824, .num .u32 1419131882, .num .u32 2011485745, .num .u32 1682601465, .num .u32 2026468095], .agg (ap (z8 33) (ap [.num .u8 1] (ap (z8 8) (ap (b8 [1, 2, 0, 0, 0, 0, 0, 0, 0, 1]) (ap (z8 9) [.num .u8 1, .num .u8 97, .num .u8 0])))))], [], 6375, .agg [.num .u32 3308541320, .num .u32 1796500555, .num .u32 2893569225, .num .u32 3900937685, .num .u32 378543333, .num .u32 2007831709, .num .u32 2589974407, .num .u32 419883367], [], 6382⟩
theorem k171_6375_ok : KeyOK Tryz.prog tabG k171_6375 := KeyOK.of x1_ok hpl mix 100000 (by kernel_rfl) (by kernel_rfl : knownB Tryz.prog tabG plans X1 100000 k171_6375 = true)
/-- ratchet/ratchetref02.Block -/
noncomputable def k171_6383 : Key := ⟨171, [.agg [.num .u32 3308541320, .num .u32 1796500555, .num .u32 2893569225, .num .u32 3900937685, .num .u32 378543333, .num .u32 2007831709, .num .u32 2589974407, .num .u32 419883367], .agg (ap (b8 [1, 48, 0, 0, 0, 0, 128, 199, 122, 201, 144, 63, 138, 192, 58, 195, 187, 152, 60, 192, 240, 64, 210, 141, 246, 60, 43, 148, 165, 157, 31, 81, 6, 55, 173, 80, 206, 26, 128]) (ap (z8 23) [.num .u8 7, .num .u8 48]))], [], 6383, .agg [.num .u32 3469760742, .num .u32 1627454746, .num .u32 37932331, .num .u32 2444051459, .num .u32 2133892639, .num .u32 1210559925, .num .u32 269830901, .num .u32 3582000987], [], 6390⟩
theorem k171_6383_ok : KeyOK Tryz.prog tabG k171_6383 := KeyOK.of x1_ok hpl mix 100000 (by kernel_rfl) (by kernel_rfl : knownB Tryz.prog tabG plans X1 100000 k171_6383 = true)
/-- ratchet/ratchetref02.Block -/
noncomputable def k171_6529 : Key := ⟨171, [.agg [.num .u32 1779033703, .num .u32 3144134277, .num .u32 1013904242, .num .u32 2773480762, .num .u32 1359893119, .num .u32 2600822924, .num .u32 528734635, .num .u32 1541459225], .agg (ap (b8 [209, 137, 38, 241, 82, 10, 101, 218, 42, 228, 15, 217, 140, 112, 246, 85, 190, 27, 255, 165, 70, 245, 91, 196, 147, 163, 172, 60, 148, 180, 145, 192]) (rp 32 (.num .u8 92)))], [], 6529, .agg [.num .u32 3027000786, .num .u32 3961005765, .num .u32 997304843, .num .u32 1197006476, .num .u32 708625524, .num .u32 828833778, .num .u32 3282937705, .num .u32 2952323835], [], 6536⟩
theorem k171_6529_ok : KeyOK Tryz.prog tabG k171_6529 := KeyOK.of x1_ok hpl mix 100000 (by kernel_rfl) (by kernel_rfl : knownB Tryz.prog tabG plans X1 100000 k171_6529 = true)
/-- ratchet/ratchetref02.Block -/
noncomputable def k171_6537 : Key := ⟨171, [.agg [.num .u32 3027000786, .num .u32 3961005765, .num .u32 997304843, .num .u32 1197006476, .num .u32 708625524, .num .u32 828833778, .num .u32 3282937705, .num .u32 2952323835], .agg (ap (b8 [206, 208, 88, 230, 97, 0, 253, 26, 2, 66, 205, 43, 145, 173, 68, 3, 127, 48, 158, 31, 72, 39, 173, 181, 16, 21, 74, 245, 213, 128, 255, 91, 128]) (ap (z8 29) [.num .u8 3, .num .u8 0]))], [], 6537, .agg [.num .u32 3828764182, .num .u32 2823243531, .num .u32 3834923516, .num .u32 1766913194, .num .u32 3974297425, .num .u32 2796806513, .num .u32 1910520398, .num .u32 3967980691], [], 6544⟩
theorem k171_6537_ok : KeyOK Tryz.prog tabG k171_6537 := KeyOK.of x1_ok hpl mix 100000 (by kernel_rfl) (by kernel_rfl : knownB Tryz.prog tabG plans X1 100000 k171_6537 = true)
/-- ratchet/tag.Numbered -/
noncomputable def k219_7162 : Key := ⟨219, [.num .i64 1, .num .u64 1, .sl 7083 0 158 0 false], [(7083, dB3)], 7162, .agg (b8 [228, 54, 78, 22, 168, 71, 71, 11, 228, 148, 73, 252, 105, 80, 244, 170, 236, 226, 247, 81, 166, 179, 225, 113, 113, 224, 58, 78, 236, 130, 148, 147]), [(7083, dB3)], 7353⟩
theorem k219_7162_ok : KeyOK Tryz.prog tabG k219_7162 := KeyOK.of x1_ok hpl mix 100000 (by kernel_rfl) (by kernel_rfl : knownB Tryz.prog tabG plans X1 100000 k219_7162 = true)
/-- ratchet/message.sign -/
noncomputable def k58_7481 : Key := ⟨58, [.agg [.num .i64 1, .num .u64 1, .num .u8 2, .flat (.string ⟨#[97]⟩), .flat (.string ⟨#[48]⟩), .flat (.string ⟨#[]⟩), .flat (.string ⟨#[]⟩), .num .u64 0, .num .u8 128, .num .u8 199, .num .u8 122, .num .u8 201, .num .u8 144, .num .u8 63, .num .u8 138, .num .u8 192, .num .u8 58, .num .u8 195, .num .u8 187, .num .u8 152, .num .u8 60, .num .u8 192, .num .u8 240, .num .u8 64, .num .u8 210, .num .u8 141, .num .u8 246, .num .u8 60, .num .u8 43, .num .u8 148, .num .u8 165, .num .u8 157, .num .u8 31, .num .u8 81, .num .u8 6, .num .u8 55, .num .u8 173, .num .u8 80, .num .u8 206, .num .u8 26]], [], 7481, .agg (b8 [128, 199, 122, 201, 144, 63, 138, 192, 58, 195, 187, 152, 60, 192, 240, 64, 210, 141, 246, 60, 43, 148, 165, 157, 31, 81, 6, 55, 173, 80, 206, 26]), [], 7737⟩
theorem k58_7481_ok : KeyOK Tryz.prog tabG k58_7481 := KeyOK.of x1_ok hpl mix 100000 (by kernel_rfl) (by kernel_rfl : knownB Tryz.prog tabG plans X1 100000 k58_7481 = true)
/-- ratchet/tag.Numbered -/
noncomputable def k219_8493 : Key := ⟨219, [.num .i64 1, .num .u64 1, .sl 8414 0 158 0 false], [(8414, dB3)], 8493, .agg (b8 [228, 54, 78, 22, 168, 71, 71, 11, 228, 148, 73, 252, 105, 80, 244, 170, 236, 226, 247, 81, 166, 179, 225, 113, 113, 224, 58, 78, 236, 130, 148, 147]), [(8414, dB3)], 8684⟩
theorem k219_8493_ok : KeyOK Tryz.prog tabG k219_8493 := KeyOK.of x1_ok hpl mix 100000 (by kernel_rfl) (by kernel_rfl : knownB Tryz.prog tabG plans X1 100000 k219_8493 = true)
/-- ratchet/tag.Numbered -/
noncomputable def k219_9315 : Key := ⟨219, [.num .i64 1, .num .u64 1, .sl 9236 0 158 0 false], [(9236, dB3)], 9315, .agg (b8 [228, 54, 78, 22, 168, 71, 71, 11, 228, 148, 73, 252, 105, 80, 244, 170, 236, 226, 247, 81, 166, 179, 225, 113, 113, 224, 58, 78, 236, 130, 148, 147]), [(9236, dB3)], 9506⟩
theorem k219_9315_ok : KeyOK Tryz.prog tabG k219_9315 := KeyOK.of x1_ok hpl mix 100000 (by kernel_rfl) (by kernel_rfl : knownB Tryz.prog tabG plans X1 100000 k219_9315 = true)
end Go.Proofs.YtapmfbjlhjekiaaGreatDoor
