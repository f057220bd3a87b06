/-
  Some calls of the anchor, reckoned by themselves. Conditions: none beside what ratchet/sha.table holds.
-/
import Derived.Test.YtahmejhidelkbaaGreatDoorDrX
namespace Go.Proofs.YtahmejhidelkbaaGreatDoor
open Go.RowKit Go.Sx Go.Ev
set_option linter.unusedVariables false
set_option linter.unusedSimpArgs false
set_option linter.unnecessarySimpa false
set_option maxRecDepth 100000
/-- ratchet/tag.Numbered -/
noncomputable def k201_56782 : Key := ⟨201, [ni 2, nu 3, .sl 56703 0 158 0 false], [(56703, dB141)], 56782, .agg (b8 [65, 77, 127, 71, 178, 184, 129, 155, 127, 177, 69, 246, 98, 255, 173, 167, 20, 34, 101, 50, 213, 226, 225, 7, 46, 244, 46, 65, 168, 205, 98, 56]), [(56703, dB141)], 56973⟩
theorem k201_56782_ok : KeyOK Tryz.prog tabG k201_56782 := KeyOK.of xw0_ok hpl mix 100000 (by kernel_rfl) (by kernel_rfl : knownB Tryz.prog tabG plans XW0 100000 k201_56782 = true)
/-- ratchet/tag.Numbered -/
noncomputable def k201_57601 : Key := ⟨201, [ni 2, nu 3, .sl 57522 0 158 0 false], [(57522, dB141)], 57601, .agg (b8 [65, 77, 127, 71, 178, 184, 129, 155, 127, 177, 69, 246, 98, 255, 173, 167, 20, 34, 101, 50, 213, 226, 225, 7, 46, 244, 46, 65, 168, 205, 98, 56]), [(57522, dB141)], 57792⟩
theorem k201_57601_ok : KeyOK Tryz.prog tabG k201_57601 := KeyOK.of xw0_ok hpl mix 100000 (by kernel_rfl) (by kernel_rfl : knownB Tryz.prog tabG plans XW0 100000 k201_57601 = true)
/-- ratchet/message.sign -/
noncomputable def k292_57922 : Key := ⟨292, [.agg q109], [], 57922, .agg (b8 [18, 71, 57, 66, 140, 84, 199, 250, 179, 72, 66, 17, 252, 175, 62, 1, 134, 61, 32, 207, 144, 148, 3, 95, 153, 188, 73, 203, 49, 103, 152, 126]), [], 58178⟩
theorem k292_57922_ok : KeyOK Tryz.prog tabG k292_57922 := KeyOK.of xw0_ok hpl mix 100000 (by kernel_rfl) (by kernel_rfl : knownB Tryz.prog tabG plans XW0 100000 k292_57922 = true)
/-- (*ratchet/durable.Durable).keep -/
noncomputable def k232_58304 : Key := ⟨232, [.ptr 5038 0, .sl 58298 0 2 0 false], (aj c34 (aj c35 (aj c26 (aj [(5052, dB114), (5053, dB78), (5057, dB159), (5058, dB156), (5059, .map [] 0), (5060, dB55), (5061, dB102), (5062, dB160), (5063, .cells [nu 0]), (5064, dB31), (5065, dB57), (5069, dB144), (5070, dB157), (5073, .cells [nu 0]), (5074, dB31), (5075, dB104), (5077, dB60), (5078, .map [] 0), (5079, .cells [ni 3, .mp 5078]), (5081, dB158), (5159, dB110), (5407, dB111), (6060, dB112), (17053, dB76), (31706, .buf [nu 1, nu 1] 2)] (aj c36 c37))))), 58304, ni 0, (aj c38 (aj c35 (aj c26 (aj c39 (aj c36 c37))))), 59383⟩
theorem k232_58304_ok : KeyOK Tryz.prog tabG k232_58304 := KeyOK.of xw0_ok hpl mix 100000 (by kernel_rfl) (by kernel_rfl : knownB Tryz.prog tabG plans XW0 100000 k232_58304 = true)
/-- ratchet/message.sign -/
noncomputable def k292_59483 : Key := ⟨292, [.agg q109], [], 59483, .agg (b8 [18, 71, 57, 66, 140, 84, 199, 250, 179, 72, 66, 17, 252, 175, 62, 1, 134, 61, 32, 207, 144, 148, 3, 95, 153, 188, 73, 203, 49, 103, 152, 126]), [], 59739⟩
theorem k292_59483_ok : KeyOK Tryz.prog tabG k292_59483 := KeyOK.of xw0_ok hpl mix 100000 (by kernel_rfl) (by kernel_rfl : knownB Tryz.prog tabG plans XW0 100000 k292_59483 = true)
/-- ratchet/state.Of -/
noncomputable def k348_60254 : Key := ⟨348, [.sl 60253 0 208 0 false], [(60253, .buf (z8 208) 1)], 60254, .tup [.ptr 60257 0, ni 0], [(60253, .buf (z8 208) 1), (60257, .cells [.ptr 60300 0, .ptr 60298 0, nu 0]), (60298, dB21), (60299, .map [] 0), (60300, .cells [.mp 60299])], 60814⟩
theorem k348_60254_ok : KeyOK Tryz.prog tabG k348_60254 := KeyOK.of xw0_ok hpl mix 100000 (by kernel_rfl) (by kernel_rfl : knownB Tryz.prog tabG plans XW0 100000 k348_60254 = true)
/-- ratchet/state.Of -/
noncomputable def k348_61419 : Key := ⟨348, [.sl 61418 0 208 0 false], [(61418, .buf (z8 208) 1)], 61419, .tup [.ptr 61422 0, ni 0], [(61418, .buf (z8 208) 1), (61422, .cells [.ptr 61465 0, .ptr 61463 0, nu 0]), (61463, dB21), (61464, .map [] 0), (61465, .cells [.mp 61464])], 61979⟩
theorem k348_61419_ok : KeyOK Tryz.prog tabG k348_61419 := KeyOK.of xw0_ok hpl mix 100000 (by kernel_rfl) (by kernel_rfl : knownB Tryz.prog tabG plans XW0 100000 k348_61419 = true)
/-- ratchet/tag.Numbered -/
noncomputable def k201_62701 : Key := ⟨201, [ni 3, nu 2, .sl 62294 0 98 0 false], [(62294, dB166)], 62701, .agg (b8 [49, 241, 222, 148, 67, 217, 239, 174, 30, 178, 237, 250, 218, 217, 156, 183, 201, 138, 54, 132, 0, 181, 3, 27, 123, 253, 214, 245, 47, 109, 167, 227]), [(62294, dB166)], 62888⟩
theorem k201_62701_ok : KeyOK Tryz.prog tabG k201_62701 := KeyOK.of xw0_ok hpl mix 100000 (by kernel_rfl) (by kernel_rfl : knownB Tryz.prog tabG plans XW0 100000 k201_62701 = true)
/-- ratchet/tag.Numbered -/
noncomputable def k201_63685 : Key := ⟨201, [ni 3, nu 2, .sl 63606 0 98 0 false], [(63606, dB166)], 63685, .agg (b8 [49, 241, 222, 148, 67, 217, 239, 174, 30, 178, 237, 250, 218, 217, 156, 183, 201, 138, 54, 132, 0, 181, 3, 27, 123, 253, 214, 245, 47, 109, 167, 227]), [(63606, dB166)], 63872⟩
theorem k201_63685_ok : KeyOK Tryz.prog tabG k201_63685 := KeyOK.of xw0_ok hpl mix 100000 (by kernel_rfl) (by kernel_rfl : knownB Tryz.prog tabG plans XW0 100000 k201_63685 = true)
/-- ratchet/state.Of -/
noncomputable def k348_64553 : Key := ⟨348, [.sl 64552 0 208 0 false], c40, 64553, .tup [.ptr 64556 0, ni 0], (aj c40 [(64556, .cells [.ptr 64599 0, .ptr 64597 0, nu 0]), (64597, dB21), (64598, .map [] 0), (64599, .cells [.mp 64598])]), 65113⟩
theorem k348_64553_ok : KeyOK Tryz.prog tabG k348_64553 := KeyOK.of xw0_ok hpl mix 100000 (by kernel_rfl) (by kernel_rfl : knownB Tryz.prog tabG plans XW0 100000 k348_64553 = true)
end Go.Proofs.YtahmejhidelkbaaGreatDoor
