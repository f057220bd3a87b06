/-
  Some calls of the anchor, reckoned by themselves. Conditions: none beside what ratchet/sha.table holds.
-/
import Derived.Test.YtahmejhidelkbaaGreatDoorDrX
namespace Go.Proofs.YtahmejhidelkbaaGreatDoor
open Go.RowKit Go.Sx Go.Ev
set_option linter.unusedVariables false
set_option linter.unusedSimpArgs false
set_option linter.unnecessarySimpa false
set_option maxRecDepth 100000
/-- ratchet/tag.Numbered -/
noncomputable def k201_28251 : Key := ⟨201, [ni 2, nu 1, .sl 28172 0 98 0 false], [(28172, dB81)], 28251, .agg (b8 [4, 217, 104, 197, 64, 185, 57, 1, 236, 120, 187, 97, 175, 222, 153, 236, 154, 247, 198, 240, 83, 174, 77, 137, 67, 101, 117, 33, 73, 151, 169, 84]), [(28172, dB81)], 28438⟩
theorem k201_28251_ok : KeyOK Tryz.prog tabG k201_28251 := KeyOK.of xw0_ok hpl mix 100000 (by kernel_rfl) (by kernel_rfl : knownB Tryz.prog tabG plans XW0 100000 k201_28251 = true)
/-- ratchet/state.Of -/
noncomputable def k348_29087 : Key := ⟨348, [.sl 29086 0 208 0 false], c16, 29087, .tup [.ptr 29090 0, ni 0], (aj c16 [(29090, .cells [.ptr 29133 0, .ptr 29131 0, nu 0]), (29131, dB21), (29132, .map [] 0), (29133, .cells [.mp 29132])]), 29647⟩
theorem k348_29087_ok : KeyOK Tryz.prog tabG k348_29087 := KeyOK.of xw0_ok hpl mix 100000 (by kernel_rfl) (by kernel_rfl : knownB Tryz.prog tabG plans XW0 100000 k348_29087 = true)
/-- ratchet/tag.Numbered -/
noncomputable def k201_30311 : Key := ⟨201, [ni 2, nu 1, .sl 30232 0 98 0 false], [(30232, dB81)], 30311, .agg (b8 [4, 217, 104, 197, 64, 185, 57, 1, 236, 120, 187, 97, 175, 222, 153, 236, 154, 247, 198, 240, 83, 174, 77, 137, 67, 101, 117, 33, 73, 151, 169, 84]), [(30232, dB81)], 30498⟩
theorem k201_30311_ok : KeyOK Tryz.prog tabG k201_30311 := KeyOK.of xw0_ok hpl mix 100000 (by kernel_rfl) (by kernel_rfl : knownB Tryz.prog tabG plans XW0 100000 k201_30311 = true)
/-- ratchet/tag.Numbered -/
noncomputable def k201_30894 : Key := ⟨201, [ni 2, nu 1, .sl 30815 0 98 0 false], [(30815, dB81)], 30894, .agg (b8 [4, 217, 104, 197, 64, 185, 57, 1, 236, 120, 187, 97, 175, 222, 153, 236, 154, 247, 198, 240, 83, 174, 77, 137, 67, 101, 117, 33, 73, 151, 169, 84]), [(30815, dB81)], 31081⟩
theorem k201_30894_ok : KeyOK Tryz.prog tabG k201_30894 := KeyOK.of xw0_ok hpl mix 100000 (by kernel_rfl) (by kernel_rfl : knownB Tryz.prog tabG plans XW0 100000 k201_30894 = true)
/-- ratchet/tag.Numbered -/
noncomputable def k201_31473 : Key := ⟨201, [ni 2, nu 1, .sl 31394 0 98 0 false], [(31394, dB81)], 31473, .agg (b8 [4, 217, 104, 197, 64, 185, 57, 1, 236, 120, 187, 97, 175, 222, 153, 236, 154, 247, 198, 240, 83, 174, 77, 137, 67, 101, 117, 33, 73, 151, 169, 84]), [(31394, dB81)], 31660⟩
theorem k201_31473_ok : KeyOK Tryz.prog tabG k201_31473 := KeyOK.of xw0_ok hpl mix 100000 (by kernel_rfl) (by kernel_rfl : knownB Tryz.prog tabG plans XW0 100000 k201_31473 = true)
/-- ratchet/message.sign -/
noncomputable def k292_32239 : Key := ⟨292, [.agg q109], [], 32239, .agg (b8 [18, 71, 57, 66, 140, 84, 199, 250, 179, 72, 66, 17, 252, 175, 62, 1, 134, 61, 32, 207, 144, 148, 3, 95, 153, 188, 73, 203, 49, 103, 152, 126]), [], 32495⟩
theorem k292_32239_ok : KeyOK Tryz.prog tabG k292_32239 := KeyOK.of xw0_ok hpl mix 100000 (by kernel_rfl) (by kernel_rfl : knownB Tryz.prog tabG plans XW0 100000 k292_32239 = true)
/-- ratchet/state.Of -/
noncomputable def k348_33010 : Key := ⟨348, [.sl 33009 0 208 0 false], [(33009, .buf (z8 208) 1)], 33010, .tup [.ptr 33013 0, ni 0], [(33009, .buf (z8 208) 1), (33013, .cells [.ptr 33056 0, .ptr 33054 0, nu 0]), (33054, dB21), (33055, .map [] 0), (33056, .cells [.mp 33055])], 33570⟩
theorem k348_33010_ok : KeyOK Tryz.prog tabG k348_33010 := KeyOK.of xw0_ok hpl mix 100000 (by kernel_rfl) (by kernel_rfl : knownB Tryz.prog tabG plans XW0 100000 k348_33010 = true)
/-- ratchet/state.Of -/
noncomputable def k348_34145 : Key := ⟨348, [.sl 34144 0 208 0 false], c17, 34145, .tup [.ptr 34148 0, ni 0], (aj c17 [(34148, .cells [.ptr 34191 0, .ptr 34189 0, nu 0]), (34189, dB21), (34190, .map [] 0), (34191, .cells [.mp 34190])]), 34705⟩
theorem k348_34145_ok : KeyOK Tryz.prog tabG k348_34145 := KeyOK.of xw0_ok hpl mix 100000 (by kernel_rfl) (by kernel_rfl : knownB Tryz.prog tabG plans XW0 100000 k348_34145 = true)
/-- ratchet/tag.Numbered -/
noncomputable def k201_35405 : Key := ⟨201, [ni 3, nu 1, .sl 34998 0 98 0 false], [(34998, dB100)], 35405, .agg (b8 [182, 208, 26, 236, 243, 29, 2, 189, 10, 102, 224, 147, 89, 35, 254, 246, 13, 168, 164, 140, 170, 80, 255, 198, 79, 146, 219, 151, 155, 119, 93, 242]), [(34998, dB100)], 35592⟩
theorem k201_35405_ok : KeyOK Tryz.prog tabG k201_35405 := KeyOK.of xw0_ok hpl mix 100000 (by kernel_rfl) (by kernel_rfl : knownB Tryz.prog tabG plans XW0 100000 k201_35405 = true)
/-- ratchet/tag.Numbered -/
noncomputable def k201_36389 : Key := ⟨201, [ni 3, nu 1, .sl 36310 0 98 0 false], [(36310, dB100)], 36389, .agg (b8 [182, 208, 26, 236, 243, 29, 2, 189, 10, 102, 224, 147, 89, 35, 254, 246, 13, 168, 164, 140, 170, 80, 255, 198, 79, 146, 219, 151, 155, 119, 93, 242]), [(36310, dB100)], 36576⟩
theorem k201_36389_ok : KeyOK Tryz.prog tabG k201_36389 := KeyOK.of xw0_ok hpl mix 100000 (by kernel_rfl) (by kernel_rfl : knownB Tryz.prog tabG plans XW0 100000 k201_36389 = true)
/-- ratchet/state.Of -/
noncomputable def k348_37225 : Key := ⟨348, [.sl 37224 0 208 0 false], [(37224, .buf (z8 208) 1)], 37225, .tup [.ptr 37228 0, ni 0], [(37224, .buf (z8 208) 1), (37228, .cells [.ptr 37271 0, .ptr 37269 0, nu 0]), (37269, dB21), (37270, .map [] 0), (37271, .cells [.mp 37270])], 37785⟩
theorem k348_37225_ok : KeyOK Tryz.prog tabG k348_37225 := KeyOK.of xw0_ok hpl mix 100000 (by kernel_rfl) (by kernel_rfl : knownB Tryz.prog tabG plans XW0 100000 k348_37225 = true)
end Go.Proofs.YtahmejhidelkbaaGreatDoor
