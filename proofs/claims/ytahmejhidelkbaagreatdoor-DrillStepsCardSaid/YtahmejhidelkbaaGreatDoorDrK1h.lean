/-
  Some calls of the anchor, reckoned by themselves. Conditions: none beside what ratchet/sha.table holds.
-/
import Derived.Test.YtahmejhidelkbaaGreatDoorDrX
namespace Go.Proofs.YtahmejhidelkbaaGreatDoor
open Go.RowKit Go.Sx Go.Ev
set_option linter.unusedVariables false
set_option linter.unusedSimpArgs false
set_option linter.unnecessarySimpa false
set_option maxRecDepth 100000
/-- ratchet/tag.Numbered -/
noncomputable def k201_49142 : Key := ⟨201, [ni 2, nu 3, .sl 49063 0 158 0 false], [(49063, dB141)], 49142, .agg (b8 [65, 77, 127, 71, 178, 184, 129, 155, 127, 177, 69, 246, 98, 255, 173, 167, 20, 34, 101, 50, 213, 226, 225, 7, 46, 244, 46, 65, 168, 205, 98, 56]), [(49063, dB141)], 49333⟩
theorem k201_49142_ok : KeyOK Tryz.prog tabG k201_49142 := KeyOK.of xw0_ok hpl mix 100000 (by kernel_rfl) (by kernel_rfl : knownB Tryz.prog tabG plans XW0 100000 k201_49142 = true)
/-- ratchet/message.sign -/
noncomputable def k292_49463 : Key := ⟨292, [.agg q109], [], 49463, .agg (b8 [18, 71, 57, 66, 140, 84, 199, 250, 179, 72, 66, 17, 252, 175, 62, 1, 134, 61, 32, 207, 144, 148, 3, 95, 153, 188, 73, 203, 49, 103, 152, 126]), [], 49719⟩
theorem k292_49463_ok : KeyOK Tryz.prog tabG k292_49463 := KeyOK.of xw0_ok hpl mix 100000 (by kernel_rfl) (by kernel_rfl : knownB Tryz.prog tabG plans XW0 100000 k292_49463 = true)
/-- ratchet/state.Of -/
noncomputable def k348_50428 : Key := ⟨348, [.sl 50427 0 208 0 false], [(50427, .buf (z8 208) 1)], 50428, .tup [.ptr 50431 0, ni 0], [(50427, .buf (z8 208) 1), (50431, .cells [.ptr 50474 0, .ptr 50472 0, nu 0]), (50472, dB21), (50473, .map [] 0), (50474, .cells [.mp 50473])], 50988⟩
theorem k348_50428_ok : KeyOK Tryz.prog tabG k348_50428 := KeyOK.of xw0_ok hpl mix 100000 (by kernel_rfl) (by kernel_rfl : knownB Tryz.prog tabG plans XW0 100000 k348_50428 = true)
/-- ratchet/message.sign -/
noncomputable def k292_51034 : Key := ⟨292, [.agg q109], [], 51034, .agg (b8 [18, 71, 57, 66, 140, 84, 199, 250, 179, 72, 66, 17, 252, 175, 62, 1, 134, 61, 32, 207, 144, 148, 3, 95, 153, 188, 73, 203, 49, 103, 152, 126]), [], 51290⟩
theorem k292_51034_ok : KeyOK Tryz.prog tabG k292_51034 := KeyOK.of xw0_ok hpl mix 100000 (by kernel_rfl) (by kernel_rfl : knownB Tryz.prog tabG plans XW0 100000 k292_51034 = true)
/-- (*ratchet/cluster.Cluster).tell -/
noncomputable def k97_51349 : Key := ⟨97, [.ptr 1 0, .agg q111, .ptr 3015 0, .ptr 51342 0], (aj c19 (aj c20 (aj c21 (aj c22 (aj c23 (aj c24 (aj c25 (aj c26 (aj c27 (aj c28 (aj c29 (aj [(39850, dB106)] (aj c30 [(49341, dB147), (49345, dB148), (49723, dB76), (49725, .buf [nu 3] 1), (51342, dB154)]))))))))))))), 51349, .tup [], (aj [(0, .cells (ap [.sl 51881 0 2 0 false] (rp 144 (.bool false)))), (1, dB140), (2, dB64), (3, dB13), (4, dB14), (5, dB15), (6, dB16), (7, dB17), (8, dB18), (9, dB19), (10, dB3), (11, dB3), (12, dB72), (2030, dB73), (2033, dB149), (2034, dB149), (2035, dB5), (3015, dB38), (3021, .map [] 1), (3022, .cells [.mp 3021]), (3023, .map [] 0), (3024, .cells [.mp 3023])] (aj c20 (aj c21 (aj c22 (aj c23 (aj c24 (aj c25 (aj c26 (aj c27 (aj c28 (aj c29 (aj [(39850, dB106)] (aj c30 [(49341, dB147), (49345, dB148), (49723, dB76), (49725, .buf [nu 3] 1), (51342, dB154), (51663, .buf (ap [ni 2, nu 1] (ap (rp 11 (nu 0)) (ap [nb 3, nu 1, nu 0, ni 0, nu 0, nb 0, fs, fs, fs, fs, nu 0] (ap (z8 32) (ap [fl] (ap (z8 32) (ap q144 (ap (rp 9 (nu 0)) (ap [nb 3, nu 1, nu 0, ni 0, nu 0, nb 0, fs, fs, fs, fs, nu 0] (ap (z8 32) (ap [fl] (ap (z8 32) (ap q133 (ap (rp 8 (nu 0)) (ap [nb 4, nu 1, nu 0, ni 0, nu 0, nb 0, fs, fs, fs, fs, nu 0] (ap (z8 32) (ap [.sl 51668 0 2 0 false] q57))))))))))))))))) 121), (51668, dB128), (51875, dB155), (51878, dB128), (51881, .buf (ap [ni 2, ni 1, nu 0, nu 3, nu 1] (ap (rp 8 (nu 0)) (ap [.sl 51663 0 4 0 false, ni 2, ni 3, nu 0, nu 3, nu 1] q260))) 14)]))))))))))))), 51884⟩
theorem k97_51349_ok : KeyOK Tryz.prog tabG k97_51349 := KeyOK.of xw0_ok hpl mix 100000 (by kernel_rfl) (by kernel_rfl : knownB Tryz.prog tabG plans XW0 100000 k97_51349 = true)
/-- ratchet/tag.Of -/
noncomputable def k269_52627 : Key := ⟨269, [.sl 52605 0 32 0 false, .sl 52626 0 125 0 false], c31, 52627, .agg (b8 [144, 253, 54, 101, 121, 31, 209, 6, 97, 212, 89, 164, 66, 241, 143, 3, 29, 234, 37, 6, 197, 239, 99, 29, 56, 51, 172, 39, 71, 130, 163, 46]), c31, 52760⟩
theorem k269_52627_ok : KeyOK Tryz.prog tabG k269_52627 := KeyOK.of xw0_ok hpl mix 100000 (by kernel_rfl) (by kernel_rfl : knownB Tryz.prog tabG plans XW0 100000 k269_52627 = true)
/-- ratchet/tag.Numbered -/
noncomputable def k201_53391 : Key := ⟨201, [ni 2, nu 3, .sl 53312 0 158 0 false], [(53312, dB141)], 53391, .agg (b8 [65, 77, 127, 71, 178, 184, 129, 155, 127, 177, 69, 246, 98, 255, 173, 167, 20, 34, 101, 50, 213, 226, 225, 7, 46, 244, 46, 65, 168, 205, 98, 56]), [(53312, dB141)], 53582⟩
theorem k201_53391_ok : KeyOK Tryz.prog tabG k201_53391 := KeyOK.of xw0_ok hpl mix 100000 (by kernel_rfl) (by kernel_rfl : knownB Tryz.prog tabG plans XW0 100000 k201_53391 = true)
/-- ratchet/tag.Of -/
noncomputable def k269_54227 : Key := ⟨269, [.sl 54205 0 32 0 false, .sl 54226 0 125 0 false], c32, 54227, .agg (b8 [144, 253, 54, 101, 121, 31, 209, 6, 97, 212, 89, 164, 66, 241, 143, 3, 29, 234, 37, 6, 197, 239, 99, 29, 56, 51, 172, 39, 71, 130, 163, 46]), c32, 54360⟩
theorem k269_54227_ok : KeyOK Tryz.prog tabG k269_54227 := KeyOK.of xw0_ok hpl mix 100000 (by kernel_rfl) (by kernel_rfl : knownB Tryz.prog tabG plans XW0 100000 k269_54227 = true)
/-- ratchet/tag.Numbered -/
noncomputable def k201_54986 : Key := ⟨201, [ni 2, nu 3, .sl 54907 0 158 0 false], [(54907, dB141)], 54986, .agg (b8 [65, 77, 127, 71, 178, 184, 129, 155, 127, 177, 69, 246, 98, 255, 173, 167, 20, 34, 101, 50, 213, 226, 225, 7, 46, 244, 46, 65, 168, 205, 98, 56]), [(54907, dB141)], 55177⟩
theorem k201_54986_ok : KeyOK Tryz.prog tabG k201_54986 := KeyOK.of xw0_ok hpl mix 100000 (by kernel_rfl) (by kernel_rfl : knownB Tryz.prog tabG plans XW0 100000 k201_54986 = true)
/-- ratchet/tag.Of -/
noncomputable def k269_55815 : Key := ⟨269, [.sl 55793 0 32 0 false, .sl 55814 0 125 0 false], c33, 55815, .agg (b8 [144, 253, 54, 101, 121, 31, 209, 6, 97, 212, 89, 164, 66, 241, 143, 3, 29, 234, 37, 6, 197, 239, 99, 29, 56, 51, 172, 39, 71, 130, 163, 46]), c33, 55948⟩
theorem k269_55815_ok : KeyOK Tryz.prog tabG k269_55815 := KeyOK.of xw0_ok hpl mix 100000 (by kernel_rfl) (by kernel_rfl : knownB Tryz.prog tabG plans XW0 100000 k269_55815 = true)
end Go.Proofs.YtahmejhidelkbaaGreatDoor
