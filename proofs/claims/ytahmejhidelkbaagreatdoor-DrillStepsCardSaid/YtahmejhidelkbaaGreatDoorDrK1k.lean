/-
  Some calls of the anchor, reckoned by themselves. Conditions: none beside what ratchet/sha.table holds.
-/
import Derived.Test.YtahmejhidelkbaaGreatDoorDrX
namespace Go.Proofs.YtahmejhidelkbaaGreatDoor
open Go.RowKit Go.Sx Go.Ev
set_option linter.unusedVariables false
set_option linter.unusedSimpArgs false
set_option linter.unnecessarySimpa false
set_option maxRecDepth 100000
/-- (*ratchet/durable.Durable).keep -/
noncomputable def k232_73736 : Key := ⟨232, [.ptr 3015 0, .sl 73730 0 2 0 false], (aj [(2033, dB149), (2034, dB149), (2035, dB5), (3015, dB38), (3021, .map [] 3), (3022, .cells [.mp 3021]), (3023, .map [] 0), (3024, .cells [.mp 3023])] (aj c47 (aj c48 (aj [(3042, dB45), (3046, dB144), (3047, dB135), (3051, dB144), (3052, dB204), (3054, dB48), (3055, .map [] 0), (3056, .cells [ni 3, .mp 3055]), (3058, dB202), (3136, dB150), (3384, dB151), (4037, dB152), (14194, dB76), (28484, .buf [nu 1, nu 1] 2)] (aj c30 c49))))), 73736, ni 0, (aj [(2033, dB207), (2034, dB207)] (aj c50 (aj c47 (aj c48 (aj [(3042, dB45), (3046, dB144), (3047, dB135), (3051, dB144), (3052, dB204), (3054, dB48), (3055, .map [] 0), (3056, .cells [ni 3, .mp 3055]), (3058, dB202), (3136, dB150), (3384, dB151), (4037, dB208), (14194, dB76), (28484, .buf [nu 1, nu 1] 2)] (aj c30 c49)))))), 74600⟩
theorem k232_73736_ok : KeyOK Tryz.prog tabG k232_73736 := KeyOK.of xw0_ok hpl mix 100000 (by kernel_rfl) (by kernel_rfl : knownB Tryz.prog tabG plans XW0 100000 k232_73736 = true)
/-- ratchet/message.sign -/
noncomputable def k292_74794 : Key := ⟨292, [.agg q109], [], 74794, .agg (b8 [18, 71, 57, 66, 140, 84, 199, 250, 179, 72, 66, 17, 252, 175, 62, 1, 134, 61, 32, 207, 144, 148, 3, 95, 153, 188, 73, 203, 49, 103, 152, 126]), [], 75050⟩
theorem k292_74794_ok : KeyOK Tryz.prog tabG k292_74794 := KeyOK.of xw0_ok hpl mix 100000 (by kernel_rfl) (by kernel_rfl : knownB Tryz.prog tabG plans XW0 100000 k292_74794 = true)
/-- ratchet/state.Of -/
noncomputable def k348_75565 : Key := ⟨348, [.sl 75564 0 208 0 false], [(75564, .buf (z8 208) 1)], 75565, .tup [.ptr 75568 0, ni 0], [(75564, .buf (z8 208) 1), (75568, .cells [.ptr 75611 0, .ptr 75609 0, nu 0]), (75609, dB21), (75610, .map [] 0), (75611, .cells [.mp 75610])], 76125⟩
theorem k348_75565_ok : KeyOK Tryz.prog tabG k348_75565 := KeyOK.of xw0_ok hpl mix 100000 (by kernel_rfl) (by kernel_rfl : knownB Tryz.prog tabG plans XW0 100000 k348_75565 = true)
/-- ratchet/state.Of -/
noncomputable def k348_76797 : Key := ⟨348, [.sl 76796 0 226 0 false], [(76796, dB188)], 76797, .tup [.ptr 76800 0, ni 0], [(76796, dB188), (76800, .cells [.ptr 76849 0, .ptr 76847 0, nu 1]), (76847, dB189), (76848, dB190), (76849, .cells [.mp 76848])], 77407⟩
theorem k348_76797_ok : KeyOK Tryz.prog tabG k348_76797 := KeyOK.of xw0_ok hpl mix 100000 (by kernel_rfl) (by kernel_rfl : knownB Tryz.prog tabG plans XW0 100000 k348_76797 = true)
/-- (*ratchet/cluster.Cluster).tell -/
noncomputable def k97_77518 : Key := ⟨97, [.ptr 1 0, .agg q111, .ptr 3015 0, .ptr 77511 0], (aj c51 (aj [(2034, dB207)] (aj c52 (aj [(3025, dB189), (3026, dB210)] (aj c53 (aj c54 (aj c48 (aj c55 (aj c42 (aj c56 (aj c43 (aj c44 (aj c30 [(49345, dB148), (49723, dB76), (49725, .buf [nu 3] 1), (55960, dB128), (56071, .buf [nu 0, nu 1] 1), (56072, dB145), (56073, dB161), (57804, dB162), (58182, dB76), (58184, .buf [nu 3] 1), (63920, .buf [nu 0, nu 1] 1), (65876, dB186), (65878, dB177), (67137, dB179), (67141, dB180), (67339, dB76), (72325, .buf [nu 0, nu 1] 1), (73620, dB179), (73624, dB180), (76225, dB76), (76240, dB197), (77511, dB154)]))))))))))))), 77518, .tup [], (aj c57 (aj [(2034, dB207)] (aj c52 (aj [(3025, dB189), (3026, dB210)] (aj c53 (aj c58 (aj c48 (aj c55 (aj c42 (aj c56 (aj c43 (aj c44 (aj c30 [(49345, dB148), (49723, dB76), (49725, .buf [nu 3] 1), (55960, dB128), (56071, .buf [nu 0, nu 1] 1), (56072, dB145), (56073, dB161), (57804, dB162), (58182, dB76), (58184, .buf [nu 3] 1), (63920, .buf [nu 0, nu 1] 1), (65876, dB186), (65878, dB177), (67137, dB179), (67141, dB180), (67339, dB76), (72325, .buf [nu 0, nu 1] 1), (73620, dB179), (73624, dB180), (76225, dB76), (76240, dB197), (77511, .cells (ap [ni 0, ni 0, nu 0, nb 0, fs, fs, fs, fs, nu 0] (ap (z8 32) (ap [ni 0] (ap (rp 12 (nu 0)) (ap [nb 0, nu 0, nu 0, ni 0, nu 0, nb 0, fs, fs, fs, fs, nu 0] (ap (z8 32) (ap [fl] (ap (z8 64) [.sl 77956 0 1 0 false]))))))))), (77917, .buf q1 121), (77922, dB128), (77935, .buf q166 14), (77956, dB197)]))))))))))))), 77957⟩
theorem k97_77518_ok : KeyOK Tryz.prog tabG k97_77518 := KeyOK.of xw0_ok hpl mix 100000 (by kernel_rfl) (by kernel_rfl : knownB Tryz.prog tabG plans XW0 100000 k97_77518 = true)
/-- ratchet/state.Of -/
noncomputable def k348_78776 : Key := ⟨348, [.sl 78775 0 226 0 false], [(78775, dB188)], 78776, .tup [.ptr 78779 0, ni 0], [(78775, dB188), (78779, .cells [.ptr 78828 0, .ptr 78826 0, nu 1]), (78826, dB189), (78827, dB190), (78828, .cells [.mp 78827])], 79386⟩
theorem k348_78776_ok : KeyOK Tryz.prog tabG k348_78776 := KeyOK.of xw0_ok hpl mix 100000 (by kernel_rfl) (by kernel_rfl : knownB Tryz.prog tabG plans XW0 100000 k348_78776 = true)
/-- (*ratchet/cluster.Cluster).tell -/
noncomputable def k97_79494 : Key := ⟨97, [.ptr 1 0, .agg q112, .ptr 5038 0, .ptr 79487 0], (aj c59 (aj [(2034, dB207)] (aj c52 (aj [(3025, dB189), (3026, dB210)] (aj c53 (aj c58 (aj c48 (aj c55 (aj c42 (aj c60 (aj c61 (aj c43 (aj c44 (aj c30 [(49345, dB148), (49723, dB76), (49725, .buf [nu 3] 1), (55960, dB128), (56071, .buf [nu 0, nu 1] 1), (56072, dB145), (56073, dB161), (57804, dB162), (58182, dB76), (58184, .buf [nu 3] 1), (63920, .buf [nu 0, nu 1] 1), (65876, dB186), (65878, dB177), (67137, dB179), (67141, dB180), (67339, dB76), (72325, .buf [nu 0, nu 1] 1), (73620, dB179), (73624, dB180), (76225, dB76), (79487, dB154)])))))))))))))), 79494, .tup [], (aj c62 (aj [(2034, dB207)] (aj c52 (aj [(3025, dB189), (3026, dB210)] (aj c53 (aj c58 (aj c48 (aj c55 (aj c42 (aj c60 (aj c61 (aj c43 (aj c44 (aj c30 [(49345, dB148), (49723, dB76), (49725, .buf [nu 3] 1), (55960, dB128), (56071, .buf [nu 0, nu 1] 1), (56072, dB145), (56073, dB161), (57804, dB162), (58182, dB76), (58184, .buf [nu 3] 1), (63920, .buf [nu 0, nu 1] 1), (65876, dB186), (65878, dB177), (67137, dB179), (67141, dB180), (67339, dB76), (72325, .buf [nu 0, nu 1] 1), (73620, dB179), (73624, dB180), (76225, dB76), (79487, dB154), (79893, .buf q2 121), (79898, dB128), (79911, .buf q167 14)])))))))))))))), 79914⟩
theorem k97_79494_ok : KeyOK Tryz.prog tabG k97_79494 := KeyOK.of xw0_ok hpl mix 100000 (by kernel_rfl) (by kernel_rfl : knownB Tryz.prog tabG plans XW0 100000 k97_79494 = true)
/-- ratchet/tag.Of -/
noncomputable def k269_54310a : Key := ⟨269, [.sl 54288 0 32 0 false, .sl 54309 0 166 0 false], c63, 54310, .agg (b8 [65, 77, 127, 71, 178, 184, 129, 155, 127, 177, 69, 246, 98, 255, 173, 167, 20, 34, 101, 50, 213, 226, 225, 7, 46, 244, 46, 65, 168, 205, 98, 56]), c63, 54402⟩
theorem k269_54310a_ok : KeyOK Tryz.prog tabG k269_54310a := KeyOK.of xw0_ok hpl mix 100000 (by kernel_rfl) (by kernel_rfl : knownB Tryz.prog tabG plans XW0 100000 k269_54310a = true)
/-- (*ratchet/sha.Hash).Sum -/
noncomputable def k177_55043a : Key := ⟨177, [.ptr 55042 0], [(55042, dB218)], 55043, .agg (b8 [56, 182, 89, 224, 239, 162, 121, 64, 35, 107, 114, 66, 16, 11, 193, 105, 239, 75, 57, 248, 92, 25, 133, 156, 82, 78, 252, 212, 193, 116, 73, 74]), [(55042, dB218)], 55121⟩
theorem k177_55043a_ok : KeyOK Tryz.prog tabG k177_55043a := KeyOK.of xw0_ok hpl mix 100000 (by kernel_rfl) (by kernel_rfl : knownB Tryz.prog tabG plans XW0 100000 k177_55043a = true)
/-- ratchet/tag.Of -/
noncomputable def k269_71045a : Key := ⟨269, [.sl 71023 0 32 0 false, .sl 71044 0 114 0 false], c64, 71045, .agg (b8 [210, 15, 17, 210, 96, 72, 113, 46, 231, 14, 184, 112, 241, 11, 183, 135, 146, 183, 222, 177, 71, 230, 52, 17, 104, 184, 253, 191, 31, 208, 145, 57]), c64, 71125⟩
theorem k269_71045a_ok : KeyOK Tryz.prog tabG k269_71045a := KeyOK.of xw0_ok hpl mix 100000 (by kernel_rfl) (by kernel_rfl : knownB Tryz.prog tabG plans XW0 100000 k269_71045a = true)
/-- ratchet/tag.Of -/
noncomputable def k269_71608a : Key := ⟨269, [.sl 71586 0 32 0 false, .sl 71607 0 106 0 false], c65, 71608, .agg (b8 [49, 241, 222, 148, 67, 217, 239, 174, 30, 178, 237, 250, 218, 217, 156, 183, 201, 138, 54, 132, 0, 181, 3, 27, 123, 253, 214, 245, 47, 109, 167, 227]), c65, 71696⟩
theorem k269_71608a_ok : KeyOK Tryz.prog tabG k269_71608a := KeyOK.of xw0_ok hpl mix 100000 (by kernel_rfl) (by kernel_rfl : knownB Tryz.prog tabG plans XW0 100000 k269_71608a = true)
end Go.Proofs.YtahmejhidelkbaaGreatDoor
