/-
  Some calls of the anchor, reckoned by themselves. Conditions: none beside what ratchet/sha.table holds.
-/
import Derived.Test.YtahmejhidelkbaaGreatDoorDrX
namespace Go.Proofs.YtahmejhidelkbaaGreatDoor
open Go.RowKit Go.Sx Go.Ev
set_option linter.unusedVariables false
set_option linter.unusedSimpArgs false
set_option linter.unnecessarySimpa false
set_option maxRecDepth 100000
/-- ratchet/tag.Numbered -/
noncomputable def k201_65879 : Key := ⟨201, [ni 3, nu 3, .sl 65472 0 106 0 false], [(65472, dB177)], 65879, .agg (b8 [210, 15, 17, 210, 96, 72, 113, 46, 231, 14, 184, 112, 241, 11, 183, 135, 146, 183, 222, 177, 71, 230, 52, 17, 104, 184, 253, 191, 31, 208, 145, 57]), [(65472, dB177)], 66058⟩
theorem k201_65879_ok : KeyOK Tryz.prog tabG k201_65879 := KeyOK.of xw0_ok hpl mix 100000 (by kernel_rfl) (by kernel_rfl : knownB Tryz.prog tabG plans XW0 100000 k201_65879 = true)
/-- ratchet/tag.Numbered -/
noncomputable def k201_66950 : Key := ⟨201, [ni 3, nu 3, .sl 66871 0 106 0 false], [(66871, dB177)], 66950, .agg (b8 [210, 15, 17, 210, 96, 72, 113, 46, 231, 14, 184, 112, 241, 11, 183, 135, 146, 183, 222, 177, 71, 230, 52, 17, 104, 184, 253, 191, 31, 208, 145, 57]), [(66871, dB177)], 67129⟩
theorem k201_66950_ok : KeyOK Tryz.prog tabG k201_66950 := KeyOK.of xw0_ok hpl mix 100000 (by kernel_rfl) (by kernel_rfl : knownB Tryz.prog tabG plans XW0 100000 k201_66950 = true)
/-- ratchet/state.Of -/
noncomputable def k348_67911 : Key := ⟨348, [.sl 67910 0 226 0 false], [(67910, dB188)], 67911, .tup [.ptr 67914 0, ni 0], [(67910, dB188), (67914, .cells [.ptr 67963 0, .ptr 67961 0, nu 1]), (67961, dB189), (67962, dB190), (67963, .cells [.mp 67962])], 68521⟩
theorem k348_67911_ok : KeyOK Tryz.prog tabG k348_67911 := KeyOK.of xw0_ok hpl mix 100000 (by kernel_rfl) (by kernel_rfl : knownB Tryz.prog tabG plans XW0 100000 k348_67911 = true)
/-- (*ratchet/cluster.Cluster).tell -/
noncomputable def k97_68630 : Key := ⟨97, [.ptr 1 0, .agg q112, .ptr 5038 0, .ptr 68623 0], (aj c19 (aj c20 (aj c21 (aj c22 (aj c23 (aj c41 (aj c42 (aj [(5047, .cells [.mp 5046]), (5048, dB189), (5049, dB191), (5050, dB192), (5051, dB193), (5052, dB194), (5053, dB195), (5057, dB178), (5058, dB156), (5059, .map [] 0), (5060, dB55), (5061, dB102), (5062, dB182), (5063, .cells [nu 0]), (5064, dB31), (5065, dB57), (5069, dB144), (5070, dB157), (5074, dB144), (5075, dB169), (5077, dB60), (5078, .map [] 0), (5079, .cells [ni 3, .mp 5078]), (5081, dB158), (5159, dB183), (5407, dB184), (6060, dB185), (6076, .cells [.ptr 4058 0, .ptr 5038 0]), (6078, dB62), (14194, dB76), (17053, dB196), (28484, .buf [nu 1, nu 1] 2)] (aj c43 (aj c44 (aj [(39850, dB106)] (aj c30 c45)))))))))))), 68630, .tup [], (aj c46 (aj c20 (aj c21 (aj c22 (aj c23 (aj c41 (aj c42 (aj [(5047, .cells [.mp 5046]), (5048, dB189), (5049, dB191), (5050, dB192), (5051, dB193), (5052, dB194), (5053, dB199), (5057, dB178), (5058, dB156), (5059, .map [] 0), (5060, dB55), (5061, dB102), (5062, dB182), (5063, .cells [nu 0]), (5064, dB31), (5065, dB57), (5069, dB144), (5070, dB157), (5074, dB144), (5075, dB169), (5077, dB60), (5078, .map [] 0), (5079, .cells [ni 3, .mp 5078]), (5081, dB158), (5159, dB183), (5407, dB184), (6060, dB185), (6076, .cells [.ptr 4058 0, .ptr 5038 0]), (6078, dB62), (14194, dB76), (17053, dB196), (28484, .buf [nu 1, nu 1] 2)] (aj c43 (aj c44 (aj [(39850, dB106)] (aj c30 (aj c45 [(69037, .buf q0 121), (69042, dB128), (69138, dB200), (69142, .buf q159 14)]))))))))))))), 69162⟩
theorem k97_68630_ok : KeyOK Tryz.prog tabG k97_68630 := KeyOK.of xw0_ok hpl mix 100000 (by kernel_rfl) (by kernel_rfl : knownB Tryz.prog tabG plans XW0 100000 k97_68630 = true)
/-- ratchet/tag.Numbered -/
noncomputable def k201_69678 : Key := ⟨201, [ni 3, nu 2, .sl 69599 0 98 0 false], [(69599, dB166)], 69678, .agg (b8 [49, 241, 222, 148, 67, 217, 239, 174, 30, 178, 237, 250, 218, 217, 156, 183, 201, 138, 54, 132, 0, 181, 3, 27, 123, 253, 214, 245, 47, 109, 167, 227]), [(69599, dB166)], 69865⟩
theorem k201_69678_ok : KeyOK Tryz.prog tabG k201_69678 := KeyOK.of xw0_ok hpl mix 100000 (by kernel_rfl) (by kernel_rfl : knownB Tryz.prog tabG plans XW0 100000 k201_69678 = true)
/-- ratchet/tag.Numbered -/
noncomputable def k201_70316 : Key := ⟨201, [ni 3, nu 3, .sl 70237 0 106 0 false], [(70237, dB177)], 70316, .agg (b8 [210, 15, 17, 210, 96, 72, 113, 46, 231, 14, 184, 112, 241, 11, 183, 135, 146, 183, 222, 177, 71, 230, 52, 17, 104, 184, 253, 191, 31, 208, 145, 57]), [(70237, dB177)], 70495⟩
theorem k201_70316_ok : KeyOK Tryz.prog tabG k201_70316 := KeyOK.of xw0_ok hpl mix 100000 (by kernel_rfl) (by kernel_rfl : knownB Tryz.prog tabG plans XW0 100000 k201_70316 = true)
/-- ratchet/tag.Numbered -/
noncomputable def k201_70889 : Key := ⟨201, [ni 3, nu 2, .sl 70810 0 98 0 false], [(70810, dB166)], 70889, .agg (b8 [49, 241, 222, 148, 67, 217, 239, 174, 30, 178, 237, 250, 218, 217, 156, 183, 201, 138, 54, 132, 0, 181, 3, 27, 123, 253, 214, 245, 47, 109, 167, 227]), [(70810, dB166)], 71076⟩
theorem k201_70889_ok : KeyOK Tryz.prog tabG k201_70889 := KeyOK.of xw0_ok hpl mix 100000 (by kernel_rfl) (by kernel_rfl : knownB Tryz.prog tabG plans XW0 100000 k201_70889 = true)
/-- ratchet/tag.Numbered -/
noncomputable def k201_71524 : Key := ⟨201, [ni 3, nu 3, .sl 71445 0 106 0 false], [(71445, dB177)], 71524, .agg (b8 [210, 15, 17, 210, 96, 72, 113, 46, 231, 14, 184, 112, 241, 11, 183, 135, 146, 183, 222, 177, 71, 230, 52, 17, 104, 184, 253, 191, 31, 208, 145, 57]), [(71445, dB177)], 71703⟩
theorem k201_71524_ok : KeyOK Tryz.prog tabG k201_71524 := KeyOK.of xw0_ok hpl mix 100000 (by kernel_rfl) (by kernel_rfl : knownB Tryz.prog tabG plans XW0 100000 k201_71524 = true)
/-- ratchet/tag.Numbered -/
noncomputable def k201_72090 : Key := ⟨201, [ni 3, nu 2, .sl 72011 0 98 0 false], [(72011, dB166)], 72090, .agg (b8 [49, 241, 222, 148, 67, 217, 239, 174, 30, 178, 237, 250, 218, 217, 156, 183, 201, 138, 54, 132, 0, 181, 3, 27, 123, 253, 214, 245, 47, 109, 167, 227]), [(72011, dB166)], 72277⟩
theorem k201_72090_ok : KeyOK Tryz.prog tabG k201_72090 := KeyOK.of xw0_ok hpl mix 100000 (by kernel_rfl) (by kernel_rfl : knownB Tryz.prog tabG plans XW0 100000 k201_72090 = true)
/-- ratchet/tag.Numbered -/
noncomputable def k201_72804 : Key := ⟨201, [ni 3, nu 3, .sl 72725 0 106 0 false], [(72725, dB177)], 72804, .agg (b8 [210, 15, 17, 210, 96, 72, 113, 46, 231, 14, 184, 112, 241, 11, 183, 135, 146, 183, 222, 177, 71, 230, 52, 17, 104, 184, 253, 191, 31, 208, 145, 57]), [(72725, dB177)], 72983⟩
theorem k201_72804_ok : KeyOK Tryz.prog tabG k201_72804 := KeyOK.of xw0_ok hpl mix 100000 (by kernel_rfl) (by kernel_rfl : knownB Tryz.prog tabG plans XW0 100000 k201_72804 = true)
/-- ratchet/tag.Numbered -/
noncomputable def k201_73433 : Key := ⟨201, [ni 3, nu 3, .sl 73354 0 106 0 false], [(73354, dB177)], 73433, .agg (b8 [210, 15, 17, 210, 96, 72, 113, 46, 231, 14, 184, 112, 241, 11, 183, 135, 146, 183, 222, 177, 71, 230, 52, 17, 104, 184, 253, 191, 31, 208, 145, 57]), [(73354, dB177)], 73612⟩
theorem k201_73433_ok : KeyOK Tryz.prog tabG k201_73433 := KeyOK.of xw0_ok hpl mix 100000 (by kernel_rfl) (by kernel_rfl : knownB Tryz.prog tabG plans XW0 100000 k201_73433 = true)
end Go.Proofs.YtahmejhidelkbaaGreatDoor
