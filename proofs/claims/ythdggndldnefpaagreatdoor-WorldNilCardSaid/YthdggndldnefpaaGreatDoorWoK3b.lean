/-
  Some calls of the anchor, reckoned by themselves. Conditions: none beside what ratchet/sha.table holds.
-/
import Derived.Test.YthdggndldnefpaaGreatDoorWoY2
namespace Go.Proofs.YthdggndldnefpaaGreatDoor
open Go.RowKit Go.Sx Go.Ev
set_option linter.unusedVariables false
set_option linter.unusedSimpArgs false
set_option linter.unnecessarySimpa false
set_option maxRecDepth 100000
/-- (*ratchet/replica.Replica).Hear -/
noncomputable def k166_33842 : Key := ⟨166, [.ptr 5053 0, .agg q69], (aj c96 (aj c26 (aj c27 [(5057, dB88), (5058, dB54), (5059, dB70), (5060, dB89), (5061, dB29), (5062, dB90), (5063, .cells [nu 0]), (5064, dB73), (5065, dB57), (5068, .cells [nu 0]), (5069, dB31), (5070, dB58), (5073, .cells [nu 0]), (5074, dB31), (5075, dB59), (5077, dB60), (5078, .map [] 0), (5079, .cells [ni 3, .mp 5078]), (5081, dB81), (23803, .buf [ni 0, ni 0] 2), (23807, dB74), (24185, dB68), (24187, .buf [nu 1] 1), (31226, dB117)]))), 33842, .tup [.sl 36648 0 1 0 false, ni 0], (aj c63 (aj c26 (aj c27 (aj c64 [(23807, dB74), (24185, dB68), (24187, .buf [nu 1] 1), (31226, dB117), (36538, dB97), (36542, dB98), (36648, dB98)])))), 36654⟩
theorem k166_33842_ok : KeyOK Tryz.prog tabG k166_33842 := KeyOK.of y2_ok hpl mix 100000 (by kernel_rfl) (by kernel_rfl : knownB Tryz.prog tabG plans Y2 100000 k166_33842 = true)
/-- (*ratchet/durable.Durable).make -/
noncomputable def k156_39854 : Key := ⟨156, [.ptr 5038 0, .agg q50], (aj c99 (aj c75 (aj c66 (aj c67 [(5159, dB9), (5281, .cells []), (5407, dB61), (6060, dB134), (23807, dB74), (24185, dB68), (24187, .buf [nu 1] 1), (36538, dB97), (36542, dB98), (38521, dB113), (38631, dB68), (38646, dB114)])))), 39854, .tup [.agg q10, ni 0], (aj [(4056, dB135), (4057, dB135), (4058, dB8)] (aj c75 (aj c66 (aj c69 (aj c70 [(5159, dB136), (5281, .cells []), (5407, dB137), (6060, dB138), (23807, dB74), (24185, dB68), (24187, .buf [nu 1] 1), (36542, dB98), (38521, dB113), (38631, dB68), (38646, dB114), (40565, dB139), (40567, dB124), (41824, dB131), (41828, dB132)]))))), 41933⟩
theorem k156_39854_ok : KeyOK Tryz.prog tabG k156_39854 := KeyOK.of y2_ok hpl mix 100000 (by kernel_rfl) (by kernel_rfl : knownB Tryz.prog tabG plans Y2 100000 k156_39854 = true)
/-- (*ratchet/replica.Replica).Hear -/
noncomputable def k166_43582 : Key := ⟨166, [.ptr 1007 0, .agg (ap [ni 3, ni 1, nu 1, nu 1, nu 1] (ap (rp 8 (nu 0)) [.sl 43422 0 2 0 false]))], (aj c59 (aj c60 (aj c58 (aj c61 (aj c62 [(43422, dB145)]))))), 43582, .tup [.sl 46198 0 1 0 false, ni 0], (aj c83 (aj c82 (aj c61 (aj c84 [(43422, dB145), (46088, dB131), (46092, dB132), (46198, dB132)])))), 46204⟩
theorem k166_43582_ok : KeyOK Tryz.prog tabG k166_43582 := KeyOK.of y2_ok hpl mix 100000 (by kernel_rfl) (by kernel_rfl : knownB Tryz.prog tabG plans Y2 100000 k166_43582 = true)
/-- (*ratchet/replica.Replica).Hear -/
noncomputable def k166_46724 : Key := ⟨166, [.ptr 3030 0, .agg q67], (aj [(3021, .map [] 1), (3022, .cells [.mp 3021]), (3023, dB107), (3024, .cells [.mp 3023])] (aj c43 (aj c34 [(3051, dB31), (3052, dB47), (3054, dB48), (3055, .map [] 0), (3056, .cells [ni 3, .mp 3055]), (3058, dB81), (20215, dB74), (20593, dB68), (20595, .buf [nu 1] 1), (26291, dB113), (29486, dB97), (29490, dB98), (29682, dB68), (43485, dB132)]))), 46724, .tup [.sl 48720 0 1 0 false, ni 0], (aj c85 (aj c86 (aj c87 (aj c88 [(29682, dB68), (43485, dB132), (48610, dB131), (48614, dB132), (48720, dB132)])))), 48726⟩
theorem k166_46724_ok : KeyOK Tryz.prog tabG k166_46724 := KeyOK.of y2_ok hpl mix 100000 (by kernel_rfl) (by kernel_rfl : knownB Tryz.prog tabG plans Y2 100000 k166_46724 = true)
/-- (*ratchet/world.World).Do -/
noncomputable def k17_10183 : Key := ⟨17, [.ptr 6079 0, .agg (ap [nb 2, ni 1, ni 1, ni 0, ni 0, ni 0, nb 0, fs, fs, fs, fs, nu 0, nb 0, nu 0, nu 0, ni 0, nu 0, nb 0, fs, fs, fs, fs, nu 0] q58)], (aj [(0, dB11), (1, dB80), (2, dB63), (3, dB13), (4, dB14), (5, dB15), (6, dB16), (7, dB17), (8, dB18), (9, dB19), (10, dB3), (11, dB3), (12, dB0), (992, dB20), (998, .map [] 0), (999, .cells [.mp 998]), (1000, .map [] 0), (1001, .cells [.mp 1000]), (1002, dB21), (1003, dB22), (1004, .map [] 0), (1005, dB23), (1006, dB24), (1007, dB25), (1011, dB26)] (aj c45 (aj c46 (aj c20 (aj c21 (aj c22 (aj c23 (aj c24 (aj c25 (aj c26 (aj c27 c47))))))))))), 10183, .agg q31, (aj c100 (aj c45 (aj c46 (aj c20 (aj c21 (aj c22 (aj c23 (aj c24 (aj c25 (aj c26 (aj c27 c101))))))))))), 11586⟩
theorem k17_10183_ok : KeyOK Tryz.prog tabG k17_10183 := KeyOK.of y2_ok hpl mix 100000 (by kernel_rfl) (by kernel_rfl : knownB Tryz.prog tabG plans Y2 100000 k17_10183 = true)
/-- (*ratchet/replica.Replica).Next -/
noncomputable def k155_11623 : Key := ⟨155, [.ptr 1007 0, nu 8], (aj [(998, .map [] 0), (999, .cells [.mp 998]), (1000, .map [] 0), (1001, .cells [.mp 1000]), (1002, dB21), (1003, dB22), (1004, .map [] 0), (1005, dB23), (1006, dB24), (1007, dB67), (1011, dB26)] (aj c45 c91)), 11623, .tup [.agg q9, bt], (aj c90 (aj c45 c91)), 13010⟩
theorem k155_11623_ok : KeyOK Tryz.prog tabG k155_11623 := KeyOK.of y2_ok hpl mix 100000 (by kernel_rfl) (by kernel_rfl : knownB Tryz.prog tabG plans Y2 100000 k155_11623 = true)
/-- (*ratchet/world.World).Do -/
noncomputable def k17_24929 : Key := ⟨17, [.ptr 6079 0, .agg (ap [nb 2, ni 1, ni 2, ni 0, ni 0, ni 0, nb 0, fs, fs, fs, fs, nu 0, nb 0, nu 0, nu 0, ni 0, nu 0, nb 0, fs, fs, fs, fs, nu 0] q58)], (aj c16 (aj c17 (aj c18 (aj c102 (aj c94 (aj c51 (aj c52 (aj c98 (aj c103 (aj c37 (aj c26 (aj c27 (aj c104 (aj c105 [(20215, dB74), (20593, dB68), (20595, .buf [nu 1] 1), (23803, .buf [ni 0, ni 0] 2), (23807, dB74), (24185, dB68), (24187, .buf [nu 1] 1)])))))))))))))), 24929, .agg q31, (aj c16 (aj c17 (aj c18 (aj c102 (aj c106 (aj c51 (aj c52 (aj c98 (aj c103 (aj c37 (aj c26 (aj c27 (aj c104 (aj c105 c107)))))))))))))), 26344⟩
theorem k17_24929_ok : KeyOK Tryz.prog tabG k17_24929 := KeyOK.of y2_ok hpl mix 100000 (by kernel_rfl) (by kernel_rfl : knownB Tryz.prog tabG plans Y2 100000 k17_24929 = true)
end Go.Proofs.YthdggndldnefpaaGreatDoor
