/-
  Some calls of the anchor, reckoned by themselves. Conditions: none beside what ratchet/sha.table holds.
-/
import Derived.Test.YthdggndldnefpaaGreatDoorWoY1
namespace Go.Proofs.YthdggndldnefpaaGreatDoor
open Go.RowKit Go.Sx Go.Ev
set_option linter.unusedVariables false
set_option linter.unusedSimpArgs false
set_option linter.unnecessarySimpa false
set_option maxRecDepth 100000
/-- (*ratchet/replica.Replica).Take -/
noncomputable def k143_35914 : Key := ⟨143, [.ptr 5053 0, .agg q12], (aj c63 (aj c26 (aj c27 [(5057, dB88), (5058, dB54), (5059, dB70), (5060, dB89), (5061, dB29), (5062, dB90), (5063, .cells [nu 0]), (5064, dB73), (5065, dB57), (5068, .cells [nu 0]), (5069, dB31), (5070, dB58), (5073, .cells [nu 0]), (5074, dB31), (5075, dB59), (5077, dB60), (5078, .map [] 0), (5079, .cells [ni 3, .mp 5078]), (5081, dB121), (23803, .buf [ni 0, ni 0] 2), (23807, dB74), (24185, dB68), (24187, .buf [nu 1] 1)]))), 35914, ni 0, (aj c63 (aj c26 (aj c27 (aj c64 [(23807, dB74), (24185, dB68), (24187, .buf [nu 1] 1), (36538, dB97), (36542, dB98)])))), 36647⟩
theorem k143_35914_ok : KeyOK Tryz.prog tabG k143_35914 := KeyOK.of y1_ok hpl mix 100000 (by kernel_rfl) (by kernel_rfl : knownB Tryz.prog tabG plans Y1 100000 k143_35914 = true)
/-- (*ratchet/replica.Replica).Take -/
noncomputable def k143_41200 : Key := ⟨143, [.ptr 5053 0, .agg q10], (aj c65 (aj c66 (aj c67 c68))), 41200, ni 0, (aj c65 (aj c66 (aj c69 (aj c70 [(23807, dB74), (24185, dB68), (24187, .buf [nu 1] 1), (36542, dB98), (38521, dB113), (38631, dB68), (38646, dB114), (41824, dB131), (41828, dB132)])))), 41933⟩
theorem k143_41200_ok : KeyOK Tryz.prog tabG k143_41200 := KeyOK.of y1_ok hpl mix 100000 (by kernel_rfl) (by kernel_rfl : knownB Tryz.prog tabG plans Y1 100000 k143_41200 = true)
/-- (*ratchet/world.World).Do -/
noncomputable def k17_41984 : Key := ⟨17, [.ptr 6079 0, .agg q28], (aj c71 (aj c60 (aj c58 (aj c72 (aj c73 (aj c32 (aj c43 (aj c34 (aj c35 (aj c74 (aj c75 (aj c66 (aj c69 (aj c70 (aj c76 (aj c77 (aj c40 (aj c78 c79)))))))))))))))))), 41984, .agg q32, (aj c71 (aj c60 (aj c58 (aj c72 (aj c73 (aj c32 (aj c43 (aj c34 (aj c35 (aj c74 (aj c75 (aj c66 (aj c80 (aj [(5057, dB129)] (aj c70 (aj c76 (aj c77 (aj c40 (aj c78 c81))))))))))))))))))), 43273⟩
theorem k17_41984_ok : KeyOK Tryz.prog tabG k17_41984 := KeyOK.of y1_ok hpl mix 100000 (by kernel_rfl) (by kernel_rfl : knownB Tryz.prog tabG plans Y1 100000 k17_41984 = true)
/-- (*ratchet/replica.Replica).Take -/
noncomputable def k143_45464 : Key := ⟨143, [.ptr 1007 0, .agg q10], (aj [(998, .map [] 2), (999, .cells [.mp 998]), (1000, .map [] 0), (1001, .cells [.mp 1000]), (1002, dB21), (1003, dB22), (1004, .map [] 0), (1005, dB23), (1006, dB66), (1007, dB67), (1011, dB119), (1012, dB27), (1013, dB70), (1014, dB71), (1015, dB29), (1016, dB120)] (aj c60 (aj c82 (aj c61 c62)))), 45464, ni 0, (aj c83 (aj c82 (aj c61 (aj c84 [(46088, dB131), (46092, dB132)])))), 46197⟩
theorem k143_45464_ok : KeyOK Tryz.prog tabG k143_45464 := KeyOK.of y1_ok hpl mix 100000 (by kernel_rfl) (by kernel_rfl : knownB Tryz.prog tabG plans Y1 100000 k143_45464 = true)
/-- (*ratchet/replica.Replica).Take -/
noncomputable def k143_47986 : Key := ⟨143, [.ptr 3030 0, .agg q10], (aj c85 (aj c43 (aj c34 [(3051, dB31), (3052, dB47), (3054, dB48), (3055, .map [] 0), (3056, .cells [ni 3, .mp 3055]), (3058, dB146), (20215, dB74), (20593, dB68), (20595, .buf [nu 1] 1), (26291, dB113), (29486, dB97), (29490, dB98), (29682, dB68)]))), 47986, ni 0, (aj c85 (aj c86 (aj c87 (aj c88 [(29682, dB68), (48610, dB131), (48614, dB132)])))), 48719⟩
theorem k143_47986_ok : KeyOK Tryz.prog tabG k143_47986 := KeyOK.of y1_ok hpl mix 100000 (by kernel_rfl) (by kernel_rfl : knownB Tryz.prog tabG plans Y1 100000 k143_47986 = true)
end Go.Proofs.YthdggndldnefpaaGreatDoor
