/-
  Some calls of the anchor, reckoned by themselves. Conditions: none beside what ratchet/sha.table holds.
-/
import Derived.Test.YthdggndldnefpaaGreatDoorWoY2
namespace Go.Proofs.YthdggndldnefpaaGreatDoor
open Go.RowKit Go.Sx Go.Ev
set_option linter.unusedVariables false
set_option linter.unusedSimpArgs false
set_option linter.unnecessarySimpa false
set_option maxRecDepth 100000
/-- (*ratchet/replica.Replica).Next -/
noncomputable def k155_26381 : Key := ⟨155, [.ptr 3030 0, nu 8], (aj c48 (aj c106 (aj c51 (aj c52 (aj c53 c54))))), 26381, .tup [.agg q51, bt], (aj c48 (aj c49 (aj c50 (aj c51 (aj c52 (aj c53 c54)))))), 27515⟩
theorem k155_26381_ok : KeyOK Tryz.prog tabG k155_26381 := KeyOK.of y2_ok hpl mix 100000 (by kernel_rfl) (by kernel_rfl : knownB Tryz.prog tabG plans Y2 100000 k155_26381 = true)
/-- (*ratchet/durable.Durable).keep -/
noncomputable def k167_36654 : Key := ⟨167, [.ptr 5038 0, .sl 36648 0 1 0 false], (aj c108 (aj c109 (aj c26 (aj c27 (aj c64 [(5159, dB9), (5281, .cells []), (5407, dB61), (6060, dB92), (23807, dB74), (24185, dB68), (24187, .buf [nu 1] 1), (36538, dB97), (36542, dB98), (36648, dB98)]))))), 36654, ni 0, (aj c99 (aj c109 (aj c26 (aj c27 (aj c64 [(5159, dB9), (5281, .cells []), (5407, dB61), (6060, dB134), (23807, dB74), (24185, dB68), (24187, .buf [nu 1] 1), (36538, dB97), (36542, dB98), (36648, dB98)]))))), 37105⟩
theorem k167_36654_ok : KeyOK Tryz.prog tabG k167_36654 := KeyOK.of y2_ok hpl mix 100000 (by kernel_rfl) (by kernel_rfl : knownB Tryz.prog tabG plans Y2 100000 k167_36654 = true)
/-- (*ratchet/world.World).Do -/
noncomputable def k17_37159 : Key := ⟨17, [.ptr 6079 0, .agg (ap [nb 2, ni 1, ni 3, ni 0, ni 0, ni 0, nb 0, fs, fs, fs, fs, nu 0, nb 0, nu 0, nu 0, ni 0, nu 0, nb 0, fs, fs, fs, fs, nu 0] q58)], (aj c71 (aj c60 (aj c58 (aj c72 (aj c73 (aj c32 (aj c43 (aj c34 (aj c35 (aj c110 (aj c109 (aj c26 (aj c27 (aj c64 (aj c111 (aj c77 (aj c40 (aj c78 c112)))))))))))))))))), 37159, .agg q31, (aj c71 (aj c60 (aj c58 (aj c72 (aj c73 (aj c32 (aj c43 (aj c34 (aj c35 (aj c110 (aj c109 (aj c26 (aj c113 (aj c111 (aj c77 (aj c40 (aj c78 c114))))))))))))))))), 38574⟩
theorem k17_37159_ok : KeyOK Tryz.prog tabG k17_37159 := KeyOK.of y2_ok hpl mix 100000 (by kernel_rfl) (by kernel_rfl : knownB Tryz.prog tabG plans Y2 100000 k17_37159 = true)
/-- (*ratchet/replica.Replica).Next -/
noncomputable def k155_38611 : Key := ⟨155, [.ptr 5053 0, nu 8], (aj c63 (aj c26 (aj c113 [(23807, dB74), (24185, dB68), (24187, .buf [nu 1] 1), (36538, dB97), (36542, dB98), (38521, dB68)]))), 38611, .tup [.agg q50, bt], (aj c65 (aj c66 (aj c67 c68))), 39853⟩
theorem k155_38611_ok : KeyOK Tryz.prog tabG k155_38611 := KeyOK.of y2_ok hpl mix 100000 (by kernel_rfl) (by kernel_rfl : knownB Tryz.prog tabG plans Y2 100000 k155_38611 = true)
/-- (*ratchet/world.World).step -/
noncomputable def k67_43273 : Key := ⟨67, [.ptr 6079 0, nb 4, ni 3], (aj c71 (aj c60 (aj c58 (aj c72 (aj c73 (aj c32 (aj c43 (aj c34 (aj c35 (aj c74 (aj c75 (aj c66 (aj c80 (aj [(5057, dB129)] (aj c70 (aj c76 (aj c77 (aj c40 (aj c78 c81))))))))))))))))))), 43273, ni 0, (aj c115 (aj c60 (aj c58 (aj c72 (aj c73 (aj c32 (aj c43 (aj c34 (aj c35 (aj c74 (aj c75 (aj c66 (aj c116 (aj c70 (aj c117 (aj c77 (aj c40 (aj c78 [(36542, dB98), (38521, dB113), (38631, dB68), (40565, dB139), (40567, dB124), (41824, dB131), (41828, dB132), (42018, dB114), (43422, dB145), (43485, dB132), (43488, .buf q46 14), (43511, dB114)])))))))))))))))))), 43562⟩
theorem k67_43273_ok : KeyOK Tryz.prog tabG k67_43273 := KeyOK.of y2_ok hpl mix 100000 (by kernel_rfl) (by kernel_rfl : knownB Tryz.prog tabG plans Y2 100000 k67_43273 = true)
end Go.Proofs.YthdggndldnefpaaGreatDoor
