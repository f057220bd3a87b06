/-
  Some calls of the anchor, reckoned by themselves. Conditions: none beside what ratchet/sha.table holds.
-/
import Derived.Test.YtahmejhidelkbaaGreatDoorDrY1
namespace Go.Proofs.YtahmejhidelkbaaGreatDoor
open Go.RowKit Go.Sx Go.Ev
set_option linter.unusedVariables false
set_option linter.unusedSimpArgs false
set_option linter.unnecessarySimpa false
set_option maxRecDepth 100000
/-- (*ratchet/world.World).Do -/
noncomputable def k12_14223 : Key := ⟨12, [.ptr 6079 0, .agg q113], (aj c81 (aj c82 (aj c70 (aj c71 (aj c72 (aj c73 (aj c74 (aj c26 (aj c75 c83))))))))), 14223, .agg q125, (aj c81 (aj c84 (aj c70 (aj c71 (aj c72 (aj c73 (aj c74 (aj c26 (aj c75 c83))))))))), 15395⟩
theorem k12_14223_ok : KeyOK Tryz.prog tabG k12_14223 := KeyOK.of y1_ok hpl mix 100000 (by kernel_rfl) (by kernel_rfl : knownB Tryz.prog tabG plans Y1 100000 k12_14223 = true)
/-- (*ratchet/world.World).Do -/
noncomputable def k12_17082 : Key := ⟨12, [.ptr 6079 0, .agg q114], (aj c85 (aj c84 (aj c70 (aj c71 (aj c72 (aj c73 (aj c74 (aj c26 c86)))))))), 17082, .agg q125, (aj c85 (aj c84 (aj c70 (aj c71 (aj c72 (aj c73 (aj c74 (aj c26 c87)))))))), 18254⟩
theorem k12_17082_ok : KeyOK Tryz.prog tabG k12_17082 := KeyOK.of y1_ok hpl mix 100000 (by kernel_rfl) (by kernel_rfl : knownB Tryz.prog tabG plans Y1 100000 k12_17082 = true)
/-- (*ratchet/world.World).Do -/
noncomputable def k12_19898 : Key := ⟨12, [.ptr 6079 0, .agg q113], (aj c88 (aj c84 (aj c70 (aj c71 (aj c72 (aj c73 (aj c74 (aj c26 c87)))))))), 19898, .agg q125, (aj c88 (aj c84 (aj c70 (aj c71 (aj c72 (aj c73 (aj c74 (aj c26 c87)))))))), 21070⟩
theorem k12_19898_ok : KeyOK Tryz.prog tabG k12_19898 := KeyOK.of y1_ok hpl mix 100000 (by kernel_rfl) (by kernel_rfl : knownB Tryz.prog tabG plans Y1 100000 k12_19898 = true)
/-- (*ratchet/world.World).Do -/
noncomputable def k12_22648 : Key := ⟨12, [.ptr 6079 0, .agg q114], (aj c88 (aj c84 (aj c70 (aj c71 (aj c72 (aj c73 (aj c74 (aj c26 c87)))))))), 22648, .agg q125, (aj c88 (aj c84 (aj c70 (aj c71 (aj c72 (aj c73 (aj c74 (aj c26 c87)))))))), 23820⟩
theorem k12_22648_ok : KeyOK Tryz.prog tabG k12_22648 := KeyOK.of y1_ok hpl mix 100000 (by kernel_rfl) (by kernel_rfl : knownB Tryz.prog tabG plans Y1 100000 k12_22648 = true)
/-- (*ratchet/replica.Replica).Take -/
noncomputable def k145_27869 : Key := ⟨145, [.ptr 3030 0, .agg q86], (aj c89 (aj c90 (aj c70 (aj c71 [(3051, dB31), (3052, dB47), (3054, dB48), (3055, .map [] 0), (3056, .cells [ni 3, .mp 3055]), (3058, dB36), (14194, dB76)])))), 27869, ni 0, (aj c89 (aj c91 (aj c92 (aj c93 (aj [(3050, .cells [nu 0])] c94))))), 28517⟩
theorem k145_27869_ok : KeyOK Tryz.prog tabG k145_27869 := KeyOK.of y1_ok hpl mix 100000 (by kernel_rfl) (by kernel_rfl : knownB Tryz.prog tabG plans Y1 100000 k145_27869 = true)
/-- (*ratchet/world.World).Do -/
noncomputable def k12_28544 : Key := ⟨12, [.ptr 6079 0, .agg q113], (aj c95 (aj c91 (aj c92 (aj c93 (aj [(3050, .cells [nu 0])] (aj c96 (aj c74 (aj c26 c97)))))))), 28544, .agg q125, (aj c95 (aj c98 (aj c92 (aj c93 (aj [(3050, .cells [nu 0])] (aj c96 (aj c74 (aj c26 c97)))))))), 29719⟩
theorem k12_28544_ok : KeyOK Tryz.prog tabG k12_28544 := KeyOK.of y1_ok hpl mix 100000 (by kernel_rfl) (by kernel_rfl : knownB Tryz.prog tabG plans Y1 100000 k12_28544 = true)
/-- (*ratchet/replica.Replica).Take -/
noncomputable def k145_31091 : Key := ⟨145, [.ptr 5053 0, .agg q86], (aj c99 (aj c26 [(5052, dB77), (5053, dB78), (5057, dB26), (5058, dB54), (5059, .map [] 0), (5060, dB55), (5061, dB29), (5062, dB56), (5063, .cells [nu 0]), (5064, dB31), (5065, dB57), (5068, .cells [nu 0]), (5069, dB31), (5070, dB58), (5073, .cells [nu 0]), (5074, dB31), (5075, dB59), (5077, dB60), (5078, .map [] 0), (5079, .cells [ni 3, .mp 5078]), (5081, dB95), (17053, dB76)])), 31091, ni 0, (aj c99 (aj c26 [(5052, dB77), (5053, dB78), (5057, dB96), (5058, dB54), (5059, .map [] 0), (5060, dB55), (5061, dB97), (5062, dB98), (5063, .cells [nu 0]), (5064, dB31), (5065, dB57), (5068, .cells [nu 0]), (5069, dB31), (5070, dB99), (5073, .cells [nu 0]), (5074, dB31), (5075, dB59), (5077, dB60), (5078, .map [] 0), (5079, .cells [ni 3, .mp 5078]), (5081, dB95), (17053, dB76), (31666, .buf [ni 1, ni 0] 2), (31670, dB87), (31706, .buf [nu 1, nu 1] 2)])), 31739⟩
theorem k145_31091_ok : KeyOK Tryz.prog tabG k145_31091 := KeyOK.of y1_ok hpl mix 100000 (by kernel_rfl) (by kernel_rfl : knownB Tryz.prog tabG plans Y1 100000 k145_31091 = true)
/-- (*ratchet/replica.Replica).Take -/
noncomputable def k145_36007 : Key := ⟨145, [.ptr 5053 0, .agg q85], (aj c99 (aj c26 [(5052, dB82), (5053, dB78), (5057, dB96), (5058, dB54), (5059, .map [] 0), (5060, dB55), (5061, dB97), (5062, dB98), (5063, .cells [nu 0]), (5064, dB31), (5065, dB57), (5068, .cells [nu 0]), (5069, dB31), (5070, dB99), (5073, .cells [nu 0]), (5074, dB31), (5075, dB59), (5077, dB60), (5078, .map [] 0), (5079, .cells [ni 3, .mp 5078]), (5081, dB95), (17053, dB76), (31666, .buf [ni 1, ni 0] 2), (31670, dB87), (31706, .buf [nu 1, nu 1] 2)])), 36007, ni 0, (aj c99 (aj c26 (aj [(5052, dB82), (5053, dB78), (5057, dB101), (5058, dB54), (5059, .map [] 0), (5060, dB55), (5061, dB102), (5062, dB103), (5063, .cells [nu 0]), (5064, dB31), (5065, dB57), (5068, .cells [nu 0]), (5069, dB31), (5070, dB99), (5073, .cells [nu 0]), (5074, dB31), (5075, dB104), (5077, dB60), (5078, .map [] 0), (5079, .cells [ni 3, .mp 5078]), (5081, dB95), (17053, dB76), (31670, dB87), (31706, .buf [nu 1, nu 1] 2)] c100))), 36655⟩
theorem k145_36007_ok : KeyOK Tryz.prog tabG k145_36007 := KeyOK.of y1_ok hpl mix 100000 (by kernel_rfl) (by kernel_rfl : knownB Tryz.prog tabG plans Y1 100000 k145_36007 = true)
/-- (*ratchet/world.World).Do -/
noncomputable def k12_36682 : Key := ⟨12, [.ptr 6079 0, .agg q114], (aj c95 (aj c98 (aj c92 (aj c93 (aj [(3050, .cells [nu 0])] (aj c101 (aj c25 (aj c26 (aj [(5052, dB82), (5053, dB78), (5057, dB101), (5058, dB54), (5059, .map [] 0), (5060, dB55), (5061, dB102), (5062, dB103), (5063, .cells [nu 0]), (5064, dB31), (5065, dB57), (5068, .cells [nu 0]), (5069, dB31), (5070, dB99), (5073, .cells [nu 0]), (5074, dB31), (5075, dB104), (5077, dB60), (5078, .map [] 0), (5079, .cells [ni 3, .mp 5078]), (5081, dB95), (5159, dB110), (5407, dB111), (6060, dB112), (6076, .cells [.ptr 4058 0, .ptr 5038 0]), (6078, dB62), (6079, dB65), (14194, dB76), (17053, dB76), (27264, dB92), (27266, dB81), (28444, .buf [ni 1, ni 0] 2), (28448, dB87), (28484, .buf [nu 1, nu 1] 2)] (aj c28 c29)))))))))), 36682, .agg q125, (aj c95 (aj c98 (aj c92 (aj c93 (aj [(3050, .cells [nu 0])] (aj c101 (aj c25 (aj c26 (aj c102 (aj c28 c29)))))))))), 37860⟩
theorem k12_36682_ok : KeyOK Tryz.prog tabG k12_36682 := KeyOK.of y1_ok hpl mix 100000 (by kernel_rfl) (by kernel_rfl : knownB Tryz.prog tabG plans Y1 100000 k12_36682 = true)
/-- (*ratchet/replica.Replica).Take -/
noncomputable def k145_39271 : Key := ⟨145, [.ptr 3030 0, .agg q85], (aj c103 (aj c98 (aj c92 (aj c93 [(3050, .cells [nu 0]), (3051, dB31), (3052, dB47), (3054, dB48), (3055, .map [] 0), (3056, .cells [ni 3, .mp 3055]), (3058, dB115), (14194, dB76), (28444, .buf [ni 1, ni 0] 2), (28448, dB87), (28484, .buf [nu 1, nu 1] 2)])))), 39271, ni 0, (aj c103 (aj c104 (aj c105 (aj c93 (aj [(3050, .cells [nu 0])] (aj c106 (aj c107 c108))))))), 39919⟩
theorem k145_39271_ok : KeyOK Tryz.prog tabG k145_39271 := KeyOK.of y1_ok hpl mix 100000 (by kernel_rfl) (by kernel_rfl : knownB Tryz.prog tabG plans Y1 100000 k145_39271 = true)
/-- (*ratchet/usig.Usig).Next -/
noncomputable def k301_43351 : Key := ⟨301, [.ptr 3384 0, .sl 43350 0 117 0 false], [(2033, dB120), (2034, dB120), (2035, dB5), (3136, dB89), (3384, dB90), (27264, dB92), (27266, dB81), (43350, dB124)], 43351, .tup [nu 2, .agg (b8 [144, 253, 54, 101, 121, 31, 209, 6, 97, 212, 89, 164, 66, 241, 143, 3, 29, 234, 37, 6, 197, 239, 99, 29, 56, 51, 172, 39, 71, 130, 163, 46]), ni 0], [(2033, dB125), (2034, dB125), (2035, dB5), (3136, dB126), (3384, dB127), (27264, dB92), (27266, dB81), (43350, dB124), (43754, dB123), (43756, dB124)], 43989⟩
theorem k301_43351_ok : KeyOK Tryz.prog tabG k301_43351 := KeyOK.of y1_ok hpl mix 100000 (by kernel_rfl) (by kernel_rfl : knownB Tryz.prog tabG plans Y1 100000 k301_43351 = true)
end Go.Proofs.YtahmejhidelkbaaGreatDoor
