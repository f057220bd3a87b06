/-
  Some calls of the anchor, reckoned by themselves. Conditions: none beside what ratchet/sha.table holds.
-/
import Derived.Test.YthdggndldnefpaaGreatDoorWoY2
namespace Go.Proofs.YthdggndldnefpaaGreatDoor
open Go.RowKit Go.Sx Go.Ev
set_option linter.unusedVariables false
set_option linter.unusedSimpArgs false
set_option linter.unnecessarySimpa false
set_option maxRecDepth 100000
/-- ratchet/book.Open -/
noncomputable def k85_1363 : Key := ⟨85, [.ptr 12 0, ni 20, ni 8192], c0, 1363, .tup [.ptr 2014 0, fl, ni 0], [(10, dB3), (11, dB3), (12, dB0), (2014, dB4)], 2026⟩
theorem k85_1363_ok : KeyOK Tryz.prog tabG k85_1363 := KeyOK.of y2_ok hpl mix 100000 (by kernel_rfl) (by kernel_rfl : knownB Tryz.prog tabG plans Y2 100000 k85_1363 = true)
/-- ratchet/book.Open -/
noncomputable def k85_3386 : Key := ⟨85, [.ptr 2035 0, ni 20, ni 8192], (aj c5 [(2035, dB5)]), 3386, .tup [.ptr 4037 0, fl, ni 0], [(2033, dB3), (2034, dB3), (2035, dB5), (4037, dB7)], 4049⟩
theorem k85_3386_ok : KeyOK Tryz.prog tabG k85_3386 := KeyOK.of y2_ok hpl mix 100000 (by kernel_rfl) (by kernel_rfl : knownB Tryz.prog tabG plans Y2 100000 k85_3386 = true)
/-- ratchet/book.Open -/
noncomputable def k85_5409 : Key := ⟨85, [.ptr 4058 0, ni 20, ni 8192], c10, 5409, .tup [.ptr 6060 0, fl, ni 0], (aj c89 [(6060, dB10)]), 6072⟩
theorem k85_5409_ok : KeyOK Tryz.prog tabG k85_5409 := KeyOK.of y2_ok hpl mix 100000 (by kernel_rfl) (by kernel_rfl : knownB Tryz.prog tabG plans Y2 100000 k85_5409 = true)
/-- (*ratchet/world.World).wake -/
noncomputable def k34_6396 : Key := ⟨34, [.ptr 6079 0], (aj c44 (aj c45 (aj c46 (aj c20 (aj c21 (aj c22 (aj c23 (aj c24 (aj c25 (aj c26 (aj c27 c47))))))))))), 6396, ni 0, (aj c44 (aj c45 (aj c46 (aj c20 (aj c21 (aj c22 (aj c23 (aj c24 (aj c25 (aj c26 (aj c27 c47))))))))))), 10127⟩
theorem k34_6396_ok : KeyOK Tryz.prog tabG k34_6396 := KeyOK.of y2_ok hpl mix 100000 (by kernel_rfl) (by kernel_rfl : knownB Tryz.prog tabG plans Y2 100000 k34_6396 = true)
/-- (*ratchet/replica.Replica).Take -/
noncomputable def k143_14603 : Key := ⟨143, [.ptr 1007 0, .agg q0], (aj c90 (aj c45 c91)), 14603, ni 0, (aj c92 (aj c17 (aj c93 c29))), 15914⟩
theorem k143_14603_ok : KeyOK Tryz.prog tabG k143_14603 := KeyOK.of y2_ok hpl mix 100000 (by kernel_rfl) (by kernel_rfl : knownB Tryz.prog tabG plans Y2 100000 k143_14603 = true)
/-- (*ratchet/replica.Replica).Take -/
noncomputable def k143_19397 : Key := ⟨143, [.ptr 3030 0, .agg q0], (aj c48 (aj c20 (aj c21 (aj c22 [(3051, dB31), (3052, dB47), (3054, dB48), (3055, .map [] 0), (3056, .cells [ni 3, .mp 3055]), (3058, dB81)])))), 19397, ni 0, (aj c48 (aj c94 (aj c51 (aj c52 (aj c53 c95))))), 20708⟩
theorem k143_19397_ok : KeyOK Tryz.prog tabG k143_19397 := KeyOK.of y2_ok hpl mix 100000 (by kernel_rfl) (by kernel_rfl : knownB Tryz.prog tabG plans Y2 100000 k143_19397 = true)
/-- (*ratchet/replica.Replica).Take -/
noncomputable def k143_22989 : Key := ⟨143, [.ptr 5053 0, .agg q0], (aj c96 (aj c26 (aj c27 [(5057, dB26), (5058, dB54), (5059, .map [] 0), (5060, dB55), (5061, dB29), (5062, dB56), (5063, .cells [nu 0]), (5064, dB31), (5065, dB57), (5068, .cells [nu 0]), (5069, dB31), (5070, dB58), (5073, .cells [nu 0]), (5074, dB31), (5075, dB59), (5077, dB60), (5078, .map [] 0), (5079, .cells [ni 3, .mp 5078]), (5081, dB81)]))), 22989, ni 0, (aj c96 (aj c26 (aj c27 [(5057, dB88), (5058, dB54), (5059, dB70), (5060, dB89), (5061, dB29), (5062, dB90), (5063, .cells [nu 0]), (5064, dB73), (5065, dB57), (5068, .cells [nu 0]), (5069, dB31), (5070, dB58), (5073, .cells [nu 0]), (5074, dB31), (5075, dB59), (5077, dB60), (5078, .map [] 0), (5079, .cells [ni 3, .mp 5078]), (5081, dB81), (23803, .buf [ni 0, ni 0] 2), (23807, dB74), (24185, dB68), (24187, .buf [nu 1] 1)]))), 24300⟩
theorem k143_22989_ok : KeyOK Tryz.prog tabG k143_22989 := KeyOK.of y2_ok hpl mix 100000 (by kernel_rfl) (by kernel_rfl : knownB Tryz.prog tabG plans Y2 100000 k143_22989 = true)
/-- (*ratchet/durable.Durable).make -/
noncomputable def k156_27516 : Key := ⟨156, [.ptr 3015 0, .agg q51], (aj c97 (aj c49 (aj c50 (aj c51 (aj c52 (aj c98 (aj [(3384, dB49), (4037, dB87), (20211, .buf [ni 0, ni 0] 2)] c54))))))), 27516, .tup [.agg q12, ni 0], (aj [(2033, dB99)] (aj c56 (aj c49 (aj c55 (aj c34 (aj c35 (aj [(3258, .cells []), (3384, dB101), (4037, dB102), (20215, dB74), (20593, dB68), (20595, .buf [nu 1] 1), (26291, dB68), (28227, dB103), (28229, dB93)] c40))))))), 29595⟩
theorem k156_27516_ok : KeyOK Tryz.prog tabG k156_27516 := KeyOK.of y2_ok hpl mix 100000 (by kernel_rfl) (by kernel_rfl : knownB Tryz.prog tabG plans Y2 100000 k156_27516 = true)
/-- (*ratchet/replica.Replica).Hear -/
noncomputable def k166_31321 : Key := ⟨166, [.ptr 1007 0, .agg (ap [ni 2, ni 1, nu 1, nu 1] (ap (rp 9 (nu 0)) [.sl 31052 0 1 0 false]))], (aj c92 (aj c17 (aj c93 [(15799, dB68), (15801, .buf [nu 1] 1), (31052, dB98)]))), 31321, .tup [.sl 33317 0 1 0 false, ni 0], (aj c59 (aj c60 (aj c58 (aj c61 [(15799, dB68), (15801, .buf [nu 1] 1), (31052, dB98), (33207, dB97), (33211, dB98), (33317, dB98)])))), 33323⟩
theorem k166_31321_ok : KeyOK Tryz.prog tabG k166_31321 := KeyOK.of y2_ok hpl mix 100000 (by kernel_rfl) (by kernel_rfl : knownB Tryz.prog tabG plans Y2 100000 k166_31321 = true)
end Go.Proofs.YthdggndldnefpaaGreatDoor
