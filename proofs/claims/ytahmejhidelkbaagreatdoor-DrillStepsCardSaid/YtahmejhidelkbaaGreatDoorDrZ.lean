/-
  Several texts in one.
  Some calls of the anchor, reckoned by themselves. Conditions: none beside what ratchet/sha.table holds.
  What is known by now. Conditions: none.
  Some calls of the anchor, reckoned by themselves. Conditions: none beside what ratchet/sha.table holds.
  What is known by now. Conditions: none.
  Some calls of the anchor, reckoned by themselves. Conditions: none beside what ratchet/sha.table holds.
  What is known by now. Conditions: none.
  Some calls of the anchor, reckoned by themselves. Conditions: none beside what ratchet/sha.table holds.
  What is known by now. Conditions: none.
  Some calls of the anchor, reckoned by themselves. Conditions: none beside what ratchet/sha.table holds.
  What is known by now. Conditions: none.
-/
import Derived.Test.YtahmejhidelkbaaGreatDoorDrY4
import Derived.Test.YtahmejhidelkbaaGreatDoorEvU
/-! DrK5a -/
namespace Go.Proofs.YtahmejhidelkbaaGreatDoor
open Go.RowKit Go.Sx Go.Ev
set_option linter.unusedVariables false
set_option linter.unusedSimpArgs false
set_option linter.unnecessarySimpa false
set_option maxRecDepth 100000
/-- (*ratchet/drill.calm).round -/
noncomputable def k25_24010 : Key := ⟨25, [.ptr 10269 0], (aj c88 (aj c84 (aj c70 (aj c71 (aj c72 (aj c73 (aj c74 (aj c26 (aj c170 c171))))))))), 24010, .tup [], (aj c180 (aj c104 (aj c105 (aj c93 (aj [(3050, .cells [nu 0]), (3051, dB31), (3052, dB119), (3054, dB48), (3055, .map [] 0), (3056, .cells [ni 3, .mp 3055]), (3058, dB115), (3136, dB89), (3258, .cells []), (3384, dB90), (4037, dB121)] (aj c144 (aj c25 (aj c26 (aj [(5052, dB114), (5053, dB78), (5057, dB101), (5058, dB54), (5059, .map [] 0), (5060, dB55), (5061, dB102), (5062, dB103), (5063, .cells [nu 0]), (5064, dB31), (5065, dB57), (5068, .cells [nu 0]), (5069, dB31), (5070, dB99), (5073, .cells [nu 0]), (5074, dB31), (5075, dB104), (5077, dB60), (5078, .map [] 0), (5079, .cells [ni 3, .mp 5078]), (5081, dB95), (5159, dB110), (5281, .cells []), (5407, dB111), (6060, dB112), (6076, .cells [.ptr 4058 0, .ptr 5038 0]), (6078, dB62), (6079, dB65), (10269, dB79)] (aj c182 (aj c28 (aj c29 (aj c107 c108))))))))))))), 40366⟩
theorem k25_24010_ok : KeyOK Tryz.prog tabG k25_24010 := KeyOK.of y4_ok hpl mix 100000 (by kernel_rfl) (by kernel_rfl : knownB Tryz.prog tabG plans Y4 100000 k25_24010 = true)
/-- (*ratchet/cluster.Cluster).say -/
noncomputable def k96_45524 : Key := ⟨96, [.ptr 1 0, .agg q113, .ptr 3015 0, .ptr 45517 0], (aj c172 (aj [(2034, dB130)] (aj c126 (aj c127 (aj c128 (aj c131 (aj c173 (aj c25 (aj c26 (aj c27 (aj c28 (aj c29 [(39850, dB106), (39886, .buf [nu 1, nu 1] 2), (43754, dB123), (43756, dB124), (45276, dB137), (45280, dB128), (45282, dB138), (45391, .buf [nu 0, nu 1] 1), (45392, .map [] 0), (45393, dB139), (45517, dB154)])))))))))))), 45524, .tup [], (aj c19 (aj c20 (aj c21 (aj c22 (aj c23 (aj c24 (aj c25 (aj c26 (aj c27 (aj c28 (aj c29 (aj [(39850, dB106), (39886, .buf [nu 1, nu 1] 2), (43754, dB123), (43756, dB124), (45280, dB128), (45391, .buf [nu 0, nu 1] 1), (45392, dB145), (45393, dB146), (45517, .cells (ap [ni 0, ni 0, nu 0, nb 0, fs, fs, fs, fs, nu 0] (ap (z8 32) (ap [ni 2, nu 3, nu 0, nu 2, nu 1] (ap (rp 8 (nu 0)) (ap q99 (ap (z8 32) (ap (b8 [65, 77, 127, 71, 178, 184, 129, 155, 127, 177, 69, 246, 98, 255, 173, 167, 20, 34, 101, 50, 213, 226, 225, 7, 46, 244, 46, 65, 168, 205, 98, 56]) [fl])))))))), (47761, dB153), (47763, dB141)] c174)))))))))))), 49838⟩
theorem k96_45524_ok : KeyOK Tryz.prog tabG k96_45524 := KeyOK.of y4_ok hpl mix 100000 (by kernel_rfl) (by kernel_rfl : knownB Tryz.prog tabG plans Y4 100000 k96_45524 = true)
/-- (*ratchet/replica.Replica).Hear -/
noncomputable def k231_69294 : Key := ⟨231, [.ptr 3030 0, .agg q214], (aj c103 (aj c20 (aj c21 (aj c22 (aj c23 (aj c109 [(39850, dB106), (39886, .buf [nu 1, nu 1] 2), (45280, dB128), (45391, .buf [nu 0, nu 1] 1), (45392, dB145), (45393, dB146), (49341, dB147), (49345, dB148), (49723, dB76), (49725, .buf [nu 3] 1), (69138, dB200)])))))), 69294, .tup [.sl 73730 0 2 0 false, ni 0], (aj c120 (aj c47 (aj c48 (aj c23 [(3051, dB144), (3052, dB204), (3054, dB48), (3055, .map [] 0), (3056, .cells [ni 3, .mp 3055]), (3058, dB202), (14194, dB76), (28484, .buf [nu 1, nu 1] 2), (39886, .buf [nu 1, nu 1] 2), (45280, dB128), (45391, .buf [nu 0, nu 1] 1), (45392, dB145), (45393, dB146), (49345, dB148), (49723, dB76), (49725, .buf [nu 3] 1), (69138, dB200), (72325, .buf [nu 0, nu 1] 1), (73620, dB179), (73624, dB180), (73730, dB200)])))), 73736⟩
theorem k231_69294_ok : KeyOK Tryz.prog tabG k231_69294 := KeyOK.of y4_ok hpl mix 100000 (by kernel_rfl) (by kernel_rfl : knownB Tryz.prog tabG plans Y4 100000 k231_69294 = true)
/-- (*ratchet/wait.Wait).Next -/
noncomputable def k307_53590 : Key := ⟨307, [.ptr 5045 0, .ptr 5057 0], [(5044, .map [((.agg #[(.int .i64 (2)), (.int .u64 (2))]), .agg q81, 1), ((.agg #[(.int .i64 (2)), (.int .u64 (3))]), .agg q69, 2)] 3), (5045, .cells [.mp 5044]), (5057, dB101), (31670, dB87), (36582, dB105), (36586, dB106), (52773, dB128)], 53590, .tup [.agg q81, bt], [(5044, .map [((.agg #[(.int .i64 (2)), (.int .u64 (3))]), .agg q69, 2)] 3), (5045, .cells [.mp 5044]), (5057, dB101), (31670, dB87), (36582, dB105), (36586, dB106), (52773, dB128)], 55181⟩
theorem k307_53590_ok : KeyOK Tryz.prog tabG k307_53590 := KeyOK.of y4_ok hpl mix 100000 (by kernel_rfl) (by kernel_rfl : knownB Tryz.prog tabG plans Y4 100000 k307_53590 = true)
end Go.Proofs.YtahmejhidelkbaaGreatDoor

/-! DrY5 -/
namespace Go.Proofs.YtahmejhidelkbaaGreatDoor
open Go.RowKit Go.Sx Go.Ev
set_option linter.unusedVariables false
set_option linter.unusedSimpArgs false
set_option linter.unnecessarySimpa false
set_option maxRecDepth 100000
noncomputable def tab5 : List Key := [k25_24010, k96_45524, k231_69294, k307_53590]
theorem tab5_ok : ∀ e ∈ tab5, KeyOK Tryz.prog tabG e := by
  intro e he
  simp only [tab5, List.mem_cons, List.not_mem_nil, or_false] at he
  rcases he with rfl | rfl | rfl | rfl
  · exact k25_24010_ok
  · exact k96_45524_ok
  · exact k231_69294_ok
  · exact k307_53590_ok
noncomputable def tall5 : List Key := tab5 ++ tall4
theorem tall5_ok : ∀ e ∈ tall5, KeyOK Tryz.prog tabG e := by
  intro e he
  simp only [tall5, List.mem_append] at he
  rcases he with he | he
  · exact tab5_ok e he
  · exact tall4_ok e he
noncomputable def Y5 : Specs := withAll Tryz.prog tabG plans XW0 100000 (fun g => Nat.beq g 307) tall5 10
theorem y5_ok : SpecsOK Tryz.prog tabG Y5 := withAll_ok xw0_ok hpl mix 100000 _ tall5_ok 10
end Go.Proofs.YtahmejhidelkbaaGreatDoor

/-! DrK6a -/
namespace Go.Proofs.YtahmejhidelkbaaGreatDoor
open Go.RowKit Go.Sx Go.Ev
set_option linter.unusedVariables false
set_option linter.unusedSimpArgs false
set_option linter.unnecessarySimpa false
set_option maxRecDepth 100000
/-- (*ratchet/replica.Replica).Hear -/
noncomputable def k231_51992 : Key := ⟨231, [.ptr 5053 0, .agg q215], (aj c99 (aj c26 (aj [(5052, dB114), (5053, dB78), (5057, dB101), (5058, dB54), (5059, .map [] 0), (5060, dB55), (5061, dB102), (5062, dB103), (5063, .cells [nu 0]), (5064, dB31), (5065, dB57), (5068, .cells [nu 0]), (5069, dB31), (5070, dB99), (5073, .cells [nu 0]), (5074, dB31), (5075, dB104), (5077, dB60), (5078, .map [] 0), (5079, .cells [ni 3, .mp 5078]), (5081, dB95), (17053, dB76), (31670, dB87), (31706, .buf [nu 1, nu 1] 2)] (aj c100 [(51875, dB155), (51878, dB128)])))), 51992, .tup [.sl 58298 0 2 0 false, ni 0], (aj c111 (aj c26 (aj [(5052, dB114), (5053, dB78), (5057, dB159), (5058, dB156), (5059, .map [] 0), (5060, dB55), (5061, dB102), (5062, dB160), (5063, .cells [nu 0]), (5064, dB31), (5065, dB57), (5068, .cells [nu 0]), (5069, dB144), (5070, dB157), (5073, .cells [nu 0]), (5074, dB31), (5075, dB104), (5077, dB60), (5078, .map [] 0), (5079, .cells [ni 3, .mp 5078]), (5081, dB158), (17053, dB76), (31706, .buf [nu 1, nu 1] 2)] (aj c113 [(51875, dB155), (51878, dB128), (52773, dB128), (55960, dB128), (56071, .buf [nu 0, nu 1] 1), (56072, dB145), (56073, dB161), (57800, dB147), (57804, dB162), (58182, dB76), (58184, .buf [nu 3] 1), (58298, dB163)])))), 58304⟩
theorem k231_51992_ok : KeyOK Tryz.prog tabG k231_51992 := KeyOK.of y5_ok hpl mix 100000 (by kernel_rfl) (by kernel_rfl : knownB Tryz.prog tabG plans Y5 100000 k231_51992 = true)
/-- (*ratchet/world.World).Do -/
noncomputable def k12_69277 : Key := ⟨12, [.ptr 6079 0, .agg q117], (aj c157 (aj c20 (aj c21 (aj c22 (aj c23 (aj c41 (aj c42 (aj c117 (aj c43 (aj c44 (aj [(39850, dB106)] (aj c30 (aj c151 (aj c183 [(69226, .buf q214 14)])))))))))))))), 69277, .agg q124, (aj c177 (aj [(2034, dB207)] (aj c50 (aj c47 (aj c48 (aj c23 (aj c184 (aj c42 (aj c117 (aj c43 (aj c44 (aj c30 (aj c118 (aj c183 [(69226, .buf q214 14), (72325, .buf [nu 0, nu 1] 1), (73620, dB179), (73624, dB180)])))))))))))))), 74651⟩
theorem k12_69277_ok : KeyOK Tryz.prog tabG k12_69277 := KeyOK.of y5_ok hpl mix 100000 (by kernel_rfl) (by kernel_rfl : knownB Tryz.prog tabG plans Y5 100000 k12_69277 = true)
end Go.Proofs.YtahmejhidelkbaaGreatDoor

/-! DrY6 -/
namespace Go.Proofs.YtahmejhidelkbaaGreatDoor
open Go.RowKit Go.Sx Go.Ev
set_option linter.unusedVariables false
set_option linter.unusedSimpArgs false
set_option linter.unnecessarySimpa false
set_option maxRecDepth 100000
noncomputable def tab6 : List Key := [k231_51992, k12_69277]
theorem tab6_ok : ∀ e ∈ tab6, KeyOK Tryz.prog tabG e := by
  intro e he
  simp only [tab6, List.mem_cons, List.not_mem_nil, or_false] at he
  rcases he with rfl | rfl
  · exact k231_51992_ok
  · exact k12_69277_ok
noncomputable def tall6 : List Key := tab6 ++ tall5
theorem tall6_ok : ∀ e ∈ tall6, KeyOK Tryz.prog tabG e := by
  intro e he
  simp only [tall6, List.mem_append] at he
  rcases he with he | he
  · exact tab6_ok e he
  · exact tall5_ok e he
noncomputable def Y6 : Specs := withAll Tryz.prog tabG plans XW0 100000 (fun g => Nat.beq g 307) tall6 10
theorem y6_ok : SpecsOK Tryz.prog tabG Y6 := withAll_ok xw0_ok hpl mix 100000 _ tall6_ok 10
end Go.Proofs.YtahmejhidelkbaaGreatDoor

/-! DrK7a -/
namespace Go.Proofs.YtahmejhidelkbaaGreatDoor
open Go.RowKit Go.Sx Go.Ev
set_option linter.unusedVariables false
set_option linter.unusedSimpArgs false
set_option linter.unnecessarySimpa false
set_option maxRecDepth 100000
/-- (*ratchet/world.World).Do -/
noncomputable def k12_51975 : Key := ⟨12, [.ptr 6079 0, .agg q117], (aj [(0, .cells (ap [.sl 51936 0 1 0 false] (rp 144 (.bool false)))), (1, dB140), (2, dB64), (3, dB13), (4, dB14), (5, dB15), (6, dB16), (7, dB17), (8, dB18), (9, dB19), (10, dB3), (11, dB3), (12, dB72), (2030, dB73), (2033, dB149), (2034, dB149), (2035, dB5), (3015, dB38), (3021, .map [] 1), (3022, .cells [.mp 3021]), (3023, .map [] 0), (3024, .cells [.mp 3023])] (aj c20 (aj c21 (aj c22 (aj c23 (aj c24 (aj c25 (aj c26 (aj [(5052, dB114), (5053, dB78), (5057, dB101), (5058, dB54), (5059, .map [] 0), (5060, dB55), (5061, dB102), (5062, dB103), (5063, .cells [nu 0]), (5064, dB31), (5065, dB57), (5068, .cells [nu 0]), (5069, dB31), (5070, dB99), (5073, .cells [nu 0]), (5074, dB31), (5075, dB104), (5077, dB60), (5078, .map [] 0), (5079, .cells [ni 3, .mp 5078]), (5081, dB95), (5159, dB110), (5407, dB111), (6060, dB112), (6076, .cells [.ptr 4058 0, .ptr 5038 0]), (6078, dB62), (6079, dB65), (14194, dB76), (17053, dB76), (28484, .buf [nu 1, nu 1] 2)] (aj c28 (aj c29 (aj [(39850, dB106)] (aj c30 c185))))))))))))), 51975, .agg q124, (aj c19 (aj c20 (aj c21 (aj c22 (aj c23 (aj c148 (aj c35 (aj c26 (aj [(5052, dB114), (5053, dB78), (5057, dB159), (5058, dB156), (5059, .map [] 0), (5060, dB55), (5061, dB102), (5062, dB160), (5063, .cells [nu 0]), (5064, dB31), (5065, dB57), (5068, .cells [nu 0]), (5069, dB144), (5070, dB157), (5073, .cells [nu 0]), (5074, dB31), (5075, dB104), (5077, dB60), (5078, .map [] 0), (5079, .cells [ni 3, .mp 5078]), (5081, dB158), (5159, dB110), (5407, dB111), (6060, dB165), (6076, .cells [.ptr 4058 0, .ptr 5038 0]), (6078, dB62), (6079, dB65), (14194, dB76), (17053, dB76), (28484, .buf [nu 1, nu 1] 2)] (aj c43 (aj c36 (aj [(39850, dB106)] (aj c30 (aj c185 c114)))))))))))))), 59430⟩
theorem k12_51975_ok : KeyOK Tryz.prog tabG k12_51975 := KeyOK.of y6_ok hpl mix 100000 (by kernel_rfl) (by kernel_rfl : knownB Tryz.prog tabG plans Y6 100000 k12_51975 = true)
end Go.Proofs.YtahmejhidelkbaaGreatDoor

/-! DrY7 -/
namespace Go.Proofs.YtahmejhidelkbaaGreatDoor
open Go.RowKit Go.Sx Go.Ev
set_option linter.unusedVariables false
set_option linter.unusedSimpArgs false
set_option linter.unnecessarySimpa false
set_option maxRecDepth 100000
noncomputable def tab7 : List Key := [k12_51975]
theorem tab7_ok : ∀ e ∈ tab7, KeyOK Tryz.prog tabG e := by
  intro e he
  simp only [tab7, List.mem_cons, List.not_mem_nil, or_false] at he
  rcases he with rfl
  · exact k12_51975_ok
noncomputable def tall7 : List Key := tab7 ++ tall6
theorem tall7_ok : ∀ e ∈ tall7, KeyOK Tryz.prog tabG e := by
  intro e he
  simp only [tall7, List.mem_append] at he
  rcases he with he | he
  · exact tab7_ok e he
  · exact tall6_ok e he
noncomputable def Y7 : Specs := withAll Tryz.prog tabG plans XW0 100000 (fun g => Nat.beq g 307) tall7 10
theorem y7_ok : SpecsOK Tryz.prog tabG Y7 := withAll_ok xw0_ok hpl mix 100000 _ tall7_ok 10
end Go.Proofs.YtahmejhidelkbaaGreatDoor

/-! DrK8a -/
namespace Go.Proofs.YtahmejhidelkbaaGreatDoor
open Go.RowKit Go.Sx Go.Ev
set_option linter.unusedVariables false
set_option linter.unusedSimpArgs false
set_option linter.unnecessarySimpa false
set_option maxRecDepth 100000
/-- (*ratchet/drill.calm).round -/
noncomputable def k25_40394 : Key := ⟨25, [.ptr 10269 0], (aj c180 (aj c104 (aj c105 (aj c93 (aj [(3050, .cells [nu 0])] (aj c125 (aj c144 (aj c25 (aj c26 (aj c141 (aj c182 (aj c28 (aj c29 (aj c107 c108)))))))))))))), 40394, .tup [], (aj c177 (aj [(2034, dB207)] (aj c50 (aj c47 (aj c48 (aj c186 (aj c184 (aj c42 (aj [(5047, .cells [.mp 5046]), (5048, dB189), (5049, dB191), (5050, dB192), (5051, dB193), (5052, dB194), (5053, dB199), (5057, dB178), (5058, dB156), (5059, .map [] 0), (5060, dB55), (5061, dB102), (5062, dB182), (5063, .cells [nu 0]), (5064, dB31), (5065, dB57), (5068, .cells [nu 0]), (5069, dB144), (5070, dB157), (5073, .cells [nu 0]), (5074, dB144), (5075, dB169), (5077, dB60), (5078, .map [] 0), (5079, .cells [ni 3, .mp 5078]), (5081, dB158), (5159, dB183), (5407, dB184), (6060, dB185), (6076, .cells [.ptr 4058 0, .ptr 5038 0]), (6078, dB62), (6079, dB187), (10269, dB79), (11564, .buf [ni 2, ni 3] 1), (14194, dB76), (17053, dB196), (27264, dB92), (27266, dB81), (28484, .buf [nu 1, nu 1] 2)] (aj c43 (aj c134 (aj c30 (aj c118 c119))))))))))))), 74651⟩
theorem k25_40394_ok : KeyOK Tryz.prog tabG k25_40394 := KeyOK.of y7_ok hpl mix 100000 (by kernel_rfl) (by kernel_rfl : knownB Tryz.prog tabG plans Y7 100000 k25_40394 = true)
end Go.Proofs.YtahmejhidelkbaaGreatDoor

/-! DrY8 -/
namespace Go.Proofs.YtahmejhidelkbaaGreatDoor
open Go.RowKit Go.Sx Go.Ev
set_option linter.unusedVariables false
set_option linter.unusedSimpArgs false
set_option linter.unnecessarySimpa false
set_option maxRecDepth 100000
noncomputable def tab8 : List Key := [k25_40394]
theorem tab8_ok : ∀ e ∈ tab8, KeyOK Tryz.prog tabG e := by
  intro e he
  simp only [tab8, List.mem_cons, List.not_mem_nil, or_false] at he
  rcases he with rfl
  · exact k25_40394_ok
noncomputable def tall8 : List Key := tab8 ++ tall7
theorem tall8_ok : ∀ e ∈ tall8, KeyOK Tryz.prog tabG e := by
  intro e he
  simp only [tall8, List.mem_append] at he
  rcases he with he | he
  · exact tab8_ok e he
  · exact tall7_ok e he
noncomputable def Y8 : Specs := withAll Tryz.prog tabG plans XW0 100000 (fun g => Nat.beq g 307) tall8 10
theorem y8_ok : SpecsOK Tryz.prog tabG Y8 := withAll_ok xw0_ok hpl mix 100000 _ tall8_ok 10
end Go.Proofs.YtahmejhidelkbaaGreatDoor

/-! DrK9a -/
namespace Go.Proofs.YtahmejhidelkbaaGreatDoor
open Go.RowKit Go.Sx Go.Ev
set_option linter.unusedVariables false
set_option linter.unusedSimpArgs false
set_option linter.unnecessarySimpa false
set_option maxRecDepth 100000
/-- ratchet/drill.Calm -/
noncomputable def k9_10269 : Key := ⟨9, [.ptr 6079 0, ni 3, .sl 10268 0 1 1 true, ni 500], (aj c123 (aj c67 (aj c68 (aj c69 (aj c70 (aj c71 (aj c72 (aj c73 (aj c74 (aj c26 (aj c75 [(5057, dB26), (5058, dB54), (5059, .map [] 0), (5060, dB55), (5061, dB29), (5062, dB56), (5063, .cells [nu 0]), (5064, dB31), (5065, dB57), (5068, .cells [nu 0]), (5069, dB31), (5070, dB58), (5073, .cells [nu 0]), (5074, dB31), (5075, dB59), (5077, dB60), (5078, .map [] 0), (5079, .cells [ni 3, .mp 5078]), (5081, dB36), (5159, dB9), (5281, .cells []), (5407, dB61), (6060, dB10), (6076, .cells [.ptr 4058 0, .ptr 5038 0]), (6078, dB62), (6079, dB65), (10226, dB70), (10268, .cells [ni 1])]))))))))))), 10269, .tup [ni 5, ni 0], (aj [(0, dB11), (1, dB209), (2, dB214), (3, dB13), (4, dB14), (5, dB15), (6, dB16), (7, dB17), (8, dB18), (9, dB19), (10, dB3), (11, dB3), (12, dB72), (992, dB20), (998, .map [] 0), (999, .cells [.mp 998]), (1000, .map [] 0), (1001, .cells [.mp 1000]), (1002, dB21), (1003, dB22), (1004, .map [] 0), (1005, dB23), (1006, dB24), (1007, dB25), (1011, dB26)] (aj c67 (aj [(1033, .cells [ni 3, .mp 1032]), (1035, dB36), (1113, dB2), (1235, .cells []), (1361, dB37), (2014, dB4), (2030, dB73), (2033, dB207), (2034, dB207)] (aj c52 (aj [(3025, dB189), (3026, dB210)] (aj c53 (aj c58 (aj c48 (aj c186 (aj [(3051, dB144), (3052, dB204), (3054, dB48), (3055, .map [] 0), (3056, .cells [ni 3, .mp 3055]), (3058, dB202), (3136, dB150), (3258, .cells []), (3384, dB151), (4037, dB208), (4053, .cells [.ptr 2035 0, .ptr 3015 0]), (4056, dB181), (4057, dB181), (4058, dB8)] (aj c42 (aj [(5047, .cells [.mp 5046]), (5048, dB189), (5049, dB191), (5050, dB192), (5051, dB193), (5052, dB194), (5053, dB199), (5057, dB178), (5058, dB156), (5059, .map [] 0), (5060, dB55), (5061, dB102), (5062, dB182), (5063, .cells [nu 0]), (5064, dB31), (5065, dB57), (5068, .cells [nu 0]), (5069, dB144), (5070, dB157), (5073, .cells [nu 0]), (5074, dB144), (5075, dB169), (5077, dB60), (5078, .map [] 0), (5079, .cells [ni 3, .mp 5078]), (5081, dB216), (5159, dB183), (5281, .cells []), (5407, dB184), (6060, dB185), (6076, .cells [.ptr 4058 0, .ptr 5038 0]), (6078, dB62), (6079, dB217), (10268, .cells [ni 1])] (aj c164 (aj c43 (aj c44 (aj c30 (aj c118 c178))))))))))))))))), 80145⟩
theorem k9_10269_ok : KeyOK Tryz.prog tabG k9_10269 := KeyOK.of y8_ok hpl mix 100000 (by kernel_rfl) (by kernel_rfl : knownB Tryz.prog tabG plans Y8 100000 k9_10269 = true)
end Go.Proofs.YtahmejhidelkbaaGreatDoor

/-! DrY9 -/
namespace Go.Proofs.YtahmejhidelkbaaGreatDoor
open Go.RowKit Go.Sx Go.Ev
set_option linter.unusedVariables false
set_option linter.unusedSimpArgs false
set_option linter.unnecessarySimpa false
set_option maxRecDepth 100000
noncomputable def tab9 : List Key := [k9_10269]
theorem tab9_ok : ∀ e ∈ tab9, KeyOK Tryz.prog tabG e := by
  intro e he
  simp only [tab9, List.mem_cons, List.not_mem_nil, or_false] at he
  rcases he with rfl
  · exact k9_10269_ok
noncomputable def tall9 : List Key := tab9 ++ tall8
theorem tall9_ok : ∀ e ∈ tall9, KeyOK Tryz.prog tabG e := by
  intro e he
  simp only [tall9, List.mem_append] at he
  rcases he with he | he
  · exact tab9_ok e he
  · exact tall8_ok e he
noncomputable def Y9 : Specs := withAll Tryz.prog tabG plans XW0 100000 (fun g => Nat.beq g 307) tall9 10
theorem y9_ok : SpecsOK Tryz.prog tabG Y9 := withAll_ok xw0_ok hpl mix 100000 _ tall9_ok 10
end Go.Proofs.YtahmejhidelkbaaGreatDoor
