/-
  Some calls of the anchor, reckoned by themselves. Conditions: none beside what ratchet/sha.table holds.
-/
import Derived.Test.YthdggndldnefpaaGreatDoorWoY1
namespace Go.Proofs.YthdggndldnefpaaGreatDoor
open Go.RowKit Go.Sx Go.Ev
set_option linter.unusedVariables false
set_option linter.unusedSimpArgs false
set_option linter.unnecessarySimpa false
set_option maxRecDepth 100000
/-- (*ratchet/world.World).Do -/
noncomputable def k17_15957 : Key := ⟨17, [.ptr 6079 0, .agg q26], (aj c16 (aj c17 (aj c18 (aj c19 (aj c20 (aj c21 (aj c22 (aj c23 (aj c24 (aj c25 (aj c26 (aj c27 (aj c28 c29))))))))))))), 15957, .agg q32, (aj c16 (aj c17 (aj c18 (aj c19 (aj c20 (aj c21 (aj c22 (aj c23 (aj c24 (aj c25 (aj c26 (aj c27 (aj c28 c29))))))))))))), 17412⟩
theorem k17_15957_ok : KeyOK Tryz.prog tabG k17_15957 := KeyOK.of y1_ok hpl mix 100000 (by kernel_rfl) (by kernel_rfl : knownB Tryz.prog tabG plans Y1 100000 k17_15957 = true)
/-- ratchet/message.Right -/
noncomputable def k330_17873 : Key := ⟨330, [.agg q0], [], 17873, bt, [], 18567⟩
theorem k330_17873_ok : KeyOK Tryz.prog tabG k330_17873 := KeyOK.of y1_ok hpl mix 100000 (by kernel_rfl) (by kernel_rfl : knownB Tryz.prog tabG plans Y1 100000 k330_17873 = true)
/-- ratchet/message.Right -/
noncomputable def k330_18695 : Key := ⟨330, [.agg q0], [], 18695, bt, [], 19389⟩
theorem k330_18695_ok : KeyOK Tryz.prog tabG k330_18695 := KeyOK.of y1_ok hpl mix 100000 (by kernel_rfl) (by kernel_rfl : knownB Tryz.prog tabG plans Y1 100000 k330_18695 = true)
/-- ratchet/message.Right -/
noncomputable def k330_19513 : Key := ⟨330, [.agg q0], [], 19513, bt, [], 20207⟩
theorem k330_19513_ok : KeyOK Tryz.prog tabG k330_19513 := KeyOK.of y1_ok hpl mix 100000 (by kernel_rfl) (by kernel_rfl : knownB Tryz.prog tabG plans Y1 100000 k330_19513 = true)
/-- ratchet/message.Right -/
noncomputable def k330_21465 : Key := ⟨330, [.agg q0], [], 21465, bt, [], 22159⟩
theorem k330_21465_ok : KeyOK Tryz.prog tabG k330_21465 := KeyOK.of y1_ok hpl mix 100000 (by kernel_rfl) (by kernel_rfl : knownB Tryz.prog tabG plans Y1 100000 k330_21465 = true)
/-- ratchet/message.Right -/
noncomputable def k330_22287 : Key := ⟨330, [.agg q0], [], 22287, bt, [], 22981⟩
theorem k330_22287_ok : KeyOK Tryz.prog tabG k330_22287 := KeyOK.of y1_ok hpl mix 100000 (by kernel_rfl) (by kernel_rfl : knownB Tryz.prog tabG plans Y1 100000 k330_22287 = true)
/-- ratchet/message.Right -/
noncomputable def k330_23105 : Key := ⟨330, [.agg q0], [], 23105, bt, [], 23799⟩
theorem k330_23105_ok : KeyOK Tryz.prog tabG k330_23105 := KeyOK.of y1_ok hpl mix 100000 (by kernel_rfl) (by kernel_rfl : knownB Tryz.prog tabG plans Y1 100000 k330_23105 = true)
/-- (*ratchet/replica.Replica).Take -/
noncomputable def k143_28862 : Key := ⟨143, [.ptr 3030 0, .agg q12], (aj c48 (aj c49 (aj c50 (aj c51 (aj c52 (aj c53 c54)))))), 28862, ni 0, (aj c48 (aj c49 (aj c55 (aj c34 [(3051, dB31), (3052, dB47), (3054, dB48), (3055, .map [] 0), (3056, .cells [ni 3, .mp 3055]), (3058, dB81), (20215, dB74), (20593, dB68), (20595, .buf [nu 1] 1), (26291, dB68), (29486, dB97), (29490, dB98)])))), 29595⟩
theorem k143_28862_ok : KeyOK Tryz.prog tabG k143_28862 := KeyOK.of y1_ok hpl mix 100000 (by kernel_rfl) (by kernel_rfl : knownB Tryz.prog tabG plans Y1 100000 k143_28862 = true)
/-- (*ratchet/world.World).Do -/
noncomputable def k17_29646 : Key := ⟨17, [.ptr 6079 0, .agg q27], (aj c16 (aj c17 (aj c18 (aj c31 (aj c56 (aj c49 (aj c55 (aj c34 (aj c35 (aj c36 (aj c37 (aj c26 (aj c27 (aj c38 (aj c57 (aj c40 [(29629, dB68)])))))))))))))))), 29646, .agg q32, (aj c16 (aj c17 (aj c18 (aj c31 (aj c32 (aj c33 (aj c34 (aj c35 (aj c36 (aj c37 (aj c26 (aj c27 (aj c38 (aj c39 (aj c40 c41))))))))))))))), 30956⟩
theorem k17_29646_ok : KeyOK Tryz.prog tabG k17_29646 := KeyOK.of y1_ok hpl mix 100000 (by kernel_rfl) (by kernel_rfl : knownB Tryz.prog tabG plans Y1 100000 k17_29646 = true)
/-- (*ratchet/replica.Replica).Take -/
noncomputable def k143_32583 : Key := ⟨143, [.ptr 1007 0, .agg q12], (aj [(998, .map [] 1), (999, .cells [.mp 998]), (1000, .map [] 0), (1001, .cells [.mp 1000]), (1002, dB21), (1003, dB22), (1004, .map [] 0), (1005, dB23), (1006, dB66), (1007, dB67), (1011, dB69)] (aj c17 (aj c58 (aj [(11545, dB68), (15417, .buf [ni 0, ni 0] 2), (15421, dB74)] c29)))), 32583, ni 0, (aj c59 (aj c60 (aj c58 (aj c61 c62)))), 33316⟩
theorem k143_32583_ok : KeyOK Tryz.prog tabG k143_32583 := KeyOK.of y1_ok hpl mix 100000 (by kernel_rfl) (by kernel_rfl : knownB Tryz.prog tabG plans Y1 100000 k143_32583 = true)
/-- ratchet/message.Right -/
noncomputable def k330_33960 : Key := ⟨330, [.agg q0], [], 33960, bt, [], 34654⟩
theorem k330_33960_ok : KeyOK Tryz.prog tabG k330_33960 := KeyOK.of y1_ok hpl mix 100000 (by kernel_rfl) (by kernel_rfl : knownB Tryz.prog tabG plans Y1 100000 k330_33960 = true)
end Go.Proofs.YthdggndldnefpaaGreatDoor
