/-
  Some calls of the anchor, reckoned by themselves. Conditions: none beside what ratchet/sha.table holds.
-/
import Derived.Test.YtahmejhidelkbaaGreatDoorDrX
namespace Go.Proofs.YtahmejhidelkbaaGreatDoor
open Go.RowKit Go.Sx Go.Ev
set_option linter.unusedVariables false
set_option linter.unusedSimpArgs false
set_option linter.unnecessarySimpa false
set_option maxRecDepth 100000
/-- ratchet/message.sign -/
noncomputable def k292_18535 : Key := ⟨292, [.agg q109], [], 18535, .agg (b8 [18, 71, 57, 66, 140, 84, 199, 250, 179, 72, 66, 17, 252, 175, 62, 1, 134, 61, 32, 207, 144, 148, 3, 95, 153, 188, 73, 203, 49, 103, 152, 126]), [], 18791⟩
theorem k292_18535_ok : KeyOK Tryz.prog tabG k292_18535 := KeyOK.of xw0_ok hpl mix 100000 (by kernel_rfl) (by kernel_rfl : knownB Tryz.prog tabG plans XW0 100000 k292_18535 = true)
/-- ratchet/state.Of -/
noncomputable def k348_19306 : Key := ⟨348, [.sl 19305 0 208 0 false], [(19305, .buf (z8 208) 1)], 19306, .tup [.ptr 19309 0, ni 0], [(19305, .buf (z8 208) 1), (19309, .cells [.ptr 19352 0, .ptr 19350 0, nu 0]), (19350, dB21), (19351, .map [] 0), (19352, .cells [.mp 19351])], 19866⟩
theorem k348_19306_ok : KeyOK Tryz.prog tabG k348_19306 := KeyOK.of xw0_ok hpl mix 100000 (by kernel_rfl) (by kernel_rfl : knownB Tryz.prog tabG plans XW0 100000 k348_19306 = true)
/-- ratchet/state.Of -/
noncomputable def k348_20441 : Key := ⟨348, [.sl 20440 0 208 0 false], [(20440, .buf (z8 208) 1)], 20441, .tup [.ptr 20444 0, ni 0], [(20440, .buf (z8 208) 1), (20444, .cells [.ptr 20487 0, .ptr 20485 0, nu 0]), (20485, dB21), (20486, .map [] 0), (20487, .cells [.mp 20486])], 21001⟩
theorem k348_20441_ok : KeyOK Tryz.prog tabG k348_20441 := KeyOK.of xw0_ok hpl mix 100000 (by kernel_rfl) (by kernel_rfl : knownB Tryz.prog tabG plans XW0 100000 k348_20441 = true)
/-- ratchet/message.sign -/
noncomputable def k292_21285 : Key := ⟨292, [.agg q109], [], 21285, .agg (b8 [18, 71, 57, 66, 140, 84, 199, 250, 179, 72, 66, 17, 252, 175, 62, 1, 134, 61, 32, 207, 144, 148, 3, 95, 153, 188, 73, 203, 49, 103, 152, 126]), [], 21541⟩
theorem k292_21285_ok : KeyOK Tryz.prog tabG k292_21285 := KeyOK.of xw0_ok hpl mix 100000 (by kernel_rfl) (by kernel_rfl : knownB Tryz.prog tabG plans XW0 100000 k292_21285 = true)
/-- ratchet/state.Of -/
noncomputable def k348_22056 : Key := ⟨348, [.sl 22055 0 208 0 false], [(22055, .buf (z8 208) 1)], 22056, .tup [.ptr 22059 0, ni 0], [(22055, .buf (z8 208) 1), (22059, .cells [.ptr 22102 0, .ptr 22100 0, nu 0]), (22100, dB21), (22101, .map [] 0), (22102, .cells [.mp 22101])], 22616⟩
theorem k348_22056_ok : KeyOK Tryz.prog tabG k348_22056 := KeyOK.of xw0_ok hpl mix 100000 (by kernel_rfl) (by kernel_rfl : knownB Tryz.prog tabG plans XW0 100000 k348_22056 = true)
/-- ratchet/state.Of -/
noncomputable def k348_23191 : Key := ⟨348, [.sl 23190 0 208 0 false], [(23190, .buf (z8 208) 1)], 23191, .tup [.ptr 23194 0, ni 0], [(23190, .buf (z8 208) 1), (23194, .cells [.ptr 23237 0, .ptr 23235 0, nu 0]), (23235, dB21), (23236, .map [] 0), (23237, .cells [.mp 23236])], 23751⟩
theorem k348_23191_ok : KeyOK Tryz.prog tabG k348_23191 := KeyOK.of xw0_ok hpl mix 100000 (by kernel_rfl) (by kernel_rfl : knownB Tryz.prog tabG plans XW0 100000 k348_23191 = true)
/-- ratchet/message.sign -/
noncomputable def k292_24101 : Key := ⟨292, [.agg q109], [], 24101, .agg (b8 [18, 71, 57, 66, 140, 84, 199, 250, 179, 72, 66, 17, 252, 175, 62, 1, 134, 61, 32, 207, 144, 148, 3, 95, 153, 188, 73, 203, 49, 103, 152, 126]), [], 24357⟩
theorem k292_24101_ok : KeyOK Tryz.prog tabG k292_24101 := KeyOK.of xw0_ok hpl mix 100000 (by kernel_rfl) (by kernel_rfl : knownB Tryz.prog tabG plans XW0 100000 k292_24101 = true)
/-- ratchet/state.Of -/
noncomputable def k348_24872 : Key := ⟨348, [.sl 24871 0 208 0 false], [(24871, .buf (z8 208) 1)], 24872, .tup [.ptr 24875 0, ni 0], [(24871, .buf (z8 208) 1), (24875, .cells [.ptr 24918 0, .ptr 24916 0, nu 0]), (24916, dB21), (24917, .map [] 0), (24918, .cells [.mp 24917])], 25432⟩
theorem k348_24872_ok : KeyOK Tryz.prog tabG k348_24872 := KeyOK.of xw0_ok hpl mix 100000 (by kernel_rfl) (by kernel_rfl : knownB Tryz.prog tabG plans XW0 100000 k348_24872 = true)
/-- ratchet/state.Of -/
noncomputable def k348_26007 : Key := ⟨348, [.sl 26006 0 208 0 false], [(26006, .buf (z8 208) 1)], 26007, .tup [.ptr 26010 0, ni 0], [(26006, .buf (z8 208) 1), (26010, .cells [.ptr 26053 0, .ptr 26051 0, nu 0]), (26051, dB21), (26052, .map [] 0), (26053, .cells [.mp 26052])], 26567⟩
theorem k348_26007_ok : KeyOK Tryz.prog tabG k348_26007 := KeyOK.of xw0_ok hpl mix 100000 (by kernel_rfl) (by kernel_rfl : knownB Tryz.prog tabG plans XW0 100000 k348_26007 = true)
/-- ratchet/tag.Numbered -/
noncomputable def k201_27267 : Key := ⟨201, [ni 2, nu 1, .sl 26860 0 98 0 false], [(26860, dB81)], 27267, .agg (b8 [4, 217, 104, 197, 64, 185, 57, 1, 236, 120, 187, 97, 175, 222, 153, 236, 154, 247, 198, 240, 83, 174, 77, 137, 67, 101, 117, 33, 73, 151, 169, 84]), [(26860, dB81)], 27454⟩
theorem k201_27267_ok : KeyOK Tryz.prog tabG k201_27267 := KeyOK.of xw0_ok hpl mix 100000 (by kernel_rfl) (by kernel_rfl : knownB Tryz.prog tabG plans XW0 100000 k201_27267 = true)
end Go.Proofs.YtahmejhidelkbaaGreatDoor
