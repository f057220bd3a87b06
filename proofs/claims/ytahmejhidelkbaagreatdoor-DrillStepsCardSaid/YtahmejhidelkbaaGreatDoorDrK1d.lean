/-
  Some calls of the anchor, reckoned by themselves. Conditions: none beside what ratchet/sha.table holds.
-/
import Derived.Test.YtahmejhidelkbaaGreatDoorDrX
namespace Go.Proofs.YtahmejhidelkbaaGreatDoor
open Go.RowKit Go.Sx Go.Ev
set_option linter.unusedVariables false
set_option linter.unusedSimpArgs false
set_option linter.unnecessarySimpa false
set_option maxRecDepth 100000
/-- ratchet/state.Of -/
noncomputable def k348_8306 : Key := ⟨348, [.sl 8305 0 208 0 false], [(8305, .buf (z8 208) 1)], 8306, .tup [.ptr 8309 0, ni 0], [(8305, .buf (z8 208) 1), (8309, .cells [.ptr 8352 0, .ptr 8350 0, nu 0]), (8350, dB21), (8351, .map [] 0), (8352, .cells [.mp 8351])], 8866⟩
theorem k348_8306_ok : KeyOK Tryz.prog tabG k348_8306 := KeyOK.of xw0_ok hpl mix 100000 (by kernel_rfl) (by kernel_rfl : knownB Tryz.prog tabG plans XW0 100000 k348_8306 = true)
/-- ratchet/state.Of -/
noncomputable def k348_9559 : Key := ⟨348, [.sl 9558 0 208 0 false], [(9558, .buf (z8 208) 1)], 9559, .tup [.ptr 9562 0, ni 0], [(9558, .buf (z8 208) 1), (9562, .cells [.ptr 9605 0, .ptr 9603 0, nu 0]), (9603, dB21), (9604, .map [] 0), (9605, .cells [.mp 9604])], 10119⟩
theorem k348_9559_ok : KeyOK Tryz.prog tabG k348_9559 := KeyOK.of xw0_ok hpl mix 100000 (by kernel_rfl) (by kernel_rfl : knownB Tryz.prog tabG plans XW0 100000 k348_9559 = true)
/-- ratchet/state.Of -/
noncomputable def k348_10941 : Key := ⟨348, [.sl 10940 0 208 0 false], [(10940, .buf (z8 208) 1)], 10941, .tup [.ptr 10944 0, ni 0], [(10940, .buf (z8 208) 1), (10944, .cells [.ptr 10987 0, .ptr 10985 0, nu 0]), (10985, dB21), (10986, .map [] 0), (10987, .cells [.mp 10986])], 11501⟩
theorem k348_10941_ok : KeyOK Tryz.prog tabG k348_10941 := KeyOK.of xw0_ok hpl mix 100000 (by kernel_rfl) (by kernel_rfl : knownB Tryz.prog tabG plans XW0 100000 k348_10941 = true)
/-- ratchet/state.Of -/
noncomputable def k348_12146 : Key := ⟨348, [.sl 12145 0 208 0 false], c15, 12146, .tup [.ptr 12149 0, ni 0], (aj c15 [(12149, .cells [.ptr 12192 0, .ptr 12190 0, nu 0]), (12190, dB21), (12191, .map [] 0), (12192, .cells [.mp 12191])]), 12706⟩
theorem k348_12146_ok : KeyOK Tryz.prog tabG k348_12146 := KeyOK.of xw0_ok hpl mix 100000 (by kernel_rfl) (by kernel_rfl : knownB Tryz.prog tabG plans XW0 100000 k348_12146 = true)
/-- ratchet/message.sign -/
noncomputable def k292_12859 : Key := ⟨292, [.agg q109], [], 12859, .agg (b8 [18, 71, 57, 66, 140, 84, 199, 250, 179, 72, 66, 17, 252, 175, 62, 1, 134, 61, 32, 207, 144, 148, 3, 95, 153, 188, 73, 203, 49, 103, 152, 126]), [], 13115⟩
theorem k292_12859_ok : KeyOK Tryz.prog tabG k292_12859 := KeyOK.of xw0_ok hpl mix 100000 (by kernel_rfl) (by kernel_rfl : knownB Tryz.prog tabG plans XW0 100000 k292_12859 = true)
/-- ratchet/state.Of -/
noncomputable def k348_13630 : Key := ⟨348, [.sl 13629 0 208 0 false], [(13629, .buf (z8 208) 1)], 13630, .tup [.ptr 13633 0, ni 0], [(13629, .buf (z8 208) 1), (13633, .cells [.ptr 13676 0, .ptr 13674 0, nu 0]), (13674, dB21), (13675, .map [] 0), (13676, .cells [.mp 13675])], 14190⟩
theorem k348_13630_ok : KeyOK Tryz.prog tabG k348_13630 := KeyOK.of xw0_ok hpl mix 100000 (by kernel_rfl) (by kernel_rfl : knownB Tryz.prog tabG plans XW0 100000 k348_13630 = true)
/-- ratchet/state.Of -/
noncomputable def k348_14766 : Key := ⟨348, [.sl 14765 0 208 0 false], [(14765, .buf (z8 208) 1)], 14766, .tup [.ptr 14769 0, ni 0], [(14765, .buf (z8 208) 1), (14769, .cells [.ptr 14812 0, .ptr 14810 0, nu 0]), (14810, dB21), (14811, .map [] 0), (14812, .cells [.mp 14811])], 15326⟩
theorem k348_14766_ok : KeyOK Tryz.prog tabG k348_14766 := KeyOK.of xw0_ok hpl mix 100000 (by kernel_rfl) (by kernel_rfl : knownB Tryz.prog tabG plans XW0 100000 k348_14766 = true)
/-- ratchet/message.sign -/
noncomputable def k292_15718 : Key := ⟨292, [.agg q109], [], 15718, .agg (b8 [18, 71, 57, 66, 140, 84, 199, 250, 179, 72, 66, 17, 252, 175, 62, 1, 134, 61, 32, 207, 144, 148, 3, 95, 153, 188, 73, 203, 49, 103, 152, 126]), [], 15974⟩
theorem k292_15718_ok : KeyOK Tryz.prog tabG k292_15718 := KeyOK.of xw0_ok hpl mix 100000 (by kernel_rfl) (by kernel_rfl : knownB Tryz.prog tabG plans XW0 100000 k292_15718 = true)
/-- ratchet/state.Of -/
noncomputable def k348_16489 : Key := ⟨348, [.sl 16488 0 208 0 false], [(16488, .buf (z8 208) 1)], 16489, .tup [.ptr 16492 0, ni 0], [(16488, .buf (z8 208) 1), (16492, .cells [.ptr 16535 0, .ptr 16533 0, nu 0]), (16533, dB21), (16534, .map [] 0), (16535, .cells [.mp 16534])], 17049⟩
theorem k348_16489_ok : KeyOK Tryz.prog tabG k348_16489 := KeyOK.of xw0_ok hpl mix 100000 (by kernel_rfl) (by kernel_rfl : knownB Tryz.prog tabG plans XW0 100000 k348_16489 = true)
/-- ratchet/state.Of -/
noncomputable def k348_17625 : Key := ⟨348, [.sl 17624 0 208 0 false], [(17624, .buf (z8 208) 1)], 17625, .tup [.ptr 17628 0, ni 0], [(17624, .buf (z8 208) 1), (17628, .cells [.ptr 17671 0, .ptr 17669 0, nu 0]), (17669, dB21), (17670, .map [] 0), (17671, .cells [.mp 17670])], 18185⟩
theorem k348_17625_ok : KeyOK Tryz.prog tabG k348_17625 := KeyOK.of xw0_ok hpl mix 100000 (by kernel_rfl) (by kernel_rfl : knownB Tryz.prog tabG plans XW0 100000 k348_17625 = true)
end Go.Proofs.YtahmejhidelkbaaGreatDoor
