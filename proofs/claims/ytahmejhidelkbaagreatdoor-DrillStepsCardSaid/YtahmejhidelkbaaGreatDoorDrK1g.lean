/-
  Some calls of the anchor, reckoned by themselves. Conditions: none beside what ratchet/sha.table holds.
-/
import Derived.Test.YtahmejhidelkbaaGreatDoorDrX
namespace Go.Proofs.YtahmejhidelkbaaGreatDoor
open Go.RowKit Go.Sx Go.Ev
set_option linter.unusedVariables false
set_option linter.unusedSimpArgs false
set_option linter.unnecessarySimpa false
set_option maxRecDepth 100000
/-- ratchet/tag.Numbered -/
noncomputable def k201_38491 : Key := ⟨201, [ni 3, nu 1, .sl 38412 0 98 0 false], [(38412, dB100)], 38491, .agg (b8 [182, 208, 26, 236, 243, 29, 2, 189, 10, 102, 224, 147, 89, 35, 254, 246, 13, 168, 164, 140, 170, 80, 255, 198, 79, 146, 219, 151, 155, 119, 93, 242]), [(38412, dB100)], 38678⟩
theorem k201_38491_ok : KeyOK Tryz.prog tabG k201_38491 := KeyOK.of xw0_ok hpl mix 100000 (by kernel_rfl) (by kernel_rfl : knownB Tryz.prog tabG plans XW0 100000 k201_38491 = true)
/-- ratchet/tag.Numbered -/
noncomputable def k201_39074 : Key := ⟨201, [ni 3, nu 1, .sl 38995 0 98 0 false], [(38995, dB100)], 39074, .agg (b8 [182, 208, 26, 236, 243, 29, 2, 189, 10, 102, 224, 147, 89, 35, 254, 246, 13, 168, 164, 140, 170, 80, 255, 198, 79, 146, 219, 151, 155, 119, 93, 242]), [(38995, dB100)], 39261⟩
theorem k201_39074_ok : KeyOK Tryz.prog tabG k201_39074 := KeyOK.of xw0_ok hpl mix 100000 (by kernel_rfl) (by kernel_rfl : knownB Tryz.prog tabG plans XW0 100000 k201_39074 = true)
/-- ratchet/tag.Numbered -/
noncomputable def k201_39653 : Key := ⟨201, [ni 3, nu 1, .sl 39574 0 98 0 false], [(39574, dB100)], 39653, .agg (b8 [182, 208, 26, 236, 243, 29, 2, 189, 10, 102, 224, 147, 89, 35, 254, 246, 13, 168, 164, 140, 170, 80, 255, 198, 79, 146, 219, 151, 155, 119, 93, 242]), [(39574, dB100)], 39840⟩
theorem k201_39653_ok : KeyOK Tryz.prog tabG k201_39653 := KeyOK.of xw0_ok hpl mix 100000 (by kernel_rfl) (by kernel_rfl : knownB Tryz.prog tabG plans XW0 100000 k201_39653 = true)
/-- ratchet/message.sign -/
noncomputable def k292_40485 : Key := ⟨292, [.agg q109], [], 40485, .agg (b8 [18, 71, 57, 66, 140, 84, 199, 250, 179, 72, 66, 17, 252, 175, 62, 1, 134, 61, 32, 207, 144, 148, 3, 95, 153, 188, 73, 203, 49, 103, 152, 126]), [], 40741⟩
theorem k292_40485_ok : KeyOK Tryz.prog tabG k292_40485 := KeyOK.of xw0_ok hpl mix 100000 (by kernel_rfl) (by kernel_rfl : knownB Tryz.prog tabG plans XW0 100000 k292_40485 = true)
/-- ratchet/state.Of -/
noncomputable def k348_41256 : Key := ⟨348, [.sl 41255 0 208 0 false], [(41255, .buf (z8 208) 1)], 41256, .tup [.ptr 41259 0, ni 0], [(41255, .buf (z8 208) 1), (41259, .cells [.ptr 41302 0, .ptr 41300 0, nu 0]), (41300, dB21), (41301, .map [] 0), (41302, .cells [.mp 41301])], 41816⟩
theorem k348_41256_ok : KeyOK Tryz.prog tabG k348_41256 := KeyOK.of xw0_ok hpl mix 100000 (by kernel_rfl) (by kernel_rfl : knownB Tryz.prog tabG plans XW0 100000 k348_41256 = true)
/-- ratchet/state.Of -/
noncomputable def k348_42391 : Key := ⟨348, [.sl 42390 0 208 0 false], [(42390, .buf (z8 208) 1)], 42391, .tup [.ptr 42394 0, ni 0], [(42390, .buf (z8 208) 1), (42394, .cells [.ptr 42437 0, .ptr 42435 0, nu 0]), (42435, dB21), (42436, .map [] 0), (42437, .cells [.mp 42436])], 42951⟩
theorem k348_42391_ok : KeyOK Tryz.prog tabG k348_42391 := KeyOK.of xw0_ok hpl mix 100000 (by kernel_rfl) (by kernel_rfl : knownB Tryz.prog tabG plans XW0 100000 k348_42391 = true)
/-- ratchet/tag.Of -/
noncomputable def k269_43856 : Key := ⟨269, [.sl 43834 0 32 0 false, .sl 43855 0 125 0 false], [(43834, dB122), (43855, dB123)], 43856, .agg (b8 [144, 253, 54, 101, 121, 31, 209, 6, 97, 212, 89, 164, 66, 241, 143, 3, 29, 234, 37, 6, 197, 239, 99, 29, 56, 51, 172, 39, 71, 130, 163, 46]), [(43834, dB122), (43855, dB123)], 43989⟩
theorem k269_43856_ok : KeyOK Tryz.prog tabG k269_43856 := KeyOK.of xw0_ok hpl mix 100000 (by kernel_rfl) (by kernel_rfl : knownB Tryz.prog tabG plans XW0 100000 k269_43856 = true)
/-- ratchet/tag.Of -/
noncomputable def k269_45135 : Key := ⟨269, [.sl 45113 0 32 0 false, .sl 45134 0 125 0 false], c18, 45135, .agg (b8 [144, 253, 54, 101, 121, 31, 209, 6, 97, 212, 89, 164, 66, 241, 143, 3, 29, 234, 37, 6, 197, 239, 99, 29, 56, 51, 172, 39, 71, 130, 163, 46]), c18, 45268⟩
theorem k269_45135_ok : KeyOK Tryz.prog tabG k269_45135 := KeyOK.of xw0_ok hpl mix 100000 (by kernel_rfl) (by kernel_rfl : knownB Tryz.prog tabG plans XW0 100000 k269_45135 = true)
/-- ratchet/state.Of -/
noncomputable def k348_46064 : Key := ⟨348, [.sl 46063 0 208 0 false], [(46063, .buf (z8 208) 1)], 46064, .tup [.ptr 46067 0, ni 0], [(46063, .buf (z8 208) 1), (46067, .cells [.ptr 46110 0, .ptr 46108 0, nu 0]), (46108, dB21), (46109, .map [] 0), (46110, .cells [.mp 46109])], 46624⟩
theorem k348_46064_ok : KeyOK Tryz.prog tabG k348_46064 := KeyOK.of xw0_ok hpl mix 100000 (by kernel_rfl) (by kernel_rfl : knownB Tryz.prog tabG plans XW0 100000 k348_46064 = true)
/-- ratchet/message.sign -/
noncomputable def k292_46670 : Key := ⟨292, [.agg q109], [], 46670, .agg (b8 [18, 71, 57, 66, 140, 84, 199, 250, 179, 72, 66, 17, 252, 175, 62, 1, 134, 61, 32, 207, 144, 148, 3, 95, 153, 188, 73, 203, 49, 103, 152, 126]), [], 46926⟩
theorem k292_46670_ok : KeyOK Tryz.prog tabG k292_46670 := KeyOK.of xw0_ok hpl mix 100000 (by kernel_rfl) (by kernel_rfl : knownB Tryz.prog tabG plans XW0 100000 k292_46670 = true)
/-- ratchet/tag.Numbered -/
noncomputable def k201_47764 : Key := ⟨201, [ni 2, nu 3, .sl 47357 0 158 0 false], [(47357, dB141)], 47764, .agg (b8 [65, 77, 127, 71, 178, 184, 129, 155, 127, 177, 69, 246, 98, 255, 173, 167, 20, 34, 101, 50, 213, 226, 225, 7, 46, 244, 46, 65, 168, 205, 98, 56]), [(47357, dB141)], 47955⟩
theorem k201_47764_ok : KeyOK Tryz.prog tabG k201_47764 := KeyOK.of xw0_ok hpl mix 100000 (by kernel_rfl) (by kernel_rfl : knownB Tryz.prog tabG plans XW0 100000 k201_47764 = true)
end Go.Proofs.YtahmejhidelkbaaGreatDoor
