/-
  Some calls of the anchor, reckoned by themselves. Conditions: none beside what ratchet/sha.table holds.
-/
import Derived.Test.YthdggndldnefpaaGreatDoorWoX
namespace Go.Proofs.YthdggndldnefpaaGreatDoor
open Go.RowKit Go.Sx Go.Ev
set_option linter.unusedVariables false
set_option linter.unusedSimpArgs false
set_option linter.unnecessarySimpa false
set_option maxRecDepth 100000
/-- ratchet/tag.Numbered -/
noncomputable def k204_35093 : Key := ⟨204, [ni 2, nu 1, .sl 35014 0 106 0 false], [(35014, dB93)], 35093, .agg (b8 [41, 94, 244, 46, 165, 133, 76, 105, 204, 218, 139, 48, 126, 24, 159, 121, 43, 227, 250, 31, 36, 63, 44, 23, 121, 232, 135, 31, 63, 100, 15, 68]), [(35014, dB93)], 35272⟩
theorem k204_35093_ok : KeyOK Tryz.prog tabG k204_35093 := KeyOK.of x1_ok hpl mix 100000 (by kernel_rfl) (by kernel_rfl : knownB Tryz.prog tabG plans X1 100000 k204_35093 = true)
/-- ratchet/tag.Numbered -/
noncomputable def k204_35725 : Key := ⟨204, [ni 2, nu 1, .sl 35646 0 106 0 false], [(35646, dB93)], 35725, .agg (b8 [41, 94, 244, 46, 165, 133, 76, 105, 204, 218, 139, 48, 126, 24, 159, 121, 43, 227, 250, 31, 36, 63, 44, 23, 121, 232, 135, 31, 63, 100, 15, 68]), [(35646, dB93)], 35904⟩
theorem k204_35725_ok : KeyOK Tryz.prog tabG k204_35725 := KeyOK.of x1_ok hpl mix 100000 (by kernel_rfl) (by kernel_rfl : knownB Tryz.prog tabG plans X1 100000 k204_35725 = true)
/-- ratchet/tag.Numbered -/
noncomputable def k204_36353 : Key := ⟨204, [ni 2, nu 1, .sl 36274 0 106 0 false], [(36274, dB93)], 36353, .agg (b8 [41, 94, 244, 46, 165, 133, 76, 105, 204, 218, 139, 48, 126, 24, 159, 121, 43, 227, 250, 31, 36, 63, 44, 23, 121, 232, 135, 31, 63, 100, 15, 68]), [(36274, dB93)], 36532⟩
theorem k204_36353_ok : KeyOK Tryz.prog tabG k204_36353 := KeyOK.of x1_ok hpl mix 100000 (by kernel_rfl) (by kernel_rfl : knownB Tryz.prog tabG plans X1 100000 k204_36353 = true)
/-- ratchet/message.sign -/
noncomputable def k218_37186 : Key := ⟨218, [.agg q25], [], 37186, .agg (b8 [18, 71, 57, 66, 140, 84, 199, 250, 179, 72, 66, 17, 252, 175, 62, 1, 134, 61, 32, 207, 144, 148, 3, 95, 153, 188, 73, 203, 49, 103, 152, 126]), [], 37442⟩
theorem k218_37186_ok : KeyOK Tryz.prog tabG k218_37186 := KeyOK.of x1_ok hpl mix 100000 (by kernel_rfl) (by kernel_rfl : knownB Tryz.prog tabG plans X1 100000 k218_37186 = true)
/-- ratchet/state.Of -/
noncomputable def k290_37957 : Key := ⟨290, [.sl 37956 0 208 0 false], [(37956, .buf (z8 208) 1)], 37957, .tup [.ptr 37960 0, ni 0], [(37956, .buf (z8 208) 1), (37960, .cells [.ptr 38003 0, .ptr 38001 0, nu 0]), (38001, dB21), (38002, .map [] 0), (38003, .cells [.mp 38002])], 38517⟩
theorem k290_37957_ok : KeyOK Tryz.prog tabG k290_37957 := KeyOK.of x1_ok hpl mix 100000 (by kernel_rfl) (by kernel_rfl : knownB Tryz.prog tabG plans X1 100000 k290_37957 = true)
/-- ratchet/state.Of -/
noncomputable def k290_39203 : Key := ⟨290, [.sl 39202 0 226 0 false], [(39202, dB105)], 39203, .tup [.ptr 39206 0, ni 0], [(39202, dB105), (39206, .cells [.ptr 39255 0, .ptr 39253 0, nu 1]), (39253, dB106), (39254, dB107), (39255, .cells [.mp 39254])], 39813⟩
theorem k290_39203_ok : KeyOK Tryz.prog tabG k290_39203 := KeyOK.of x1_ok hpl mix 100000 (by kernel_rfl) (by kernel_rfl : knownB Tryz.prog tabG plans X1 100000 k290_39203 = true)
/-- ratchet/tag.Numbered -/
noncomputable def k204_40568 : Key := ⟨204, [ni 3, nu 1, .sl 40161 0 106 0 false], [(40161, dB124)], 40568, .agg (b8 [103, 141, 114, 107, 22, 28, 216, 86, 159, 79, 141, 161, 110, 129, 63, 200, 83, 139, 225, 105, 113, 14, 25, 88, 128, 10, 181, 161, 213, 73, 103, 208]), [(40161, dB124)], 40747⟩
theorem k204_40568_ok : KeyOK Tryz.prog tabG k204_40568 := KeyOK.of x1_ok hpl mix 100000 (by kernel_rfl) (by kernel_rfl : knownB Tryz.prog tabG plans X1 100000 k204_40568 = true)
/-- ratchet/tag.Numbered -/
noncomputable def k204_41639 : Key := ⟨204, [ni 3, nu 1, .sl 41560 0 106 0 false], [(41560, dB124)], 41639, .agg (b8 [103, 141, 114, 107, 22, 28, 216, 86, 159, 79, 141, 161, 110, 129, 63, 200, 83, 139, 225, 105, 113, 14, 25, 88, 128, 10, 181, 161, 213, 73, 103, 208]), [(41560, dB124)], 41818⟩
theorem k204_41639_ok : KeyOK Tryz.prog tabG k204_41639 := KeyOK.of x1_ok hpl mix 100000 (by kernel_rfl) (by kernel_rfl : knownB Tryz.prog tabG plans X1 100000 k204_41639 = true)
/-- ratchet/state.Of -/
noncomputable def k290_42575 : Key := ⟨290, [.sl 42574 0 226 0 false], [(42574, dB105)], 42575, .tup [.ptr 42578 0, ni 0], [(42574, dB105), (42578, .cells [.ptr 42627 0, .ptr 42625 0, nu 1]), (42625, dB106), (42626, dB107), (42627, .cells [.mp 42626])], 43185⟩
theorem k290_42575_ok : KeyOK Tryz.prog tabG k290_42575 := KeyOK.of x1_ok hpl mix 100000 (by kernel_rfl) (by kernel_rfl : knownB Tryz.prog tabG plans X1 100000 k290_42575 = true)
/-- ratchet/tag.Numbered -/
noncomputable def k204_44023 : Key := ⟨204, [ni 2, nu 1, .sl 43944 0 106 0 false], [(43944, dB93)], 44023, .agg (b8 [41, 94, 244, 46, 165, 133, 76, 105, 204, 218, 139, 48, 126, 24, 159, 121, 43, 227, 250, 31, 36, 63, 44, 23, 121, 232, 135, 31, 63, 100, 15, 68]), [(43944, dB93)], 44202⟩
theorem k204_44023_ok : KeyOK Tryz.prog tabG k204_44023 := KeyOK.of x1_ok hpl mix 100000 (by kernel_rfl) (by kernel_rfl : knownB Tryz.prog tabG plans X1 100000 k204_44023 = true)
/-- ratchet/tag.Numbered -/
noncomputable def k204_44643 : Key := ⟨204, [ni 3, nu 1, .sl 44564 0 106 0 false], [(44564, dB124)], 44643, .agg (b8 [103, 141, 114, 107, 22, 28, 216, 86, 159, 79, 141, 161, 110, 129, 63, 200, 83, 139, 225, 105, 113, 14, 25, 88, 128, 10, 181, 161, 213, 73, 103, 208]), [(44564, dB124)], 44822⟩
theorem k204_44643_ok : KeyOK Tryz.prog tabG k204_44643 := KeyOK.of x1_ok hpl mix 100000 (by kernel_rfl) (by kernel_rfl : knownB Tryz.prog tabG plans X1 100000 k204_44643 = true)
end Go.Proofs.YthdggndldnefpaaGreatDoor
