/-
  Some calls of the anchor, reckoned by themselves. Conditions: none beside what ratchet/sha.table holds.
-/
import Derived.Test.YthdggndldnefpaaGreatDoorWoX
namespace Go.Proofs.YthdggndldnefpaaGreatDoor
open Go.RowKit Go.Sx Go.Ev
set_option linter.unusedVariables false
set_option linter.unusedSimpArgs false
set_option linter.unnecessarySimpa false
set_option maxRecDepth 100000
/-- ratchet/tag.Numbered -/
noncomputable def k204_45275 : Key := ⟨204, [ni 3, nu 1, .sl 45196 0 106 0 false], [(45196, dB124)], 45275, .agg (b8 [103, 141, 114, 107, 22, 28, 216, 86, 159, 79, 141, 161, 110, 129, 63, 200, 83, 139, 225, 105, 113, 14, 25, 88, 128, 10, 181, 161, 213, 73, 103, 208]), [(45196, dB124)], 45454⟩
theorem k204_45275_ok : KeyOK Tryz.prog tabG k204_45275 := KeyOK.of x1_ok hpl mix 100000 (by kernel_rfl) (by kernel_rfl : knownB Tryz.prog tabG plans X1 100000 k204_45275 = true)
/-- ratchet/tag.Numbered -/
noncomputable def k204_45903 : Key := ⟨204, [ni 3, nu 1, .sl 45824 0 106 0 false], [(45824, dB124)], 45903, .agg (b8 [103, 141, 114, 107, 22, 28, 216, 86, 159, 79, 141, 161, 110, 129, 63, 200, 83, 139, 225, 105, 113, 14, 25, 88, 128, 10, 181, 161, 213, 73, 103, 208]), [(45824, dB124)], 46082⟩
theorem k204_45903_ok : KeyOK Tryz.prog tabG k204_45903 := KeyOK.of x1_ok hpl mix 100000 (by kernel_rfl) (by kernel_rfl : knownB Tryz.prog tabG plans X1 100000 k204_45903 = true)
/-- ratchet/tag.Numbered -/
noncomputable def k204_47165 : Key := ⟨204, [ni 3, nu 1, .sl 47086 0 106 0 false], [(47086, dB124)], 47165, .agg (b8 [103, 141, 114, 107, 22, 28, 216, 86, 159, 79, 141, 161, 110, 129, 63, 200, 83, 139, 225, 105, 113, 14, 25, 88, 128, 10, 181, 161, 213, 73, 103, 208]), [(47086, dB124)], 47344⟩
theorem k204_47165_ok : KeyOK Tryz.prog tabG k204_47165 := KeyOK.of x1_ok hpl mix 100000 (by kernel_rfl) (by kernel_rfl : knownB Tryz.prog tabG plans X1 100000 k204_47165 = true)
/-- ratchet/tag.Numbered -/
noncomputable def k204_47797 : Key := ⟨204, [ni 3, nu 1, .sl 47718 0 106 0 false], [(47718, dB124)], 47797, .agg (b8 [103, 141, 114, 107, 22, 28, 216, 86, 159, 79, 141, 161, 110, 129, 63, 200, 83, 139, 225, 105, 113, 14, 25, 88, 128, 10, 181, 161, 213, 73, 103, 208]), [(47718, dB124)], 47976⟩
theorem k204_47797_ok : KeyOK Tryz.prog tabG k204_47797 := KeyOK.of x1_ok hpl mix 100000 (by kernel_rfl) (by kernel_rfl : knownB Tryz.prog tabG plans X1 100000 k204_47797 = true)
/-- ratchet/tag.Numbered -/
noncomputable def k204_48425 : Key := ⟨204, [ni 3, nu 1, .sl 48346 0 106 0 false], [(48346, dB124)], 48425, .agg (b8 [103, 141, 114, 107, 22, 28, 216, 86, 159, 79, 141, 161, 110, 129, 63, 200, 83, 139, 225, 105, 113, 14, 25, 88, 128, 10, 181, 161, 213, 73, 103, 208]), [(48346, dB124)], 48604⟩
theorem k204_48425_ok : KeyOK Tryz.prog tabG k204_48425 := KeyOK.of x1_ok hpl mix 100000 (by kernel_rfl) (by kernel_rfl : knownB Tryz.prog tabG plans X1 100000 k204_48425 = true)
end Go.Proofs.YthdggndldnefpaaGreatDoor
