/-
  Some calls of the anchor, reckoned by themselves. Conditions: none beside what ratchet/sha.table holds.
-/
import Derived.Test.YtahmejhidelkbaaGreatDoorDrY2
namespace Go.Proofs.YtahmejhidelkbaaGreatDoor
open Go.RowKit Go.Sx Go.Ev
set_option linter.unusedVariables false
set_option linter.unusedSimpArgs false
set_option linter.unnecessarySimpa false
set_option maxRecDepth 100000
/-- ratchet/usig.Check -/
noncomputable def k394_54860a : Key := ⟨394, [ni 2, nu 2, .sl 54859 0 117 0 false, .agg (b8 [144, 253, 54, 101, 121, 31, 209, 6, 97, 212, 89, 164, 66, 241, 143, 3, 29, 234, 37, 6, 197, 239, 99, 29, 56, 51, 172, 39, 71, 130, 163, 46])], [(54859, dB124)], 54860, bt, [(54859, dB124)], 55172⟩
theorem k394_54860a_ok : KeyOK Tryz.prog tabG k394_54860a := KeyOK.of y2_ok hpl mix 100000 (by kernel_rfl) (by kernel_rfl : knownB Tryz.prog tabG plans Y2 100000 k394_54860a = true)
/-- (*ratchet/lore.Lore).Check -/
noncomputable def k264_70509a : Key := ⟨264, [.ptr 3034 0, .agg q83], (aj c169 c158), 70509, ni 12, (aj c169 c158), 71127⟩
theorem k264_70509a_ok : KeyOK Tryz.prog tabG k264_70509a := KeyOK.of y2_ok hpl mix 100000 (by kernel_rfl) (by kernel_rfl : knownB Tryz.prog tabG plans Y2 100000 k264_70509a = true)
end Go.Proofs.YtahmejhidelkbaaGreatDoor
