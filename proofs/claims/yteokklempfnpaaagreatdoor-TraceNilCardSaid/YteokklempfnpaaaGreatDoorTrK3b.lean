/-
  Some calls of the anchor, reckoned by themselves. Conditions: none beside what ratchet/sha.table holds.
-/
import Derived.Test.YteokklempfnpaaaGreatDoorTrY2
namespace Go.Proofs.YteokklempfnpaaaGreatDoor
open Go.RowKit Go.Sx Go.Ev
set_option linter.unusedVariables false
set_option linter.unusedSimpArgs false
set_option linter.unnecessarySimpa false
set_option maxRecDepth 100000
/-- ratchet/book.Open -/
noncomputable def k110_12275 : Key := ⟨110, [.ptr 10924 0, .num .i64 20, .num .i64 8192], [(10922, dB1), (10923, dB1), (10924, dB32)], 12275, .tup [.ptr 12926 0, .flat (.slice none 0 0), .num .i64 0], [(10922, dB3), (10923, dB3), (10924, dB32), (12926, dB34)], 12938⟩
theorem k110_12275_ok : KeyOK Tryz.prog tabG k110_12275 := KeyOK.of y2_ok hpl mix 100000 (by kernel_rfl) (by kernel_rfl : knownB Tryz.prog tabG plans Y2 100000 k110_12275 = true)
end Go.Proofs.YteokklempfnpaaaGreatDoor
