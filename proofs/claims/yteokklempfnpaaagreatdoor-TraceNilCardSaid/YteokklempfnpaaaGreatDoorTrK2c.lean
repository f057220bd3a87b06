/-
  Some calls of the anchor, reckoned by themselves. Conditions: none beside what ratchet/sha.table holds.
-/
import Derived.Test.YteokklempfnpaaaGreatDoorTrY1
namespace Go.Proofs.YteokklempfnpaaaGreatDoor
open Go.RowKit Go.Sx Go.Ev
set_option linter.unusedVariables false
set_option linter.unusedSimpArgs false
set_option linter.unnecessarySimpa false
set_option maxRecDepth 100000
/-- ratchet/cell.Open -/
noncomputable def k171_12025 : Key := ⟨171, [.ptr 10924 0, .num .i64 0], [(10922, dB1), (10923, dB1), (10924, dB32)], 12025, .tup [.ptr 12025 0, .num .i64 0], [(10922, dB1), (10923, dB1), (10924, dB32), (12025, dB33), (12147, .cells [])], 12273⟩
theorem k171_12025_ok : KeyOK Tryz.prog tabG k171_12025 := KeyOK.of y1_ok hpl mix 100000 (by kernel_rfl) (by kernel_rfl : knownB Tryz.prog tabG plans Y1 100000 k171_12025 = true)
/-- ratchet/cell.Open -/
noncomputable def k171_12275 : Key := ⟨171, [.ptr 10924 0, .num .i64 20], [(10922, dB1), (10923, dB1), (10924, dB32)], 12275, .tup [.ptr 12275 0, .num .i64 0], [(10922, dB1), (10923, dB1), (10924, dB32), (12275, .cells [.ptr 10924 0, .num .i64 20, .sl 12397 0 0 0 true, .num .i64 0, .bool false]), (12397, .cells [])], 12523⟩
theorem k171_12275_ok : KeyOK Tryz.prog tabG k171_12275 := KeyOK.of y1_ok hpl mix 100000 (by kernel_rfl) (by kernel_rfl : knownB Tryz.prog tabG plans Y1 100000 k171_12275 = true)
end Go.Proofs.YteokklempfnpaaaGreatDoor
