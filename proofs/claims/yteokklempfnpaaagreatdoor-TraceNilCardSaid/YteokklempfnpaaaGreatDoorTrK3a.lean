/-
  Some calls of the anchor, reckoned by themselves. Conditions: none beside what ratchet/sha.table holds.
-/
import Derived.Test.YteokklempfnpaaaGreatDoorTrY2
namespace Go.Proofs.YteokklempfnpaaaGreatDoor
open Go.RowKit Go.Sx Go.Ev
set_option linter.unusedVariables false
set_option linter.unusedSimpArgs false
set_option linter.unnecessarySimpa false
set_option maxRecDepth 100000
/-- ratchet/book.Open -/
noncomputable def k110_1363 : Key := ⟨110, [.ptr 12 0, .num .i64 20, .num .i64 8192], [(10, dB1), (11, dB1), (12, dB0)], 1363, .tup [.ptr 2014 0, .flat (.slice none 0 0), .num .i64 0], [(10, dB3), (11, dB3), (12, dB0), (2014, dB4)], 2026⟩
theorem k110_1363_ok : KeyOK Tryz.prog tabG k110_1363 := KeyOK.of y2_ok hpl mix 100000 (by kernel_rfl) (by kernel_rfl : knownB Tryz.prog tabG plans Y2 100000 k110_1363 = true)
/-- ratchet/book.Open -/
noncomputable def k110_3386 : Key := ⟨110, [.ptr 2035 0, .num .i64 20, .num .i64 8192], [(2033, dB1), (2034, dB1), (2035, dB5)], 3386, .tup [.ptr 4037 0, .flat (.slice none 0 0), .num .i64 0], [(2033, dB3), (2034, dB3), (2035, dB5), (4037, dB7)], 4049⟩
theorem k110_3386_ok : KeyOK Tryz.prog tabG k110_3386 := KeyOK.of y2_ok hpl mix 100000 (by kernel_rfl) (by kernel_rfl : knownB Tryz.prog tabG plans Y2 100000 k110_3386 = true)
/-- ratchet/book.Open -/
noncomputable def k110_5409 : Key := ⟨110, [.ptr 4058 0, .num .i64 20, .num .i64 8192], [(4056, dB1), (4057, dB1), (4058, dB8)], 5409, .tup [.ptr 6060 0, .flat (.slice none 0 0), .num .i64 0], [(4056, dB3), (4057, dB3), (4058, dB8), (6060, dB10)], 6072⟩
theorem k110_5409_ok : KeyOK Tryz.prog tabG k110_5409 := KeyOK.of y2_ok hpl mix 100000 (by kernel_rfl) (by kernel_rfl : knownB Tryz.prog tabG plans Y2 100000 k110_5409 = true)
/-- ratchet/book.Open -/
noncomputable def k110_8229 : Key := ⟨110, [.ptr 6878 0, .num .i64 20, .num .i64 8192], [(6876, dB1), (6877, dB1), (6878, dB26)], 8229, .tup [.ptr 8880 0, .flat (.slice none 0 0), .num .i64 0], [(6876, dB3), (6877, dB3), (6878, dB26), (8880, dB28)], 8892⟩
theorem k110_8229_ok : KeyOK Tryz.prog tabG k110_8229 := KeyOK.of y2_ok hpl mix 100000 (by kernel_rfl) (by kernel_rfl : knownB Tryz.prog tabG plans Y2 100000 k110_8229 = true)
/-- ratchet/book.Open -/
noncomputable def k110_10252 : Key := ⟨110, [.ptr 8901 0, .num .i64 20, .num .i64 8192], [(8899, dB1), (8900, dB1), (8901, dB29)], 10252, .tup [.ptr 10903 0, .flat (.slice none 0 0), .num .i64 0], [(8899, dB3), (8900, dB3), (8901, dB29), (10903, dB31)], 10915⟩
theorem k110_10252_ok : KeyOK Tryz.prog tabG k110_10252 := KeyOK.of y2_ok hpl mix 100000 (by kernel_rfl) (by kernel_rfl : knownB Tryz.prog tabG plans Y2 100000 k110_10252 = true)
end Go.Proofs.YteokklempfnpaaaGreatDoor
