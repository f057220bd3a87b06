/-
  Some calls of the anchor, reckoned by themselves. Conditions: none beside what ratchet/sha.table holds.
-/
import Derived.Test.YtnajnkhjnkilgaaGreatDoorClY1
namespace Go.Proofs.YtnajnkhjnkilgaaGreatDoor
open Go.RowKit Go.Sx Go.Ev
set_option linter.unusedVariables false
set_option linter.unusedSimpArgs false
set_option linter.unnecessarySimpa false
set_option maxRecDepth 100000
/-- ratchet/cell.Open -/
noncomputable def k131_1113 : Key := ⟨131, [.ptr 12 0, .num .i64 0], [(10, dB1), (11, dB1), (12, dB0)], 1113, .tup [.ptr 1113 0, .num .i64 0], [(10, dB1), (11, dB1), (12, dB0), (1113, dB2), (1235, .cells [])], 1361⟩
theorem k131_1113_ok : KeyOK Tryz.prog tabG k131_1113 := KeyOK.of y1_ok hpl mix 100000 (by kernel_rfl) (by kernel_rfl : knownB Tryz.prog tabG plans Y1 100000 k131_1113 = true)
/-- ratchet/cell.Open -/
noncomputable def k131_1363 : Key := ⟨131, [.ptr 12 0, .num .i64 20], [(10, dB1), (11, dB1), (12, dB0)], 1363, .tup [.ptr 1363 0, .num .i64 0], [(10, dB1), (11, dB1), (12, dB0), (1363, .cells [.ptr 12 0, .num .i64 20, .sl 1485 0 0 0 true, .num .i64 0, .bool false]), (1485, .cells [])], 1611⟩
theorem k131_1363_ok : KeyOK Tryz.prog tabG k131_1363 := KeyOK.of y1_ok hpl mix 100000 (by kernel_rfl) (by kernel_rfl : knownB Tryz.prog tabG plans Y1 100000 k131_1363 = true)
/-- ratchet/cell.Open -/
noncomputable def k131_3136 : Key := ⟨131, [.ptr 2035 0, .num .i64 0], [(2033, dB1), (2034, dB1), (2035, dB5)], 3136, .tup [.ptr 3136 0, .num .i64 0], [(2033, dB1), (2034, dB1), (2035, dB5), (3136, dB6), (3258, .cells [])], 3384⟩
theorem k131_3136_ok : KeyOK Tryz.prog tabG k131_3136 := KeyOK.of y1_ok hpl mix 100000 (by kernel_rfl) (by kernel_rfl : knownB Tryz.prog tabG plans Y1 100000 k131_3136 = true)
/-- ratchet/cell.Open -/
noncomputable def k131_3386 : Key := ⟨131, [.ptr 2035 0, .num .i64 20], [(2033, dB1), (2034, dB1), (2035, dB5)], 3386, .tup [.ptr 3386 0, .num .i64 0], [(2033, dB1), (2034, dB1), (2035, dB5), (3386, .cells [.ptr 2035 0, .num .i64 20, .sl 3508 0 0 0 true, .num .i64 0, .bool false]), (3508, .cells [])], 3634⟩
theorem k131_3386_ok : KeyOK Tryz.prog tabG k131_3386 := KeyOK.of y1_ok hpl mix 100000 (by kernel_rfl) (by kernel_rfl : knownB Tryz.prog tabG plans Y1 100000 k131_3386 = true)
/-- ratchet/cell.Open -/
noncomputable def k131_5159 : Key := ⟨131, [.ptr 4058 0, .num .i64 0], [(4056, dB1), (4057, dB1), (4058, dB8)], 5159, .tup [.ptr 5159 0, .num .i64 0], [(4056, dB1), (4057, dB1), (4058, dB8), (5159, dB9), (5281, .cells [])], 5407⟩
theorem k131_5159_ok : KeyOK Tryz.prog tabG k131_5159 := KeyOK.of y1_ok hpl mix 100000 (by kernel_rfl) (by kernel_rfl : knownB Tryz.prog tabG plans Y1 100000 k131_5159 = true)
end Go.Proofs.YtnajnkhjnkilgaaGreatDoor
