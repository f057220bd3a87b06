/-
  Some calls of the anchor, reckoned by themselves. Conditions: none beside what ratchet/sha.table holds.
-/
import Derived.Test.YteokklempfnpaaaGreatDoorTrY1
namespace Go.Proofs.YteokklempfnpaaaGreatDoor
open Go.RowKit Go.Sx Go.Ev
set_option linter.unusedVariables false
set_option linter.unusedSimpArgs false
set_option linter.unnecessarySimpa false
set_option maxRecDepth 100000
/-- ratchet/cell.Open -/
noncomputable def k171_5409 : Key := ⟨171, [.ptr 4058 0, .num .i64 20], [(4056, dB1), (4057, dB1), (4058, dB8)], 5409, .tup [.ptr 5409 0, .num .i64 0], [(4056, dB1), (4057, dB1), (4058, dB8), (5409, .cells [.ptr 4058 0, .num .i64 20, .sl 5531 0 0 0 true, .num .i64 0, .bool false]), (5531, .cells [])], 5657⟩
theorem k171_5409_ok : KeyOK Tryz.prog tabG k171_5409 := KeyOK.of y1_ok hpl mix 100000 (by kernel_rfl) (by kernel_rfl : knownB Tryz.prog tabG plans Y1 100000 k171_5409 = true)
/-- ratchet/cell.Open -/
noncomputable def k171_7979 : Key := ⟨171, [.ptr 6878 0, .num .i64 0], [(6876, dB1), (6877, dB1), (6878, dB26)], 7979, .tup [.ptr 7979 0, .num .i64 0], [(6876, dB1), (6877, dB1), (6878, dB26), (7979, dB27), (8101, .cells [])], 8227⟩
theorem k171_7979_ok : KeyOK Tryz.prog tabG k171_7979 := KeyOK.of y1_ok hpl mix 100000 (by kernel_rfl) (by kernel_rfl : knownB Tryz.prog tabG plans Y1 100000 k171_7979 = true)
/-- ratchet/cell.Open -/
noncomputable def k171_8229 : Key := ⟨171, [.ptr 6878 0, .num .i64 20], [(6876, dB1), (6877, dB1), (6878, dB26)], 8229, .tup [.ptr 8229 0, .num .i64 0], [(6876, dB1), (6877, dB1), (6878, dB26), (8229, .cells [.ptr 6878 0, .num .i64 20, .sl 8351 0 0 0 true, .num .i64 0, .bool false]), (8351, .cells [])], 8477⟩
theorem k171_8229_ok : KeyOK Tryz.prog tabG k171_8229 := KeyOK.of y1_ok hpl mix 100000 (by kernel_rfl) (by kernel_rfl : knownB Tryz.prog tabG plans Y1 100000 k171_8229 = true)
/-- ratchet/cell.Open -/
noncomputable def k171_10002 : Key := ⟨171, [.ptr 8901 0, .num .i64 0], [(8899, dB1), (8900, dB1), (8901, dB29)], 10002, .tup [.ptr 10002 0, .num .i64 0], [(8899, dB1), (8900, dB1), (8901, dB29), (10002, dB30), (10124, .cells [])], 10250⟩
theorem k171_10002_ok : KeyOK Tryz.prog tabG k171_10002 := KeyOK.of y1_ok hpl mix 100000 (by kernel_rfl) (by kernel_rfl : knownB Tryz.prog tabG plans Y1 100000 k171_10002 = true)
/-- ratchet/cell.Open -/
noncomputable def k171_10252 : Key := ⟨171, [.ptr 8901 0, .num .i64 20], [(8899, dB1), (8900, dB1), (8901, dB29)], 10252, .tup [.ptr 10252 0, .num .i64 0], [(8899, dB1), (8900, dB1), (8901, dB29), (10252, .cells [.ptr 8901 0, .num .i64 20, .sl 10374 0 0 0 true, .num .i64 0, .bool false]), (10374, .cells [])], 10500⟩
theorem k171_10252_ok : KeyOK Tryz.prog tabG k171_10252 := KeyOK.of y1_ok hpl mix 100000 (by kernel_rfl) (by kernel_rfl : knownB Tryz.prog tabG plans Y1 100000 k171_10252 = true)
end Go.Proofs.YteokklempfnpaaaGreatDoor
