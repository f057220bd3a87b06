/-
  Some calls of the anchor, reckoned by themselves. Conditions: none beside what ratchet/sha.table holds.
-/
import Derived.Test.YthdggndldnefpaaGreatDoorWoY1
namespace Go.Proofs.YthdggndldnefpaaGreatDoor
open Go.RowKit Go.Sx Go.Ev
set_option linter.unusedVariables false
set_option linter.unusedSimpArgs false
set_option linter.unnecessarySimpa false
set_option maxRecDepth 100000
/-- ratchet/cell.Open -/
noncomputable def k131_1113 : Key := ⟨131, [.ptr 12 0, ni 0], c0, 1113, .tup [.ptr 1113 0, ni 0], [(10, dB1), (11, dB1), (12, dB0), (1113, dB2), (1235, .cells [])], 1361⟩
theorem k131_1113_ok : KeyOK Tryz.prog tabG k131_1113 := KeyOK.of y1_ok hpl mix 100000 (by kernel_rfl) (by kernel_rfl : knownB Tryz.prog tabG plans Y1 100000 k131_1113 = true)
/-- ratchet/cell.Open -/
noncomputable def k131_1363 : Key := ⟨131, [.ptr 12 0, ni 20], c0, 1363, .tup [.ptr 1363 0, ni 0], [(10, dB1), (11, dB1), (12, dB0), (1363, .cells [.ptr 12 0, ni 20, .sl 1485 0 0 0 true, ni 0, bf]), (1485, .cells [])], 1611⟩
theorem k131_1363_ok : KeyOK Tryz.prog tabG k131_1363 := KeyOK.of y1_ok hpl mix 100000 (by kernel_rfl) (by kernel_rfl : knownB Tryz.prog tabG plans Y1 100000 k131_1363 = true)
/-- ratchet/cell.Open -/
noncomputable def k131_3136 : Key := ⟨131, [.ptr 2035 0, ni 0], (aj c5 [(2035, dB5)]), 3136, .tup [.ptr 3136 0, ni 0], (aj c5 [(2035, dB5), (3136, dB6), (3258, .cells [])]), 3384⟩
theorem k131_3136_ok : KeyOK Tryz.prog tabG k131_3136 := KeyOK.of y1_ok hpl mix 100000 (by kernel_rfl) (by kernel_rfl : knownB Tryz.prog tabG plans Y1 100000 k131_3136 = true)
/-- ratchet/cell.Open -/
noncomputable def k131_3386 : Key := ⟨131, [.ptr 2035 0, ni 20], (aj c5 [(2035, dB5)]), 3386, .tup [.ptr 3386 0, ni 0], (aj c5 [(2035, dB5), (3386, .cells [.ptr 2035 0, ni 20, .sl 3508 0 0 0 true, ni 0, bf]), (3508, .cells [])]), 3634⟩
theorem k131_3386_ok : KeyOK Tryz.prog tabG k131_3386 := KeyOK.of y1_ok hpl mix 100000 (by kernel_rfl) (by kernel_rfl : knownB Tryz.prog tabG plans Y1 100000 k131_3386 = true)
/-- ratchet/cell.Open -/
noncomputable def k131_5159 : Key := ⟨131, [.ptr 4058 0, ni 0], c10, 5159, .tup [.ptr 5159 0, ni 0], (aj c10 [(5159, dB9), (5281, .cells [])]), 5407⟩
theorem k131_5159_ok : KeyOK Tryz.prog tabG k131_5159 := KeyOK.of y1_ok hpl mix 100000 (by kernel_rfl) (by kernel_rfl : knownB Tryz.prog tabG plans Y1 100000 k131_5159 = true)
/-- ratchet/cell.Open -/
noncomputable def k131_5409 : Key := ⟨131, [.ptr 4058 0, ni 20], c10, 5409, .tup [.ptr 5409 0, ni 0], (aj c10 [(5409, .cells [.ptr 4058 0, ni 20, .sl 5531 0 0 0 true, ni 0, bf]), (5531, .cells [])]), 5657⟩
theorem k131_5409_ok : KeyOK Tryz.prog tabG k131_5409 := KeyOK.of y1_ok hpl mix 100000 (by kernel_rfl) (by kernel_rfl : knownB Tryz.prog tabG plans Y1 100000 k131_5409 = true)
/-- (*ratchet/world.World).Do -/
noncomputable def k17_6496 : Key := ⟨17, [.ptr 6079 0, .agg q26], (aj c44 (aj c45 (aj c46 (aj c20 (aj c21 (aj c22 (aj c23 (aj c24 (aj c25 (aj c26 (aj c27 c47))))))))))), 6496, .agg q32, (aj c44 (aj c45 (aj c46 (aj c20 (aj c21 (aj c22 (aj c23 (aj c24 (aj c25 (aj c26 (aj c27 c47))))))))))), 7673⟩
theorem k17_6496_ok : KeyOK Tryz.prog tabG k17_6496 := KeyOK.of y1_ok hpl mix 100000 (by kernel_rfl) (by kernel_rfl : knownB Tryz.prog tabG plans Y1 100000 k17_6496 = true)
/-- (*ratchet/world.World).Do -/
noncomputable def k17_7723 : Key := ⟨17, [.ptr 6079 0, .agg q27], (aj c44 (aj c45 (aj c46 (aj c20 (aj c21 (aj c22 (aj c23 (aj c24 (aj c25 (aj c26 (aj c27 c47))))))))))), 7723, .agg q32, (aj c44 (aj c45 (aj c46 (aj c20 (aj c21 (aj c22 (aj c23 (aj c24 (aj c25 (aj c26 (aj c27 c47))))))))))), 8900⟩
theorem k17_7723_ok : KeyOK Tryz.prog tabG k17_7723 := KeyOK.of y1_ok hpl mix 100000 (by kernel_rfl) (by kernel_rfl : knownB Tryz.prog tabG plans Y1 100000 k17_7723 = true)
/-- (*ratchet/world.World).Do -/
noncomputable def k17_8950 : Key := ⟨17, [.ptr 6079 0, .agg q28], (aj c44 (aj c45 (aj c46 (aj c20 (aj c21 (aj c22 (aj c23 (aj c24 (aj c25 (aj c26 (aj c27 c47))))))))))), 8950, .agg q32, (aj c44 (aj c45 (aj c46 (aj c20 (aj c21 (aj c22 (aj c23 (aj c24 (aj c25 (aj c26 (aj c27 c47))))))))))), 10127⟩
theorem k17_8950_ok : KeyOK Tryz.prog tabG k17_8950 := KeyOK.of y1_ok hpl mix 100000 (by kernel_rfl) (by kernel_rfl : knownB Tryz.prog tabG plans Y1 100000 k17_8950 = true)
/-- ratchet/message.Right -/
noncomputable def k330_14719 : Key := ⟨330, [.agg q0], [], 14719, bt, [], 15413⟩
theorem k330_14719_ok : KeyOK Tryz.prog tabG k330_14719 := KeyOK.of y1_ok hpl mix 100000 (by kernel_rfl) (by kernel_rfl : knownB Tryz.prog tabG plans Y1 100000 k330_14719 = true)
end Go.Proofs.YthdggndldnefpaaGreatDoor
