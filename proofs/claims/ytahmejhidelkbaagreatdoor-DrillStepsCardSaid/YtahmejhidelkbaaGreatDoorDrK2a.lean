/-
  Some calls of the anchor, reckoned by themselves. Conditions: none beside what ratchet/sha.table holds.
-/
import Derived.Test.YtahmejhidelkbaaGreatDoorDrY1
namespace Go.Proofs.YtahmejhidelkbaaGreatDoor
open Go.RowKit Go.Sx Go.Ev
set_option linter.unusedVariables false
set_option linter.unusedSimpArgs false
set_option linter.unnecessarySimpa false
set_option maxRecDepth 100000
/-- ratchet/cell.Open -/
noncomputable def k133_1113 : Key := ⟨133, [.ptr 12 0, ni 0], c0, 1113, .tup [.ptr 1113 0, ni 0], [(10, dB1), (11, dB1), (12, dB0), (1113, dB2), (1235, .cells [])], 1361⟩
theorem k133_1113_ok : KeyOK Tryz.prog tabG k133_1113 := KeyOK.of y1_ok hpl mix 100000 (by kernel_rfl) (by kernel_rfl : knownB Tryz.prog tabG plans Y1 100000 k133_1113 = true)
/-- ratchet/cell.Open -/
noncomputable def k133_1363 : Key := ⟨133, [.ptr 12 0, ni 20], c0, 1363, .tup [.ptr 1363 0, ni 0], [(10, dB1), (11, dB1), (12, dB0), (1363, .cells [.ptr 12 0, ni 20, .sl 1485 0 0 0 true, ni 0, bf]), (1485, .cells [])], 1611⟩
theorem k133_1363_ok : KeyOK Tryz.prog tabG k133_1363 := KeyOK.of y1_ok hpl mix 100000 (by kernel_rfl) (by kernel_rfl : knownB Tryz.prog tabG plans Y1 100000 k133_1363 = true)
/-- ratchet/cell.Open -/
noncomputable def k133_3136 : Key := ⟨133, [.ptr 2035 0, ni 0], (aj c5 [(2035, dB5)]), 3136, .tup [.ptr 3136 0, ni 0], (aj c5 [(2035, dB5), (3136, dB6), (3258, .cells [])]), 3384⟩
theorem k133_3136_ok : KeyOK Tryz.prog tabG k133_3136 := KeyOK.of y1_ok hpl mix 100000 (by kernel_rfl) (by kernel_rfl : knownB Tryz.prog tabG plans Y1 100000 k133_3136 = true)
/-- ratchet/cell.Open -/
noncomputable def k133_3386 : Key := ⟨133, [.ptr 2035 0, ni 20], (aj c5 [(2035, dB5)]), 3386, .tup [.ptr 3386 0, ni 0], (aj c5 [(2035, dB5), (3386, .cells [.ptr 2035 0, ni 20, .sl 3508 0 0 0 true, ni 0, bf]), (3508, .cells [])]), 3634⟩
theorem k133_3386_ok : KeyOK Tryz.prog tabG k133_3386 := KeyOK.of y1_ok hpl mix 100000 (by kernel_rfl) (by kernel_rfl : knownB Tryz.prog tabG plans Y1 100000 k133_3386 = true)
/-- ratchet/cell.Open -/
noncomputable def k133_5159 : Key := ⟨133, [.ptr 4058 0, ni 0], c10, 5159, .tup [.ptr 5159 0, ni 0], (aj c10 [(5159, dB9), (5281, .cells [])]), 5407⟩
theorem k133_5159_ok : KeyOK Tryz.prog tabG k133_5159 := KeyOK.of y1_ok hpl mix 100000 (by kernel_rfl) (by kernel_rfl : knownB Tryz.prog tabG plans Y1 100000 k133_5159 = true)
/-- ratchet/cell.Open -/
noncomputable def k133_5409 : Key := ⟨133, [.ptr 4058 0, ni 20], c10, 5409, .tup [.ptr 5409 0, ni 0], (aj c10 [(5409, .cells [.ptr 4058 0, ni 20, .sl 5531 0 0 0 true, ni 0, bf]), (5531, .cells [])]), 5657⟩
theorem k133_5409_ok : KeyOK Tryz.prog tabG k133_5409 := KeyOK.of y1_ok hpl mix 100000 (by kernel_rfl) (by kernel_rfl : knownB Tryz.prog tabG plans Y1 100000 k133_5409 = true)
/-- (*ratchet/world.World).Do -/
noncomputable def k12_6515 : Key := ⟨12, [.ptr 6079 0, .agg (ap [nb 3, ni 0, ni 1, ni 0, ni 0, ni 0, nb 0, fs, fs, fs, fs, nu 0, nb 0, nu 0, nu 0, ni 0, nu 0, nb 0, fs, fs, fs, fs, nu 0] q186)], (aj c66 (aj c67 (aj c68 (aj c69 (aj c70 (aj c71 (aj c72 (aj c73 (aj c74 (aj c26 (aj c75 c76))))))))))), 6515, .agg q125, (aj c66 (aj c67 (aj c68 (aj c69 (aj c70 (aj c71 (aj c72 (aj c73 (aj c74 (aj c26 (aj c75 c76))))))))))), 7692⟩
theorem k12_6515_ok : KeyOK Tryz.prog tabG k12_6515 := KeyOK.of y1_ok hpl mix 100000 (by kernel_rfl) (by kernel_rfl : knownB Tryz.prog tabG plans Y1 100000 k12_6515 = true)
/-- (*ratchet/world.World).Do -/
noncomputable def k12_7763 : Key := ⟨12, [.ptr 6079 0, .agg q113], (aj c66 (aj c67 (aj c68 (aj c69 (aj c70 (aj c71 (aj c72 (aj c73 (aj c74 (aj c26 (aj c75 c76))))))))))), 7763, .agg q125, (aj c66 (aj c67 (aj c68 (aj c69 (aj c70 (aj c71 (aj c72 (aj c73 (aj c74 (aj c26 (aj c75 c76))))))))))), 8940⟩
theorem k12_7763_ok : KeyOK Tryz.prog tabG k12_7763 := KeyOK.of y1_ok hpl mix 100000 (by kernel_rfl) (by kernel_rfl : knownB Tryz.prog tabG plans Y1 100000 k12_7763 = true)
/-- (*ratchet/world.World).Do -/
noncomputable def k12_9016 : Key := ⟨12, [.ptr 6079 0, .agg q114], (aj c77 (aj c67 (aj c68 (aj c69 (aj c70 (aj c71 (aj c72 (aj c73 (aj c74 (aj c26 (aj c75 c78))))))))))), 9016, .agg q125, (aj c77 (aj c67 (aj c68 (aj c69 (aj c70 (aj c71 (aj c72 (aj c73 (aj c74 (aj c26 (aj c75 c78))))))))))), 10193⟩
theorem k12_9016_ok : KeyOK Tryz.prog tabG k12_9016 := KeyOK.of y1_ok hpl mix 100000 (by kernel_rfl) (by kernel_rfl : knownB Tryz.prog tabG plans Y1 100000 k12_9016 = true)
/-- (*ratchet/world.World).Do -/
noncomputable def k12_10398 : Key := ⟨12, [.ptr 6079 0, .agg q113], (aj c79 (aj c69 (aj c70 (aj c71 (aj c72 (aj c73 (aj c74 (aj c26 (aj c75 c80))))))))), 10398, .agg q125, (aj c79 (aj c69 (aj c70 (aj c71 (aj c72 (aj c73 (aj c74 (aj c26 (aj c75 c80))))))))), 11563⟩
theorem k12_10398_ok : KeyOK Tryz.prog tabG k12_10398 := KeyOK.of y1_ok hpl mix 100000 (by kernel_rfl) (by kernel_rfl : knownB Tryz.prog tabG plans Y1 100000 k12_10398 = true)
/-- (*ratchet/world.World).Do -/
noncomputable def k12_11603 : Key := ⟨12, [.ptr 6079 0, .agg q114], (aj c79 (aj c69 (aj c70 (aj c71 (aj c72 (aj c73 (aj c74 (aj c26 (aj c75 c80))))))))), 11603, .agg q125, (aj c79 (aj c69 (aj c70 (aj c71 (aj c72 (aj c73 (aj c74 (aj c26 (aj c75 c80))))))))), 12768⟩
theorem k12_11603_ok : KeyOK Tryz.prog tabG k12_11603 := KeyOK.of y1_ok hpl mix 100000 (by kernel_rfl) (by kernel_rfl : knownB Tryz.prog tabG plans Y1 100000 k12_11603 = true)
end Go.Proofs.YtahmejhidelkbaaGreatDoor
