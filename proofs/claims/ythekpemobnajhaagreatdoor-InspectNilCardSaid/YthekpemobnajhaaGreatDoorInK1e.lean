/-
  Some calls of the anchor, reckoned by themselves. Conditions: none beside what ratchet/sha.table holds.
-/
import Derived.Test.YthekpemobnajhaaGreatDoorInX
namespace Go.Proofs.YthekpemobnajhaaGreatDoor
open Go.RowKit Go.Sx Go.Ev
set_option linter.unusedVariables false
set_option linter.unusedSimpArgs false
set_option linter.unnecessarySimpa false
set_option maxRecDepth 100000
/-- (ratchet/cell.place).read -/
noncomputable def k105_2517 : Key := ⟨105, [.agg [.ptr 2395 0, .num .i64 0], .num .i64 0], [(2393, .map [] 0), (2394, .map [] 0), (2395, .cells [.mp 2393, .mp 2394, .flat (.slice none 0 0), .bool false, .flat (.int .i64 (-1))])], 2517, .tup [.num .u64 0, .sl 2637 0 0 0 true], [(2393, .map [] 0), (2394, .map [] 0), (2395, .cells [.mp 2393, .mp 2394, .flat (.slice none 0 0), .bool false, .flat (.int .i64 (-1))]), (2637, .cells [])], 2640⟩
theorem k105_2517_ok : KeyOK Tryz.prog tabG k105_2517 := KeyOK.of x1_ok hpl mix 100000 (by kernel_rfl) (by kernel_rfl : knownB Tryz.prog tabG plans X1 100000 k105_2517 = true)
/-- (ratchet/cell.place).read -/
noncomputable def k105_2640 : Key := ⟨105, [.agg [.ptr 2395 0, .num .i64 0], .num .i64 1], [(2393, .map [] 0), (2394, .map [] 0), (2395, .cells [.mp 2393, .mp 2394, .flat (.slice none 0 0), .bool false, .flat (.int .i64 (-1))])], 2640, .tup [.num .u64 0, .sl 2760 0 0 0 true], [(2393, .map [] 0), (2394, .map [] 0), (2395, .cells [.mp 2393, .mp 2394, .flat (.slice none 0 0), .bool false, .flat (.int .i64 (-1))]), (2760, .cells [])], 2763⟩
theorem k105_2640_ok : KeyOK Tryz.prog tabG k105_2640 := KeyOK.of x1_ok hpl mix 100000 (by kernel_rfl) (by kernel_rfl : knownB Tryz.prog tabG plans X1 100000 k105_2640 = true)
end Go.Proofs.YthekpemobnajhaaGreatDoor
