/-
  Some calls of the anchor, reckoned by themselves. Conditions: none beside what ratchet/sha.table holds.
-/
import Derived.Test.YthdggndldnefpaaGreatDoorWoY4
namespace Go.Proofs.YthdggndldnefpaaGreatDoor
open Go.RowKit Go.Sx Go.Ev
set_option linter.unusedVariables false
set_option linter.unusedSimpArgs false
set_option linter.unnecessarySimpa false
set_option maxRecDepth 100000
/-- (*ratchet/world.World).Do -/
noncomputable def k17_11607 : Key := ⟨17, [.ptr 6079 0, .agg q26], (aj c100 (aj c45 (aj c46 (aj c20 (aj c21 (aj c22 (aj c23 (aj c24 (aj c25 (aj c26 (aj c27 c101))))))))))), 11607, .agg (ap [ni 0, ni 0, nu 0, nb 0, fs, fs, fs, fs, nu 0] (ap (z8 32) (ap [ni 1, nu 1] (ap (rp 11 (nu 0)) (ap q17 (ap (z8 32) (ap (b8 [152, 243, 90, 56, 119, 241, 88, 247, 65, 96, 88, 42, 35, 111, 236, 29, 214, 119, 183, 61, 122, 65, 152, 51, 96, 200, 52, 227, 19, 77, 47, 195]) [fl]))))))), (aj c16 (aj c17 (aj c118 (aj c19 (aj c20 (aj c21 (aj c22 (aj c23 (aj c24 (aj c25 (aj c26 (aj c27 (aj c28 c29))))))))))))), 15957⟩
theorem k17_11607_ok : KeyOK Tryz.prog tabG k17_11607 := KeyOK.of y4_ok hpl mix 100000 (by kernel_rfl) (by kernel_rfl : knownB Tryz.prog tabG plans Y4 100000 k17_11607 = true)
end Go.Proofs.YthdggndldnefpaaGreatDoor
