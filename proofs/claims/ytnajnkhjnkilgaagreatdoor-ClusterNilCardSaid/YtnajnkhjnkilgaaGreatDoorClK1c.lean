/-
  Some calls of the anchor, reckoned by themselves. Conditions: none beside what ratchet/sha.table holds.
-/
import Derived.Test.YtnajnkhjnkilgaaGreatDoorClX
namespace Go.Proofs.YtnajnkhjnkilgaaGreatDoor
open Go.RowKit Go.Sx Go.Ev
set_option linter.unusedVariables false
set_option linter.unusedSimpArgs false
set_option linter.unnecessarySimpa false
set_option maxRecDepth 100000
/-- slices.IndexFunc[[]byte,byte] -/
noncomputable def k328_3261 : Key := ⟨328, [.sl 3260 0 1198 0 false, .flat (.func (.func 261) #[] #[])], [(3260, .buf (z8 1198) 1)], 3261, .flat (.int .i64 (-1)), [(3260, .buf (z8 1198) 1)], 3261⟩
theorem k328_3261_ok : KeyOK Tryz.prog tabG k328_3261 := KeyOK.of x1_ok hpl mix 100000 (by kernel_rfl) (by kernel_rfl : knownB Tryz.prog tabG plans X1 100000 k328_3261 = true)
/-- slices.IndexFunc[[]byte,byte] -/
noncomputable def k328_3384 : Key := ⟨328, [.sl 3383 0 1198 0 false, .flat (.func (.func 261) #[] #[])], [(3383, .buf (z8 1198) 1)], 3384, .flat (.int .i64 (-1)), [(3383, .buf (z8 1198) 1)], 3384⟩
theorem k328_3384_ok : KeyOK Tryz.prog tabG k328_3384 := KeyOK.of x1_ok hpl mix 100000 (by kernel_rfl) (by kernel_rfl : knownB Tryz.prog tabG plans X1 100000 k328_3384 = true)
end Go.Proofs.YtnajnkhjnkilgaaGreatDoor
