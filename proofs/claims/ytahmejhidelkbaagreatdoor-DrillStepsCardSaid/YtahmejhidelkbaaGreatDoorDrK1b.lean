/-
  Some calls of the anchor, reckoned by themselves. Conditions: none beside what ratchet/sha.table holds.
-/
import Derived.Test.YtahmejhidelkbaaGreatDoorDrX
namespace Go.Proofs.YtahmejhidelkbaaGreatDoor
open Go.RowKit Go.Sx Go.Ev
set_option linter.unusedVariables false
set_option linter.unusedSimpArgs false
set_option linter.unnecessarySimpa false
set_option maxRecDepth 100000
/-- slices.IndexFunc[[]byte,byte] -/
noncomputable def k327_3261 : Key := ⟨327, [.sl 3260 0 1198 0 false, .flat (.func (.func 261) #[] #[])], c6, 3261, .flat (.int .i64 (-1)), c6, 3261⟩
theorem k327_3261_ok : KeyOK Tryz.prog tabG k327_3261 := KeyOK.of xw0_ok hpl mix 100000 (by kernel_rfl) (by kernel_rfl : knownB Tryz.prog tabG plans XW0 100000 k327_3261 = true)
/-- slices.IndexFunc[[]byte,byte] -/
noncomputable def k327_3384 : Key := ⟨327, [.sl 3383 0 1198 0 false, .flat (.func (.func 261) #[] #[])], c7, 3384, .flat (.int .i64 (-1)), c7, 3384⟩
theorem k327_3384_ok : KeyOK Tryz.prog tabG k327_3384 := KeyOK.of xw0_ok hpl mix 100000 (by kernel_rfl) (by kernel_rfl : knownB Tryz.prog tabG plans XW0 100000 k327_3384 = true)
/-- slices.IndexFunc[[]byte,byte] -/
noncomputable def k327_3511 : Key := ⟨327, [.sl 3510 0 1198 0 false, .flat (.func (.func 261) #[] #[])], c8, 3511, .flat (.int .i64 (-1)), c8, 3511⟩
theorem k327_3511_ok : KeyOK Tryz.prog tabG k327_3511 := KeyOK.of xw0_ok hpl mix 100000 (by kernel_rfl) (by kernel_rfl : knownB Tryz.prog tabG plans XW0 100000 k327_3511 = true)
/-- slices.IndexFunc[[]byte,byte] -/
noncomputable def k327_3634 : Key := ⟨327, [.sl 3633 0 1198 0 false, .flat (.func (.func 261) #[] #[])], c9, 3634, .flat (.int .i64 (-1)), c9, 3634⟩
theorem k327_3634_ok : KeyOK Tryz.prog tabG k327_3634 := KeyOK.of xw0_ok hpl mix 100000 (by kernel_rfl) (by kernel_rfl : knownB Tryz.prog tabG plans XW0 100000 k327_3634 = true)
/-- ratchet/durable.Format -/
noncomputable def k61_4059 : Key := ⟨61, [.ptr 4058 0], [(4056, .map [] 0), (4057, .map [] 0), (4058, dB8)], 4059, ni 0, c10, 5035⟩
theorem k61_4059_ok : KeyOK Tryz.prog tabG k61_4059 := KeyOK.of xw0_ok hpl mix 100000 (by kernel_rfl) (by kernel_rfl : knownB Tryz.prog tabG plans XW0 100000 k61_4059 = true)
end Go.Proofs.YtahmejhidelkbaaGreatDoor
