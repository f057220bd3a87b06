/-
  Some calls of the anchor, reckoned by themselves. Conditions: none beside what ratchet/sha.table holds.
-/
import Derived.Test.YtahmejhidelkbaaGreatDoorDrY1
namespace Go.Proofs.YtahmejhidelkbaaGreatDoor
open Go.RowKit Go.Sx Go.Ev
set_option linter.unusedVariables false
set_option linter.unusedSimpArgs false
set_option linter.unnecessarySimpa false
set_option maxRecDepth 100000
/-- ratchet/message.Right -/
noncomputable def k329_44592 : Key := ⟨329, [.agg q80], [(42977, dB128)], 44592, bt, [(42977, dB128)], 45270⟩
theorem k329_44592_ok : KeyOK Tryz.prog tabG k329_44592 := KeyOK.of y1_ok hpl mix 100000 (by kernel_rfl) (by kernel_rfl : knownB Tryz.prog tabG plans Y1 100000 k329_44592 = true)
/-- ratchet/message.Right -/
noncomputable def k329_48641 : Key := ⟨329, [.agg q69], [], 48641, bt, [], 49335⟩
theorem k329_48641_ok : KeyOK Tryz.prog tabG k329_48641 := KeyOK.of y1_ok hpl mix 100000 (by kernel_rfl) (by kernel_rfl : knownB Tryz.prog tabG plans Y1 100000 k329_48641 = true)
/-- (*ratchet/replica.Replica).Next -/
noncomputable def k220_49891 : Key := ⟨220, [.ptr 3030 0, nu 32], (aj c103 (aj c20 (aj c21 (aj c22 (aj c23 (aj c109 (aj [(39850, dB106)] c110))))))), 49891, .tup [.agg q172, bf], (aj c103 (aj c20 (aj c21 (aj c22 (aj c23 (aj c109 (aj [(39850, dB106)] c110))))))), 51300⟩
theorem k220_49891_ok : KeyOK Tryz.prog tabG k220_49891 := KeyOK.of y1_ok hpl mix 100000 (by kernel_rfl) (by kernel_rfl : knownB Tryz.prog tabG plans Y1 100000 k220_49891 = true)
/-- ratchet/message.Right -/
noncomputable def k329_52084 : Key := ⟨329, [.agg (ap [ni 2, nu 2, nu 0, nu 1, nu 1] (ap (rp 8 (nu 0)) (ap [nb 4, nu 1, nu 0, ni 0, nu 0, nb 0, fs, fs, fs, fs, nu 0] (ap (z8 32) (ap [.sl 51878 0 2 0 false] q157)))))], [(51878, dB128)], 52084, bt, [(51878, dB128)], 52762⟩
theorem k329_52084_ok : KeyOK Tryz.prog tabG k329_52084 := KeyOK.of y1_ok hpl mix 100000 (by kernel_rfl) (by kernel_rfl : knownB Tryz.prog tabG plans Y1 100000 k329_52084 = true)
/-- ratchet/message.Right -/
noncomputable def k329_52890 : Key := ⟨329, [.agg q69], [], 52890, bt, [], 53584⟩
theorem k329_52890_ok : KeyOK Tryz.prog tabG k329_52890 := KeyOK.of y1_ok hpl mix 100000 (by kernel_rfl) (by kernel_rfl : knownB Tryz.prog tabG plans Y1 100000 k329_52890 = true)
/-- ratchet/message.Right -/
noncomputable def k329_53684 : Key := ⟨329, [.agg q81], [(52773, dB128)], 53684, bt, [(52773, dB128)], 54362⟩
theorem k329_53684_ok : KeyOK Tryz.prog tabG k329_53684 := KeyOK.of y1_ok hpl mix 100000 (by kernel_rfl) (by kernel_rfl : knownB Tryz.prog tabG plans Y1 100000 k329_53684 = true)
/-- ratchet/message.Right -/
noncomputable def k329_54485 : Key := ⟨329, [.agg q69], [], 54485, bt, [], 55179⟩
theorem k329_54485_ok : KeyOK Tryz.prog tabG k329_54485 := KeyOK.of y1_ok hpl mix 100000 (by kernel_rfl) (by kernel_rfl : knownB Tryz.prog tabG plans Y1 100000 k329_54485 = true)
/-- ratchet/message.Right -/
noncomputable def k329_55272 : Key := ⟨329, [.agg q81], [(52773, dB128)], 55272, bt, [(52773, dB128)], 55950⟩
theorem k329_55272_ok : KeyOK Tryz.prog tabG k329_55272 := KeyOK.of y1_ok hpl mix 100000 (by kernel_rfl) (by kernel_rfl : knownB Tryz.prog tabG plans Y1 100000 k329_55272 = true)
/-- ratchet/message.Right -/
noncomputable def k329_56281 : Key := ⟨329, [.agg q69], [], 56281, bt, [], 56975⟩
theorem k329_56281_ok : KeyOK Tryz.prog tabG k329_56281 := KeyOK.of y1_ok hpl mix 100000 (by kernel_rfl) (by kernel_rfl : knownB Tryz.prog tabG plans Y1 100000 k329_56281 = true)
/-- ratchet/message.Right -/
noncomputable def k329_57100 : Key := ⟨329, [.agg q69], [], 57100, bt, [], 57794⟩
theorem k329_57100_ok : KeyOK Tryz.prog tabG k329_57100 := KeyOK.of y1_ok hpl mix 100000 (by kernel_rfl) (by kernel_rfl : knownB Tryz.prog tabG plans Y1 100000 k329_57100 = true)
end Go.Proofs.YtahmejhidelkbaaGreatDoor
