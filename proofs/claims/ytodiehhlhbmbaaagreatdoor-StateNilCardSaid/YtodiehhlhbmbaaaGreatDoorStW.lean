/-
  The anchor of layer 11 is true. Conditions: none.
-/
import Derived.Test.YtodiehhlhbmbaaaGreatDoorEvP
namespace Go.Proofs.YtodiehhlhbmbaaaGreatDoor
open Go.RowKit Go.Sx Go.Ev
set_option linter.unusedVariables false
set_option linter.unusedSimpArgs false
set_option linter.unnecessarySimpa false
set_option maxRecDepth 100000
theorem stworks_run : (callK Tryz.prog (fun _ => none) X0 (run0 100000 X0) 6 [] ⟨.nil, 0⟩).map (·.1) = some (.bool true) := by kernel_rfl
theorem stworks_spec {w w0 : World} {L : List Asn} (hs : St w0 L w) : Calls Tryz.prog 6 #[] w (Ret fun rv w' => rv = .bool true ∧ St w0 L w') :=
  ev_call x0_ok 100000 (by kernel_rfl) (avs := []) (vs := []) stworks_run rfl rfl hs
end Go.Proofs.YtodiehhlhbmbaaaGreatDoor
