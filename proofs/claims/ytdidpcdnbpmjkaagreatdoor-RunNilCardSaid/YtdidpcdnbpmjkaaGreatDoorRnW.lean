/-
  The anchor of layer 17 is true. Conditions: none.
-/
import Derived.Test.YtdidpcdnbpmjkaaGreatDoorEvP
namespace Go.Proofs.YtdidpcdnbpmjkaaGreatDoor
open Go.RowKit Go.Sx Go.Ev
set_option linter.unusedVariables false
set_option linter.unusedSimpArgs false
set_option linter.unnecessarySimpa false
set_option maxRecDepth 100000
theorem rnworks_run : (callK Tryz.prog (fun _ => none) X0 (run0 100000 X0) 5 [] ⟨.nil, 0⟩).map (·.1) = some (.bool true) := by kernel_rfl
theorem rnworks_spec {w w0 : World} {L : List Asn} (hs : St w0 L w) : Calls Tryz.prog 5 #[] w (Ret fun rv w' => rv = .bool true ∧ St w0 L w') :=
  ev_call x0_ok 100000 (by kernel_rfl) (avs := []) (vs := []) rnworks_run rfl rfl hs
end Go.Proofs.YtdidpcdnbpmjkaaGreatDoor
