/-
  The anchor ratchet/ratchetlaw30.works is true. Conditions: what ratchet/sha.table holds.
-/
import Derived.Test.YthekpemobnajhaaGreatDoorInY1
namespace Go.Proofs.YthekpemobnajhaaGreatDoor
open Go.RowKit Go.Sx Go.Ev
set_option linter.unusedVariables false
set_option linter.unusedSimpArgs false
set_option linter.unnecessarySimpa false
set_option maxRecDepth 100000
theorem inworks_run : (callK Tryz.prog tabG Y1 (execD Tryz.prog tabG plans Y1 100000) 8 [] ⟨.nil, 0⟩).map (·.1) = some (.bool true) := by kernel_rfl
theorem inworks_spec {w w0 : World} {L : List Asn} (hG : GOK tabG w0 L) (hs : St w0 L w) : Calls Tryz.prog 8 #[] w (Ret fun rv w' => rv = .bool true ∧ St w0 L w') :=
  ev_callG y1_ok 100000 (by kernel_rfl) (avs := []) (vs := []) (by rw [← execD_eq]; exact inworks_run) rfl rfl hG hs
end Go.Proofs.YthekpemobnajhaaGreatDoor
