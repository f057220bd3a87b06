/-
  The anchor ratchet/ratchetlaw26.works is true. Conditions: what ratchet/sha.table holds.
-/
import Derived.Test.YtnajnkhjnkilgaaGreatDoorClY4
namespace Go.Proofs.YtnajnkhjnkilgaaGreatDoor
open Go.RowKit Go.Sx Go.Ev
set_option linter.unusedVariables false
set_option linter.unusedSimpArgs false
set_option linter.unnecessarySimpa false
set_option maxRecDepth 100000
theorem clworks_run : (callK Tryz.prog tabG Y4 (execD Tryz.prog tabG plans Y4 100000) 6 [] ⟨.nil, 0⟩).map (·.1) = some (.bool true) := by kernel_rfl
theorem clworks_spec {w w0 : World} {L : List Asn} (hG : GOK tabG w0 L) (hs : St w0 L w) : Calls Tryz.prog 6 #[] w (Ret fun rv w' => rv = .bool true ∧ St w0 L w') :=
  ev_callG y4_ok 100000 (by kernel_rfl) (avs := []) (vs := []) (by rw [← execD_eq]; exact clworks_run) rfl rfl hG hs
end Go.Proofs.YtnajnkhjnkilgaaGreatDoor
