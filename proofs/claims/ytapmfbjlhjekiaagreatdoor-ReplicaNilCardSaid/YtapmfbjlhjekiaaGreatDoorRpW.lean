/-
  The anchor ratchet/ratchetlaw22.works is true. Conditions: what ratchet/sha.table holds.
-/
import Derived.Test.YtapmfbjlhjekiaaGreatDoorRpY3
namespace Go.Proofs.YtapmfbjlhjekiaaGreatDoor
open Go.RowKit Go.Sx Go.Ev
set_option linter.unusedVariables false
set_option linter.unusedSimpArgs false
set_option linter.unnecessarySimpa false
set_option maxRecDepth 100000
theorem rpworks_run : (callK Tryz.prog tabG Y3 (execD Tryz.prog tabG plans Y3 100000) 5 [] ⟨.nil, 0⟩).map (·.1) = some (.bool true) := by kernel_rfl
theorem rpworks_spec {w w0 : World} {L : List Asn} (hG : GOK tabG w0 L) (hs : St w0 L w) : Calls Tryz.prog 5 #[] w (Ret fun rv w' => rv = .bool true ∧ St w0 L w') :=
  ev_callG y3_ok 100000 (by kernel_rfl) (avs := []) (vs := []) (by rw [← execD_eq]; exact rpworks_run) rfl rfl hG hs
end Go.Proofs.YtapmfbjlhjekiaaGreatDoor
