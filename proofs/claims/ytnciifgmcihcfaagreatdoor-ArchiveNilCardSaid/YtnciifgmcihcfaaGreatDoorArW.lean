/-
  The anchor ratchet/ratchetlaw32.works is true. Conditions: what ratchet/sha.table holds.
-/
import Derived.Test.YtnciifgmcihcfaaGreatDoorArY2
namespace Go.Proofs.YtnciifgmcihcfaaGreatDoor
open Go.RowKit Go.Sx Go.Ev
set_option linter.unusedVariables false
set_option linter.unusedSimpArgs false
set_option linter.unnecessarySimpa false
set_option maxRecDepth 100000
theorem arworks_run : (callK Tryz.prog tabG Y2 (execD Tryz.prog tabG plans Y2 100000) 4 [] ⟨.nil, 0⟩).map (·.1) = some (.bool true) := by kernel_rfl
theorem arworks_spec {w w0 : World} {L : List Asn} (hG : GOK tabG w0 L) (hs : St w0 L w) : Calls Tryz.prog 4 #[] w (Ret fun rv w' => rv = .bool true ∧ St w0 L w') :=
  ev_callG y2_ok 100000 (by kernel_rfl) (avs := []) (vs := []) (by rw [← execD_eq]; exact arworks_run) rfl rfl hG hs
end Go.Proofs.YtnciifgmcihcfaaGreatDoor
