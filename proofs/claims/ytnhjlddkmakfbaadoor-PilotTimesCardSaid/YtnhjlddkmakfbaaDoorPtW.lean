/-
  The anchor ratchet/ratchetlaw35.works is true. Conditions: what ratchet/sha.table holds.
-/
import Derived.Test.YtnhjlddkmakfbaaDoorPtX
namespace Go.Proofs.YtnhjlddkmakfbaaDoor
open Go.RowKit Go.Sx Go.Ev
set_option linter.unusedVariables false
set_option linter.unusedSimpArgs false
set_option linter.unnecessarySimpa false
set_option maxRecDepth 100000
theorem ptworks_run : (callK Tryd.prog tabG XS0 (execD Tryd.prog tabG plans XS0 100000) 4 [] ⟨.nil, 0⟩).map (·.1) = some (.bool true) := by kernel_rfl
theorem ptworks_spec {w w0 : World} {L : List Asn} (hG : GOK tabG w0 L) (hs : St w0 L w) : Calls Tryd.prog 4 #[] w (Ret fun rv w' => rv = .bool true ∧ St w0 L w') :=
  ev_callG xs0_ok 100000 (by kernel_rfl) (avs := []) (vs := []) (by rw [← execD_eq]; exact ptworks_run) rfl rfl hG hs
end Go.Proofs.YtnhjlddkmakfbaaDoor
