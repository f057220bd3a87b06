/-
  The document's rows. Conditions: none beside each theorem's own.
-/
import Derived.Test.YtbmmknchcdhefaaGreatDoorSxT
import Derived.Test.YtbmmknchcdhefaaGreatDoorHisF
namespace Go.Proofs.YtbmmknchcdhefaaGreatDoor
open Go.RowKit Go.Sx
set_option linter.unusedVariables false
set_option linter.unusedSimpArgs false
set_option linter.unnecessarySimpa false
set_option maxRecDepth 100000
theorem rcallsOK : ElemOK Tryz.prog 32 78 13 144 := ⟨by kernel_rfl, ⟨Tryz.t78, .agg dCall.cells, by kernel_rfl, by kernel_rfl, by kernel_rfl, by kernel_rfl, by kernel_rfl⟩, by decide⟩
theorem repF : CellF RepV.cells 2 := ⟨fun _ => rfl, fun _ => rfl⟩
theorem repsOK : ElemOK Tryz.prog 82 51 2 24 := ⟨by kernel_rfl, ⟨Tryz.t51, .agg (RepV.cells ⟨0, ⟨#[]⟩⟩), by kernel_rfl, by kernel_rfl, by kernel_rfl, by kernel_rfl, by kernel_rfl⟩, by decide⟩
def boolC (b : Bool) : Array Value := #[.bool b]
theorem boolF : CellF boolC 1 := ⟨fun _ => rfl, fun _ => rfl⟩
theorem boolsOK : ElemOK Tryz.prog 83 4 1 1 := ⟨by kernel_rfl, ⟨Tryz.t4, .bool false, by kernel_rfl, by kernel_rfl, by kernel_rfl, by kernel_rfl, by kernel_rfl⟩, by decide⟩
end Go.Proofs.YtbmmknchcdhefaaGreatDoor
