/-
  Package session: nil roads; law10: Few.
-/
import Derived.Test.YtbmmknchcdhefaaGreatDoorSxT
import Derived.Test.YtbmmknchcdhefaaGreatDoorProg
import Derived.Test.YtbmmknchcdhefaaGreatDoorSesC
import Derived.Test.YtbmmknchcdhefaaGreatDoorLedG
namespace Go.Proofs.YtbmmknchcdhefaaGreatDoor
open Go.RowKit Go.Sx
set_option linter.unusedVariables false
set_option linter.unusedSimpArgs false
set_option linter.unnecessarySimpa false
set_option maxRecDepth 100000
def dReq : ReqV := ⟨0, 0, ⟨0, ⟨#[]⟩, ⟨#[]⟩, ⟨#[]⟩, ⟨#[]⟩, 0⟩, #v[0, 0, 0, 0, 0, 0, 0, 0, 0, 0, 0, 0, 0, 0, 0, 0, 0, 0, 0, 0, 0, 0, 0, 0, 0, 0, 0, 0, 0, 0, 0, 0]⟩
theorem reqF : CellF ReqV.cells 40 := ⟨fun _ => rfl, fun _ => rfl⟩
end Go.Proofs.YtbmmknchcdhefaaGreatDoor
