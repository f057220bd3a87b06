/-
  sha.Block at one block. Conditions: none.
-/
import Derived.Test.YtmmnliahojcliaaDoorEvP
namespace Go.Proofs.YtmmnliahojcliaaDoor
open Go.RowKit Go.Sx Go.Ev
set_option linter.unusedVariables false
set_option linter.unusedSimpArgs false
set_option linter.unnecessarySimpa false
set_option maxRecDepth 100000
def key4 : List AV × AV := ([w8 [2566018353, 35313745, 918840216, 3458227154, 799268865, 2232422427, 1898981727, 1386925229], b64 [213, 24, 154, 158, 11, 76, 192, 164, 203, 168, 54, 130, 47, 196, 27, 63, 177, 29, 67, 8, 17, 239, 97, 27, 162, 133, 249, 102, 195, 8, 227, 17, 128, 0, 0, 0, 0, 0, 0, 0, 0, 0, 0, 0, 0, 0, 0, 0, 0, 0, 0, 0, 0, 0, 0, 0, 0, 0, 0, 0, 0, 0, 3, 0]], w8 [843058377, 281989470, 2014941408, 4196483908, 2061838465, 92217710, 3913323527, 1910442674])
theorem blk4 : Known 41 key4 := ⟨by kernel_rfl, by kernel_rfl, by kernel_rfl⟩
end Go.Proofs.YtmmnliahojcliaaDoor
