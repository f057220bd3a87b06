/-
  sha.Block at one block. Conditions: none.
-/
import Derived.Test.YtmmnliahojcliaaDoorEvP
namespace Go.Proofs.YtmmnliahojcliaaDoor
open Go.RowKit Go.Sx Go.Ev
set_option linter.unusedVariables false
set_option linter.unusedSimpArgs false
set_option linter.unnecessarySimpa false
set_option maxRecDepth 100000
def key3 : List AV × AV := ([w8 [1779033703, 3144134277, 1013904242, 2773480762, 1359893119, 2600822924, 528734635, 1541459225], b64 [33, 222, 25, 247, 218, 26, 213, 196, 217, 255, 33, 254, 101, 16, 153, 17, 233, 221, 113, 167, 107, 86, 77, 108, 226, 63, 12, 14, 65, 137, 66, 152, 92, 92, 92, 92, 92, 92, 92, 92, 92, 92, 92, 92, 92, 92, 92, 92, 92, 92, 92, 92, 92, 92, 92, 92, 92, 92, 92, 92, 92, 92, 92, 92]], w8 [2566018353, 35313745, 918840216, 3458227154, 799268865, 2232422427, 1898981727, 1386925229])
theorem blk3 : Known 41 key3 := ⟨by kernel_rfl, by kernel_rfl, by kernel_rfl⟩
end Go.Proofs.YtmmnliahojcliaaDoor
