/-
  sha.Block at one block. Conditions: none.
-/
import Derived.Test.YtmmnliahojcliaaDoorEvP
namespace Go.Proofs.YtmmnliahojcliaaDoor
open Go.RowKit Go.Sx Go.Ev
set_option linter.unusedVariables false
set_option linter.unusedSimpArgs false
set_option linter.unnecessarySimpa false
set_option maxRecDepth 100000
def key1 : List AV × AV := ([w8 [1779033703, 3144134277, 1013904242, 2773480762, 1359893119, 2600822924, 528734635, 1541459225], b64 [75, 180, 115, 157, 176, 112, 191, 174, 179, 149, 75, 148, 15, 122, 243, 123, 131, 183, 27, 205, 1, 60, 39, 6, 136, 85, 102, 100, 43, 227, 40, 242, 54, 54, 54, 54, 54, 54, 54, 54, 54, 54, 54, 54, 54, 54, 54, 54, 54, 54, 54, 54, 54, 54, 54, 54, 54, 54, 54, 54, 54, 54, 54, 54]], w8 [539560742, 1417069998, 2044710616, 3347283774, 3561489249, 4134360919, 2541014337, 1507001365])
theorem blk1 : Known 41 key1 := ⟨by kernel_rfl, by kernel_rfl, by kernel_rfl⟩
end Go.Proofs.YtmmnliahojcliaaDoor
