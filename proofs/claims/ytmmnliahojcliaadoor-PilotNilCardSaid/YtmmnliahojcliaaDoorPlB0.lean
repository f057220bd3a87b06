/-
  sha.Block at one block. Conditions: none.
-/
import Derived.Test.YtmmnliahojcliaaDoorEvP
namespace Go.Proofs.YtmmnliahojcliaaDoor
open Go.RowKit Go.Sx Go.Ev
set_option linter.unusedVariables false
set_option linter.unusedSimpArgs false
set_option linter.unnecessarySimpa false
set_option maxRecDepth 100000
def key0 : List AV × AV := ([w8 [1779033703, 3144134277, 1013904242, 2773480762, 1359893119, 2600822924, 528734635, 1541459225], b64 [114, 97, 116, 99, 104, 101, 116, 32, 99, 108, 105, 101, 110, 116, 0, 0, 0, 0, 0, 0, 0, 1, 128, 0, 0, 0, 0, 0, 0, 0, 0, 0, 0, 0, 0, 0, 0, 0, 0, 0, 0, 0, 0, 0, 0, 0, 0, 0, 0, 0, 0, 0, 0, 0, 0, 0, 0, 0, 0, 0, 0, 0, 0, 176]], w8 [2105689515, 2252769688, 2242084258, 961332557, 3045142011, 923406640, 3194179666, 500506308])
theorem blk0 : Known 41 key0 := ⟨by kernel_rfl, by kernel_rfl, by kernel_rfl⟩
end Go.Proofs.YtmmnliahojcliaaDoor
