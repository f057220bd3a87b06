/-
  sha.Block at one block. Conditions: none.
-/
import Derived.Test.YtmmnliahojcliaaDoorEvP
namespace Go.Proofs.YtmmnliahojcliaaDoor
open Go.RowKit Go.Sx Go.Ev
set_option linter.unusedVariables false
set_option linter.unusedSimpArgs false
set_option linter.unnecessarySimpa false
set_option maxRecDepth 100000
def key2 : List AV × AV := ([w8 [539560742, 1417069998, 2044710616, 3347283774, 3561489249, 4134360919, 2541014337, 1507001365], b64 [1, 1, 0, 0, 0, 0, 0, 0, 0, 1, 0, 0, 0, 0, 0, 0, 0, 0, 0, 1, 97, 0, 0, 0, 0, 0, 0, 128, 0, 0, 0, 0, 0, 0, 0, 0, 0, 0, 0, 0, 0, 0, 0, 0, 0, 0, 0, 0, 0, 0, 0, 0, 0, 0, 0, 0, 0, 0, 0, 0, 0, 0, 2, 216]], w8 [3575159454, 189579428, 3416798850, 801381183, 2971484936, 300900635, 2726689126, 3272139537])
theorem blk2 : Known 41 key2 := ⟨by kernel_rfl, by kernel_rfl, by kernel_rfl⟩
end Go.Proofs.YtmmnliahojcliaaDoor
