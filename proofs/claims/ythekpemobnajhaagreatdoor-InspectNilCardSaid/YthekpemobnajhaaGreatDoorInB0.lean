/-
  sha.Block at some blocks. Conditions: none.
-/
import Derived.Test.YthekpemobnajhaaGreatDoorEvP
namespace Go.Proofs.YthekpemobnajhaaGreatDoor
open Go.RowKit Go.Sx Go.Ev
set_option linter.unusedVariables false
set_option linter.unusedSimpArgs false
set_option linter.unnecessarySimpa false
set_option maxRecDepth 100000
noncomputable def blkKey0 : List AV × AV := ([w8 [1779033703, 3144134277, 1013904242, 2773480762, 1359893119, 2600822924, 528734635, 1541459225], b64 [114, 97, 116, 99, 104, 101, 116, 32, 114, 101, 112, 108, 105, 99, 97, 0, 0, 0, 0, 0, 0, 0, 1, 128, 0, 0, 0, 0, 0, 0, 0, 0, 0, 0, 0, 0, 0, 0, 0, 0, 0, 0, 0, 0, 0, 0, 0, 0, 0, 0, 0, 0, 0, 0, 0, 0, 0, 0, 0, 0, 0, 0, 0, 184]], w8 [2379578029, 240531846, 1991791493, 3492588041, 3796345849, 447285144, 3489656928, 3370700188])
theorem blk0 : Known 172 blkKey0 := ⟨by kernel_rfl, by kernel_rfl, by kernel_rfl⟩
end Go.Proofs.YthekpemobnajhaaGreatDoor
