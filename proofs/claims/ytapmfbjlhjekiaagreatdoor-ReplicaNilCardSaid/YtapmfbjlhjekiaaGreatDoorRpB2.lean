/-
  sha.Block at some blocks. Conditions: none.
-/
import Derived.Test.YtapmfbjlhjekiaaGreatDoorEvP
namespace Go.Proofs.YtapmfbjlhjekiaaGreatDoor
open Go.RowKit Go.Sx Go.Ev
set_option linter.unusedVariables false
set_option linter.unusedSimpArgs false
set_option linter.unnecessarySimpa false
set_option maxRecDepth 100000
noncomputable def blkKey10 : List AV × AV := ([w8 [1779033703, 3144134277, 1013904242, 2773480762, 1359893119, 2600822924, 528734635, 1541459225], b64 [209, 137, 38, 241, 82, 10, 101, 218, 42, 228, 15, 217, 140, 112, 246, 85, 190, 27, 255, 165, 70, 245, 91, 196, 147, 163, 172, 60, 148, 180, 145, 192, 92, 92, 92, 92, 92, 92, 92, 92, 92, 92, 92, 92, 92, 92, 92, 92, 92, 92, 92, 92, 92, 92, 92, 92, 92, 92, 92, 92, 92, 92, 92, 92]], w8 [3027000786, 3961005765, 997304843, 1197006476, 708625524, 828833778, 3282937705, 2952323835])
theorem blk10 : Known 264 blkKey10 := ⟨by kernel_rfl, by kernel_rfl, by kernel_rfl⟩
noncomputable def blkKey11 : List AV × AV := ([w8 [3027000786, 3961005765, 997304843, 1197006476, 708625524, 828833778, 3282937705, 2952323835], b64 [206, 208, 88, 230, 97, 0, 253, 26, 2, 66, 205, 43, 145, 173, 68, 3, 127, 48, 158, 31, 72, 39, 173, 181, 16, 21, 74, 245, 213, 128, 255, 91, 128, 0, 0, 0, 0, 0, 0, 0, 0, 0, 0, 0, 0, 0, 0, 0, 0, 0, 0, 0, 0, 0, 0, 0, 0, 0, 0, 0, 0, 0, 3, 0]], w8 [3828764182, 2823243531, 3834923516, 1766913194, 3974297425, 2796806513, 1910520398, 3967980691])
theorem blk11 : Known 264 blkKey11 := ⟨by kernel_rfl, by kernel_rfl, by kernel_rfl⟩
end Go.Proofs.YtapmfbjlhjekiaaGreatDoor
