/-
  sha.Block at some blocks. Conditions: none.
-/
import Derived.Test.YteokklempfnpaaaGreatDoorEvP
namespace Go.Proofs.YteokklempfnpaaaGreatDoor
open Go.RowKit Go.Sx Go.Ev
set_option linter.unusedVariables false
set_option linter.unusedSimpArgs false
set_option linter.unnecessarySimpa false
set_option maxRecDepth 100000
noncomputable def blkKey5 : List AV × AV := ([w8 [539560742, 1417069998, 2044710616, 3347283774, 3561489249, 4134360919, 2541014337, 1507001365], b64 [1, 2, 0, 0, 0, 0, 0, 0, 0, 1, 0, 0, 0, 0, 0, 0, 0, 0, 0, 1, 97, 0, 1, 49, 0, 0, 0, 0, 128, 0, 0, 0, 0, 0, 0, 0, 0, 0, 0, 0, 0, 0, 0, 0, 0, 0, 0, 0, 0, 0, 0, 0, 0, 0, 0, 0, 0, 0, 0, 0, 0, 0, 2, 224]], w8 [3784973683, 4203395104, 126113105, 2664297082, 1637624941, 4066999740, 2745398829, 3037241122])
theorem blk5 : Known 400 blkKey5 := ⟨by kernel_rfl, by kernel_rfl, by kernel_rfl⟩
noncomputable def blkKey6 : List AV × AV := ([w8 [1779033703, 3144134277, 1013904242, 2773480762, 1359893119, 2600822924, 528734635, 1541459225], b64 [33, 222, 25, 247, 218, 26, 213, 196, 217, 255, 33, 254, 101, 16, 153, 17, 233, 221, 113, 167, 107, 86, 77, 108, 226, 63, 12, 14, 65, 137, 66, 152, 92, 92, 92, 92, 92, 92, 92, 92, 92, 92, 92, 92, 92, 92, 92, 92, 92, 92, 92, 92, 92, 92, 92, 92, 92, 92, 92, 92, 92, 92, 92, 92]], w8 [2566018353, 35313745, 918840216, 3458227154, 799268865, 2232422427, 1898981727, 1386925229])
theorem blk6 : Known 400 blkKey6 := ⟨by kernel_rfl, by kernel_rfl, by kernel_rfl⟩
noncomputable def blkKey7 : List AV × AV := ([w8 [2566018353, 35313745, 918840216, 3458227154, 799268865, 2232422427, 1898981727, 1386925229], b64 [225, 154, 29, 115, 250, 138, 184, 32, 7, 132, 85, 81, 158, 205, 242, 122, 97, 156, 44, 109, 242, 105, 125, 188, 163, 163, 118, 45, 181, 8, 159, 34, 128, 0, 0, 0, 0, 0, 0, 0, 0, 0, 0, 0, 0, 0, 0, 0, 0, 0, 0, 0, 0, 0, 0, 0, 0, 0, 0, 0, 0, 0, 3, 0]], w8 [306657602, 2354366458, 3007857169, 4239343105, 2252153039, 2425619295, 2579253707, 828872830])
theorem blk7 : Known 400 blkKey7 := ⟨by kernel_rfl, by kernel_rfl, by kernel_rfl⟩
end Go.Proofs.YteokklempfnpaaaGreatDoor
