/-
  sha.Block at some blocks. Conditions: none.
-/
import Derived.Test.YtnajnkhjnkilgaaGreatDoorEvP
namespace Go.Proofs.YtnajnkhjnkilgaaGreatDoor
open Go.RowKit Go.Sx Go.Ev
set_option linter.unusedVariables false
set_option linter.unusedSimpArgs false
set_option linter.unnecessarySimpa false
set_option maxRecDepth 100000
noncomputable def blkKey15 : List AV × AV := ([w8 [3385226699, 1235168354, 3017711546, 290214195, 2107102870, 792183275, 1051089527, 3736657946], b64 [0, 0, 0, 0, 0, 0, 0, 1, 2, 0, 0, 0, 0, 0, 0, 0, 1, 0, 0, 0, 0, 0, 0, 0, 0, 0, 0, 0, 0, 0, 0, 0, 0, 0, 0, 0, 0, 0, 0, 0, 0, 0, 0, 0, 0, 0, 0, 0, 0, 0, 0, 0, 0, 0, 0, 0, 0, 0, 0, 0, 0, 0, 0, 0]], w8 [335468154, 3112007637, 4008218230, 1781237630, 1883642800, 3201801673, 928447786, 136774448])
theorem blk15 : Known 247 blkKey15 := ⟨by kernel_rfl, by kernel_rfl, by kernel_rfl⟩
noncomputable def blkKey16 : List AV × AV := ([w8 [335468154, 3112007637, 4008218230, 1781237630, 1883642800, 3201801673, 928447786, 136774448], b64 [0, 0, 0, 0, 0, 0, 0, 0, 0, 0, 0, 0, 0, 0, 0, 0, 0, 0, 0, 0, 0, 0, 0, 0, 0, 0, 0, 0, 0, 0, 0, 0, 0, 2, 0, 0, 0, 0, 0, 0, 0, 0, 0, 0, 0, 0, 0, 0, 0, 1, 128, 0, 0, 0, 0, 0, 0, 0, 0, 0, 0, 0, 5, 144]], w8 [205156503, 2273872011, 3209337415, 409920305, 560222020, 4251634991, 3651692787, 1682409327])
theorem blk16 : Known 247 blkKey16 := ⟨by kernel_rfl, by kernel_rfl, by kernel_rfl⟩
noncomputable def blkKey17 : List AV × AV := ([w8 [1779033703, 3144134277, 1013904242, 2773480762, 1359893119, 2600822924, 528734635, 1541459225], b64 [23, 118, 110, 8, 99, 145, 122, 2, 94, 13, 89, 84, 147, 55, 185, 123, 229, 179, 192, 149, 130, 60, 81, 225, 45, 196, 196, 61, 35, 206, 97, 39, 92, 92, 92, 92, 92, 92, 92, 92, 92, 92, 92, 92, 92, 92, 92, 92, 92, 92, 92, 92, 92, 92, 92, 92, 92, 92, 92, 92, 92, 92, 92, 92]], w8 [1740367658, 1074920553, 1818434787, 870542006, 1011283516, 39336996, 1117245943, 488389163])
theorem blk17 : Known 247 blkKey17 := ⟨by kernel_rfl, by kernel_rfl, by kernel_rfl⟩
noncomputable def blkKey18 : List AV × AV := ([w8 [1740367658, 1074920553, 1818434787, 870542006, 1011283516, 39336996, 1117245943, 488389163], b64 [12, 58, 112, 151, 135, 136, 136, 139, 191, 74, 154, 71, 24, 110, 227, 49, 33, 100, 79, 68, 253, 106, 205, 47, 217, 168, 104, 243, 100, 71, 135, 111, 128, 0, 0, 0, 0, 0, 0, 0, 0, 0, 0, 0, 0, 0, 0, 0, 0, 0, 0, 0, 0, 0, 0, 0, 0, 0, 0, 0, 0, 0, 3, 0]], w8 [694088750, 2776976489, 3436874544, 2115542905, 736360991, 608119831, 2045282079, 1063522116])
theorem blk18 : Known 247 blkKey18 := ⟨by kernel_rfl, by kernel_rfl, by kernel_rfl⟩
end Go.Proofs.YtnajnkhjnkilgaaGreatDoor
