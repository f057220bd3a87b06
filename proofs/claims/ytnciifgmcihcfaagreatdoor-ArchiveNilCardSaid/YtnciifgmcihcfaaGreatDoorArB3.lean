/-
  sha.Block at some blocks. Conditions: none.
-/
import Derived.Test.YtnciifgmcihcfaaGreatDoorEvP
namespace Go.Proofs.YtnciifgmcihcfaaGreatDoor
open Go.RowKit Go.Sx Go.Ev
set_option linter.unusedVariables false
set_option linter.unusedSimpArgs false
set_option linter.unnecessarySimpa false
set_option maxRecDepth 100000
def blkKey15 : List AV × AV := ([w8 [232169666, 2440824768, 3182593874, 2773494021, 1475967355, 684250864, 3768178314, 1263501249], b64 [194, 251, 48, 139, 221, 221, 139, 186, 121, 168, 128, 0, 0, 0, 0, 0, 0, 0, 0, 0, 0, 0, 0, 0, 0, 0, 0, 0, 0, 0, 0, 0, 0, 0, 0, 0, 0, 0, 0, 0, 0, 0, 0, 0, 0, 0, 0, 0, 0, 0, 0, 0, 0, 0, 0, 0, 0, 0, 0, 0, 0, 0, 6, 80]], w8 [2444599985, 4194212387, 138209702, 3636329188, 1638601985, 3617435920, 2112858306, 1730107872])
theorem blk15 : Known 111 blkKey15 := ⟨by kernel_rfl, by kernel_rfl, by kernel_rfl⟩
def blkKey16 : List AV × AV := ([w8 [1779033703, 3144134277, 1013904242, 2773480762, 1359893119, 2600822924, 528734635, 1541459225], b64 [255, 64, 8, 144, 181, 207, 47, 134, 182, 210, 229, 195, 147, 178, 89, 199, 103, 230, 87, 247, 232, 240, 136, 40, 135, 96, 221, 138, 194, 79, 78, 63, 92, 92, 92, 92, 92, 92, 92, 92, 92, 92, 92, 92, 92, 92, 92, 92, 92, 92, 92, 92, 92, 92, 92, 92, 92, 92, 92, 92, 92, 92, 92, 92]], w8 [121221769, 2534671650, 1238130073, 3009409118, 1458931139, 1859517852, 1007477031, 2047176676])
theorem blk16 : Known 111 blkKey16 := ⟨by kernel_rfl, by kernel_rfl, by kernel_rfl⟩
def blkKey17 : List AV × AV := ([w8 [121221769, 2534671650, 1238130073, 3009409118, 1458931139, 1859517852, 1007477031, 2047176676], b64 [145, 181, 162, 177, 249, 254, 154, 35, 8, 60, 233, 166, 216, 189, 250, 228, 97, 171, 21, 1, 215, 157, 177, 16, 125, 239, 168, 194, 103, 31, 89, 224, 128, 0, 0, 0, 0, 0, 0, 0, 0, 0, 0, 0, 0, 0, 0, 0, 0, 0, 0, 0, 0, 0, 0, 0, 0, 0, 0, 0, 0, 0, 3, 0]], w8 [641323351, 3951111180, 3896782534, 129158150, 2695877338, 316397410, 4220163050, 2513194619])
theorem blk17 : Known 111 blkKey17 := ⟨by kernel_rfl, by kernel_rfl, by kernel_rfl⟩
end Go.Proofs.YtnciifgmcihcfaaGreatDoor
