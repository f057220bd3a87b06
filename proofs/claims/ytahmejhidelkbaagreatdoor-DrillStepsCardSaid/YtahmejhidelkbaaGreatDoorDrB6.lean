/-
  sha.Block at some blocks. Conditions: none.
-/
import Derived.Test.YtahmejhidelkbaaGreatDoorEvP
namespace Go.Proofs.YtahmejhidelkbaaGreatDoor
open Go.RowKit Go.Sx Go.Ev
set_option linter.unusedVariables false
set_option linter.unusedSimpArgs false
set_option linter.unnecessarySimpa false
set_option maxRecDepth 100000
noncomputable def blkKey30 : List AV × AV := ([w8 [3151516401, 3690165036, 3433796639, 1133257663, 3675963038, 2985129729, 2287305888, 479394319], b64 [0, 0, 0, 0, 0, 0, 0, 0, 0, 0, 0, 0, 0, 0, 0, 0, 0, 0, 0, 0, 0, 0, 0, 0, 0, 0, 0, 0, 0, 0, 0, 0, 0, 2, 0, 0, 0, 0, 0, 0, 0, 1, 0, 0, 0, 0, 0, 0, 0, 1, 128, 0, 0, 0, 0, 0, 0, 0, 0, 0, 0, 0, 5, 144]], w8 [735886248, 4047796848, 396467489, 31076973, 3064298291, 1265233830, 1878977378, 2841653463])
theorem blk30 : Known 247 blkKey30 := ⟨by kernel_rfl, by kernel_rfl, by kernel_rfl⟩
noncomputable def blkKey31 : List AV × AV := ([w8 [121221769, 2534671650, 1238130073, 3009409118, 1458931139, 1859517852, 1007477031, 2047176676], b64 [43, 220, 187, 168, 241, 68, 122, 112, 23, 161, 157, 33, 1, 218, 50, 109, 182, 165, 123, 51, 75, 105, 239, 166, 111, 254, 235, 98, 169, 96, 48, 215, 128, 0, 0, 0, 0, 0, 0, 0, 0, 0, 0, 0, 0, 0, 0, 0, 0, 0, 0, 0, 0, 0, 0, 0, 0, 0, 0, 0, 0, 0, 3, 0]], w8 [3524202962, 1615360302, 3876501616, 4044076935, 2461523633, 1206268945, 1756954047, 533762361])
theorem blk31 : Known 247 blkKey31 := ⟨by kernel_rfl, by kernel_rfl, by kernel_rfl⟩
end Go.Proofs.YtahmejhidelkbaaGreatDoor
