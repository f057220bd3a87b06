/-
  Some calls of the anchor, reckoned by themselves. Conditions: none beside what ratchet/sha.table holds.
-/
import Derived.Test.YthdggndldnefpaaGreatDoorWoY5
namespace Go.Proofs.YthdggndldnefpaaGreatDoor
open Go.RowKit Go.Sx Go.Ev
set_option linter.unusedVariables false
set_option linter.unusedSimpArgs false
set_option linter.unnecessarySimpa false
set_option maxRecDepth 100000
/-- (*ratchet/world.World).round -/
noncomputable def k69_10130 : Key := ⟨69, [.ptr 6079 0], (aj c44 (aj c45 (aj c46 (aj c20 (aj c21 (aj c22 (aj c23 (aj c24 (aj c25 (aj c26 (aj c27 c47))))))))))), 10130, .tup [], (aj c129 (aj c125 (aj c82 (aj [(1113, dB76), (1235, .cells []), (1361, dB77)] (aj c130 (aj c86 (aj c87 (aj c131 (aj [(3258, .cells [])] (aj c132 (aj c75 (aj c66 (aj c116 (aj c70 (aj [(5159, dB136), (5281, .cells []), (5407, dB137), (6060, dB138), (6076, .cells [.ptr 4058 0, .ptr 5038 0]), (6078, dB62), (6079, .cells [ni 3, .ptr 1 0, .sl 29629 0 1 0 false, bf, .sl 49178 0 1 0 false]), (11545, dB68), (13839, dB79), (13841, dB65), (15421, dB74)] (aj c77 (aj [(29490, dB98)] (aj c128 [(36542, dB98), (38521, dB113), (38631, dB68), (40565, dB139), (40567, dB124), (41824, dB131), (41828, dB132), (46088, dB131), (46092, dB132), (48610, dB131), (48614, dB132), (49178, dB114)])))))))))))))))))), 49229⟩
theorem k69_10130_ok : KeyOK Tryz.prog tabG k69_10130 := KeyOK.of y5_ok hpl mix 100000 (by kernel_rfl) (by kernel_rfl : knownB Tryz.prog tabG plans Y5 100000 k69_10130 = true)
end Go.Proofs.YthdggndldnefpaaGreatDoor
