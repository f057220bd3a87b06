/-
  Some calls of the anchor, reckoned by themselves. Conditions: none beside what ratchet/sha.table holds.
-/
import Derived.Test.YthdggndldnefpaaGreatDoorWoX
namespace Go.Proofs.YthdggndldnefpaaGreatDoor
open Go.RowKit Go.Sx Go.Ev
set_option linter.unusedVariables false
set_option linter.unusedSimpArgs false
set_option linter.unnecessarySimpa false
set_option maxRecDepth 100000
/-- ratchet/message.sign -/
noncomputable def k218_17102 : Key := ⟨218, [.agg q25], [], 17102, .agg (b8 [18, 71, 57, 66, 140, 84, 199, 250, 179, 72, 66, 17, 252, 175, 62, 1, 134, 61, 32, 207, 144, 148, 3, 95, 153, 188, 73, 203, 49, 103, 152, 126]), [], 17358⟩
theorem k218_17102_ok : KeyOK Tryz.prog tabG k218_17102 := KeyOK.of x1_ok hpl mix 100000 (by kernel_rfl) (by kernel_rfl : knownB Tryz.prog tabG plans X1 100000 k218_17102 = true)
/-- (*ratchet/world.World).Do -/
noncomputable def k17_17412 : Key := ⟨17, [.ptr 6079 0, .agg (ap [nb 4, ni 0, ni 1, ni 0, ni 0, ni 0, nb 0, fs, fs, fs, fs, nu 0, nb 0, nu 0, nu 0, ni 0, nu 0, nb 0, fs, fs, fs, fs, nu 0] q58)], (aj c16 (aj c17 (aj c18 (aj c19 (aj c20 (aj c21 (aj c22 (aj c23 (aj c24 (aj c25 (aj c26 (aj c27 (aj c28 c29))))))))))))), 17412, .agg q31, (aj [(0, .cells (ap [.sl 17689 0 2 0 false] (rp 144 (.bool false)))), (1, dB80), (2, dB63), (3, dB13), (4, dB14), (5, dB15), (6, dB16), (7, dB17), (8, dB18), (9, dB19), (10, dB75), (11, dB75), (12, dB0), (992, dB20), (998, .map [] 0), (999, .cells [.mp 998]), (1000, .map [] 0), (1001, .cells [.mp 1000]), (1002, dB21), (1003, dB22), (1004, .map [] 0), (1005, dB23), (1006, dB66), (1007, dB67), (1011, dB69)] (aj c17 (aj c18 (aj c19 (aj c20 (aj c21 (aj c22 (aj c23 (aj c24 (aj c25 (aj c26 (aj c27 (aj c28 [(15799, dB68), (15801, .buf [nu 1] 1), (17563, dB74), (17686, dB74), (17689, .buf (ap [ni 1, ni 2, nu 1] (ap (rp 10 (nu 0)) (ap [.sl 17563 0 1 0 false, ni 1, ni 3, nu 1] q85))) 14)]))))))))))))), 17735⟩
theorem k17_17412_ok : KeyOK Tryz.prog tabG k17_17412 := KeyOK.of x1_ok hpl mix 100000 (by kernel_rfl) (by kernel_rfl : knownB Tryz.prog tabG plans X1 100000 k17_17412 = true)
/-- ratchet/tag.Numbered -/
noncomputable def k204_18374 : Key := ⟨204, [ni 1, nu 1, .sl 18295 0 158 0 false], [(18295, dB65)], 18374, .agg (b8 [152, 243, 90, 56, 119, 241, 88, 247, 65, 96, 88, 42, 35, 111, 236, 29, 214, 119, 183, 61, 122, 65, 152, 51, 96, 200, 52, 227, 19, 77, 47, 195]), [(18295, dB65)], 18565⟩
theorem k204_18374_ok : KeyOK Tryz.prog tabG k204_18374 := KeyOK.of x1_ok hpl mix 100000 (by kernel_rfl) (by kernel_rfl : knownB Tryz.prog tabG plans X1 100000 k204_18374 = true)
/-- ratchet/tag.Numbered -/
noncomputable def k204_19196 : Key := ⟨204, [ni 1, nu 1, .sl 19117 0 158 0 false], [(19117, dB65)], 19196, .agg (b8 [152, 243, 90, 56, 119, 241, 88, 247, 65, 96, 88, 42, 35, 111, 236, 29, 214, 119, 183, 61, 122, 65, 152, 51, 96, 200, 52, 227, 19, 77, 47, 195]), [(19117, dB65)], 19387⟩
theorem k204_19196_ok : KeyOK Tryz.prog tabG k204_19196 := KeyOK.of x1_ok hpl mix 100000 (by kernel_rfl) (by kernel_rfl : knownB Tryz.prog tabG plans X1 100000 k204_19196 = true)
/-- ratchet/tag.Numbered -/
noncomputable def k204_20014 : Key := ⟨204, [ni 1, nu 1, .sl 19935 0 158 0 false], [(19935, dB65)], 20014, .agg (b8 [152, 243, 90, 56, 119, 241, 88, 247, 65, 96, 88, 42, 35, 111, 236, 29, 214, 119, 183, 61, 122, 65, 152, 51, 96, 200, 52, 227, 19, 77, 47, 195]), [(19935, dB65)], 20205⟩
theorem k204_20014_ok : KeyOK Tryz.prog tabG k204_20014 := KeyOK.of x1_ok hpl mix 100000 (by kernel_rfl) (by kernel_rfl : knownB Tryz.prog tabG plans X1 100000 k204_20014 = true)
/-- ratchet/message.sign -/
noncomputable def k218_20333 : Key := ⟨218, [.agg q25], [], 20333, .agg (b8 [18, 71, 57, 66, 140, 84, 199, 250, 179, 72, 66, 17, 252, 175, 62, 1, 134, 61, 32, 207, 144, 148, 3, 95, 153, 188, 73, 203, 49, 103, 152, 126]), [], 20589⟩
theorem k218_20333_ok : KeyOK Tryz.prog tabG k218_20333 := KeyOK.of x1_ok hpl mix 100000 (by kernel_rfl) (by kernel_rfl : knownB Tryz.prog tabG plans X1 100000 k218_20333 = true)
/-- ratchet/tag.Numbered -/
noncomputable def k204_21966 : Key := ⟨204, [ni 1, nu 1, .sl 21887 0 158 0 false], [(21887, dB65)], 21966, .agg (b8 [152, 243, 90, 56, 119, 241, 88, 247, 65, 96, 88, 42, 35, 111, 236, 29, 214, 119, 183, 61, 122, 65, 152, 51, 96, 200, 52, 227, 19, 77, 47, 195]), [(21887, dB65)], 22157⟩
theorem k204_21966_ok : KeyOK Tryz.prog tabG k204_21966 := KeyOK.of x1_ok hpl mix 100000 (by kernel_rfl) (by kernel_rfl : knownB Tryz.prog tabG plans X1 100000 k204_21966 = true)
/-- ratchet/tag.Numbered -/
noncomputable def k204_22788 : Key := ⟨204, [ni 1, nu 1, .sl 22709 0 158 0 false], [(22709, dB65)], 22788, .agg (b8 [152, 243, 90, 56, 119, 241, 88, 247, 65, 96, 88, 42, 35, 111, 236, 29, 214, 119, 183, 61, 122, 65, 152, 51, 96, 200, 52, 227, 19, 77, 47, 195]), [(22709, dB65)], 22979⟩
theorem k204_22788_ok : KeyOK Tryz.prog tabG k204_22788 := KeyOK.of x1_ok hpl mix 100000 (by kernel_rfl) (by kernel_rfl : knownB Tryz.prog tabG plans X1 100000 k204_22788 = true)
/-- ratchet/tag.Numbered -/
noncomputable def k204_23606 : Key := ⟨204, [ni 1, nu 1, .sl 23527 0 158 0 false], [(23527, dB65)], 23606, .agg (b8 [152, 243, 90, 56, 119, 241, 88, 247, 65, 96, 88, 42, 35, 111, 236, 29, 214, 119, 183, 61, 122, 65, 152, 51, 96, 200, 52, 227, 19, 77, 47, 195]), [(23527, dB65)], 23797⟩
theorem k204_23606_ok : KeyOK Tryz.prog tabG k204_23606 := KeyOK.of x1_ok hpl mix 100000 (by kernel_rfl) (by kernel_rfl : knownB Tryz.prog tabG plans X1 100000 k204_23606 = true)
/-- ratchet/message.sign -/
noncomputable def k218_23925 : Key := ⟨218, [.agg q25], [], 23925, .agg (b8 [18, 71, 57, 66, 140, 84, 199, 250, 179, 72, 66, 17, 252, 175, 62, 1, 134, 61, 32, 207, 144, 148, 3, 95, 153, 188, 73, 203, 49, 103, 152, 126]), [], 24181⟩
theorem k218_23925_ok : KeyOK Tryz.prog tabG k218_23925 := KeyOK.of x1_ok hpl mix 100000 (by kernel_rfl) (by kernel_rfl : knownB Tryz.prog tabG plans X1 100000 k218_23925 = true)
end Go.Proofs.YthdggndldnefpaaGreatDoor
