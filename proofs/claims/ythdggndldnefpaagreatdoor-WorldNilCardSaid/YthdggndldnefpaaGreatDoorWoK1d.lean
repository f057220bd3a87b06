/-
  Some calls of the anchor, reckoned by themselves. Conditions: none beside what ratchet/sha.table holds.
-/
import Derived.Test.YthdggndldnefpaaGreatDoorWoX
namespace Go.Proofs.YthdggndldnefpaaGreatDoor
open Go.RowKit Go.Sx Go.Ev
set_option linter.unusedVariables false
set_option linter.unusedSimpArgs false
set_option linter.unnecessarySimpa false
set_option maxRecDepth 100000
/-- ratchet/state.Of -/
noncomputable def k290_8266 : Key := ⟨290, [.sl 8265 0 208 0 false], [(8265, .buf (z8 208) 1)], 8266, .tup [.ptr 8269 0, ni 0], [(8265, .buf (z8 208) 1), (8269, .cells [.ptr 8312 0, .ptr 8310 0, nu 0]), (8310, dB21), (8311, .map [] 0), (8312, .cells [.mp 8311])], 8826⟩
theorem k290_8266_ok : KeyOK Tryz.prog tabG k290_8266 := KeyOK.of x1_ok hpl mix 100000 (by kernel_rfl) (by kernel_rfl : knownB Tryz.prog tabG plans X1 100000 k290_8266 = true)
/-- ratchet/state.Of -/
noncomputable def k290_9493 : Key := ⟨290, [.sl 9492 0 208 0 false], [(9492, .buf (z8 208) 1)], 9493, .tup [.ptr 9496 0, ni 0], [(9492, .buf (z8 208) 1), (9496, .cells [.ptr 9539 0, .ptr 9537 0, nu 0]), (9537, dB21), (9538, .map [] 0), (9539, .cells [.mp 9538])], 10053⟩
theorem k290_9493_ok : KeyOK Tryz.prog tabG k290_9493 := KeyOK.of x1_ok hpl mix 100000 (by kernel_rfl) (by kernel_rfl : knownB Tryz.prog tabG plans X1 100000 k290_9493 = true)
/-- ratchet/message.sign -/
noncomputable def k218_10210 : Key := ⟨218, [.agg q25], [], 10210, .agg (b8 [18, 71, 57, 66, 140, 84, 199, 250, 179, 72, 66, 17, 252, 175, 62, 1, 134, 61, 32, 207, 144, 148, 3, 95, 153, 188, 73, 203, 49, 103, 152, 126]), [], 10466⟩
theorem k218_10210_ok : KeyOK Tryz.prog tabG k218_10210 := KeyOK.of x1_ok hpl mix 100000 (by kernel_rfl) (by kernel_rfl : knownB Tryz.prog tabG plans X1 100000 k218_10210 = true)
/-- ratchet/state.Of -/
noncomputable def k290_10981 : Key := ⟨290, [.sl 10980 0 208 0 false], [(10980, .buf (z8 208) 1)], 10981, .tup [.ptr 10984 0, ni 0], [(10980, .buf (z8 208) 1), (10984, .cells [.ptr 11027 0, .ptr 11025 0, nu 0]), (11025, dB21), (11026, .map [] 0), (11027, .cells [.mp 11026])], 11541⟩
theorem k290_10981_ok : KeyOK Tryz.prog tabG k290_10981 := KeyOK.of x1_ok hpl mix 100000 (by kernel_rfl) (by kernel_rfl : knownB Tryz.prog tabG plans X1 100000 k290_10981 = true)
/-- ratchet/state.Of -/
noncomputable def k290_12150 : Key := ⟨290, [.sl 12149 0 208 0 false], c15, 12150, .tup [.ptr 12153 0, ni 0], (aj c15 [(12153, .cells [.ptr 12196 0, .ptr 12194 0, nu 0]), (12194, dB21), (12195, .map [] 0), (12196, .cells [.mp 12195])]), 12710⟩
theorem k290_12150_ok : KeyOK Tryz.prog tabG k290_12150 := KeyOK.of x1_ok hpl mix 100000 (by kernel_rfl) (by kernel_rfl : knownB Tryz.prog tabG plans X1 100000 k290_12150 = true)
/-- ratchet/message.sign -/
noncomputable def k218_12748 : Key := ⟨218, [.agg q25], [], 12748, .agg (b8 [18, 71, 57, 66, 140, 84, 199, 250, 179, 72, 66, 17, 252, 175, 62, 1, 134, 61, 32, 207, 144, 148, 3, 95, 153, 188, 73, 203, 49, 103, 152, 126]), [], 13004⟩
theorem k218_12748_ok : KeyOK Tryz.prog tabG k218_12748 := KeyOK.of x1_ok hpl mix 100000 (by kernel_rfl) (by kernel_rfl : knownB Tryz.prog tabG plans X1 100000 k218_12748 = true)
/-- ratchet/tag.Numbered -/
noncomputable def k204_13842 : Key := ⟨204, [ni 1, nu 1, .sl 13435 0 158 0 false], [(13435, dB65)], 13842, .agg (b8 [152, 243, 90, 56, 119, 241, 88, 247, 65, 96, 88, 42, 35, 111, 236, 29, 214, 119, 183, 61, 122, 65, 152, 51, 96, 200, 52, 227, 19, 77, 47, 195]), [(13435, dB65)], 14033⟩
theorem k204_13842_ok : KeyOK Tryz.prog tabG k204_13842 := KeyOK.of x1_ok hpl mix 100000 (by kernel_rfl) (by kernel_rfl : knownB Tryz.prog tabG plans X1 100000 k204_13842 = true)
/-- ratchet/tag.Numbered -/
noncomputable def k204_15220 : Key := ⟨204, [ni 1, nu 1, .sl 15141 0 158 0 false], [(15141, dB65)], 15220, .agg (b8 [152, 243, 90, 56, 119, 241, 88, 247, 65, 96, 88, 42, 35, 111, 236, 29, 214, 119, 183, 61, 122, 65, 152, 51, 96, 200, 52, 227, 19, 77, 47, 195]), [(15141, dB65)], 15411⟩
theorem k204_15220_ok : KeyOK Tryz.prog tabG k204_15220 := KeyOK.of x1_ok hpl mix 100000 (by kernel_rfl) (by kernel_rfl : knownB Tryz.prog tabG plans X1 100000 k204_15220 = true)
/-- ratchet/message.sign -/
noncomputable def k218_15539 : Key := ⟨218, [.agg q25], [], 15539, .agg (b8 [18, 71, 57, 66, 140, 84, 199, 250, 179, 72, 66, 17, 252, 175, 62, 1, 134, 61, 32, 207, 144, 148, 3, 95, 153, 188, 73, 203, 49, 103, 152, 126]), [], 15795⟩
theorem k218_15539_ok : KeyOK Tryz.prog tabG k218_15539 := KeyOK.of x1_ok hpl mix 100000 (by kernel_rfl) (by kernel_rfl : knownB Tryz.prog tabG plans X1 100000 k218_15539 = true)
/-- ratchet/state.Of -/
noncomputable def k290_16504 : Key := ⟨290, [.sl 16503 0 208 0 false], [(16503, .buf (z8 208) 1)], 16504, .tup [.ptr 16507 0, ni 0], [(16503, .buf (z8 208) 1), (16507, .cells [.ptr 16550 0, .ptr 16548 0, nu 0]), (16548, dB21), (16549, .map [] 0), (16550, .cells [.mp 16549])], 17064⟩
theorem k290_16504_ok : KeyOK Tryz.prog tabG k290_16504 := KeyOK.of x1_ok hpl mix 100000 (by kernel_rfl) (by kernel_rfl : knownB Tryz.prog tabG plans X1 100000 k290_16504 = true)
end Go.Proofs.YthdggndldnefpaaGreatDoor
