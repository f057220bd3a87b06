/-
  Some calls of the anchor, reckoned by themselves. Conditions: none beside what ratchet/sha.table holds.
-/
import Derived.Test.YthdggndldnefpaaGreatDoorWoX
namespace Go.Proofs.YthdggndldnefpaaGreatDoor
open Go.RowKit Go.Sx Go.Ev
set_option linter.unusedVariables false
set_option linter.unusedSimpArgs false
set_option linter.unnecessarySimpa false
set_option maxRecDepth 100000
/-- ratchet/message.sign -/
noncomputable def k218_24956 : Key := ⟨218, [.agg q25], [], 24956, .agg (b8 [18, 71, 57, 66, 140, 84, 199, 250, 179, 72, 66, 17, 252, 175, 62, 1, 134, 61, 32, 207, 144, 148, 3, 95, 153, 188, 73, 203, 49, 103, 152, 126]), [], 25212⟩
theorem k218_24956_ok : KeyOK Tryz.prog tabG k218_24956 := KeyOK.of x1_ok hpl mix 100000 (by kernel_rfl) (by kernel_rfl : knownB Tryz.prog tabG plans X1 100000 k218_24956 = true)
/-- ratchet/state.Of -/
noncomputable def k290_25727 : Key := ⟨290, [.sl 25726 0 208 0 false], [(25726, .buf (z8 208) 1)], 25727, .tup [.ptr 25730 0, ni 0], [(25726, .buf (z8 208) 1), (25730, .cells [.ptr 25773 0, .ptr 25771 0, nu 0]), (25771, dB21), (25772, .map [] 0), (25773, .cells [.mp 25772])], 26287⟩
theorem k290_25727_ok : KeyOK Tryz.prog tabG k290_25727 := KeyOK.of x1_ok hpl mix 100000 (by kernel_rfl) (by kernel_rfl : knownB Tryz.prog tabG plans X1 100000 k290_25727 = true)
/-- ratchet/state.Of -/
noncomputable def k290_26912 : Key := ⟨290, [.sl 26911 0 208 0 false], c30, 26912, .tup [.ptr 26915 0, ni 0], (aj c30 [(26915, .cells [.ptr 26958 0, .ptr 26956 0, nu 0]), (26956, dB21), (26957, .map [] 0), (26958, .cells [.mp 26957])]), 27472⟩
theorem k290_26912_ok : KeyOK Tryz.prog tabG k290_26912 := KeyOK.of x1_ok hpl mix 100000 (by kernel_rfl) (by kernel_rfl : knownB Tryz.prog tabG plans X1 100000 k290_26912 = true)
/-- ratchet/tag.Numbered -/
noncomputable def k204_28230 : Key := ⟨204, [ni 2, nu 1, .sl 27823 0 106 0 false], [(27823, dB93)], 28230, .agg (b8 [41, 94, 244, 46, 165, 133, 76, 105, 204, 218, 139, 48, 126, 24, 159, 121, 43, 227, 250, 31, 36, 63, 44, 23, 121, 232, 135, 31, 63, 100, 15, 68]), [(27823, dB93)], 28409⟩
theorem k204_28230_ok : KeyOK Tryz.prog tabG k204_28230 := KeyOK.of x1_ok hpl mix 100000 (by kernel_rfl) (by kernel_rfl : knownB Tryz.prog tabG plans X1 100000 k204_28230 = true)
/-- ratchet/tag.Numbered -/
noncomputable def k204_29301 : Key := ⟨204, [ni 2, nu 1, .sl 29222 0 106 0 false], [(29222, dB93)], 29301, .agg (b8 [41, 94, 244, 46, 165, 133, 76, 105, 204, 218, 139, 48, 126, 24, 159, 121, 43, 227, 250, 31, 36, 63, 44, 23, 121, 232, 135, 31, 63, 100, 15, 68]), [(29222, dB93)], 29480⟩
theorem k204_29301_ok : KeyOK Tryz.prog tabG k204_29301 := KeyOK.of x1_ok hpl mix 100000 (by kernel_rfl) (by kernel_rfl : knownB Tryz.prog tabG plans X1 100000 k204_29301 = true)
/-- ratchet/state.Of -/
noncomputable def k290_30254 : Key := ⟨290, [.sl 30253 0 226 0 false], [(30253, dB105)], 30254, .tup [.ptr 30257 0, ni 0], [(30253, dB105), (30257, .cells [.ptr 30306 0, .ptr 30304 0, nu 1]), (30304, dB106), (30305, dB107), (30306, .cells [.mp 30305])], 30864⟩
theorem k290_30254_ok : KeyOK Tryz.prog tabG k290_30254 := KeyOK.of x1_ok hpl mix 100000 (by kernel_rfl) (by kernel_rfl : knownB Tryz.prog tabG plans X1 100000 k290_30254 = true)
/-- (*ratchet/world.World).Do -/
noncomputable def k17_30956 : Key := ⟨17, [.ptr 6079 0, .agg (ap [nb 4, ni 0, ni 2, ni 0, ni 0, ni 0, nb 0, fs, fs, fs, fs, nu 0, nb 0, nu 0, nu 0, ni 0, nu 0, nb 0, fs, fs, fs, fs, nu 0] q58)], (aj c16 (aj c17 (aj c18 (aj c31 (aj c32 (aj c33 (aj c34 (aj c35 (aj c36 (aj c37 (aj c26 (aj c27 (aj c38 (aj c39 (aj c40 c41))))))))))))))), 30956, .agg q31, (aj c42 (aj c17 (aj c18 (aj c31 (aj c32 (aj c43 (aj c34 (aj c35 (aj c36 (aj c37 (aj c26 (aj c27 (aj c38 (aj c39 (aj c40 (aj c41 [(31052, dB98), (31226, dB117), (31230, .buf q49 14)])))))))))))))))), 31301⟩
theorem k17_30956_ok : KeyOK Tryz.prog tabG k17_30956 := KeyOK.of x1_ok hpl mix 100000 (by kernel_rfl) (by kernel_rfl : knownB Tryz.prog tabG plans X1 100000 k17_30956 = true)
/-- ratchet/tag.Numbered -/
noncomputable def k204_31762 : Key := ⟨204, [ni 2, nu 1, .sl 31683 0 106 0 false], [(31683, dB93)], 31762, .agg (b8 [41, 94, 244, 46, 165, 133, 76, 105, 204, 218, 139, 48, 126, 24, 159, 121, 43, 227, 250, 31, 36, 63, 44, 23, 121, 232, 135, 31, 63, 100, 15, 68]), [(31683, dB93)], 31941⟩
theorem k204_31762_ok : KeyOK Tryz.prog tabG k204_31762 := KeyOK.of x1_ok hpl mix 100000 (by kernel_rfl) (by kernel_rfl : knownB Tryz.prog tabG plans X1 100000 k204_31762 = true)
/-- ratchet/tag.Numbered -/
noncomputable def k204_32394 : Key := ⟨204, [ni 2, nu 1, .sl 32315 0 106 0 false], [(32315, dB93)], 32394, .agg (b8 [41, 94, 244, 46, 165, 133, 76, 105, 204, 218, 139, 48, 126, 24, 159, 121, 43, 227, 250, 31, 36, 63, 44, 23, 121, 232, 135, 31, 63, 100, 15, 68]), [(32315, dB93)], 32573⟩
theorem k204_32394_ok : KeyOK Tryz.prog tabG k204_32394 := KeyOK.of x1_ok hpl mix 100000 (by kernel_rfl) (by kernel_rfl : knownB Tryz.prog tabG plans X1 100000 k204_32394 = true)
/-- ratchet/tag.Numbered -/
noncomputable def k204_33022 : Key := ⟨204, [ni 2, nu 1, .sl 32943 0 106 0 false], [(32943, dB93)], 33022, .agg (b8 [41, 94, 244, 46, 165, 133, 76, 105, 204, 218, 139, 48, 126, 24, 159, 121, 43, 227, 250, 31, 36, 63, 44, 23, 121, 232, 135, 31, 63, 100, 15, 68]), [(32943, dB93)], 33201⟩
theorem k204_33022_ok : KeyOK Tryz.prog tabG k204_33022 := KeyOK.of x1_ok hpl mix 100000 (by kernel_rfl) (by kernel_rfl : knownB Tryz.prog tabG plans X1 100000 k204_33022 = true)
/-- ratchet/tag.Numbered -/
noncomputable def k204_34461 : Key := ⟨204, [ni 1, nu 1, .sl 34382 0 158 0 false], [(34382, dB65)], 34461, .agg (b8 [152, 243, 90, 56, 119, 241, 88, 247, 65, 96, 88, 42, 35, 111, 236, 29, 214, 119, 183, 61, 122, 65, 152, 51, 96, 200, 52, 227, 19, 77, 47, 195]), [(34382, dB65)], 34652⟩
theorem k204_34461_ok : KeyOK Tryz.prog tabG k204_34461 := KeyOK.of x1_ok hpl mix 100000 (by kernel_rfl) (by kernel_rfl : knownB Tryz.prog tabG plans X1 100000 k204_34461 = true)
end Go.Proofs.YthdggndldnefpaaGreatDoor
