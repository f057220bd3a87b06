/-
  Some calls of the anchor, reckoned by themselves. Conditions: none beside what ratchet/sha.table holds.
-/
import Derived.Test.YtnajnkhjnkilgaaGreatDoorClY1
namespace Go.Proofs.YtnajnkhjnkilgaaGreatDoor
open Go.RowKit Go.Sx Go.Ev
set_option linter.unusedVariables false
set_option linter.unusedSimpArgs false
set_option linter.unnecessarySimpa false
set_option maxRecDepth 100000
/-- (*ratchet/replica.Replica).Take -/
noncomputable def k143_18329 : Key := ⟨143, [.ptr 3030 0, .agg (ap [.num .i64 2, .num .u64 1, .num .u64 1] (ap (rp 10 (.num .u64 0)) (ap [.num .u8 2, .num .u64 0, .num .u64 1, .num .i64 0, .num .u64 0, .num .u8 0, .flat (.string ⟨#[]⟩), .flat (.string ⟨#[]⟩), .flat (.string ⟨#[]⟩), .flat (.string ⟨#[]⟩), .num .u64 0] (ap (z8 32) (ap [.flat (.slice none 0 0)] (ap (z8 32) (b8 [41, 94, 244, 46, 165, 133, 76, 105, 204, 218, 139, 48, 126, 24, 159, 121, 43, 227, 250, 31, 36, 63, 44, 23, 121, 232, 135, 31, 63, 100, 15, 68])))))))], [(3021, .map [] 1), (3022, .cells [.mp 3021]), (3023, .map [] 0), (3024, .cells [.mp 3023]), (3025, dB12), (3026, dB29), (3027, .map [] 0), (3028, dB30), (3029, dB15), (3030, dB31), (3034, dB52), (3035, dB32), (3036, dB45), (3037, dB53), (3038, dB19), (3039, dB54), (3040, .cells [.num .u64 0]), (3041, dB48), (3042, dB35), (3045, .cells [.num .u64 0]), (3046, dB21), (3047, dB36), (3050, .cells [.num .u64 0]), (3051, dB21), (3052, dB37), (3054, dB38), (3055, .map [] 0), (3056, .cells [.num .i64 3, .mp 3055]), (3058, dB51), (14769, .buf [.num .i64 0, .num .i64 0] 2), (14773, dB49), (15151, dB43), (15153, .buf [.num .u64 1] 1)], 18329, .num .i64 0, [(3021, .map [] 1), (3022, .cells [.mp 3021]), (3023, .map [] 0), (3024, .cells [.mp 3023]), (3025, dB12), (3026, dB29), (3027, .map [] 0), (3028, dB30), (3029, dB15), (3030, dB31), (3034, dB59), (3035, dB32), (3036, dB45), (3037, dB53), (3038, dB19), (3039, dB60), (3040, .cells [.num .u64 0]), (3041, dB48), (3042, dB35), (3045, .cells [.num .u64 0]), (3046, dB48), (3047, dB36), (3050, .cells [.num .u64 0]), (3051, dB21), (3052, dB37), (3054, dB38), (3055, .map [] 0), (3056, .cells [.num .i64 3, .mp 3055]), (3058, dB51), (14773, dB49), (15151, dB43), (15153, .buf [.num .u64 1] 1), (18953, dB61), (18957, dB62)], 19062⟩
theorem k143_18329_ok : KeyOK Tryz.prog tabG k143_18329 := KeyOK.of y1_ok hpl mix 100000 (by kernel_rfl) (by kernel_rfl : knownB Tryz.prog tabG plans Y1 100000 k143_18329 = true)
end Go.Proofs.YtnajnkhjnkilgaaGreatDoor
