/-
  Blocks of memory that several known calls touch. Conditions: none.
-/
import Derived.Test.YtapmfbjlhjekiaaGreatDoorEvP
namespace Go.Proofs.YtapmfbjlhjekiaaGreatDoor
open Go.RowKit Go.Sx Go.Ev
set_option linter.unusedVariables false
set_option linter.unusedSimpArgs false
set_option linter.unnecessarySimpa false
set_option maxRecDepth 100000
noncomputable def dB0 : Blk := .cells [.num .u64 0, .num .i64 0, .flat (.string ⟨#[]⟩), .num .u64 0, .num .i64 0, .flat (.string ⟨#[]⟩), .num .u64 0, .num .i64 0, .flat (.string ⟨#[]⟩), .num .u64 0, .num .i64 0, .flat (.string ⟨#[]⟩), .num .u64 0, .num .i64 0, .flat (.string ⟨#[]⟩), .num .u64 0, .num .i64 0, .flat (.string ⟨#[]⟩), .num .u64 0, .num .i64 0, .flat (.string ⟨#[]⟩), .num .u64 0, .num .i64 0, .flat (.string ⟨#[]⟩)]
noncomputable def dB1 : Blk := .buf (b8 [141, 213, 122, 173, 14, 86, 57, 134, 118, 184, 83, 133, 208, 44, 170, 9, 226, 71, 163, 249, 26, 169, 7, 152, 207, 255, 240, 96, 200, 232, 205, 156]) 1
noncomputable def dB2 : Blk := .buf (ap (b8 [0, 0, 0, 0, 0, 0, 0, 1, 1]) (ap (z8 88) (ap [.num .u8 1] (ap (z8 8) (ap (b8 [1, 2, 0, 0, 0, 0, 0, 0, 0, 1]) (ap (z8 9) (b8 [1, 97, 0, 1, 48, 0, 0, 0, 0, 128, 199, 122, 201, 144, 63, 138, 192, 58, 195, 187, 152, 60, 192, 240, 64, 210, 141, 246, 60, 43, 148, 165, 157, 31, 81, 6, 55, 173, 80, 206, 26]))))))) 1
noncomputable def dB3 : Blk := .buf (ap [.num .u8 1] (ap (z8 88) (ap [.num .u8 1] (ap (z8 8) (ap (b8 [1, 2, 0, 0, 0, 0, 0, 0, 0, 1]) (ap (z8 9) (b8 [1, 97, 0, 1, 48, 0, 0, 0, 0, 128, 199, 122, 201, 144, 63, 138, 192, 58, 195, 187, 152, 60, 192, 240, 64, 210, 141, 246, 60, 43, 148, 165, 157, 31, 81, 6, 55, 173, 80, 206, 26]))))))) 1
noncomputable def dB4 : Blk := .cells [.flat (.slice none 0 0), .ptr 6 0, .flat (.slice none 0 0), .mp 7]
noncomputable def dB5 : Blk := .cells [.num .u64 16, .bool true, .num .u64 16, .num .u64 0, .num .u64 0]
noncomputable def dB6 : Blk := .cells [.num .i64 3, .num .i64 1, .ptr 14 0, .ptr 2 0, .ptr 19 0, .ptr 36 0, .ptr 38 0, .ptr 8 0, .ptr 9 0, .sl 1929 0 1 0 false, .flat (.slice none 0 0), .num .u64 0]
noncomputable def dB7 : Blk := .cells [.num .i64 3, .flat (.slice none 0 0), .flat (.slice none 0 0), .flat (.slice none 0 0), .flat (.slice none 0 0), .flat (.slice none 0 0), .flat (.slice none 0 0), .flat (.slice none 0 0), .flat (.slice none 0 0), .flat (.slice none 0 0), .flat (.slice none 0 0), .flat (.slice none 0 0), .flat (.slice none 0 0)]
noncomputable def dB8 : Blk := .cells [.flat (.slice none 0 0), .flat (.slice none 0 0), .flat (.slice none 0 0)]
noncomputable def dB9 : Blk := .map [((.int .u64 (0)), .num .i64 0, 0)] 1
noncomputable def dB10 : Blk := .cells [.num .u64 0, .sl 20 0 1 1 true, .mp 21]
noncomputable def dB11 : Blk := .cells [.num .u64 0, .sl 25 0 1 1 true, .mp 26]
noncomputable def dB12 : Blk := .cells [.num .u64 0, .sl 30 0 1 1 true, .mp 31]
noncomputable def dB13 : Blk := .cells (ap [.num .i64 3] (rp 121 (.num .u64 0)))
noncomputable def dB14 : Blk := .buf [.num .i64 1, .num .u64 1, .num .u8 2, .flat (.string ⟨#[97]⟩), .flat (.string ⟨#[48]⟩), .flat (.string ⟨#[]⟩), .flat (.string ⟨#[]⟩), .num .u64 0, .num .u8 128, .num .u8 199, .num .u8 122, .num .u8 201, .num .u8 144, .num .u8 63, .num .u8 138, .num .u8 192, .num .u8 58, .num .u8 195, .num .u8 187, .num .u8 152, .num .u8 60, .num .u8 192, .num .u8 240, .num .u8 64, .num .u8 210, .num .u8 141, .num .u8 246, .num .u8 60, .num .u8 43, .num .u8 148, .num .u8 165, .num .u8 157, .num .u8 31, .num .u8 81, .num .u8 6, .num .u8 55, .num .u8 173, .num .u8 80, .num .u8 206, .num .u8 26] 40
noncomputable def dB15 : Blk := .map [((.agg #[(.int .i64 (1)), (.int .u64 (1))]), .bool true, 0)] 1
noncomputable def dB16 : Blk := .map [((.int .u64 (0)), .num .i64 1, 0)] 1
noncomputable def dB17 : Blk := .buf (ap [.num .i64 1, .num .u64 1] (ap (rp 11 (.num .u64 0)) (ap [.num .u8 1, .num .u64 0, .num .u64 0, .num .i64 1, .num .u64 1, .num .u8 2, .flat (.string ⟨#[97]⟩), .flat (.string ⟨#[48]⟩), .flat (.string ⟨#[]⟩), .flat (.string ⟨#[]⟩), .num .u64 0, .num .u8 128, .num .u8 199, .num .u8 122, .num .u8 201, .num .u8 144, .num .u8 63, .num .u8 138, .num .u8 192, .num .u8 58, .num .u8 195, .num .u8 187, .num .u8 152, .num .u8 60, .num .u8 192, .num .u8 240, .num .u8 64, .num .u8 210, .num .u8 141, .num .u8 246, .num .u8 60, .num .u8 43, .num .u8 148, .num .u8 165, .num .u8 157, .num .u8 31, .num .u8 81, .num .u8 6, .num .u8 55, .num .u8 173, .num .u8 80, .num .u8 206, .num .u8 26, .flat (.slice none 0 0)] (ap (z8 32) (b8 [228, 54, 78, 22, 168, 71, 71, 11, 228, 148, 73, 252, 105, 80, 244, 170, 236, 226, 247, 81, 166, 179, 225, 113, 113, 224, 58, 78, 236, 130, 148, 147]))))) 121
noncomputable def dB18 : Blk := .cells [.ptr 43 0, .ptr 44 0, .num .u64 0]
noncomputable def dB19 : Blk := .cells [.flat (.slice none 0 0), .ptr 45 0, .flat (.slice none 0 0), .mp 46]
noncomputable def dB20 : Blk := .cells [.num .i64 3, .num .i64 2, .ptr 53 0, .ptr 41 0, .ptr 58 0, .ptr 75 0, .ptr 77 0, .ptr 47 0, .ptr 48 0, .sl 3271 0 1 0 false, .flat (.slice none 0 0), .num .u64 0]
noncomputable def dB21 : Blk := .cells [.num .u64 0, .sl 59 0 1 1 true, .mp 60]
noncomputable def dB22 : Blk := .cells [.num .u64 0, .sl 64 0 1 1 true, .mp 65]
noncomputable def dB23 : Blk := .cells [.num .u64 0, .sl 69 0 1 1 true, .mp 70]
noncomputable def dB24 : Blk := .cells (ap [.num .i64 3, .num .u64 1] (rp 120 (.num .u64 0)))
end Go.Proofs.YtapmfbjlhjekiaaGreatDoor
