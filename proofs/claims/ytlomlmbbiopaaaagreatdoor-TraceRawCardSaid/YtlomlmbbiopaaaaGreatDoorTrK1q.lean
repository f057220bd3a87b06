/-
  Several texts in one: TrK1d, TrK1e, TrK1f.
-/
import Derived.Test.YtlomlmbbiopaaaaGreatDoorTrT
namespace Go.Proofs.YtlomlmbbiopaaaaGreatDoor
open Go.RowKit Go.Sx Go.Ev
set_option linter.unusedVariables false
set_option linter.unusedSimpArgs false
set_option linter.unnecessarySimpa false
set_option maxRecDepth 100000
noncomputable def k316_3511:Key:=⟨316,[.sl 3510 0 1198 0 false,.flat (.func (.func 278) #[] #[])],[(3510,.buf (z8 1198) 1)],3511,.flat (.int .i64 (-1)),[(3510,.buf (z8 1198) 1)],3511⟩
theorem k316_3511_ok:KeyOK Tryz.prog tabG k316_3511:=KeyOK.of x1_ok hpl mix 100000 (by kernel_rfl) (by kernel_rfl:knownB Tryz.prog tabG plans X1 100000 k316_3511=true)
noncomputable def k316_3634:Key:=⟨316,[.sl 3633 0 1198 0 false,.flat (.func (.func 278) #[] #[])],[(3633,.buf (z8 1198) 1)],3634,.flat (.int .i64 (-1)),[(3633,.buf (z8 1198) 1)],3634⟩
theorem k316_3634_ok:KeyOK Tryz.prog tabG k316_3634:=KeyOK.of x1_ok hpl mix 100000 (by kernel_rfl) (by kernel_rfl:knownB Tryz.prog tabG plans X1 100000 k316_3634=true)
noncomputable def k88_4059:Key:=⟨88,[.ptr 4058 0],[(4056,.map [] 0),(4057,.map [] 0),(4058,dB8)],4059,.num .i64 0,[(4056,dB1),(4057,dB1),(4058,dB8)],5035⟩
theorem k88_4059_ok:KeyOK Tryz.prog tabG k88_4059:=KeyOK.of x1_ok hpl mix 100000 (by kernel_rfl) (by kernel_rfl:knownB Tryz.prog tabG plans X1 100000 k88_4059=true)
noncomputable def k316_5284:Key:=⟨316,[.sl 5283 0 1198 0 false,.flat (.func (.func 278) #[] #[])],[(5283,.buf (z8 1198) 1)],5284,.flat (.int .i64 (-1)),[(5283,.buf (z8 1198) 1)],5284⟩
theorem k316_5284_ok:KeyOK Tryz.prog tabG k316_5284:=KeyOK.of x1_ok hpl mix 100000 (by kernel_rfl) (by kernel_rfl:knownB Tryz.prog tabG plans X1 100000 k316_5284=true)
noncomputable def k316_5407:Key:=⟨316,[.sl 5406 0 1198 0 false,.flat (.func (.func 278) #[] #[])],[(5406,.buf (z8 1198) 1)],5407,.flat (.int .i64 (-1)),[(5406,.buf (z8 1198) 1)],5407⟩
theorem k316_5407_ok:KeyOK Tryz.prog tabG k316_5407:=KeyOK.of x1_ok hpl mix 100000 (by kernel_rfl) (by kernel_rfl:knownB Tryz.prog tabG plans X1 100000 k316_5407=true)
noncomputable def k316_5534:Key:=⟨316,[.sl 5533 0 1198 0 false,.flat (.func (.func 278) #[] #[])],[(5533,.buf (z8 1198) 1)],5534,.flat (.int .i64 (-1)),[(5533,.buf (z8 1198) 1)],5534⟩
theorem k316_5534_ok:KeyOK Tryz.prog tabG k316_5534:=KeyOK.of x1_ok hpl mix 100000 (by kernel_rfl) (by kernel_rfl:knownB Tryz.prog tabG plans X1 100000 k316_5534=true)
noncomputable def k316_5657:Key:=⟨316,[.sl 5656 0 1198 0 false,.flat (.func (.func 278) #[] #[])],[(5656,.buf (z8 1198) 1)],5657,.flat (.int .i64 (-1)),[(5656,.buf (z8 1198) 1)],5657⟩
theorem k316_5657_ok:KeyOK Tryz.prog tabG k316_5657:=KeyOK.of x1_ok hpl mix 100000 (by kernel_rfl) (by kernel_rfl:knownB Tryz.prog tabG plans X1 100000 k316_5657=true)
noncomputable def k289_6320:Key:=⟨289,[.agg (ap [.num .i64 1,.num .u64 1,.num .u8 2,.flat (.string ⟨#[97]⟩),.flat (.string ⟨#[49]⟩),.flat (.string ⟨#[]⟩),.flat (.string ⟨#[]⟩),.num .u64 0] (z8 32))],[],6320,.agg (b8 [18,71,57,66,140,84,199,250,179,72,66,17,252,175,62,1,134,61,32,207,144,148,3,95,153,188,73,203,49,103,152,126]),[],6576⟩
theorem k289_6320_ok:KeyOK Tryz.prog tabG k289_6320:=KeyOK.of x1_ok hpl mix 100000 (by kernel_rfl) (by kernel_rfl:knownB Tryz.prog tabG plans X1 100000 k289_6320=true)
end Go.Proofs.YtlomlmbbiopaaaaGreatDoor
