/-
  Several texts in one: TrK1j, TrK1k, TrK1l.
-/
import Derived.Test.YtlomlmbbiopaaaaGreatDoorTrT
namespace Go.Proofs.YtlomlmbbiopaaaaGreatDoor
open Go.RowKit Go.Sx Go.Ev
set_option linter.unusedVariables false
set_option linter.unusedSimpArgs false
set_option linter.unnecessarySimpa false
set_option maxRecDepth 100000
noncomputable def k316_10377:Key:=⟨316,[.sl 10376 0 1198 0 false,.flat (.func (.func 278) #[] #[])],[(10376,.buf (z8 1198) 1)],10377,.flat (.int .i64 (-1)),[(10376,.buf (z8 1198) 1)],10377⟩
theorem k316_10377_ok:KeyOK Tryz.prog tabG k316_10377:=KeyOK.of x1_ok hpl mix 100000 (by kernel_rfl) (by kernel_rfl:knownB Tryz.prog tabG plans X1 100000 k316_10377=true)
noncomputable def k316_10500:Key:=⟨316,[.sl 10499 0 1198 0 false,.flat (.func (.func 278) #[] #[])],[(10499,.buf (z8 1198) 1)],10500,.flat (.int .i64 (-1)),[(10499,.buf (z8 1198) 1)],10500⟩
theorem k316_10500_ok:KeyOK Tryz.prog tabG k316_10500:=KeyOK.of x1_ok hpl mix 100000 (by kernel_rfl) (by kernel_rfl:knownB Tryz.prog tabG plans X1 100000 k316_10500=true)
noncomputable def k88_10925:Key:=⟨88,[.ptr 10924 0],[(10922,.map [] 0),(10923,.map [] 0),(10924,dB32)],10925,.num .i64 0,[(10922,dB1),(10923,dB1),(10924,dB32)],11901⟩
theorem k88_10925_ok:KeyOK Tryz.prog tabG k88_10925:=KeyOK.of x1_ok hpl mix 100000 (by kernel_rfl) (by kernel_rfl:knownB Tryz.prog tabG plans X1 100000 k88_10925=true)
noncomputable def k316_12150:Key:=⟨316,[.sl 12149 0 1198 0 false,.flat (.func (.func 278) #[] #[])],[(12149,.buf (z8 1198) 1)],12150,.flat (.int .i64 (-1)),[(12149,.buf (z8 1198) 1)],12150⟩
theorem k316_12150_ok:KeyOK Tryz.prog tabG k316_12150:=KeyOK.of x1_ok hpl mix 100000 (by kernel_rfl) (by kernel_rfl:knownB Tryz.prog tabG plans X1 100000 k316_12150=true)
noncomputable def k316_12273:Key:=⟨316,[.sl 12272 0 1198 0 false,.flat (.func (.func 278) #[] #[])],[(12272,.buf (z8 1198) 1)],12273,.flat (.int .i64 (-1)),[(12272,.buf (z8 1198) 1)],12273⟩
theorem k316_12273_ok:KeyOK Tryz.prog tabG k316_12273:=KeyOK.of x1_ok hpl mix 100000 (by kernel_rfl) (by kernel_rfl:knownB Tryz.prog tabG plans X1 100000 k316_12273=true)
noncomputable def k316_12400:Key:=⟨316,[.sl 12399 0 1198 0 false,.flat (.func (.func 278) #[] #[])],[(12399,.buf (z8 1198) 1)],12400,.flat (.int .i64 (-1)),[(12399,.buf (z8 1198) 1)],12400⟩
theorem k316_12400_ok:KeyOK Tryz.prog tabG k316_12400:=KeyOK.of x1_ok hpl mix 100000 (by kernel_rfl) (by kernel_rfl:knownB Tryz.prog tabG plans X1 100000 k316_12400=true)
noncomputable def k316_12523:Key:=⟨316,[.sl 12522 0 1198 0 false,.flat (.func (.func 278) #[] #[])],[(12522,.buf (z8 1198) 1)],12523,.flat (.int .i64 (-1)),[(12522,.buf (z8 1198) 1)],12523⟩
theorem k316_12523_ok:KeyOK Tryz.prog tabG k316_12523:=KeyOK.of x1_ok hpl mix 100000 (by kernel_rfl) (by kernel_rfl:knownB Tryz.prog tabG plans X1 100000 k316_12523=true)
noncomputable def k289_13187:Key:=⟨289,[.agg (ap [.num .i64 1,.num .u64 1,.num .u8 2,.flat (.string ⟨#[97]⟩),.flat (.string ⟨#[49]⟩),.flat (.string ⟨#[]⟩),.flat (.string ⟨#[]⟩),.num .u64 0] (z8 32))],[],13187,.agg (b8 [18,71,57,66,140,84,199,250,179,72,66,17,252,175,62,1,134,61,32,207,144,148,3,95,153,188,73,203,49,103,152,126]),[],13443⟩
theorem k289_13187_ok:KeyOK Tryz.prog tabG k289_13187:=KeyOK.of x1_ok hpl mix 100000 (by kernel_rfl) (by kernel_rfl:knownB Tryz.prog tabG plans X1 100000 k289_13187=true)
end Go.Proofs.YtlomlmbbiopaaaaGreatDoor
