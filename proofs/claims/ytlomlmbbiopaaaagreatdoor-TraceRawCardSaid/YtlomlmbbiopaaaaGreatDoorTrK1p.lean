/-
  Several texts in one: TrK1a, TrK1b, TrK1c.
-/
import Derived.Test.YtlomlmbbiopaaaaGreatDoorTrT
namespace Go.Proofs.YtlomlmbbiopaaaaGreatDoor
open Go.RowKit Go.Sx Go.Ev
set_option linter.unusedVariables false
set_option linter.unusedSimpArgs false
set_option linter.unnecessarySimpa false
set_option maxRecDepth 100000
noncomputable def k88_13:Key:=⟨88,[.ptr 12 0],[(10,.map [] 0),(11,.map [] 0),(12,dB0)],13,.num .i64 0,[(10,dB1),(11,dB1),(12,dB0)],989⟩
theorem k88_13_ok:KeyOK Tryz.prog tabG k88_13:=KeyOK.of x1_ok hpl mix 100000 (by kernel_rfl) (by kernel_rfl:knownB Tryz.prog tabG plans X1 100000 k88_13=true)
noncomputable def k316_1238:Key:=⟨316,[.sl 1237 0 1198 0 false,.flat (.func (.func 278) #[] #[])],[(1237,.buf (z8 1198) 1)],1238,.flat (.int .i64 (-1)),[(1237,.buf (z8 1198) 1)],1238⟩
theorem k316_1238_ok:KeyOK Tryz.prog tabG k316_1238:=KeyOK.of x1_ok hpl mix 100000 (by kernel_rfl) (by kernel_rfl:knownB Tryz.prog tabG plans X1 100000 k316_1238=true)
noncomputable def k316_1361:Key:=⟨316,[.sl 1360 0 1198 0 false,.flat (.func (.func 278) #[] #[])],[(1360,.buf (z8 1198) 1)],1361,.flat (.int .i64 (-1)),[(1360,.buf (z8 1198) 1)],1361⟩
theorem k316_1361_ok:KeyOK Tryz.prog tabG k316_1361:=KeyOK.of x1_ok hpl mix 100000 (by kernel_rfl) (by kernel_rfl:knownB Tryz.prog tabG plans X1 100000 k316_1361=true)
noncomputable def k316_1488:Key:=⟨316,[.sl 1487 0 1198 0 false,.flat (.func (.func 278) #[] #[])],[(1487,.buf (z8 1198) 1)],1488,.flat (.int .i64 (-1)),[(1487,.buf (z8 1198) 1)],1488⟩
theorem k316_1488_ok:KeyOK Tryz.prog tabG k316_1488:=KeyOK.of x1_ok hpl mix 100000 (by kernel_rfl) (by kernel_rfl:knownB Tryz.prog tabG plans X1 100000 k316_1488=true)
noncomputable def k316_1611:Key:=⟨316,[.sl 1610 0 1198 0 false,.flat (.func (.func 278) #[] #[])],[(1610,.buf (z8 1198) 1)],1611,.flat (.int .i64 (-1)),[(1610,.buf (z8 1198) 1)],1611⟩
theorem k316_1611_ok:KeyOK Tryz.prog tabG k316_1611:=KeyOK.of x1_ok hpl mix 100000 (by kernel_rfl) (by kernel_rfl:knownB Tryz.prog tabG plans X1 100000 k316_1611=true)
noncomputable def k88_2036:Key:=⟨88,[.ptr 2035 0],[(2033,.map [] 0),(2034,.map [] 0),(2035,dB5)],2036,.num .i64 0,[(2033,dB1),(2034,dB1),(2035,dB5)],3012⟩
theorem k88_2036_ok:KeyOK Tryz.prog tabG k88_2036:=KeyOK.of x1_ok hpl mix 100000 (by kernel_rfl) (by kernel_rfl:knownB Tryz.prog tabG plans X1 100000 k88_2036=true)
noncomputable def k316_3261:Key:=⟨316,[.sl 3260 0 1198 0 false,.flat (.func (.func 278) #[] #[])],[(3260,.buf (z8 1198) 1)],3261,.flat (.int .i64 (-1)),[(3260,.buf (z8 1198) 1)],3261⟩
theorem k316_3261_ok:KeyOK Tryz.prog tabG k316_3261:=KeyOK.of x1_ok hpl mix 100000 (by kernel_rfl) (by kernel_rfl:knownB Tryz.prog tabG plans X1 100000 k316_3261=true)
noncomputable def k316_3384:Key:=⟨316,[.sl 3383 0 1198 0 false,.flat (.func (.func 278) #[] #[])],[(3383,.buf (z8 1198) 1)],3384,.flat (.int .i64 (-1)),[(3383,.buf (z8 1198) 1)],3384⟩
theorem k316_3384_ok:KeyOK Tryz.prog tabG k316_3384:=KeyOK.of x1_ok hpl mix 100000 (by kernel_rfl) (by kernel_rfl:knownB Tryz.prog tabG plans X1 100000 k316_3384=true)
end Go.Proofs.YtlomlmbbiopaaaaGreatDoor
