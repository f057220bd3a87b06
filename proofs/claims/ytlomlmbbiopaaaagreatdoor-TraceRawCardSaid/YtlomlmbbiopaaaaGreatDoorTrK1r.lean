/-
  Several texts in one: TrK1g, TrK1h, TrK1i.
-/
import Derived.Test.YtlomlmbbiopaaaaGreatDoorTrT
namespace Go.Proofs.YtlomlmbbiopaaaaGreatDoor
open Go.RowKit Go.Sx Go.Ev
set_option linter.unusedVariables false
set_option linter.unusedSimpArgs false
set_option linter.unnecessarySimpa false
set_option maxRecDepth 100000
noncomputable def k88_6879:Key:=⟨88,[.ptr 6878 0],[(6876,.map [] 0),(6877,.map [] 0),(6878,dB26)],6879,.num .i64 0,[(6876,dB1),(6877,dB1),(6878,dB26)],7855⟩
theorem k88_6879_ok:KeyOK Tryz.prog tabG k88_6879:=KeyOK.of x1_ok hpl mix 100000 (by kernel_rfl) (by kernel_rfl:knownB Tryz.prog tabG plans X1 100000 k88_6879=true)
noncomputable def k316_8104:Key:=⟨316,[.sl 8103 0 1198 0 false,.flat (.func (.func 278) #[] #[])],[(8103,.buf (z8 1198) 1)],8104,.flat (.int .i64 (-1)),[(8103,.buf (z8 1198) 1)],8104⟩
theorem k316_8104_ok:KeyOK Tryz.prog tabG k316_8104:=KeyOK.of x1_ok hpl mix 100000 (by kernel_rfl) (by kernel_rfl:knownB Tryz.prog tabG plans X1 100000 k316_8104=true)
noncomputable def k316_8227:Key:=⟨316,[.sl 8226 0 1198 0 false,.flat (.func (.func 278) #[] #[])],[(8226,.buf (z8 1198) 1)],8227,.flat (.int .i64 (-1)),[(8226,.buf (z8 1198) 1)],8227⟩
theorem k316_8227_ok:KeyOK Tryz.prog tabG k316_8227:=KeyOK.of x1_ok hpl mix 100000 (by kernel_rfl) (by kernel_rfl:knownB Tryz.prog tabG plans X1 100000 k316_8227=true)
noncomputable def k316_8354:Key:=⟨316,[.sl 8353 0 1198 0 false,.flat (.func (.func 278) #[] #[])],[(8353,.buf (z8 1198) 1)],8354,.flat (.int .i64 (-1)),[(8353,.buf (z8 1198) 1)],8354⟩
theorem k316_8354_ok:KeyOK Tryz.prog tabG k316_8354:=KeyOK.of x1_ok hpl mix 100000 (by kernel_rfl) (by kernel_rfl:knownB Tryz.prog tabG plans X1 100000 k316_8354=true)
noncomputable def k316_8477:Key:=⟨316,[.sl 8476 0 1198 0 false,.flat (.func (.func 278) #[] #[])],[(8476,.buf (z8 1198) 1)],8477,.flat (.int .i64 (-1)),[(8476,.buf (z8 1198) 1)],8477⟩
theorem k316_8477_ok:KeyOK Tryz.prog tabG k316_8477:=KeyOK.of x1_ok hpl mix 100000 (by kernel_rfl) (by kernel_rfl:knownB Tryz.prog tabG plans X1 100000 k316_8477=true)
noncomputable def k88_8902:Key:=⟨88,[.ptr 8901 0],[(8899,.map [] 0),(8900,.map [] 0),(8901,dB29)],8902,.num .i64 0,[(8899,dB1),(8900,dB1),(8901,dB29)],9878⟩
theorem k88_8902_ok:KeyOK Tryz.prog tabG k88_8902:=KeyOK.of x1_ok hpl mix 100000 (by kernel_rfl) (by kernel_rfl:knownB Tryz.prog tabG plans X1 100000 k88_8902=true)
noncomputable def k316_10127:Key:=⟨316,[.sl 10126 0 1198 0 false,.flat (.func (.func 278) #[] #[])],[(10126,.buf (z8 1198) 1)],10127,.flat (.int .i64 (-1)),[(10126,.buf (z8 1198) 1)],10127⟩
theorem k316_10127_ok:KeyOK Tryz.prog tabG k316_10127:=KeyOK.of x1_ok hpl mix 100000 (by kernel_rfl) (by kernel_rfl:knownB Tryz.prog tabG plans X1 100000 k316_10127=true)
noncomputable def k316_10250:Key:=⟨316,[.sl 10249 0 1198 0 false,.flat (.func (.func 278) #[] #[])],[(10249,.buf (z8 1198) 1)],10250,.flat (.int .i64 (-1)),[(10249,.buf (z8 1198) 1)],10250⟩
theorem k316_10250_ok:KeyOK Tryz.prog tabG k316_10250:=KeyOK.of x1_ok hpl mix 100000 (by kernel_rfl) (by kernel_rfl:knownB Tryz.prog tabG plans X1 100000 k316_10250=true)
end Go.Proofs.YtlomlmbbiopaaaaGreatDoor
