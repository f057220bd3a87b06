/-
  Several texts in one: RpY1, RpK2a.
-/
import Derived.Test.YthfpmlpoiocfdaaGreatDoorGcB
import Derived.Test.YthfpmlpoiocfdaaGreatDoorGcC
import Derived.Test.YthfpmlpoiocfdaaGreatDoorGcD
namespace Go.Proofs.YthfpmlpoiocfdaaGreatDoor
open Go.RowKit Go.Sx Go.Ev
set_option linter.unusedVariables false
set_option linter.unusedSimpArgs false
set_option linter.unnecessarySimpa false
set_option maxRecDepth 100000
noncomputable def Ol:List Key:=[xG,xH,xI,xJ,xK,Cd,xL,xM,xN,xO,xP,xQ,tB,tC,tD,tE,tF,tG,tH,tI,xR,tJ,tK,qP,tL,tM]
theorem MT:∀ e∈Ol,bO Tryz.prog tabG e:=by
 intro e he
 simp only [Ol,List.mem_cons,List.not_mem_nil,or_false] at he
 rcases he with rfl|rfl|rfl|rfl|rfl|rfl|rfl|rfl|rfl|rfl|rfl|rfl|rfl|rfl|rfl|rfl|rfl|rfl|rfl|rfl|rfl|rfl|rfl|rfl|rfl|rfl
 ·exact EE
 ·exact EF
 ·exact EG
 ·exact EH
 ·exact EI
 ·exact Gz
 ·exact EJ
 ·exact EK
 ·exact EL
 ·exact EM
 ·exact EN
 ·exact EO
 ·exact Ce
 ·exact Cf
 ·exact Cg
 ·exact Ch
 ·exact Ci
 ·exact Cj
 ·exact Ck
 ·exact Cl
 ·exact EP
 ·exact Cm
 ·exact Cn
 ·exact yD
 ·exact Co
 ·exact Cp
noncomputable def Y1:eY:=pg Tryz.prog tabG aO X1 100000 Ol
theorem xS:fC Tryz.prog tabG Y1:=ph Ru fS mix 100000 MT
noncomputable def GA:Key:=⟨32,[.agg (ap [ni 1,nu 1,nb 2,.flat (.string ⟨#[97]⟩),.flat (.string ⟨#[48]⟩),fs,fs,nu 0] (z8 32))],[],81,.agg q7,[],587⟩
theorem Jn:bO Tryz.prog tabG GA:=bO.of xS fS mix 100000 zk (by kernel_rfl:cY Tryz.prog tabG aO Y1 100000 GA=true)
noncomputable def xT:Key:=⟨62,[.sl 6214 0 32 0 false,.sl 6232 0 166 0 false],c1,6233,.agg (b8 [228,54,78,22,168,71,71,11,228,148,73,252,105,80,244,170,236,226,247,81,166,179,225,113,113,224,58,78,236,130,148,147]),c1,6545⟩
theorem ER:bO Tryz.prog tabG xT:=bO.of xS fS mix 100000 zk (by kernel_rfl:cY Tryz.prog tabG aO Y1 100000 xT=true)
noncomputable def tN:Key:=⟨132,[.agg q0],[],6661,bt,[],7355⟩
theorem Cq:bO Tryz.prog tabG tN:=bO.of xS fS mix 100000 zk (by kernel_rfl:cY Tryz.prog tabG aO Y1 100000 tN=true)
noncomputable def tO:Key:=⟨132,[.agg q0],[],7992,bt,[],8686⟩
theorem Cr:bO Tryz.prog tabG tO:=bO.of xS fS mix 100000 zk (by kernel_rfl:cY Tryz.prog tabG aO Y1 100000 tO=true)
noncomputable def tP:Key:=⟨132,[.agg q0],[],8814,bt,[],9508⟩
theorem Ct:bO Tryz.prog tabG tP:=bO.of xS fS mix 100000 zk (by kernel_rfl:cY Tryz.prog tabG aO Y1 100000 tP=true)
noncomputable def tQ:Key:=⟨132,[.agg q0],[],9632,bt,[],10326⟩
theorem Cu:bO Tryz.prog tabG tQ:=bO.of xS fS mix 100000 zk (by kernel_rfl:cY Tryz.prog tabG aO Y1 100000 tQ=true)
end Go.Proofs.YthfpmlpoiocfdaaGreatDoor
