/-
  Several texts in one: RpY2, RpK3a, RpY3, RpW.
-/
import Derived.Test.YthfpmlpoiocfdaaGreatDoorGcE
namespace Go.Proofs.YthfpmlpoiocfdaaGreatDoor
open Go.RowKit Go.Sx Go.Ev
set_option linter.unusedVariables false
set_option linter.unusedSimpArgs false
set_option linter.unnecessarySimpa false
set_option maxRecDepth 100000
noncomputable def Om:List Key:=[GA,xT,tN,tO,tP,tQ]
theorem MU:∀ e∈Om,bO Tryz.prog tabG e:=by
 intro e he
 simp only [Om,List.mem_cons,List.not_mem_nil,or_false] at he
 rcases he with rfl|rfl|rfl|rfl|rfl|rfl
 ·exact Jn
 ·exact ER
 ·exact Cq
 ·exact Cr
 ·exact Ct
 ·exact Cu
noncomputable def Y2:eY:=pg Tryz.prog tabG aO Y1 100000 Om
theorem LQ:fC Tryz.prog tabG Y2:=ph xS fS mix 100000 MU
noncomputable def xU:Key:=⟨15,[.ptr 10 0,.agg q0],aj [(1,.map [] 0)] (aj c2 (aj [(5,MS),(6,.cells [.ptr 4 0,.ptr 5 0,nu 0]),(7,.map [] 0),(8,Q6),(9,PV),(10,Q7),(14,Q8),(15,.map [((.int .u64 (0)),.ptr 17 0,0)] 1),(16,.map [] 0),(17,.cells [nu 0,ni 0,fl,fl,.mp 16]),(18,PW),(19,.cells (ap [ni 3] (ap (rp 11 (nu 0)) [.mp 15,.sl 34 0 3 0 false,.sl 18 0 3 3 true]))),(20,.cells [nu 0]),(21,L1),(22,Pn),(25,.cells [nu 0]),(26,L1),(27,Po),(30,.cells [nu 0]),(31,L1)] (aj c3 [(35,.map [] 0),(36,.cells [ni 3,.mp 35]),(38,Pq),(1929,Jl)]))),6545,ni 0,aj [(1,.map [] 0)] (aj c2 (aj [(5,MS),(6,.cells [.ptr 4 0,.ptr 5 0,nu 0]),(7,.map [] 0),(8,Q6),(9,PV),(10,Q7),(14,.cells [ni 3,.sl 7363 0 1 0 false,fl,fl,fl,fl,fl,fl,fl,fl,fl,fl,.sl 7359 0 1 0 false]),(15,.map [((.int .u64 (0)),.ptr 17 0,0)] 1),(16,Pr),(17,.cells [nu 0,ni 0,.sl 7741 0 1 0 false,.sl 7743 0 1 0 false,.mp 16]),(18,PW),(19,.cells (ap [ni 3,nu 1] (ap (rp 10 (nu 0)) [.mp 15,.sl 34 0 3 0 false,.sl 18 0 3 3 true]))),(20,.cells [nu 0]),(21,Ps),(22,Pn),(25,.cells [nu 0]),(26,L1),(27,Po),(30,.cells [nu 0]),(31,L1)] (aj c3 [(35,.map [] 0),(36,.cells [ni 3,.mp 35]),(38,Pq),(1929,Jl),(7359,.buf [ni 0,ni 0] 2),(7363,Pt),(7741,Jl),(7743,.buf [nu 1] 1)]))),7856⟩
theorem ES:bO Tryz.prog tabG xU:=bO.of LQ fS mix 100000 zk (by kernel_rfl:cY Tryz.prog tabG aO Y2 100000 xU=true)
noncomputable def xV:Key:=⟨15,[.ptr 49 0,.agg q0],aj [(40,.map [] 1),(41,.cells [.mp 40]),(42,.map [] 0),(43,.cells [.mp 42]),(44,MS),(45,Pu),(46,.map [] 0),(47,Pv),(48,PV),(49,Pw),(53,Q8),(54,.map [((.int .u64 (0)),.ptr 56 0,0)] 1),(55,.map [] 0),(56,.cells [nu 0,ni 0,fl,fl,.mp 55]),(57,PW),(58,.cells (ap [ni 3] (ap (rp 11 (nu 0)) [.mp 54,.sl 73 0 3 0 false,.sl 57 0 3 3 true]))),(59,.cells [nu 0]),(60,L1),(61,Px),(64,.cells [nu 0]),(65,L1),(66,Py),(69,.cells [nu 0])] (aj c4 [(74,.map [] 0),(75,.cells [ni 3,.mp 74]),(77,PA),(3271,Jl)]),9516,ni 0,aj [(40,.map [] 1),(41,.cells [.mp 40]),(42,.map [] 0),(43,.cells [.mp 42]),(44,MS),(45,Pu),(46,.map [] 0),(47,Pv),(48,PV),(49,Pw),(53,.cells [ni 3,.sl 10334 0 1 0 false,fl,fl,fl,fl,fl,fl,fl,fl,fl,fl,.sl 10330 0 1 0 false]),(54,.map [((.int .u64 (0)),.ptr 56 0,0)] 1),(55,Pr),(56,.cells [nu 0,ni 0,.sl 10712 0 1 0 false,.sl 10714 0 1 0 false,.mp 55]),(57,PW),(58,.cells (ap [ni 3,nu 1] (ap (rp 10 (nu 0)) [.mp 54,.sl 73 0 3 0 false,.sl 57 0 3 3 true]))),(59,.cells [nu 0]),(60,Ps),(61,Px),(64,.cells [nu 0]),(65,L1),(66,Py),(69,.cells [nu 0])] (aj c4 [(74,.map [] 0),(75,.cells [ni 3,.mp 74]),(77,PA),(3271,Jl),(10330,.buf [ni 0,ni 0] 2),(10334,Pt),(10712,Jl),(10714,.buf [nu 1] 1)]),10827⟩
theorem ET:bO Tryz.prog tabG xV:=bO.of LQ fS mix 100000 zk (by kernel_rfl:cY Tryz.prog tabG aO Y2 100000 xV=true)
noncomputable def On:List Key:=[xU,xV]
theorem MV:∀ e∈On,bO Tryz.prog tabG e:=by
 intro e he
 simp only [On,List.mem_cons,List.not_mem_nil,or_false] at he
 rcases he with rfl|rfl
 ·exact ES
 ·exact ET
noncomputable def Y3:eY:=pg Tryz.prog tabG aO Y2 100000 On
theorem PD:fC Tryz.prog tabG Y3:=ph LQ fS mix 100000 MV
theorem EU:(lC Tryz.prog tabG Y3 (uL Tryz.prog tabG aO Y3 100000) 5 [] ⟨.nil,0⟩).map (·.1)=some (.bool true):=zk
theorem nB {w w0:World}{L:List bA}(hG:nO tabG w0 L) (hs:St w0 L w):Calls Tryz.prog 5 #[] w (eD λrv w'=>rv=.bool true/\St w0 L w') :=
 EA PD 100000 zk (avs:=[]) (vs:=[]) (by rw [<- mL];exact EU) rfl rfl hG hs
end Go.Proofs.YthfpmlpoiocfdaaGreatDoor
