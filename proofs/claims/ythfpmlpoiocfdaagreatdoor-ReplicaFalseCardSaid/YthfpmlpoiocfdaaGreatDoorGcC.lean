/-
  Several texts in one: RpK1b.
-/
import Derived.Test.YthfpmlpoiocfdaaGreatDoorGcA
namespace Go.Proofs.YthfpmlpoiocfdaaGreatDoor
open Go.RowKit Go.Sx Go.Ev
set_option linter.unusedVariables false
set_option linter.unusedSimpArgs false
set_option linter.unnecessarySimpa false
set_option maxRecDepth 100000
noncomputable def xM:Key:=⟨67,[.agg q7],[],1936,.agg (b8 [128,199,122,201,144,63,138,192,58,195,187,152,60,192,240,64,210,141,246,60,43,148,165,157,31,81,6,55,173,80,206,26]),[],2192⟩
theorem EK:bO Tryz.prog tabG xM:=bO.of Ru fS mix 100000 zk (by kernel_rfl:cY Tryz.prog tabG aO X1 100000 xM=true)
noncomputable def xN:Key:=⟨69,[.sl 2706 0 208 0 false],[(2706,.buf (z8 208) 1)],2707,.qU [.ptr 2710 0,ni 0],[(2706,.buf (z8 208) 1),(2710,.cells [.ptr 2753 0,.ptr 2751 0,nu 0]),(2751,MS),(2752,.map [] 0),(2753,.cells [.mp 2752])],3267⟩
theorem EL:bO Tryz.prog tabG xN:=bO.of Ru fS mix 100000 zk (by kernel_rfl:cY Tryz.prog tabG aO X1 100000 xN=true)
noncomputable def xO:Key:=⟨69,[.sl 3798 0 208 0 false],[(3798,.buf (z8 208) 1)],3799,.qU [.ptr 3802 0,ni 0],[(3798,.buf (z8 208) 1),(3802,.cells [.ptr 3845 0,.ptr 3843 0,nu 0]),(3843,MS),(3844,.map [] 0),(3845,.cells [.mp 3844])],4359⟩
theorem EM:bO Tryz.prog tabG xO:=bO.of Ru fS mix 100000 zk (by kernel_rfl:cY Tryz.prog tabG aO X1 100000 xO=true)
noncomputable def xP:Key:=⟨67,[.agg q7],[],4397,.agg (b8 [128,199,122,201,144,63,138,192,58,195,187,152,60,192,240,64,210,141,246,60,43,148,165,157,31,81,6,55,173,80,206,26]),[],4653⟩
theorem EN:bO Tryz.prog tabG xP:=bO.of Ru fS mix 100000 zk (by kernel_rfl:cY Tryz.prog tabG aO X1 100000 xP=true)
noncomputable def xQ:Key:=⟨69,[.sl 5186 0 208 0 false],[(5186,.buf (z8 208) 1)],5187,.qU [.ptr 5190 0,ni 0],[(5186,.buf (z8 208) 1),(5190,.cells [.ptr 5233 0,.ptr 5231 0,nu 0]),(5231,MS),(5232,.map [] 0),(5233,.cells [.mp 5232])],5747⟩
theorem EO:bO Tryz.prog tabG xQ:=bO.of Ru fS mix 100000 zk (by kernel_rfl:cY Tryz.prog tabG aO X1 100000 xQ=true)
noncomputable def tB:Key:=⟨170,[.agg [.num .u32 1779033703,.num .u32 3144134277,.num .u32 1013904242,.num .u32 2773480762,.num .u32 1359893119,.num .u32 2600822924,.num .u32 528734635,.num .u32 1541459225],.agg (ap (b8 [114,97,116,99,104,101,116,32,114,101,112,108,105,99,97,0,0,0,0,0,0,0,1,128]) (ap (z8 39) [nb 184]))],[],6204,.agg [.num .u32 2379578029,.num .u32 240531846,.num .u32 1991791493,.num .u32 3492588041,.num .u32 3796345849,.num .u32 447285144,.num .u32 3489656928,.num .u32 3370700188],[],6211⟩
theorem Ce:bO Tryz.prog tabG tB:=bO.of Ru fS mix 100000 zk (by kernel_rfl:cY Tryz.prog tabG aO X1 100000 tB=true)
noncomputable def tC:Key:=⟨170,[.agg [.num .u32 1779033703,.num .u32 3144134277,.num .u32 1013904242,.num .u32 2773480762,.num .u32 1359893119,.num .u32 2600822924,.num .u32 528734635,.num .u32 1541459225],.agg (ap (b8 [187,227,76,155,56,96,15,176,64,142,101,179,230,26,156,63,212,113,149,207,44,159,49,174,249,201,198,86,254,222,251,170]) (rp 32 (nb 54)))],[],6359,.agg [.num .u32 843027209,.num .u32 523299964,.num .u32 3914465907,.num .u32 3953653675,.num .u32 526692111,.num .u32 1225392310,.num .u32 3430092,.num .u32 1814491114],[],6366⟩
theorem Cf:bO Tryz.prog tabG tC:=bO.of Ru fS mix 100000 zk (by kernel_rfl:cY Tryz.prog tabG aO X1 100000 tC=true)
noncomputable def tD:Key:=⟨170,[.agg [.num .u32 843027209,.num .u32 523299964,.num .u32 3914465907,.num .u32 3953653675,.num .u32 526692111,.num .u32 1225392310,.num .u32 3430092,.num .u32 1814491114],.agg (ap (b8 [0,0,0,0,0,0,0,1,1]) (z8 55))],[],6367,.agg [.num .u32 4089824876,.num .u32 3267773438,.num .u32 918044150,.num .u32 1868261824,.num .u32 1419131882,.num .u32 2011485745,.num .u32 1682601465,.num .u32 2026468095],[],6374⟩
theorem Cg:bO Tryz.prog tabG tD:=bO.of Ru fS mix 100000 zk (by kernel_rfl:cY Tryz.prog tabG aO X1 100000 tD=true)
end Go.Proofs.YthfpmlpoiocfdaaGreatDoor
