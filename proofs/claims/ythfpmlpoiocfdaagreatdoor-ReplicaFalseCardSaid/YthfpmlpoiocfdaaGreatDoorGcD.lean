/-
  Several texts in one: RpK1c, RpK1d.
-/
import Derived.Test.YthfpmlpoiocfdaaGreatDoorGcA
namespace Go.Proofs.YthfpmlpoiocfdaaGreatDoor
open Go.RowKit Go.Sx Go.Ev
set_option linter.unusedVariables false
set_option linter.unusedSimpArgs false
set_option linter.unnecessarySimpa false
set_option maxRecDepth 100000
noncomputable def tE:Key:=⟨170,[.agg [.num .u32 4089824876,.num .u32 3267773438,.num .u32 918044150,.num .u32 1868261824,.num .u32 1419131882,.num .u32 2011485745,.num .u32 1682601465,.num .u32 2026468095],.agg (ap (z8 33) (ap [nb 1] (ap (z8 8) (ap (b8 [1,2,0,0,0,0,0,0,0,1]) (ap (z8 9) [nb 1,nb 97,nb 0])))))],[],6375,.agg [.num .u32 3308541320,.num .u32 1796500555,.num .u32 2893569225,.num .u32 3900937685,.num .u32 378543333,.num .u32 2007831709,.num .u32 2589974407,.num .u32 419883367],[],6382⟩
theorem Ch:bO Tryz.prog tabG tE:=bO.of Ru fS mix 100000 zk (by kernel_rfl:cY Tryz.prog tabG aO X1 100000 tE=true)
noncomputable def tF:Key:=⟨170,[.agg [.num .u32 3308541320,.num .u32 1796500555,.num .u32 2893569225,.num .u32 3900937685,.num .u32 378543333,.num .u32 2007831709,.num .u32 2589974407,.num .u32 419883367],.agg (ap (b8 [1,48,0,0,0,0,128,199,122,201,144,63,138,192,58,195,187,152,60,192,240,64,210,141,246,60,43,148,165,157,31,81,6,55,173,80,206,26,128]) (ap (z8 23) [nb 7,nb 48]))],[],6383,.agg [.num .u32 3469760742,.num .u32 1627454746,.num .u32 37932331,.num .u32 2444051459,.num .u32 2133892639,.num .u32 1210559925,.num .u32 269830901,.num .u32 3582000987],[],6390⟩
theorem Ci:bO Tryz.prog tabG tF:=bO.of Ru fS mix 100000 zk (by kernel_rfl:cY Tryz.prog tabG aO X1 100000 tF=true)
noncomputable def tG:Key:=⟨170,[.agg [.num .u32 1779033703,.num .u32 3144134277,.num .u32 1013904242,.num .u32 2773480762,.num .u32 1359893119,.num .u32 2600822924,.num .u32 528734635,.num .u32 1541459225],.agg (ap (b8 [209,137,38,241,82,10,101,218,42,228,15,217,140,112,246,85,190,27,255,165,70,245,91,196,147,163,172,60,148,180,145,192]) (rp 32 (nb 92)))],[],6529,.agg [.num .u32 3027000786,.num .u32 3961005765,.num .u32 997304843,.num .u32 1197006476,.num .u32 708625524,.num .u32 828833778,.num .u32 3282937705,.num .u32 2952323835],[],6536⟩
theorem Cj:bO Tryz.prog tabG tG:=bO.of Ru fS mix 100000 zk (by kernel_rfl:cY Tryz.prog tabG aO X1 100000 tG=true)
noncomputable def tH:Key:=⟨170,[.agg [.num .u32 3027000786,.num .u32 3961005765,.num .u32 997304843,.num .u32 1197006476,.num .u32 708625524,.num .u32 828833778,.num .u32 3282937705,.num .u32 2952323835],.agg (ap (b8 [206,208,88,230,97,0,253,26,2,66,205,43,145,173,68,3,127,48,158,31,72,39,173,181,16,21,74,245,213,128,255,91,128]) (ap (z8 29) [nb 3,nb 0]))],[],6537,.agg [.num .u32 3828764182,.num .u32 2823243531,.num .u32 3834923516,.num .u32 1766913194,.num .u32 3974297425,.num .u32 2796806513,.num .u32 1910520398,.num .u32 3967980691],[],6544⟩
theorem Ck:bO Tryz.prog tabG tH:=bO.of Ru fS mix 100000 zk (by kernel_rfl:cY Tryz.prog tabG aO X1 100000 tH=true)
noncomputable def tI:Key:=⟨240,[ni 1,nu 1,.sl 7083 0 158 0 false],[(7083,NA)],7162,.agg (b8 [228,54,78,22,168,71,71,11,228,148,73,252,105,80,244,170,236,226,247,81,166,179,225,113,113,224,58,78,236,130,148,147]),[(7083,NA)],7353⟩
theorem Cl:bO Tryz.prog tabG tI:=bO.of Ru fS mix 100000 zk (by kernel_rfl:cY Tryz.prog tabG aO X1 100000 tI=true)
noncomputable def xR:Key:=⟨67,[.agg q7],[],7481,.agg (b8 [128,199,122,201,144,63,138,192,58,195,187,152,60,192,240,64,210,141,246,60,43,148,165,157,31,81,6,55,173,80,206,26]),[],7737⟩
theorem EP:bO Tryz.prog tabG xR:=bO.of Ru fS mix 100000 zk (by kernel_rfl:cY Tryz.prog tabG aO X1 100000 xR=true)
noncomputable def tJ:Key:=⟨240,[ni 1,nu 1,.sl 8414 0 158 0 false],[(8414,NA)],8493,.agg (b8 [228,54,78,22,168,71,71,11,228,148,73,252,105,80,244,170,236,226,247,81,166,179,225,113,113,224,58,78,236,130,148,147]),[(8414,NA)],8684⟩
theorem Cm:bO Tryz.prog tabG tJ:=bO.of Ru fS mix 100000 zk (by kernel_rfl:cY Tryz.prog tabG aO X1 100000 tJ=true)
noncomputable def tK:Key:=⟨240,[ni 1,nu 1,.sl 9236 0 158 0 false],[(9236,NA)],9315,.agg (b8 [228,54,78,22,168,71,71,11,228,148,73,252,105,80,244,170,236,226,247,81,166,179,225,113,113,224,58,78,236,130,148,147]),[(9236,NA)],9506⟩
theorem Cn:bO Tryz.prog tabG tK:=bO.of Ru fS mix 100000 zk (by kernel_rfl:cY Tryz.prog tabG aO X1 100000 tK=true)
noncomputable def qP:Key:=⟨240,[ni 1,nu 1,.sl 10054 0 158 0 false],[(10054,NA)],10133,.agg (b8 [228,54,78,22,168,71,71,11,228,148,73,252,105,80,244,170,236,226,247,81,166,179,225,113,113,224,58,78,236,130,148,147]),[(10054,NA)],10324⟩
theorem yD:bO Tryz.prog tabG qP:=bO.of Ru fS mix 100000 zk (by kernel_rfl:cY Tryz.prog tabG aO X1 100000 qP=true)
noncomputable def tL:Key:=⟨67,[.agg q7],[],10452,.agg (b8 [128,199,122,201,144,63,138,192,58,195,187,152,60,192,240,64,210,141,246,60,43,148,165,157,31,81,6,55,173,80,206,26]),[],10708⟩
theorem Co:bO Tryz.prog tabG tL:=bO.of Ru fS mix 100000 zk (by kernel_rfl:cY Tryz.prog tabG aO X1 100000 tL=true)
noncomputable def tM:Key:=⟨69,[.sl 11364 0 208 0 false],c0,11365,.qU [.ptr 11368 0,ni 0],aj c0 [(11368,.cells [.ptr 11411 0,.ptr 11409 0,nu 0]),(11409,MS),(11410,.map [] 0),(11411,.cells [.mp 11410])],11925⟩
theorem Cp:bO Tryz.prog tabG tM:=bO.of Ru fS mix 100000 zk (by kernel_rfl:cY Tryz.prog tabG aO X1 100000 tM=true)
end Go.Proofs.YthfpmlpoiocfdaaGreatDoor
