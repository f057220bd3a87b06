/-
  Several texts in one: RpK1a.
-/
import Derived.Test.YthfpmlpoiocfdaaGreatDoorGcA
namespace Go.Proofs.YthfpmlpoiocfdaaGreatDoor
open Go.RowKit Go.Sx Go.Ev
set_option linter.unusedVariables false
set_option linter.unusedSimpArgs false
set_option linter.unnecessarySimpa false
set_option maxRecDepth 100000
noncomputable def xG:Key:=⟨170,[.agg [.num .u32 1779033703,.num .u32 3144134277,.num .u32 1013904242,.num .u32 2773480762,.num .u32 1359893119,.num .u32 2600822924,.num .u32 528734635,.num .u32 1541459225],.agg (ap (b8 [114,97,116,99,104,101,116,32,99,108,105,101,110,116,0,0,0,0,0,0,0,1,128]) (ap (z8 40) [nb 176]))],[],193,.agg [.num .u32 2105689515,.num .u32 2252769688,.num .u32 2242084258,.num .u32 961332557,.num .u32 3045142011,.num .u32 923406640,.num .u32 3194179666,.num .u32 500506308],[],200⟩
theorem EE:bO Tryz.prog tabG xG:=bO.of Ru fS mix 100000 zk (by kernel_rfl:cY Tryz.prog tabG aO X1 100000 xG=true)
noncomputable def xH:Key:=⟨170,[.agg [.num .u32 1779033703,.num .u32 3144134277,.num .u32 1013904242,.num .u32 2773480762,.num .u32 1359893119,.num .u32 2600822924,.num .u32 528734635,.num .u32 1541459225],.agg (ap (b8 [75,180,115,157,176,112,191,174,179,149,75,148,15,122,243,123,131,183,27,205,1,60,39,6,136,85,102,100,43,227,40,242]) (rp 32 (nb 54)))],[],417,.agg [.num .u32 539560742,.num .u32 1417069998,.num .u32 2044710616,.num .u32 3347283774,.num .u32 3561489249,.num .u32 4134360919,.num .u32 2541014337,.num .u32 1507001365],[],424⟩
theorem EF:bO Tryz.prog tabG xH:=bO.of Ru fS mix 100000 zk (by kernel_rfl:cY Tryz.prog tabG aO X1 100000 xH=true)
noncomputable def xI:Key:=⟨170,[.agg [.num .u32 539560742,.num .u32 1417069998,.num .u32 2044710616,.num .u32 3347283774,.num .u32 3561489249,.num .u32 4134360919,.num .u32 2541014337,.num .u32 1507001365],.agg (ap (b8 [1,2,0,0,0,0,0,0,0,1]) (ap (z8 9) (ap (b8 [1,97,0,1,48,0,0,0,0,128]) (ap (z8 33) [nb 2,nb 224]))))],[],425,.agg [.num .u32 2455984222,.num .u32 2803119532,.num .u32 1862999118,.num .u32 1299052270,.num .u32 1450887853,.num .u32 3244536647,.num .u32 4109683308,.num .u32 324770266],[],432⟩
theorem EG:bO Tryz.prog tabG xI:=bO.of Ru fS mix 100000 zk (by kernel_rfl:cY Tryz.prog tabG aO X1 100000 xI=true)
noncomputable def xJ:Key:=⟨170,[.agg [.num .u32 1779033703,.num .u32 3144134277,.num .u32 1013904242,.num .u32 2773480762,.num .u32 1359893119,.num .u32 2600822924,.num .u32 528734635,.num .u32 1541459225],.agg (ap (b8 [33,222,25,247,218,26,213,196,217,255,33,254,101,16,153,17,233,221,113,167,107,86,77,108,226,63,12,14,65,137,66,152]) (rp 32 (nb 92)))],[],571,.agg [.num .u32 2566018353,.num .u32 35313745,.num .u32 918840216,.num .u32 3458227154,.num .u32 799268865,.num .u32 2232422427,.num .u32 1898981727,.num .u32 1386925229],[],578⟩
theorem EH:bO Tryz.prog tabG xJ:=bO.of Ru fS mix 100000 zk (by kernel_rfl:cY Tryz.prog tabG aO X1 100000 xJ=true)
noncomputable def xK:Key:=⟨170,[.agg [.num .u32 2566018353,.num .u32 35313745,.num .u32 918840216,.num .u32 3458227154,.num .u32 799268865,.num .u32 2232422427,.num .u32 1898981727,.num .u32 1386925229],.agg (ap (b8 [146,99,88,94,167,20,53,172,111,11,28,78,77,109,246,238,86,122,202,173,193,99,179,71,244,244,202,108,19,91,153,218,128]) (ap (z8 29) [nb 3,nb 0]))],[],579,.agg [.num .u32 2160556745,.num .u32 2420083392,.num .u32 985906072,.num .u32 1019277376,.num .u32 3532518972,.num .u32 731162013,.num .u32 525403703,.num .u32 2907754010],[],586⟩
theorem EI:bO Tryz.prog tabG xK:=bO.of Ru fS mix 100000 zk (by kernel_rfl:cY Tryz.prog tabG aO X1 100000 xK=true)
noncomputable def Cd:Key:=⟨67,[.agg q7],[],594,.agg (b8 [128,199,122,201,144,63,138,192,58,195,187,152,60,192,240,64,210,141,246,60,43,148,165,157,31,81,6,55,173,80,206,26]),[],850⟩
theorem Gz:bO Tryz.prog tabG Cd:=bO.of Ru fS mix 100000 zk (by kernel_rfl:cY Tryz.prog tabG aO X1 100000 Cd=true)
noncomputable def xL:Key:=⟨69,[.sl 1364 0 208 0 false],[(1364,.buf (z8 208) 1)],1365,.qU [.ptr 1368 0,ni 0],[(1364,.buf (z8 208) 1),(1368,.cells [.ptr 1411 0,.ptr 1409 0,nu 0]),(1409,MS),(1410,.map [] 0),(1411,.cells [.mp 1410])],1925⟩
theorem EJ:bO Tryz.prog tabG xL:=bO.of Ru fS mix 100000 zk (by kernel_rfl:cY Tryz.prog tabG aO X1 100000 xL=true)
end Go.Proofs.YthfpmlpoiocfdaaGreatDoor
