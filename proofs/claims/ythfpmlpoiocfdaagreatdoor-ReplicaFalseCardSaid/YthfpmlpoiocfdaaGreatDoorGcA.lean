/-
  Several texts in one: RpD0, RpB0, RpB1, RpB2, RpX.
-/
import Derived.Test.YthfpmlpoiocfdaaGreatDoorEvWx
namespace Go.Proofs.YthfpmlpoiocfdaaGreatDoor
open Go.RowKit Go.Sx Go.Ev
set_option linter.unusedVariables false
set_option linter.unusedSimpArgs false
set_option linter.unnecessarySimpa false
set_option maxRecDepth 100000
def fs:AV:=.flat (.string ⟨#[]⟩)
def fl:AV:=.flat (.slice none 0 0)
def nu (n:Nat):AV:=.num .u64 n
def ni (n:Nat):AV:=.num .i64 n
def nb (n:Nat):AV:=.num .u8 n
def bf:AV:=.bool false
def bt:AV:=.bool true
def aj (a b:List (Nat×eK)):List (Nat×eK):=a++b
def Rq:List AV:=ap (b8 [128,199,122,201,144,63,138,192,58,195,187,152,60,192,240,64,210,141,246,60,43,148,165,157,31,81,6,55,173,80,206,26]) [fl]
def Rp:List AV:=ap (z8 32) (b8 [228,54,78,22,168,71,71,11,228,148,73,252,105,80,244,170,236,226,247,81,166,179,225,113,113,224,58,78,236,130,148,147])
def q9:List AV:=ap (z8 9) (b8 [1,97,0,1,48,0,0,0,0,128,199,122,201,144,63,138,192,58,195,187,152,60,192,240,64,210,141,246,60,43,148,165,157,31,81,6,55,173,80,206,26])
def q8:List AV:=ap (b8 [1,2,0,0,0,0,0,0,0,1]) q9
def q7:List AV:=ap [ni 1,nu 1,nb 2,.flat (.string ⟨#[97]⟩),.flat (.string ⟨#[48]⟩),fs,fs,nu 0] (b8 [128,199,122,201,144,63,138,192,58,195,187,152,60,192,240,64,210,141,246,60,43,148,165,157,31,81,6,55,173,80,206,26])
def q6:List AV:=ap (z8 8) q8
def q5:List AV:=ap [nb 1] q6
def q4:List AV:=ap [nb 1,nu 0,nu 0,ni 1,nu 1,nb 2,.flat (.string ⟨#[97]⟩),.flat (.string ⟨#[48]⟩),fs,fs,nu 0] Rq
def q3:List AV:=ap (z8 88) q5
def q2:List AV:=ap q4 Rp
def q1:List AV:=ap (rp 11 (nu 0)) q2
def q0:List AV:=ap [ni 1,nu 1] q1
noncomputable def MS:eK:=.cells [nu 0,ni 0,fs,nu 0,ni 0,fs,nu 0,ni 0,fs,nu 0,ni 0,fs,nu 0,ni 0,fs,nu 0,ni 0,fs,nu 0,ni 0,fs,nu 0,ni 0,fs]
noncomputable def Q4:eK:=.buf (b8 [141,213,122,173,14,86,57,134,118,184,83,133,208,44,170,9,226,71,163,249,26,169,7,152,207,255,240,96,200,232,205,156]) 1
noncomputable def Q5:eK:=.buf (ap (b8 [0,0,0,0,0,0,0,1,1]) q3) 1
noncomputable def NA:eK:=.buf (ap [nb 1] q3) 1
noncomputable def Q6:eK:=.cells [fl,.ptr 6 0,fl,.mp 7]
noncomputable def PV:eK:=.cells [nu 16,bt,nu 16,nu 0,nu 0]
noncomputable def Q7:eK:=.cells [ni 3,ni 1,.ptr 14 0,.ptr 2 0,.ptr 19 0,.ptr 36 0,.ptr 38 0,.ptr 8 0,.ptr 9 0,.sl 1929 0 1 0 false,fl,nu 0]
noncomputable def Q8:eK:=.cells [ni 3,fl,fl,fl,fl,fl,fl,fl,fl,fl,fl,fl,fl]
noncomputable def PW:eK:=.cells [fl,fl,fl]
noncomputable def L1:eK:=.map [((.int .u64 (0)),ni 0,0)] 1
noncomputable def Pn:eK:=.cells [nu 0,.sl 20 0 1 1 true,.mp 21]
noncomputable def Po:eK:=.cells [nu 0,.sl 25 0 1 1 true,.mp 26]
noncomputable def Pp:eK:=.cells [nu 0,.sl 30 0 1 1 true,.mp 31]
noncomputable def Pq:eK:=.cells (ap [ni 3] (rp 121 (nu 0)))
noncomputable def Jl:eK:=.buf q7 40
noncomputable def Pr:eK:=.map [((.agg #[.int .i64 (1),.int .u64 (1)]),bt,0)] 1
noncomputable def Ps:eK:=.map [((.int .u64 (0)),ni 1,0)] 1
noncomputable def Pt:eK:=.buf q0 121
noncomputable def Pu:eK:=.cells [.ptr 43 0,.ptr 44 0,nu 0]
noncomputable def Pv:eK:=.cells [fl,.ptr 45 0,fl,.mp 46]
noncomputable def Pw:eK:=.cells [ni 3,ni 2,.ptr 53 0,.ptr 41 0,.ptr 58 0,.ptr 75 0,.ptr 77 0,.ptr 47 0,.ptr 48 0,.sl 3271 0 1 0 false,fl,nu 0]
noncomputable def Px:eK:=.cells [nu 0,.sl 59 0 1 1 true,.mp 60]
noncomputable def Py:eK:=.cells [nu 0,.sl 64 0 1 1 true,.mp 65]
noncomputable def Pz:eK:=.cells [nu 0,.sl 69 0 1 1 true,.mp 70]
noncomputable def PA:eK:=.cells (ap [ni 3,nu 1] (rp 120 (nu 0)))
noncomputable def c0:List (Nat×eK):=[(11364,.buf (z8 208) 1)]
noncomputable def c1:List (Nat×eK):=[(6214,Q4),(6232,Q5)]
noncomputable def c2:List (Nat×eK):=[(2,.cells [.mp 1]),(3,.map [] 0),(4,.cells [.mp 3])]
noncomputable def c3:List (Nat×eK):=[(32,Pp),(34,.buf [.ptr 22 0,.ptr 27 0,.ptr 32 0] 1)]
noncomputable def c4:List (Nat×eK):=[(70,L1),(71,Pz),(73,.buf [.ptr 61 0,.ptr 66 0,.ptr 71 0] 1)]
noncomputable def HN:List AV×AV:=([w8 [1779033703,3144134277,1013904242,2773480762,1359893119,2600822924,528734635,1541459225],Jz [114,97,116,99,104,101,116,32,99,108,105,101,110,116,0,0,0,0,0,0,0,1,128,0,0,0,0,0,0,0,0,0,0,0,0,0,0,0,0,0,0,0,0,0,0,0,0,0,0,0,0,0,0,0,0,0,0,0,0,0,0,0,0,176]],w8 [2105689515,2252769688,2242084258,961332557,3045142011,923406640,3194179666,500506308])
theorem Qz:mh 285 HN:=⟨zk,zk,zk⟩
noncomputable def HO:List AV×AV:=([w8 [1779033703,3144134277,1013904242,2773480762,1359893119,2600822924,528734635,1541459225],Jz [75,180,115,157,176,112,191,174,179,149,75,148,15,122,243,123,131,183,27,205,1,60,39,6,136,85,102,100,43,227,40,242,54,54,54,54,54,54,54,54,54,54,54,54,54,54,54,54,54,54,54,54,54,54,54,54,54,54,54,54,54,54,54,54]],w8 [539560742,1417069998,2044710616,3347283774,3561489249,4134360919,2541014337,1507001365])
theorem QA:mh 285 HO:=⟨zk,zk,zk⟩
noncomputable def HP:List AV×AV:=([w8 [539560742,1417069998,2044710616,3347283774,3561489249,4134360919,2541014337,1507001365],Jz [1,2,0,0,0,0,0,0,0,1,0,0,0,0,0,0,0,0,0,1,97,0,1,48,0,0,0,0,128,0,0,0,0,0,0,0,0,0,0,0,0,0,0,0,0,0,0,0,0,0,0,0,0,0,0,0,0,0,0,0,0,0,2,224]],w8 [2455984222,2803119532,1862999118,1299052270,1450887853,3244536647,4109683308,324770266])
theorem QB:mh 285 HP:=⟨zk,zk,zk⟩
noncomputable def HQ:List AV×AV:=([w8 [1779033703,3144134277,1013904242,2773480762,1359893119,2600822924,528734635,1541459225],Jz [33,222,25,247,218,26,213,196,217,255,33,254,101,16,153,17,233,221,113,167,107,86,77,108,226,63,12,14,65,137,66,152,92,92,92,92,92,92,92,92,92,92,92,92,92,92,92,92,92,92,92,92,92,92,92,92,92,92,92,92,92,92,92,92]],w8 [2566018353,35313745,918840216,3458227154,799268865,2232422427,1898981727,1386925229])
theorem QC:mh 285 HQ:=⟨zk,zk,zk⟩
noncomputable def HR:List AV×AV:=([w8 [2566018353,35313745,918840216,3458227154,799268865,2232422427,1898981727,1386925229],Jz [146,99,88,94,167,20,53,172,111,11,28,78,77,109,246,238,86,122,202,173,193,99,179,71,244,244,202,108,19,91,153,218,128,0,0,0,0,0,0,0,0,0,0,0,0,0,0,0,0,0,0,0,0,0,0,0,0,0,0,0,0,0,3,0]],w8 [2160556745,2420083392,985906072,1019277376,3532518972,731162013,525403703,2907754010])
theorem QD:mh 285 HR:=⟨zk,zk,zk⟩
noncomputable def HT:List AV×AV:=([w8 [1779033703,3144134277,1013904242,2773480762,1359893119,2600822924,528734635,1541459225],Jz [114,97,116,99,104,101,116,32,114,101,112,108,105,99,97,0,0,0,0,0,0,0,1,128,0,0,0,0,0,0,0,0,0,0,0,0,0,0,0,0,0,0,0,0,0,0,0,0,0,0,0,0,0,0,0,0,0,0,0,0,0,0,0,184]],w8 [2379578029,240531846,1991791493,3492588041,3796345849,447285144,3489656928,3370700188])
theorem QE:mh 285 HT:=⟨zk,zk,zk⟩
noncomputable def HU:List AV×AV:=([w8 [1779033703,3144134277,1013904242,2773480762,1359893119,2600822924,528734635,1541459225],Jz [187,227,76,155,56,96,15,176,64,142,101,179,230,26,156,63,212,113,149,207,44,159,49,174,249,201,198,86,254,222,251,170,54,54,54,54,54,54,54,54,54,54,54,54,54,54,54,54,54,54,54,54,54,54,54,54,54,54,54,54,54,54,54,54]],w8 [843027209,523299964,3914465907,3953653675,526692111,1225392310,3430092,1814491114])
theorem QF:mh 285 HU:=⟨zk,zk,zk⟩
noncomputable def HV:List AV×AV:=([w8 [843027209,523299964,3914465907,3953653675,526692111,1225392310,3430092,1814491114],Jz [0,0,0,0,0,0,0,1,1,0,0,0,0,0,0,0,0,0,0,0,0,0,0,0,0,0,0,0,0,0,0,0,0,0,0,0,0,0,0,0,0,0,0,0,0,0,0,0,0,0,0,0,0,0,0,0,0,0,0,0,0,0,0,0]],w8 [4089824876,3267773438,918044150,1868261824,1419131882,2011485745,1682601465,2026468095])
theorem QG:mh 285 HV:=⟨zk,zk,zk⟩
noncomputable def HW:List AV×AV:=([w8 [4089824876,3267773438,918044150,1868261824,1419131882,2011485745,1682601465,2026468095],Jz [0,0,0,0,0,0,0,0,0,0,0,0,0,0,0,0,0,0,0,0,0,0,0,0,0,0,0,0,0,0,0,0,0,1,0,0,0,0,0,0,0,0,1,2,0,0,0,0,0,0,0,1,0,0,0,0,0,0,0,0,0,1,97,0]],w8 [3308541320,1796500555,2893569225,3900937685,378543333,2007831709,2589974407,419883367])
theorem QH:mh 285 HW:=⟨zk,zk,zk⟩
noncomputable def HX:List AV×AV:=([w8 [3308541320,1796500555,2893569225,3900937685,378543333,2007831709,2589974407,419883367],Jz [1,48,0,0,0,0,128,199,122,201,144,63,138,192,58,195,187,152,60,192,240,64,210,141,246,60,43,148,165,157,31,81,6,55,173,80,206,26,128,0,0,0,0,0,0,0,0,0,0,0,0,0,0,0,0,0,0,0,0,0,0,0,7,48]],w8 [3469760742,1627454746,37932331,2444051459,2133892639,1210559925,269830901,3582000987])
theorem QI:mh 285 HX:=⟨zk,zk,zk⟩
noncomputable def EC:List AV×AV:=([w8 [1779033703,3144134277,1013904242,2773480762,1359893119,2600822924,528734635,1541459225],Jz [209,137,38,241,82,10,101,218,42,228,15,217,140,112,246,85,190,27,255,165,70,245,91,196,147,163,172,60,148,180,145,192,92,92,92,92,92,92,92,92,92,92,92,92,92,92,92,92,92,92,92,92,92,92,92,92,92,92,92,92,92,92,92,92]],w8 [3027000786,3961005765,997304843,1197006476,708625524,828833778,3282937705,2952323835])
theorem PB:mh 285 EC:=⟨zk,zk,zk⟩
noncomputable def ED:List AV×AV:=([w8 [3027000786,3961005765,997304843,1197006476,708625524,828833778,3282937705,2952323835],Jz [206,208,88,230,97,0,253,26,2,66,205,43,145,173,68,3,127,48,158,31,72,39,173,181,16,21,74,245,213,128,255,91,128,0,0,0,0,0,0,0,0,0,0,0,0,0,0,0,0,0,0,0,0,0,0,0,0,0,0,0,0,0,3,0]],w8 [3828764182,2823243531,3834923516,1766913194,3974297425,2796806513,1910520398,3967980691])
theorem PC:mh 285 ED:=⟨zk,zk,zk⟩
noncomputable def Gy:List (List AV×AV):=[HN,HO,HP,HQ,HR,HT,HU,HV,HW,HX,EC,ED]
theorem Jm:∀ e∈Gy,mh 285 e:=by
 intro e he
 simp only [Gy,List.mem_cons,List.not_mem_nil,or_false] at he
 rcases he with rfl|rfl|rfl|rfl|rfl|rfl|rfl|rfl|rfl|rfl|rfl|rfl
 ·exact Qz
 ·exact QA
 ·exact QB
 ·exact QC
 ·exact QD
 ·exact QE
 ·exact QF
 ·exact QG
 ·exact QH
 ·exact QI
 ·exact PB
 ·exact PC
noncomputable def X1:eY:=λg=>bif Nat.beq g 285 then some (λax m=>match HK ax Gy with|some r=>some (r,m)|none=>none) else X0 g
theorem Ru:fC Tryz.prog tabG X1:=by
 intro g f h avs m r m' ν vs w w0 L hf hG hv hs
 unfold X1 at h
 cases hb:Nat.beq g 285 with
 | false =>
  rw [hb] at h
  exact HJ g f h avs m r m' ν vs w w0 L hf hG hv hs
 | true =>
  rw [hb] at h
  have:=Nat.eq_of_beq_eq_true hb
  subst this
  simp only [cond_true,Option.some.injEq] at h
  subst h
  simp only at hf
  split at hf
  ·rename_i r' hl
   simp only [Option.some.injEq,Prod.mk.injEq] at hf
   obtain⟨rfl,rfl⟩:=hf
   exact LK (e:=(avs,r')) zk (Jm _ (AF hl)) hG hv hs
  ·cases hf
end Go.Proofs.YthfpmlpoiocfdaaGreatDoor
