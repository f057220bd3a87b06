/-
  Several texts in one: RqA, WdA, WdB, RqB, RqC, WdC.
-/
import Derived.Test.YthfpmlpoiocfdaaGreatDoorGaE
namespace Go.Proofs.YthfpmlpoiocfdaaGreatDoor
open Go.RowKit Go.Sx
set_option linter.unusedVariables false
set_option linter.unusedSimpArgs false
set_option linter.unnecessarySimpa false
set_option maxRecDepth 100000
section
variable {w0 w : World} {L : List bA}
def mY (i:Int):List Int:=rH (⟨#[114,97,116,99,104,101,116,32,99,108,105,101,110,116]⟩:ByteArray) i
def jC (r:bC):bW:=jV (gP (mY r.cl) (oo r))
def signed (r:bC):bC:=if ou r=true then ⟨r.cl,r.tm,r.op,jC r⟩ else r
theorem um (i:Int):(mY i).length=32:=lS ..
theorem Bl i (hi:1 <= i /\ i <= 8) (hs:St w0 L w):Cs Tryz.prog 63 #[.int .i64 i] w λrv w'=>∃ ao co,rv=.slice ao ((mY i).length) co /\ St w0 (Sl ao co 5 1 aD (mY i)::L) w':=by
 refine dF Tryz.func63 Tryz.ntmps63 (En (Lq (Ls (Lg [1] (Lw (Zc (zX (⟨#[114,97,116,99,104,101,116,32,99,108,105,101,110,116]⟩:ByteArray) i 8 za za za zb zb hs) ?_))))))
 rintro v4 w5 ⟨u,z,rfl,a0⟩
 exact Lz (Le (Dz (bY (v:=.slice u ((rH (⟨#[114,97,116,99,104,101,116,32,99,108,105,101,110,116]⟩:ByteArray) i).length) z) ⟨u,z,rfl,a0⟩)))
theorem Bm i (hi:1 <= i /\ i <= 8) (hTab:∀ w,St w0 L w -> kA w) (hs:St w0 L w):Cs Tryz.prog 115 #[.int .i64 i] w λrv w'=>∃ ao co,rv=.slice ao ((mY i).length) co /\ St w0 (Sl ao co 5 1 aD (mY i)::L) w':=by
 refine dF Tryz.func115 Tryz.ntmps115 (En (Lq (Ls (Lg [1] (Lw (Zc (Df (⟨#[114,97,116,99,104,101,116,32,99,108,105,101,110,116]⟩:ByteArray) i 8 za za za zb (λw h=>hTab w (h.drop 0)) hs) ?_))))))
 rintro v4 w5 ⟨u,z,rfl,a0⟩
 exact Lz (Le (Dz (bY (v:=.slice u ((rH (⟨#[114,97,116,99,104,101,116,32,99,108,105,101,110,116]⟩:ByteArray) i).length) z) ⟨u,z,rfl,a0⟩)))
theorem IM {adk:Option Addr}{ck:Nat}{adb:Option Addr}{cb:Nat} key bl (hkl:key.length <= 64) (hnk:adk=none -> ck=0) (hbl:bl.length <= 50000) (hnb:adb=none -> cb=0) (hb1:∀ z∈key,0 <= z /\ z<256) (hb2:∀ z∈bl,0 <= z /\ z<256) (hr1:Rw w0 L aD 1 0 adk key) (hr2:Rw w0 L aD 1 0 adb bl) (hs:St w0 L w):Cs Tryz.prog 62 #[.slice adk key.length ck,.slice adb bl.length cb] w λrv w'=>rv=.agg (bW.cells (jV (gP key bl))) /\ St w0 L w':=by
 rw [<- Mb (eJ key bl)]
 exact Dn key bl hkl hnk hbl hnb hb1 hb2 hr1 hr2 hs
theorem FZ {adk:Option Addr}{ck:Nat}{adb:Option Addr}{cb:Nat} key bl (hkl:key.length <= 64) (hnk:adk=none -> ck=0) (hbc:bl.length <= cb) (hbl:bl.length <= 1000000000) (hTab:∀ w,St w0 L w -> kA w) (hr1:Rw w0 L aD 1 0 adk key) (hr2:Rw w0 L aD 1 0 adb bl) (hs:St w0 L w):Cs Tryz.prog 114 #[.slice adk key.length ck,.slice adb bl.length cb] w λrv w'=>rv=.agg (bW.cells (jV (gP key bl))) /\ St w0 L w':=by
 rw [<- Mb (eJ key bl)]
 exact wg key bl hkl hnk hbc hbl hTab hr1 hr2 hs
theorem wA {r:bC}(h:dC r=true):1 <= r.cl /\ r.cl <= 8:=by
 unfold dC at h
 by_cases u:1 <= r.cl /\ r.cl <= 8
 ·exact u
 ·exfalso
  revert h
  simp only [Bool.and_eq_true,decide_eq_true_eq]
  intro h
  omega
theorem mZ r (hr9:mW r) (hs:St w0 L w):Cs Tryz.prog 32 #[.agg (bC.cells r)] w λrv w'=>rv=.agg (bC.cells (signed r)) /\ St w0 L w':=by
 refine dF Tryz.func32 Tryz.ntmps32 (En (Ls (Lg [0,1] (Dz (mT (bC.cells r) hs λb1 w2 a9=>Lo (Dz (tW (bC.cells cP) a9 λb4 w5 a3=>Lo (Ld (Lt (Ls (Ls (Dz (dZ [1] (hP 0 1 0 40 (bC.cells r) a3 Hz) (dJ (f:=61) (args:=#[.agg (bC.cells r)]) Tryz.call61 (ov r a3) ?_))))))))))))))
 rintro v8 w9 ⟨rfl,a0⟩
 refine Lo (Ld (Lt (Dz (eZ (t:=ou r) (λu=>?_) (λu=>?_)))))
 ·have hab:dC r=true:=by rw [<- pA];exact u
  have a4:=kX hab
  have hcl:1 <= r.cl /\ r.cl <= 8:=wA hab
  refine ZD (gE [0,1,3] (.ef 2 (.ef 4 (.ef 5 (.rd 6 (.ef 7 .done)))))) a0 λb6 a1 b7=>Zj (Hl 1 1 0 a1 (hP 3 1 0 40 (bC.cells r) a1 Hz)) (Zc (Bl r.cl zc a1) ?_)
  rintro b9 c0 ⟨c1,c2,rfl,a5⟩
  refine⟨gR (n:=[.prop (Array.size (bC.cells r)=40),.cells ⟨b1,0,none⟩ (bC.cells r)]) zk (aJ zk (iN (a5.cells 2 0 rfl zk) aR)),dJ (f:=64) (args:=#[.slice none (([]:List Int).length) 0,.agg (bC.cells r)]) Tryz.call64 (pY ([]:List Int) r (Nat.zero_le _) hr9 a4 (St.eB a5 5 1 aD)) ?_⟩
  rintro c3 c4 ⟨c5,c6,rfl,a2⟩
  exact Lo (Dz (CH (IM (mY r.cl) (([]:List Int)++oo r) (by rw [um];decide) (a2.hZ 1 rfl) (by have:=ln a4;simp only [List.nil_append,List.length_append,List.length_nil];omega) (a2.hZ 0 rfl) (lB _ 8) (λz hz=>GW hr9 z (by simpa using hz)) (λw h=>h.rows 1 rfl aF.size _) (λw h=>h.rows 0 rfl aF.size _) a2) λc9 b2=>Lo (Lw (Zu 3 8 (bC.cells (⟨r.cl,r.tm,r.op,jV (gP (mY r.cl) (([]:List Int)++oo r))⟩:bC)) b2 λd1 a6=>Lo (Ld (Lt (Ls (Dz (dZ [1] (hP 0 3 0 40 (bC.cells (⟨r.cl,r.tm,r.op,jV (gP (mY r.cl) (([]:List Int)++oo r))⟩:bC)) a6 Hz) (Zu 2 0 (bC.cells (⟨r.cl,r.tm,r.op,jV (gP (mY r.cl) (([]:List Int)++oo r))⟩:bC)) a6 λd2 a7=>Lo (Ld (Lt (Le (Dz (CI 2 a7 ⟨(by unfold signed;rw [if_pos u];rfl),a7.dr 4⟩)))))))))))))))
 ·exact Zk (Zt (Zs (dZ [1] (hP 0 1 0 40 (bC.cells r) a0 Hz) (Zu 0 0 (bC.cells r) a0 λd3 a8=>Lo (Ld (Lt (Le (Dz (CI 0 a8 ⟨(by unfold signed;rw [if_neg (by rw [u];decide)]),a8.dr 2⟩)))))))))
theorem Dv (r:bC):∀ z∈(jC r).toList,0 <= z /\ z<256:=by
 unfold jC
 rw [Ha (eJ _ _)]
 exact lB _ 8
theorem zY {r:bC}(h:mW r):mW (signed r):=by
 unfold signed
 split
 ·exact⟨h.cl,h.tm,h.kd,h.am,Dv r⟩
 ·exact h
theorem F0 r (hr9:mW r) (hs:St w0 L w):Cs Tryz.prog 164 #[.agg (bC.cells r)] w λrv w'=>∃ ob2,rv=.bool ob2 /\ St w0 L w':=by
 refine dF Tryz.func164 Tryz.ntmps164 (En (Ls (Lg [0] (Dz (mT (bC.cells r) hs λb1 w2 a2=>Lz (Ls (Dz (ZD (.rd 0 (.ef 1 (gE [2,3,6,7] (.ef 4 (gE [5,8,9,10] .done))))) a2 λw4 z a5=>Zj (hP 0 0 0 40 (bC.cells r) z Hz) (dJ (f:=61) (args:=#[.agg (bC.cells r)]) Tryz.call61 (ov r z) ?_)))))))))
 rintro v8 w9 ⟨rfl,u⟩
 refine Lo (Dz (Zr 2 1 [] (iy 5 (ou r) (λa0=>?_) (λa0=>?_))))
 ·have hab:dC r=true:=by rw [<- pA];exact a0
  have a6:=kX hab
  have hcl:1 <= r.cl /\ r.cl <= 8:=wA hab
  exact Zj (hP 3 0 0 40 (bC.cells r) u (hP 7 0 8 32 (bW.cells r.tg) u Hz)) (CH (mZ r hr9 u) λa8 a1=>⟨gR (n:=[.prop (Array.size (bW.cells r.tg)=32),.cells ⟨b1,8,none⟩ (bW.cells r.tg)]) zk (aJ zk (iN (a1.cells 0 8 rfl zk) aR)),Zr 5 1 [] (aL.vC rfl zk (b:=true) (t:=39) (xs:=bW.cells ((signed r).tg)) (ys:=bW.cells r.tg) (m:=2) zk zk zb zk (r:=decide ((signed r).tg=r.tg)) (CL  (JS ((signed r).tg) r.tg)) (En (cI (Lt (Le (Dz (bY (v:=.bool (decide ((signed r).tg=r.tg))) ⟨decide ((signed r).tg=r.tg),rfl,a1.dr 1⟩)))))))⟩)
 ·exact En (Lw (qR (En (cI (Lt (Le (Dz (bY (v:=.bool false) ⟨false,rfl,u.dr 1⟩))))))))
theorem F1 r (hr9:mW r) (hz9:Ii r) (hcl:1 <= r.cl /\ r.cl <= 8) (hTab:∀ w,St w0 L w -> kA w) (hs:St w0 L w):Cs Tryz.prog 67 #[.agg (bC.cells r)] w λrv w'=>rv=.agg (bW.cells (jC r)) /\ St w0 L w':=by
 refine dF Tryz.func67 Tryz.ntmps67 (En (Ls (Lg [0,1] (Dz (mT (bC.cells r) hs λb1 w2 a2=>Lo (Dz (tW (bW.cells aI) a2 λb4 w5 a3=>Lo (Ld (Lt (Ls (Dz (ZD (gE [0,1,3] (.ef 2 (.ef 4 (.ef 5 (.ef 6 .done))))) a3 λw7 u a7=>Zj (Hl 1 1 0 u (hP 3 1 0 40 (bC.cells r) u Hz)) (Zc (Bm r.cl zc (λw h=>hTab w (h.drop 2)) u) ?_)))))))))))))
 rintro a8 a9 ⟨b0,b2,rfl,a0⟩
 refine⟨gR (n:=[.prop (Array.size (bC.cells r)=40),.cells ⟨b1,0,none⟩ (bC.cells r)]) zk (aJ zk (iN (a0.cells 2 0 rfl zk) aR)),dJ (f:=116) (args:=#[.slice none (([]:List Int).length) 0,.agg (bC.cells r)]) Tryz.call116 (rz ([]:List Int) r (Nat.zero_le _) hr9 hz9 (St.eB a0 5 1 aD)) ?_⟩
 rintro b3 b5 ⟨b6,b7,rfl,z⟩
 exact Lo (Dz (CH (FZ (mY r.cl) (([]:List Int)++oo r) (by rw [um];decide) (z.hZ 1 rfl) (Sl.cap (z.at_ 0 rfl)) (by have:=ln hz9;simp only [List.nil_append,List.length_append,List.length_nil];omega) (λw h=>hTab w (h.drop 4)) (λw h=>h.rows 1 rfl aF.size _) (λw h=>h.rows 0 rfl aF.size _) z) λc0 a5=>Lo (Dz (Zu 2 0 (bW.cells (jV (gP (mY r.cl) (([]:List Int)++oo r)))) a5 λc1 a1=>Lo (Ld (Lt (Le (Dz (CI 2 a1 ⟨rfl,a1.dr 4⟩)))))))))
theorem F2 r (hr9:mW r) (hTab:∀ w,St w0 L w -> kA w) (hs:St w0 L w):Cs Tryz.prog 35 #[.agg (bC.cells r)] w λrv w'=>rv=.bool (dC r && decide (r.tg=jC r)) /\ St w0 L w':=by
 refine dF Tryz.func35 Tryz.ntmps35 (En (Ls (Lg [0] (Dz (mT (bC.cells r) hs λb1 w2 a2=>Lz (Ls (Dz (ZD (.rd 0 (.ef 1 (gE [2,3,4,5] (.ef 6 (.ef 7 (gE [8,9] .done)))))) a2 λw4 a0 a7=>Zj (hP 0 0 0 40 (bC.cells r) a0 Hz) (dJ (f:=65) (args:=#[.agg (bC.cells r)]) Tryz.call65 (vP r a0) ?_)))))))))
 rintro v8 w9 ⟨rfl,u⟩
 refine Lo (Dz (Zr 2 1 [] (iy 5 (dC r) (λz=>?_) (λz=>?_))))
 ·have hab:dC r=true:=z
  have hcl:1 <= r.cl /\ r.cl <= 8:=wA hab
  exact Zj (hP 4 0 8 32 (bW.cells r.tg) u (hP 5 0 0 40 (bC.cells r) u Hz)) (CH (F1 r hr9 (kX hab) zc (λw h=>hTab w (h.drop 1)) u) λa9 a1=>⟨gR (n:=[.prop (Array.size (bW.cells r.tg)=32),.cells ⟨b1,8,none⟩ (bW.cells r.tg)]) zk (aJ zk (iN (a1.cells 0 8 rfl zk) aR)),(CH (wj r.tg (jC r) a1) λb2 a4=>Lz (Le (Dz (bY (v:=.bool (ui r.tg.toList (jC r).toList)) ⟨(by rw [z,oG hr9.tg (Dv r)];rfl),a4.dr 1⟩))))⟩)
 ·exact En (Lw (qR (qR (En (cI (Lt (Le (Dz (bY (v:=.bool false) ⟨(by rw [z];rfl),u.dr 1⟩)))))))))
end
section
abbrev sm (b:Nat):Option Addr:=some ⟨b,0,none⟩
abbrev RH (x:aH) (b o:Nat):aH:=⟨x.kd,x.vw,x.k,x.rq,some ⟨b,o,none⟩,x.qc,x.ql,x.dg⟩
variable {w0 w : World} {L : List bA}
structure eS where
 vw:Int
 lg:Int
def eS.cells (x:eS):Array Value:=#[.int .u64 x.vw,.int .i64 x.lg]
abbrev eH:eS:=⟨0,0⟩
theorem pO:fD eS.cells 2:=⟨λ_=>rfl,λ_=>rfl⟩
structure dQ where
 gr:Int
 la:Option Addr
 lc:Nat
 ll:List eS
def dQ.cells (x:dQ):Array Value:=#[.int .u64 x.gr,.slice x.la x.ll.length x.lc]
abbrev Rh:dQ:=⟨0,none,0,[]⟩
theorem OX:hU Tryz.prog 284 283 2 16:=⟨zk,⟨Tryz.t283,.agg (eS.cells eH),zk,zk,zk,zk,zk⟩,zb⟩
def Hd (p:Prop):bA:=⟨λ_=>False,λ_=>p,λ_ _ _ h=>h⟩
theorem St.Mt {p:Prop}(h:p){w0 w:World}{L:List bA}(hs:St w0 L w):St w0 (Hd p::L) w:=hs.qm.conv (λ_=>h) (λ_ hb=>hb)
def Bd (p:Prop) (l:List bA):bA:=IP (Hd p::l)
theorem Bd.open {p:Prop}{l L:List bA}{w0 w:World}(hs:St w0 (Bd p l::L) w):p /\ St w0 (l++L) w:=by
 have h:=St.splits (l:=Hd p::l) hs
 exact⟨h.at_ 0 rfl,h.tail⟩
theorem Bd.close {p:Prop}{l L:List bA}{w0 w:World}(hp:p) (hs:St w0 (l++L) w):St w0 (Bd p l::L) w:=St.Dw (l:=Hd p::l) (St.Mt hp hs)
def dM (x:dQ):eS:=x.ll.getD (x.ll.length-1) eH
def bump (x:dQ):List eS:=x.ll.set (x.ll.length-1) ⟨(dM x).vw,(dM x).lg+1⟩
def PS (b:Nat) (x:dQ):bA:=Bd ((0<x.ll.length /\ x.ll.length <= 1000) /\ 0 <= x.gr /\ x.gr<18446744073709551616) [aB b (dQ.cells x) 286,Sl x.la x.lc 283 2 eS.cells x.ll]
theorem Bn {b:Nat}(x:dQ) (hs:St w0 (PS b x::L) w):Cs Tryz.prog 225 #[zP b 0] w λrv w'=>rv=.int .u64 ((dM x).vw) /\ St w0 (PS b x::L) w':=by
 obtain⟨gr,la,lc,ll⟩:=x
 obtain⟨a0,a2⟩:=Bd.open hs
 have a1:St w0 (aB b (dQ.cells (⟨gr,la,lc,ll⟩:dQ)) 286::Sl la lc 283 2 eS.cells ll::L) w:=a2
 have hll:0<ll.length /\ ll.length <= 1000:=a0.1
 have hgr:0 <= gr /\ gr<18446744073709551616:=a0.2
 obtain⟨u,rfl⟩:=Sl.isSome (a1.at_ 1 rfl) za
 have a3:St w0 (aB b (dQ.cells (⟨gr,sm u,lc,ll⟩:dQ)) 286::Sl (sm u) lc 283 2 eS.cells ll::L) w:=a1
 refine dF Tryz.func225 Tryz.ntmps225 (En (Lq (Ls (Dz (ZD (gE [0,1,2,3,4,5,6,7,8,9,10,11,12,13] .done) a3 λw6 z a5=>kV (Hl 3 0 1 z (Hl 7 0 1 z (Hg 9 (.dH (.int .i64 (ll.length-1:Nat)) (.gen [])) [.prop (Value.int .i64 (IntKind.i64.wrap ((ll.length:Nat)-1))=Value.int .i64 (ll.length-1:Nat))] (aJ (ct za za za) aR) (Hx 10 ((ll.length-1:Nat):Int) (ll.length:Int) u 0 2 (Hg 12 (.gen [.int .u64 ((ll.getD (ll.length-1) eH).vw)]) [.cell ⟨u,0+((ll.length-1)*2),none⟩ (.int .u64 ((ll.getD (ll.length-1) eH).vw))] (bE (aC.cV (z.rows 1 rfl pO.size eH) (k:=(ll.length-1)) zo (j:=0) zb zk) aR) Hz))))) (Zt (Ze (bY (v:=.int .u64 ((ll.getD (ll.length-1) eH).vw)) ?_))))))))
 have a4:St w0 (PS b (⟨gr,sm u,lc,ll⟩:dQ)::L) w6:=Bd.close ⟨hll,hgr⟩ z
 exact⟨rfl,a4⟩
theorem wC {b:Nat}(x:dQ) v (hv:0 <= v /\ v<18446744073709551616) (hs:St w0 (PS b x::L) w):Cs Tryz.prog 161 #[zP b 0,.int .u64 v] w λrv w'=>(rv=.bool false /\ St w0 (PS b x::L) w') \/ (∃ (x2:dQ),rv=.bool true /\ x2.ll=x.ll /\ St w0 (PS b x2::L) w'):=by
 obtain⟨gr,la,lc,ll⟩:=x
 obtain⟨a2,a0⟩:=Bd.open hs
 have a3:St w0 (aB b (dQ.cells (⟨gr,la,lc,ll⟩:dQ)) 286::Sl la lc 283 2 eS.cells ll::L) w:=a0
 have hll:0<ll.length /\ ll.length <= 1000:=a2.1
 have hgr:0 <= gr /\ gr<18446744073709551616:=a2.2
 obtain⟨u,rfl⟩:=Sl.isSome (a3.at_ 1 rfl) za
 have a1:St w0 (aB b (dQ.cells (⟨gr,sm u,lc,ll⟩:dQ)) 286::Sl (sm u) lc 283 2 eS.cells ll::L) w:=a3
 refine dF Tryz.func161 Tryz.ntmps161 (En (Lq (Ls (Ls (Dz (aX.join (T:=Unit) (E:=λ_=>[(14,.bool ((decide ((v:Int) <= gr)) || (decide ((v:Int) >= 1073741824)))),(4,.bool false),(0,zP b 0),(1,.int .u64 v)]) (F:=λ_ w=>St w0 (aB b (dQ.cells (⟨gr,sm u,lc,ll⟩:dQ)) 286::Sl (sm u) lc 283 2 eS.cells ll::L) w) ?_ ?_))))))
 ·refine Zg [] (kJ 0 7 (Hl 4 0 0 a1 Hz) (iy 11 (decide ((v:Int) <= gr)) (λz=>?_) (λz=>?_)))
  ·exact En (cI (Dz (lM [14,4,0,1] () true (by first|rfl|simp [Hb,z]) a1)))
  ·exact En (cI (Dz (lM [14,4,0,1] () (decide ((v:Int) >= 1073741824)) (by first|rfl|simp [Hb,z]) a1)))
 intro _ w7 a4
 refine Zt (eZ (t:=(decide ((v:Int) <= gr)) || (decide ((v:Int) >= 1073741824))) (λh9=>?_) (λh9=>?_))
 ·refine En (Lq (Le (Ly (Dz (bY (v:=.bool false) ?_)))))
  have a0:St w0 (PS b (⟨gr,sm u,lc,ll⟩:dQ)::L) w7:=Bd.close ⟨hll,za⟩ a4
  exact .inl ⟨rfl,a0⟩
 ·have a6:=(Bool.or_eq_false_iff.1 h9).1
  have a7:(decide ((v:Int) >= 1073741824))=false:=(Bool.or_eq_false_iff.1 h9).2
  refine En (Lk (Lt (Ls (Lg [4] (Lw (Zu 0 0 #[.int .u64 v,zL u 0 ll.length lc] a4 λa8 a9=>Lo (Ld (Lt (Lq (Le (Dz (bY (v:=.bool true) ?_))))))))))))
  have b0:St w0 (PS b (⟨v,sm u,lc,ll⟩:dQ)::L) a8:=Bd.close ⟨hll,za⟩ a9
  exact .inr (⟨(⟨v,sm u,lc,ll⟩:dQ),rfl,rfl,b0⟩)
theorem rN {b ab:Nat}{gr:Int}{lc:Nat}{ll:List eS}(hll:0<ll.length /\ ll.length <= 1000) (hgr:0 <= gr /\ gr<18446744073709551616) (hs:St w0 (aB b (dQ.cells (⟨gr,sm ab,lc,ll⟩:dQ)) 286::Sl (sm ab) lc 283 2 eS.cells ll::L) w):Cs Tryz.prog 225 #[zP b 0] w λrv w'=>rv=.int .u64 (dM ⟨gr,some ⟨ab,0,none⟩,lc,ll⟩).vw /\ St w0 (aB b (dQ.cells (⟨gr,sm ab,lc,ll⟩:dQ)) 286::Sl (sm ab) lc 283 2 eS.cells ll::L) w':=by
 refine Calls.ret (Bn ⟨gr,some ⟨ab,0,none⟩,lc,ll⟩ (Bd.close (l:=[_,_]) ⟨hll,hgr⟩ hs)) ?_
 rintro rv w' ⟨rfl,h⟩
 exact⟨rfl,(Bd.open h).2⟩
theorem qe {b:Nat}(x:dQ) v lg (hv:0 <= v /\ v<18446744073709551616) (hlx:x.ll.length<1000) (hs:St w0 (PS b x::L) w):Cs Tryz.prog 163 #[zP b 0,.int .u64 v,.int .i64 lg] w λrv w'=>(rv=.bool false /\ St w0 (PS b x::L) w') \/ (∃ (x2:dQ),rv=.bool true /\ x2.ll=x.ll++[⟨v,lg⟩] /\ (dM x).vw<v /\ St w0 (PS b x2::L) w'):=by
 obtain⟨gr,la,lc,ll⟩:=x
 obtain⟨a4,a3⟩:=Bd.open hs
 have a5:St w0 (aB b (dQ.cells (⟨gr,la,lc,ll⟩:dQ)) 286::Sl la lc 283 2 eS.cells ll::L) w:=a3
 have hll:0<ll.length /\ ll.length <= 1000:=a4.1
 have hgr:0 <= gr /\ gr<18446744073709551616:=a4.2
 obtain⟨u,rfl⟩:=Sl.isSome (a5.at_ 1 rfl) za
 have a7:St w0 (aB b (dQ.cells (⟨gr,sm u,lc,ll⟩:dQ)) 286::Sl (sm u) lc 283 2 eS.cells ll::L) w:=a5
 refine dF Tryz.func163 Tryz.ntmps163 (En (Lq (Ls (Ls (Lg [2] (Lw (CH (rN zc zc a7) λw8 a0=>Lo (Dz (Zr 3 2 [] (LY 11 ((v:Int) <= ((dM ⟨gr,some ⟨u,0,none⟩,lc,ll⟩).vw)) (λa8=>?_) (λa8=>?_)))))))))))
 ·refine En (cI (Lt (LT (Lq (Le (Ly (Dz (bY (v:=.bool false) ?_))))))))
  have a3:St w0 (PS b (⟨gr,sm u,lc,ll⟩:dQ)::L) w8:=Bd.close ⟨hll,hgr⟩ a0
  exact .inl ⟨rfl,a3⟩
 ·refine kJ 5 8 (Hl 9 0 0 a0 Hz) (LY 19 ((v:Int)<gr) (λa9=>?_) (λa9=>?_))
  ·refine En (cI (Lt (LT (Lq (Le (Ly (Dz (bY (v:=.bool false) ?_))))))))
   have b0:St w0 (PS b (⟨gr,sm u,lc,ll⟩:dQ)::L) w8:=Bd.close ⟨hll,hgr⟩ a0
   exact .inl ⟨rfl,b0⟩
  ·refine Zr 13 4 [] (LY 23 ((v:Int) >= 1073741824) (λb1=>?_) (λb1=>?_))
   ·refine En (cI (Lt (LT (Lq (Le (Ly (Dz (bY (v:=.bool false) ?_))))))))
    have b2:St w0 (PS b (⟨gr,sm u,lc,ll⟩:dQ)::L) w8:=Bd.close ⟨hll,hgr⟩ a0
    exact .inl ⟨rfl,b2⟩
   ·refine En (cI (Lt (Dz (Zi ((lg:Int)<0) (λb3=>?_) (λb3=>?_)))))
    ·refine En (Lq (Le (Ly (Dz (bY (v:=.bool false) ?_)))))
     have b4:St w0 (PS b (⟨gr,sm u,lc,ll⟩:dQ)::L) w8:=Bd.close ⟨hll,hgr⟩ a0
     exact .inl ⟨rfl,b4⟩
    ·refine Zk (Zt (Zs (dZ [8,9,12] (Hl 4 0 1 a0 Hz) (aL.bU rfl zk (t:=284) (e:=283) (n:=1) (ps:=[(0,.agg (eS.cells (⟨v,lg⟩:eS)))]) zk zk (ti:=Tryz.t283) (z:=.agg (eS.cells eH)) zk zk zb zb (cs:=eS.cells (⟨v,lg⟩:eS)) zk a0 λa6 b5 b6 b7=>?_))))
     have b9:St w0 (Sl (sm a6) 1 283 2 eS.cells ([((⟨v,lg⟩:eS):eS)])::aB b (dQ.cells (⟨gr,sm u,lc,ll⟩:dQ)) 286::Sl (sm u) lc 283 2 eS.cells ll::L) b5:=St.iw (l:=[((⟨v,lg⟩:eS):eS)]) (f:=eS.cells) b6 b7 pO.size zf zk
     refine Lo (Dz (sD OX pO eH (b9.pl 2) (by simp only [List.length_cons,List.length_nil];have:=hlx;simp only at this;omega) λa1 a2 d1 c1=>Lo (Lw (Zu 2 1 #[.int .u64 gr,.slice a1 ((ll++([((⟨v,lg⟩:eS):eS)])).length) a2] c1 λd2 c2=>Lo (Ld (Lt (Ls (Lg [4] (Lw (Zu 2 0 #[.int .u64 v,.slice a1 ((ll++([((⟨v,lg⟩:eS):eS)])).length) a2] c2 λc3 c4=>Lo (Ld (Lt (Lq (Le (Dz (bY (v:=.bool true) ?_))))))))))))))))
     have c5:=(c4.pl 0).pl 2
     have c6:St w0 (PS b (⟨v,a1,a2,ll++([((⟨v,lg⟩:eS):eS)])⟩:dQ)::Sl (sm a6) 1 283 2 eS.cells ([((⟨v,lg⟩:eS):eS)])::L) c3:=Bd.close ⟨by have:=hlx;simp only at this;simp only [List.length_append,List.length_cons,List.length_nil];omega,za⟩ c5
     have c7:=(c6.pl 0).pl 1
     exact .inr (⟨(⟨v,a1,a2,ll++([((⟨v,lg⟩:eS):eS)])⟩:dQ),rfl,rfl,za,c7.dr 1⟩)
theorem Bo {b:Nat}(x:dQ) v (hv:0 <= v /\ v<18446744073709551616) (hs:St w0 (PS b x::L) w):Cs Tryz.prog 226 #[zP b 0,.int .u64 v] w λrv w'=>∃ ob2,rv=.bool ob2 /\ (ob2=true -> v=(dM x).vw) /\ St w0 (PS b x::L) w':=by
 obtain⟨gr,la,lc,ll⟩:=x
 obtain⟨a1,z⟩:=Bd.open hs
 have a2:St w0 (aB b (dQ.cells (⟨gr,la,lc,ll⟩:dQ)) 286::Sl la lc 283 2 eS.cells ll::L) w:=z
 have hll:0<ll.length /\ ll.length <= 1000:=a1.1
 have hgr:0 <= gr /\ gr<18446744073709551616:=a1.2
 obtain⟨u,rfl⟩:=Sl.isSome (a2.at_ 1 rfl) za
 have a0:St w0 (aB b (dQ.cells (⟨gr,sm u,lc,ll⟩:dQ)) 286::Sl (sm u) lc 283 2 eS.cells ll::L) w:=a2
 refine dF Tryz.func226 Tryz.ntmps226 (En (Lq (Ls (Lg [9] (Dz (kJ 0 7 (Hl 4 0 0 a0 Hz) (iy 11 ((v:Int) == gr) (λh6=>?_) (λh6=>?_))))))))
 ·refine En (Lw (CH (rN zc zc a0) λw9 a4=>Lz (Le (Dz (bY (v:=.bool ((v:Int) == ((dM ⟨gr,some ⟨u,0,none⟩,lc,ll⟩).vw))) ?_)))))
  have z:St w0 (PS b (⟨gr,sm u,lc,ll⟩:dQ)::L) w9:=Bd.close ⟨hll,hgr⟩ a4
  exact⟨(v:Int) == ((dM ⟨gr,some ⟨u,0,none⟩,lc,ll⟩).vw),rfl,(λh=>by first|cases h|(have hz:=of_decide_eq_true h;omega)|(have hz:=kr h;omega)),z⟩
 ·refine En (Lw (qR (En (cI (Lt (Le (Dz (bY (v:=.bool false) ?_))))))))
  have a5:St w0 (PS b (⟨gr,sm u,lc,ll⟩:dQ)::L) w:=Bd.close ⟨hll,hgr⟩ a0
  exact⟨false,rfl,(λh=>by first|cases h|(have hz:=of_decide_eq_true h;omega)|(have hz:=kr h;omega)),a5⟩
theorem rO {b:Nat}{ab:Nat}{gr:Int}{lc:Nat}{ll:List eS} v (hv:0 <= v /\ v<18446744073709551616) (hll:0<ll.length /\ ll.length <= 1000) (hgr:0 <= gr /\ gr<18446744073709551616) (hs:St w0 (aB b (dQ.cells (⟨gr,sm ab,lc,ll⟩:dQ)) 286::Sl (sm ab) lc 283 2 eS.cells ll::L) w):Cs Tryz.prog 226 #[zP b 0,.int .u64 v] w λrv w'=>∃ ob2,rv=.bool ob2 /\ (ob2=true -> v=(dM ⟨gr,some ⟨ab,0,none⟩,lc,ll⟩).vw) /\ St w0 (aB b (dQ.cells (⟨gr,sm ab,lc,ll⟩:dQ)) 286::Sl (sm ab) lc 283 2 eS.cells ll::L) w':=by
 refine Calls.ret (Bo ⟨gr,some ⟨ab,0,none⟩,lc,ll⟩ v hv (Bd.close (l:=[_,_]) ⟨hll,hgr⟩ hs)) ?_
 rintro rv w' ⟨ob,rfl,u,h⟩
 exact⟨ob,rfl,u,(Bd.open h).2⟩
theorem uQ {b:Nat}(x:dQ) v (hv:0 <= v /\ v<18446744073709551616) (hlg:∀ y∈x.ll,0 <= y.lg /\ y.lg <= 1000) (hs:St w0 (PS b x::L) w):Cs Tryz.prog 167 #[zP b 0,.int .u64 v] w λrv w'=>(rv=.bool false /\ St w0 (PS b x::L) w') \/ (∃ (x2:dQ),rv=.bool true /\ x2.ll=bump x /\ v=(dM x).vw /\ 0<x.ll.length /\ St w0 (PS b x2::L) w'):=by
 obtain⟨gr,la,lc,ll⟩:=x
 obtain⟨a2,a7⟩:=Bd.open hs
 have a3:St w0 (aB b (dQ.cells (⟨gr,la,lc,ll⟩:dQ)) 286::Sl la lc 283 2 eS.cells ll::L) w:=a7
 have hll:0<ll.length /\ ll.length <= 1000:=a2.1
 have hgr:0 <= gr /\ gr<18446744073709551616:=a2.2
 obtain⟨u,rfl⟩:=Sl.isSome (a3.at_ 1 rfl) za
 have a8:St w0 (aB b (dQ.cells (⟨gr,sm u,lc,ll⟩:dQ)) 286::Sl (sm u) lc 283 2 eS.cells ll::L) w:=a3
 have a9:∀ y∈ll,0 <= y.lg /\ y.lg <= 1000:=hlg
 have hlm:ll.getD (ll.length-1) eH∈ll:=bJ za
 have b6:=a9 _ hlm
 refine dF Tryz.func167 Tryz.ntmps167 (En (Lq (Ls (Ls (Lg [2] (Lw (Zc (rO v zc zc zc a8) ?_)))))))
 rintro v9 b0 ⟨a0,rfl,b1,a4⟩
 refine Lz (Dz (eZ (t:=!a0) (λa1=>?_) (λa1=>?_)))
 ·refine En (Lq (Le (Ly (Dz (bY (v:=.bool false) ?_)))))
  have b2:St w0 (PS b (⟨gr,sm u,lc,ll⟩:dQ)::L) b0:=Bd.close ⟨hll,hgr⟩ a4
  exact .inl ⟨rfl,b2⟩
 ·refine Zk (Zt (Zs (ZD (gE [0,1,2,3,4,5,6,7,8,9,10,11,12,13,14,15] (.ef 16 .done)) a4 λb7 z b9=>Zj (Hl 3 0 1 z (Hl 7 0 1 z (Hg 9 (.dH (.int .i64 (ll.length-1:Nat)) (.gen [])) [.prop (Value.int .i64 (IntKind.i64.wrap ((ll.length:Nat)-1))=Value.int .i64 (ll.length-1:Nat))] (aJ (ct za za za) aR) (Hx 10 ((ll.length-1:Nat):Int) (ll.length:Int) u 0 2 (Hg 12 (.gen [.int .i64 ((ll.getD (ll.length-1) eH).lg)]) [.cell ⟨u,0+((ll.length-1)*2)+1,none⟩ (.int .i64 ((ll.getD (ll.length-1) eH).lg))] (bE (aC.cV (z.rows 1 rfl pO.size eH) (k:=(ll.length-1)) zo (j:=1) zb zk) aR) (eT 13 (((ll.getD (ll.length-1) eH).lg)+1) (Hx 14 ((ll.length-1:Nat):Int) (ll.length:Int) u 0 2 Hz))))))) (aL.kO rfl rfl zk (b:=u) (off:=0+((ll.length-1)*2)+1) (v:=.int .i64 (((ll.getD (ll.length-1) eH).lg)+1)) zk zk (ti:=Tryz.t3) zk z 1 pO.size rfl zk zk (by rw [Nat.zero_add];exact gI (f:=eS.cells) (size:=2) (l:=ll) (k:=(ll.length-1)) (o:=1) (n:=1) pO.size zo zb) (List.length_set ..) (xs':=ll.set (ll.length-1) (⟨(ll.getD (ll.length-1) eH).vw,((ll.getD (ll.length-1) eH).lg)+1⟩:eS)) (by rw [Nat.zero_add];exact eN (f:=eS.cells) (size:=2) (l:=ll) (k:=(ll.length-1)) (o:=1) pO.size zo eH (⟨(ll.getD (ll.length-1) eH).vw,((ll.getD (ll.length-1) eH).lg)+1⟩:eS) (Nat.le_of_ble_eq_true rfl) zk) (L':=(aB b (dQ.cells (⟨gr,sm u,lc,ll⟩:dQ)) 286)::Sl (sm u) lc 283 2 eS.cells (ll.set (ll.length-1) (⟨(ll.getD (ll.length-1) eH).vw,((ll.getD (ll.length-1) eH).lg)+1⟩:eS))::L) rfl λa6 b3=>Lo (Ld (Lt (Lq (Le (Dz (bY (v:=.bool true) ?_))))))))))
  have b4:St w0 (aB b (dQ.cells (⟨gr,sm u,lc,ll.set (ll.length-1) (⟨(ll.getD (ll.length-1) eH).vw,((ll.getD (ll.length-1) eH).lg)+1⟩:eS)⟩:dQ)) 286::Sl (sm u) lc 283 2 eS.cells (ll.set (ll.length-1) (⟨(ll.getD (ll.length-1) eH).vw,((ll.getD (ll.length-1) eH).lg)+1⟩:eS))::L) a6:=(by rw [show dQ.cells (⟨gr,sm u,lc,ll.set (ll.length-1) (⟨(ll.getD (ll.length-1) eH).vw,((ll.getD (ll.length-1) eH).lg)+1⟩:eS)⟩:dQ)=dQ.cells (⟨gr,sm u,lc,ll⟩:dQ) from by simp only [dQ.cells,List.length_set]];exact b3)
  have b5:St w0 (PS b (⟨gr,sm u,lc,ll.set (ll.length-1) (⟨(ll.getD (ll.length-1) eH).vw,((ll.getD (ll.length-1) eH).lg)+1⟩:eS)⟩:dQ)::L) a6:=Bd.close ⟨by rw [List.length_set];exact hll,hgr⟩ b4
  exact .inr (⟨(⟨gr,sm u,lc,ll.set (ll.length-1) (⟨(ll.getD (ll.length-1) eH).vw,((ll.getD (ll.length-1) eH).lg)+1⟩:eS)⟩:dQ),rfl,rfl,b1 (pK a1),hll.1,b5⟩)
theorem wD {b:Nat}(x:dQ) v k most (hv:0 <= v /\ v<18446744073709551616) (hlg:∀ y∈x.ll,0 <= y.lg /\ y.lg <= 1000) (hms:0 <= most /\ most <= 1000000) (hs:St w0 (PS b x::L) w):Cs Tryz.prog 168 #[zP b 0,.int .u64 v,.int .u64 k,.int .i64 most] w λrv w'=>(rv=.bool false /\ St w0 (PS b x::L) w') \/ (∃ (x2:dQ),rv=.bool true /\ x2.ll=bump x /\ v=(dM x).vw /\ 0<x.ll.length /\ (dM x).lg+1 <= most /\ St w0 (PS b x2::L) w'):=by
 obtain⟨gr,la,lc,ll⟩:=x
 obtain⟨a5,a9⟩:=Bd.open hs
 have a6:St w0 (aB b (dQ.cells (⟨gr,la,lc,ll⟩:dQ)) 286::Sl la lc 283 2 eS.cells ll::L) w:=a9
 have hll:0<ll.length /\ ll.length <= 1000:=a5.1
 have hgr:0 <= gr /\ gr<18446744073709551616:=a5.2
 obtain⟨u,rfl⟩:=Sl.isSome (a6.at_ 1 rfl) za
 have b0:St w0 (aB b (dQ.cells (⟨gr,sm u,lc,ll⟩:dQ)) 286::Sl (sm u) lc 283 2 eS.cells ll::L) w:=a6
 have b1:∀ y∈ll,0 <= y.lg /\ y.lg <= 1000:=hlg
 have hlm:ll.getD (ll.length-1) eH∈ll:=bJ za
 have c5:=b1 _ hlm
 refine dF Tryz.func168 Tryz.ntmps168 (En (Lq (Ls (Ls (Dz (ZD (gE [0,1] (.ef 2 (gE [3,4,5,6,7,8,9,10,11,12,13,14,15,16,17,18,19,20,21,22,23,24,25,26,27,28,29,30,31,32] .done))) b0 λw6 b2 c6=>En (Lw (Zc (rO v zc zc zc b2) ?_))))))))
 rintro c7 a1 ⟨a3,rfl,b3,z⟩
 refine Lo (Dz (Zr 3 2 [] ?_))
 rcases Bool.eq_false_or_eq_true (!a3) with a0|a0
 ·refine nQ 13 true a0 ?_
  have a7:=sA a0
  refine En (cI (Lt (LT (Lq (Le (Ly (Dz (bY (v:=.bool false) ?_))))))))
  have b4:St w0 (PS b (⟨gr,sm u,lc,ll⟩:dQ)::L) a1:=Bd.close ⟨hll,hgr⟩ z
  exact .inl ⟨rfl,b4⟩
 ·refine nQ 13 false a0 (Zp 5 19 [(9,.gen [zL u 0 ll.length lc]),(13,.gen [zL u 0 ll.length lc]),(15,.dH (.int .i64 (ll.length-1:Nat)) (.gen [])),(16,.dH (zP u (0+((ll.length-1)*2))) .at_),(18,.gen [.int .i64 ((ll.getD (ll.length-1) eH).lg)]),(19,.dH (.int .u64 ((ll.getD (ll.length-1) eH).lg)) (.gen [])),(20,.dH (.int .u64 (((ll.getD (ll.length-1) eH).lg)+1)) (.gen []))] [(9,[.cell ⟨b,1,none⟩ (zL u 0 ll.length lc)]),(13,[.cell ⟨b,1,none⟩ (zL u 0 ll.length lc)]),(15,[.prop (Value.int .i64 (IntKind.i64.wrap ((ll.length:Nat)-1))=Value.int .i64 (ll.length-1:Nat))]),(16,[.prop (0 <= ((ll.length-1:Nat):Int) /\ ((ll.length-1:Nat):Int)<(ll.length:Int)),.prop (Value.pointer (some (Addr.add ⟨u,0,none⟩ (Int.toNat (ll.length-1:Nat)*2)))=Value.pointer (some ⟨u,0+((ll.length-1)*2),none⟩))]),(18,[.cell ⟨u,0+((ll.length-1)*2)+1,none⟩ (.int .i64 ((ll.getD (ll.length-1) eH).lg))]),(19,[.prop (Value.int .u64 (IntKind.u64.wrap ((ll.getD (ll.length-1) eH).lg))=Value.int .u64 ((ll.getD (ll.length-1) eH).lg))]),(20,[.prop (Value.int .u64 (IntKind.u64.wrap (((ll.getD (ll.length-1) eH).lg)+1))=Value.int .u64 (((ll.getD (ll.length-1) eH).lg)+1))])] (ak (bE (z.cell 0 rfl zk) aR) (ak (bE (z.cell 0 rfl zk) aR) (ak (aJ (ct za za za) aR) (ak (aJ za (aJ (aU _ _ _) aR)) (ak (bE (aC.cV (z.rows 1 rfl pO.size eH) (k:=(ll.length-1)) zo (j:=1) zb zk) aR) (ak (aJ (pQ za za) aR) (ak (aJ (pQ za za) aR) iF))))))) (iy 32 ((k:Int) != (((ll.getD (ll.length-1) eH).lg)+1)) (λa4=>?_) (λa4=>?_)))
  ·have b5:=E2 a4
   refine En (cI (Lt (LT (Lq (Le (Ly (Dz (bY (v:=.bool false) ?_))))))))
   have b6:St w0 (PS b (⟨gr,sm u,lc,ll⟩:dQ)::L) a1:=Bd.close ⟨hll,hgr⟩ z
   exact .inl ⟨rfl,b6⟩
  ·have b5:=E3 a4
   refine Zr 24 4 [] (LY 36 ((most:Int)<0) (λb7=>?_) (λb7=>?_))
   ·refine En (cI (Lt (LT (Lq (Le (Ly (Dz (bY (v:=.bool false) ?_))))))))
    have b9:St w0 (PS b (⟨gr,sm u,lc,ll⟩:dQ)::L) a1:=Bd.close ⟨hll,hgr⟩ z
    exact .inl ⟨rfl,b9⟩
   ·refine kV (Cz 30 most Hz) (Zt (Zi ((k:Int)>most) (λc0=>?_) (λc0=>?_)))
    ·refine En (Lq (Le (Ly (Dz (bY (v:=.bool false) ?_)))))
     have c1:St w0 (PS b (⟨gr,sm u,lc,ll⟩:dQ)::L) a1:=Bd.close ⟨hll,hgr⟩ z
     exact .inl ⟨rfl,c1⟩
    ·refine Zk (Zt (Zs (ZD (gE [0,1,2,3,4,5,6,7,8,9,10,11,12,13,14,15] (.ef 16 .done)) z λc9 a2 d1=>Zj (Hl 3 0 1 a2 (Hl 7 0 1 a2 (Hg 9 (.dH (.int .i64 (ll.length-1:Nat)) (.gen [])) [.prop (Value.int .i64 (IntKind.i64.wrap ((ll.length:Nat)-1))=Value.int .i64 (ll.length-1:Nat))] (aJ (ct za za za) aR) (Hx 10 ((ll.length-1:Nat):Int) (ll.length:Int) u 0 2 (Hg 12 (.gen [.int .i64 ((ll.getD (ll.length-1) eH).lg)]) [.cell ⟨u,0+((ll.length-1)*2)+1,none⟩ (.int .i64 ((ll.getD (ll.length-1) eH).lg))] (bE (aC.cV (a2.rows 1 rfl pO.size eH) (k:=(ll.length-1)) zo (j:=1) zb zk) aR) (eT 13 (((ll.getD (ll.length-1) eH).lg)+1) (Hx 14 ((ll.length-1:Nat):Int) (ll.length:Int) u 0 2 Hz))))))) (aL.kO rfl rfl zk (b:=u) (off:=0+((ll.length-1)*2)+1) (v:=.int .i64 (((ll.getD (ll.length-1) eH).lg)+1)) zk zk (ti:=Tryz.t3) zk a2 1 pO.size rfl zk zk (by rw [Nat.zero_add];exact gI (f:=eS.cells) (size:=2) (l:=ll) (k:=(ll.length-1)) (o:=1) (n:=1) pO.size zo zb) (List.length_set ..) (xs':=ll.set (ll.length-1) (⟨(ll.getD (ll.length-1) eH).vw,((ll.getD (ll.length-1) eH).lg)+1⟩:eS)) (by rw [Nat.zero_add];exact eN (f:=eS.cells) (size:=2) (l:=ll) (k:=(ll.length-1)) (o:=1) pO.size zo eH (⟨(ll.getD (ll.length-1) eH).vw,((ll.getD (ll.length-1) eH).lg)+1⟩:eS) (Nat.le_of_ble_eq_true rfl) zk) (L':=(aB b (dQ.cells (⟨gr,sm u,lc,ll⟩:dQ)) 286)::Sl (sm u) lc 283 2 eS.cells (ll.set (ll.length-1) (⟨(ll.getD (ll.length-1) eH).vw,((ll.getD (ll.length-1) eH).lg)+1⟩:eS))::L) rfl λa8 c2=>Lo (Ld (Lt (Lq (Le (Dz (bY (v:=.bool true) ?_))))))))))
     have c3:St w0 (aB b (dQ.cells (⟨gr,sm u,lc,ll.set (ll.length-1) (⟨(ll.getD (ll.length-1) eH).vw,((ll.getD (ll.length-1) eH).lg)+1⟩:eS)⟩:dQ)) 286::Sl (sm u) lc 283 2 eS.cells (ll.set (ll.length-1) (⟨(ll.getD (ll.length-1) eH).vw,((ll.getD (ll.length-1) eH).lg)+1⟩:eS))::L) a8:=(by rw [show dQ.cells (⟨gr,sm u,lc,ll.set (ll.length-1) (⟨(ll.getD (ll.length-1) eH).vw,((ll.getD (ll.length-1) eH).lg)+1⟩:eS)⟩:dQ)=dQ.cells (⟨gr,sm u,lc,ll⟩:dQ) from by simp only [dQ.cells,List.length_set]];exact c2)
     have c4:St w0 (PS b (⟨gr,sm u,lc,ll.set (ll.length-1) (⟨(ll.getD (ll.length-1) eH).vw,((ll.getD (ll.length-1) eH).lg)+1⟩:eS)⟩:dQ)::L) a8:=Bd.close ⟨by rw [List.length_set];exact hll,hgr⟩ c3
     exact .inr (⟨(⟨gr,sm u,lc,ll.set (ll.length-1) (⟨(ll.getD (ll.length-1) eH).vw,((ll.getD (ll.length-1) eH).lg)+1⟩:eS)⟩:dQ),rfl,rfl,b3 (pK a0),hll.1,(show(ll.getD (ll.length-1) eH).lg+1 <= most from by omega),c4⟩)
theorem yp {b:Nat}(x:dQ) v (hlg:∀ y∈x.ll,0 <= y.lg /\ y.lg <= 1000) (hs:St w0 (PS b x::L) w):Cs Tryz.prog 105 #[zP b 0,.int .u64 v] w λrv w'=>∃ vn2 ob2,rv=.tuple #[.int .i64 vn2,.bool ob2] /\ (0 <= vn2 /\ vn2 <= 1000) /\ St w0 (PS b x::L) w':=by
 obtain⟨gr,la,lc,ll⟩:=x
 obtain⟨a1,a4⟩:=Bd.open hs
 have a2:St w0 (aB b (dQ.cells (⟨gr,la,lc,ll⟩:dQ)) 286::Sl la lc 283 2 eS.cells ll::L) w:=a4
 have hll:0<ll.length /\ ll.length <= 1000:=a1.1
 have hgr:0 <= gr /\ gr<18446744073709551616:=a1.2
 obtain⟨u,rfl⟩:=Sl.isSome (a2.at_ 1 rfl) za
 have a5:St w0 (aB b (dQ.cells (⟨gr,sm u,lc,ll⟩:dQ)) 286::Sl (sm u) lc 283 2 eS.cells ll::L) w:=a2
 have a3:∀ y∈ll,0 <= y.lg /\ y.lg <= 1000:=hlg
 have hlm:ll.getD (ll.length-1) eH∈ll:=bJ za
 have b0:=a3 _ hlm
 refine dF Tryz.func105 Tryz.ntmps105 (En (Lq (Ls (Lq (Lb (Dz (aX.loop (T:=Nat) (λgg=>[(0,zP b 0),(1,.int .u64 v),(6,.int .i64 (gg:Nat))]) (λgg w=>(gg <= ll.length) /\ St w0 (aB b (dQ.cells (⟨gr,sm u,lc,ll⟩:dQ)) 286::Sl (sm u) lc 283 2 eS.cells ll::L) w) (λgg=>ll.length-gg) 0 [0,1,6] zk ⟨Nat.zero_le _,a5⟩ ?_)))))))
 rintro i w6 ⟨hp,z⟩
 refine Zs (Zs (dE (Hl 4 0 1 z Hz) (Zt (Zi ((i:Int)<(ll.length:Nat)) (λa6=>?_) (λa6=>?_)))))
 ·have hk:i<ll.length:=za
  have hki:=a3 _ (bJ (d:=eH) hk)
  refine Zk (Zt (Zs (Zb (Zs (dE (Hl 3 0 1 z (Hx 5 (i:Int) (ll.length:Int) u 0 2 (Hg 7 (.gen [.int .u64 ((ll.getD i eH).vw)]) [.cell ⟨u,0+(i*2),none⟩ (.int .u64 ((ll.getD i eH).vw))] (bE (aC.cV (z.rows 1 rfl pO.size eH) (k:=i) zo (j:=0) zb zk) aR) Hz))) (Zt (eZ (t:=(((ll.getD i eH).vw):Int) == v) (λa0=>?_) (λa0=>?_))))))))
  ·refine Zs (dE (Hl 3 0 1 z (Hx 5 (i:Int) (ll.length:Int) u 0 2 (Hg 7 (.gen [.int .i64 ((ll.getD i eH).lg)]) [.cell ⟨u,0+(i*2)+1,none⟩ (.int .i64 ((ll.getD i eH).lg))] (bE (aC.cV (z.rows 1 rfl pO.size eH) (k:=i) zo (j:=1) zb zk) aR) Hz))) (Zt (Ze (Zl (Zy (aS.NB (Zl (Zy (Jq (v:=.int .i64 ((ll.getD i eH).lg)) (v':=.bool true) ?_)))))))))
   have a8:St w0 (PS b (⟨gr,sm u,lc,ll⟩:dQ)::L) w6:=Bd.close ⟨hll,hgr⟩ z
   exact⟨(ll.getD i eH).lg,true,rfl,za,a8⟩
  ·exact Zk (Zm (Zt (dE (eT 1 ((i:Nat)+1) Hz) (aS.back (i+1) [0,1,6] zk (by show ll.length-(i+1)<ll.length-i;omega) ⟨za,z⟩))))
 ·refine En (Lx (mM (mN (Lh (Lt (Lq (Le (Dz (Jq (v:=.int .i64 0) (v':=.bool false) ?_)))))))))
  have a9:St w0 (PS b (⟨gr,sm u,lc,ll⟩:dQ)::L) w6:=Bd.close ⟨hll,hgr⟩ z
  exact⟨0,false,rfl,za,a9⟩
theorem Dx (hs:St w0 L w):Cs Tryz.prog 102 #[] w λrv w'=>∃ (qb:Nat) (x2:dQ),rv=zP qb 0 /\ x2.ll=[⟨0,0⟩] /\ St w0 (PS qb x2::L) w':=by
 refine dF Tryz.func102 Tryz.ntmps102 (En (Lq (Ls (Lg [1,3] (Lw (aL.bU rfl zk (t:=284) (e:=283) (n:=1) (ps:=[(0,.agg (eS.cells eH))]) zk zk (ti:=Tryz.t283) (z:=.agg (eS.cells eH)) zk zk zb zb (cs:=eS.cells eH) zk hs λu w2 a0 a1=>?_))))))
 have a2:St w0 (Sl (sm u) 1 283 2 eS.cells ([(eH:eS)])::L) w2:=St.iw (l:=[(eH:eS)]) (f:=eS.cells) a0 a1 pO.size zf zk
 refine Lo (Lw (mT #[.int .u64 0,zL u 0 1 1] a2 λb6 w7 a3=>Lz (Le (Dz (bY (v:=zP b6 0) ?_)))))
 have a4:St w0 (PS b6 (⟨0,sm u,1,[(eH:eS)]⟩:dQ)::L) w7:=Bd.close ⟨⟨Nat.one_pos,(by show 1 <= 1000;decide)⟩,Int.le_refl 0,(by show(0:Int)<18446744073709551616;decide)⟩ a3
 exact⟨b6,(⟨0,sm u,1,[(eH:eS)]⟩:dQ),rfl,rfl,a4⟩
end
structure dT where
 nm:Int
 rq:bC
def dT.cells (x:dT):Array Value:=#[.int .u64 x.nm,.int .i64 x.rq.cl,.int .u64 x.rq.tm,.int .u8 x.rq.op.kd,.string x.rq.op.ky,.string x.rq.op.va,.string x.rq.op.ol,.string x.rq.op.tx,.int .u64 x.rq.op.am,.int .u8 (x.rq.tg[0]),.int .u8 (x.rq.tg[1]),.int .u8 (x.rq.tg[2]),.int .u8 (x.rq.tg[3]),.int .u8 (x.rq.tg[4]),.int .u8 (x.rq.tg[5]),.int .u8 (x.rq.tg[6]),.int .u8 (x.rq.tg[7]),.int .u8 (x.rq.tg[8]),.int .u8 (x.rq.tg[9]),.int .u8 (x.rq.tg[10]),.int .u8 (x.rq.tg[11]),.int .u8 (x.rq.tg[12]),.int .u8 (x.rq.tg[13]),.int .u8 (x.rq.tg[14]),.int .u8 (x.rq.tg[15]),.int .u8 (x.rq.tg[16]),.int .u8 (x.rq.tg[17]),.int .u8 (x.rq.tg[18]),.int .u8 (x.rq.tg[19]),.int .u8 (x.rq.tg[20]),.int .u8 (x.rq.tg[21]),.int .u8 (x.rq.tg[22]),.int .u8 (x.rq.tg[23]),.int .u8 (x.rq.tg[24]),.int .u8 (x.rq.tg[25]),.int .u8 (x.rq.tg[26]),.int .u8 (x.rq.tg[27]),.int .u8 (x.rq.tg[28]),.int .u8 (x.rq.tg[29]),.int .u8 (x.rq.tg[30]),.int .u8 (x.rq.tg[31])]
abbrev lN:dT:=⟨0,cP⟩
theorem IV:fD dT.cells 41:=⟨λ_=>rfl,λ_=>rfl⟩
structure aT where
 vv:Int
 nm:Int
 sa:Option Addr
 sc:Nat
 sl:List bC
 pa:Option Addr
 pc:Nat
 pl:List dT
def aT.cells (x:aT):Array Value:=#[.int .u64 x.vv,.int .u64 x.nm,.slice x.sa x.sl.length x.sc,.slice x.pa x.pl.length x.pc]
abbrev aN:aT:=⟨0,0,none,0,[],none,0,[]⟩
theorem jJ:fD aT.cells 4:=⟨λ_=>rfl,λ_=>rfl⟩
structure dY where
 vw:Int
 nm:Int
def dY.cells (x:dY):Array Value:=#[.int .u64 x.vw,.int .u64 x.nm]
abbrev nL:dY:=⟨0,0⟩
theorem F3:fD dY.cells 2:=⟨λ_=>rfl,λ_=>rfl⟩
structure bT where
 ca:Option Addr
 cc:Nat
 cl:List dY
def bT.cells (x:bT):Array Value:=#[.slice x.ca x.cl.length x.cc]
abbrev cE:bT:=⟨none,0,[]⟩
theorem Dy:fD bT.cells 1:=⟨λ_=>rfl,λ_=>rfl⟩
structure bD where
 b:Nat
 x:dQ
def bD.ptr (x:bD):Array Value:=#[zP x.b 0]
abbrev bM:bD:=⟨0,Rh⟩
theorem F4:fD bD.ptr 1:=⟨λ_=>rfl,λ_=>rfl⟩
structure aQ where
 n:Int
 kn:aP
 va:Option Addr
 vc:Nat
 vl:List aT
 wa:Option Addr
 wc:Nat
 wl:List bD
 ca:Option Addr
 cc:Nat
 cl:List bT
def aQ.cells (x:aQ):Array Value:=#[.int .i64 x.n,.int .u64 (x.kn[0]),.int .u64 (x.kn[1]),.int .u64 (x.kn[2]),.int .u64 (x.kn[3]),.int .u64 (x.kn[4]),.int .u64 (x.kn[5]),.int .u64 (x.kn[6]),.int .u64 (x.kn[7]),.int .u64 (x.kn[8]),.int .u64 (x.kn[9]),.int .u64 (x.kn[10]),.slice x.va x.vl.length x.vc,.slice x.wa x.wl.length x.wc,.slice x.ca x.cl.length x.cc]
theorem OY:hU Tryz.prog 207 296 41 136:=⟨zk,⟨Tryz.t296,.agg (dT.cells lN),zk,zk,zk,zk,zk⟩,zb⟩
theorem OZ:hU Tryz.prog 210 209 4 64:=⟨zk,⟨Tryz.t209,.agg (aT.cells aN),zk,zk,zk,zk,zk⟩,zb⟩
theorem O0:hU Tryz.prog 287 289 2 16:=⟨zk,⟨Tryz.t289,.agg (dY.cells nL),zk,zk,zk,zk,zk⟩,zb⟩
theorem Kv:hU Tryz.prog 62 41 40 128:=⟨zk,⟨Tryz.t41,.agg (bC.cells cP),zk,zk,zk,zk,zk⟩,zb⟩
theorem O1:hU Tryz.prog 212 215 1 8:=⟨zk,⟨Tryz.t215,.pointer none,zk,zk,zk,zk,zk⟩,zb⟩
def cM (x:aT):bA:=Bd True [Sl x.sa x.sc 41 40 bC.cells x.sl,Sl x.pa x.pc 296 41 dT.cells x.pl]
def cF (x:bT):bA:=Bd True [Sl x.ca x.cc 289 2 dY.cells x.cl]
def cA (x:bD):bA:=PS x.b x.x
theorem Bp {o:Option Value}{a b:Option Addr}{n c:Nat}(e:a=b) (h:o=some (.slice a n c)):o=some (.slice b n c):=e▸h
def Has (vl:List aT) (u k:Int):Prop:=∃ v∈vl,v.vv=u /\ 0 <= k /\ k <= ((v.sl.length+v.pl.length:Nat):Int)
structure Inv (t:Nat) (n:Int) (vl:List aT) (wl:List bD) (cl:List bT):Prop where
 n3:3 <= n
 Jw:n <= 11
 hw:(wl.length:Int)=n
 hc:(cl.length:Int)=n
 hv:vl.length <= t+1
 h0:Has vl 0 0
 hp:∀ q∈wl,q.x.ll.length <= t+1 /\ ∀ y∈q.x.ll,Has vl y.vw y.lg
 hl:∀ v∈vl,v.vv=0 \/ v.vv <= (dM (wl.getD (v.vv % n).toNat bM).x).vw
 hr:∀ v∈vl,0 <= v.vv /\ v.vv<18446744073709551616
 hd:(vl.map λv=>v.vv).Nodup
 hs:∀ v∈vl,v.sl.length+v.pl.length <= t
 hg:∀ c∈cl,c.cl.length <= t /\ ∀ y∈c.cl,0 <= y.nm /\ y.nm<18446744073709551616
theorem Has.lt {vl:List aT}{u k:Int}{t:Nat}(h:Has vl u k) (hs:∀ v∈vl,v.sl.length+v.pl.length <= t):0 <= k /\ k <= t:=by
 obtain⟨v,hv,-,w,z⟩:=h
 have:=hs v hv
 omega
section
variable {t : Nat} {n : Int} {vl : List aT} {wl : List bD} {cl : List bT}
theorem Inv.mono (h:Inv t n vl wl cl):Inv (t+1) n vl wl cl :=
 ⟨h.n3,h.Jw,h.hw,h.hc,by have:=h.hv;omega,h.h0,λq hq=>⟨by have:=(h.hp q hq).1;omega,(h.hp q hq).2⟩,h.hl,h.hr,h.hd,λv hv=>by have:=h.hs v hv;omega,λc hc=>⟨by have:=(h.hg c hc).1;omega,(h.hg c hc).2⟩⟩
theorem mem_set {α:Type}{l:List α}{i:Nat}{x y:α}(h:y∈l.set i x):y=x \/ y∈l:=by
 rcases List.mem_or_eq_of_mem_set h with h|h
 ·exact .inr h
 ·exact .inl h
theorem rP {α:Type}{l:List α}{i j:Nat}{x d:α}(hi:i<l.length):(l.set i x).getD j d=if i=j then x else l.getD j d:=by
 simp only [List.getD_eq_getElem?_getD,List.getElem?_set]
 by_cases h:i=j
 ·subst h;simp [hi]
 ·simp [h]
theorem Inv.NU (h:Inv t n vl wl cl){o:Nat}(ho:o<wl.length){x2:dQ}(hl:x2.ll.length <= t+1) (hx:∀ y∈x2.ll,Has vl y.vw y.lg) (hm:(dM (wl.getD o bM).x).vw <= (dM x2).vw):Inv t n vl (wl.set o ⟨(wl.getD o bM).b,x2⟩) cl:=by
 refine⟨h.n3,h.Jw,by rw [List.length_set];exact h.hw,h.hc,h.hv,h.h0,λq hq=>?_,λv hv=>?_,h.hr,h.hd,h.hs,h.hg⟩
 ·rcases mem_set hq with rfl|hq
  ·exact⟨hl,hx⟩
  ·exact h.hp q hq
 ·rcases h.hl v hv with e|e
  ·exact .inl e
  ·rw [rP ho]
   by_cases u:o=(v.vv % n).toNat
   ·rw [if_pos u]
    rw [<- u] at e
    exact .inr (Int.le_trans e hm)
   ·rw [if_neg u]
    exact .inr e
theorem Inv.iT (h:Inv t n vl wl cl){o:Nat}(ho:o<wl.length):(wl.getD o bM).x.ll.length <= t+1 /\ ∀ y∈(wl.getD o bM).x.ll,Has vl y.vw y.lg:=h.hp _ (bJ ho)
theorem Inv.IW (h:Inv t n vl wl cl){o:Nat}(ho:o<wl.length){x2:dQ}(e:x2.ll=(wl.getD o bM).x.ll):Inv t n vl (wl.set o ⟨(wl.getD o bM).b,x2⟩) cl :=
 h.NU ho (by rw [e];exact(h.iT ho).1) (by rw [e];exact(h.iT ho).2) (by unfold dM;rw [e];exact Int.le_refl _)
theorem sQ {x x2:dQ}{y:eS}(e:x2.ll=x.ll++[y]):dM x2=y:=by
 unfold dM
 rw [e,List.length_append,List.getD_eq_getElem?_getD,List.getElem?_append_right zw]
 simp
theorem Inv.F5 (h:Inv t n vl wl cl){o:Nat}(ho:o<wl.length){x2:dQ}{v k:Int}(e:x2.ll=(wl.getD o bM).x.ll++[⟨v,k⟩]) (hh:Has vl v k) (hv:(dM (wl.getD o bM).x).vw<v):Inv (t+1) n vl (wl.set o ⟨(wl.getD o bM).b,x2⟩) cl:=by
 refine h.mono.NU ho (by rw [e,List.length_append];have:=(h.iT ho).1;simp only [List.length_cons,List.length_nil];omega) (λy hy=>?_) (by rw [sQ e];show _ <= v;omega)
 rw [e] at hy
 rcases List.mem_append.1 hy with hy|hy
 ·exact(h.iT ho).2 y hy
 ·obtain rfl:=List.mem_singleton.1 hy
  exact hh
theorem F6 {x x2:dQ}(h0:0<x.ll.length) (e:x2.ll=bump x):(dM x2).vw=(dM x).vw:=by
 unfold dM bump at *
 rw [e,List.length_set,rP za,if_pos rfl]
 rfl
theorem Inv.z4 (h:Inv t n vl wl cl){o:Nat}(ho:o<wl.length){x2:dQ}(h0:0<(wl.getD o bM).x.ll.length) (e:x2.ll=bump (wl.getD o bM).x) (hh:Has vl (dM (wl.getD o bM).x).vw ((dM (wl.getD o bM).x).lg+1)):Inv t n vl (wl.set o ⟨(wl.getD o bM).b,x2⟩) cl:=by
 refine h.NU ho (by rw [e];unfold bump;rw [List.length_set];exact(h.iT ho).1) (λy hy=>?_) (by rw [F6 h0 e];exact Int.le_refl _)
 rw [e] at hy
 rcases mem_set hy with rfl|hy
 ·exact hh
 ·exact(h.iT ho).2 y hy
theorem Inv.Ri (h:Inv t n vl wl cl){o:Nat}(ho:o<cl.length){a:Option Addr}{c:Nat}{y:dY}(hy:0 <= y.nm /\ y.nm<18446744073709551616):Inv (t+1) n vl wl (cl.set o ⟨a,c,(cl.getD o cE).cl++[y]⟩):=by
 refine⟨h.n3,h.Jw,h.hw,by rw [List.length_set];exact h.hc,h.mono.hv,h.h0,h.mono.hp,h.hl,h.hr,h.hd,h.mono.hs,λq hq=>?_⟩
 have hc:=h.hg _ (bJ (d:=cE) ho)
 rcases mem_set hq with rfl|hq
 ·refine⟨by show((cl.getD o cE).cl++[y]).length <= _;rw [List.length_append];simp only [List.length_cons,List.length_nil];omega,λz hz=>?_⟩
  rcases List.mem_append.1 hz with hz|hz
  ·exact hc.2 z hz
  ·obtain rfl:=List.mem_singleton.1 hz
   exact hy
 ·exact h.mono.hg q hq
theorem Has.set {u k:Int}{i:Nat}(hi:i<vl.length){x:aT}(e:x.vv=(vl.getD i aN).vv) (e2:(vl.getD i aN).sl.length+(vl.getD i aN).pl.length <= x.sl.length+x.pl.length) (h:Has vl u k):Has (vl.set i x) u k:=by
 obtain⟨v,hv,w,z,h3⟩:=h
 obtain⟨j,hj,rfl⟩:=List.mem_iff_getElem.1 hv
 by_cases e3:i=j
 ·subst e3
  rw [List.getD_eq_getElem?_getD,List.getElem?_eq_getElem hi] at e e2
  simp only [Option.getD_some] at e e2
  exact⟨x,List.mem_iff_getElem.2 ⟨i,by rw [List.length_set];exact hi,by simp⟩,by rw [e,w],z,za⟩
 ·exact⟨vl[j],List.mem_iff_getElem.2 ⟨j,by rw [List.length_set];exact hj,by simp [e3]⟩,w,z,h3⟩
theorem Inv.grow (h:Inv t n vl wl cl){i:Nat}(hi:i<vl.length){x:aT}(e:x.vv=(vl.getD i aN).vv) (e2:x.sl.length+x.pl.length=(vl.getD i aN).sl.length+(vl.getD i aN).pl.length+1):Inv (t+1) n (vl.set i x) wl cl:=by
 have hm:vl.getD i aN∈vl:=bJ hi
 refine⟨h.n3,h.Jw,h.hw,h.hc,by rw [List.length_set];exact h.mono.hv,h.h0.set hi e za,λq hq=>⟨(h.mono.hp q hq).1,λy hy=>((h.hp q hq).2 y hy).set hi e za⟩,λv hv=>?_,λv hv=>?_,?_,λv hv=>?_,h.mono.hg⟩
 ·rcases mem_set hv with rfl|hv
  ·rw [e];exact h.hl _ hm
  ·exact h.hl v hv
 ·rcases mem_set hv with rfl|hv
  ·rw [e];exact h.hr _ hm
  ·exact h.hr v hv
 ·rw [List.map_set,e,show(vl.map λv=>v.vv).set i (vl.getD i aN).vv=vl.map λv=>v.vv from by
   apply List.ext_getElem zw
   intro j w z
   rw [List.getElem_set]
   by_cases u:i=j
   ·subst u;rw [if_pos rfl,List.getD_eq_getElem?_getD,List.getElem?_eq_getElem hi];simp
   ·rw [if_neg u]]
  exact h.hd
 ·rcases mem_set hv with rfl|hv
  ·have:=h.hs _ hm;omega
  ·exact h.mono.hs v hv
theorem Inv.once (h:Inv t n vl wl cl){i:Nat}(hi:i<vl.length){k:Int}(hh:Has vl (vl.getD i aN).vv k):0 <= k /\ k <= (((vl.getD i aN).sl.length+(vl.getD i aN).pl.length:Nat):Int):=by
 obtain⟨v,hv,u,w,z⟩:=hh
 obtain⟨j,hj,rfl⟩:=List.mem_iff_getElem.1 hv
 rw [List.getD_eq_getElem?_getD,List.getElem?_eq_getElem hi] at u ⊢
 simp only [Option.getD_some] at u ⊢
 have hd:=List.pairwise_iff_getElem.1 h.hd
 rcases Nat.lt_trichotomy i j with c|c|c
 ·exact absurd (show(vl.map λv=>v.vv)[i]'(by simpa using hi)=(vl.map λv=>v.vv)[j]'(by simpa using hj) by rw [List.getElem_map,List.getElem_map];exact u.symm) (hd i j _ _ c)
 ·subst c;exact⟨w,z⟩
 ·exact absurd (show(vl.map λv=>v.vv)[j]'(by simpa using hj)=(vl.map λv=>v.vv)[i]'(by simpa using hi) by rw [List.getElem_map,List.getElem_map];exact u) (hd j i _ _ c)
theorem Inv.begin (h:Inv t n vl wl cl){o:Nat}(ho:o<wl.length){x2:dQ}{x:aT}{vl2:List aT}(hp:List.Perm vl2 (x::vl)) (e:x2.ll=(wl.getD o bM).x.ll++[⟨x.vv,(x.sl.length:Nat)⟩]) (fS:x.pl=[]) (hlen:x.sl.length <= t) (hv:(dM (wl.getD o bM).x).vw<x.vv) (hvr:0 <= x.vv /\ x.vv<18446744073709551616) (hprim:x.vv % n=(o:Int)) (hl0:0 <= (dM (wl.getD o bM).x).vw):Inv (t+1) n vl2 (wl.set o ⟨(wl.getD o bM).b,x2⟩) cl:=by
 have hm:∀ v,v∈vl2↔v=x \/ v∈vl:=λv=>by rw [hp.mem_iff,List.mem_cons]
 have hup:∀ u k,Has vl u k -> Has vl2 u k:=λu k ⟨v,h1,h2⟩=>⟨v,(hm v).2 (.inr h1),h2⟩
 have hat:(wl.set o ⟨(wl.getD o bM).b,x2⟩).getD o bM=⟨(wl.getD o bM).b,x2⟩:=by rw [rP ho,if_pos rfl]
 refine⟨h.n3,h.Jw,by rw [List.length_set];exact h.hw,h.hc,by rw [hp.length_eq,List.length_cons];have:=h.hv;omega,hup _ _ h.h0,λq hq=>?_,λv w=>?_,λv w=>?_,?_,λv w=>?_,h.mono.hg⟩
 ·rcases mem_set hq with rfl|hq
  ·refine⟨by rw [e,List.length_append];have:=(h.iT ho).1;simp only [List.length_cons,List.length_nil];omega,λy hy=>?_⟩
   rw [show(⟨(wl.getD o bM).b,x2⟩:bD).x.ll=x2.ll from rfl,e] at hy
   rcases List.mem_append.1 hy with hy|hy
   ·exact hup _ _ ((h.iT ho).2 y hy)
   ·obtain rfl:=List.mem_singleton.1 hy
    exact⟨x,(hm x).2 (.inl rfl),rfl,Int.natCast_nonneg _,by rw [fS];exact Int.le_refl _⟩
  ·exact⟨(h.mono.hp q hq).1,λy hy=>hup _ _ ((h.hp q hq).2 y hy)⟩
 ·rcases(hm v).1 w with rfl|w
  ·right
   rw [hprim,Int.toNat_natCast,hat,sQ e]
   exact Int.le_refl _
  ·rcases h.hl v w with z|z
   ·exact .inl z
   ·right
    rw [rP ho]
    by_cases e2:o=(v.vv % n).toNat
    ·rw [if_pos e2]
     rw [<- e2] at z
     show v.vv <= (dM x2).vw
     rw [sQ e]
     show v.vv <= x.vv
     omega
    ·rw [if_neg e2];exact z
 ·rcases(hm v).1 w with rfl|w
  ·exact hvr
  ·exact h.hr v w
 ·refine(hp.map λv=>v.vv).nodup_iff.2 (List.nodup_cons.2 ⟨λhc=>?_,h.hd⟩)
  obtain⟨v,w,z⟩:=List.mem_map.1 hc
  have z:v.vv=x.vv:=z
  rcases h.hl v w with e2|e2
  ·omega
  ·rw [z,hprim,Int.toNat_natCast] at e2
   omega
 ·rcases(hm v).1 w with rfl|w
  ·rw [fS];simp only [List.length_nil];omega
  ·exact h.mono.hs v w
end
theorem oH {wl:List bD}{o:Nat}{x2:dQ}(ad:Option Addr) (c:Nat) (e:TypeId) (ho:o<wl.length):Sl ad c e 1 bD.ptr (wl.set o ⟨(wl.getD o bM).b,x2⟩)=Sl ad c e 1 bD.ptr wl:=by
 have h:∀ (l:List bD) (i:Nat),i<l.length -> ((l.set i ⟨(l.getD i bM).b,x2⟩).flatMap λx=>(bD.ptr x).toList)=l.flatMap λx=>(bD.ptr x).toList:=by
  intro l
  induction l with
  | nil=>intro i hi;exact absurd hi (Nat.not_lt_zero _)
  | cons a l ih =>
   intro i hi
   cases i with
   | zero=>rfl
   | succ i =>
    have:=ih i (Nat.lt_of_succ_lt_succ hi)
    simp only [List.set_cons_succ,List.flatMap_cons,List.getD_cons_succ] at this ⊢
    rw [this]
 unfold Sl
 rw [h wl o ho,List.length_set]
def LS (lp t:Nat) (x:aQ):bA:=Bd (Inv t x.n x.vl x.wl x.cl) [aB lp (aQ.cells x) 214,Sl x.va x.vc 209 4 aT.cells x.vl,aE cM x.vl,Sl x.wa x.wc 215 1 bD.ptr x.wl,aE cA x.wl,Sl x.ca x.cc 287 1 bT.cells x.cl,aE cF x.cl]
abbrev RF (n:Int) (kn:aP) (vb vc:Nat) (vl:List aT) (wb wc:Nat) (wl:List bD) (cb cc:Nat) (cl:List bT):aQ:=⟨n,kn,some ⟨vb,0,none⟩,vc,vl,some ⟨wb,0,none⟩,wc,wl,some ⟨cb,0,none⟩,cc,cl⟩
abbrev vq (l:List aT) (i:Int):aT:=l.getD (Int.toNat i) aN
abbrev wq (l:List bD) (i:Int):bD:=l.getD (Int.toNat i) bM
abbrev cq (l:List bT) (i:Int):bT:=l.getD (Int.toNat i) cE
abbrev RI (x:aT) (a:Option Addr) (c:Nat) (l:List dT):aT:=⟨x.vv,x.nm,x.sa,x.sc,x.sl,a,c,l⟩
abbrev RG (m:aK) (a:Option Addr) (c:Nat) (l:List bC):aT:=⟨m.bd.vw,m.nr,a,c,l,none,0,[]⟩
section
abbrev RJ (k:Int):Array Value:=#[.int .i64 k,.slice none 0 0,.slice none 0 0,.slice none 0 0,.slice none 0 0,.slice none 0 0,.slice none 0 0,.slice none 0 0,.slice none 0 0,.slice none 0 0,.slice none 0 0,.slice none 0 0,.slice none 0 0]
abbrev RK (k:Int) (p wt lp cp gp rn wc:Nat):Array Value:=#[.int .i64 k,.int .i64 1,.pointer (some ⟨p,0,none⟩),.pointer (some ⟨wt,0,none⟩),.pointer (some ⟨lp,0,none⟩),.pointer (some ⟨cp,0,none⟩),.pointer (some ⟨gp,0,none⟩),.pointer (some ⟨rn,0,none⟩),.pointer (some ⟨wc,0,none⟩),.slice none 0 0,.slice none 0 0,.int .u64 0]
variable {w0 w : World} {L : List bA}
theorem IX {al:Option Addr}{cl:Nat} l fq bx Q (pr:bu -> Bool) (hll:l.length <= 100000) (hcl:∀ args w,(callFunc fq args).run Tryz.prog w=.ok (.enter fq args) w) (hf_:∀ q (L:List bA) (w:World),St w0 (Q::L) w -> Calls Tryz.prog fq #[.agg (bu.cells q),zP bx 0] w (eD λv w2=>v=.bool (pr q) /\ St w0 (Q::L) w2)) (hr:Rw w0 L bu.cells 2 bG al l) (hs:St w0 (Q::L) w):Cs Tryz.prog 149 #[.slice al l.length cl,.func (.func fq) #[] #[zP bx 0]] w λrv w'=>∃ v,rv=.int .i64 v /\ decide (v >= 0)=(l.any pr) /\ St w0 (Q::L) w':=by
 refine dF Tryz.func149 Tryz.ntmps149 (En (Lq (Ls (Lq (Lb (Dz (aX.loop (T:=Nat×(Option Addr)) (λgg=>[(0,.slice gg.2 l.length cl),(1,.func (.func fq) #[] #[zP bx 0]),(7,.int .i64 (l.length:Nat)),(8,.int .i64 (gg.1:Nat))]) (λgg w=>(gg.1 <= l.length /\ ((l.take gg.1).any pr)=false /\ ∀ w,St w0 L w -> aC w gg.2 l.length 2 (λq=>bu.cells (l.getD q bG))) /\ St w0 (Q::L) w) (λgg=>l.length-gg.1) (0,al) [0,1,7,8] zk ⟨⟨Nat.zero_le _,rfl,hr⟩,hs⟩ ?_)))))))
 rintro⟨k,aq⟩ w1 ⟨hp,u⟩
 dsimp only at hp u
 have hw:=hp.2.2
 refine En (Lq (Ls (Dz (Zi ((k:Int)<(l.length:Nat)) (λa3=>?_) (λa3=>?_)))))
 ·have hk:k<l.length:=za
  obtain⟨z,a0,rfl⟩:=aC.isSome (hw _ (u.drop 1)) za
  refine En (Lk (Lt (Ls (Lb (Lq (Ls (Dz (dZ [5] (Hx 3 (k:Int) (l.length:Int) z a0 2 (Hg 4 (.agg (bu.cells (l.getD k bG))) [.prop (Array.size (bu.cells (l.getD k bG))=2),.cells ⟨z,a0+(k*2),none⟩ (bu.cells (l.getD k bG))] (aJ zk (iN (aC.mj (hw _ (u.drop 1)) zo (Nat.le_of_ble_eq_true zk) zk) aR)) Hz)) (dJ (f:=fq) (args:=#[.agg (bu.cells (l.getD k bG)),zP bx 0]) hcl (hf_ (l.getD k bG) _ _ u) ?_)))))))))
  rintro v8 w9 ⟨rfl,a2⟩
  refine Lo (Ld (Lt (Dz (eZ (t:=pr (l.getD k bG)) (λa1=>?_) (λa1=>?_)))))
  ·exact En (Lq (Le (Ll (Ly (E5 (Ll (Ly (Dz (bY (v:=.int .i64 (k:Nat)) ⟨(k:Nat),rfl,(by rw [show(l.any pr)=true from List.any_eq_true.2 ⟨_,bJ (d:=bG) hk,a1⟩];exact decide_eq_true za),a2⟩)))))))))
  ·exact Zk (Zm (Zt (dE (eT 0 ((k:Nat)+1) Hz) (aS.back (k+1,some ⟨z,a0,none⟩) [0,1,7,8] zk (by show l.length-(k+1)<l.length-k;omega) ⟨⟨za,by rw [bL (d:=bG) hk,List.any_append,hp.2.1];simp only [List.any_cons,List.any_nil,Bool.or_false,Bool.false_or];exact a1,hw⟩,a2⟩))))
 ·have hke:l.take k=l:=List.take_of_length_le za
  exact En (Lx (mM (mN (Lh (Lt (Lq (Le (Dz (bY (v:=.int .i64 (-1)) ⟨(-1),rfl,(by rw [<- hke,hp.2.1];rfl),u⟩)))))))))
theorem IY {al:Option Addr}{cl:Nat} l fq bx Q (pr:bu -> Bool) (hll:l.length <= 100000) (hcl:∀ args w,(callFunc fq args).run Tryz.prog w=.ok (.enter fq args) w) (hf_:∀ q (L:List bA) (w:World),St w0 (Q::L) w -> Calls Tryz.prog fq #[.agg (bu.cells q),zP bx 0] w (eD λv w2=>v=.bool (pr q) /\ St w0 (Q::L) w2)) (hr:Rw w0 L bu.cells 2 bG al l) (hs:St w0 (Q::L) w):Cs Tryz.prog 94 #[.slice al l.length cl,.func (.func fq) #[] #[zP bx 0]] w λrv w'=>rv=.bool (l.any pr) /\ St w0 (Q::L) w':=by
 refine dF Tryz.func94 Tryz.ntmps94 (En (Lq (Ls (Lg [2] (Lw (dJ (f:=149) (args:=#[.slice al l.length cl,.func (.func fq) #[] #[zP bx 0]]) Tryz.call149 (IX l fq bx Q pr zc hcl hf_ (λw h=>hr _ (h.drop 0)) hs) ?_))))))
 rintro v4 w5 ⟨u,rfl,z,a0⟩
 exact Lz (Le (Dz (bY (v:=.bool (decide ((u:Int) >= 0))) ⟨congrArg Value.bool z,a0⟩)))
theorem Kw x (hs:St w0 L w):Cs Tryz.prog 192 #[.int .u64 x] w λrv w'=>rv=.bool (decide ((x:Int)>0)) /\ St w0 L w':=by
 exact dF Tryz.func192 Tryz.ntmps192 (En (Lq (Lq (Le (Dz (bY (v:=.bool (decide ((x:Int)>0))) ⟨rfl,hs⟩))))))
theorem IZ {al:Option Addr}{cl:Nat} l (hll:l.length <= 100000) (hr:Rw w0 L vK 1 0 al l) (hs:St w0 L w):Cs Tryz.prog 237 #[.slice al l.length cl,.func (.func 192) #[] #[]] w λrv w'=>∃ v,rv=.int .i64 v /\ decide (v >= 0)=(l.any (λx=>decide ((x:Int)>0))) /\ St w0 L w':=by
 refine dF Tryz.func237 Tryz.ntmps237 (En (Lq (Ls (Lq (Lb (Dz (aX.loop (T:=Nat×(Option Addr)) (λgg=>[(0,.slice gg.2 l.length cl),(1,.func (.func 192) #[] #[]),(7,.int .i64 (l.length:Nat)),(8,.int .i64 (gg.1:Nat))]) (λgg w=>(gg.1 <= l.length /\ ((l.take gg.1).any (λx=>decide ((x:Int)>0)))=false /\ ∀ w,St w0 L w -> aC w gg.2 l.length 1 (λq=>vK (l.getD q 0))) /\ St w0 L w) (λgg=>l.length-gg.1) (0,al) [0,1,7,8] zk ⟨⟨Nat.zero_le _,rfl,hr⟩,hs⟩ ?_)))))))
 rintro⟨k,aq⟩ w1 ⟨hp,u⟩
 dsimp only at hp u
 have hw:=hp.2.2
 refine En (Lq (Ls (Dz (Zi ((k:Int)<(l.length:Nat)) (λa3=>?_) (λa3=>?_)))))
 ·have hk:k<l.length:=za
  obtain⟨z,a0,rfl⟩:=aC.isSome (hw _ (u.drop 0)) za
  refine En (Lk (Lt (Ls (Lb (Lq (Ls (Dz (dZ [5] (Hx 3 (k:Int) (l.length:Int) z a0 1 (Hg 4 (.gen [.int .u64 (l.getD k 0)]) [.cell ⟨z,a0+(k*1),none⟩ (.int .u64 (l.getD k 0))] (bE (aC.cV (hw _ (u.drop 0)) (k:=k) zo (j:=0) zb zk) aR) Hz)) (CH (Kw (l.getD k 0) u) λw9 a2=>Lo (Ld (Lt (Dz (Zi (((l.getD k 0):Int)>0) (λa1=>?_) (λa1=>?_))))))))))))))
  ·exact En (Lq (Le (Ll (Ly (E5 (Ll (Ly (Dz (bY (v:=.int .i64 (k:Nat)) ⟨(k:Nat),rfl,(by rw [show(l.any (λx=>decide ((x:Int)>0)))=true from List.any_eq_true.2 ⟨_,bJ (d:=(0:Int)) hk,decide_eq_true a1⟩];exact decide_eq_true za),a2⟩)))))))))
  ·exact Zk (Zm (Zt (dE (eT 0 ((k:Nat)+1) Hz) (aS.back (k+1,some ⟨z,a0,none⟩) [0,1,7,8] zk (by show l.length-(k+1)<l.length-k;omega) ⟨⟨za,by rw [bL (d:=(0:Int)) hk,List.any_append,hp.2.1];simp only [List.any_cons,List.any_nil,Bool.or_false,Bool.false_or];exact(decide_eq_false a1),hw⟩,a2⟩))))
 ·have hke:l.take k=l:=List.take_of_length_le za
  exact En (Lx (mM (mN (Lh (Lt (Lq (Le (Dz (bY (v:=.int .i64 (-1)) ⟨(-1),rfl,(by rw [<- hke,hp.2.1];rfl),u⟩)))))))))
theorem I0 {al:Option Addr}{cl:Nat} l (hll:l.length <= 100000) (hr:Rw w0 L vK 1 0 al l) (hs:St w0 L w):Cs Tryz.prog 191 #[.slice al l.length cl,.func (.func 192) #[] #[]] w λrv w'=>rv=.bool (l.any (λx=>decide ((x:Int)>0))) /\ St w0 L w':=by
 refine dF Tryz.func191 Tryz.ntmps191 (En (Lq (Ls (Lg [2] (Lw (dJ (f:=237) (args:=#[.slice al l.length cl,.func (.func 192) #[] #[]]) Tryz.call237 (IZ l zc (λw h=>hr _ (h.drop 0)) hs) ?_))))))
 rintro v4 w5 ⟨u,rfl,z,a0⟩
 exact Lz (Le (Dz (bY (v:=.bool (decide ((u:Int) >= 0))) ⟨congrArg Value.bool z,a0⟩)))
theorem Kx {bx:Nat}{p:Nat}{tl:TypeId} q n (hs:St w0 (aB bx #[zP p 0] 82::aB p (RJ n) tl::L) w):Cs Tryz.prog 190 #[.agg (bu.cells q),zP bx 0] w λrv w'=>rv=.bool (decide ((q.rp:Int)>n)) /\ St w0 (aB bx #[zP p 0] 82::aB p (RJ n) tl::L) w':=by
 exact dF Tryz.func190 Tryz.ntmps190 (En (Ls (Lg [0] (Dz (mT (bu.cells q) hs λb1 w2 z=>Lz (Ls (Dz (ZD (gE [0,1,2,3,4,5,6,7] .done) z λw4 u a1=>kV (Hl 1 0 0 u (Hl 2 1 0 u (Hl 5 2 0 u Hz))) (Zt (Ze (bY (v:=.bool (decide ((q.rp:Int)>n))) ⟨rfl,u.dr 1⟩)))))))))))
theorem Ky {al:Option Addr}{cl:Nat}{bx:Nat}{p:Nat}{tl:TypeId} l n (hll:l.length <= 100000) (hr:Rw w0 L bu.cells 2 bG al l) (hs:St w0 (aB bx #[zP p 0] 82::aB p (RJ n) tl::L) w):Cs Tryz.prog 94 #[.slice al l.length cl,.func (.func 190) #[] #[zP bx 0]] w λrv w'=>rv=.bool (l.any (λq=>decide ((q.rp:Int)>n))) /\ St w0 (aB bx #[zP p 0] 82::aB p (RJ n) tl::L) w':=by
 refine Calls.ret (IY l 190 bx (IP [aB bx #[zP p 0] 82,aB p (RJ n) tl]) (λq=>decide ((q.rp:Int)>n)) hll Tryz.call190 (λq L w h=>?_) hr (St.Dw (l:=[_,_]) hs)) ?_
 ·refine Calls.ret (Kx q n  (St.splits h)) ?_
  rintro v z ⟨rfl,u⟩
  exact⟨rfl,St.Dw (l:=[_,_]) u⟩
 ·rintro v z ⟨rfl,u⟩
  exact⟨rfl,St.splits u⟩
def F7 (k:Nat):Nat:=if 11=k then 2 else 2+(k*1)
theorem Mu (b k c d:Nat):Value.slice (some (if 11=k then Addr.mk b 2 none else (Addr.mk b 2 none).add (k*1))) c d=Value.slice (some ⟨b,F7 k,none⟩) c d:=by
 unfold F7
 split
 ·rfl
 ·rw [dI]
theorem aP.tail (hs:St w0 L w) (j:Nat){b:Nat}{cs:Array Value}{T:TypeId}(k:Nat) (d:aP) (hj:L[j]?=some (aB b cs T)) (he:cs.extract 2 (2+11)=aP.cells d):aC w (some ⟨b,F7 k,none⟩) (d.toList.drop k).length 1 (λq=>vK ((d.toList.drop k).getD q 0)):=λhn=>by
 have hm:=aP.lk hs j 2 d hj he
 have hl:d.toList.length=11:=aP.len d
 rw [List.length_drop,hl] at hn
 have ho:F7 k=2+(k*1):=if_neg za
 refine⟨b,2+(k*1),by rw [ho],λq hq i hi=>?_⟩
 have h1:k+q<11:=by rw [List.length_drop,hl] at hq;omega
 have h2:=aC.at hm (k:=k+q) (j:=i) (by rw [hl];exact h1) hi
 rw [show 2+(k*1)+q*1+i=2+(k+q)*1+i by omega,h2]
 simp only [List.getD_eq_getElem?_getD,List.getElem?_drop]
theorem DA {p:Nat}{tl:TypeId}(m:aK) (k:Nat) (hm:lP m) (hql:m.bd.ql.length <= 100000) (hk:3 <= k /\ k <= 11) (hr:Rw w0 L bu.cells 2 bG m.bd.qa m.bd.ql) (hs:St w0 (aB p (RJ (k:Nat)) tl::L) w):Cs Tryz.prog 131 #[zP p 0,.agg (aK.cells m)] w λrv w'=>∃ ob2,rv=.bool ob2 /\ St w0 (aB p (RJ (k:Nat)) tl::L) w':=by
 refine dF Tryz.func131 Tryz.ntmps131 (En (Ls (Lg [0,1] (Dz (Ry (zP p 0) #[zP p 0] hs λb1 w2 a4=>Lo (Dz (mT (aK.cells m) a4 λz w5 a5=>Lz (Ls (Ls (Dz (ZD (.rd 0 (.ef 1 (gE [2,3,4,5,6,7,8,9,10,11] .done))) a5 λw7 a3 c0=>Zj (hP 0 0 0 121 (aK.cells m) a3 Hz) (dJ (f:=93) (args:=#[.agg (aK.cells m)]) Tryz.call93 (C3 m hm (λw h=>hr _ (h.drop 3)) a3) ?_))))))))))))
 rintro c1 c2 ⟨rfl,u⟩
 refine Lo (Dz (Zr 2 2 [] (iy 8 (!(gv m)) (λa1=>?_) (λa1=>?_))))
 ·exact En (cI (Lt (LT (Lq (Le (Ly (Dz (bY (v:=.bool false) ⟨false,rfl,u.dr 2⟩))))))))
 ·refine kV (Hl 5 0 0 u (Hl 6 1 0 u (Hl 9 2 0 u Hz))) (Zt (Zi ((m.og:Int)>(k:Nat)) (λa8=>?_) (λa8=>?_)))
  ·exact En (Lq (Le (Ly (Dz (bY (v:=.bool false) ⟨false,rfl,u.dr 2⟩)))))
  ·refine Zk (Zt (Zs (dZ [4,13] (Hl 2 0 56 u Hz) (dJ (f:=94) (args:=#[.slice m.bd.qa m.bd.ql.length m.bd.qc,.func (.func 190) #[] #[zP b1 0]]) Tryz.call94 (Ky m.bd.ql (k:Nat) hql (λw h=>hr _ (h.drop 1)) ((u.pl 2).pl 2)) ?_))))
   rintro c3 c4 ⟨rfl,a0⟩
   refine Lo (Dz (Zr 5 2 [] (iy 23 (!(m.bd.ql.any (λq=>decide ((q.rp:Int)>(k:Nat))))) (λa2=>?_) (λa2=>?_))))
   ·refine Zj (Hl 8 0 0 a0 (Hl 11 1 0 a0 (Hg 12 (.dH (zL z (F7 k) ((m.dp.toList.drop k).length) (11-k)) (.sub k 11)) [.prop ((k:Int)=(k:Int)),.prop (((some (Operand.tmp 28))=none -> (k:Nat)=0) /\ ((none:Option Operand)=none -> (11:Nat)=11) /\ (k:Nat) <= 11 /\ (11:Nat) <= 11),.prop (Value.slice (some (if 11=k then Addr.mk z 2 none else (Addr.mk z 2 none).add (k*1))) (11-k) (11-k)=Value.slice (some ⟨z,F7 k,none⟩) ((m.dp.toList.drop k).length) (11-k))] (aJ za (aJ ⟨(by first|(intro _;rfl)|(intro hc;cases hc)),(by first|(intro _;rfl)|(intro hc;cases hc)),za,za⟩ (aJ (by rw [(show(m.dp.toList.drop k).length=11-k from by rw [List.length_drop,aP.len])];exact(Mu _ _ _ _)) aR))) Hz))) (dJ (f:=191) (args:=#[zL z (F7 k) ((m.dp.toList.drop k).length) (11-k),.func (.func 192) #[] #[]]) Tryz.call191 (I0 (m.dp.toList.drop k) (by rw [List.length_drop,aP.len];omega) (λw h=>aP.tail h 2 k m.dp rfl zk) a0) ?_)
    rintro c5 c6 ⟨rfl,b3⟩
    refine Lz (Le (Dz (bY (v:=.bool (!((m.dp.toList.drop k).any (λx=>decide ((x:Int)>0))))) ?_)))
    have b5:=((b3.pl 1).pl 2).pl 2
    exact⟨!((m.dp.toList.drop k).any (λx=>decide ((x:Int)>0))),rfl,b5.dr 2⟩
   ·refine En (Lw (qR (En (cI (Lt (Le (Dz (bY (v:=.bool false) ?_))))))))
    have b7:=((a0.pl 1).pl 2).pl 2
    exact⟨false,rfl,b7.dr 2⟩
theorem Bq {p:Nat}{tl:TypeId}(m:aK) (k:Nat) (hm:lP m) (hql:m.bd.ql.length <= 100000) (hk:3 <= k /\ k <= 11) (hwr:kD m=false) (hTab:∀ w,St w0 L w -> kA w) (hr:Rw w0 L bu.cells 2 bG m.bd.qa m.bd.ql) (hs:St w0 (aB p (RJ (k:Nat)) tl::L) w):Cs Tryz.prog 73 #[zP p 0,.agg (aK.cells m)] w λrv w'=>∃ ev2,rv=.int .i64 ev2 /\ (ev2=1 \/ ev2=11) /\ St w0 (aB p (RJ (k:Nat)) tl::L) w':=by
 refine dF Tryz.func73 Tryz.ntmps73 (En (Ls (Lg [0] (Dz (mT (aK.cells m) hs λb1 w2 a1=>Lz (Ls (Lb (Lq (LF (Ls (Dz (dZ [2] (hP 1 0 0 121 (aK.cells m) a1 Hz) (Zc (DA m k hm hql zc (λw h=>hr _ (h.drop 1)) (a1.pl 1)) ?_)))))))))))))
 rintro v7 w8 ⟨z,rfl,a0⟩
 refine Lz (Dz (eZ (t:=!z) (λh9=>?_) (λh9=>?_)))
 ·refine En (Lq (Le (Ll (Ly (Dz (bY (v:=.int .i64 1) ?_))))))
  have a4:=(a0.pl 0).pl 1
  exact⟨1,rfl,zb,a4.dr 1⟩
 ·refine Zs (dZ [1] (hP 0 1 0 121 (aK.cells m) a0 Hz) (CH (FY m hm (λw h=>hTab w (h.drop 2)) (λw h=>hr _ (h.drop 2)) a0) λb2 a6=>Lz (Dz (eZ (t:=!(kD m)) (λu=>?_) (λu=>?_)))))
  ·refine En (Lq (Le (Ll (Ly (Dz (bY (v:=.int .i64 11) ?_))))))
   have a8:=(a6.pl 0).pl 1
   exact⟨11,rfl,zb,a8.dr 1⟩
  ·exfalso;have hz:=u;simp [hwr] at hz
end
section
variable {w0 w : World} {L : List bA}
abbrev gZ:Unit -> Value:=λ_=>.bool false
def nR (n:Int):Array Value:=#[.int .i64 n,.int .u64 0,.int .u64 0,.int .u64 0,.int .u64 0,.int .u64 0,.int .u64 0,.int .u64 0,.int .u64 0,.int .u64 0,.int .u64 0,.int .u64 0,.int .u64 0,.int .u64 0,.int .u64 0,.int .u64 0,.int .u64 0,.int .u64 0,.int .u64 0,.int .u64 0,.int .u64 0,.int .u64 0,.int .u64 0,.int .u64 0,.int .u64 0,.int .u64 0,.int .u64 0,.int .u64 0,.int .u64 0,.int .u64 0,.int .u64 0,.int .u64 0,.int .u64 0,.int .u64 0,.int .u64 0,.int .u64 0,.int .u64 0,.int .u64 0,.int .u64 0,.int .u64 0,.int .u64 0,.int .u64 0,.int .u64 0,.int .u64 0,.int .u64 0,.int .u64 0,.int .u64 0,.int .u64 0,.int .u64 0,.int .u64 0,.int .u64 0,.int .u64 0,.int .u64 0,.int .u64 0,.int .u64 0,.int .u64 0,.int .u64 0,.int .u64 0,.int .u64 0,.int .u64 0,.int .u64 0,.int .u64 0,.int .u64 0,.int .u64 0,.int .u64 0,.int .u64 0,.int .u64 0,.int .u64 0,.int .u64 0,.int .u64 0,.int .u64 0,.int .u64 0,.int .u64 0,.int .u64 0,.int .u64 0,.int .u64 0,.int .u64 0,.int .u64 0,.int .u64 0,.int .u64 0,.int .u64 0,.int .u64 0,.int .u64 0,.int .u64 0,.int .u64 0,.int .u64 0,.int .u64 0,.int .u64 0,.int .u64 0,.int .u64 0,.int .u64 0,.int .u64 0,.int .u64 0,.int .u64 0,.int .u64 0,.int .u64 0,.int .u64 0,.int .u64 0,.int .u64 0,.int .u64 0,.int .u64 0,.int .u64 0,.int .u64 0,.int .u64 0,.int .u64 0,.int .u64 0,.int .u64 0,.int .u64 0,.int .u64 0,.int .u64 0,.int .u64 0,.int .u64 0,.int .u64 0,.int .u64 0,.int .u64 0,.int .u64 0,.int .u64 0,.int .u64 0,.int .u64 0,.int .u64 0,.int .u64 0,.int .u64 0]
theorem F8 e (he:(e=1 \/ e=11)) (hs:St w0 L w):Cs Tryz.prog 74 #[.int .i64 e] w λrv w'=>rv=.bool false /\ St w0 L w':=by
 refine dF Tryz.func74 Tryz.ntmps74 (En (Lq (Ls (Dz (aX.join (T:=Unit) (E:=λ_=>[(2,.bool (((e:Int) == 0) || ((e:Int) == 12)))]) (F:=λ_ w=>St w0 L w) ?_ ?_)))))
 ·refine Zg [] (Zr 0 3 [] (iy 5 ((e:Int) == 0) (λu=>?_) (λu=>?_)))
  ·exact En (cI (Dz (lM [2] () true (by first|rfl|simp [Hb,u]) hs)))
  ·exact En (cI (Dz (lM [2] () ((e:Int) == 12) (by first|rfl|simp [Hb,u]) hs)))
 intro _ w2 a0
 exact Zt (Ze (bY (v:=.bool (((e:Int) == 0) || ((e:Int) == 12))) ⟨(by rcases he with rfl|rfl<;>rfl),a0⟩))
theorem I1 {p:Nat}{wt:Nat}{wm:Nat}{tl:TypeId}{tw:TypeId}(m:aK) (k:Nat) (hm:lP m) (hql:m.bd.ql.length <= 100000) (hk:3 <= k /\ k <= 11) (hwr:kD m=false) (hTab:∀ w,St w0 L w -> kA w) (hr:Rw w0 L bu.cells 2 bG m.bd.qa m.bd.ql) (hs:St w0 (aB wt #[.map (some wm)] tw::bR gZ gZ wm ([])::aB p (RJ (k:Nat)) tl::L) w):Cs Tryz.prog 40 #[zP wt 0,zP p 0,.agg (aK.cells m)] w λrv w'=>∃ ev2,rv=.int .i64 ev2 /\ St w0 (aB wt #[.map (some wm)] tw::bR gZ gZ wm ([])::aB p (RJ (k:Nat)) tl::L) w':=by
 refine dF Tryz.func40 Tryz.ntmps40 (En (Ls (Lg [0] (Dz (mT (aK.cells m) hs λb1 w2 z=>Lz (Ls (Lq (LF (Lk (Lt (Ls (Ls (Dz (dZ [2] (hP 1 0 0 121 (aK.cells m) z Hz) (Zc (Bq m k hm hql hk hwr (λw h=>hTab w (h.drop 3)) (λw h=>hr _ (h.drop 3)) (z.pl 3)) ?_)))))))))))))))
 rintro v8 w9 ⟨u,rfl,a1,a2⟩
 refine Lz (Ls (Lg [1] (Lw (CH (F8 u a1 a2) λa7 a3=>Lz (LT (Lq (Le (Ly (Dz (bY (v:=.int .i64 u) ?_))))))))))
 have a4:=(((a3.pl 0).pl 3).pl 3).pl 3
 exact⟨u,rfl,a4.dr 1⟩
theorem I2 {sb:Nat}(hs:St w0 L w):Cs Tryz.prog 78 #[zL sb 0 0 0] w λrv w'=>rv=.int .i64 0 /\ St w0 L w':=by
 exact dF Tryz.func78 Tryz.ntmps78 (En (Lq (Lq (Le (Dz (bY (v:=.int .i64 0) ⟨rfl,hs⟩))))))
theorem wE {p:Nat}{wt:Nat}{wm:Nat}{tl:TypeId}{tw:TypeId}(k:Nat) (hs:St w0 (aB wt #[.map (some wm)] tw::bR gZ gZ wm ([])::aB p (RJ (k:Nat)) tl::L) w):Cs Tryz.prog 41 #[zP wt 0,zP p 0] w λrv w'=>rv=.tuple #[.agg (aK.cells fE),.bool false] /\ St w0 (aB wt #[.map (some wm)] tw::bR gZ gZ wm ([])::aB p (RJ (k:Nat)) tl::L) w':=by
 refine dF Tryz.func41 Tryz.ntmps41 (En (Ls (Lg [0] (Dz (tW (aK.cells fE) hs λb1 w2 a4=>Lz (Ls (Lq (LF (Lk (Lt (Ls (Lg [0,1] (Dz (aL.gT rfl zk (t:=177) (e:=169) zk zk (ti:=Tryz.t169) zk a4 λu w5 a5 b5=>Lo (Dz (Ry (zL u 0 0 0) #[zL u 0 0 0] a5 λb8 w9 a0=>Lz (Ls (Ls (Dz (dZ [4] (Hl 3 3 0 a0 Hz) (aL.range rfl zk (T:=121) (K:=169) (E:=55) zk (r:=wm) zk a0 4 rfl λa1 a6 a7=>?_)))))))))))))))))))))
 have z:St w0 (pT gZ gZ wm a1 ([]) ([])::aB b8 #[zL u 0 0 0] 177::aB u #[] 169::aB b1 (aK.cells fE) 55::aB wt #[.map (some wm)] tw::aB p (RJ (k:Nat)) tl::L) a6:=a7
 refine Lo (Ld (Lt (Lb (Dz (aX.qw 1 (En (Ls (Lg [0] (Dz (aL.next rfl rfl zk (r:=wm) (it:=a1) zk z ?_ ?_))))))))))
 ·intro b6
  refine Lz (Ls (LF (Lx (mM (mN (Lh (Lt (Ls (Ls (Dz (dZ [3] (Hl 2 1 0 z Hz) (dJ (f:=78) (args:=#[zL u 0 0 0]) Tryz.call78 (I2 z) ?_))))))))))))
  rintro b7 b9 ⟨rfl,a2⟩
  refine Lz (LT (Ls (Dz (dZ [1] (hP 0 3 0 121 (aK.cells fE) a2 Hz) (Zu 3 0 (aK.cells fE) a2 λa8 a3=>Lz (Le (Ly (Dz (Rv 3 (.bool false) a3 ?_)))))))))
  have a9:St w0 (bR gZ gZ wm ([])::aB b8 #[zL u 0 0 0] 177::aB u #[] 169::aB b1 (aK.cells fE) 55::aB wt #[.map (some wm)] tw::aB p (RJ (k:Nat)) tl::L) a8:=a3.conv (λ⟨_,x,_,clk,hx,_⟩=>⟨x,clk,hx⟩) (λb hb=>.inl hb)
  have b0:=(((((a9.pl 5).pl 1).pl 5).pl 5).pl 5).pl 5
  exact⟨rfl,b0.dr 3⟩
 ·intro kx vx w9 b3;exact absurd b3 List.not_mem_nil
theorem I3 {gp:Nat}{tg:TypeId}(k:Nat) (hk:3 <= k /\ k <= 11) (hs:St w0 (aB gp (nR (k:Nat)) tg::L) w):Cs Tryz.prog 72 #[zP gp 0,.int .i64 2] w λrv w'=>rv=.bool true /\ St w0 (aB gp (nR (k:Nat)) tg::L) w':=by
 exact dF Tryz.func72 Tryz.ntmps72 (En (Lq (Ls (Dz (dE (Hl 11 0 0 hs Hz) (Zt (Ze (bY (v:=.bool (decide ((2:Int) <= (k:Nat)))) ⟨(by rw [decide_eq_true za]),hs⟩))))))))
theorem F9 {gp:Nat}{tg:TypeId}(k:Nat) (hk:3 <= k /\ k <= 11) (hs:St w0 (aB gp (nR (k:Nat)) tg::L) w):Cs Tryz.prog 39 #[zP gp 0,.int .i64 2,.agg (aP.cells dB)] w λrv w'=>rv=.int .i64 0 /\ St w0 (aB gp (nR (k:Nat)) tg::L) w':=by
 refine dF Tryz.func39 Tryz.ntmps39 (En (Ls (Lg [0] (Dz (mT (aP.cells dB) hs λb1 w2 z=>Lz (Ls (Lb (Lq (LF (Ls (Lg [2] (Lw (CH (I3 k zc (z.pl 1)) λw7 a1=>Lz (LF (Lk (Lm (Lt (Ls (Dz (ZD (gE [0,1,2,3,4,5,6] (.ef 7 .done)) a1 λw8 u a5=>Zj (hP 3 1 0 11 (aP.cells dB) u (Hx 6 (1:Int) (11:Int) gp 1 11 Hz)) (Zu 0 12 (nR (k:Nat)) u λa6 a2=>Lo (Ld (Lt (Lq (Le (Dz (bY (v:=.int .i64 0) ?_)))))))))))))))))))))))))))
 have a3:=(a2.pl 0).pl 1
 exact⟨rfl,a3.dr 1⟩
theorem Ga {r:Nat}{p:Nat}{wt:Nat}{wm:Nat}{lp:Nat}{cp:Nat}{gp:Nat}{rn:Nat}{wc:Nat}{tr:TypeId}{tl:TypeId}{tw:TypeId}{tg:TypeId}{mb:Nat}(m:aK) (k:Nat) (hm:lP m) (hql:m.bd.ql.length <= 100000) (hk:3 <= k /\ k <= 11) (hwr:kD m=false) (hTab:∀ w,St w0 L w -> kA w) (hr:Rw w0 L bu.cells 2 bG m.bd.qa m.bd.ql) (hs:St w0 (aB r (RK (k:Nat) p wt lp cp gp rn wc) tr::aB p (RJ (k:Nat)) tl::aB wt #[.map (some wm)] tw::bR gZ gZ wm ([])::aB gp (nR (k:Nat)) tg::Sl (sm mb) 1 55 121 aK.cells ([m])::L) w):Cs Tryz.prog 10 #[zP r 0,.agg #[.int .i64 2,.int .i64 1,.int .u64 0,.int .u64 0,.int .u64 0,.int .u64 0,.int .u64 0,.int .u64 0,.int .u64 0,.int .u64 0,.int .u64 0,.int .u64 0,.int .u64 0,zL mb 0 1 1]] w λrv w'=>rv=.tuple #[.slice none 0 0,.int .i64 0] /\ St w0 (aB r (RK (k:Nat) p wt lp cp gp rn wc) tr::aB p (RJ (k:Nat)) tl::aB wt #[.map (some wm)] tw::bR gZ gZ wm ([])::aB gp (nR (k:Nat)) tg::L) w':=by
 refine dF Tryz.func10 Tryz.ntmps10 (En (Ls (Lg [0] (Dz (mT #[.int .i64 2,.int .i64 1,.int .u64 0,.int .u64 0,.int .u64 0,.int .u64 0,.int .u64 0,.int .u64 0,.int .u64 0,.int .u64 0,.int .u64 0,.int .u64 0,.int .u64 0,zL mb 0 1 1] hs λb1 w2 b0=>Lz (Ls (Lb (Lq (LF (Ls (Ls (Dz (ZD (gE [0,1,2,3,4,5,6,7] .done) b0 λw4 u d3=>kV (Hl 1 0 1 u (Hl 5 1 1 u Hz)) (En (Lt (LF (Ls (Dz (dE (Hl 1 0 0 u Hz) (En (Lt (LF (Ls (Dz (ZD (gE [0,1,2,3,4,5,6,7] .done) u λw7 a3 d4=>kV (Hl 1 0 0 a3 (Hl 5 1 0 a3 Hz)) (Zt (Zi ((2:Int)>(k:Nat)) (λa5=>?_) (λa5=>?_))))))))))))))))))))))))))))
 ·exfalso;have hz:=(decide_eq_true a5);simp at hz;try omega
 ·refine ZD (gE [0,1,2,3,4,5,6,7] .done) a3 λd5 z d6=>kV (Hl 1 0 0 z (Hl 5 1 1 z Hz)) (En (Lt (LF (Ls (Dz (dE (Hl 1 0 13 z Hz) (En (Lt (LF (Lk (Lm (Lt (Ls (Dz (ZD (gE [0,1,2,3,4,5,6,7] (.ef 8 .done)) z λd7 a0 d8=>Zj (Hl 3 1 6 a0 (Hl 5 0 0 a0 (hP 7 0 2 11 (#[.int .u64 0,.int .u64 0,.int .u64 0,.int .u64 0,.int .u64 0,.int .u64 0,.int .u64 0,.int .u64 0,.int .u64 0,.int .u64 0,.int .u64 0]) a0 Hz))) (CH (F9 k hk (a0.pl 5)) λe0 a4=>Lo (Ld (Lt (Ls (Ls (Dz (dE (Hl 1 1 13 a4 Hz) (Zt (Zb (aX.qw 2 (En (Lq (Ls (LT (Lk (Lt (Ls (Lb (Ls (Dz (dZ [2,3] (Hx 0 (0:Int) (1:Int) mb 0 121 (Hg 1 (.agg (aK.cells m)) [.prop (Array.size (aK.cells m)=121),.cells ⟨mb,0,none⟩ (aK.cells m)] (aJ zk (iN (aC.mj (a4.rows 6 rfl JR.size fE) (k:=0) zo (Nat.le_of_ble_eq_true zk) zk) aR)) Hz)) (tW (aK.cells fE) a4 λa6 e1 b3=>Lo (Dz (Zu 0 0 (aK.cells m) b3 λe2 b4=>Lo (Ld (Lt (Dz (ZD (gE [0,1,2,3,4,5,6,7,8] (.ef 9 .done)) b4 λe3 a1 e4=>Zj (Hl 3 3 3 a1 (Hl 7 3 2 a1 (hP 8 0 0 121 (aK.cells m) a1 Hz))) (Zc (I1 m k hm hql hk hwr (λw h=>hTab w (h.drop 5)) (λw h=>hr _ (h.drop 5)) (((a1.pl 4).pl 6).pl 6)) ?_))))))))))))))))))))))))))))))))))))))))))))
  rintro e5 e6 ⟨e7,rfl,b6⟩
  refine Lo (Ld (Lm (Lt (La (Dz (aS.again (En (Lq (Ls (LF (Lx (mM (mN (Lh (Lt (Ls (Ls (Dz (aX.join (T:=Nat) (E:=λjx=>[(0,zP r 0),(4,.slice none 0 0),(5,.int .i64 0),(8,zP jx 0),(9,.bool false)]) (F:=λjx w=>St w0 (aB jx (aK.cells fE) 55::aB wt #[.map (some wm)] tw::bR gZ gZ wm ([])::aB p (RJ (k:Nat)) tl::aB a6 (aK.cells m) 55::aB gp (nR (k:Nat)) tg::aB b1 #[.int .i64 2,.int .i64 1,.int .u64 0,.int .u64 0,.int .u64 0,.int .u64 0,.int .u64 0,.int .u64 0,.int .u64 0,.int .u64 0,.int .u64 0,.int .u64 0,.int .u64 0,zL mb 0 1 1] 59::aB r (RK (k:Nat) p wt lp cp gp rn wc) tr::Sl (sm mb) 1 55 121 aK.cells ([m])::L) w) ?_ ?_)))))))))))))))))))
  ·refine aX.fI [0,1,3,7,0,16,48,112,255,511,1023,1023,0,6143,16383] (.rd 0 (.rd 1 (.rd 2 (.rd 3 (.rd 4 (.rd 5 (.rd 6 (.rd 7 (.alt (.ef 8 (.rd 9 (.rd 10 (.rd 11 (.ef 12 (.ef 13 (.rd 14 .done))))))) (.ef 12 (.ef 8 (.rd 9 (.rd 10 (.rd 11 (.ef 13 (.rd 14 .done)))))))))))))))) zk zk aZ zk b6 λe8 a2 e9=>kJ 0 8 (Hl 3 6 3 a2 (Hl 7 6 2 a2 Hz)) (aL.alt ?_ ?_)
   ·exact CH (wE k a2) λf1 b7=>Lo (Dz (Zr 9 3 [] (tW (aK.cells fE) b7 λb9 f2 a7=>⟨Mv a7 7 rfl [2,3],(Zu 0 0 (aK.cells fE) a7 λf3 c0=>Lo (Dz (Zr 14 1 [] (Zd (vB [0,4,5,8,9] b9 c0)))))⟩)))
   exact tW (aK.cells fE) a2 λc1 f4 a8=>⟨Mv a8 7 rfl [2,3],(CH (wE k (((a8.pl 3).pl 3).pl 3)) λf6 c3=>Lo (Dz (Zr 9 3 [] (Zu 3 0 (aK.cells fE) c3 λf7 c4=>Lo (Dz (Zr 14 1 [] (Zd (vB [0,4,5,8,9] c1 (((((((((c4.pl 8).pl 8).pl 8).pl 8).pl 8).pl 7).pl 7).pl 7).pl 8)))))))))⟩
  rintro a9 c6 c7
  have c9:St w0 (aB a9 (aK.cells fE) 55::aB wt #[.map (some wm)] tw::bR gZ gZ wm ([])::aB p (RJ (k:Nat)) tl::aB a6 (aK.cells m) 55::aB gp (nR (k:Nat)) tg::aB b1 #[.int .i64 2,.int .i64 1,.int .u64 0,.int .u64 0,.int .u64 0,.int .u64 0,.int .u64 0,.int .u64 0,.int .u64 0,.int .u64 0,.int .u64 0,.int .u64 0,.int .u64 0,zL mb 0 1 1] 59::aB r (RK (k:Nat) p wt lp cp gp rn wc) tr::Sl (sm mb) 1 55 121 aK.cells ([m])::L) c6:=c7
  refine aS.gL (S':=[(0,zP r 0),(4,.slice none 0 0),(5,.int .i64 0),(8,zP a9 0),(9,.bool false)]) rfl (Zt (Zb (aX.qw 2 (En (Ls (Lq (LF (Lx (mM (mN (Lh (Lt (Lq (Le (Dz (Jq (v:=.slice none 0 0) (v':=.int .i64 0) ?_))))))))))))))))
  have d1:=((((((((c9.pl 5).pl 3).pl 3).pl 4).pl 7).pl 8).pl 8).pl 8).pl 8
  exact⟨rfl,d1.dr 4⟩
end
section
variable {w0 w : World} {L : List bA}
theorem na n v (hn:3 <= n /\ n <= 11) (hv:0 <= v /\ v<18446744073709551616) (hs:St w0 L w):Cs Tryz.prog 159 #[.int .i64 n,.int .u64 v] w λrv w'=>∃ pm2,rv=.int .i64 ((pm2:Nat)+1) /\ v % n=(pm2:Int) /\ (pm2:Int)<n /\ St w0 L w':=by
 refine dF Tryz.func159 Tryz.ntmps159 (En (Lq (Ls (Lg [] (Dz ?_)))))
 obtain⟨u,z⟩:∃ q9:Nat,(v:Int) % n=(q9:Int) /\ (q9:Int)<n:=Fa za za
 exact kV (Cz 2 n (Hg 3 (.div (u:Nat)) [.prop (IntKind.u64=IntKind.u64 /\ (n:Int)≠0 /\ Int.tmod v n=(u:Nat))] (aJ ⟨rfl,za,by rw [Int.tmod_eq_emod_of_nonneg za];exact z.1⟩ aR) (eT 4 (u:Nat) (Hg 5 (.dH (.int .i64 ((u:Nat)+1)) (.gen [])) [.prop (Value.int .i64 (IntKind.i64.wrap (1+(u:Nat)))=Value.int .i64 ((u:Nat)+1))] (aJ (ct za za za) aR) Hz)))) (Zt (Ze (bY (v:=.int .i64 ((u:Nat)+1)) ⟨u,rfl,z.1,z.2,hs⟩)))
theorem aE.jK {α:Type}{F:α -> bA}{l:List α}(d:α){i:Nat}{w0 w:World}{L:List bA}(hi:i<l.length) (h:St w0 (F (l.getD i d)::aE F (l.eraseIdx i)::L) w):St w0 (aE F l::L) w:=by
 have e:l.set i (l.getD i d)=l:=by
  rw [List.getD_eq_getElem?_getD,List.getElem?_eq_getElem hi]
  exact List.set_getElem_self hi
 have u:=aE.put hi h
 rw [e] at u
 exact u
def Br (vl:List aT) (v iv:Int):Prop:=(iv<0 /\ ∀ j,j<vl.length -> ¬ (vl.getD j aN).vv=v) \/ (0 <= iv /\ iv<vl.length /\ (vq vl iv).vv=v)
theorem Br.ge {vl:List aT}{v iv:Int}(h:Br vl v iv) (h0:0 <= iv):iv<vl.length /\ (vq vl iv).vv=v:=(h.resolve_left (λc=>by omega)).2
theorem Br.has {vl:List aT}{v iv k:Int}(h:Br vl v iv) (h0:Has vl v k):0 <= iv /\ iv<vl.length /\ (vq vl iv).vv=v:=h.resolve_left λc=>by
 obtain⟨x,hx,h1,-⟩:=h0
 obtain⟨j,hj,rfl⟩:=List.mem_iff_getElem.1 hx
 refine c.2 j hj ?_
 rw [List.getD_eq_getElem?_getD,List.getElem?_eq_getElem hj]
 exact h1
theorem rQ {lp:Nat}{vb:Nat}{vc:Nat}{wb:Nat}{wc:Nat}{cb:Nat}{cc:Nat}{n:Int}{kn:aP}{vl:List aT}{wl:List bD}{cl:List bT} v (hvl:vl.length <= 1000) (hs:St w0 (aB lp (aQ.cells (RF n kn vb vc vl wb wc wl cb cc cl)) 214::Sl (sm vb) vc 209 4 aT.cells vl::L) w):Cs Tryz.prog 160 #[zP lp 0,.int .u64 v] w λrv w'=>∃ iv2,rv=.int .i64 iv2 /\ (Br vl v iv2) /\ St w0 (aB lp (aQ.cells (RF n kn vb vc vl wb wc wl cb cc cl)) 214::Sl (sm vb) vc 209 4 aT.cells vl::L) w':=by
 refine dF Tryz.func160 Tryz.ntmps160 (En (Lq (Ls (Lq (Lb (Dz (aX.loop (T:=Nat) (λgg=>[(0,zP lp 0),(1,.int .u64 v),(5,.int .i64 (gg:Nat))]) (λgg w=>(gg <= vl.length /\ ∀ j,j<gg -> ¬ (vl.getD j aN).vv=v) /\ St w0 (aB lp (aQ.cells (RF n kn vb vc vl wb wc wl cb cc cl)) 214::Sl (sm vb) vc 209 4 aT.cells vl::L) w) (λgg=>vl.length-gg) 0 [0,1,5] zk ⟨⟨Nat.zero_le _,λj hj=>absurd hj (Nat.not_lt_zero _)⟩,hs⟩ ?_)))))))
 rintro i w1 ⟨hp,u⟩
 refine Zs (Zs (dE (Hl 4 0 12 u Hz) (Zt (Zi ((i:Int)<(vl.length:Nat)) (λa1=>?_) (λa1=>?_)))))
 ·have hk:i<vl.length:=za
  refine Zk (Zt (Zs (Zb (Zs (dE (Hl 3 0 12 u (Hx 5 (i:Int) (vl.length:Int) vb 0 4 (Hg 7 (.gen [.int .u64 ((vl.getD i aN).vv)]) [.cell ⟨vb,0+(i*4),none⟩ (.int .u64 ((vl.getD i aN).vv))] (bE (aC.cV (u.rows 1 rfl jJ.size aN) (k:=i) zo (j:=0) zb zk) aR) Hz))) (Zt (eZ (t:=(((vl.getD i aN).vv):Int) == v) (λz=>?_) (λz=>?_))))))))
  ·exact En (Lq (Le (Ll (Ly (E5 (Ll (Ly (Dz (bY (v:=.int .i64 (i:Nat)) ⟨(i:Nat),rfl,.inr ⟨za,za,kr z⟩,u⟩)))))))))
  ·exact Zk (Zm (Zt (dE (eT 1 ((i:Nat)+1) Hz) (aS.back (i+1) [0,1,5] zk (by show vl.length-(i+1)<vl.length-i;omega) ⟨⟨za,λj hj=>(Nat.lt_or_ge j i).elim (hp.2 j) (λh=>by obtain rfl:j=i:=za;exact(lf z))⟩,u⟩))))
 ·exact En (Lx (mM (mN (Lh (Lt (Lq (Le (Dz (bY (v:=.int .i64 (-1)) ⟨(-1),rfl,.inl ⟨zb,λj hj=>hp.2 j za⟩,u⟩)))))))))
def eP (w:aT) (i:Nat):List bC:=w.sl++(w.pl.take i).map λp=>p.rq
theorem z5 {w:aT}{i:Nat}(hi:i<w.pl.length):eP w (i+1)=eP w i++[(w.pl.getD i lN).rq]:=by
 unfold eP
 rw [bL (d:=lN) hi,List.map_append,List.append_assoc]
 rfl
theorem oI (w:aT) (i:Nat) (hi:i <= w.pl.length):(eP w i).length=w.sl.length+i:=by
 unfold eP
 rw [List.length_append,List.length_map,List.length_take]
 omega
theorem uo (vx:aT) (hwl:vx.sl.length+vx.pl.length <= 1000) (hwn:vx.sa=none -> vx.sc=0) (hr1:Rw w0 L bC.cells 40 cP vx.sa vx.sl) (hr2:Rw w0 L dT.cells 41 lN vx.pa vx.pl) (hs:St w0 L w):Cs Tryz.prog 166 #[.agg (aT.cells vx)] w λrv w'=>∃ ao co,rv=.slice ao ((eP vx vx.pl.length).length) co /\ St w0 (Sl ao co 41 40 bC.cells (eP vx vx.pl.length)::L) w':=by
 refine dF Tryz.func166 Tryz.ntmps166 (En (Ls (Lg [0] (Dz (mT (aT.cells vx) hs λu w2 a8=>Lz (Ls (Lg [0,3] (Dz (Rj Kv CR a8 λb4 w5 a7=>QP (Hl 2 1 2 a7 Hz) (aL.append rfl zk Kv CR (ad:=some ⟨b4,0,none⟩) (c:=0) (xs:=([]:List bC)) (ys:=vx.sl) (adx:=vx.sa) (cx:=vx.sc) cP zk a7 (hr1 _ (a7.drop 2)) hwn zC zC λa3 a4 w9 a9=>Lz (Ls (Lq (Lb (Dz ?_))))))))))))))
 have b0:St w0 (Sl a3 a4 41 40 bC.cells (eP vx 0)::aB u (aT.cells (RI vx vx.pa vx.pc vx.pl)) 209::L) w9:=(by rw [show eP vx 0=vx.sl from by simp [eP]];exact a9)
 refine Zn [(4,.int .i64 0),(3,.slice a3 vx.sl.length a4),(2,.slice none 0 0),(1,zP u 0)] (aX.gL (S':=[(4,.int .i64 0),(3,.slice a3 ((eP vx 0).length) a4),(2,.slice none 0 0),(1,zP u 0)]) (by rw [show eP vx 0=vx.sl from by simp [eP]]) (aX.loop (T:=Nat×(Option Addr)×Nat×(Option Addr)) (λgg=>[(1,zP u 0),(2,.slice none 0 0),(3,.slice gg.2.1 ((eP vx gg.1).length) gg.2.2.1),(4,.int .i64 (gg.1:Nat))]) (λgg w=>(gg.1 <= vx.pl.length /\ ∀ w1,St w0 L w1 -> aC w1 gg.2.2.2 vx.pl.length 41 (λq=>dT.cells (vx.pl.getD q lN))) /\ St w0 (Sl gg.2.1 gg.2.2.1 41 40 bC.cells (eP vx gg.1)::aB u (aT.cells (RI vx gg.2.2.2 vx.pc vx.pl)) 209::L) w) (λgg=>vx.pl.length-gg.1) (0,a3,a4,vx.pa) [1,2,3,4] zk ⟨⟨Nat.zero_le _,hr2⟩,b0⟩ ?_))
 rintro⟨i,ad,c,aq⟩ c9 ⟨hp,a0⟩
 dsimp only at hp a0
 have hw:=hp.2
 refine Zs (Zs (dE (Hl 2 1 3 a0 Hz) (Zt (Zi ((i:Int)<(vx.pl.length:Nat)) (λb2=>?_) (λb2=>?_)))))
 ·have hk:i<vx.pl.length:=za
  have hal:=oI vx i za
  obtain⟨a1,a2,rfl⟩:=aC.isSome (hw _ (a0.drop 2)) za
  refine Zk (Zt (Zs (Zb (dZ [7,8] (Hl 2 1 3 a0 (Hx 4 (i:Int) (vx.pl.length:Int) a1 a2 41 (Hg 6 (.agg (bC.cells ((vx.pl.getD i lN).rq))) [.prop (Array.size (bC.cells ((vx.pl.getD i lN).rq))=40),.cells ⟨a1,a2+(i*41)+1,none⟩ (bC.cells ((vx.pl.getD i lN).rq))] (aJ zk (iN (aC.all (hw _ (a0.drop 2)) (k:=i) (o:=1) (vs:=bC.cells ((vx.pl.getD i lN).rq)) zo (Nat.le_of_ble_eq_true zk) zk) aR)) Hz))) (aL.bU rfl zk (t:=62) (e:=41) (n:=1) (ps:=[(0,.agg (bC.cells ((vx.pl.getD i lN).rq)))]) zk zk (ti:=Tryz.t41) (z:=.agg (bC.cells cP)) zk zk zb zb (cs:=bC.cells ((vx.pl.getD i lN).rq)) zk a0 λb3 b5 b6 b7=>?_)))))
  have b9:St w0 (Sl (sm b3) 1 41 40 bC.cells ([((⟨((vx.pl.getD i lN).rq).cl,((vx.pl.getD i lN).rq).tm,(⟨(((vx.pl.getD i lN).rq).op).kd,(((vx.pl.getD i lN).rq).op).ky,(((vx.pl.getD i lN).rq).op).va,(((vx.pl.getD i lN).rq).op).ol,(((vx.pl.getD i lN).rq).op).tx,(((vx.pl.getD i lN).rq).op).am⟩:pv),((vx.pl.getD i lN).rq).tg⟩:bC):bC)])::Sl ad c 41 40 bC.cells (eP vx i)::aB u (aT.cells (RI vx (some ⟨a1,a2,none⟩) vx.pc vx.pl)) 209::L) b5:=St.iw (l:=[((⟨((vx.pl.getD i lN).rq).cl,((vx.pl.getD i lN).rq).tm,(⟨(((vx.pl.getD i lN).rq).op).kd,(((vx.pl.getD i lN).rq).op).ky,(((vx.pl.getD i lN).rq).op).va,(((vx.pl.getD i lN).rq).op).ol,(((vx.pl.getD i lN).rq).op).tx,(((vx.pl.getD i lN).rq).op).am⟩:pv),((vx.pl.getD i lN).rq).tg⟩:bC):bC)]) (f:=bC.cells) b6 b7 CR.size zf zk
  refine Lo (Dz (sD Kv CR cP (b9.pl 1) zC λa5 a6 c1 c2=>Lo (cI (Lm (Lt (Dz (dE (eT 1 ((i:Nat)+1) Hz) ?_)))))))
  have c3:=((c2.pl 2).pl 1).pl 2
  have c4:=c3.dr 1
  have c5:St w0 (Sl a5 a6 41 40 bC.cells (eP vx (i+1))::aB u (aT.cells (RI vx (some ⟨a1,a2,none⟩) vx.pc vx.pl)) 209::L) c1:=(by rw [z5 hk];exact c4)
  exact aS.pick [4,3,1,2] (S':=[(4,.int .i64 ((i:Nat)+1)),(3,.slice a5 (((eP vx i)++([((⟨((vx.pl.getD i lN).rq).cl,((vx.pl.getD i lN).rq).tm,(⟨(((vx.pl.getD i lN).rq).op).kd,(((vx.pl.getD i lN).rq).op).ky,(((vx.pl.getD i lN).rq).op).va,(((vx.pl.getD i lN).rq).op).ol,(((vx.pl.getD i lN).rq).op).tx,(((vx.pl.getD i lN).rq).op).am⟩:pv),((vx.pl.getD i lN).rq).tg⟩:bC):bC)])).length) a6),(1,zP u 0),(2,.slice none 0 0)]) zk (aS.gL (S':=[(4,.int .i64 ((i:Nat)+1)),(3,.slice a5 ((eP vx (i+1)).length) a6),(1,zP u 0),(2,.slice none 0 0)]) (by rw [z5 hk]) (aS.back (i+1,a5,a6,some ⟨a1,a2,none⟩) [1,2,3,4] zk (by show vx.pl.length-(i+1)<vx.pl.length-i;omega) ⟨⟨za,hw⟩,c5⟩))
 ·obtain rfl:i=vx.pl.length:=za
  refine En (Lx (mM (mN (Lh (Lt (Lq (Le (Dz (bY (v:=.slice ad ((eP vx vx.pl.length).length) c) ?_)))))))))
  have c6:=(a0.pl 0).pl 1
  exact⟨ad,c,rfl,c6.dr 1⟩
end
end Go.Proofs.YthfpmlpoiocfdaaGreatDoor
