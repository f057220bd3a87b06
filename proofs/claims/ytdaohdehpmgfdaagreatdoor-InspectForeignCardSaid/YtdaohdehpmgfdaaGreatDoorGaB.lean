/-
  Several texts in one: TcD, TbT, TcE, TcF, ShaA, ShaB, ShaC, ShaH, ShaD, ShaE, ShaF, TagA, TagB, TagC, TagD, TagE, TagF, RsA.
-/
import Derived.Test.YtdaohdehpmgfdaaGreatDoorSxT
import Derived.Test.YtdaohdehpmgfdaaGreatDoorGaA
import Derived.Test.YtdaohdehpmgfdaaGreatDoorProg
namespace Go.Proofs.YtdaohdehpmgfdaaGreatDoor
open Go.RowKit Go.Sx
set_option linter.unusedVariables false
set_option linter.unusedSimpArgs false
set_option linter.unnecessarySimpa false
set_option maxRecDepth 100000
section
variable {w0 w : World} {L : List aI} {ay : Option Addr} {cy : Nat} {ax : Option Addr} {cx : Nat}
theorem vd x y (hll:x.length<=9223372036854775807) (hr1:Rw w0 L aT.cells 2 aR ax x) (hr2:Rw w0 L aT.cells 2 aR ay y) (hs:St w0 L w):Cs Tryz.prog 161 #[.slice ax x.length cx,.slice ay y.length cy] w λrv w'=>rv=.bool (decide (x=y))/\St w0 L w':=by
 refine bp Tryz.func161 Tryz.ntmps161 (En (Lq (Ls (Lq (Dz (cS (t:=(x.length:Int) != (y.length:Nat)) (λh1=>?_) (λh1=>?_)))))))
 ·have a4:=jb h1
  exact En (Lq (Le (Ly (Dz (bg (v:=.bool false) ⟨(by rw [decide_eq_false λh9=>absurd (congrArg List.length h9) za]),hs⟩)))))
 ·have a4:=iF h1
  have hln:x.length=y.length:=za
  refine En (Lk (Lt (Ls (Lq (Lb (Dz (aE.loop (T:=Nat×(Option Addr)×(Option Addr)) (λgg=>[(0,.slice gg.2.1 x.length cx),(1,.slice gg.2.2 y.length cy),(5,.int .i64 (gg.1:Nat))]) (λgg w=>(gg.1<=x.length/\x.take gg.1=y.take gg.1/\(∀ w,St w0 L w->ag w gg.2.1 x.length 2 (λq=>aT.cells (x.getD q aR)))/\(∀ w,St w0 L w->ag w gg.2.2 y.length 2 (λq=>aT.cells (y.getD q aR))))/\St w0 L w) (λgg=>x.length-gg.1) (0,ax,ay) [0,1,5] zk ⟨⟨Nat.zero_le _,rfl,hr1,hr2⟩,hs⟩ ?_)))))))
  rintro⟨k,aq,bq⟩ w2 ⟨hp,a⟩
  dsimp only at hp a
  have a1:=hp.2.2.1
  have a2:=hp.2.2.2
  refine En (Ls (Lq (Dz (Zi ((k:Int)<(x.length:Nat)) (λa5=>?_) (λa5=>?_)))))
  ·have hkx:k<x.length:=za
   have hky:k<y.length:=za
   obtain⟨e,f,rfl⟩:=ag.isSome (a1 _ (a.drop 0)) za
   obtain⟨o,u,rfl⟩:=ag.isSome (a2 _ (a.drop 0)) za
   refine Zk (Zt (Zs (Zb (Zs (ZD (jX [0,1,2,3,4,5,6,7,8] .done) a λa6 a0 a7=>Zp 0 8 [(2,.cI (zP e (f+(k*2))) .at_),(3,.agg (aT.cells (x.getD k aR))),(6,.cI (zP o (u+(k*2))) .at_),(7,.agg (aT.cells (y.getD k aR)))] [(2,[.prop (0<=(k:Int)/\(k:Int)<(x.length:Int)),.prop (Value.pointer (some (Addr.add ⟨e,f,none⟩ (Int.toNat (k:Nat)*2)))=Value.pointer (some ⟨e,f+(k*2),none⟩))]),(3,[.prop (Array.size (aT.cells (x.getD k aR))=2),.cells ⟨e,f+(k*2),none⟩ (aT.cells (x.getD k aR))]),(6,[.prop (0<=(k:Int)/\(k:Int)<(y.length:Int)),.prop (Value.pointer (some (Addr.add ⟨o,u,none⟩ (Int.toNat (k:Nat)*2)))=Value.pointer (some ⟨o,u+(k*2),none⟩))]),(7,[.prop (Array.size (aT.cells (y.getD k aR))=2),.cells ⟨o,u+(k*2),none⟩ (aT.cells (y.getD k aR))])] (ak (aB za (aB (aS _ _ _) av)) (ak (aB zk (dq (ag.lO (a1 _ (a0.drop 0)) zd (Nat.le_of_ble_eq_true zk) zk) av)) (ak (aB za (aB (aS _ _ _) av)) (ak (aB zk (dq (ag.lO (a2 _ (a0.drop 0)) zd (Nat.le_of_ble_eq_true zk) zk) av)) cW)))) (ar.jY rfl zk (b:=false) (t:=81) (xs:=aT.cells (x.getD k aR)) (ys:=aT.cells (y.getD k aR)) (m:=2) zk zk zf zk (r:=!(decide ((x.getD k aR)=(y.getD k aR)))) (z9  (Du (x.getD k aR) (y.getD k aR))) (Zd (Zt (cS (t:=!(decide ((x.getD k aR)=(y.getD k aR)))) (λz=>?_) (λz=>?_))))))))))
   ·have a3:=kL z
    have hne:¬ (x.getD k aR=y.getD k aR):=by simpa using z
    exact En (Lq (Le (Ll (Ly (uk (Ll (Ly (Dz (bg (v:=.bool false) ⟨(by rw [decide_eq_false λh9=>hne (by rw [h9])]),a0⟩)))))))))
   ·have a3:=km z
    have heq:x.getD k aR=y.getD k aR:=by simpa using z
    exact Zk (Zm (Zt (bj (cH 1 ((k:Nat)+1) Hz) (aw.back (k+1,some ⟨e,f,none⟩,some ⟨o,u,none⟩) [0,1,5] zk (by show x.length-(k+1)<x.length-k;omega) ⟨⟨za,by rw [bh (d:=aR) hkx,bh (d:=aR) hky,hp.2.1,heq],a1,a2⟩,a0⟩))))
  ·have hxy:x=y:=by rw [<- List.take_of_length_le (i:=k) (l:=x) za,<- List.take_of_length_le (i:=k) (l:=y) za];exact hp.2.1
   exact En (Lx (gv (gw (Lh (Lt (Lq (Le (Dz (bg (v:=.bool true) ⟨(by rw [decide_eq_true hxy]),a⟩)))))))))
def fR (x:aK) (y:aK):Bool :=
 if ((x.kd:Int) == y.kd)=true then
  if ((x.vw:Int) == y.vw)=true then
   if ((x.k:Int) == y.k)=true then
    if (decide (x.rq=y.rq))=true then
     if (decide (x.ql=y.ql))=true then
      decide (x.dg=y.dg)
     else
      false
    else
     false
   else
    false
  else
   false
 else
  false
theorem oe x y (hqn:x.ql.length<=9223372036854775807) (hr1:Rw w0 L aT.cells 2 aR x.qa x.ql) (hr2:Rw w0 L aT.cells 2 aR y.qa y.ql) (hs:St w0 L w):Cs Tryz.prog 116 #[.agg (aK.cells x),.agg (aK.cells y)] w λrv w'=>rv=.bool (fR x y)/\St w0 L w':=by
 refine bp Tryz.func116 Tryz.ntmps116 (En (Ls (Lg [0,1] (Dz (kR (aK.cells x) hs λz w2 a6=>Lo (Dz (kR (aK.cells y) a6 λb4 w5 a=>Lz (Ls (Lg [31] (Dz (gZ 0 6 (Hl 1 1 0 a (Hl 3 0 0 a Hz)) (gC 10 ((x.kd:Int) == y.kd) (λd=>?_) (λd=>?_)))))))))))))
 ·refine gZ 6 7 (Hl 7 1 1 a (Hl 9 0 1 a Hz)) (gC 17 ((x.vw:Int) == y.vw) (λe=>?_) (λe=>?_))
  ·refine gZ 13 7 (Hl 14 1 2 a (Hl 16 0 2 a Hz)) (gC 24 ((x.k:Int) == y.k) (λi=>?_) (λi=>?_))
   ·refine Zp 20 4 [(21,.agg (dM.cells x.rq)),(23,.agg (dM.cells y.rq))] [(21,[.prop (Array.size (dM.cells x.rq)=40),.cells ⟨z,3,none⟩ (dM.cells x.rq)]),(23,[.prop (Array.size (dM.cells y.rq)=40),.cells ⟨b4,3,none⟩ (dM.cells y.rq)])] (ak (aB zk (dq (a.cells 1 3 rfl zk) av)) (ak (aB zk (dq (a.cells 0 3 rfl zk) av)) cW)) (ar.jY rfl zk (b:=true) (t:=36) (xs:=dM.cells x.rq) (ys:=dM.cells y.rq) (m:=3) zk zk zf zk (r:=decide (x.rq=y.rq)) (pT  (Dv x.rq y.rq)) (Zr 25 2 [] (gC 31 (decide (x.rq=y.rq)) (λo=>?_) (λo=>?_))))
    ·refine Zj (Hl 28 1 43 a (Hl 30 0 43 a Hz)) (aF (f:=161) (args:=#[.slice x.qa x.ql.length x.qc,.slice y.qa y.ql.length y.qc]) Tryz.call161 (vd x.ql y.ql zc (λw h=>hr1 _ (h.drop 2)) (λw h=>hr2 _ (h.drop 2)) a) ?_)
     rintro b2 b3 ⟨rfl,q⟩
     refine Lo (Dz (Zr 32 2 [] (gC 38 (decide (x.ql=y.ql)) (λu=>?_) (λu=>?_))))
     ·exact Zp 34 4 [(35,.agg (aO.cells x.dg)),(37,.agg (aO.cells y.dg))] [(35,[.prop (Array.size (aO.cells x.dg)=32),.cells ⟨z,44,none⟩ (aO.cells x.dg)]),(37,[.prop (Array.size (aO.cells y.dg)=32),.cells ⟨b4,44,none⟩ (aO.cells y.dg)])] (ak (aB zk (dq (q.cells 1 44 rfl zk) av)) (ak (aB zk (dq (q.cells 0 44 rfl zk) av)) cW)) (ar.jY rfl zk (b:=true) (t:=34) (xs:=aO.cells x.dg) (ys:=aO.cells y.dg) (m:=2) zk zk zf zk (r:=decide (x.dg=y.dg)) (pT  (Ac x.dg y.dg)) (En (aL (Lt (Le (Dz (bg (v:=.bool (decide (x.dg=y.dg))) (uD (by rw [fR,if_pos d,if_pos e,if_pos i,if_pos o,if_pos u]) (q.dr 2)))))))))
     ·exact En (aL (Lt (Le (Dz (bg (v:=.bool false) (uD (by rw [fR,if_pos d,if_pos e,if_pos i,if_pos o,nI u]) (q.dr 2)))))))
    ·exact En (Lw (qV (En (aL (Lt (Le (Dz (bg (v:=.bool false) (uD (by rw [fR,if_pos d,if_pos e,if_pos i,nI o]) (a.dr 2))))))))))
   ·exact En (Lw (qV (En (aL (Lt (Le (Dz (bg (v:=.bool false) (uD (by rw [fR,if_pos d,if_pos e,nI i]) (a.dr 2))))))))))
  ·exact En (Lw (qV (En (aL (Lt (Le (Dz (bg (v:=.bool false) (uD (by rw [fR,if_pos d,nI e]) (a.dr 2))))))))))
 ·exact En (Lw (qV (En (aL (Lt (Le (Dz (bg (v:=.bool false) (uD (by rw [fR,nI d]) (a.dr 2))))))))))
def dX (x:aK):aK :=
 if ((x.kd:Int) == 1)=true then
  (⟨x.kd,x.vw,0,x.rq,none,0,[],aH⟩:aK)
 else
  if ((x.kd:Int) == 2)=true then
   (⟨x.kd,x.vw,x.k,dk,none,0,[],aH⟩:aK)
  else
   if ((x.kd:Int) == 3)=true then
    (⟨x.kd,x.vw,0,dk,none,0,[],aH⟩:aK)
   else
    if ((x.kd:Int) == 5)=true then
     (⟨x.kd,x.vw,0,dk,none,0,[],aH⟩:aK)
    else
     if ((x.kd:Int) == 4)=true then
      (⟨x.kd,x.vw,0,dk,x.qa,x.qc,x.ql,aH⟩:aK)
     else
      if ((x.kd:Int) == 6)=true then
       (⟨x.kd,0,x.k,dk,none,0,[],x.dg⟩:aK)
      else
       (⟨x.kd,0,0,dk,none,0,[],aH⟩:aK)
theorem An x (hs:St w0 L w):Cs Tryz.prog 117 #[.agg (aK.cells x)] w λrv w'=>rv=.agg (aK.cells (dX x))/\St w0 L w':=by
 refine bp Tryz.func117 Tryz.ntmps117 (En (Ls (Lg [0,1] (Dz (kR (aK.cells x) hs λb1 w2 c5=>Lo (Dz (oX (aK.cells cU) c5 λb4 w5 q=>Lo (Ld (Lt (Ls (Dz (bL [3,4] (Hl 1 1 0 q Hz) (oX (aK.cells cU) q λb7 w8 c6=>Lo (Dz (Zu 0 0 (aK.cells (⟨x.kd,0,0,dk,none,0,[],aH⟩:aK)) c6 λd3 a=>Lo (Ld (Lt (Ls (Ls (Dz (bj (Hl 1 2 0 a Hz) (En (Lt (Lb (Lq (Dz (cS (t:=(x.kd:Int) == 1) (λb=>?_) (λb=>?_))))))))))))))))))))))))))))
 ·have c7:=dt b
  refine Zs (bL [3] (Hl 1 2 1 a Hz) (Zu 0 1 (aK.cells (⟨x.kd,x.vw,0,dk,none,0,[],aH⟩:aK)) a λd4 u=>Lo (Ld (Lt (Dz (bL [3] (du 1 2 3 40 (dM.cells x.rq) u Hz) (Zu 0 3 (aK.cells (⟨x.kd,x.vw,0,x.rq,none,0,[],aH⟩:aK)) u λd5 z=>Lo (Ld (Lm (Lt (Ls (Dz (bL [1] (du 0 0 0 76 (aK.cells (⟨x.kd,x.vw,0,x.rq,none,0,[],aH⟩:aK)) z Hz) (Zu 1 0 (aK.cells (⟨x.kd,x.vw,0,x.rq,none,0,[],aH⟩:aK)) z λd6 a0=>Lo (Ld (Lt (Le (Dz (Bu 1 a0 ?_)))))))))))))))))))
  have hr:dX x=(⟨x.kd,x.vw,0,x.rq,none,0,[],aH⟩:aK):=by rw [dX,if_pos b]
  have a1:=a0.dr 3
  exact⟨(by first|rfl|(rw [hr];done)|(rw [hr];rfl)),(by first|exact a1|(rw [hr];exact a1))⟩
 ·have c7:=dH b
  refine En (Lq (Dz (cS (t:=(x.kd:Int) == 2) (λd=>?_) (λd=>?_))))
  ·have c8:=dt d
   refine Zs (bL [3] (Hl 1 2 1 a Hz) (Zu 0 1 (aK.cells (⟨x.kd,x.vw,0,dk,none,0,[],aH⟩:aK)) a λd7 a2=>Lo (Ld (Lt (Dz (bL [3] (Hl 1 2 2 a2 Hz) (Zu 0 2 (aK.cells (⟨x.kd,x.vw,x.k,dk,none,0,[],aH⟩:aK)) a2 λd8 a3=>Lo (Ld (Lm (Lt (Ls (Dz (bL [1] (du 0 0 0 76 (aK.cells (⟨x.kd,x.vw,x.k,dk,none,0,[],aH⟩:aK)) a3 Hz) (Zu 1 0 (aK.cells (⟨x.kd,x.vw,x.k,dk,none,0,[],aH⟩:aK)) a3 λd9 a4=>Lo (Ld (Lt (Le (Dz (Bu 1 a4 ?_)))))))))))))))))))
   have hr:dX x=(⟨x.kd,x.vw,x.k,dk,none,0,[],aH⟩:aK):=by rw [dX,nI b,if_pos d]
   have a5:=a4.dr 3
   exact⟨(by first|rfl|(rw [hr];done)|(rw [hr];rfl)),(by first|exact a5|(rw [hr];exact a5))⟩
  ·have c8:=dH d
   refine En (Ls (Lq (Dz (cS (t:=(x.kd:Int) == 3) (λe=>?_) (λe=>?_)))))
   ·have c9:=dt e
    refine Zk (Zt (cS (t:=(x.kd:Int) == 3) (λ_=>bL [3] (Hl 1 2 1 a Hz) (Zu 0 1 (aK.cells (⟨x.kd,x.vw,0,dk,none,0,[],aH⟩:aK)) a λe0 a6=>Lo (Ld (Lm (Lt (Ls (Dz (bL [1] (du 0 0 0 76 (aK.cells (⟨x.kd,x.vw,0,dk,none,0,[],aH⟩:aK)) a6 Hz) (Zu 1 0 (aK.cells (⟨x.kd,x.vw,0,dk,none,0,[],aH⟩:aK)) a6 λe1 a7=>Lo (Ld (Lt (Le (Dz (Bu 1 a7 ?_)))))))))))))) (λhc=>absurd (e.symm.trans hc) zf)))
    have hr:dX x=(⟨x.kd,x.vw,0,dk,none,0,[],aH⟩:aK):=by rw [dX,nI b,nI d,if_pos e]
    have a8:=a7.dr 3
    exact⟨(by first|rfl|(rw [hr];done)|(rw [hr];rfl)),(by first|exact a8|(rw [hr];exact a8))⟩
   ·have c9:=dH e
    refine Za (Zt (cS (t:=(x.kd:Int) == 5) (λf=>?_) (λf=>?_)))
    ·have d0:=dt f
     refine bL [3] (Hl 1 2 1 a Hz) (Zu 0 1 (aK.cells (⟨x.kd,x.vw,0,dk,none,0,[],aH⟩:aK)) a λe2 a9=>Lo (Ld (Lm (Lt (Ls (Dz (bL [1] (du 0 0 0 76 (aK.cells (⟨x.kd,x.vw,0,dk,none,0,[],aH⟩:aK)) a9 Hz) (Zu 1 0 (aK.cells (⟨x.kd,x.vw,0,dk,none,0,[],aH⟩:aK)) a9 λe3 b0=>Lo (Ld (Lt (Le (Dz (Bu 1 b0 ?_)))))))))))))
     have hr:dX x=(⟨x.kd,x.vw,0,dk,none,0,[],aH⟩:aK):=by rw [dX,nI b,nI d,nI e,if_pos f]
     have b2:=b0.dr 3
     exact⟨(by first|rfl|(rw [hr];done)|(rw [hr];rfl)),(by first|exact b2|(rw [hr];exact b2))⟩
    ·have d0:=dH f
     refine En (Lq (Dz (cS (t:=(x.kd:Int) == 4) (λi=>?_) (λi=>?_))))
     ·have d1:=dt i
      refine Zs (bL [3] (Hl 1 2 1 a Hz) (Zu 0 1 (aK.cells (⟨x.kd,x.vw,0,dk,none,0,[],aH⟩:aK)) a λe4 b3=>Lo (Ld (Lt (Dz (bL [3] (Hl 1 2 43 b3 Hz) (Zu 0 43 (aK.cells (⟨x.kd,x.vw,0,dk,x.qa,x.qc,x.ql,aH⟩:aK)) b3 λe5 b5=>Lo (Ld (Lm (Lt (Ls (Dz (bL [1] (du 0 0 0 76 (aK.cells (⟨x.kd,x.vw,0,dk,x.qa,x.qc,x.ql,aH⟩:aK)) b5 Hz) (Zu 1 0 (aK.cells (⟨x.kd,x.vw,0,dk,x.qa,x.qc,x.ql,aH⟩:aK)) b5 λe6 b6=>Lo (Ld (Lt (Le (Dz (Bu 1 b6 ?_)))))))))))))))))))
      have hr:dX x=(⟨x.kd,x.vw,0,dk,x.qa,x.qc,x.ql,aH⟩:aK):=by rw [dX,nI b,nI d,nI e,nI f,if_pos i]
      have b8:=b6.dr 3
      exact⟨(by first|rfl|(rw [hr];done)|(rw [hr];rfl)),(by first|exact b8|(rw [hr];exact b8))⟩
     ·have d1:=dH i
      refine En (Lq (Dz (cS (t:=(x.kd:Int) == 6) (λo=>?_) (λo=>?_))))
      ·have d2:=dt o
       refine Zs (bL [3] (Hl 1 2 2 a Hz) (Zu 0 2 (aK.cells (⟨x.kd,0,x.k,dk,none,0,[],aH⟩:aK)) a λe7 b9=>Lo (Ld (Lt (Dz (bL [3] (du 1 2 44 32 (aO.cells x.dg) b9 Hz) (Zu 0 44 (aK.cells (⟨x.kd,0,x.k,dk,none,0,[],x.dg⟩:aK)) b9 λe8 c0=>Lo (Ld (Lm (Lt (Ls (Dz (bL [1] (du 0 0 0 76 (aK.cells (⟨x.kd,0,x.k,dk,none,0,[],x.dg⟩:aK)) c0 Hz) (Zu 1 0 (aK.cells (⟨x.kd,0,x.k,dk,none,0,[],x.dg⟩:aK)) c0 λe9 c1=>Lo (Ld (Lt (Le (Dz (Bu 1 c1 ?_)))))))))))))))))))
       have hr:dX x=(⟨x.kd,0,x.k,dk,none,0,[],x.dg⟩:aK):=by rw [dX,nI b,nI d,nI e,nI f,nI i,if_pos o]
       have c2:=c1.dr 3
       exact⟨(by first|rfl|(rw [hr];done)|(rw [hr];rfl)),(by first|exact c2|(rw [hr];exact c2))⟩
      ·have d2:=dH o
       refine Zk (Zm (Zt (Zs (bL [1] (du 0 0 0 76 (aK.cells (⟨x.kd,0,0,dk,none,0,[],aH⟩:aK)) a Hz) (Zu 1 0 (aK.cells (⟨x.kd,0,0,dk,none,0,[],aH⟩:aK)) a λf0 c3=>Lo (Ld (Lt (Le (Dz (Bu 1 c3 ?_))))))))))
       have hr:dX x=(⟨x.kd,0,0,dk,none,0,[],aH⟩:aK):=by rw [dX,nI b,nI d,nI e,nI f,nI i,nI o]
       have c4:=c3.dr 3
       exact⟨(by first|rfl|(rw [hr];done)|(rw [hr];rfl)),(by first|exact c4|(rw [hr];exact c4))⟩
theorem Cm (x:aK):(dX x).qa=x.qa/\(dX x).ql=x.ql\/(dX x).qa=none/\(dX x).ql=[]:=by
 unfold dX
 repeat' split
 all_goals first|exact .inr ⟨rfl,rfl⟩|exact .inl ⟨rfl,rfl⟩
theorem Ao {w:World}{x:aK}(h:ag w x.qa x.ql.length 2 (λk=>aT.cells (x.ql.getD k aR))):ag w (dX x).qa (dX x).ql.length 2 (λk=>aT.cells ((dX x).ql.getD k aR)):=by
 rcases Cm x with⟨a,b⟩|⟨a,b⟩
 ·rw [a,b];exact h
 ·rw [a,b];exact ag.nil _ _ _
theorem Ap {x:aK}{n:Nat}(h:x.ql.length<=n):(dX x).ql.length<=n:=by
 rcases Cm x with⟨b,a⟩|⟨b,a⟩
 ·rw [a];exact h
 ·rw [a];exact Nat.zero_le _
def gN (x:aK):Bool :=
 if fR (dX x) x=false then false else if x.vw >= 1073741824 then false
 else if x.kd=1 then eV x.rq else if x.kd=2 then decide (x.k >= 1) && decide (x.k<=4611686018427387904)
 else if x.kd=6 then decide (x.k >= 1) && decide (x.k<=4611686018427387904) else if x.kd=3 then decide (x.vw >= 1) else if x.kd=5 then decide (x.vw >= 1)
 else if x.kd=4 then eZ 0 x.ql && (decide (x.vw >= 1) && decide ((x.ql.length:Int) >= 1)) else false
theorem Aq {rp nm was prev:Int}{k:Nat}(h1:k=0->was=0) (h2:0<k->1<=was/\was=prev):(((((decide (rp<1)) || (decide (rp>11))) || ((decide ((k:Int)>0)) && (decide (rp<=prev)))) || (decide (nm<1))) || (decide (nm>65536)))=decide (rp<=was\/rp>11\/nm<1\/nm>65536):=by
 rw [Bool.eq_iff_iff]
 simp only [Bool.or_eq_true,Bool.and_eq_true,decide_eq_true_eq]
 by_cases hk:k=0
 ·have:=h1 hk;omega
 ·have:=h2 za;omega
theorem ve x (hx:eI x) (hr:Rw w0 L aT.cells 2 aR x.qa x.ql) (hs:St w0 L w):Cs Tryz.prog 76 #[.agg (aK.cells x)] w λrv w'=>rv=.bool (gN x)/\St w0 L w':=by
 refine bp Tryz.func76 Tryz.ntmps76 (Zs ?_)
 have hqn:=hx.qn
 refine Zg [0] (kR (aK.cells x) hs λf w2 d2=>Lz (Ls (Ls (Dz (ZD (jX [0,2] (.ef 1 (.ef 3 (jX [4,5,6,7,8,9] .done)))) d2 λw4 c0 g8=>Zj (du 0 0 0 76 (aK.cells x) c0 (du 2 0 0 76 (aK.cells x) c0 Hz)) (sv (An x c0) λw9 c6=>⟨bw (n:=[.prop (Array.size (aK.cells x)=76),.cells ⟨f,0,none⟩ (aK.cells x)]) zk (aB zk (dq (c6.cells 0 0 rfl zk) av)),(sv (oe (dX x) x (Ap hx.qn) (λw h=>Ao (hr _ (h.drop 1))) (λw h=>hr _ (h.drop 1)) c6) λd3 e=>Lo (Dz (Zr 4 2 [] (gC 10 (!(fR (dX x) x)) (λb=>?_) (λb=>?_)))))⟩))))))
 ·have d:=kL b
  exact En (aL (Lt (LT (Lq (Le (Ly (Dz (bg (v:=.bool false) ⟨(by unfold gN;rw [if_pos (by simpa using b)]),e.dr 1⟩))))))))
 ·have d:=km b
  refine gY (Hl 7 0 1 e Hz) (Zt (Zi ((x.vw:Int) >= 1073741824) (λa0=>?_) (λa0=>?_)))
  ·exact En (Lq (Le (Ly (Dz (bg (v:=.bool false) ⟨(by unfold gN;rw [if_neg (by simpa using b),if_pos a0]),e.dr 1⟩)))))
  ·refine Zk (Zt (Zs (Zs (bj (Hl 1 0 0 e Hz) (En (Lt (Lb (Lq (Dz (cS (t:=(x.kd:Int) == 1) (λc1=>?_) (λc1=>?_)))))))))))
   ·exact Zs (bL [2] (du 1 0 3 40 (dM.cells x.rq) e Hz) (sv (sO x.rq e) λh1 d6=>Lz (Le (Ll (Ly (Dz (bg (v:=.bool (nX x.rq)) ⟨(by unfold gN;rw [if_neg (by simpa using b),if_neg a0,if_pos (dt c1)];rw [xW]),d6.dr 1⟩)))))))
   ·have a4:=dH c1
    refine En (Ls (Lq (Dz (cS (t:=(x.kd:Int) == 2) (λb7=>?_) (λb7=>?_)))))
    ·refine Zk (Zt (cS (t:=(x.kd:Int) == 2) (λ_=>Zs (aE.join (T:=Unit) (E:=λ_=>[(2,.bool ((decide ((x.k:Int) >= 1)) && (decide ((x.k:Int)<=4611686018427387904))))]) (F:=λ_ w=>St w0 (ah f (aK.cells x) 39::L) w) ?_ ?_)) (λhc=>absurd (b7.symm.trans hc) zf)))
     ·refine Zg [] (gZ 0 4 (Hl 1 0 2 e Hz) (gC 28 (decide ((x.k:Int) >= 1)) (λb2=>?_) (λb2=>?_)))
      ·exact gY (Hl 5 0 2 e Hz) (jF [2] () (decide ((x.k:Int)<=4611686018427387904)) (by first|rfl|simp [Hb,b,d,b2]) e)
      ·exact En (aL (Dz (jF [2] () false (by first|rfl|simp [Hb,b,d,b2]) e)))
     intro _ h2 d9
     exact Zt (Ze (Zl (Zy (bg (v:=.bool ((decide ((x.k:Int) >= 1)) && (decide ((x.k:Int)<=4611686018427387904)))) ⟨(by unfold gN;rw [if_neg (by simpa using b),if_neg a0,if_neg a4,if_pos (dt b7)]),d9.dr 1⟩))))
    ·have a6:=dH b7
     refine Za (Zt (cS (t:=(x.kd:Int) == 6) (λc2=>?_) (λc2=>?_)))
     ·refine Zs (aE.join (T:=Unit) (E:=λ_=>[(2,.bool ((decide ((x.k:Int) >= 1)) && (decide ((x.k:Int)<=4611686018427387904))))]) (F:=λ_ w=>St w0 (ah f (aK.cells x) 39::L) w) ?_ ?_)
      ·refine Zg [] (gZ 0 4 (Hl 1 0 2 e Hz) (gC 28 (decide ((x.k:Int) >= 1)) (λb3=>?_) (λb3=>?_)))
       ·exact gY (Hl 5 0 2 e Hz) (jF [2] () (decide ((x.k:Int)<=4611686018427387904)) (by first|rfl|simp [Hb,b,d,b3]) e)
       ·exact En (aL (Dz (jF [2] () false (by first|rfl|simp [Hb,b,d,b3]) e)))
      intro _ h3 e2
      exact Zt (Ze (Zl (Zy (bg (v:=.bool ((decide ((x.k:Int) >= 1)) && (decide ((x.k:Int)<=4611686018427387904)))) ⟨(by unfold gN;rw [if_neg (by simpa using b),if_neg a0,if_neg a4,if_neg a6,if_pos (dt c2)]),e2.dr 1⟩))))
     ·have a7:=dH c2
      refine En (Ls (Lq (Dz (cS (t:=(x.kd:Int) == 3) (λb8=>?_) (λb8=>?_)))))
      ·exact Zk (Zt (cS (t:=(x.kd:Int) == 3) (λ_=>Zs (bj (Hl 1 0 1 e Hz) (Zt (Ze (Zl (Zy (bg (v:=.bool (decide ((x.vw:Int) >= 1))) ⟨(by unfold gN;rw [if_neg (by simpa using b),if_neg a0,if_neg a4,if_neg a6,if_neg a7,if_pos (dt b8)]),e.dr 1⟩))))))) (λhc=>absurd (b8.symm.trans hc) zf)))
      ·have b0:=dH b8
       refine Za (Zt (cS (t:=(x.kd:Int) == 5) (λc3=>?_) (λc3=>?_)))
       ·exact Zs (bj (Hl 1 0 1 e Hz) (Zt (Ze (Zl (Zy (bg (v:=.bool (decide ((x.vw:Int) >= 1))) ⟨(by unfold gN;rw [if_neg (by simpa using b),if_neg a0,if_neg a4,if_neg a6,if_neg a7,if_neg b0,if_pos (dt c3)]),e.dr 1⟩))))))
       ·have b4:=dH c3
        refine En (Lq (Dz (cS (t:=(x.kd:Int) == 4) (λc4=>?_) (λc4=>?_))))
        ·have b9:=dt c4
         refine En (Ls (Lq (Lb (Dz ?_))))
         obtain⟨c7,c8⟩:∃ a,a=x.qa:=⟨_,rfl⟩
         have e6:St w0 (ah f (aK.cells (⟨x.kd,x.vw,x.k,x.rq,c7,x.qc,x.ql,x.dg⟩:aK)) 39::L) d3:=(by rw [c8];exact e)
         refine aE.loop (T:=Nat×Int×(Option Addr)) (λgg=>[(1,zP f 0),(3,.int .i64 (gg.1:Nat))]) (λgg w=>(gg.1<=x.ql.length/\eZ 0 x.ql=eZ gg.2.1 (x.ql.drop gg.1)/\(gg.1=0->gg.2.1=0)/\(0<gg.1->1<=gg.2.1/\gg.2.1=(x.ql.getD (Int.toNat ((gg.1:Nat)-1)) aR).rp)/\∀ w,St w0 L w->ag w gg.2.2 x.ql.length 2 (λq=>aT.cells (x.ql.getD q aR)))/\St w0 (ah f (aK.cells (⟨x.kd,x.vw,x.k,x.rq,gg.2.2,x.qc,x.ql,x.dg⟩:aK)) 39::L) w) (λgg=>x.ql.length-gg.1) (0,0,c7) [1,3] zk ⟨⟨Nat.zero_le _,rfl,λ_=>rfl,λh9=>absurd h9 (Nat.lt_irrefl 0),by rw [c8];exact hr⟩,e6⟩ ?_
         rintro⟨k,was,aq⟩ h4 ⟨hp,a1⟩
         dsimp only at hp a1
         have hw:=hp.2.2.2.2
         refine Zs (Zs (bj (Hl 2 0 43 a1 Hz) (Zt (Zi ((k:Int)<(x.ql.length:Nat)) (λe7=>?_) (λe7=>?_)))))
         ·have hk:k<x.ql.length:=za
          obtain⟨a2,a3,rfl⟩:=ag.isSome (hw _ (a1.drop 1)) za
          refine Zk (Zt (Zs (Zb (Zs (bL [5,6] (Hl 1 0 43 a1 (Hx 3 (k:Int) (x.ql.length:Int) a2 a3 2 (Hg 4 (.agg (aT.cells (x.ql.getD k aR))) [.prop (Array.size (aT.cells (x.ql.getD k aR))=2),.cells ⟨a2,a3+(k*2),none⟩ (aT.cells (x.ql.getD k aR))] (aB zk (dq (ag.lO (hw _ (a1.drop 1)) zd (Nat.le_of_ble_eq_true zk) zk) av)) Hz))) (oX (aT.cells aR) a1 λc9 h5 e8=>Lo (Dz (Zu 0 0 (aT.cells (x.ql.getD k aR)) e8 λh6 e9=>Lo (Ld (Lt (Ls (Dz (aE.join (T:=Unit) (E:=λ_=>[(86,.bool (((((decide (((x.ql.getD k aR).rp:Int)<1)) || (decide (((x.ql.getD k aR).rp:Int)>11))) || ((decide ((k:Int)>0)) && (decide (((x.ql.getD k aR).rp:Int)<=((x.ql.getD (Int.toNat ((k:Nat)-1)) aR).rp))))) || (decide (((x.ql.getD k aR).nm:Int)<1))) || (decide (((x.ql.getD k aR).nm:Int)>65536)))),(1,zP f 0),(3,.int .i64 (k:Nat))]) (F:=λ_ w=>St w0 (ah c9 (aT.cells (x.ql.getD k aR)) 81::ah f (aK.cells (⟨x.kd,x.vw,x.k,x.rq,some ⟨a2,a3,none⟩,x.qc,x.ql,x.dg⟩:aK)) 39::L) w) ?_ ?_)))))))))))))
          ·refine ZD (jX [0,1,2,3,4,5,6,7,8,9,10,11,12,13,14,15,16,17,18,19,20,21,22,23,24,25,26,27,28,29,30,31,32,33] .done) e9 λh7 o h8=>gZ 0 4 (Hl 1 0 0 o Hz) (gC 56 (decide (((x.ql.getD k aR).rp:Int)<1)) (λi=>?_) (λi=>?_))
           ·have f0:=of_decide_eq_true i
            exact En (aL (Dz (aw.pick [86,1,3] (S':=[(86,.bool true),(1,zP f 0),(3,.int .i64 (k:Nat))]) zk (aw.bD () (by first|rfl|(simp only [b,d,i,Bool.not_true,Bool.not_false,Bool.true_or,Bool.false_or,Bool.true_and,Bool.false_and,Bool.or_true,Bool.or_false,Bool.and_true,Bool.and_false];done)|(simp [b,d,i];done)) o))))
           ·have f0:=of_decide_eq_false i
            refine gZ 4 5 (Hl 5 0 0 o Hz) (gC 61 (decide (((x.ql.getD k aR).rp:Int)>11)) (λu=>?_) (λu=>?_))
            ·have f1:=of_decide_eq_true u
             exact En (aL (Dz (aw.pick [86,1,3] (S':=[(86,.bool true),(1,zP f 0),(3,.int .i64 (k:Nat))]) zk (aw.bD () (by first|rfl|(simp only [b,d,i,u,Bool.not_true,Bool.not_false,Bool.true_or,Bool.false_or,Bool.true_and,Bool.false_and,Bool.or_true,Bool.or_false,Bool.and_true,Bool.and_false];done)|(simp [b,d,i,u];done)) o))))
            ·have f1:=of_decide_eq_false u
             refine Zr 9 3 [] (gC 64 (decide ((k:Int)>0)) (λz=>?_) (λz=>?_))
             ·have f2:=of_decide_eq_true z
              refine Zp 12 13 [(13,.gen [.int .i64 ((x.ql.getD k aR).rp)]),(15,.gen [zL a2 a3 x.ql.length x.qc]),(17,.cI (.int .i64 ((k:Nat)-1)) (.gen [])),(18,.cI (zP a2 (a3+((Int.toNat ((k:Nat)-1))*2))) .at_),(20,.gen [.int .i64 ((x.ql.getD (Int.toNat ((k:Nat)-1)) aR).rp)])] [(13,[.cell ⟨c9,0,none⟩ (.int .i64 ((x.ql.getD k aR).rp))]),(15,[.cell ⟨f,43,none⟩ (zL a2 a3 x.ql.length x.qc)]),(17,[.prop (Value.int .i64 (IntKind.i64.wrap ((k:Nat)-1))=Value.int .i64 ((k:Nat)-1))]),(18,[.prop (0<=(((k:Nat)-1):Int)/\(((k:Nat)-1):Int)<(x.ql.length:Int)),.prop (Value.pointer (some (Addr.add ⟨a2,a3,none⟩ (Int.toNat ((k:Nat)-1)*2)))=Value.pointer (some ⟨a2,a3+((Int.toNat ((k:Nat)-1))*2),none⟩))]),(20,[.cell ⟨a2,a3+((Int.toNat ((k:Nat)-1))*2),none⟩ (.int .i64 ((x.ql.getD (Int.toNat ((k:Nat)-1)) aR).rp))])] (ak (aG (o.cell 0 rfl zk) av) (ak (aG (o.cell 1 rfl zk) av) (ak (aB (dD za za) av) (ak (aB za (aB (aS _ _ _) av)) (ak (aG (ag.cC (hw _ (o.drop 2)) (k:=Int.toNat ((k:Nat)-1)) zd (j:=0) zf zk) av) cW))))) (gC 77 (decide (((x.ql.getD k aR).rp:Int)<=((x.ql.getD (Int.toNat ((k:Nat)-1)) aR).rp))) (λa5=>?_) (λa5=>?_))
              ·exact En (aL (Dz (aw.pick [86,1,3] (S':=[(86,.bool true),(1,zP f 0),(3,.int .i64 (k:Nat))]) zk (aw.bD () (by first|rfl|(simp only [b,d,i,u,z,a5,Bool.not_true,Bool.not_false,Bool.true_or,Bool.false_or,Bool.true_and,Bool.false_and,Bool.or_true,Bool.or_false,Bool.and_true,Bool.and_false];done)|(simp [b,d,i,u,z,a5];done)) o))))
              ·refine gZ 25 5 (Hl 26 0 1 o Hz) (gC 82 (decide (((x.ql.getD k aR).nm:Int)<1)) (λa8=>?_) (λa8=>?_))
               ·exact En (aL (Dz (aw.pick [86,1,3] (S':=[(86,.bool true),(1,zP f 0),(3,.int .i64 (k:Nat))]) zk (aw.bD () (by first|rfl|(simp only [b,d,i,u,z,a5,a8,Bool.not_true,Bool.not_false,Bool.true_or,Bool.false_or,Bool.true_and,Bool.false_and,Bool.or_true,Bool.or_false,Bool.and_true,Bool.and_false];done)|(simp [b,d,i,u,z,a5,a8];done)) o))))
               ·exact gY (Hl 31 0 1 o Hz) (aw.pick [86,1,3] (S':=[(86,.bool (decide (((x.ql.getD k aR).nm:Int)>65536))),(1,zP f 0),(3,.int .i64 (k:Nat))]) zk (aw.bD () (by first|rfl|(simp only [b,d,i,u,z,a5,a8,Bool.not_true,Bool.not_false,Bool.true_or,Bool.false_or,Bool.true_and,Bool.false_and,Bool.or_true,Bool.or_false,Bool.and_true,Bool.and_false];done)|(simp [b,d,i,u,z,a5,a8];done)) o))
             ·refine gZ 12 18 (Hl 26 0 1 o Hz) (gC 82 (decide (((x.ql.getD k aR).nm:Int)<1)) (λa9=>?_) (λa9=>?_))
              ·exact En (aL (Dz (aw.pick [86,1,3] (S':=[(86,.bool true),(1,zP f 0),(3,.int .i64 (k:Nat))]) zk (aw.bD () (by first|rfl|(simp only [b,d,i,u,z,a9,Bool.not_true,Bool.not_false,Bool.true_or,Bool.false_or,Bool.true_and,Bool.false_and,Bool.or_true,Bool.or_false,Bool.and_true,Bool.and_false];done)|(simp [b,d,i,u,z,a9];done)) o))))
              ·exact gY (Hl 31 0 1 o Hz) (aw.pick [86,1,3] (S':=[(86,.bool (decide (((x.ql.getD k aR).nm:Int)>65536))),(1,zP f 0),(3,.int .i64 (k:Nat))]) zk (aw.bD () (by first|rfl|(simp only [b,d,i,u,z,a9,Bool.not_true,Bool.not_false,Bool.true_or,Bool.false_or,Bool.true_and,Bool.false_and,Bool.or_true,Bool.or_false,Bool.and_true,Bool.and_false];done)|(simp [b,d,i,u,z,a9];done)) o))
          intro _ i0 d0
          refine Zt (cS (t:=((((decide (((x.ql.getD k aR).rp:Int)<1)) || (decide (((x.ql.getD k aR).rp:Int)>11))) || ((decide ((k:Int)>0)) && (decide (((x.ql.getD k aR).rp:Int)<=((x.ql.getD (Int.toNat ((k:Nat)-1)) aR).rp))))) || (decide (((x.ql.getD k aR).nm:Int)<1))) || (decide (((x.ql.getD k aR).nm:Int)>65536))) (λb5=>?_) (λb5=>?_))
          ·exact En (Lq (Le (Ll (Ly (uk (Ll (Ly (Ll (Ly (Dz (bg (v:=.bool false) ⟨(by unfold gN;rw [if_neg (by simpa using b),if_neg a0,if_neg a4,if_neg a6,if_neg a7,if_neg b0,if_neg b4,if_pos b9];rw [hp.2.1,kV hk,if_pos (of_decide_eq_true ((Aq hp.2.2.1 hp.2.2.2.1).symm.trans b5))];rfl),d0.dr 2⟩)))))))))))
          ·have d1:=(Bool.or_eq_false_iff.1 b5).1
           have h60aa:=(Bool.or_eq_false_iff.1 d1).1
           have h60aaa:=(Bool.or_eq_false_iff.1 h60aa).1
           have h60aaaa:=(Bool.or_eq_false_iff.1 h60aaa).1
           have h60aaaa':=of_decide_eq_false h60aaaa
           have h60aaab:=(Bool.or_eq_false_iff.1 h60aaa).2
           have h60aaab':=of_decide_eq_false h60aaab
           have h60ab:(decide (((x.ql.getD k aR).nm:Int)<1))=false:=(Bool.or_eq_false_iff.1 d1).2
           have h60ab':=of_decide_eq_false h60ab
           have f7:=(Bool.or_eq_false_iff.1 b5).2
           exact Zk (Zm (Zt (bj (cH 1 ((k:Nat)+1) Hz) (aw.back (k+1,(x.ql.getD k aR).rp,some ⟨a2,a3,none⟩) [1,3] zk (by show x.ql.length-(k+1)<x.ql.length-k;omega) ⟨⟨za,by rw [hp.2.1,kV hk,if_neg (of_decide_eq_false ((Aq hp.2.2.1 hp.2.2.2.1).symm.trans b5))],λh9=>by omega,λh9=>⟨by show 1<=(x.ql.getD k aR).rp;omega,by rw [show Int.toNat (((k+1:Nat):Int)-1)=k from by omega]⟩,hw⟩,d0.dr 1⟩))))
         ·have hke:x.ql.drop k=[]:=List.drop_of_length_le za
          refine Zx (aw.da (aw.dc (aw.jR (Zt (Zs (aE.join (T:=Unit) (E:=λ_=>[(2,.bool ((decide ((x.vw:Int) >= 1)) && (decide ((x.ql.length:Int) >= 1))))]) (F:=λ_ w=>St w0 (ah f (aK.cells (⟨x.kd,x.vw,x.k,x.rq,aq,x.qc,x.ql,x.dg⟩:aK)) 39::L) w) ?_ ?_))))))
          ·refine Zg [] (gZ 0 4 (Hl 1 0 1 a1 Hz) (gC 90 (decide ((x.vw:Int) >= 1)) (λb6=>?_) (λb6=>?_)))
           ·exact gY (Hl 5 0 43 a1 Hz) (jF [2] () (decide ((x.ql.length:Int) >= 1)) (by first|rfl|simp [Hb,b,d,b6]) a1)
           ·exact En (aL (Dz (jF [2] () false (by first|rfl|simp [Hb,b,d,b6]) a1)))
          intro _ i2 g0
          exact Zt (Ze (Zl (Zy (bg (v:=.bool ((decide ((x.vw:Int) >= 1)) && (decide ((x.ql.length:Int) >= 1)))) ⟨(by unfold gN;rw [if_neg (by simpa using b),if_neg a0,if_neg a4,if_neg a6,if_neg a7,if_neg b0,if_neg b4,if_pos b9];rw [hp.2.1,hke];rfl),g0.dr 1⟩))))
        ·exact En (Lk (Lm (Lt (Lq (Le (Dz (bg (v:=.bool false) ⟨(by unfold gN;rw [if_neg (by simpa using b),if_neg a0,if_neg a4,if_neg a6,if_neg a7,if_neg b0,if_neg b4,if_neg (dH c4)]),e.dr 1⟩)))))))
end
theorem kh {c x:Bool}(h:(if c=true then x else false)=true):c=true/\x=true:=by
 cases c with
 | true=>exact⟨rfl,h⟩
 | false=>cases h
theorem sS {m:an}(h:cZ m=true):(fI m).length<=740:=by
 have:=eK h
 rw [show fI m=_ from if_pos h]
 simp only [List.length_append,List.length_nil,aP,aO.len]
 omega
theorem lV {n:Nat}{l e:List Int}(h:l.length=n):tk n (l++e,false)=(l,(e,false)):=by
 rw [pX rfl (by rw [List.length_append];omega),List.take_left' h,List.drop_left' h]
theorem dW {n:Int}{e:List Int}(h:0<=n/\n<18446744073709551616):dN (wd n++e,false)=(n,(e,false)):=by
 unfold dN xS
 rw [lV (aP n),Bz h]
theorem gP {n:Int}{e:List Int}(h:0<=n/\n<256):dw (n::e,false)=(n,(e,false)):=by
 unfold dw
 rw [show n::e=[n]++e from rfl,lV (n:=1) (l:=[n]) rfl,Ae h,sH h]
theorem sT {n:Nat}{e:List Int}(h:n<65536):kc (hf (n:Nat)++e,false)=(n,(e,false)):=by
 unfold kc
 rw [lV (aY _),BB ⟨za,za⟩,CL ⟨za,za⟩,Int.toNat_natCast]
theorem oh (s:ByteArray):(bF s).length=s.size:=by
 have h:=jH s
 unfold tx at h
 rw [List.length_append,aY] at h
 omega
theorem kZ {most:Int}{s:ByteArray}{e:List Int}(h:(s.size:Int)<=most) (h2:s.size<65536):ke most (tx s++e,false)=(s,(e,false)):=by
 unfold tx
 rw [List.append_assoc]
 rw [sJ (sT h2) h (by rw [List.length_append,oh];omega),List.take_left' (oh s),List.drop_left' (oh s),uJ]
theorem om {d:aO}{e:List Int}:kg (d.toList++e,false)=(d,(e,false)):=by
 unfold kg
 rw [lV (aO.len d),jh]
theorem lW {f:List Int}(hf:∀ x∈f,0<=x/\x<=18446744073709551615) (e:List Int):∀ k,k<=f.length->wU (f.flatMap wd++e,false) k=((f.drop k).flatMap wd++e,false)
 | 0,_=>rfl
 | k+1,h=>by
  show(dN (wU _ k)).2=_
  have hx:=hf _ (List.getElem_mem (show k<f.length by omega))
  rw [lW hf e k za,List.drop_eq_getElem_cons za,List.flatMap_cons,List.append_assoc,dW ⟨hx.1,za⟩]
theorem yf {f:List Int}(hf:∀ x∈f,0<=x/\x<=18446744073709551615) (e:List Int){k:Nat}(h:k<f.length):iw (f.flatMap wd++e,false) k=f[k]:=by
 have hx:=hf _ (List.getElem_mem h)
 unfold iw
 rw [lW hf e k za,List.drop_eq_getElem_cons h,List.flatMap_cons,List.append_assoc,dW ⟨hx.1,za⟩]
theorem BI {v:aD}(hv:∀ x∈v.toList,0<=x/\x<=18446744073709551615) (e:List Int):gV (iw (v.toList.flatMap wd++e,false)) 11=v:=by
 apply Vector.ext
 intro i hi
 unfold gV
 rw [Vector.getElem_ofFn]
 simp only [hi,if_true]
 rw [yf hv e (by rw [aD.len];exact hi),Vector.getElem_toList]
theorem zT {p:Prop}(h:p:=by rw [aD.len];omega):p:=h
theorem BJ {v:aD}(hv:∀ x∈v.toList,0<=x/\x<=18446744073709551615) (e:List Int):wU (v.toList.flatMap wd++e,false) 11=(e,false):=by
 rw [lW hv e 11 zT,List.drop_of_length_le zT]
 rfl
theorem CW {r:dM}{e:List Int}(h:eV r=true) (hr:sM r):Dy (qb r++(r.tg.toList++e),false)=(r,(e,false)):=by
 have a:=hr.kd
 have b:=hr.am
 unfold eV at h
 simp only [Bool.and_eq_true,decide_eq_true_eq] at h
 obtain⟨⟨⟨⟨⟨d,f⟩,i⟩,o⟩,q⟩,u⟩:=h
 unfold Dy qb
 have ec:IntKind.u8.wrap r.cl=r.cl:=sH za
 simp only [List.append_assoc,List.cons_append,List.nil_append,ec]
 rw [gP za]
 simp only []
 rw [gP za]
 simp only []
 rw [dW za]
 simp only []
 rw [dW za]
 simp only []
 rw [kZ za za]
 simp only []
 rw [kZ za za]
 simp only []
 rw [kZ za za]
 simp only []
 rw [kZ za za]
 simp only []
 rw [om]
theorem wX (e:List Int):∀ (l q:List aT),(∀ p∈l,(0<=p.rp/\p.rp<256)/\(0<=p.nm/\p.nm<18446744073709551616))->po l.length (l.flatMap iA++e,false) q=(q++l,(e,false))
 | [],q,_=>by rw [List.append_nil];rfl
 | p::l,q,h=>by
  obtain⟨h1,h2⟩:=h p (List.mem_cons_self ..)
  rw [List.length_cons,List.flatMap_cons]
  rw [show iA p=p.rp::wd p.nm from by unfold iA;rw [sH h1];rfl,List.cons_append,List.cons_append,List.append_assoc]
  rw [lT rfl (gP h1) (dW h2),wX e l _ λx hx=>h x (List.mem_cons_of_mem _ hx),List.append_assoc]
  rfl
theorem sU:∀ (l:List aT) (was:Int),0<=was->eZ was l=true->∀ p∈l,(0<=p.rp/\p.rp<256)/\(0<=p.nm/\p.nm<18446744073709551616)
 | [],_,_,_,p,hp=>by cases hp
 | a::l,was,hw,h,p,hp=>by
  unfold eZ at h
  split at h
  ·cases h
  ·rcases List.mem_cons.1 hp with rfl|hp
   ·exact⟨za,za⟩
   ·exact sU l a.rp za h p hp
theorem oo {x:aK}(hk:1<=x.kd/\x.kd<=6) (hx:eI x) (hm:eo x=true) (hq:x.ql.length<=11):eJ x.kd (iL x,false)=(ij (dX x),([],false)):=by
 have o:=hx.vw
 have q:=hx.k
 unfold eJ iL
 by_cases a:x.kd=1
 ·rw [if_pos a,if_pos a,show dX x=⟨x.kd,x.vw,0,x.rq,none,0,[],aH⟩ from by simp [dX,a]]
  unfold eo at hm
  rw [if_pos a] at hm
  have e:=CW (e:=[]) hm hx.rq
  rw [List.append_nil] at e
  unfold g1 y6
  simp only []
  rw [dW za]
  simp only []
  rw [e,a]
  rfl
 rw [if_neg a,if_neg a]
 by_cases f:x.kd=2
 ·rw [if_pos f,if_pos f,show dX x=⟨x.kd,x.vw,x.k,dk,none,0,[],aH⟩ from by simp [dX,f]]
  unfold g2 qd
  simp only []
  have e:=dW (n:=x.k) (e:=[]) za
  rw [List.append_nil] at e
  rw [dW za]
  simp only []
  rw [e,f]
  rfl
 rw [if_neg f,if_neg f]
 by_cases b:x.kd=4
 ·rw [if_pos b,if_pos b,show dX x=⟨x.kd,x.vw,0,dk,x.qa,x.qc,x.ql,aH⟩ from by simp [dX,b]]
  unfold eo at hm
  rw [if_neg a,if_neg za,if_pos b,Bool.and_eq_true] at hm
  unfold jk at hm
  rw [Bool.and_eq_true] at hm
  unfold g4 xX
  simp only []
  rw [dW za]
  simp only []
  rw [sH za,List.cons_append,List.nil_append,gP za]
  simp only [Int.toNat_natCast]
  have e:=wX [] x.ql [] (sU x.ql 0 za hm.2.1)
  rw [List.append_nil] at e
  rw [e,b]
  rfl
 rw [if_neg b,if_neg b]
 by_cases i:x.kd=6
 ·rw [if_pos i,if_pos i,show dX x=⟨x.kd,0,x.k,dk,none,0,[],x.dg⟩ from by simp [dX,i]]
  unfold g6 y7
  simp only []
  have e:=om (d:=x.dg) (e:=[])
  rw [List.append_nil] at e
  rw [dW za]
  simp only []
  rw [e,i]
  rfl
 ·rw [if_neg i,if_neg i,show dX x=⟨x.kd,x.vw,0,dk,none,0,[],aH⟩ from by rcases(by omega:x.kd=3\/x.kd=5) with c|c<;>simp [dX,c]]
  unfold g3
  simp only []
  have e:=dW (n:=x.vw) (e:=[]) za
  rw [List.append_nil] at e
  rw [e]
  rfl
theorem Ar {x:aK}(hk:1<=x.kd/\x.kd<=6) (hx:eI x) (hm:eo x=true) (hq:x.ql.length<=11):(eJ x.kd (iL x,false)).2=([],false):=by rw [oo hk hx hm hq]
theorem As (kd:Int) (s:CS):ij (eJ kd s).1=(eJ kd s).1:=by
 unfold eJ
 repeat' split
 all_goals rfl
theorem At {x y:aK}(h:iv x y=true):ij x=ij y:=by
 unfold iv at h
 obtain⟨a,h⟩:=kh h
 obtain⟨b,h⟩:=kh h
 obtain⟨d,h⟩:=kh h
 obtain⟨e,h⟩:=kh h
 obtain⟨f,h⟩:=kh h
 simp only [beq_iff_eq,decide_eq_true_eq] at a b d e f h
 unfold ij
 rw [a,b,d,e,f,h]
theorem sV {x:aK}(h:fx x=true) (hx:eI x):eJ x.kd (iL x,false)=(ij x,([],false)):=by
 obtain⟨hk,hm,hq⟩:=fJ h
 unfold fx at h
 rw [if_pos hk] at h
 split at h
 ·cases h
 split at h
 ·cases h
 split at h
 ·cases h
 have a:=At h
 rw [As] at a
 exact Prod.ext a.symm (Ar hk hx hm hq)
theorem gQ {m:an}(h:cZ m=true):(1<=m.og/\m.og<=11)/\(1<=m.nr/\m.nr<=65536):=by
 unfold cZ at h
 split at h
 ·cases h
 rename_i a
 unfold sQ at a
 simp only [Bool.or_eq_true,decide_eq_true_eq,not_or] at a
 omega
theorem vf {m:an}(h:cZ m=true):gj m=m.og::(m.dp.toList.flatMap wd++(m.bd.kd::iL m.bd)):=by
 have a:=gQ h
 unfold gj fj
 rw [sH za,List.take_of_length_le zT]
 simp only [List.append_assoc,List.cons_append,List.nil_append]
theorem yg {m:an}(h:cZ m=true) (hm:fa m):getM (fI m)=(sR m,0):=by
 have hl:=eK h
 obtain⟨w,x⟩:=gQ h
 have hb:=gD h
 obtain⟨hk,hmb,hq⟩:=fJ hb
 have a:fI m=wd m.nr++(gj m++m.tg.toList):=by
  unfold fI
  rw [if_pos h,List.nil_append,List.append_assoc]
 have el:(fI m).length=8+((gj m).length+32):=by rw [a,List.length_append,List.length_append,aP,aO.len]
 have b:dN (fI m,false)=(m.nr,(gj m++m.tg.toList,false)):=by rw [a];exact dW za
 have f:tk ((fI m).length-40) (gj m++m.tg.toList,false)=(gj m,(m.tg.toList,false)):=lV za
 have i:kg (m.tg.toList,false)=(m.tg,([],false)):=by
  have e:=om (d:=m.tg) (e:=[])
  rw [List.append_nil] at e
  exact e
 rw [wW za b f i]
 have o:dw (gj m,false)=(m.og,(m.dp.toList.flatMap wd++(m.bd.kd::iL m.bd),false)):=by rw [vf h];exact gP za
 have q:(gj m).getD 0 0=m.og:=by rw [vf h];rfl
 have u:dw (wU (m.dp.toList.flatMap wd++(m.bd.kd::iL m.bd),false) 11)=(m.bd.kd,(iL m.bd,false)):=by rw [BJ hm.dp];exact gP za
 rw [od o u hk q.symm (sV hb hm.bd),BI hm.dp]
 simp only []
 rw [if_neg zf,if_neg zf,if_pos ?_]
 ·rfl
 ·show gk (sR m)=_
  rw [BG]
  unfold gk
  rw [if_pos h]
theorem yh {x y:aK}(h:fR x y=true):ij x=ij y:=by
 unfold fR at h
 obtain⟨a,h⟩:=kh h
 obtain⟨b,h⟩:=kh h
 obtain⟨d,h⟩:=kh h
 obtain⟨e,h⟩:=kh h
 obtain⟨f,h⟩:=kh h
 simp only [beq_iff_eq,decide_eq_true_eq] at a b d e f h
 unfold ij
 rw [a,b,d,e,f,h]
theorem rl {x y:aK}(h:ij x=ij y):x.kd=y.kd/\x.vw=y.vw/\x.k=y.k/\x.rq=y.rq/\x.ql=y.ql/\x.dg=y.dg:=by
 unfold ij at h
 simp only [aK.mk.injEq] at h
 simp only [h,and_self]
theorem yi {x y:aK}(h:ij x=ij y):fR x y=true:=by
 obtain⟨a,b,d,e,f,i⟩:=rl h
 unfold fR
 simp [a,b,d,e,f,i]
theorem Au {x y:aK}(h:ij x=ij y):iv x y=true:=by
 obtain⟨a,b,d,e,f,i⟩:=rl h
 unfold iv
 simp [a,b,d,e,f,i]
theorem qh:∀ (l:List aT) (was:Int),was<=11->eZ was l=true->(l.length:Int)+was<=11
 | [],_,h,_=>by simpa using h
 | a::l,was,_,h=>by
  unfold eZ at h
  split at h
  ·cases h
  ·have:=qh l a.rp za h
   rw [List.length_cons]
   omega
theorem Av {x:aK}(hx:eI x):gN x=fx x:=by
 rw [Bool.eq_iff_iff]
 constructor
 ·intro h
  unfold gN at h
  split at h
  ·cases h
  rename_i z
  split at h
  ·cases h
  rename_i w
  have hc:=yh (by simpa using z)
  have key:(1<=x.kd/\x.kd<=6)->eo x=true->x.ql.length<=11->fx x=true:=λd a q=>by
   unfold fx
   rw [if_pos d,if_neg za,if_neg (by rw [a];decide),if_neg za,oo d hx a q]
   exact Au hc.symm
  have f:x.kd≠4->x.ql=[]:=λh4=>by
   have e:=(rl hc).2.2.2.2.1
   rw [<- e]
   unfold dX
   repeat' split
   all_goals first|rfl|(exfalso;simp_all)
  split at h
  ·rename_i c;exact key za (by unfold eo;rw [if_pos c];exact h) (by rw [f za];decide)
  rename_i b
  split at h
  ·rename_i c;exact key za (by unfold eo;rw [if_neg b,if_pos (.inl c)];exact h) (by rw [f za];decide)
  rename_i i
  split at h
  ·rename_i c;exact key za (by unfold eo;rw [if_neg b,if_pos (.inr c)];exact h) (by rw [f za];decide)
  rename_i o
  split at h
  ·rename_i c;exact key za (by unfold eo;rw [if_neg b,if_neg za,if_neg za];exact h) (by rw [f za];decide)
  rename_i c3
  split at h
  ·rename_i c;exact key za (by unfold eo;rw [if_neg b,if_neg za,if_neg za];exact h) (by rw [f za];decide)
  rename_i c5
  split at h
  ·rename_i c
   simp only [Bool.and_eq_true,decide_eq_true_eq] at h
   have hl:=qh x.ql 0 zf h.1
   refine key za ?_ za
   unfold eo jk
   rw [if_neg b,if_neg za,if_pos c]
   simp only [Bool.and_eq_true,decide_eq_true_eq]
   exact⟨h.2.1,h.1,za⟩
  ·cases h
 ·intro h
  obtain⟨d,a,q⟩:=fJ h
  have hb:=h
  unfold fx at h
  rw [if_pos d] at h
  split at h
  ·cases h
  rename_i w
  have hc:ij x=ij (dX x):=by
   have e:=sV hb hx
   rw [oo d hx a q] at e
   exact(Prod.mk.inj e).1.symm
  unfold gN
  rw [if_neg (by rw [yi hc.symm];decide),if_neg w]
  unfold eo at a
  by_cases b:x.kd=1
  ·rw [if_pos b] at a ⊢;exact a
  rw [if_neg b] at a ⊢
  by_cases i:x.kd=2
  ·rw [if_pos (.inl i)] at a;rw [if_pos i];exact a
  by_cases o:x.kd=6
  ·rw [if_pos (.inr o)] at a;rw [if_neg i,if_pos o];exact a
  rw [if_neg za] at a
  rw [if_neg i,if_neg o]
  by_cases u:x.kd=4
  ·rw [if_pos u] at a
   unfold jk at a
   simp only [Bool.and_eq_true,decide_eq_true_eq] at a
   rw [if_neg za,if_neg za,if_pos u]
   simp only [Bool.and_eq_true,decide_eq_true_eq]
   exact⟨a.2.1,a.1,za⟩
  ·rw [if_neg u] at a
   rcases(by omega:x.kd=3\/x.kd=5) with c|c
   ·rw [if_pos c];exact a
   ·rw [if_neg za,if_pos c];exact a
section
variable {w0 w : World} {L : List aI}
theorem BK {m:an}{k:Nat}(hk:k<11) (h:∀ z∈m.dp.toList.take k,z<=65536) (hx:m.dp.toList.getD k 0<=65536):∀ z∈m.dp.toList.take (k+1),z<=65536:=by
 rw [bh (d:=(0:Int)) (by rw [aD.len];exact hk)]
 intro z hz
 rcases List.mem_append.1 hz with hz|hz
 ·exact h z hz
 ·rw [List.mem_singleton.1 hz];exact hx
theorem qi m (hm:fa m) (hr:Rw w0 L aT.cells 2 aR m.bd.qa m.bd.ql) (hs:St w0 L w):Cs Tryz.prog 32 #[.agg (an.cells m)] w λrv w'=>rv=.bool (cZ m)/\St w0 L w':=by
 refine bp Tryz.func32 Tryz.ntmps32 (Zs ?_)
 have g1:=hm.og
 have g2:=hm.nr
 refine Zg [0] (kR (an.cells m) hs λb w2 a1=>Lz (Ls (Ls (Dz (aE.join (T:=Unit) (E:=λ_=>[(33,.bool (((((decide ((m.og:Int)<1)) || (decide ((m.og:Int)>11))) || (decide ((m.nr:Int)<1))) || (decide ((m.nr:Int)>65536))) || (((m.dp.toList.getD (Int.toNat (m.og-1)) 0):Int) != (m.nr-1)))),(2,.bool false),(1,zP b 0)]) (F:=λ_ w=>St w0 (ah b (an.cells m) 43::L) w) ?_ ?_)))))
 ·refine ZD (jX [0,1,2,3,4,5,6,7,8,9,10,11,12,13,14,15,16,17,18,19,20,21,22,23,24,25,26,27,28,29] .done) a1 λw4 a b4=>gZ 0 4 (Hl 1 0 0 a Hz) (gC 7 (decide ((m.og:Int)<1)) (λe=>?_) (λe=>?_))
  ·have a2:=of_decide_eq_true e
   exact En (aL (Dz (jF [33,2,1] () true (by first|rfl|simp [Hb,e]) a)))
  ·have a2:=of_decide_eq_false e
   refine gZ 4 5 (Hl 5 0 0 a Hz) (gC 12 (decide ((m.og:Int)>11)) (λi=>?_) (λi=>?_))
   ·have a3:=of_decide_eq_true i
    exact En (aL (Dz (jF [33,2,1] () true (by first|rfl|simp [Hb,e,i]) a)))
   ·have a3:=of_decide_eq_false i
    refine gZ 9 5 (Hl 10 0 1 a Hz) (gC 17 (decide ((m.nr:Int)<1)) (λf=>?_) (λf=>?_))
    ·have a4:=of_decide_eq_true f
     exact En (aL (Dz (jF [33,2,1] () true (by first|rfl|simp [Hb,e,i,f]) a)))
    ·have a4:=of_decide_eq_false f
     refine gZ 14 5 (Hl 15 0 1 a Hz) (gC 22 (decide ((m.nr:Int)>65536)) (λq=>?_) (λq=>?_))
     ·have a5:=of_decide_eq_true q
      exact En (aL (Dz (jF [33,2,1] () true (by first|rfl|simp [Hb,e,i,f,q]) a)))
     ·have a5:=of_decide_eq_false q
      exact gY (Hl 20 0 0 a (cH 21 (m.og-1) (Hx 23 ((m.og-1):Int) (11:Int) b 2 1 (Hg 24 (.gen [.int .u64 (m.dp.toList.getD (Int.toNat (m.og-1)) 0)]) [.cell ⟨b,2+((Int.toNat (m.og-1))*1),none⟩ (.int .u64 (m.dp.toList.getD (Int.toNat (m.og-1)) 0))] (aG (a.cell 0 rfl (aD.mW (off:=2) (d:=m.dp) zk za)) av) (Hl 26 0 1 a (qU 27 (m.nr-1) Hz)))))) (jF [33,2,1] () (((m.dp.toList.getD (Int.toNat (m.og-1)) 0):Int) != (m.nr-1)) (by first|rfl|simp [Hb,e,i,f,q]) a)
 intro _ b5 x
 refine Zt (cS (t:=((((decide ((m.og:Int)<1)) || (decide ((m.og:Int)>11))) || (decide ((m.nr:Int)<1))) || (decide ((m.nr:Int)>65536))) || (((m.dp.toList.getD (Int.toNat (m.og-1)) 0):Int) != (m.nr-1))) (λo=>?_) (λo=>?_))
 ·exact En (Lq (Le (Ly (Dz (bg (v:=.bool false) ⟨(by unfold cZ;rw [if_pos (show sQ m=true from o)]),x.dr 1⟩)))))
 ·have a0:=(Bool.or_eq_false_iff.1 o).1
  have h13aa:=(Bool.or_eq_false_iff.1 a0).1
  have h13aaa:=(Bool.or_eq_false_iff.1 h13aa).1
  have h13aaaa:=(Bool.or_eq_false_iff.1 h13aaa).1
  have h13aaab:(decide ((m.og:Int)>11))=false:=(Bool.or_eq_false_iff.1 h13aaa).2
  have h13aab:(decide ((m.nr:Int)<1))=false:=(Bool.or_eq_false_iff.1 h13aa).2
  have h13ab:(decide ((m.nr:Int)>65536))=false:=(Bool.or_eq_false_iff.1 a0).2
  have a7:(((m.dp.toList.getD (Int.toNat (m.og-1)) 0):Int) != (m.nr-1))=false:=(Bool.or_eq_false_iff.1 o).2
  refine En (Lk (Lt (Ls (Lq (Lb (Dz (aE.loop (T:=Nat) (λgg=>[(1,zP b 0),(3,.int .i64 (gg:Nat))]) (λgg w=>(gg<=11/\∀ z∈m.dp.toList.take gg,z<=65536)/\St w0 (ah b (an.cells m) 43::L) w) (λgg=>11-gg) 0 [1,3] zk ⟨⟨Nat.zero_le _,λz hz=>by cases hz⟩,x⟩ ?_)))))))
  rintro k b7 ⟨hp,u⟩
  refine En (Ls (Lq (Dz (Zi ((k:Int)<11) (λa8=>?_) (λa8=>?_)))))
  ·have hk:k<11:=za
   refine Zk (Zt (Zs (Zb (Zs (bj (Hx 2 (k:Int) (11:Int) b 2 1 (Hg 3 (.gen [.int .u64 (m.dp.toList.getD k 0)]) [.cell ⟨b,2+(k*1),none⟩ (.int .u64 (m.dp.toList.getD k 0))] (aG (u.cell 0 rfl (aD.mW (off:=2) (d:=m.dp) zk za)) av) Hz)) (Zt (Zi (((m.dp.toList.getD k 0):Int)>65536) (λa9=>?_) (λa9=>?_))))))))
   ·exact En (Lq (Le (Ll (Ly (uk (Ll (Ly (Dz (bg (v:=.bool false) ⟨(by unfold cZ;rw [if_neg (ne_true_of_eq_false (show sQ m=false from o)),if_neg (λf=>by have:=f _ (eF (l:=m.dp.toList) (d:=(0:Int)) (by rw [aD.len];exact hk));omega)]),u.dr 1⟩)))))))))
   ·exact Zk (Zm (Zt (bj (cH 1 ((k:Nat)+1) Hz) (aw.back (k+1) [1,3] zk (by show 11-(k+1)<11-k;omega) ⟨⟨za,BK hk hp.2 za⟩,u⟩))))
  ·have hke:m.dp.toList.take k=m.dp.toList:=List.take_of_length_le zT
   exact Zx (aw.da (aw.dc (aw.jR (Zt (Zs (bL [2] (du 1 0 13 76 (aK.cells m.bd) u Hz) (sv (ve m.bd hm.bd (λw h=>hr _ (h.drop 1)) u) λb9 b2=>Lz (Le (Dz (bg (v:=.bool (gN m.bd)) ⟨(by unfold cZ;rw [if_neg (ne_true_of_eq_false (show sQ m=false from o)),if_pos (by rw [<- hke];exact hp.2),Av hm.bd]),b2.dr 1⟩))))))))))
theorem zj {p:Prop}(h:p:=by first|omega|(simp only [List.length_append,List.length_cons,List.length_nil,aP,aY,aO.len,fw] at *;omega)):p:=h
theorem sW m (hm:fa m) (hr:Rw w0 L aT.cells 2 aR m.bd.qa m.bd.ql) (hs:St w0 L w):Cs Tryz.prog 34 #[.agg (an.cells m)] w λrv w'=>∃ ao co,rv=.slice ao ((gk m).length) co/\St w0 (Sl ao co 5 1 af (gk m)::L) w':=by
 refine bp Tryz.func34 Tryz.ntmps34 (En (Ls (Lg [0] (Dz (kR (an.cells m) hs λo w2 c3=>Lz (Ls (Ls (Dz (bL [1] (du 0 0 0 121 (an.cells m) c3 Hz) (sv (qi m hm (λw h=>hr _ (h.drop 1)) c3) λw6 a8=>Lz (Dz (cS (t:=!(cZ m)) (λh7=>?_) (λh7=>?_)))))))))))))
 ·have a3:=kL h7
  refine En (Lq (Le (Ly (Dz (bg (v:=.slice none 0 0) ?_)))))
  have e3:=St.bW a8 5 1 af
  have e4:=(e3.pl 0).pl 1
  exact⟨none,0,by rw [(show gk m=[] from if_neg (by rw [a3];decide))];rfl,by rw [(show gk m=[] from if_neg (by rw [a3];decide))];exact(e4.dr 1)⟩
 ·have a3:=km h7
  have hb:cZ m=true:=a3
  have hin:=fJ (gD hb)
  have g1:=hm.bd.vw
  have g2:=hm.bd.k
  have g3:=hm.bd.kd
  refine Zk (Zt (Zs (bL [3] (Hl 1 0 0 a8 Hz) (sb aJ aj [(IntKind.u8.wrap m.og:Int)] a8 λc4 e6 e7=>Lz (Ls (Lq (Lb (Dz ?_))))))))
  have e8:St w0 (Sl (some ⟨c4,0,none⟩) 1 5 1 af (fj m 0)::ah o (an.cells m) 43::L) e6:=e7
  refine aE.loop (T:=Nat×(Option Addr)×Nat) (λgg=>[(1,zP o 0),(2,.slice none 0 0),(3,.slice gg.2.1 ((fj m gg.1).length) gg.2.2),(4,.int .i64 (gg.1:Nat))]) (λgg w=>(gg.1<=11)/\St w0 (Sl gg.2.1 gg.2.2 5 1 af (fj m gg.1)::ah o (an.cells m) 43::L) w) (λgg=>11-gg.1) (0,some ⟨c4,0,none⟩,1) [1,2,3,4] zk ⟨Nat.zero_le _,e8⟩ ?_
  rintro⟨k,ad,c⟩ k2 ⟨hp,x⟩
  dsimp only at hp x
  refine En (Ls (Lq (Dz (Zi ((k:Int)<11) (λe9=>?_) (λe9=>?_)))))
  ·have hk:k<11:=za
   have hkl:=fQ m k za
   refine Zk (Zt (Zs (Zb (bL [5] (Hx 3 (k:Int) (11:Int) o 2 1 (Hg 4 (.gen [.int .u64 (m.dp.toList.getD k 0)]) [.cell ⟨o,2+(k*1),none⟩ (.int .u64 (m.dp.toList.getD k 0))] (aG (x.cell 1 rfl (aD.mW (off:=2) (d:=m.dp) zk za)) av) Hz)) (Zc (eH (fj m k) (m.dp.toList.getD k 0) zj (hm.dp (m.dp.toList.getD k 0) (eF (d:=(0:Int)) (by rw [aD.len];exact hk))) x) ?_)))))
   rintro k3 f0 ⟨a4,a5,rfl,f1⟩
   refine Lo (aL (Lm (Lt (Dz (bj (cH 1 ((k:Nat)+1) Hz) ?_)))))
   have f2:St w0 (Sl a4 a5 5 1 af (fj m (k+1))::ah o (an.cells m) 43::L) f0:=(by rw [jl m hk];exact f1)
   exact aw.pick [4,3,1,2] (S':=[(4,.int .i64 ((k:Nat)+1)),(3,.slice a4 (((fj m k)++wd (m.dp.toList.getD k 0)).length) a5),(1,zP o 0),(2,.slice none 0 0)]) zk (aw.cq (S':=[(4,.int .i64 ((k:Nat)+1)),(3,.slice a4 ((fj m (k+1)).length) a5),(1,zP o 0),(2,.slice none 0 0)]) (by rw [jl m hk]) (aw.back (k+1,a4,a5) [1,2,3,4] zk (by show 11-(k+1)<11-k;omega) ⟨za,f2⟩))
  ·have hke:k=11:=za
   subst hke
   have hkl:=fQ m 11 za
   refine Zx (aw.da (aw.dc (aw.jR (Zt (Zs (bL [2,3] (du 1 1 13 76 (aK.cells m.bd) x Hz) (oX (aK.cells cU) x λb k4 f3=>Lo (Dz (Zu 0 0 (aK.cells m.bd) f3 λk5 c5=>Lo (Ld (Lt (Ls (Dz (bL [3,4] (Hl 2 0 0 c5 Hz) (sb aJ aj [(m.bd.kd:Int)] c5 λk6 k7 f4=>Lo (Dz (sd aJ aj (0:Int) (f4.pl 2) zj λk8 k9 l0 z=>Lz (Ls (Ls (Dz (bj (Hl 1 2 0 z Hz) (Zt (cS (t:=(m.bd.kd:Int) != 6) (λa0=>?_) (λa0=>?_))))))))))))))))))))))))
   ·have f6:=jb a0
    have h6:¬ m.bd.kd=6:=by simpa using a0
    refine bL [3] (Hl 2 2 1 z Hz) (Zc (eH ((fj m 11)++([(m.bd.kd:Int)])) m.bd.vw zj hm.bd.vw z) ?_)
    rintro l1 l2 ⟨c6,c7,rfl,u⟩
    refine Lz (Ls (Ls (Dz (bj (Hl 1 2 0 u Hz) (En (Lt (Lb (Lq (Dz (cS (t:=(m.bd.kd:Int) == 1) (λa9=>?_) (λa9=>?_)))))))))))
    ·have c8:=dt a9
     have c9:=hin.2.1
     rw [show eo m.bd=eV m.bd.rq from if_pos c8] at c9
     have hz:=lS c9
     have hrl:=kq hz
     refine ZD (jX [0,1,2,4,5,6] (.ef 3 (.ef 7 (.rd 8 .done)))) u λl3 d0 l4=>Zj (du 2 2 3 40 (dM.cells m.bd.rq) d0 (Hg 6 (.cI (zL b 11 m.bd.rq.tg.toList.length 32) (.sub 0 32)) [.prop (((none:Option Operand)=none->(0:Nat)=0)/\((none:Option Operand)=none->(32:Nat)=32)/\(0:Nat)<=32/\(32:Nat)<=32),.prop (Value.slice (some (if 32=0 then Addr.mk b 11 none else (Addr.mk b 11 none).add (0*1))) (32-0) (32-0)=Value.slice (some ⟨b,11,none⟩) m.bd.rq.tg.toList.length 32)] (aB ⟨(by first|(intro _;rfl)|(intro hc;cases hc)),(by first|(intro _;rfl)|(intro hc;cases hc)),za,za⟩ (aB (by rw [aO.len];exact cw _ _ _ _ _ zf) av)) Hz)) (Zc (pn (((fj m 11)++([(m.bd.kd:Int)]))++wd m.bd.vw) m.bd.rq zj hm.bd.rq hz d0) ?_)
     rintro l5 l6 ⟨f7,f8,rfl,d1⟩
     refine⟨bw (n:=[.prop (((none:Option Operand)=none->(0:Nat)=0)/\((none:Option Operand)=none->(32:Nat)=32)/\(0:Nat)<=32/\(32:Nat)<=32),.prop (Value.slice (some (if 32=0 then Addr.mk b 11 none else (Addr.mk b 11 none).add (0*1))) (32-0) (32-0)=Value.slice (some ⟨b,11,none⟩) m.bd.rq.tg.toList.length 32)]) zk (aB ⟨(by first|(intro _;rfl)|(intro hc;cases hc)),(by first|(intro _;rfl)|(intro hc;cases hc)),za,za⟩ (aB (by rw [aO.len];exact cw _ _ _ _ _ zf) av)),(ar.append rfl zk aJ aj (ad:=f7) (c:=f8) (xs:=(((fj m 11)++([(m.bd.kd:Int)]))++wd m.bd.vw)++qb m.bd.rq) (ys:=m.bd.rq.tg.toList) (adx:=some ⟨b,11,none⟩) (cx:=32) (0:Int) zk d1 (aO.jU d1 2 11 m.bd.rq.tg rfl zk) (λh=>nomatch h) zj zj λd2 d3 l7 f9=>Lo (aL (Lm (Lt (Lq (Le (Dz (bg (v:=.slice d2 ((((((fj m 11)++([(m.bd.kd:Int)]))++wd m.bd.vw)++qb m.bd.rq)++m.bd.rq.tg.toList).length) d3) ?_))))))))⟩
     have g0:=(((f9.pl 0).pl 3).pl 3).pl 3
     have e:((((fj m 11)++([(m.bd.kd:Int)]))++wd m.bd.vw)++qb m.bd.rq)++m.bd.rq.tg.toList=gk m:=by
      rw [show gk m=gj m from if_pos hb]
      unfold gj iL
      rw [if_pos za,y6]
      all_goals simp only [List.append_assoc]
     exact⟨d2,d3,by rw [<- e],by rw [<- e];exact(g0.dr 3)⟩
    ·have c8:=dH a9
     refine En (Lq (Dz (cS (t:=(m.bd.kd:Int) == 2) (λb0=>?_) (λb0=>?_))))
     ·have g7:=dt b0
      refine bL [3] (Hl 2 2 2 u Hz) (Zc (eH (((fj m 11)++([(m.bd.kd:Int)]))++wd m.bd.vw) m.bd.k zj hm.bd.k u) ?_)
      rintro l8 l9 ⟨d4,d5,rfl,g8⟩
      refine Lo (aL (Lm (Lt (Lq (Le (Dz (bg (v:=.slice d4 (((((fj m 11)++([(m.bd.kd:Int)]))++wd m.bd.vw)++wd m.bd.k).length) d5) ?_)))))))
      have g9:=(((g8.pl 0).pl 3).pl 3).pl 3
      have e:(((fj m 11)++([(m.bd.kd:Int)]))++wd m.bd.vw)++wd m.bd.k=gk m:=by
       rw [show gk m=gj m from if_pos hb]
       unfold gj iL
       rw [if_neg za,if_pos za,qd]
       all_goals simp only [List.append_assoc]
      exact⟨d4,d5,by rw [<- e],by rw [<- e];exact(g9.dr 3)⟩
     ·have g7:=dH b0
      refine En (Lq (Dz (cS (t:=(m.bd.kd:Int) == 4) (λb2=>?_) (λb2=>?_))))
      ·have h1:=dt b2
       refine Zs (bL [5,6] (Hl 2 2 43 u Hz) (sb aJ aj [(IntKind.u8.wrap (m.bd.ql.length:Nat):Int)] u λm0 m1 h2=>Lo (Dz (sd aJ aj (0:Int) (h2.pl 1) zj λa6 a7 h4 h5=>Lz (Lq (Lb (Dz ?_)))))))
       obtain⟨d6,d7⟩:∃ a,a=m.bd.qa:=⟨_,rfl⟩
       have h8:=((((h5.pl 3).pl 1).pl 4).pl 4).pl 4
       have i0:=h8.dr 3
       have i1:St w0 (Sl a6 a7 5 1 af ((fj m 11++([(m.bd.kd:Int)]++(wd m.bd.vw++[IntKind.u8.wrap (m.bd.ql.length:Nat)])))++(m.bd.ql.take 0).flatMap iA)::ah b (aK.cells (⟨m.bd.kd,m.bd.vw,m.bd.k,m.bd.rq,d6,m.bd.qc,m.bd.ql,m.bd.dg⟩:aK)) 39::L) h4:=(by rw [d7,<- (show(((fj m 11)++([(m.bd.kd:Int)]))++wd m.bd.vw)++([(IntKind.u8.wrap (m.bd.ql.length:Nat):Int)])=(fj m 11++([(m.bd.kd:Int)]++(wd m.bd.vw++[IntKind.u8.wrap (m.bd.ql.length:Nat)])))++(m.bd.ql.take 0).flatMap iA by simp only [List.append_assoc,List.take_zero,List.flatMap_nil,List.append_nil])];exact i0)
       refine Zn [(6,.int .i64 0),(3,.slice a6 (((((fj m 11)++([(m.bd.kd:Int)]))++wd m.bd.vw)++([(IntKind.u8.wrap (m.bd.ql.length:Nat):Int)])).length) a7),(5,zP b 0),(2,.slice none 0 0)] (aE.cq (S':=[(6,.int .i64 0),(3,.slice a6 (((fj m 11++([(m.bd.kd:Int)]++(wd m.bd.vw++[IntKind.u8.wrap (m.bd.ql.length:Nat)])))++(m.bd.ql.take 0).flatMap iA).length) a7),(5,zP b 0),(2,.slice none 0 0)]) (by rw [(show(((fj m 11)++([(m.bd.kd:Int)]))++wd m.bd.vw)++([(IntKind.u8.wrap (m.bd.ql.length:Nat):Int)])=(fj m 11++([(m.bd.kd:Int)]++(wd m.bd.vw++[IntKind.u8.wrap (m.bd.ql.length:Nat)])))++(m.bd.ql.take 0).flatMap iA by simp only [List.append_assoc,List.take_zero,List.flatMap_nil,List.append_nil])]) (aE.loop (T:=Nat×(Option Addr)×(Option Addr)×Nat) (λgg=>[(2,.slice none 0 0),(3,.slice gg.2.2.1 (((fj m 11++([(m.bd.kd:Int)]++(wd m.bd.vw++[IntKind.u8.wrap (m.bd.ql.length:Nat)])))++(m.bd.ql.take gg.1).flatMap iA).length) gg.2.2.2),(5,zP b 0),(6,.int .i64 (gg.1:Nat))]) (λgg w=>(gg.1<=m.bd.ql.length/\∀ w,St w0 L w->ag w gg.2.1 m.bd.ql.length 2 (λq=>aT.cells (m.bd.ql.getD q aR)))/\St w0 (Sl gg.2.2.1 gg.2.2.2 5 1 af ((fj m 11++([(m.bd.kd:Int)]++(wd m.bd.vw++[IntKind.u8.wrap (m.bd.ql.length:Nat)])))++(m.bd.ql.take gg.1).flatMap iA)::ah b (aK.cells (⟨m.bd.kd,m.bd.vw,m.bd.k,m.bd.rq,gg.2.1,m.bd.qc,m.bd.ql,m.bd.dg⟩:aK)) 39::L) w) (λgg=>m.bd.ql.length-gg.1) (0,d6,a6,a7) [2,3,5,6] zk ⟨⟨Nat.zero_le _,by rw [d7];exact hr⟩,i1⟩ ?_))
       rintro⟨k,aq,d8,c1⟩ m2 ⟨hp,a1⟩
       dsimp only at hp a1
       have hw:=hp.2
       refine Zs (Zs (bj (Hl 2 1 43 a1 Hz) (Zt (Zi ((k:Int)<(m.bd.ql.length:Nat)) (λi2=>?_) (λi2=>?_)))))
       ·have hk:k<m.bd.ql.length:=za
        have hpk:=hm.bd.ql _ (eF (d:=aR) hk)
        have htk:(m.bd.ql.take k).length=k:=by rw [List.length_take];omega
        have hfk:=fw (m.bd.ql.take k)
        obtain⟨f,i,rfl⟩:=ag.isSome (hw _ (a1.drop 2)) za
        refine Zk (Zt (Zs (Zb (ZD (jX [0,1,2,3,4,5,6,7,10,11,12,13,14,15] (.ef 8 (.ef 9 (.ef 16 (.rd 17 .done))))) a1 λm3 a2 m4=>Zj (Hl 2 1 43 a2 (Hx 4 (k:Int) (m.bd.ql.length:Int) f i 2 (Hg 6 (.gen [.int .i64 ((m.bd.ql.getD k aR).rp)]) [.cell ⟨f,i+(k*2),none⟩ (.int .i64 ((m.bd.ql.getD k aR).rp))] (aG (ag.cC (hw _ (a2.drop 2)) (k:=k) zd (j:=0) zf zk) av) (Hl 11 1 43 a2 (Hx 13 (k:Int) (m.bd.ql.length:Int) f i 2 (Hg 15 (.gen [.int .u64 ((m.bd.ql.getD k aR).nm)]) [.cell ⟨f,i+(k*2)+1,none⟩ (.int .u64 ((m.bd.ql.getD k aR).nm))] (aG (ag.cC (hw _ (a2.drop 2)) (k:=k) zd (j:=1) zf zk) av) Hz)))))) (sb aJ aj [(IntKind.u8.wrap ((m.bd.ql.getD k aR).rp):Int)] a2 λm5 m6 b3=>⟨bw (n:=[.cell ⟨f,i+(k*2)+1,none⟩ (.int .u64 ((m.bd.ql.getD k aR).nm)),.prop (0<=(k:Int)/\(k:Int)<(m.bd.ql.length:Int)),.prop (Value.pointer (some (Addr.add ⟨f,i,none⟩ (Int.toNat (k:Nat)*2)))=Value.pointer (some ⟨f,i+(k*2),none⟩)),.cell ⟨b,43,none⟩ (zL f i m.bd.ql.length m.bd.qc)]) zk (aG (ag.cC (hw _ (b3.drop 3)) (k:=k) zd (j:=1) zf zk) (aB za (aB (aS _ _ _) (aG (b3.cell 2 rfl zk) av)))),(sd aJ aj (0:Int) (b3.pl 1) zj λm7 m8 m9 b4=>⟨bw (n:=[.cell ⟨f,i+(k*2)+1,none⟩ (.int .u64 ((m.bd.ql.getD k aR).nm)),.prop (0<=(k:Int)/\(k:Int)<(m.bd.ql.length:Int)),.prop (Value.pointer (some (Addr.add ⟨f,i,none⟩ (Int.toNat (k:Nat)*2)))=Value.pointer (some ⟨f,i+(k*2),none⟩)),.cell ⟨b,43,none⟩ (zL f i m.bd.ql.length m.bd.qc)]) zk (aG (ag.cC (hw _ (b4.drop 3)) (k:=k) zd (j:=1) zf zk) (aB za (aB (aS _ _ _) (aG (b4.cell 2 rfl zk) av)))),Zc (eH (((fj m 11++([(m.bd.kd:Int)]++(wd m.bd.vw++[IntKind.u8.wrap (m.bd.ql.length:Nat)])))++(m.bd.ql.take k).flatMap iA)++([(IntKind.u8.wrap ((m.bd.ql.getD k aR).rp):Int)])) ((m.bd.ql.getD k aR).nm) zj hpk.2 b4) ?_⟩)⟩)))))
        rintro n0 n1 ⟨b5,b6,rfl,i4⟩
        refine Lo (aL (Lm (Lt (Dz (bj (cH 1 ((k:Nat)+1) Hz) ?_)))))
        have i5:=((i4.pl 2).pl 1).pl 2
        exact aw.pick [6,3,2,5] (S':=[(6,.int .i64 ((k:Nat)+1)),(3,.slice b5 (((((fj m 11++([(m.bd.kd:Int)]++(wd m.bd.vw++[IntKind.u8.wrap (m.bd.ql.length:Nat)])))++(m.bd.ql.take k).flatMap iA)++([(IntKind.u8.wrap ((m.bd.ql.getD k aR).rp):Int)]))++wd ((m.bd.ql.getD k aR).nm)).length) b6),(2,.slice none 0 0),(5,zP b 0)]) zk (aw.cq (S':=[(6,.int .i64 ((k:Nat)+1)),(3,.slice b5 (((fj m 11++([(m.bd.kd:Int)]++(wd m.bd.vw++[IntKind.u8.wrap (m.bd.ql.length:Nat)])))++(m.bd.ql.take (k+1)).flatMap iA).length) b6),(2,.slice none 0 0),(5,zP b 0)]) (by rw [(show(((fj m 11++([(m.bd.kd:Int)]++(wd m.bd.vw++[IntKind.u8.wrap (m.bd.ql.length:Nat)])))++(m.bd.ql.take k).flatMap iA)++([(IntKind.u8.wrap ((m.bd.ql.getD k aR).rp):Int)]))++wd ((m.bd.ql.getD k aR).nm)=(fj m 11++([(m.bd.kd:Int)]++(wd m.bd.vw++[IntKind.u8.wrap (m.bd.ql.length:Nat)])))++(m.bd.ql.take (k+1)).flatMap iA by rw [bh (d:=aR) hk,List.flatMap_append];simp only [List.append_assoc,List.flatMap_cons,List.flatMap_nil,List.append_nil,iA])]) (aw.back (k+1,some ⟨f,i,none⟩,b5,b6) [2,3,5,6] zk (by show m.bd.ql.length-(k+1)<m.bd.ql.length-k;omega) ⟨⟨za,hw⟩,Et (i5.dr 1) (show(((fj m 11++([(m.bd.kd:Int)]++(wd m.bd.vw++[IntKind.u8.wrap (m.bd.ql.length:Nat)])))++(m.bd.ql.take k).flatMap iA)++([(IntKind.u8.wrap ((m.bd.ql.getD k aR).rp):Int)]))++wd ((m.bd.ql.getD k aR).nm)=(fj m 11++([(m.bd.kd:Int)]++(wd m.bd.vw++[IntKind.u8.wrap (m.bd.ql.length:Nat)])))++(m.bd.ql.take (k+1)).flatMap iA by rw [bh (d:=aR) hk,List.flatMap_append];simp only [List.append_assoc,List.flatMap_cons,List.flatMap_nil,List.append_nil,iA])⟩))
       ·have hke:m.bd.ql.take k=m.bd.ql:=List.take_of_length_le za
        refine En (Lx (gv (gw (Lh (Lm (Lt (Lq (Le (Dz (bg (v:=.slice d8 (((fj m 11++([(m.bd.kd:Int)]++(wd m.bd.vw++[IntKind.u8.wrap (m.bd.ql.length:Nat)])))++(m.bd.ql.take k).flatMap iA).length) c1) ?_))))))))))
        have i8:=(a1.pl 0).pl 1
        have e:(fj m 11++([(m.bd.kd:Int)]++(wd m.bd.vw++[IntKind.u8.wrap (m.bd.ql.length:Nat)])))++(m.bd.ql.take k).flatMap iA=gk m:=by
         rw [show gk m=gj m from if_pos hb]
         unfold gj iL
         rw [if_neg za,if_neg za,if_pos za,xX]
         rw [hke]
         all_goals simp only [List.append_assoc]
        exact⟨d8,c1,by rw [<- e],by rw [<- e];exact(i8.dr 1)⟩
      ·have h1:=dH b2
       refine En (Lq (Dz (cS (t:=(m.bd.kd:Int) == 6) (λb7=>?_) (λb7=>?_))))
       ·have j0:=dt b7
        exfalso;omega
       ·have j0:=dH b7
        refine En (Lk (Lm (Lt (Lq (Le (Dz (bg (v:=.slice c6 ((((fj m 11)++([(m.bd.kd:Int)]))++wd m.bd.vw).length) c7) ?_)))))))
        have j1:=(((u.pl 0).pl 3).pl 3).pl 3
        have e:((fj m 11)++([(m.bd.kd:Int)]))++wd m.bd.vw=gk m:=by
         rw [show gk m=gj m from if_pos hb]
         unfold gj iL
         rw [if_neg za,if_neg za,if_neg za,if_neg za]
         all_goals simp only [List.append_assoc]
        exact⟨c6,c7,by rw [<- e],by rw [<- e];exact(j1.dr 3)⟩
   ·have f6:=iF a0
    have h6:m.bd.kd=6:=by simpa using a0
    refine Zk (Zt (Zs (Zs (bj (Hl 1 2 0 z Hz) (En (Lt (Lb (Lq (Dz (cS (t:=(m.bd.kd:Int) == 1) (λb8=>?_) (λb8=>?_)))))))))))
    ·have j3:=dt b8
     exfalso;omega
    ·have j3:=dH b8
     refine En (Lq (Dz (cS (t:=(m.bd.kd:Int) == 2) (λb9=>?_) (λb9=>?_))))
     ·have j4:=dt b9
      exfalso;omega
     ·have j4:=dH b9
      refine En (Lq (Dz (cS (t:=(m.bd.kd:Int) == 4) (λc0=>?_) (λc0=>?_))))
      ·have j5:=dt c0
       exfalso;omega
      ·have j5:=dH c0
       refine En (Lq (Dz (cS (t:=(m.bd.kd:Int) == 6) (λc2=>?_) (λc2=>?_))))
       ·have j6:=dt c2
        refine ZD (jX [0,1,2,4,5] (.ef 3 (.ef 6 (.rd 7 .done)))) z λn2 d9 n3=>Zj (Hl 2 2 2 d9 (Hg 5 (.cI (zL b 44 m.bd.dg.toList.length 32) (.sub 0 32)) [.prop (((none:Option Operand)=none->(0:Nat)=0)/\((none:Option Operand)=none->(32:Nat)=32)/\(0:Nat)<=32/\(32:Nat)<=32),.prop (Value.slice (some (if 32=0 then Addr.mk b 44 none else (Addr.mk b 44 none).add (0*1))) (32-0) (32-0)=Value.slice (some ⟨b,44,none⟩) m.bd.dg.toList.length 32)] (aB ⟨(by first|(intro _;rfl)|(intro hc;cases hc)),(by first|(intro _;rfl)|(intro hc;cases hc)),za,za⟩ (aB (by rw [aO.len];exact cw _ _ _ _ _ zf) av)) Hz)) (Zc (eH ((fj m 11)++([(m.bd.kd:Int)])) m.bd.k zj hm.bd.k d9) ?_)
        rintro n4 n5 ⟨j7,j8,rfl,e0⟩
        refine⟨bw (n:=[.prop (((none:Option Operand)=none->(0:Nat)=0)/\((none:Option Operand)=none->(32:Nat)=32)/\(0:Nat)<=32/\(32:Nat)<=32),.prop (Value.slice (some (if 32=0 then Addr.mk b 44 none else (Addr.mk b 44 none).add (0*1))) (32-0) (32-0)=Value.slice (some ⟨b,44,none⟩) m.bd.dg.toList.length 32)]) zk (aB ⟨(by first|(intro _;rfl)|(intro hc;cases hc)),(by first|(intro _;rfl)|(intro hc;cases hc)),za,za⟩ (aB (by rw [aO.len];exact cw _ _ _ _ _ zf) av)),(ar.append rfl zk aJ aj (ad:=j7) (c:=j8) (xs:=((fj m 11)++([(m.bd.kd:Int)]))++wd m.bd.k) (ys:=m.bd.dg.toList) (adx:=some ⟨b,44,none⟩) (cx:=32) (0:Int) zk e0 (aO.jU e0 2 44 m.bd.dg rfl zk) (λh=>nomatch h) zj zj λe1 e2 n6 j9=>Lo (aL (Lm (Lt (Lq (Le (Dz (bg (v:=.slice e1 (((((fj m 11)++([(m.bd.kd:Int)]))++wd m.bd.k)++m.bd.dg.toList).length) e2) ?_))))))))⟩
        have k0:=(((j9.pl 0).pl 3).pl 3).pl 3
        have e:(((fj m 11)++([(m.bd.kd:Int)]))++wd m.bd.k)++m.bd.dg.toList=gk m:=by
         rw [show gk m=gj m from if_pos hb]
         unfold gj iL
         rw [if_neg za,if_neg za,if_neg za,if_pos za,y7]
         all_goals simp only [List.append_assoc]
        exact⟨e1,e2,by rw [<- e],by rw [<- e];exact(k0.dr 3)⟩
       ·have j6:=dH c2
        exfalso;omega
end
def rotl (x:Int) (k:Int):Int :=
 (fV .u32 (bV .u32 x (eG .u64 (IntKind.u64.wrap k) 31)) (aM .u32 x (IntKind.u64.wrap (32-(eG .u64 (IntKind.u64.wrap k) 31)))))
theorem yj {w0 w:World}{L:List aI}(x:Int) (k:Int) (hs:St w0 L w):Calls Tryz.prog 226 #[.int .u32 x,.int .i64 k] w (aZ λrv w'=>rv=.int .u32 (rotl x k)/\St w0 L w'):=by
 refine bp Tryz.func226 Tryz.ntmps226 ?_
 refine En (Ls (La (Lt (Ls (La (Lt (Ls (Dz ?_))))))))
 refine bj (Hg 2 (.shift (bV .u32 x (eG .u64 (IntKind.u64.wrap k) 31))) [.prop ((0:Int)<=eG .u64 (IntKind.u64.wrap k) 31/\IntKind.u32.wrap (x*2 ^ (min (Int.toNat (eG .u64 (IntKind.u64.wrap k) 31)) (IntKind.bits .u32)))=bV .u32 x (eG .u64 (IntKind.u64.wrap k) 31))] (aB ⟨(by first|omega|exact bf rfl _),rfl⟩ av) (Hg 6 (.shift (aM .u32 x (IntKind.u64.wrap (32-(eG .u64 (IntKind.u64.wrap k) 31))))) [.prop ((0:Int)<=IntKind.u64.wrap (32-(eG .u64 (IntKind.u64.wrap k) 31))/\Int.fdiv x (2 ^ (min (Int.toNat (IntKind.u64.wrap (32-(eG .u64 (IntKind.u64.wrap k) 31)))) (IntKind.bits .u32)))=aM .u32 x (IntKind.u64.wrap (32-(eG .u64 (IntKind.u64.wrap k) 31))))] (aB ⟨(by first|omega|exact bf rfl _),rfl⟩ av) Hz)) ?_
 refine Zt (Ze (?_))
 refine bg (v:=.int .u32 (fV .u32 (bV .u32 x (eG .u64 (IntKind.u64.wrap k) 31)) (aM .u32 x (IntKind.u64.wrap (32-(eG .u64 (IntKind.u64.wrap k) 31)))))) ?_
 have hr:rotl x k=(fV .u32 (bV .u32 x (eG .u64 (IntKind.u64.wrap k) 31)) (aM .u32 x (IntKind.u64.wrap (32-(eG .u64 (IntKind.u64.wrap k) 31))))):=by rw [rotl]
 exact⟨by first|(rw [hr];done)|(rw [hr];rfl),hs.drop 0⟩
def bJ (x:Int) (n:Int):Int :=
 (rotl x (IntKind.i64.wrap (0-n)))
theorem dK {w0 w:World}{L:List aI}(x:Int) (n:Int) (hs:St w0 L w):Calls Tryz.prog 220 #[.int .u32 x,.int .i64 n] w (aZ λrv w'=>rv=.int .u32 (bJ x n)/\St w0 L w'):=by
 refine bp Tryz.func220 Tryz.ntmps220 ?_
 refine En (Ls (La (Lt (Ls (Lg [3] (Lu (Dz ?_)))))))
 refine aF Tryz.call226 (yj x (IntKind.i64.wrap (0-n))  hs) ?_
 rintro v2 w3 ⟨rfl,hs1⟩
 refine Lo (aL (Lt (Le (Dz ?_))))
 refine bg (v:=.int .u32 (rotl x (IntKind.i64.wrap (0-n)))) ?_
 have hr:bJ x n=(rotl x (IntKind.i64.wrap (0-n))):=by rw [bJ]
 exact⟨by first|(rw [hr];done)|(rw [hr];rfl),hs1.drop 0⟩
def iter {α:Type}(f:Nat->α->α):Nat->α->α
 | 0,a=>a
 | n+1,a=>f n (iter f n a)
theorem qj {α:Type}(f:Nat->α->α) (a:α):iter f 0 a=a:=rfl
theorem cF {α:Type}(f:Nat->α->α) (n:Nat) (a:α):iter f (n+1) a=f n (iter f n a):=rfl
def aN (n:Int):Array Value:=#[.int .u32 n]
theorem aQ:dE aN 1:=⟨λ_=>rfl,λ_=>rfl⟩
def wY (bl:List Int) (k j:Nat) (vl:List Int):List Int:=vl.set k (fV .u32 (bV .u32 (vl.getD k 0) 8) (IntKind.u32.wrap (bl.getD ((4*k)+j) 0)))
def wZ (bl:List Int) (k:Nat) (wl:List Int):List Int:=iter (wY bl k) 4 wl
def jn (bl:List Int):List Int:=iter (wZ bl) 16 (List.replicate 64 0)
def lX (i:Nat) (xl:List Int):List Int:=xl.set i (IntKind.u32.wrap ((IntKind.u32.wrap ((IntKind.u32.wrap ((xl.getD (i-16) 0)+(bN .u32 (bN .u32 (bJ (xl.getD (i-15) 0) 7) (bJ (xl.getD (i-15) 0) 18)) (aM .u32 (xl.getD (i-15) 0) 3))))+(xl.getD (i-7) 0)))+(bN .u32 (bN .u32 (bJ (xl.getD (i-2) 0) 17) (bJ (xl.getD (i-2) 0) 19)) (aM .u32 (xl.getD (i-2) 0) 10))))
def eX (bl:List Int):List Int:=iter (λn=>lX (n+16)) 48 (jn bl)
theorem vg {w0 w:World}{L:List aI}{p:Nat}(bl:List Int) (hb:bl.length=64) (hs:St w0 (ah p (ae af bl) 299::L) w):Calls Tryz.prog 219 #[zP p 0] w (aZ λrv w'=>rv=.agg (ae aN (eX bl))/\St w0 (ah p (ae af bl) 299::L) w'):=by
 refine bp Tryz.func219 Tryz.ntmps219 ?_
 refine En (Ls (Lg [0] (Dz ?_)))
 refine ar.alloc rfl rfl zk (z:=.agg Dp) zk hs (cs:=Dp) zk ?_
 intro b1 w2 hs3
 refine Lo (Ld (Lt (Ls (Ls (Dz ?_)))))
 refine bj (Hg 0 (.cI (zL b1 0 16 64) (.sub 0 16)) [.prop ((16:Int)=((16:Nat):Int)),.prop (((none:Option Operand)=none->(0:Nat)=0)/\((some (Operand.const (.int .i64 16)))=none->(16:Nat)=64)/\(0:Nat)<=16/\(16:Nat)<=64),.prop (Value.slice (some (if 64=0 then Addr.mk b1 0 none else (Addr.mk b1 0 none).add (0*1))) (16-0) (64-0)=Value.slice (some ⟨b1,0,none⟩) 16 64)] (aB za (aB ⟨(by first|(intro _;rfl)|(intro hc;cases hc)),(by first|(intro _;rfl)|(intro hc;cases hc)),za,za⟩ (aB (cw _ _ _ _ _ zf) av))) Hz) ?_
 refine Zt (Zb (?_))
 have hs4:St w0 (ah b1 (ae aN (List.replicate 64 0)) 318::ah p (ae af bl) 299::L) w2:=Eq.mp zk hs3
 refine aE.loop (T:=Nat×(List Int)) (λgg=>[(0,zP p 0),(2,zP b1 0),(10,.int .i64 16),(11,.int .i64 (gg.1:Nat))]) (λgg w=>(gg.1<=16/\gg.2=iter (wZ bl) gg.1 (List.replicate 64 0)/\gg.2.length=64)/\St w0 (ah b1 (ae aN gg.2) 318::ah p (ae af bl) 299::L) w) (λgg=>16-gg.1) (0,(List.replicate 64 0)) [0,2,10,11] zk ⟨⟨Nat.zero_le _,rfl,rfl⟩,hs4⟩ ?_
 rintro⟨k,wl⟩ w5 ⟨hp0,hs6⟩
 have hp:k<=16/\wl=iter (wZ bl) k (List.replicate 64 0)/\wl.length=64:=hp0
 have hs7:St w0 (ah b1 (ae aN wl) 318::ah p (ae af bl) 299::L) w5:=hs6
 refine Zn [(0,zP p 0),(2,zP b1 0),(10,.int .i64 16),(11,.int .i64 (k:Nat))] ?_
 refine En (Ls (La (Lt (Ls (Dz ?_)))))
 refine Zi (((k:Nat):Int)<16) (λh8'=>?_) (λh8'=>?_)
 ·refine En (Lk (Lt (Ls (Lb (Ls (La (Lt (Ls (Dz ?_)))))))))
  refine bj (cH 3 (4*(k:Nat)) (cH 5 (4*(k:Nat)) (cH 6 ((4*(k:Nat))+4) (Hg 7 (.cI (zL p (0+((4*k)*1)) 4 (64-(4*k))) (.sub (4*k) (4*k+4))) [.prop ((4*(k:Nat):Int)=((4*k:Nat):Int)),.prop (((4*(k:Nat))+4:Int)=((4*k+4:Nat):Int)),.prop (((some (Operand.tmp 17))=none->(4*k:Nat)=0)/\((some (Operand.tmp 20))=none->(4*k+4:Nat)=64)/\(4*k:Nat)<=4*k+4/\(4*k+4:Nat)<=64),.prop (Value.slice (some (if 64=4*k then Addr.mk p 0 none else (Addr.mk p 0 none).add ((4*k)*1))) ((4*k+4)-(4*k)) (64-(4*k))=Value.slice (some ⟨p,0+((4*k)*1),none⟩) 4 (64-(4*k)))] (aB za (aB za (aB ⟨(by first|(intro _;rfl)|(intro hc;cases hc)),(by first|(intro _;rfl)|(intro hc;cases hc)),za,za⟩ (aB (jG za za) av)))) Hz)))) ?_
  refine Zt (Zb (?_))
  refine aE.loop (T:=Nat×(List Int)) (λgg=>[(0,zP p 0),(2,zP b1 0),(3,.int .i64 (k:Nat)),(10,.int .i64 16),(11,.int .i64 (k:Nat)),(21,zL p (0+((4*k)*1)) 4 (64-(4*k))),(22,.int .i64 4),(23,.int .i64 (gg.1:Nat))]) (λgg w=>(gg.1<=4/\gg.2=iter (wY bl k) gg.1 wl/\gg.2.length=64)/\St w0 (ah b1 (ae aN gg.2) 318::ah p (ae af bl) 299::L) w) (λgg=>4-gg.1) (0,wl) [0,2,3,10,11,21,22,23] zk ⟨⟨Nat.zero_le _,rfl,hp.2.2⟩,hs7⟩ ?_
  rintro⟨j,vl⟩ w9 ⟨hp10,hs10⟩
  have hp1:j<=4/\vl=iter (wY bl k) j wl/\vl.length=64:=hp10
  have hs11:St w0 (ah b1 (ae aN vl) 318::ah p (ae af bl) 299::L) w9:=hs10
  refine Zn [(0,zP p 0),(2,zP b1 0),(3,.int .i64 (k:Nat)),(10,.int .i64 16),(11,.int .i64 (k:Nat)),(21,zL p (0+((4*k)*1)) 4 (64-(4*k))),(22,.int .i64 4),(23,.int .i64 (j:Nat))] ?_
  refine En (Ls (La (Lt (Ls (Dz ?_)))))
  refine Zi (((j:Nat):Int)<4) (λh12'=>?_) (λh12'=>?_)
  ·refine Zk (Zt (Zs (Zb (Zs (?_)))))
   refine bj (Hg 0 (.cI (zP p (0+(((4*k)+j)*1))) .at_) [.prop (0<=((j:Nat):Int)/\((j:Nat):Int)<(4:Int)),.prop (Value.pointer (some (Addr.add ⟨p,0+((4*k)*1),none⟩ (Int.toNat (j:Nat)*1)))=Value.pointer (some ⟨p,0+(((4*k)+j)*1),none⟩))] (aB za (aB (Bw _ _ _ _) av)) (Hg 1 (.gen [.int .u8 (bl.getD ((4*k)+j) 0)]) [.cell ⟨p,0+(((4*k)+j)*1),none⟩ (.int .u8 (bl.getD ((4*k)+j) 0))] (aG (ag.cC (au hs11 1 rfl aj.size (0:Int)) (k:=((4*k)+j)) zd (j:=0) zf zk) av) Hz)) ?_
   refine Zt (?_)
   refine bL [9] (Hx 2 ((k:Nat):Int) (64:Int) b1 0 1 (Hg 3 (.gen [.int .u32 (vl.getD k 0)]) [.cell ⟨b1,0+(k*1),none⟩ (.int .u32 (vl.getD k 0))] (aG (ag.cC (au hs11 0 rfl aQ.size (0:Int)) (k:=k) zd (j:=0) zf zk) av) (Hg 4 (.shift (bV .u32 (vl.getD k 0) 8)) [.prop ((0:Int)<=8/\IntKind.u32.wrap ((vl.getD k 0)*2 ^ (min (Int.toNat 8) (IntKind.bits .u32)))=bV .u32 (vl.getD k 0) 8)] (aB ⟨(by first|omega|exact bf rfl _),rfl⟩ av) (Hx 8 ((k:Nat):Int) (64:Int) b1 0 1 Hz)))) ?_
   refine ar.store rfl rfl zk (b:=b1) (off:=0+(k*1)) (v:=.int .u32 (fV .u32 (bV .u32 (vl.getD k 0) 8) (IntKind.u32.wrap (bl.getD ((4*k)+j) 0)))) zk zk (ti:=Tryz.t296) zk hs11 0 rfl zk zk (by rw [Nat.zero_add];exact fH (f:=aN) (size:=1) (l:=vl) (k:=k) aQ.size zd) (cs':=ae aN (vl.set k (fV .u32 (bV .u32 (vl.getD k 0) 8) (IntKind.u32.wrap (bl.getD ((4*k)+j) 0))))) (L':=(ah b1 (ae aN (vl.set k (fV .u32 (bV .u32 (vl.getD k 0) 8) (IntKind.u32.wrap (bl.getD ((4*k)+j) 0))))) 318)::ah p (ae af bl) 299::L) (by rw [Nat.zero_add];exact eh (f:=aN) (size:=1) (l:=vl) (k:=k) aQ.size zd (fV .u32 (bV .u32 (vl.getD k 0) 8) (IntKind.u32.wrap (bl.getD ((4*k)+j) 0)))) rfl ?_
   intro w13 hs14
   refine Lo (Ld (Lm (Lt (Dz ?_))))
   refine bj (cH 0 ((j:Nat)+1) Hz) ?_
   exact aw.back (j+1,vl.set k (fV .u32 (bV .u32 (vl.getD k 0) 8) (IntKind.u32.wrap (bl.getD ((4*k)+j) 0)))) [0,2,3,10,11,21,22,23] zk (by show 4-(j+1)<4-j;omega) ⟨⟨za,by rw [cF,<- hp1.2.1];rfl,by simp only [List.length_set];exact hp1.2.2⟩,hs14⟩
  ·refine Zx (aw.da (aw.dc (aw.jR (Zm (Zt (?_))))))
   refine bj (cH 0 ((k:Nat)+1) Hz) ?_
   exact aw.back (k+1,vl) [0,2,10,11] zk (by show 16-(k+1)<16-k;omega) ⟨⟨za,by rw [hp1.2.1,show j=4 by omega,hp.2.1];exact(cF (wZ bl) k _).symm,hp1.2.2⟩,hs11⟩
 ·refine En (Lx (gv (gw (Lh (Lt (Ls (Ls (La (Lt (Lb (Dz ?_)))))))))))
  refine aE.loop (T:=Nat×(List Int)) (λgg=>[(2,zP b1 0),(6,.int .i64 (gg.1:Nat))]) (λgg w=>(16<=gg.1/\gg.1<=64/\gg.2=iter (λn=>lX (n+16)) (gg.1-16) (jn bl)/\gg.2.length=64)/\St w0 (ah b1 (ae aN gg.2) 318::ah p (ae af bl) 299::L) w) (λgg=>64-gg.1) (16,wl) [2,6] zk ⟨⟨za,za,(by show wl=iter (λn=>lX (n+16)) (16-16) (jn bl);rw [Nat.sub_self,qj,hp.2.1,show k=16 by omega,jn]),hp.2.2⟩,hs7⟩ ?_
  rintro⟨i,xl⟩ w15 ⟨hp20,hs16⟩
  have hp2:16<=i/\i<=64/\xl=iter (λn=>lX (n+16)) (i-16) (jn bl)/\xl.length=64:=hp20
  have hs17:St w0 (ah b1 (ae aN xl) 318::ah p (ae af bl) 299::L) w15:=hs16
  refine Zn [(2,zP b1 0),(6,.int .i64 (i:Nat))] ?_
  refine En (Ls (Ls (La (Lt (Dz ?_)))))
  refine Zi (((i:Nat):Int)<64) (λh18'=>?_) (λh18'=>?_)
  ·refine Zk (Zt (Zs (Zb (Zs (?_)))))
   refine aE.aV [0,1,3,7,0,16,48,112,15,511] (.rd 0 (.rd 1 (.rd 2 (.rd 3 (.rd 4 (.rd 5 (.rd 6 (.rd 7 (.rd 8 (.rd 9 .done)))))))))) zk zk ai zk hs17 ?_
   intro w19 hs20 hw21
   refine gY (Hg 1 (.cI (.int .i64 (i-15:Nat)) (.gen [])) [.prop (Value.int .i64 (IntKind.i64.wrap ((i:Nat)-15))=Value.int .i64 (i-15:Nat))] (aB (de za za za) av) (Hx 2 ((i-15:Nat):Int) (64:Int) b1 0 1 (Hg 3 (.gen [.int .u32 (xl.getD (i-15) 0)]) [.cell ⟨b1,0+((i-15)*1),none⟩ (.int .u32 (xl.getD (i-15) 0))] (aG (ag.cC (au hs20 0 rfl aQ.size (0:Int)) (k:=(i-15)) zd (j:=0) zf zk) av) (Hg 5 (.cI (.int .i64 (i-2:Nat)) (.gen [])) [.prop (Value.int .i64 (IntKind.i64.wrap ((i:Nat)-2))=Value.int .i64 (i-2:Nat))] (aB (de za za za) av) (Hx 6 ((i-2:Nat):Int) (64:Int) b1 0 1 (Hg 7 (.gen [.int .u32 (xl.getD (i-2) 0)]) [.cell ⟨b1,0+((i-2)*1),none⟩ (.int .u32 (xl.getD (i-2) 0))] (aG (ag.cC (au hs20 0 rfl aQ.size (0:Int)) (k:=(i-2)) zd (j:=0) zf zk) av) Hz)))))) ?_
   refine Zt (?_)
   refine aE.aV [0,0,2,6,14,0,32,0,224,480,0,1024,4064,8190,0,16384,49152,114688,262142,0,524768,0,3670496,7864800,0,16777216,66585056,134217726,268435455,536870911] (.rd 0 (.rd 1 (.rd 2 (.rd 3 (.rd 4 (.rd 5 (.rd 7 (.rd 10 (.rd 11 (.rd 14 (.rd 15 (.rd 16 (.rd 17 (.rd 19 (.rd 21 (.rd 24 (.rd 25 (.ef 6 (.ef 8 (.rd 9 (.rd 12 (.rd 13 (.rd 18 (.ef 20 (.ef 22 (.rd 23 (.rd 26 (.rd 27 (.rd 28 (.ef 29 .done)))))))))))))))))))))))))))))) zk zk ai zk hs20 ?_
   intro w22 hs23 hw24
   refine Zj (Hg 2 (.cI (.int .i64 (i-16:Nat)) (.gen [])) [.prop (Value.int .i64 (IntKind.i64.wrap ((i:Nat)-16))=Value.int .i64 (i-16:Nat))] (aB (de za za za) av) (Hx 3 ((i-16:Nat):Int) (64:Int) b1 0 1 (Hg 4 (.gen [.int .u32 (xl.getD (i-16) 0)]) [.cell ⟨b1,0+((i-16)*1),none⟩ (.int .u32 (xl.getD (i-16) 0))] (aG (ag.cC (au hs23 0 rfl aQ.size (0:Int)) (k:=(i-16)) zd (j:=0) zf zk) av) (Hg 11 (.shift (aM .u32 (xl.getD (i-15) 0) 3)) [.prop ((0:Int)<=3/\Int.fdiv (xl.getD (i-15) 0) (2 ^ (min (Int.toNat 3) (IntKind.bits .u32)))=aM .u32 (xl.getD (i-15) 0) 3)] (aB ⟨(by first|omega|exact bf rfl _),rfl⟩ av) (Hg 15 (.cI (.int .i64 (i-7:Nat)) (.gen [])) [.prop (Value.int .i64 (IntKind.i64.wrap ((i:Nat)-7))=Value.int .i64 (i-7:Nat))] (aB (de za za za) av) (Hx 16 ((i-7:Nat):Int) (64:Int) b1 0 1 (Hg 17 (.gen [.int .u32 (xl.getD (i-7) 0)]) [.cell ⟨b1,0+((i-7)*1),none⟩ (.int .u32 (xl.getD (i-7) 0))] (aG (ag.cC (au hs23 0 rfl aQ.size (0:Int)) (k:=(i-7)) zd (j:=0) zf zk) av) (Hg 25 (.shift (aM .u32 (xl.getD (i-2) 0) 10)) [.prop ((0:Int)<=10/\Int.fdiv (xl.getD (i-2) 0) (2 ^ (min (Int.toNat 10) (IntKind.bits .u32)))=aM .u32 (xl.getD (i-2) 0) 10)] (aB ⟨(by first|omega|exact bf rfl _),rfl⟩ av) Hz)))))))) ?_
   refine aF Tryz.call220 (dK (xl.getD (i-15) 0) 7  hs23) ?_
   rintro v26 w27 ⟨rfl,hs25⟩
   refine⟨bw (n:=[.prop ((0:Int)<=10/\Int.fdiv (xl.getD (i-2) 0) (2 ^ (min (Int.toNat 10) (IntKind.bits .u32)))=aM .u32 (xl.getD (i-2) 0) 10),.cell ⟨b1,0+((i-7)*1),none⟩ (.int .u32 (xl.getD (i-7) 0)),.prop (0<=((i-7:Nat):Int)/\((i-7:Nat):Int)<(64:Int)),.prop (Value.pointer (some (Addr.add ⟨b1,0,none⟩ (Int.toNat (i-7:Nat)*1)))=Value.pointer (some ⟨b1,0+((i-7)*1),none⟩)),.prop (Value.int .i64 (IntKind.i64.wrap ((i:Nat)-7))=Value.int .i64 (i-7:Nat)),.prop ((0:Int)<=3/\Int.fdiv (xl.getD (i-15) 0) (2 ^ (min (Int.toNat 3) (IntKind.bits .u32)))=aM .u32 (xl.getD (i-15) 0) 3),.cell ⟨b1,0+((i-16)*1),none⟩ (.int .u32 (xl.getD (i-16) 0)),.prop (0<=((i-16:Nat):Int)/\((i-16:Nat):Int)<(64:Int)),.prop (Value.pointer (some (Addr.add ⟨b1,0,none⟩ (Int.toNat (i-16:Nat)*1)))=Value.pointer (some ⟨b1,0+((i-16)*1),none⟩)),.prop (Value.int .i64 (IntKind.i64.wrap ((i:Nat)-16))=Value.int .i64 (i-16:Nat))]) zk (aB ⟨(by first|omega|exact bf rfl _),rfl⟩ (aG (ag.cC (au hs25 0 rfl aQ.size (0:Int)) (k:=(i-7)) zd (j:=0) zf zk) (aB za (aB (aS _ _ _) (aB (de za za za) (aB ⟨(by first|omega|exact bf rfl _),rfl⟩ (aG (ag.cC (au hs25 0 rfl aQ.size (0:Int)) (k:=(i-16)) zd (j:=0) zf zk) (aB za (aB (aS _ _ _) (aB (de za za za) av)))))))))),?_⟩
   refine aF Tryz.call220 (dK (xl.getD (i-15) 0) 18  hs25) ?_
   rintro v29 w30 ⟨rfl,hs28⟩
   refine⟨bw (n:=[.prop ((0:Int)<=10/\Int.fdiv (xl.getD (i-2) 0) (2 ^ (min (Int.toNat 10) (IntKind.bits .u32)))=aM .u32 (xl.getD (i-2) 0) 10),.cell ⟨b1,0+((i-7)*1),none⟩ (.int .u32 (xl.getD (i-7) 0)),.prop (0<=((i-7:Nat):Int)/\((i-7:Nat):Int)<(64:Int)),.prop (Value.pointer (some (Addr.add ⟨b1,0,none⟩ (Int.toNat (i-7:Nat)*1)))=Value.pointer (some ⟨b1,0+((i-7)*1),none⟩)),.prop (Value.int .i64 (IntKind.i64.wrap ((i:Nat)-7))=Value.int .i64 (i-7:Nat)),.prop ((0:Int)<=3/\Int.fdiv (xl.getD (i-15) 0) (2 ^ (min (Int.toNat 3) (IntKind.bits .u32)))=aM .u32 (xl.getD (i-15) 0) 3),.cell ⟨b1,0+((i-16)*1),none⟩ (.int .u32 (xl.getD (i-16) 0)),.prop (0<=((i-16:Nat):Int)/\((i-16:Nat):Int)<(64:Int)),.prop (Value.pointer (some (Addr.add ⟨b1,0,none⟩ (Int.toNat (i-16:Nat)*1)))=Value.pointer (some ⟨b1,0+((i-16)*1),none⟩)),.prop (Value.int .i64 (IntKind.i64.wrap ((i:Nat)-16))=Value.int .i64 (i-16:Nat))]) zk (aB ⟨(by first|omega|exact bf rfl _),rfl⟩ (aG (ag.cC (au hs28 0 rfl aQ.size (0:Int)) (k:=(i-7)) zd (j:=0) zf zk) (aB za (aB (aS _ _ _) (aB (de za za za) (aB ⟨(by first|omega|exact bf rfl _),rfl⟩ (aG (ag.cC (au hs28 0 rfl aQ.size (0:Int)) (k:=(i-16)) zd (j:=0) zf zk) (aB za (aB (aS _ _ _) (aB (de za za za) av)))))))))),?_⟩
   refine En (Lu (Dz ?_))
   refine aF Tryz.call220 (dK (xl.getD (i-2) 0) 17  hs28) ?_
   rintro v32 w33 ⟨rfl,hs31⟩
   refine⟨bw (n:=[.prop ((0:Int)<=10/\Int.fdiv (xl.getD (i-2) 0) (2 ^ (min (Int.toNat 10) (IntKind.bits .u32)))=aM .u32 (xl.getD (i-2) 0) 10),.cell ⟨b1,0+((i-7)*1),none⟩ (.int .u32 (xl.getD (i-7) 0)),.prop (0<=((i-7:Nat):Int)/\((i-7:Nat):Int)<(64:Int)),.prop (Value.pointer (some (Addr.add ⟨b1,0,none⟩ (Int.toNat (i-7:Nat)*1)))=Value.pointer (some ⟨b1,0+((i-7)*1),none⟩)),.prop (Value.int .i64 (IntKind.i64.wrap ((i:Nat)-7))=Value.int .i64 (i-7:Nat)),.prop ((0:Int)<=3/\Int.fdiv (xl.getD (i-15) 0) (2 ^ (min (Int.toNat 3) (IntKind.bits .u32)))=aM .u32 (xl.getD (i-15) 0) 3),.cell ⟨b1,0+((i-16)*1),none⟩ (.int .u32 (xl.getD (i-16) 0)),.prop (0<=((i-16:Nat):Int)/\((i-16:Nat):Int)<(64:Int)),.prop (Value.pointer (some (Addr.add ⟨b1,0,none⟩ (Int.toNat (i-16:Nat)*1)))=Value.pointer (some ⟨b1,0+((i-16)*1),none⟩)),.prop (Value.int .i64 (IntKind.i64.wrap ((i:Nat)-16))=Value.int .i64 (i-16:Nat))]) zk (aB ⟨(by first|omega|exact bf rfl _),rfl⟩ (aG (ag.cC (au hs31 0 rfl aQ.size (0:Int)) (k:=(i-7)) zd (j:=0) zf zk) (aB za (aB (aS _ _ _) (aB (de za za za) (aB ⟨(by first|omega|exact bf rfl _),rfl⟩ (aG (ag.cC (au hs31 0 rfl aQ.size (0:Int)) (k:=(i-16)) zd (j:=0) zf zk) (aB za (aB (aS _ _ _) (aB (de za za za) av)))))))))),?_⟩
   refine aF Tryz.call220 (dK (xl.getD (i-2) 0) 19  hs31) ?_
   rintro v35 w36 ⟨rfl,hs34⟩
   refine⟨bw (n:=[.prop ((0:Int)<=10/\Int.fdiv (xl.getD (i-2) 0) (2 ^ (min (Int.toNat 10) (IntKind.bits .u32)))=aM .u32 (xl.getD (i-2) 0) 10),.cell ⟨b1,0+((i-7)*1),none⟩ (.int .u32 (xl.getD (i-7) 0)),.prop (0<=((i-7:Nat):Int)/\((i-7:Nat):Int)<(64:Int)),.prop (Value.pointer (some (Addr.add ⟨b1,0,none⟩ (Int.toNat (i-7:Nat)*1)))=Value.pointer (some ⟨b1,0+((i-7)*1),none⟩)),.prop (Value.int .i64 (IntKind.i64.wrap ((i:Nat)-7))=Value.int .i64 (i-7:Nat)),.prop ((0:Int)<=3/\Int.fdiv (xl.getD (i-15) 0) (2 ^ (min (Int.toNat 3) (IntKind.bits .u32)))=aM .u32 (xl.getD (i-15) 0) 3),.cell ⟨b1,0+((i-16)*1),none⟩ (.int .u32 (xl.getD (i-16) 0)),.prop (0<=((i-16:Nat):Int)/\((i-16:Nat):Int)<(64:Int)),.prop (Value.pointer (some (Addr.add ⟨b1,0,none⟩ (Int.toNat (i-16:Nat)*1)))=Value.pointer (some ⟨b1,0+((i-16)*1),none⟩)),.prop (Value.int .i64 (IntKind.i64.wrap ((i:Nat)-16))=Value.int .i64 (i-16:Nat))]) zk (aB ⟨(by first|omega|exact bf rfl _),rfl⟩ (aG (ag.cC (au hs34 0 rfl aQ.size (0:Int)) (k:=(i-7)) zd (j:=0) zf zk) (aB za (aB (aS _ _ _) (aB (de za za za) (aB ⟨(by first|omega|exact bf rfl _),rfl⟩ (aG (ag.cC (au hs34 0 rfl aQ.size (0:Int)) (k:=(i-16)) zd (j:=0) zf zk) (aB za (aB (aS _ _ _) (aB (de za za za) av)))))))))),?_⟩
   refine Zj (Hx 28 ((i:Nat):Int) (64:Int) b1 0 1 Hz) ?_
   refine ar.store rfl rfl zk (b:=b1) (off:=0+(i*1)) (v:=.int .u32 (IntKind.u32.wrap ((IntKind.u32.wrap ((IntKind.u32.wrap ((xl.getD (i-16) 0)+(bN .u32 (bN .u32 (bJ (xl.getD (i-15) 0) 7) (bJ (xl.getD (i-15) 0) 18)) (aM .u32 (xl.getD (i-15) 0) 3))))+(xl.getD (i-7) 0)))+(bN .u32 (bN .u32 (bJ (xl.getD (i-2) 0) 17) (bJ (xl.getD (i-2) 0) 19)) (aM .u32 (xl.getD (i-2) 0) 10))))) zk zk (ti:=Tryz.t296) zk hs34 0 rfl zk zk (by rw [Nat.zero_add];exact fH (f:=aN) (size:=1) (l:=xl) (k:=i) aQ.size zd) (cs':=ae aN (xl.set i (IntKind.u32.wrap ((IntKind.u32.wrap ((IntKind.u32.wrap ((xl.getD (i-16) 0)+(bN .u32 (bN .u32 (bJ (xl.getD (i-15) 0) 7) (bJ (xl.getD (i-15) 0) 18)) (aM .u32 (xl.getD (i-15) 0) 3))))+(xl.getD (i-7) 0)))+(bN .u32 (bN .u32 (bJ (xl.getD (i-2) 0) 17) (bJ (xl.getD (i-2) 0) 19)) (aM .u32 (xl.getD (i-2) 0) 10)))))) (L':=(ah b1 (ae aN (xl.set i (IntKind.u32.wrap ((IntKind.u32.wrap ((IntKind.u32.wrap ((xl.getD (i-16) 0)+(bN .u32 (bN .u32 (bJ (xl.getD (i-15) 0) 7) (bJ (xl.getD (i-15) 0) 18)) (aM .u32 (xl.getD (i-15) 0) 3))))+(xl.getD (i-7) 0)))+(bN .u32 (bN .u32 (bJ (xl.getD (i-2) 0) 17) (bJ (xl.getD (i-2) 0) 19)) (aM .u32 (xl.getD (i-2) 0) 10)))))) 318)::ah p (ae af bl) 299::L) (by rw [Nat.zero_add];exact eh (f:=aN) (size:=1) (l:=xl) (k:=i) aQ.size zd (IntKind.u32.wrap ((IntKind.u32.wrap ((IntKind.u32.wrap ((xl.getD (i-16) 0)+(bN .u32 (bN .u32 (bJ (xl.getD (i-15) 0) 7) (bJ (xl.getD (i-15) 0) 18)) (aM .u32 (xl.getD (i-15) 0) 3))))+(xl.getD (i-7) 0)))+(bN .u32 (bN .u32 (bJ (xl.getD (i-2) 0) 17) (bJ (xl.getD (i-2) 0) 19)) (aM .u32 (xl.getD (i-2) 0) 10))))) rfl ?_
   intro w37 hs38
   refine Lo (Ld (Lm (Lt (Dz ?_))))
   refine bj (cH 1 ((i:Nat)+1) Hz) ?_
   exact aw.back (i+1,xl.set i (IntKind.u32.wrap ((IntKind.u32.wrap ((IntKind.u32.wrap ((xl.getD (i-16) 0)+(bN .u32 (bN .u32 (bJ (xl.getD (i-15) 0) 7) (bJ (xl.getD (i-15) 0) 18)) (aM .u32 (xl.getD (i-15) 0) 3))))+(xl.getD (i-7) 0)))+(bN .u32 (bN .u32 (bJ (xl.getD (i-2) 0) 17) (bJ (xl.getD (i-2) 0) 19)) (aM .u32 (xl.getD (i-2) 0) 10))))) [2,6] zk (by show 64-(i+1)<64-i;omega) ⟨⟨za,za,by rw [show i+1-16=(i-16)+1 by omega,cF,<- hp2.2.2.1,show i-16+16=i by omega];rfl,by simp only [List.length_set];exact hp2.2.2.2⟩,hs38⟩
  ·refine Zx (aw.da (aw.dc (aw.jR (Zt (Zs (?_))))))
   refine bL [1] (Hg 0 (.agg (ae aN xl)) [.prop (Array.size (ae aN xl)=64),.cells ⟨b1,0,none⟩ (ae aN xl)] (aB (bt aQ (show(xl).length=64 from zM) rfl) (dq (hs17.cells 0 0 rfl zG) av)) Hz) ?_
   refine ar.store rfl rfl zk (b:=b1) (off:=0) (v:=.agg (ae aN xl)) zk zk (ti:=Tryz.t318) zk hs17 0 rfl (bQ aQ (show(xl).length=64 from zM) zk) (cX aQ) (cJ aQ (show(xl).length=64 from zM) (by rw [bt aQ (show(xl).length=64 from zM) (m:=64) rfl];rfl)) (cs':=ae aN xl) (L':=(ah b1 (ae aN xl) 318)::ah p (ae af bl) 299::L) (dz aQ (show(xl).length=64 from zM) (by rw [bt aQ (show(xl).length=64 from zM) (m:=64) rfl];rfl)) rfl ?_
   intro w39 hs40
   refine Lo (Ld (Lt (Le (Dz ?_))))
   refine aw.done (.inl rfl) (v:=.agg (ae aN xl)) (λa hf=>ct rfl zk (ti:=Tryz.t318) zk zk (vs:=ae aN xl) (bt aQ (show(xl).length=64 from zM) zk) (hs40.cells 0 0 rfl zG) a hf) ?_
   have hs41:=hs40.dr 1
   exact⟨(by rw [hp2.2.2.1,show i=64 by omega];rfl),hs41⟩
theorem lh {α:Type}{f:Nat->α->α}{p:α->Prop}(hf:∀ n a,p a->p (f n a)) (n:Nat){a:α}(ha:p a):p (iter f n a):=by
 induction n with
 | zero=>exact ha
 | succ n ih=>exact hf n _ ih
theorem pq (bl:List Int):(jn bl).length=64 :=
 lh (p:=λl:List Int=>l.length=64) (λk a h=>lh (p:=λl:List Int=>l.length=64) (λj b h=>by unfold wY;rw [List.length_set];exact h) 4 h) 16 (by rw [List.length_replicate])
theorem pt (bl:List Int):(eX bl).length=64 :=
 lh (p:=λl:List Int=>l.length=64) (λk a h=>by unfold lX;rw [List.length_set];exact h) 48 (pq bl)
def shaT:List Int:=[1116352408,1899447441,3049323471,3921009573,961987163,1508970993,2453635748,2870763221,3624381080,310598401,607225278,1426881987,1925078388,2162078206,2614888103,3248222580,3835390401,4022224774,264347078,604807628,770255983,1249150122,1555081692,1996064986,2554220882,2821834349,2952996808,3210313671,3336571891,3584528711,113926993,338241895,666307205,773529912,1294757372,1396182291,1695183700,1986661051,2177026350,2456956037,2730485921,2820302411,3259730800,3345764771,3516065817,3600352804,4094571909,275423344,430227734,506948616,659060556,883997877,958139571,1322822218,1537002063,1747873779,1955562222,2024104815,2227730452,2361852424,2428436474,2756734187,3204031479,3329325298]
theorem mB:shaT.length=64:=zf
def cQ (w:World):Prop:=ag w (some ⟨0,0,none⟩) 64 1 (λk=>aN (shaT.getD k 0))
abbrev T8:=Int×Int×Int×Int×Int×Int×Int×Int
def sX (ws:List Int) (k:Nat) (t:T8):T8:=(IntKind.u32.wrap ((IntKind.u32.wrap ((IntKind.u32.wrap ((IntKind.u32.wrap ((IntKind.u32.wrap (t.2.2.2.2.2.2.2+(bN .u32 (bN .u32 (bJ t.2.2.2.2.1 6) (bJ t.2.2.2.2.1 11)) (bJ t.2.2.2.2.1 25))))+(bN .u32 (eG .u32 t.2.2.2.2.1 t.2.2.2.2.2.1) (eG .u32 (xK .u32 t.2.2.2.2.1) t.2.2.2.2.2.2.1))))+(shaT.getD k 0)))+(ws.getD k 0)))+(IntKind.u32.wrap ((bN .u32 (bN .u32 (bJ t.1 2) (bJ t.1 13)) (bJ t.1 22))+(bN .u32 (bN .u32 (eG .u32 t.1 t.2.1) (eG .u32 t.1 t.2.2.1)) (eG .u32 t.2.1 t.2.2.1))))),
 t.1,
 t.2.1,
 t.2.2.1,
 IntKind.u32.wrap (t.2.2.2.1+(IntKind.u32.wrap ((IntKind.u32.wrap ((IntKind.u32.wrap ((IntKind.u32.wrap (t.2.2.2.2.2.2.2+(bN .u32 (bN .u32 (bJ t.2.2.2.2.1 6) (bJ t.2.2.2.2.1 11)) (bJ t.2.2.2.2.1 25))))+(bN .u32 (eG .u32 t.2.2.2.2.1 t.2.2.2.2.2.1) (eG .u32 (xK .u32 t.2.2.2.2.1) t.2.2.2.2.2.2.1))))+(shaT.getD k 0)))+(ws.getD k 0)))),
 t.2.2.2.2.1,
 t.2.2.2.2.2.1,
 t.2.2.2.2.2.2.1)
def mC (t:T8):List Int:=[t.1,t.2.1,t.2.2.1,t.2.2.2.1,t.2.2.2.2.1,t.2.2.2.2.2.1,t.2.2.2.2.2.2.1,t.2.2.2.2.2.2.2]
def yk (al:List Int) (j:Nat) (vl:List Int):List Int:=vl.set j (IntKind.u32.wrap ((vl.getD j 0)+(al.getD j 0)))
def bZ (s bl:List Int):List Int:=iter (yk (mC (iter (sX (eX bl)) 64 (s.getD 0 0,s.getD 1 0,s.getD 2 0,s.getD 3 0,s.getD 4 0,s.getD 5 0,s.getD 6 0,s.getD 7 0)))) 8 s
theorem Aw {s bl:List Int}{xa xb xc xd xe xf xg xh:Int}(h:(xa,xb,xc,xd,xe,xf,xg,xh)=iter (sX (eX bl)) 64 (s.getD 0 0,s.getD 1 0,s.getD 2 0,s.getD 3 0,s.getD 4 0,s.getD 5 0,s.getD 6 0,s.getD 7 0)):iter (yk [xa,xb,xc,xd,xe,xf,xg,xh]) 8 s=bZ s bl:=by
 unfold bZ
 rw [<- h]
 rfl
theorem cD {s:List Int}(h:s.length=8) (bl:List Int):(bZ s bl).length=8 :=
 lh (p:=λl:List Int=>l.length=8) (λk a h=>by unfold yk;rw [List.length_set];exact h) 8 h
theorem zH {p:Prop}(h:p:=by first|omega|(simp only [pt,List.length_cons,List.length_nil];omega)):p:=h
theorem vh {w0 w:World}{L:List aI}(s:List Int) (bl:List Int) (hs8:s.length=8) (hb:bl.length=64) (hT:∀ w,St w0 L w->cQ w) (hs:St w0 L w):Calls Tryz.prog 208 #[.agg (ae aN s),.agg (ae af bl)] w (aZ λrv w'=>rv=.agg (ae aN (bZ s bl))/\St w0 L w'):=by
 refine bp Tryz.func208 Tryz.ntmps208 ?_
 refine En (Ls (Lg [0,1,2] (Dz ?_)))
 refine ar.box rfl rfl zk (v:=.agg (ae aN s)) zk hs (cs:=ae aN s) zk ?_
 intro b1 w2 hs3
 refine Lo (Dz ?_)
 refine ar.box rfl rfl zk (v:=.agg (ae af bl)) zk hs3 (cs:=ae af bl) zk ?_
 intro b4 w5 hs6
 refine Lo (Dz ?_)
 refine ar.alloc rfl rfl zk (z:=.agg wI) zk hs6 (cs:=wI) zk ?_
 intro b7 w8 hs9
 refine Lo (Ld (Lt (Ls (Dz ?_))))
 refine aE.aV [0,1,0,4,0,16,0,64,0,256,0,1024,0,4096,0,16384,3,65551,196671,459007,984063,2035711,4145151,8388607] (.rd 0 (.rd 1 (.rd 2 (.rd 3 (.rd 4 (.rd 5 (.rd 6 (.rd 7 (.rd 8 (.rd 9 (.rd 10 (.rd 11 (.rd 12 (.rd 13 (.rd 14 (.rd 15 (.rd 16 (.rd 17 (.rd 18 (.rd 19 (.rd 20 (.rd 21 (.rd 22 (.rd 23 .done)))))))))))))))))))))))) zk zk ai zk hs9 ?_
 intro w10 hs11 hw12
 refine gY (Hx 0 (0:Int) (8:Int) b1 0 1 (Hg 1 (.gen [.int .u32 (s.getD 0 0)]) [.cell ⟨b1,0,none⟩ (.int .u32 (s.getD 0 0))] (aG (ag.cC (au hs11 2 rfl aQ.size (0:Int)) (k:=0) zd (j:=0) zf zk) av) (Hx 2 (1:Int) (8:Int) b1 0 1 (Hg 3 (.gen [.int .u32 (s.getD 1 0)]) [.cell ⟨b1,1,none⟩ (.int .u32 (s.getD 1 0))] (aG (ag.cC (au hs11 2 rfl aQ.size (0:Int)) (k:=1) zd (j:=0) zf zk) av) (Hx 4 (2:Int) (8:Int) b1 0 1 (Hg 5 (.gen [.int .u32 (s.getD 2 0)]) [.cell ⟨b1,2,none⟩ (.int .u32 (s.getD 2 0))] (aG (ag.cC (au hs11 2 rfl aQ.size (0:Int)) (k:=2) zd (j:=0) zf zk) av) (Hx 6 (3:Int) (8:Int) b1 0 1 (Hg 7 (.gen [.int .u32 (s.getD 3 0)]) [.cell ⟨b1,3,none⟩ (.int .u32 (s.getD 3 0))] (aG (ag.cC (au hs11 2 rfl aQ.size (0:Int)) (k:=3) zd (j:=0) zf zk) av) (Hx 8 (4:Int) (8:Int) b1 0 1 (Hg 9 (.gen [.int .u32 (s.getD 4 0)]) [.cell ⟨b1,4,none⟩ (.int .u32 (s.getD 4 0))] (aG (ag.cC (au hs11 2 rfl aQ.size (0:Int)) (k:=4) zd (j:=0) zf zk) av) (Hx 10 (5:Int) (8:Int) b1 0 1 (Hg 11 (.gen [.int .u32 (s.getD 5 0)]) [.cell ⟨b1,5,none⟩ (.int .u32 (s.getD 5 0))] (aG (ag.cC (au hs11 2 rfl aQ.size (0:Int)) (k:=5) zd (j:=0) zf zk) av) (Hx 12 (6:Int) (8:Int) b1 0 1 (Hg 13 (.gen [.int .u32 (s.getD 6 0)]) [.cell ⟨b1,6,none⟩ (.int .u32 (s.getD 6 0))] (aG (ag.cC (au hs11 2 rfl aQ.size (0:Int)) (k:=6) zd (j:=0) zf zk) av) (Hx 14 (7:Int) (8:Int) b1 0 1 (Hg 15 (.gen [.int .u32 (s.getD 7 0)]) [.cell ⟨b1,7,none⟩ (.int .u32 (s.getD 7 0))] (aG (ag.cC (au hs11 2 rfl aQ.size (0:Int)) (k:=7) zd (j:=0) zf zk) av) Hz)))))))))))))))) ?_
 refine En (Lt (Ls (Ls (Lg [0] (Dz ?_)))))
 have hs13:=hs11.pl 1
 refine aF Tryz.call219 (vg bl zc hs13) ?_
 rintro v15 w16 ⟨rfl,hs14⟩
 refine Lo (aL (Lt (Lb (Dz ?_))))
 refine aE.loop (T:=Nat×Int×Int×Int×Int×Int×Int×Int×Int) (λgg=>[(2,zP b1 0),(4,zP b7 0),(5,.int .u32 gg.2.1),(6,.int .u32 gg.2.2.1),(7,.int .u32 gg.2.2.2.1),(8,.int .u32 gg.2.2.2.2.1),(9,.int .u32 gg.2.2.2.2.2.1),(10,.int .u32 gg.2.2.2.2.2.2.1),(11,.int .u32 gg.2.2.2.2.2.2.2.1),(12,.int .u32 gg.2.2.2.2.2.2.2.2),(35,.agg (ae aN (eX bl))),(36,.int .i64 (gg.1:Nat))]) (λgg w=>(gg.1<=64/\(gg.2.1,gg.2.2.1,gg.2.2.2.1,gg.2.2.2.2.1,gg.2.2.2.2.2.1,gg.2.2.2.2.2.2.1,gg.2.2.2.2.2.2.2.1,gg.2.2.2.2.2.2.2.2)=iter (sX (eX bl)) gg.1 ((s.getD 0 0),s.getD 1 0,s.getD 2 0,s.getD 3 0,s.getD 4 0,s.getD 5 0,s.getD 6 0,(s.getD 7 0)))/\St w0 (ah b4 (ae af bl) 299::ah b7 wI 297::ah b1 (ae aN s) 297::L) w) (λgg=>64-gg.1) (0,s.getD 0 0,s.getD 1 0,s.getD 2 0,s.getD 3 0,s.getD 4 0,s.getD 5 0,s.getD 6 0,(s.getD 7 0)) [2,4,5,6,7,8,9,10,11,12,35,36] zk ⟨⟨Nat.zero_le _,rfl⟩,hs14⟩ ?_
 rintro⟨k,xa,xb,xc,xd,xe,xf,xg,xh⟩ w17 ⟨hp0,hs18⟩
 have hp:k<=64/\(xa,xb,xc,xd,xe,xf,xg,xh)=iter (sX (eX bl)) k ((s.getD 0 0),s.getD 1 0,s.getD 2 0,s.getD 3 0,s.getD 4 0,s.getD 5 0,s.getD 6 0,(s.getD 7 0)):=hp0
 have hs19:St w0 (ah b4 (ae af bl) 299::ah b7 wI 297::ah b1 (ae aN s) 297::L) w17:=hs18
 refine Zn [(2,zP b1 0),(4,zP b7 0),(5,.int .u32 xa),(6,.int .u32 xb),(7,.int .u32 xc),(8,.int .u32 xd),(9,.int .u32 xe),(10,.int .u32 xf),(11,.int .u32 xg),(12,.int .u32 xh),(35,.agg (ae aN (eX bl))),(36,.int .i64 (k:Nat))] ?_
 refine En (Ls (La (Lt (Ls (Dz ?_)))))
 refine Zi (((k:Nat):Int)<64) (λh20'=>?_) (λh20'=>?_)
 ·refine Zk (Zt (Zs (Zb (Zs (?_)))))
  refine bj (Hg 1 (.elem (.int .u32 ((eX bl).getD k 0))) [.prop (0<=((k:Nat):Int)/\((k:Nat):Int)<(64:Int)),.prop ((ae aN (eX bl))[Int.toNat (k:Nat)*1]?=some (.int .u32 ((eX bl).getD k 0)))] (aB za (aB (qY (d:=(0:Int)) (k:=k) aQ za zH zk) av)) Hz) ?_
  refine Zt (Zs (?_))
  refine aE.aV [0,0,2,0,14,30,0,94,254,511,0,0,3072,0,8192,0,57344,130048,262143,0,524288,1572864,4194303,0,16777215,33554431] (.rd 0 (.rd 1 (.rd 3 (.rd 6 (.rd 10 (.rd 11 (.rd 12 (.rd 13 (.rd 14 (.rd 15 (.rd 16 (.rd 17 (.rd 19 (.rd 20 (.rd 21 (.rd 23 (.ef 2 (.ef 4 (.rd 5 (.ef 7 (.rd 8 (.rd 9 (.rd 18 (.rd 22 (.rd 24 (.rd 25 .done)))))))))))))))))))))))))) zk zk ai zk hs19 ?_
  intro w21 hs22 hw23
  refine Zj (Hx 20 ((k:Nat):Int) (64:Int) 0 0 1 (Hg 21 (.gen [.int .u32 (shaT.getD k 0)]) [.cell ⟨0,0+(k*1),none⟩ (.int .u32 (shaT.getD k 0))] (aG (ag.cC (hT _ (hs22.drop 3)) (k:=k) zd (j:=0) zf zk) av) Hz)) ?_
  refine aF Tryz.call220 (dK xe 6  hs22) ?_
  rintro v25 w26 ⟨rfl,hs24⟩
  refine⟨bw (n:=[.cell ⟨0,0+(k*1),none⟩ (.int .u32 (shaT.getD k 0)),.prop (0<=((k:Nat):Int)/\((k:Nat):Int)<(64:Int)),.prop (Value.pointer (some (Addr.add ⟨0,0,none⟩ (Int.toNat (k:Nat)*1)))=Value.pointer (some ⟨0,0+(k*1),none⟩))]) zk (aG (ag.cC (hT _ (hs24.drop 3)) (k:=k) zd (j:=0) zf zk) (aB za (aB (aS _ _ _) av))),?_⟩
  refine aF Tryz.call220 (dK xe 11  hs24) ?_
  rintro v28 w29 ⟨rfl,hs27⟩
  refine⟨bw (n:=[.cell ⟨0,0+(k*1),none⟩ (.int .u32 (shaT.getD k 0)),.prop (0<=((k:Nat):Int)/\((k:Nat):Int)<(64:Int)),.prop (Value.pointer (some (Addr.add ⟨0,0,none⟩ (Int.toNat (k:Nat)*1)))=Value.pointer (some ⟨0,0+(k*1),none⟩))]) zk (aG (ag.cC (hT _ (hs27.drop 3)) (k:=k) zd (j:=0) zf zk) (aB za (aB (aS _ _ _) av))),?_⟩
  refine En (Lu (Dz ?_))
  refine aF Tryz.call220 (dK xe 25  hs27) ?_
  rintro v31 w32 ⟨rfl,hs30⟩
  refine⟨bw (n:=[.cell ⟨0,0+(k*1),none⟩ (.int .u32 (shaT.getD k 0)),.prop (0<=((k:Nat):Int)/\((k:Nat):Int)<(64:Int)),.prop (Value.pointer (some (Addr.add ⟨0,0,none⟩ (Int.toNat (k:Nat)*1)))=Value.pointer (some ⟨0,0+(k*1),none⟩))]) zk (aG (ag.cC (hT _ (hs30.drop 3)) (k:=k) zd (j:=0) zf zk) (aB za (aB (aS _ _ _) av))),?_⟩
  refine En (aL (Lt (Ls (Lg [1,3,6] (Lu (Dz ?_))))))
  refine aF Tryz.call220 (dK xa 2  hs30) ?_
  rintro v34 w35 ⟨rfl,hs33⟩
  refine Lo (Lu (Dz ?_))
  refine aF Tryz.call220 (dK xa 13  hs33) ?_
  rintro v37 w38 ⟨rfl,hs36⟩
  refine Lo (Lu (Dz ?_))
  refine aF Tryz.call220 (dK xa 22  hs36) ?_
  rintro v40 w41 ⟨rfl,hs39⟩
  refine Lo (aL (Lt (La (Lm (Lt (Dz ?_))))))
  refine bj (cH 0 ((k:Nat)+1) Hz) ?_
  exact aw.back (k+1,IntKind.u32.wrap ((IntKind.u32.wrap ((IntKind.u32.wrap ((IntKind.u32.wrap ((IntKind.u32.wrap (xh+(bN .u32 (bN .u32 (bJ xe 6) (bJ xe 11)) (bJ xe 25))))+(bN .u32 (eG .u32 xe xf) (eG .u32 (xK .u32 xe) xg))))+(shaT.getD k 0)))+((eX bl).getD k 0)))+(IntKind.u32.wrap ((bN .u32 (bN .u32 (bJ xa 2) (bJ xa 13)) (bJ xa 22))+(bN .u32 (bN .u32 (eG .u32 xa xb) (eG .u32 xa xc)) (eG .u32 xb xc))))),xa,xb,xc,IntKind.u32.wrap (xd+(IntKind.u32.wrap ((IntKind.u32.wrap ((IntKind.u32.wrap ((IntKind.u32.wrap (xh+(bN .u32 (bN .u32 (bJ xe 6) (bJ xe 11)) (bJ xe 25))))+(bN .u32 (eG .u32 xe xf) (eG .u32 (xK .u32 xe) xg))))+(shaT.getD k 0)))+((eX bl).getD k 0)))),xe,xf,xg) [2,4,5,6,7,8,9,10,11,12,35,36] zk (by show 64-(k+1)<64-k;omega) ⟨⟨za,by rw [cF,<- hp.2];rfl⟩,hs39⟩
 ·refine En (Lx (gv (gw (Lh (Lt (Ls (Ls (La (Lt (Lb (Dz ?_)))))))))))
  refine aE.loop (T:=Nat×(List Int)) (λgg=>[(2,zP b1 0),(4,zP b7 0),(106,.agg (ae aN ([xa,xb,xc,xd,xe,xf,xg,xh]))),(107,.int .i64 (gg.1:Nat))]) (λgg w=>(gg.1<=8/\gg.2=iter (yk [xa,xb,xc,xd,xe,xf,xg,xh]) gg.1 s/\gg.2.length=8)/\St w0 (ah b4 (ae af bl) 299::ah b7 wI 297::ah b1 (ae aN gg.2) 297::L) w) (λgg=>8-gg.1) (0,s) [2,4,106,107] zk ⟨⟨Nat.zero_le _,rfl,hs8⟩,hs19⟩ ?_
  rintro⟨j,vl⟩ w42 ⟨hp10,hs43⟩
  have hp1:j<=8/\vl=iter (yk [xa,xb,xc,xd,xe,xf,xg,xh]) j s/\vl.length=8:=hp10
  have hs44:St w0 (ah b4 (ae af bl) 299::ah b7 wI 297::ah b1 (ae aN vl) 297::L) w42:=hs43
  refine Zn [(2,zP b1 0),(4,zP b7 0),(106,.agg (ae aN ([xa,xb,xc,xd,xe,xf,xg,xh]))),(107,.int .i64 (j:Nat))] ?_
  refine En (Ls (La (Lt (Ls (Dz ?_)))))
  refine Zi (((j:Nat):Int)<8) (λh45'=>?_) (λh45'=>?_)
  ·refine Zk (Zt (Zs (Zb (Zs (?_)))))
   refine bj (Hg 1 (.elem (.int .u32 (([xa,xb,xc,xd,xe,xf,xg,xh]).getD j 0))) [.prop (0<=((j:Nat):Int)/\((j:Nat):Int)<(8:Int)),.prop ((ae aN ([xa,xb,xc,xd,xe,xf,xg,xh]))[Int.toNat (j:Nat)*1]?=some (.int .u32 (([xa,xb,xc,xd,xe,xf,xg,xh]).getD j 0)))] (aB za (aB (qY (d:=(0:Int)) (k:=j) aQ za zH zk) av)) Hz) ?_
   refine Zt (?_)
   refine bL [6] (Hx 1 ((j:Nat):Int) (8:Int) b1 0 1 (Hg 2 (.gen [.int .u32 (vl.getD j 0)]) [.cell ⟨b1,0+(j*1),none⟩ (.int .u32 (vl.getD j 0))] (aG (ag.cC (au hs44 2 rfl aQ.size (0:Int)) (k:=j) zd (j:=0) zf zk) av) (Hx 5 ((j:Nat):Int) (8:Int) b1 0 1 Hz))) ?_
   refine ar.store rfl rfl zk (b:=b1) (off:=0+(j*1)) (v:=.int .u32 (IntKind.u32.wrap ((vl.getD j 0)+(([xa,xb,xc,xd,xe,xf,xg,xh]).getD j 0)))) zk zk (ti:=Tryz.t296) zk hs44 2 rfl zk zk (by rw [Nat.zero_add];exact fH (f:=aN) (size:=1) (l:=vl) (k:=j) aQ.size zd) (cs':=ae aN (vl.set j (IntKind.u32.wrap ((vl.getD j 0)+(([xa,xb,xc,xd,xe,xf,xg,xh]).getD j 0))))) (L':=(ah b4 (ae af bl) 299)::ah b7 wI 297::ah b1 (ae aN (vl.set j (IntKind.u32.wrap ((vl.getD j 0)+(([xa,xb,xc,xd,xe,xf,xg,xh]).getD j 0))))) 297::L) (by rw [Nat.zero_add];exact eh (f:=aN) (size:=1) (l:=vl) (k:=j) aQ.size zd (IntKind.u32.wrap ((vl.getD j 0)+(([xa,xb,xc,xd,xe,xf,xg,xh]).getD j 0)))) rfl ?_
   intro w46 hs47
   refine Lo (Ld (Lm (Lt (Dz ?_))))
   refine bj (cH 0 ((j:Nat)+1) Hz) ?_
   exact aw.back (j+1,vl.set j (IntKind.u32.wrap ((vl.getD j 0)+(([xa,xb,xc,xd,xe,xf,xg,xh]).getD j 0)))) [2,4,106,107] zk (by show 8-(j+1)<8-j;omega) ⟨⟨za,by rw [cF,<- hp1.2.1];rfl,by simp only [List.length_set];exact hp1.2.2⟩,hs47⟩
  ·refine Zx (aw.da (aw.dc (aw.jR (Zt (Zs (?_))))))
   refine bL [1] (Hg 0 (.agg (ae aN vl)) [.prop (Array.size (ae aN vl)=8),.cells ⟨b1,0,none⟩ (ae aN vl)] (aB (bt aQ (show(vl).length=8 from hp1.2.2) rfl) (dq (hs44.cells 2 0 rfl zG) av)) Hz) ?_
   refine ar.store rfl rfl zk (b:=b7) (off:=0) (v:=.agg (ae aN vl)) zk zk (ti:=Tryz.t297) zk hs44 1 rfl (bQ aQ (show(vl).length=8 from hp1.2.2) zk) (cX aQ) (cJ aQ (show(vl).length=8 from hp1.2.2) zk) (cs':=ae aN vl) (L':=(ah b4 (ae af bl) 299)::ah b7 (ae aN vl) 297::ah b1 (ae aN vl) 297::L) (dz aQ (show(vl).length=8 from hp1.2.2) zk) rfl ?_
   intro w48 hs49
   refine Lo (Ld (Lt (Le (Dz ?_))))
   refine aw.done (.inl rfl) (v:=.agg (ae aN vl)) (λa hf=>ct rfl zk (ti:=Tryz.t297) zk zk (vs:=ae aN vl) (bt aQ (show(vl).length=8 from hp1.2.2) zk) (hs49.cells 1 0 rfl zG) a hf) ?_
   have hs50:=hs49.dr 3
   exact⟨(by rw [hp1.2.1,show j=8 by omega];exact congrArg (λl=>Value.agg (ae aN l)) (Aw (hp.2.trans (by rw [show k=64 by omega])))),hs50⟩
end Go.Proofs.YtdaohdehpmgfdaaGreatDoor
namespace Go.Proofs.YtdaohdehpmgfdaaGreatDoor
open Go.RowKit Go.Sx
set_option linter.unusedVariables false
set_option linter.unusedSimpArgs false
set_option maxRecDepth 100000
set_option linter.unusedSectionVars false
theorem fk:∀ (vs pre jU post:List Value),jU.length=vs.length->bI (pre++jU++post).toArray pre.length vs=(pre++vs++post).toArray
 | [],pre,jU,post,h=>by
  have:jU=[]:=List.length_eq_zero_iff.1 h
  subst this
  rfl
 | v::vs,pre,m::jU,post,h=>by
  have h1:jU.length=vs.length:=by simpa using h
  have e:((pre++m::jU++post).toArray.setIfInBounds pre.length v)=((pre++[v])++jU++post).toArray:=by
   apply Array.ext'
   simp [List.set_append]
  have ih:=fk vs (pre++[v]) jU post h1
  rw [List.length_append] at ih
  show bI ((pre++m::jU++post).toArray.setIfInBounds pre.length v) (pre.length+1) vs=_
  rw [e]
  rw [show pre.length+1=pre.length+[v].length from rfl,ih]
  congr 1
  simp
 | _::_,_,[],_,h=>by simp at h
def fO (s part:List Int) (n all:Int):List Value:=s.map (Value.int .u32)++part.map (Value.int .u8)++[.int .i64 n,.int .u64 all]
def aU (s part:List Int) (n all:Int):Array Value:=(fO s part n all).toArray
theorem sY (l:List Int):(ae aN l)=(l.map (Value.int .u32)).toArray:=by
 apply Array.ext'
 simp only [ae]
 induction l with
 | nil=>rfl
 | cons a l ih=>simp only [List.flatMap_cons,List.map_cons,ih];rfl
theorem jo (l:List Int):(l.flatMap λx=>(af x).toList)=l.map (Value.int .u8):=by
 induction l with
 | nil=>rfl
 | cons a l ih=>simp only [List.flatMap_cons,List.map_cons,ih];rfl
theorem ku (l:List Int):(ae af l)=(l.map (Value.int .u8)).toArray:=by
 apply Array.ext'
 simp only [ae]
 exact jo l
section
variable {s part : List Int} {n all : Int} (h8 : s.length = 8) (h64 : part.length = 64)
include h8 h64
theorem gE:(aU s part n all).size=74:=by
 simp only [aU,fO,List.size_toArray,List.length_append,List.length_map,List.length_cons,List.length_nil];omega
theorem rm:(aU s part n all)[72]?=some (.int .i64 n):=by
 simp only [aU,fO,List.getElem?_toArray]
 rw [List.getElem?_append_right (by simp only [List.length_append,List.length_map];omega)]
 simp only [List.length_append,List.length_map,h8,h64]
 rfl
theorem sZ:(aU s part n all)[73]?=some (.int .u64 all):=by
 simp only [aU,fO,List.getElem?_toArray]
 rw [List.getElem?_append_right (by simp only [List.length_append,List.length_map];omega)]
 simp only [List.length_append,List.length_map,h8,h64]
 rfl
theorem Ax:(aU s part n all).extract 0 (0+(ae aN s).size)=ae aN s:=by
 rw [sY]
 apply Array.ext'
 simp only [aU,fO,List.extract_toArray,List.size_toArray,List.length_map,List.extract_eq_take_drop,List.drop_zero,Nat.zero_add,Nat.sub_zero,List.append_assoc]
 exact List.take_left' (List.length_map ..)
theorem yl:(aU s part n all).extract 8 (8+(ae af part).size)=ae af part:=by
 rw [ku]
 apply Array.ext'
 simp only [aU,fO,List.extract_toArray,List.size_toArray,List.length_map,List.extract_eq_take_drop,Nat.add_sub_cancel_left]
 rw [List.append_assoc,List.drop_left' (by rw [List.length_map,h8]),List.take_left' (List.length_map ..)]
theorem Cn (m:Int):bI (aU s part n all) 72 [.int .i64 m]=aU s part m all:=by
 have:=fk [.int .i64 m] (s.map (Value.int .u32)++part.map (Value.int .u8)) [.int .i64 n] [.int .u64 all] rfl
 rw [show(s.map (Value.int .u32)++part.map (Value.int .u8)).length=72 by simp only [List.length_append,List.length_map];omega] at this
 simpa [aU,fO] using this
theorem BL (m:Int):bI (aU s part n all) 73 [.int .u64 m]=aU s part n m:=by
 have:=fk [.int .u64 m] (s.map (Value.int .u32)++part.map (Value.int .u8)++[.int .i64 n]) [.int .u64 all] [] rfl
 rw [show(s.map (Value.int .u32)++part.map (Value.int .u8)++[Value.int .i64 n]).length=73 by simp only [List.length_append,List.length_map,List.length_cons,List.length_nil];omega] at this
 simpa [aU,fO] using this
theorem DD {s':List Int}(h:s'.length=8):bI (aU s part n all) 0 (Value.cells (.agg (ae aN s'))).toList=aU s' part n all:=by
 have:=fk (s'.map (Value.int .u32)) [] (s.map (Value.int .u32)) (part.map (Value.int .u8)++[.int .i64 n,.int .u64 all]) (by rw [List.length_map,List.length_map,h8,h])
 have e:(Value.cells (.agg (ae aN s'))).toList=s'.map (Value.int .u32):=by show(ae aN s').toList=_;rw [sY]
 rw [e]
 simpa [aU,fO] using this
theorem ym {s' part':List Int}{n' all':Int}(h8':s'.length=8) (h64':part'.length=64):bI (aU s part n all) 0 (Value.cells (.agg (aU s' part' n' all'))).toList=aU s' part' n' all':=by
 have:=fk (fO s' part' n' all') [] (fO s part n all) [] (by simp only [fO,List.length_append,List.length_map,List.length_cons,List.length_nil];omega)
 rw [List.nil_append,List.append_nil,List.nil_append,List.append_nil] at this
 exact this
def bH (part:List Int) (a:Nat) (ys:List Int):List Int:=part.take a++ys++part.drop (a+ys.length)
omit h8 in
theorem ru {a:Nat}{ys:List Int}(h:a+ys.length<=64):(bH part a ys).length=64:=by
 simp only [bH,List.length_append,List.length_take,List.length_drop];omega
theorem Ay {a:Nat}{ys:List Int}(h:a+ys.length<=64):bI (aU s part n all) (8+a) (ys.flatMap λx=>(af x).toList)=aU s (bH part a ys) n all:=by
 have e1:part=part.take a++(part.drop a).take ys.length++part.drop (a+ys.length):=by
  rw [List.append_assoc,<- List.drop_drop,List.take_append_drop,List.take_append_drop]
 have:=fk (ys.map (Value.int .u8)) (s.map (Value.int .u32)++(part.take a).map (Value.int .u8)) (((part.drop a).take ys.length).map (Value.int .u8)) ((part.drop (a+ys.length)).map (Value.int .u8)++[.int .i64 n,.int .u64 all])
  (by simp only [List.length_map,List.length_take,List.length_drop];omega)
 rw [show(s.map (Value.int .u32)++(part.take a).map (Value.int .u8)).length=8+a by simp only [List.length_append,List.length_map,List.length_take];omega] at this
 rw [jo]
 have e2:fO s part n all=s.map (Value.int .u32)++(part.take a).map (Value.int .u8)++((part.drop a).take ys.length).map (Value.int .u8)++((part.drop (a+ys.length)).map (Value.int .u8)++[.int .i64 n,.int .u64 all]):=by
  conv=>lhs;rw [fO,e1]
  simp only [List.map_append,List.append_assoc]
 have e3:fO s (bH part a ys) n all=s.map (Value.int .u32)++(part.take a).map (Value.int .u8)++ys.map (Value.int .u8)++((part.drop (a+ys.length)).map (Value.int .u8)++[.int .i64 n,.int .u64 all]):=by
  simp only [fO,bH,List.map_append,List.append_assoc]
 rw [aU,aU,e2,e3]
 exact this
end
abbrev HS:=List Int×List Int×Nat
structure kI (h:HS):Prop where
 s:h.1.length=8
 part:h.2.1.length=64
 n:h.2.2<64
def nd (h:HS) (l:List Int):Nat:=min l.length (64-h.2.2)
def jq (h:HS) (l:List Int):List Int:=bH h.2.1 h.2.2 (l.take (nd h l))
def fK (h:HS) (l:List Int):HS:=if h.2.2+nd h l=64 then (bZ h.1 (jq h l),jq h l,0) else (h.1,jq h l,h.2.2+nd h l)
def y8:Nat->HS->List Int->HS
 | 0,h,_=>h
 | f+1,h,l=>if l.length=0 then h else y8 f (fK h l) (l.drop (nd h l))
def ic (h:HS) (l:List Int):HS:=y8 l.length h l
theorem bM {h:HS}(ok:kI h) (l:List Int):(jq h l).length=64:=by
 have h1:=ok.part;have h2:=ok.n
 refine ru h1 ?_
 rw [List.length_take]
 unfold nd
 omega
theorem fS {h:HS}(ok:kI h) (l:List Int):kI (fK h l):=by
 unfold fK
 split
 ·exact⟨cD ok.s _,bM ok l,by show(0:Nat)<64;omega⟩
 ·rename_i hn
  refine⟨ok.s,bM ok l,?_⟩
  show h.2.2+nd h l<64
  have h2:=ok.n
  have:nd h l<=64-h.2.2:=Nat.min_le_right _ _
  omega
theorem qk:∀ (f g:Nat) (h:HS) (l:List Int),kI h->l.length<=f->l.length<=g->y8 f h l=y8 g h l
 | 0,0,_,_,_,_,_=>rfl
 | 0,g+1,h,l,ok,hf,_=>by
  have h0:l.length=0:=za
  rw [y8,y8,if_pos h0]
 | f+1,0,h,l,ok,_,hg=>by
  have h0:l.length=0:=za
  rw [y8,y8,if_pos h0]
 | f+1,g+1,h,l,ok,hf,hg=>by
  rw [y8,y8]
  by_cases h0:l.length=0
  ·rw [if_pos h0,if_pos h0]
  ·rw [if_neg h0,if_neg h0]
   have hk:1<=nd h l:=by unfold nd;have:=ok.n;omega
   exact qk f g _ _ (fS ok l) zO zO
theorem oq {h:HS}(ok:kI h){l:List Int}(hl:0<l.length):ic h l=ic (fK h l) (l.drop (nd h l)):=by
 have hk:1<=nd h l:=by unfold nd;have:=ok.n;omega
 unfold ic
 obtain⟨f,hf⟩:∃ f,l.length=f+1:=⟨l.length-1,za⟩
 rw [hf,y8,if_neg za]
 exact qk _ _ _ _ (fS ok l) zO (Nat.le_refl _)
theorem xi {h:HS}{l:List Int}(hl:¬ 0<l.length):ic h l=h:=by
 unfold ic
 rw [show l.length=0 by omega]
 rfl
theorem eD {h:HS}(ok:kI h) (l:List Int):kI (ic h l):=by
 unfold ic
 generalize l.length=f
 induction f generalizing h l with
 | zero=>exact ok
 | succ f ih =>
  rw [y8]
  split
  ·exact ok
  ·exact ih (fS ok l) _
theorem BM {h:HS}(x:Int):ic h [x]=fK h [x]:=rfl
theorem lY {h:HS}(ok:kI h) (x:Int):(ic h [x]).2.2=if h.2.2+1=64 then 0 else h.2.2+1:=by
 have hn:=ok.n
 have hk:nd h [x]=1:=by unfold nd;simp only [List.length_cons,List.length_nil];omega
 rw [BM,fK,hk]
 split<;>rfl
def CX:Nat->HS->HS
 | 0,h=>h
 | f+1,h=>CX f (ic h [0])
def pad (h:HS):HS:=CX ((120-h.2.2) % 64) h
theorem Az {h:HS}(ok:kI h) (hn:h.2.2≠56):pad (ic h [0])=pad h:=by
 have h1:=lY ok 0
 have h2:=ok.n
 unfold pad
 rw [h1]
 have e:(120-h.2.2) % 64=(120-(if h.2.2+1=64 then 0 else h.2.2+1)) % 64+1:=by split<;>omega
 rw [e]
 rfl
theorem AA {h:HS}(ok:kI h) (hn:h.2.2≠56):(120-(ic h [0]).2.2) % 64<(120-h.2.2) % 64:=by
 have h1:=lY ok 0
 have h2:=ok.n
 rw [h1]
 split<;>omega
theorem BN {h:HS}(hn:h.2.2=56):pad h=h:=by unfold pad;rw [hn];rfl
theorem yn (s part:List Int) (n all:Int):(Value.cells (.agg (aU s part n all))).toList.all mV=true:=by
 show(fO s part n all).all mV=true
 rw [List.all_eq_true]
 intro u hu
 simp only [fO,List.mem_append,List.mem_map,List.mem_cons,List.not_mem_nil,or_false] at hu
 rcases hu with(⟨x,-,rfl⟩|⟨x,-,rfl⟩)|(rfl|rfl)<;>rfl
theorem vi {s part:List Int}{n all:Int}(h8:s.length=8) (h64:part.length=64):(aU s part n all).extract 0 (0+(aU s part n all).size)=aU s part n all:=by
 rw [Nat.zero_add,Array.extract_size]
theorem BO {l ys:List Int}{a:Nat}(h:a+ys.length<=l.length):bI (ae af l) a (ys.flatMap λx=>(af x).toList)=ae af (bH l a ys):=by
 have e1:l=l.take a++(l.drop a).take ys.length++l.drop (a+ys.length):=by
  rw [List.append_assoc,<- List.drop_drop,List.take_append_drop,List.take_append_drop]
 have:=fk (ys.map (Value.int .u8)) ((l.take a).map (Value.int .u8)) (((l.drop a).take ys.length).map (Value.int .u8)) ((l.drop (a+ys.length)).map (Value.int .u8)) (by simp only [List.length_map,List.length_take,List.length_drop];omega)
 rw [show((l.take a).map (Value.int .u8)).length=a by simp only [List.length_map,List.length_take];omega] at this
 rw [jo,ku,ku]
 have e2:l.map (Value.int .u8)=(l.take a).map (Value.int .u8)++((l.drop a).take ys.length).map (Value.int .u8)++(l.drop (a+ys.length)).map (Value.int .u8):=by
  conv=>lhs;rw [e1]
  simp only [List.map_append]
 have e3:(bH l a ys).map (Value.int .u8)=(l.take a).map (Value.int .u8)++ys.map (Value.int .u8)++(l.drop (a+ys.length)).map (Value.int .u8):=by
  simp only [bH,List.map_append]
 rw [e2,e3]
 exact this
theorem qo {l ys:List Int}{a:Nat}(h:a+ys.length<=l.length):(bH l a ys).length=l.length:=by
 simp only [bH,List.length_append,List.length_take,List.length_drop];omega
end Go.Proofs.YtdaohdehpmgfdaaGreatDoor
namespace Go.Proofs.YtdaohdehpmgfdaaGreatDoor
open Go.RowKit Go.Sx
set_option linter.unusedVariables false
set_option linter.unusedSimpArgs false
set_option linter.unnecessarySimpa false
set_option maxRecDepth 100000
theorem jM {s part:List Int}{n all:Int}(h8:s.length=8) (h64:part.length=64){m:Nat}(h:m<=74):m<=(aU s part n all).size:=by rw [gE h8 h64];exact h
theorem gR {w0 w:World}{L:List aI}{h:Nat}{ad0:Option Addr}{c0:Nat}(s0:List Int) (p0:List Int) (n0:Nat) (all:Int) (l:List Int) (hk0:kI (s0,p0,n0)) (hcap:l.length<=c0) (hln:l.length<=1000000000000) (hT:∀ w,St w0 L w->cQ w) (hr:∀ w,St w0 L w->ag w ad0 l.length 1 (λk=>af (l.getD k 0))) (hs:St w0 (ah h (aU s0 p0 (n0:Nat) all) 322::L) w):Calls Tryz.prog 189 #[zP h 0,.slice ad0 l.length c0] w (aZ λrv w'=>rv=.tuple #[]/\St w0 (ah h (aU ((ic (s0,p0,n0) l).1) ((ic (s0,p0,n0) l).2.1) ((ic (s0,p0,n0) l).2.2:Nat) (IntKind.u64.wrap (all+(IntKind.u64.wrap (l.length:Nat))))) 322::L) w'):=by
 refine bp Tryz.func189 Tryz.ntmps189 ?_
 refine En (Ls (Ls (La (Lt (LF (Lk (Lt (Ls (Dz ?_)))))))))
 refine bL [10] (Hg 3 (.gen [.int .u64 all]) [.cell ⟨h,73,none⟩ (.int .u64 all)] (aG (hs.cell 0 rfl (sZ hk0.s hk0.part)) av) Hz) ?_
 refine ar.store rfl rfl zk (b:=h) (off:=73) (v:=.int .u64 (IntKind.u64.wrap (all+(IntKind.u64.wrap (l.length:Nat))))) zk zk (ti:=Tryz.t31) zk hs 0 rfl zk zk (jM hk0.s hk0.part (Nat.le_of_ble_eq_true zk)) (cs':=aU s0 p0 (n0:Nat) (IntKind.u64.wrap (all+(IntKind.u64.wrap (l.length:Nat))))) (L':=(ah h (aU s0 p0 (n0:Nat) (IntKind.u64.wrap (all+(IntKind.u64.wrap (l.length:Nat))))) 322)::L) (BL hk0.s hk0.part _) rfl ?_
 intro w1 hs2
 refine Lo (Ld (Lt (Lb (Dz ?_))))
 refine aE.loop (T:=(List Int)×(List Int)×Nat×(Option Addr)×Nat×(List Int)) (λgg=>[(0,zP h 0),(1,.slice gg.2.2.2.1 gg.2.2.2.2.2.length gg.2.2.2.2.1)]) (λgg w=>(kI (gg.1,gg.2.1,gg.2.2.1)/\gg.2.2.2.2.2.length<=gg.2.2.2.2.1/\ic (gg.1,gg.2.1,gg.2.2.1) gg.2.2.2.2.2=ic (s0,p0,n0) l/\(∀ w,St w0 L w->ag w gg.2.2.2.1 gg.2.2.2.2.2.length 1 (λk=>af (gg.2.2.2.2.2.getD k 0))))/\St w0 (ah h (aU gg.1 gg.2.1 (gg.2.2.1:Nat) (IntKind.u64.wrap (all+(IntKind.u64.wrap (l.length:Nat))))) 322::L) w) (λgg=>gg.2.2.2.2.2.length) (s0,p0,n0,ad0,c0,l) [0,1] zk ⟨⟨hk0,hcap,rfl,hr⟩,hs2⟩ ?_
 rintro⟨s,part,n,ad,c,r⟩ w3 ⟨hp0,hs4⟩
 have hp:kI (s,part,n)/\r.length<=c/\ic (s,part,n) r=ic (s0,p0,n0) l/\(∀ w,St w0 L w->ag w ad r.length 1 (λk=>af (r.getD k 0))):=hp0
 have hs5:St w0 (ah h (aU s part (n:Nat) (IntKind.u64.wrap (all+(IntKind.u64.wrap (l.length:Nat))))) 322::L) w3:=hs4
 refine Zn [(0,zP h 0),(1,.slice ad r.length c)] ?_
 obtain⟨ok,hrc,heq,hrow⟩:=hp
 have hn:n<64:=ok.n
 refine En (Ls (Ls (La (Lt (Dz ?_)))))
 refine Zi (((r.length:Nat):Int)>0) (λh6'=>?_) (λh6'=>?_)
 ·have hr0:0<r.length:=za
  refine Zk (Zt (Zb (Zs (?_))))
  refine aE.aV [0,1,3,0,8,24,56,127,0,511,1023] (.rd 0 (.rd 1 (.rd 2 (.rd 3 (.rd 4 (.rd 5 (.rd 6 (.rd 7 (.rd 8 (.ef 9 (.rd 10 .done))))))))))) zk zk ai zk hs5 ?_
  intro w7 hs8 hw9
  refine Zj (Hg 6 (.gen [.int .i64 (n:Nat)]) [.cell ⟨h,72,none⟩ (.int .i64 (n:Nat))] (aG (hs8.cell 0 rfl (rm ok.s ok.part)) av) (Hg 7 (.cI (zL h (8+(n*1)) (64-n) (64-n)) (.sub n 64)) [.prop (((n:Nat):Int)=((n:Nat):Int)),.prop (((some (Operand.tmp 26))=none->(n:Nat)=0)/\((none:Option Operand)=none->(64:Nat)=64)/\(n:Nat)<=64/\(64:Nat)<=64),.prop (Value.slice (some (if 64=n then Addr.mk h 8 none else (Addr.mk h 8 none).add (n*1))) (64-n) (64-n)=Value.slice (some ⟨h,8+(n*1),none⟩) (64-n) (64-n))] (aB za (aB ⟨(by first|(intro _;rfl)|(intro hc;cases hc)),(by first|(intro _;rfl)|(intro hc;cases hc)),za,za⟩ (aB (jG za za) av))) Hz)) ?_
  refine ar.copy rfl zk aJ aj (b:=h) (off:=8+(n*1)) (dLen:=64-n) (dCap:=(64-n)) (ys:=r) (adx:=ad) (cx:=c) (0:Int) zk hs8 ((λw h=>hrow w (h.drop 1)) _ hs8) (by rw [gE ok.s ok.part];omega) (cs':=aU s (bH part n (r.take (min r.length (64-n)))) (n:Nat) (IntKind.u64.wrap (all+(IntKind.u64.wrap (l.length:Nat))))) (by rw [Nat.mul_one];exact Ay ok.s ok.part (by rw [List.length_take];omega)) ?_
  intro w12 hs13
  refine Lo (aL (Lt (Ls (Dz ?_))))
  refine bj (Hg 2 (.cI (.slice (dB ad c (min r.length (64-n)) 1) ((r.drop (min r.length (64-n))).length) (c-(min r.length (64-n)))) (.sub (min r.length (64-n)) r.length)) [.prop (((min r.length (64-n):Nat):Int)=(((min r.length (64-n)):Nat):Int)),.prop ((some (Operand.tmp 31)=none->((min r.length (64-n)):Nat)=0)/\((none:Option Operand)=none->(r.length:Nat)=r.length)/\((min r.length (64-n)):Nat)<=r.length/\(r.length:Nat)<=c),.prop (Value.slice (if c=(min r.length (64-n)) then ad else (ad:Option Addr).map (λa=>a.add ((min r.length (64-n))*1))) (r.length-(min r.length (64-n))) (c-(min r.length (64-n)))=Value.slice (dB ad c (min r.length (64-n)) 1) ((r.drop (min r.length (64-n))).length) (c-(min r.length (64-n))))] (aB za (aB ⟨(by first|(intro _;rfl)|(intro hc;cases hc)),(by first|(intro _;rfl)|(intro hc;cases hc)),za,za⟩ (aB (sB zA) av))) Hz) ?_
  refine Zt (Zs (?_))
  refine bL [8] (Hg 3 (.gen [.int .i64 (n:Nat)]) [.cell ⟨h,72,none⟩ (.int .i64 (n:Nat))] (aG (hs13.cell 0 rfl (rm ok.s (bM ok r))) av) (cH 5 ((n:Nat)+(min r.length (64-n):Nat)) Hz)) ?_
  refine ar.store rfl rfl zk (b:=h) (off:=72) (v:=.int .i64 ((n:Nat)+(min r.length (64-n):Nat))) zk zk (ti:=Tryz.t3) zk hs13 0 rfl zk zk (jM ok.s (bM ok r) (Nat.le_of_ble_eq_true zk)) (cs':=aU s (bH part n (r.take (min r.length (64-n)))) ((n:Nat)+(min r.length (64-n):Nat)) (IntKind.u64.wrap (all+(IntKind.u64.wrap (l.length:Nat))))) (L':=(ah h (aU s (bH part n (r.take (min r.length (64-n)))) ((n:Nat)+(min r.length (64-n):Nat)) (IntKind.u64.wrap (all+(IntKind.u64.wrap (l.length:Nat))))) 322)::L) (Cn ok.s (bM ok r) _) rfl ?_
  intro w14 hs15
  refine Lo (Ld (Lt (Ls (Dz ?_))))
  refine bj (Hg 3 (.gen [.int .i64 ((n:Nat)+(min r.length (64-n):Nat))]) [.cell ⟨h,72,none⟩ (.int .i64 ((n:Nat)+(min r.length (64-n):Nat)))] (aG (hs15.cell 0 rfl (rm ok.s (bM ok r))) av) Hz) ?_
  refine Zt (?_)
  refine cS (t:=(((n:Nat)+(min r.length (64-n):Nat)):Int) == 64) (λh16=>?_) (λh16=>?_)
  ·have h16':((n:Nat)+(min r.length (64-n):Nat):Int)=64:=dt h16
   refine aE.aV [0,0,0,4,12,28,0,64,192,448,1020,2045,4093,8189,16383,32767,65535] (.rd 0 (.rd 1 (.rd 2 (.rd 3 (.rd 4 (.rd 5 (.rd 6 (.rd 7 (.rd 8 (.rd 9 (.ef 10 (.rd 11 (.rd 12 (.ef 13 (.rd 14 (.rd 15 (.ef 16 .done))))))))))))))))) zk zk ai zk hs15 ?_
   intro w17 hs18 hw19
   refine Zj (Hg 5 (.agg (ae aN s)) [.prop (Array.size (ae aN s)=8),.cells ⟨h,0,none⟩ (ae aN s)] (aB (bt aQ (show(s).length=8 from ok.s) rfl) (dq (hs18.cells 0 0 rfl (Ax ok.s (bM ok r))) av)) (Hg 9 (.agg (ae af (bH part n (r.take (min r.length (64-n)))))) [.prop (Array.size (ae af (bH part n (r.take (min r.length (64-n)))))=64),.cells ⟨h,8,none⟩ (ae af (bH part n (r.take (min r.length (64-n)))))] (aB (bt aj (show(bH part n (r.take (min r.length (64-n)))).length=64 from(bM ok r)) rfl) (dq (hs18.cells 0 8 rfl (yl ok.s (bM ok r))) av)) Hz)) ?_
   refine aF Tryz.call208 (vh s (bH part n (r.take (min r.length (64-n)))) ok.s (bM ok r) (λw h=>hT w (h.drop 1)) hs18) ?_
   rintro v21 w22 ⟨rfl,hs20⟩
   refine Lo (Lu (Dz ?_))
   refine ar.store rfl rfl zk (b:=h) (off:=0) (v:=.agg (ae aN (bZ s (bH part n (r.take (min r.length (64-n))))))) zk zk (ti:=Tryz.t297) zk hs20 0 rfl (bQ aQ (show(bZ s (bH part n (r.take (min r.length (64-n))))).length=8 from(cD ok.s _)) zk) (cX aQ) (by rw [Nat.zero_add,bQ aQ (show(bZ s (bH part n (r.take (min r.length (64-n))))).length=8 from(cD ok.s _)) (m:=8) rfl];exact jM ok.s (bM ok r) zf) (cs':=aU (bZ s (bH part n (r.take (min r.length (64-n))))) (bH part n (r.take (min r.length (64-n)))) ((n:Nat)+(min r.length (64-n):Nat)) (IntKind.u64.wrap (all+(IntKind.u64.wrap (l.length:Nat))))) (L':=(ah h (aU (bZ s (bH part n (r.take (min r.length (64-n))))) (bH part n (r.take (min r.length (64-n)))) ((n:Nat)+(min r.length (64-n):Nat)) (IntKind.u64.wrap (all+(IntKind.u64.wrap (l.length:Nat))))) 322)::L) (DD ok.s (bM ok r) (show(bZ s (bH part n (r.take (min r.length (64-n))))).length=8 from(cD ok.s _))) rfl ?_
   intro w23 hs24
   refine Lo (Lu (Dz ?_))
   refine ar.store rfl rfl zk (b:=h) (off:=72) (v:=.int .i64 0) zk zk (ti:=Tryz.t3) zk hs24 0 rfl zk zk (jM (cD ok.s _) (bM ok r) (Nat.le_of_ble_eq_true zk)) (cs':=aU (bZ s (bH part n (r.take (min r.length (64-n))))) (bH part n (r.take (min r.length (64-n)))) 0 (IntKind.u64.wrap (all+(IntKind.u64.wrap (l.length:Nat))))) (L':=(ah h (aU (bZ s (bH part n (r.take (min r.length (64-n))))) (bH part n (r.take (min r.length (64-n)))) 0 (IntKind.u64.wrap (all+(IntKind.u64.wrap (l.length:Nat))))) 322)::L) (Cn (cD ok.s _) (bM ok r) _) rfl ?_
   intro w25 hs26
   refine Lo (Ld (Lm (Dz ?_)))
   have hst:fK (s,part,n) r=(bZ s (bH part n (r.take (min r.length (64-n)))),bH part n (r.take (min r.length (64-n))),0):=by unfold fK jq nd;exact if_pos (by show n+min r.length (64-n)=64;omega)
   exact aw.back (bZ s (bH part n (r.take (min r.length (64-n)))),bH part n (r.take (min r.length (64-n))),0,dB ad c (min r.length (64-n)) 1,c-(min r.length (64-n)),r.drop (min r.length (64-n))) [0,1] zk (by show(r.drop (min r.length (64-n))).length<r.length;show(List.drop _ r).length<_;rw [List.length_drop];omega) ⟨⟨(by have h9:=fS ok r;rw [hst] at h9;exact h9),(by show(List.drop _ r).length<=c-min r.length (64-n);rw [List.length_drop];omega),(by rw [<- heq,oq ok hr0,hst];rfl),λw h=>ag.wM (hrow w h) hrc za⟩,hs26⟩
  ·have h16':¬ (((n:Nat)+(min r.length (64-n):Nat):Int)=64):=dH h16
   refine Zk (Zm (?_))
   rw [<- Int.natCast_add] at hs15
   have hst:fK (s,part,n) r=(s,bH part n (r.take (min r.length (64-n))),n+(min r.length (64-n))):=by unfold fK jq nd;exact if_neg (by show ¬ n+min r.length (64-n)=64;omega)
   exact aw.back (s,bH part n (r.take (min r.length (64-n))),n+(min r.length (64-n)),dB ad c (min r.length (64-n)) 1,c-(min r.length (64-n)),r.drop (min r.length (64-n))) [0,1] zk (by show(r.drop (min r.length (64-n))).length<r.length;show(List.drop _ r).length<_;rw [List.length_drop];omega) ⟨⟨(by have h9:=fS ok r;rw [hst] at h9;exact h9),(by show(List.drop _ r).length<=c-min r.length (64-n);rw [List.length_drop];omega),(by rw [<- heq,oq ok hr0,hst];rfl),λw h=>ag.wM (hrow w h) hrc za⟩,hs15⟩
 ·have hr0:¬ 0<r.length:=za
  refine Zx (aw.da (aw.dc (aw.jR (?_))))
  refine aw.done (.inr rfl) (λa hf=>results0 rfl a hf) ?_
  have hfin:(s,part,n)=ic (s0,p0,n0) l:=by rw [<- heq,xi hr0]
  exact⟨rfl,by rw [<- hfin];exact hs5⟩
def gl:List Int:=[1779033703,3144134277,1013904242,2773480762,1359893119,2600822924,528734635,1541459225]
def ta:HS:=(gl,List.replicate 64 0,0)
theorem dA:kI ta:=⟨rfl,rfl,by show(0:Nat)<64;omega⟩
theorem pv {w0 w:World}{L:List aI}(hs:St w0 L w):Calls Tryz.prog 207 #[] w (aZ λrv w'=>rv=.agg y4/\St w0 L w'):=by
 refine bp Tryz.func207 Tryz.ntmps207 ?_
 refine En (Ls (Lg [0] (Dz ?_)))
 refine ar.alloc rfl rfl zk (z:=.agg wI) zk hs (cs:=wI) zk ?_
 intro b1 w2 hs3
 refine Lo (Ld (Lt (Ls (Lg [1] (Lu (Dz ?_))))))
 refine Zv (b:=b1) (off:=0) (v:=.agg y4) (ti:=Tryz.t297) zk hs3 0 (cs':=y4) ?_
 intro w4 hs5
 refine Lo (Ld (Lt (Le (Dz ?_))))
 refine aw.done (.inl rfl) (v:=.agg y4) (λa hf=>ct rfl zk (ti:=Tryz.t297) zk zk (vs:=y4) zk (hs5.cells 0 0 rfl zk) a hf) ?_
 have hs6:=hs5.dr 1
 exact⟨rfl,hs6⟩
theorem mD {w0 w:World}{L:List aI}(hs:St w0 L w):Calls Tryz.prog 188 #[] w (aZ λrv w'=>∃ (h:Nat),rv=zP h 0/\St w0 (ah h (aU gl (List.replicate 64 0) (0:Nat) 0) 322::L) w'):=by
 refine bp Tryz.func188 Tryz.ntmps188 ?_
 refine En (Ls (La (Lt (Ls (Lg [0,2] (Dz ?_))))))
 refine aF Tryz.call207 (pv hs) ?_
 rintro v2 w3 ⟨rfl,hs1⟩
 refine Lo (Lu (Dz ?_))
 refine ar.box rfl rfl zk (v:=.agg EM) zk hs1 (cs:=EM) zk ?_
 intro b4 w5 hs6
 refine Lo (aL (Lt (Le (Dz ?_))))
 refine bg (v:=zP b4 0) ?_
 have hs7:St w0 (ah b4 (aU gl (List.replicate 64 0) (0:Nat) 0) 322::L) w5:=Eq.mp zk hs6
 exact⟨b4,rfl,hs7⟩
def vj (n:Int) (j:Nat):Int:=IntKind.u8.wrap (aM .u64 n (8*(7-(j:Int))))
def vk (n:Int) (y:Nat) (h:HS):HS:=iter (λj g=>ic g [vj n j]) y h
theorem qp (n:Int) (y:Nat) (h:HS):vk n (y+1) h=ic (vk n y h) [vj n y]:=rfl
def tb (x:Int):List Int:=[IntKind.u8.wrap (aM .u32 x 24),IntKind.u8.wrap (aM .u32 x 16),IntKind.u8.wrap (aM .u32 x 8),IntKind.u8.wrap x]
def pw (s:List Int) (k:Nat):List Int:=iter (λi l=>bH l (4*i) (tb (s.getD i 0))) k (List.replicate 32 0)
theorem lZ (s:List Int) (k:Nat):pw s (k+1)=bH (pw s k) (4*k) (tb (s.getD k 0)):=rfl
def lj (h:HS) (all:Int):List Int:=pw (vk (IntKind.u64.wrap (all*8)) 8 (pad (ic h [(128:Int)]))).1 8
theorem eL (s:List Int):∀ k,k<=8->(pw s k).length=32
 | 0,_=>rfl
 | k+1,h=>by
  have ih:=eL s k za
  rw [lZ,qo (by rw [ih];simp only [tb,List.length_cons,List.length_nil];omega),ih]
theorem ry {w0 w:World}{L:List aI}{h:Nat}(s0:List Int) (p0:List Int) (n0:Nat) (all:Int) (hk0:kI (s0,p0,n0)) (hT:∀ w,St w0 L w->cQ w) (hs:St w0 (ah h (aU s0 p0 (n0:Nat) all) 322::L) w):Calls Tryz.prog 190 #[zP h 0] w (aZ λrv w'=>rv=.agg (ae af (lj (s0,p0,n0) all))/\St w0 (ah h (aU s0 p0 (n0:Nat) all) 322::L) w'):=by
 refine enter (args:=[zP h 0]) Tryz.func190 rfl Tryz.ntmps190 (Nat.le_of_ble_eq_true zk) ?_
 refine Zn [(0,zP h 0)] ?_
 refine Zs ?_
 refine bU (.ef 0 .done) ?_
 refine ar.alloc rfl rfl zk (z:=.agg gh) zk hs (cs:=gh) zk ?_
 intro b1 w2 hs3
 refine⟨cK,?_⟩
 refine Zd (Zt (Zs ?_))
 refine bU (.ef 0 (.rd 1 .done)) ?_
 refine aF (f:=188) (args:=#[]) Tryz.call188 (mD hs3) ?_
 rintro v6 w7 ⟨h4,rfl,hs5⟩
 refine⟨cK,?_⟩
 refine Zr 1 1 [] ?_
 refine Zd (Zt (Zs (Zs ?_)))
 refine bU (.rd 0 (.rd 1 .done)) ?_
 refine Zr 0 2 [] ?_
 refine Zd (Zt (CE ?_))
 refine bU (.rd 0 (.rd 1 (.rd 2 (.rd 3 (.rd 4 (.ef 5 .done)))))) ?_
 refine Zp 0 5 [(3,.agg (aU s0 p0 (n0:Nat) all))] [(3,[.prop (Array.size (aU s0 p0 (n0:Nat) all)=74),.cells ⟨h,0,none⟩ (aU s0 p0 (n0:Nat) all)])] (ak (aB (gE (show s0.length=8 from hk0.s) (show p0.length=64 from hk0.part)) (dq (hs5.cells 2 0 rfl (vi (show s0.length=8 from hk0.s) (show p0.length=64 from hk0.part))) av)) cW) ?_
 refine ar.store rfl rfl zk (b:=h4) (off:=0) (v:=.agg (aU s0 p0 (n0:Nat) all)) zk zk (ti:=Tryz.t322) zk hs5 0 rfl (gE (show s0.length=8 from hk0.s) (show p0.length=64 from hk0.part)) (yn _ _ _ _) (by show 0+(aU _ _ _ _).size<=_;rw [gE (show s0.length=8 from hk0.s) (show p0.length=64 from hk0.part),gE (show gl.length=8 from dA.s) (show(List.replicate 64 0).length=64 from dA.part)];omega) (cs':=aU s0 p0 (n0:Nat) all) (L':=(ah h4 (aU s0 p0 (n0:Nat) all) 322)::ah b1 gh 34::ah h (aU s0 p0 (n0:Nat) all) 322::L) (ym (show gl.length=8 from dA.s) (show(List.replicate 64 0).length=64 from dA.part) (show s0.length=8 from hk0.s) (show p0.length=64 from hk0.part)) rfl ?_
 intro w8 hs9
 refine⟨cK,?_⟩
 refine Zd (Zt (Zs ?_))
 refine bU (.rd 0 (.rd 1 (.rd 2 (.rd 3 (.rd 4 (.rd 5 .done)))))) ?_
 refine Zp 0 6 [(3,.gen [.int .u64 all])] [(3,[.cell ⟨h4,73,none⟩ (.int .u64 all)])] (ak (aG (hs9.cell 0 rfl (sZ (show s0.length=8 from hk0.s) (show p0.length=64 from hk0.part))) av) cW) ?_
 refine Zd (Zt (Zs ?_))
 refine bU (.rd 0 (.ef 1 (.ef 2 .done))) ?_
 refine Zr 0 1 [] ?_
 refine ar.aW rfl zk (t:=85) (e:=5) (n:=1) (ps:=[(0,.int .u8 128)]) zk zk (ti:=Tryz.t5) (z:=.int .u8 0) zk zk zf zf (cs:=#[.int .u8 128]) zk hs9 ?_
 intro b10 w11 hs12 hz13
 have hs14:St w0 (Sl (some ⟨b10,0,none⟩) 1 5 1 af ([(128:Int)])::ah h4 (aU s0 p0 (n0:Nat) all) 322::ah b1 gh 34::ah h (aU s0 p0 (n0:Nat) all) 322::L) w11:=St.ey (l:=[(128:Int)]) (f:=af) hs12 hz13 aj.size zh zk
 refine⟨cK,?_⟩
 have hs15:=hs14.pl 1
 refine aF (f:=189) (args:=#[zP h4 0,zL b10 0 (([(128:Int)]).length) 1]) Tryz.call189 (gR s0 p0 n0 all ([(128:Int)]) (by first|exact hk0|exact dA|exact hpa.1|exact hpb.2.2.1|exact eD hk0 _|exact eD dA _|exact eD hpa.1 _|exact eD hpb.2.2.1 _) (Nat.le_refl _) zR (λw h=>hT w (h.drop 3)) (λw h=>h.rows 0 rfl aj.size _) hs15) ?_
 rintro v17 w18 ⟨rfl,hs16⟩
 refine⟨cK,?_⟩
 refine Zd (Zt (Zs (Zb ?_)))
 have hs19:=(((hs16.pl 3).pl 3).pl 2).pl 3
 have hs20:=hs19.dr 1
 refine aE.loop (T:=HS×Int) (λgg=>[(2,zP b1 0),(3,zP h4 0),(4,.int .u64 (IntKind.u64.wrap (all*8)))]) (λgg w=>(kI gg.1/\pad gg.1=pad (ic (s0,p0,n0) [(128:Int)]))/\St w0 (ah h4 (aU gg.1.1 gg.1.2.1 (gg.1.2.2:Nat) gg.2) 322::ah b1 gh 34::ah h (aU s0 p0 (n0:Nat) all) 322::L) w) (λgg=>(120-gg.1.2.2) % 64) ((ic (s0,p0,n0) ([(128:Int)])),(IntKind.u64.wrap (all+(IntKind.u64.wrap (([(128:Int)]).length:Nat))))) [2,3,4] zk ⟨⟨eD hk0 _,rfl⟩,hs20⟩ ?_
 rintro⟨g1,al1⟩ w21 ⟨hpa0,hs22⟩
 have hpa:kI g1/\pad g1=pad (ic (s0,p0,n0) [(128:Int)]):=hpa0
 have hs23:St w0 (ah h4 (aU g1.1 g1.2.1 (g1.2.2:Nat) al1) 322::ah b1 gh 34::ah h (aU s0 p0 (n0:Nat) all) 322::L) w21:=hs22
 refine Zn [(2,zP b1 0),(3,zP h4 0),(4,.int .u64 (IntKind.u64.wrap (all*8)))] ?_
 refine Zs (Zs ?_)
 refine bU (.rd 0 (.rd 1 (.rd 2 (.rd 3 (.rd 4 .done))))) ?_
 refine Zp 0 5 [(3,.gen [.int .i64 (g1.2.2:Nat)])] [(3,[.cell ⟨h4,72,none⟩ (.int .i64 (g1.2.2:Nat))])] (ak (aG (hs23.cell 0 rfl (rm (show g1.1.length=8 from hpa.1.s) (show g1.2.1.length=64 from hpa.1.part))) av) cW) ?_
 refine Zd (Zt ?_)
 refine cS (t:=((g1.2.2:Nat):Int) != 56) (λh24=>?_) (λh24=>?_)
 ·have h24':¬ (((g1.2.2:Nat):Int)=56):=jb h24
  refine Zk (Zt (Zb ?_))
  refine bU (.rd 0 (.ef 1 (.ef 2 .done))) ?_
  refine Zr 0 1 [] ?_
  refine ar.aW rfl zk (t:=85) (e:=5) (n:=1) (ps:=[(0,.int .u8 0)]) zk zk (ti:=Tryz.t5) (z:=.int .u8 0) zk zk zf zf (cs:=#[.int .u8 0]) zk hs23 ?_
  intro b25 w26 hs27 hz28
  have hs29:St w0 (Sl (some ⟨b25,0,none⟩) 1 5 1 af ([(0:Int)])::ah h4 (aU g1.1 g1.2.1 (g1.2.2:Nat) al1) 322::ah b1 gh 34::ah h (aU s0 p0 (n0:Nat) all) 322::L) w26:=St.ey (l:=[(0:Int)]) (f:=af) hs27 hz28 aj.size zh zk
  refine⟨cK,?_⟩
  have hs30:=hs29.pl 1
  refine aF (f:=189) (args:=#[zP h4 0,zL b25 0 (([(0:Int)]).length) 1]) Tryz.call189 (gR g1.1 g1.2.1 g1.2.2 al1 ([(0:Int)]) (by first|exact hk0|exact dA|exact hpa.1|exact hpb.2.2.1|exact eD hk0 _|exact eD dA _|exact eD hpa.1 _|exact eD hpb.2.2.1 _) (Nat.le_refl _) zR (λw h=>hT w (h.drop 3)) (λw h=>h.rows 0 rfl aj.size _) hs30) ?_
  rintro v32 w33 ⟨rfl,hs31⟩
  refine⟨cK,?_⟩
  refine Zd (Zm ?_)
  have hs34:=(((hs31.pl 3).pl 3).pl 2).pl 3
  have hs35:=hs34.dr 1
  exact aw.back ((ic (g1.1,g1.2.1,g1.2.2) ([(0:Int)])),IntKind.u64.wrap (al1+(IntKind.u64.wrap (([(0:Int)]).length:Nat)))) [2,3,4] zk (by show(120-(ic (g1.1,g1.2.1,g1.2.2) ([(0:Int)])).2.2) % 64<(120-g1.2.2) % 64;exact AA hpa.1 (by show g1.2.2≠56;omega)) ⟨⟨eD hpa.1 _,(Az hpa.1 (by show g1.2.2≠56;omega)).trans hpa.2⟩,hs35⟩
 ·have h24':((g1.2.2:Nat):Int)=56:=iF h24
  refine Zx (aw.da (aw.dc (aw.jR (Zt (Zs (Zs ?_))))))
  refine bU (.rd 0 .done) ?_
  refine Zr 0 1 [] ?_
  refine Zd (Zt (Zb ?_))
  refine aE.loop (T:=Nat×Int×HS×Int) (λgg=>[(2,zP b1 0),(3,zP h4 0),(4,.int .u64 (IntKind.u64.wrap (all*8))),(5,.int .i64 gg.2.1)]) (λgg w=>(gg.1<=8/\gg.2.1=7-(gg.1:Nat)/\kI gg.2.2.1/\gg.2.2.1=vk (IntKind.u64.wrap (all*8)) gg.1 (pad (ic (s0,p0,n0) [(128:Int)])))/\St w0 (ah h4 (aU gg.2.2.1.1 gg.2.2.1.2.1 (gg.2.2.1.2.2:Nat) gg.2.2.2) 322::ah b1 gh 34::ah h (aU s0 p0 (n0:Nat) all) 322::L) w) (λgg=>8-gg.1) (0,7,g1,al1) [2,3,4,5] zk ⟨⟨Nat.zero_le _,by first|omega|(simp only;omega),hpa.1,by rw [<- hpa.2,BN za];rfl⟩,hs23⟩ ?_
  rintro⟨y2,z2,g2,al2⟩ w36 ⟨hpb0,hs37⟩
  have hpb:y2<=8/\z2=7-(y2:Nat)/\kI g2/\g2=vk (IntKind.u64.wrap (all*8)) y2 (pad (ic (s0,p0,n0) [(128:Int)])):=hpb0
  have hs38:St w0 (ah h4 (aU g2.1 g2.2.1 (g2.2.2:Nat) al2) 322::ah b1 gh 34::ah h (aU s0 p0 (n0:Nat) all) 322::L) w36:=hs37
  refine Zn [(2,zP b1 0),(3,zP h4 0),(4,.int .u64 (IntKind.u64.wrap (all*8))),(5,.int .i64 z2)] ?_
  refine Zs (Zs ?_)
  refine bU (.rd 0 (.rd 1 .done)) ?_
  refine Zr 0 2 [] ?_
  refine Zd (Zt ?_)
  refine cS (t:=decide ((z2:Int) >= 0)) (λh39=>?_) (λh39=>?_)
  ·have h39':(z2:Int) >= 0:=of_decide_eq_true h39
   refine Zk (Zt (Zs (Zb ?_)))
   refine bU (.rd 0 (.rd 1 (.rd 2 (.rd 3 (.rd 4 (.rd 5 (.ef 6 (.ef 7 .done)))))))) ?_
   refine Zp 0 6 [(3,.cI (.int .i64 (8*z2)) (.gen [])),(4,.shift (aM .u64 (IntKind.u64.wrap (all*8)) (8*z2)))] [(3,[.prop (Value.int .i64 (IntKind.i64.wrap (8*z2))=Value.int .i64 (8*z2))]),(4,[.prop ((0:Int)<=8*z2/\Int.fdiv (IntKind.u64.wrap (all*8)) (2 ^ (min (Int.toNat (8*z2)) (IntKind.bits .u64)))=aM .u64 (IntKind.u64.wrap (all*8)) (8*z2))])] (ak (aB (dD za za) av) (ak (aB ⟨(by first|omega|exact bf rfl _),rfl⟩ av) cW)) ?_
   refine ar.aW rfl zk (t:=85) (e:=5) (n:=1) (ps:=[(0,.int .u8 (IntKind.u8.wrap (aM .u64 (IntKind.u64.wrap (all*8)) (8*z2))))]) zk zk (ti:=Tryz.t5) (z:=.int .u8 0) zk zk zf zf (cs:=#[.int .u8 (IntKind.u8.wrap (aM .u64 (IntKind.u64.wrap (all*8)) (8*z2)))]) zk hs38 ?_
   intro b40 w41 hs42 hz43
   have hs44:St w0 (Sl (some ⟨b40,0,none⟩) 1 5 1 af ([(IntKind.u8.wrap (aM .u64 (IntKind.u64.wrap (all*8)) (8*z2)):Int)])::ah h4 (aU g2.1 g2.2.1 (g2.2.2:Nat) al2) 322::ah b1 gh 34::ah h (aU s0 p0 (n0:Nat) all) 322::L) w41:=St.ey (l:=[(IntKind.u8.wrap (aM .u64 (IntKind.u64.wrap (all*8)) (8*z2)):Int)]) (f:=af) hs42 hz43 aj.size zh zk
   refine⟨cK,?_⟩
   have hs45:=hs44.pl 1
   refine aF (f:=189) (args:=#[zP h4 0,zL b40 0 (([(IntKind.u8.wrap (aM .u64 (IntKind.u64.wrap (all*8)) (8*z2)):Int)]).length) 1]) Tryz.call189 (gR g2.1 g2.2.1 g2.2.2 al2 ([(IntKind.u8.wrap (aM .u64 (IntKind.u64.wrap (all*8)) (8*z2)):Int)]) (by first|exact hk0|exact dA|exact hpa.1|exact hpb.2.2.1|exact eD hk0 _|exact eD dA _|exact eD hpa.1 _|exact eD hpb.2.2.1 _) (Nat.le_refl _) zR (λw h=>hT w (h.drop 3)) (λw h=>h.rows 0 rfl aj.size _) hs45) ?_
   rintro v47 w48 ⟨rfl,hs46⟩
   refine⟨cK,?_⟩
   refine Zd (Zm (Zt ?_))
   refine bU (.rd 0 (.rd 1 (.rd 2 .done))) ?_
   refine Zp 0 3 [(1,.cI (.int .i64 (z2-1)) (.gen []))] [(1,[.prop (Value.int .i64 (IntKind.i64.wrap (z2-1))=Value.int .i64 (z2-1))])] (ak (aB (dD za za) av) cW) ?_
   refine Zd ?_
   have hs49:=(((hs46.pl 3).pl 3).pl 2).pl 3
   have hs50:=hs49.dr 1
   exact aw.back (y2+1,z2-1,ic (g2.1,g2.2.1,g2.2.2) ([(IntKind.u8.wrap (aM .u64 (IntKind.u64.wrap (all*8)) (8*z2)):Int)]),IntKind.u64.wrap (al2+(IntKind.u64.wrap (([(IntKind.u8.wrap (aM .u64 (IntKind.u64.wrap (all*8)) (8*z2)):Int)]).length:Nat)))) [2,3,4,5] zk (by show 8-(y2+1)<8-y2;omega) ⟨⟨by first|omega|(simp only;omega),by first|omega|(simp only;omega),eD hpb.2.2.1 _,by show ic g2 _=vk _ (y2+1) _;rw [qp,<- hpb.2.2.2,vj,<- hpb.2.1]⟩,hs50⟩
  ·have h39':¬ ((z2:Int) >= 0):=of_decide_eq_false h39
   refine Zx (aw.da (aw.dc (aw.jR (Zt (Zs (Zs ?_))))))
   refine bU (.rd 0 (.rd 1 (.rd 2 (.rd 3 (.rd 4 .done))))) ?_
   refine Zp 0 5 [(3,.agg (ae aN g2.1))] [(3,[.prop (Array.size (ae aN g2.1)=8),.cells ⟨h4,0,none⟩ (ae aN g2.1)])] (ak (aB (bt aQ (show(g2.1).length=8 from(show g2.1.length=8 from hpb.2.2.1.s)) rfl) (dq (hs38.cells 0 0 rfl (Ax (show g2.1.length=8 from hpb.2.2.1.s) (show g2.2.1.length=64 from hpb.2.2.1.part))) av)) cW) ?_
   refine Zd (Zt (Zb ?_))
   have hs51:St w0 (ah h4 (aU g2.1 g2.2.1 (g2.2.2:Nat) al2) 322::ah b1 (ae af (List.replicate 32 0)) 34::ah h (aU s0 p0 (n0:Nat) all) 322::L) w36:=Eq.mp zk hs38
   have hs8:g2.1.length=8:=hpb.2.2.1.s
   have hs52:=hs51.dr 1
   refine aE.loop (T:=Nat×(List Int)) (λgg=>[(2,zP b1 0),(47,.agg (ae aN g2.1)),(48,.int .i64 (gg.1:Nat))]) (λgg w=>(gg.1<=8/\gg.2=pw g2.1 gg.1/\gg.2.length=32)/\St w0 (ah b1 (ae af gg.2) 34::ah h (aU s0 p0 (n0:Nat) all) 322::L) w) (λgg=>8-gg.1) (0,(List.replicate 32 0)) [2,47,48] zk ⟨⟨Nat.zero_le _,rfl,rfl⟩,hs52⟩ ?_
   rintro⟨k3,ol⟩ w53 ⟨hpc0,hs54⟩
   have hpc:k3<=8/\ol=pw g2.1 k3/\ol.length=32:=hpc0
   have hs55:St w0 (ah b1 (ae af ol) 34::ah h (aU s0 p0 (n0:Nat) all) 322::L) w53:=hs54
   refine Zn [(2,zP b1 0),(47,.agg (ae aN g2.1)),(48,.int .i64 (k3:Nat))] ?_
   refine Zs ?_
   refine bU (.rd 0 .done) ?_
   refine Zr 0 1 [] ?_
   refine Zd (Zt (Zs ?_))
   refine cS (t:=decide (((k3:Nat):Int)<8)) (λh56=>?_) (λh56=>?_)
   ·have h56':((k3:Nat):Int)<8:=of_decide_eq_true h56
    refine Zk (Zt (Zs (Zb (Zs ?_))))
    refine bU (.rd 0 (.rd 1 (.rd 2 (.rd 3 .done)))) ?_
    refine Zp 0 4 [(1,.elem (.int .u32 (g2.1.getD k3 0)))] [(1,[.prop (0<=((k3:Nat):Int)/\((k3:Nat):Int)<(8:Int)),.prop ((ae aN g2.1)[Int.toNat (k3:Nat)*1]?=some (.int .u32 (g2.1.getD k3 0)))])] (ak (aB za (aB (qY (d:=(0:Int)) (k:=k3) aQ za zH zk) av)) cW) ?_
    refine Zd (Zt ?_)
    refine bU (.rd 0 (.rd 1 (.rd 2 (.rd 3 (.rd 4 (.rd 5 (.rd 6 (.rd 7 (.rd 8 (.rd 9 (.rd 10 (.rd 11 (.rd 12 (.rd 13 (.ef 14 (.ef 15 .done)))))))))))))))) ?_
    refine Zp 0 14 [(1,.cI (.int .i64 (4*(k3:Nat))) (.gen [])),(2,.cI (zL b1 (0+((4*k3)*1)) (32-(4*k3)) (32-(4*k3))) (.sub (4*k3) 32)),(4,.shift (aM .u32 (g2.1.getD k3 0) 24)),(7,.shift (aM .u32 (g2.1.getD k3 0) 16)),(10,.shift (aM .u32 (g2.1.getD k3 0) 8))] [(1,[.prop (Value.int .i64 (IntKind.i64.wrap (4*(k3:Nat)))=Value.int .i64 (4*(k3:Nat)))]),(2,[.prop ((4*(k3:Nat):Int)=((4*k3:Nat):Int)),.prop (((some (Operand.tmp 53))=none->(4*k3:Nat)=0)/\((none:Option Operand)=none->(32:Nat)=32)/\(4*k3:Nat)<=32/\(32:Nat)<=32),.prop (Value.slice (some (if 32=4*k3 then Addr.mk b1 0 none else (Addr.mk b1 0 none).add ((4*k3)*1))) (32-(4*k3)) (32-(4*k3))=Value.slice (some ⟨b1,0+((4*k3)*1),none⟩) (32-(4*k3)) (32-(4*k3)))]),(4,[.prop ((0:Int)<=24/\Int.fdiv (g2.1.getD k3 0) (2 ^ (min (Int.toNat 24) (IntKind.bits .u32)))=aM .u32 (g2.1.getD k3 0) 24)]),(7,[.prop ((0:Int)<=16/\Int.fdiv (g2.1.getD k3 0) (2 ^ (min (Int.toNat 16) (IntKind.bits .u32)))=aM .u32 (g2.1.getD k3 0) 16)]),(10,[.prop ((0:Int)<=8/\Int.fdiv (g2.1.getD k3 0) (2 ^ (min (Int.toNat 8) (IntKind.bits .u32)))=aM .u32 (g2.1.getD k3 0) 8)])] (ak (aB (dD za za) av) (ak (aB za (aB ⟨(by first|(intro _;rfl)|(intro hc;cases hc)),(by first|(intro _;rfl)|(intro hc;cases hc)),za,za⟩ (aB (jG za za) av))) (ak (aB ⟨(by first|omega|exact bf rfl _),rfl⟩ av) (ak (aB ⟨(by first|omega|exact bf rfl _),rfl⟩ av) (ak (aB ⟨(by first|omega|exact bf rfl _),rfl⟩ av) cW))))) ?_
    refine ar.aW rfl zk (t:=85) (e:=5) (n:=4) (ps:=[(0,.int .u8 (IntKind.u8.wrap (aM .u32 (g2.1.getD k3 0) 24))),(1,.int .u8 (IntKind.u8.wrap (aM .u32 (g2.1.getD k3 0) 16))),(2,.int .u8 (IntKind.u8.wrap (aM .u32 (g2.1.getD k3 0) 8))),(3,.int .u8 (IntKind.u8.wrap (g2.1.getD k3 0)))]) zk zk (ti:=Tryz.t5) (z:=.int .u8 0) zk zk zf zf (cs:=#[.int .u8 (IntKind.u8.wrap (aM .u32 (g2.1.getD k3 0) 24)),.int .u8 (IntKind.u8.wrap (aM .u32 (g2.1.getD k3 0) 16)),.int .u8 (IntKind.u8.wrap (aM .u32 (g2.1.getD k3 0) 8)),.int .u8 (IntKind.u8.wrap (g2.1.getD k3 0))]) zk hs55 ?_
    intro b57 w58 hs59 hz60
    have hs61:St w0 (Sl (some ⟨b57,0,none⟩) 4 5 1 af ([(IntKind.u8.wrap (aM .u32 (g2.1.getD k3 0) 24):Int),(IntKind.u8.wrap (aM .u32 (g2.1.getD k3 0) 16):Int),(IntKind.u8.wrap (aM .u32 (g2.1.getD k3 0) 8):Int),(IntKind.u8.wrap (g2.1.getD k3 0):Int)])::ah b1 (ae af ol) 34::ah h (aU s0 p0 (n0:Nat) all) 322::L) w58:=St.ey (l:=[(IntKind.u8.wrap (aM .u32 (g2.1.getD k3 0) 24):Int),(IntKind.u8.wrap (aM .u32 (g2.1.getD k3 0) 16):Int),(IntKind.u8.wrap (aM .u32 (g2.1.getD k3 0) 8):Int),(IntKind.u8.wrap (g2.1.getD k3 0):Int)]) (f:=af) hs59 hz60 aj.size zh zk
    refine⟨cK,?_⟩
    have hs64:=hs61.pl 1
    refine ar.copy rfl zk aJ aj (b:=b1) (off:=0+((4*k3)*1)) (dLen:=32-(4*k3)) (dCap:=(32-(4*k3))) (ys:=[(IntKind.u8.wrap (aM .u32 (g2.1.getD k3 0) 24):Int),(IntKind.u8.wrap (aM .u32 (g2.1.getD k3 0) 16):Int),(IntKind.u8.wrap (aM .u32 (g2.1.getD k3 0) 8):Int),(IntKind.u8.wrap (g2.1.getD k3 0):Int)]) (adx:=some ⟨b57,0,none⟩) (cx:=4) (0:Int) zk hs64 (hs64.rows 1 rfl aj.size (0:Int)) (by rw [dV aj.size,Nat.zero_add,Nat.mul_one,Nat.mul_one,Nat.mul_one];simp only [List.length_cons,List.length_nil];omega) (cs':=ae af (bH ol (4*k3) (([(IntKind.u8.wrap (aM .u32 (g2.1.getD k3 0) 24):Int),(IntKind.u8.wrap (aM .u32 (g2.1.getD k3 0) 16):Int),(IntKind.u8.wrap (aM .u32 (g2.1.getD k3 0) 8):Int),(IntKind.u8.wrap (g2.1.getD k3 0):Int)]).take (min ([(IntKind.u8.wrap (aM .u32 (g2.1.getD k3 0) 24):Int),(IntKind.u8.wrap (aM .u32 (g2.1.getD k3 0) 16):Int),(IntKind.u8.wrap (aM .u32 (g2.1.getD k3 0) 8):Int),(IntKind.u8.wrap (g2.1.getD k3 0):Int)]).length (32-(4*k3)))))) (by rw [Nat.zero_add,Nat.mul_one];exact BO (by simp only [List.length_take,List.length_cons,List.length_nil];omega)) ?_
    intro w65 hs66
    refine⟨cK,?_⟩
    refine Zd (Zm (Zt ?_))
    refine bU (.rd 0 (.rd 1 .done)) ?_
    refine Zp 0 2 [(0,.cI (.int .i64 ((k3:Nat)+1)) (.gen []))] [(0,[.prop (Value.int .i64 (IntKind.i64.wrap ((k3:Nat)+1))=Value.int .i64 ((k3:Nat)+1))])] (ak (aB (dD za za) av) cW) ?_
    refine Zd ?_
    have hs67:=((hs66.pl 2).pl 1).pl 2
    have hs68:=hs67.dr 1
    exact aw.back (k3+1,bH ol (4*k3) (([(IntKind.u8.wrap (aM .u32 (g2.1.getD k3 0) 24):Int),(IntKind.u8.wrap (aM .u32 (g2.1.getD k3 0) 16):Int),(IntKind.u8.wrap (aM .u32 (g2.1.getD k3 0) 8):Int),(IntKind.u8.wrap (g2.1.getD k3 0):Int)]).take (min ([(IntKind.u8.wrap (aM .u32 (g2.1.getD k3 0) 24):Int),(IntKind.u8.wrap (aM .u32 (g2.1.getD k3 0) 16):Int),(IntKind.u8.wrap (aM .u32 (g2.1.getD k3 0) 8):Int),(IntKind.u8.wrap (g2.1.getD k3 0):Int)]).length (32-(4*k3))))) [2,47,48] zk (by show 8-(k3+1)<8-k3;omega) ⟨⟨za,(by have h4:min 4 (32-4*k3)=4:=za;rw [lZ,<- hpc.2.1];show bH ol (4*k3) (List.take (min 4 (32-4*k3)) (tb (g2.1.getD k3 0)))=bH ol (4*k3) (tb (g2.1.getD k3 0));rw [h4];rfl),by rw [qo];exact hpc.2.2;simp only [List.length_take,List.length_cons,List.length_nil];omega⟩,hs68⟩
   ·have h56':¬ (((k3:Nat):Int)<8):=of_decide_eq_false h56
    refine Zx (aw.da (aw.dc (aw.jR (Zt (Zs ?_)))))
    refine bU (.rd 0 (.ef 1 .done)) ?_
    refine Zp 0 1 [(0,.agg (ae af ol))] [(0,[.prop (Array.size (ae af ol)=32),.cells ⟨b1,0,none⟩ (ae af ol)])] (ak (aB (bt aj (show(ol).length=32 from zc) rfl) (dq (hs55.cells 0 0 rfl zG) av)) cW) ?_
    refine ar.store rfl rfl zk (b:=b1) (off:=0) (v:=.agg (ae af ol)) zk zk (ti:=Tryz.t34) zk hs55 0 rfl (bQ aj (show(ol).length=32 from zc) zk) (cX aj) (cJ aj (show(ol).length=32 from zc) (by rw [bt aj (show(ol).length=32 from zc) (m:=32) rfl];rfl)) (cs':=ae af ol) (L':=(ah b1 (ae af ol) 34)::ah h (aU s0 p0 (n0:Nat) all) 322::L) (dz aj (show(ol).length=32 from zc) (by rw [bt aj (show(ol).length=32 from zc) (m:=32) rfl];rfl)) rfl ?_
    intro w69 hs70
    refine⟨cK,?_⟩
    refine Zd (Zt (Ze ?_))
    refine aw.done (.inl rfl) (v:=.agg (ae af ol)) (λa hf=>ct rfl zk (ti:=Tryz.t34) zk zk (vs:=ae af ol) (bt aj (show(ol).length=32 from zc) zk) (hs70.cells 0 0 rfl zG) a hf) ?_
    have hs71:=hs70.dr 1
    exact⟨(by rw [hpc.2.1,show k3=8 by omega,hpb.2.2.2,show y2=8 by omega];rfl),hs71⟩
def dx (l:List Int):List Int:=lj (ic ta l) (IntKind.u64.wrap (0+(IntKind.u64.wrap (l.length:Nat))))
theorem cv (l:List Int):(dx l).length=32:=eL _ 8 (Nat.le_refl _)
def fy (l1 l2:List Int):Nat->HS
 | 0=>ta
 | 1=>ic ta l1
 | _=>ic (ic ta l1) l2
def px (l1 l2:List Int):Nat->Int
 | 0=>0
 | 1=>IntKind.u64.wrap (0+(IntKind.u64.wrap (l1.length:Nat)))
 | _=>IntKind.u64.wrap ((IntKind.u64.wrap (0+(IntKind.u64.wrap (l1.length:Nat))))+(IntKind.u64.wrap (l2.length:Nat)))
def dP (l1 l2:List Int):List Int:=lj (fy l1 l2 2) (px l1 l2 2)
theorem bR (l1 l2:List Int):(dP l1 l2).length=32:=eL _ 8 (Nat.le_refl _)
theorem vn (l1 l2:List Int):∀ k,kI (fy l1 l2 k)
 | 0=>dA
 | 1=>eD dA _
 | _+2=>eD (eD dA _) _
theorem ma {w0 w:World}{L:List aI}{bs:Nat}{a1:Option Addr}{n1:Nat}{c1:Nat}{a2:Option Addr}{n2:Nat}{c2:Nat}(l1:List Int) (l2:List Int) (e1:l1.length=n1) (e2:l2.length=n2) (q1:l1.length<=c1) (q2:l2.length<=c2) (g1:l1.length<=1000000000) (g2:l2.length<=1000000000) (hTab:∀ w,St w0 L w->cQ w) (hr1:∀ w,St w0 L w->ag w a1 l1.length 1 (λk=>af (l1.getD k 0))) (hr2:∀ w,St w0 L w->ag w a2 l2.length 1 (λk=>af (l2.getD k 0))) (hs:St w0 (ah bs #[.slice a1 n1 c1,.slice a2 n2 c2] 85::L) w):Calls Tryz.prog 168 #[zL bs 0 2 2] w (aZ λrv w'=>rv=.agg (ae af (dP l1 l2))/\St w0 (ah bs #[.slice a1 n1 c1,.slice a2 n2 c2] 85::L) w'):=by
 refine enter (args:=[zL bs 0 2 2]) Tryz.func168 rfl Tryz.ntmps168 (Nat.le_of_ble_eq_true zk) ?_
 refine Zn [(0,zL bs 0 2 2)] ?_
 refine Zs ?_
 subst e1
 subst e2
 refine bU (.ef 0 .done) ?_
 refine ar.alloc rfl rfl zk (z:=.agg gh) zk hs (cs:=gh) zk ?_
 intro b1 w2 hs3
 refine⟨cK,?_⟩
 refine Zd (Zt (Zs ?_))
 refine bU (.ef 0 (.rd 1 .done)) ?_
 refine aF (f:=188) (args:=#[]) Tryz.call188 (mD hs3) ?_
 rintro v6 w7 ⟨h4,rfl,hs5⟩
 refine⟨cK,?_⟩
 refine Zr 1 1 [] ?_
 refine Zd (Zt (Zs (Zs ?_)))
 refine bU (.rd 0 (.rd 1 (.rd 2 .done))) ?_
 refine Zr 0 3 [] ?_
 refine Zd (Zt (Zb ?_))
 have hs8:=((hs5.pl 1).pl 2).pl 2
 refine aE.loop (T:=Nat) (λgg=>[(2,zP b1 0),(3,zP h4 0),(7,zL bs 0 2 2),(8,.int .i64 2),(9,.int .i64 (gg:Nat))]) (λgg w=>(gg<=2)/\St w0 (ah h4 (aU ((fy l1 l2 gg).1) ((fy l1 l2 gg).2.1) ((fy l1 l2 gg).2.2:Nat) (px l1 l2 gg)) 322::ah bs #[.slice a1 l1.length c1,.slice a2 l2.length c2] 85::ah b1 gh 34::L) w) (λgg=>2-gg) 0 [2,3,7,8,9] zk ⟨Nat.zero_le _,hs8⟩ ?_
 rintro k w9 ⟨hp0,hs10⟩
 have hp:k<=2:=hp0
 have hs11:St w0 (ah h4 (aU ((fy l1 l2 k).1) ((fy l1 l2 k).2.1) ((fy l1 l2 k).2.2:Nat) (px l1 l2 k)) 322::ah bs #[.slice a1 l1.length c1,.slice a2 l2.length c2] 85::ah b1 gh 34::L) w9:=hs10
 refine Zn [(2,zP b1 0),(3,zP h4 0),(7,zL bs 0 2 2),(8,.int .i64 2),(9,.int .i64 (k:Nat))] ?_
 refine Zs ?_
 refine bU (.rd 0 .done) ?_
 refine Zr 0 1 [] ?_
 refine Zd (Zt (Zs ?_))
 refine Zn [(10,.bool (decide (((k:Nat):Int)<2))),(2,zP b1 0),(3,zP h4 0),(7,zL bs 0 2 2),(8,.int .i64 2),(9,.int .i64 (k:Nat))] ?_
 refine cS (t:=decide (((k:Nat):Int)<2)) (λh12=>?_) (λh12=>?_)
 ·have h12':((k:Nat):Int)<2:=of_decide_eq_true h12
  have hcs:k=0\/k=1:=za
  rcases hcs with rfl|rfl
  ·have hs13:St w0 (ah h4 (aU ((fy l1 l2 0).1) ((fy l1 l2 0).2.1) ((fy l1 l2 0).2.2:Nat) (px l1 l2 0)) 322::ah bs #[.slice a1 l1.length c1,.slice a2 l2.length c2] 85::ah b1 gh 34::L) w9:=hs11
   refine Zn [(10,.bool (decide (((0:Nat):Int)<2))),(2,zP b1 0),(3,zP h4 0),(7,zL bs 0 2 2),(8,.int .i64 2),(9,.int .i64 0)] ?_
   refine Zk (Zt (Zs (Zb (Zs ?_))))
   refine bU (.rd 0 (.rd 1 (.rd 2 .done))) ?_
   refine Zp 0 3 [(0,.cI (zP bs 0) .at_),(1,.gen [.slice a1 l1.length c1])] [(0,[.prop (0<=(0:Int)/\(0:Int)<(2:Int)),.prop (Value.pointer (some (Addr.add ⟨bs,0,none⟩ (Int.toNat 0*1)))=Value.pointer (some ⟨bs,0,none⟩))]),(1,[.cell ⟨bs,0,none⟩ (.slice a1 l1.length c1)])] (ak (aB za (aB (aS _ _ _) av)) (ak (aG (hs13.cell 1 rfl zk) av) cW)) ?_
   refine Zd (Zt ?_)
   refine bU (.rd 0 (.rd 1 (.ef 2 .done))) ?_
   refine Zr 0 2 [] ?_
   refine aF (f:=189) (args:=#[zP h4 0,.slice a1 l1.length c1]) Tryz.call189 (gR ((fy l1 l2 0).1) ((fy l1 l2 0).2.1) ((fy l1 l2 0).2.2) (px l1 l2 0) l1 (vn l1 l2 0) zc za (λw h=>hTab w (h.drop 2)) (λw h=>hr1 _ (h.drop 2)) hs13) ?_
   rintro v15 w16 ⟨rfl,hs14⟩
   refine⟨cK,?_⟩
   refine Zd (Zm (Zt ?_))
   refine bU (.rd 0 (.rd 1 .done)) ?_
   refine Zr 0 2 [] ?_
   refine Zd ?_
   have hs17:St w0 (ah h4 (aU ((fy l1 l2 1).1) ((fy l1 l2 1).2.1) ((fy l1 l2 1).2.2:Nat) (px l1 l2 1)) 322::ah bs #[.slice a1 l1.length c1,.slice a2 l2.length c2] 85::ah b1 gh 34::L) w16:=hs14
   exact aw.back 1 [2,3,7,8,9] zk zf ⟨za,hs17⟩
  ·have hs18:St w0 (ah h4 (aU ((fy l1 l2 1).1) ((fy l1 l2 1).2.1) ((fy l1 l2 1).2.2:Nat) (px l1 l2 1)) 322::ah bs #[.slice a1 l1.length c1,.slice a2 l2.length c2] 85::ah b1 gh 34::L) w9:=hs11
   refine Zn [(10,.bool (decide (((1:Nat):Int)<2))),(2,zP b1 0),(3,zP h4 0),(7,zL bs 0 2 2),(8,.int .i64 2),(9,.int .i64 1)] ?_
   refine Zk (Zt (Zs (Zb (Zs ?_))))
   refine bU (.rd 0 (.rd 1 (.rd 2 .done))) ?_
   refine Zp 0 3 [(0,.cI (zP bs 1) .at_),(1,.gen [.slice a2 l2.length c2])] [(0,[.prop (0<=(1:Int)/\(1:Int)<(2:Int)),.prop (Value.pointer (some (Addr.add ⟨bs,0,none⟩ (Int.toNat 1*1)))=Value.pointer (some ⟨bs,1,none⟩))]),(1,[.cell ⟨bs,1,none⟩ (.slice a2 l2.length c2)])] (ak (aB za (aB (aS _ _ _) av)) (ak (aG (hs18.cell 1 rfl zk) av) cW)) ?_
   refine Zd (Zt ?_)
   refine bU (.rd 0 (.rd 1 (.ef 2 .done))) ?_
   refine Zr 0 2 [] ?_
   refine aF (f:=189) (args:=#[zP h4 0,.slice a2 l2.length c2]) Tryz.call189 (gR ((fy l1 l2 1).1) ((fy l1 l2 1).2.1) ((fy l1 l2 1).2.2) (px l1 l2 1) l2 (vn l1 l2 1) zc za (λw h=>hTab w (h.drop 2)) (λw h=>hr2 _ (h.drop 2)) hs18) ?_
   rintro v20 w21 ⟨rfl,hs19⟩
   refine⟨cK,?_⟩
   refine Zd (Zm (Zt ?_))
   refine bU (.rd 0 (.rd 1 .done)) ?_
   refine Zr 0 2 [] ?_
   refine Zd ?_
   have hs22:St w0 (ah h4 (aU ((fy l1 l2 2).1) ((fy l1 l2 2).2.1) ((fy l1 l2 2).2.2:Nat) (px l1 l2 2)) 322::ah bs #[.slice a1 l1.length c1,.slice a2 l2.length c2] 85::ah b1 gh 34::L) w21:=hs19
   exact aw.back 2 [2,3,7,8,9] zk zf ⟨za,hs22⟩
 ·have h12':¬ (((k:Nat):Int)<2):=of_decide_eq_false h12
  have hk2:k=2:=za
  subst hk2
  have hs23:St w0 (ah h4 (aU ((fy l1 l2 2).1) ((fy l1 l2 2).2.1) ((fy l1 l2 2).2.2:Nat) (px l1 l2 2)) 322::ah bs #[.slice a1 l1.length c1,.slice a2 l2.length c2] 85::ah b1 gh 34::L) w9:=hs11
  refine Zx (aw.da (aw.dc (aw.jR (Zt (Zs ?_)))))
  refine bU (.rd 0 (.ef 1 (.ef 2 .done))) ?_
  refine Zr 0 1 [] ?_
  refine aF (f:=190) (args:=#[zP h4 0]) Tryz.call190 (ry ((fy l1 l2 2).1) ((fy l1 l2 2).2.1) ((fy l1 l2 2).2.2) (px l1 l2 2) (vn l1 l2 2) (λw h=>hTab w (h.drop 2)) hs23) ?_
  rintro v25 w26 ⟨rfl,hs24⟩
  refine⟨cK,?_⟩
  refine ar.store rfl rfl zk (b:=b1) (off:=0) (v:=.agg (ae af (lj (((fy l1 l2 2).1),(fy l1 l2 2).2.1,((fy l1 l2 2).2.2)) (px l1 l2 2)))) zk zk (ti:=Tryz.t34) zk hs24 2 rfl (bQ aj (show(lj (((fy l1 l2 2).1),(fy l1 l2 2).2.1,((fy l1 l2 2).2.2)) (px l1 l2 2)).length=32 from(eL _ 8 (Nat.le_refl _))) zk) (cX aj) (cJ aj (show(lj (((fy l1 l2 2).1),(fy l1 l2 2).2.1,((fy l1 l2 2).2.2)) (px l1 l2 2)).length=32 from(eL _ 8 (Nat.le_refl _))) zk) (cs':=ae af (lj (((fy l1 l2 2).1),(fy l1 l2 2).2.1,((fy l1 l2 2).2.2)) (px l1 l2 2))) (L':=(ah h4 (aU ((fy l1 l2 2).1) ((fy l1 l2 2).2.1) (((fy l1 l2 2).2.2):Nat) (px l1 l2 2)) 322)::ah bs #[.slice a1 l1.length c1,.slice a2 l2.length c2] 85::ah b1 (ae af (lj (((fy l1 l2 2).1),(fy l1 l2 2).2.1,((fy l1 l2 2).2.2)) (px l1 l2 2))) 34::L) (dz aj (show(lj (((fy l1 l2 2).1),(fy l1 l2 2).2.1,((fy l1 l2 2).2.2)) (px l1 l2 2)).length=32 from(eL _ 8 (Nat.le_refl _))) zk) rfl ?_
  intro w27 hs28
  refine⟨cK,?_⟩
  refine Zd (Zt (Ze ?_))
  refine aw.done (.inl rfl) (v:=.agg (ae af (lj (((fy l1 l2 2).1),(fy l1 l2 2).2.1,((fy l1 l2 2).2.2)) (px l1 l2 2)))) (λa hf=>ct rfl zk (ti:=Tryz.t34) zk zk (vs:=ae af (lj (((fy l1 l2 2).1),(fy l1 l2 2).2.1,((fy l1 l2 2).2.2)) (px l1 l2 2))) (bt aj (show(lj (((fy l1 l2 2).1),(fy l1 l2 2).2.1,((fy l1 l2 2).2.2)) (px l1 l2 2)).length=32 from(eL _ 8 (Nat.le_refl _))) zk) (hs28.cells 2 0 rfl zG) a hf) ?_
  have hs29:=((hs28.pl 1).pl 2).pl 2
  have hs30:=hs29.dr 2
  exact⟨rfl,hs30⟩
def vo (key:List Int):List Int:=gi (List.replicate 64 (0:Int)) 0 (key.take (min key.length 64))
def ig (key:List Int) (bv:Int) (k:Nat):List Int:=iter (λj q=>q.set j (bN .u8 (q.getD j 0) bv)) k (vo key)
def bS (key:List Int) (bv:Int):List Int:=ig key bv 64
theorem jr (key:List Int) (bv:Int):∀ k,(ig key bv k).length=64
 | 0=>by
  show(vo key).length=64
  rw [vo,mx zI,List.length_replicate]
 | k+1=>by
  show((ig key bv k).set k _).length=64
  rw [List.length_set]
  exact jr key bv k
theorem fZ (key:List Int) (bv:Int):(bS key bv).length=64:=jr key bv 64
theorem mE {w0 w:World}{L:List aI}{adk:Option Addr}{ck:Nat}(key:List Int) (bv:Int) (hkl:key.length<=64) (hnk:adk=none->ck=0) (hr:∀ w,St w0 L w->ag w adk key.length 1 (λk=>af (key.getD k 0))) (hs:St w0 L w):Calls Tryz.prog 180 #[.slice adk key.length ck,.int .u8 bv] w (aZ λrv w'=>∃ (ob:Nat),rv=zL ob 0 64 64/\St w0 (ah ob (ae af (bS key bv)) 5::L) w'):=by
 refine enter (args:=[.slice adk key.length ck,.int .u8 bv]) Tryz.func180 rfl Tryz.ntmps180 (Nat.le_of_ble_eq_true zk) ?_
 refine Zn [(0,.slice adk key.length ck),(1,.int .u8 bv)] ?_
 refine Zs ?_
 refine bU (.rd 0 .done) ?_
 refine Zr 0 1 [] ?_
 refine Zd (Zt (Zs (Zs ?_)))
 refine bU (.rd 0 (.rd 1 (.rd 2 .done))) ?_
 refine Zr 0 3 [] ?_
 refine Zd (Zt ?_)
 refine cS (t:=decide (((key.length:Nat):Int)>64)) (λh1=>?_) (λh1=>?_)
 ·have h1':((key.length:Nat):Int)>64:=of_decide_eq_true h1
  exfalso;omega
 ·have h1':¬ (((key.length:Nat):Int)>64):=of_decide_eq_false h1
  refine Zk (Zt (Zs ?_))
  refine bU (.ef 0 (.rd 1 .done)) ?_
  refine ar.makeSlice rfl zk (t:=85) (e:=5) (n:=64) zk zk (ti:=Tryz.t5) zk (z:=.int .u8 0) zk (f:=af) (0:Int) zk (size:=1) zk aj zf za (Nat.le_of_ble_eq_true zk) hs ?_
  intro b2 w3 hs4
  refine⟨cK,?_⟩
  refine Zr 1 1 [] ?_
  refine Zd (Zt (Zs ?_))
  refine bU (.rd 0 (.rd 1 (.ef 2 .done))) ?_
  refine Zr 0 2 [] ?_
  refine ar.Ck rfl zk aJ aj (b:=b2) (off:=0) (dLen:=64) (dCap:=64) (ys:=key) (adx:=adk) (cx:=ck) (0:Int) rfl zk hs4 (hr _ (hs4.drop 1)) (by rw [dV aj.size];simp only [List.length_replicate,Nat.zero_add];exact Nat.mul_le_mul_right _ za) (cs':=ae af (gi (List.replicate 64 (0:Int)) 0 (key.take (min key.length 64)))) (by show bI _ (0*1) _=_;exact sK aj.size zI) ?_
  intro w7 hs8
  refine⟨cK,?_⟩
  refine Zd (Zt (Zs (Zs ?_)))
  refine bU (.rd 0 .done) ?_
  refine Zr 0 1 [] ?_
  refine Zd (Zt (Zb ?_))
  refine aE.loop (T:=Nat) (λgg=>[(1,.int .u8 bv),(4,.slice none 0 0),(6,zL b2 0 64 64),(19,.int .i64 (gg:Nat))]) (λgg w=>(gg<=64)/\St w0 (ah b2 (ae af (ig key bv gg)) 5::L) w) (λgg=>64-gg) 0 [1,4,6,19] zk ⟨Nat.zero_le _,hs8⟩ ?_
  rintro k w9 ⟨hp0,hs10⟩
  have hp:k<=64:=hp0
  have hs11:St w0 (ah b2 (ae af (ig key bv k)) 5::L) w9:=hs10
  refine Zn [(1,.int .u8 bv),(4,.slice none 0 0),(6,zL b2 0 64 64),(19,.int .i64 (k:Nat))] ?_
  refine Zs ?_
  refine bU (.rd 0 .done) ?_
  refine Zr 0 1 [] ?_
  refine Zd (Zt (Zs ?_))
  refine cS (t:=decide (((k:Nat):Int)<64)) (λh12=>?_) (λh12=>?_)
  ·have h12':((k:Nat):Int)<64:=of_decide_eq_true h12
   have hk:k<64:=za
   have hln:=jr key bv k
   refine Zk (Zt (Zs (Zb (Zs ?_))))
   refine bU (.rd 0 (.rd 1 .done)) ?_
   refine Zr 0 2 [] ?_
   refine Zd (Zt ?_)
   refine bU (.rd 0 (.rd 1 (.rd 2 (.rd 3 (.rd 4 (.rd 5 (.rd 6 (.ef 7 .done)))))))) ?_
   refine Zp 0 7 [(2,.cI (zP b2 (0+(k*1))) .at_),(3,.gen [.int .u8 ((ig key bv k).getD k 0)]),(6,.cI (zP b2 (0+(k*1))) .at_)] [(2,[.prop (0<=((k:Nat):Int)/\((k:Nat):Int)<(64:Int)),.prop (Value.pointer (some (Addr.add ⟨b2,0,none⟩ (Int.toNat (k:Nat)*1)))=Value.pointer (some ⟨b2,0+(k*1),none⟩))]),(3,[.cell ⟨b2,0+(k*1),none⟩ (.int .u8 ((ig key bv k).getD k 0))]),(6,[.prop (0<=((k:Nat):Int)/\((k:Nat):Int)<(64:Int)),.prop (Value.pointer (some (Addr.add ⟨b2,0,none⟩ (Int.toNat (k:Nat)*1)))=Value.pointer (some ⟨b2,0+(k*1),none⟩))])] (ak (aB za (aB (aS _ _ _) av)) (ak (aG (ag.cC (au hs11 0 rfl aj.size (0:Int)) (k:=k) zd (j:=0) zf zk) av) (ak (aB za (aB (aS _ _ _) av)) cW))) ?_
   refine ar.store rfl rfl zk (b:=b2) (off:=0+(k*1)) (v:=.int .u8 (bN .u8 ((ig key bv k).getD k 0) bv)) zk zk (ti:=Tryz.t5) zk hs11 0 rfl zk zk (by rw [Nat.zero_add];exact fH (f:=af) (size:=1) (l:=ig key bv k) (k:=k) aj.size zd) (cs':=ae af ((ig key bv k).set k (bN .u8 ((ig key bv k).getD k 0) bv))) (L':=(ah b2 (ae af ((ig key bv k).set k (bN .u8 ((ig key bv k).getD k 0) bv))) 5)::L) (by rw [Nat.zero_add];exact eh (f:=af) (size:=1) (l:=ig key bv k) (k:=k) aj.size zd (bN .u8 ((ig key bv k).getD k 0) bv)) rfl ?_
   intro w13 hs14
   refine⟨cK,?_⟩
   refine Zd (Zm (Zt ?_))
   refine bU (.rd 0 (.rd 1 .done)) ?_
   refine Zp 0 2 [(0,.cI (.int .i64 ((k:Nat)+1)) (.gen []))] [(0,[.prop (Value.int .i64 (IntKind.i64.wrap ((k:Nat)+1))=Value.int .i64 ((k:Nat)+1))])] (ak (aB (dD za za) av) cW) ?_
   refine Zd ?_
   have hs15:St w0 (ah b2 (ae af (ig key bv (k+1))) 5::L) w13:=hs14
   exact aw.back (k+1) [1,4,6,19] zk (by show 64-(k+1)<64-k;omega) ⟨za,hs15⟩
  ·have h12':¬ (((k:Nat):Int)<64):=of_decide_eq_false h12
   have hke:k=64:=za
   subst hke
   refine Zx (aw.da (aw.dc (aw.jR (Zt (Zs ?_)))))
   refine bU (.rd 0 (.rd 1 .done)) ?_
   refine Zr 0 2 [] ?_
   refine Zd (Zt (Ze ?_))
   refine bg (v:=zL b2 0 64 64) ?_
   exact⟨b2,rfl,hs11⟩
def gz (key bl:List Int):List Int:=dP (bS key 92) (dP (bS key 54) bl)
theorem ea (key bl:List Int):(gz key bl).length=32:=bR _ _
def ot (x y:List Int) (k:Nat):Int:=iter (λj v=>fV .u8 v (bN .u8 (x.getD j 0) (y.getD j 0))) k 0
theorem zQ {p:Prop}(h:p:=by rw [fZ];decide):p:=h
theorem zU {p:Prop}(h:p:=by rw [bR];decide):p:=h
theorem vp {w0 w:World}{L:List aI}{adk:Option Addr}{ck:Nat}{adb:Option Addr}{cb:Nat}(key:List Int) (bl:List Int) (hkl:key.length<=64) (hnk:adk=none->ck=0) (hbc:bl.length<=cb) (hbl:bl.length<=1000000000) (hTab:∀ w,St w0 L w->cQ w) (hr1:∀ w,St w0 L w->ag w adk key.length 1 (λk=>af (key.getD k 0))) (hr2:∀ w,St w0 L w->ag w adb bl.length 1 (λk=>af (bl.getD k 0))) (hs:St w0 L w):Calls Tryz.prog 141 #[.slice adk key.length ck,.slice adb bl.length cb] w (aZ λrv w'=>rv=.agg (ae af (gz key bl))/\St w0 L w'):=by
 refine enter (args:=[.slice adk key.length ck,.slice adb bl.length cb]) Tryz.func141 rfl Tryz.ntmps141 (Nat.le_of_ble_eq_true zk) ?_
 refine Zn [(0,.slice adk key.length ck),(1,.slice adb bl.length cb)] ?_
 refine Zs ?_
 refine bU (.ef 0 .done) ?_
 refine ar.alloc rfl rfl zk (z:=.agg gh) zk hs (cs:=gh) zk ?_
 intro b1 w2 hs3
 refine⟨cK,?_⟩
 refine Zd (Zt (Zs ?_))
 refine bU (.rd 0 (.ef 1 (.rd 2 (.ef 3 (.ef 4 (.ef 5 (.ef 6 .done))))))) ?_
 refine Zr 0 1 [] ?_
 refine aF (f:=180) (args:=#[.slice adk key.length ck,.int .u8 54]) Tryz.call180 (mE key 54 zc hnk (λw h=>hr1 _ (h.drop 1)) hs3) ?_
 rintro v6 w7 ⟨ob4,rfl,hs5⟩
 refine⟨cK,?_⟩
 refine Zr 2 1 [] ?_
 refine ar.aW rfl zk (t:=67) (e:=85) (n:=2) (ps:=[(0,zL ob4 0 64 64),(1,.slice adb bl.length cb)]) zk zk (ti:=Tryz.t85) (z:=.slice none 0 0) zk zk zf zf (cs:=#[zL ob4 0 64 64,.slice adb bl.length cb]) zk hs5 ?_
 intro b8 w9 hs10 hz11
 refine⟨cK,?_⟩
 refine aF (f:=168) (args:=#[zL b8 0 2 2]) Tryz.call168 (ma (bS key 54) bl (fZ _ _) rfl zQ zc zQ zc (λw h=>hTab w (h.drop 2)) (λw h=>au h 0 rfl aj.size _) (λw h=>hr2 _ (h.drop 2)) hs10) ?_
 rintro v13 w14 ⟨rfl,hs12⟩
 refine⟨cK,?_⟩
 refine ar.alloc rfl rfl zk (z:=.agg gh) zk hs12 (cs:=gh) zk ?_
 intro b15 w16 hs17
 refine⟨cK,?_⟩
 refine ar.store rfl rfl zk (b:=b15) (off:=0) (v:=.agg (ae af (dP (bS key 54) bl))) zk zk (ti:=Tryz.t34) zk hs17 0 rfl (bQ aj (show(dP (bS key 54) bl).length=32 from(bR _ _)) zk) (cX aj) (cJ aj (show(dP (bS key 54) bl).length=32 from(bR _ _)) zk) (cs':=ae af (dP (bS key 54) bl)) (L':=(ah b15 (ae af (dP (bS key 54) bl)) 34)::ah b8 #[zL ob4 0 64 64,.slice adb bl.length cb] 85::ah ob4 (ae af (bS key 54)) 5::ah b1 gh 34::L) (dz aj (show(dP (bS key 54) bl).length=32 from(bR _ _)) zk) rfl ?_
 intro w18 hs19
 refine⟨cK,?_⟩
 refine Zd (Zt (Zs ?_))
 refine aE.aV [0,1,0,7,15,31] (.rd 0 (.rd 2 (.ef 1 (.ef 3 (.ef 4 (.ef 5 .done)))))) zk zk ai zk hs19 ?_
 intro w20 hs21 hw22
 refine Zh [(0,.gen []),(2,.cI (zL b15 0 32 32) (.sub 0 32))] [(2,[.prop (((none:Option Operand)=none->(0:Nat)=0)/\((none:Option Operand)=none->(32:Nat)=32)/\(0:Nat)<=32/\(32:Nat)<=32),.prop (Value.slice (some (if 32=0 then Addr.mk b15 0 none else (Addr.mk b15 0 none).add (0*1))) (32-0) (32-0)=Value.slice (some ⟨b15,0,none⟩) 32 32)])] (ak (aB ⟨(by first|(intro _;rfl)|(intro hc;cases hc)),(by first|(intro _;rfl)|(intro hc;cases hc)),za,za⟩ (aB (cw _ _ _ _ _ zf) av)) cW) ?_
 refine aF (f:=180) (args:=#[.slice adk key.length ck,.int .u8 92]) Tryz.call180 (mE key 92 zc hnk (λw h=>hr1 _ (h.drop 4)) hs21) ?_
 rintro v25 w26 ⟨ob23,rfl,hs24⟩
 refine⟨bw (n:=[.prop (((none:Option Operand)=none->(0:Nat)=0)/\((none:Option Operand)=none->(32:Nat)=32)/\(0:Nat)<=32/\(32:Nat)<=32),.prop (Value.slice (some (if 32=0 then Addr.mk b15 0 none else (Addr.mk b15 0 none).add (0*1))) (32-0) (32-0)=Value.slice (some ⟨b15,0,none⟩) 32 32)]) zk (aB ⟨(by first|(intro _;rfl)|(intro hc;cases hc)),(by first|(intro _;rfl)|(intro hc;cases hc)),za,za⟩ (aB (cw _ _ _ _ _ zf) av)),?_⟩
 refine ar.aW rfl zk (t:=67) (e:=85) (n:=2) (ps:=[(0,zL ob23 0 64 64),(1,zL b15 0 32 32)]) zk zk (ti:=Tryz.t85) (z:=.slice none 0 0) zk zk zf zf (cs:=#[zL ob23 0 64 64,zL b15 0 32 32]) zk hs24 ?_
 intro b27 w28 hs29 hz30
 refine⟨cK,?_⟩
 refine aF (f:=168) (args:=#[zL b27 0 2 2]) Tryz.call168 (ma (bS key 92) (dP (bS key 54) bl) (fZ _ _) (bR _ _) zQ zU zQ zU (λw h=>hTab w (h.drop 5)) (λw h=>au h 0 rfl aj.size _) (λw h=>au h 1 rfl aj.size _) hs29) ?_
 rintro v32 w33 ⟨rfl,hs31⟩
 refine⟨cK,?_⟩
 refine ar.store rfl rfl zk (b:=b1) (off:=0) (v:=.agg (ae af (dP (bS key 92) (dP (bS key 54) bl)))) zk zk (ti:=Tryz.t34) zk hs31 5 rfl (bQ aj (show(dP (bS key 92) (dP (bS key 54) bl)).length=32 from(bR _ _)) zk) (cX aj) (cJ aj (show(dP (bS key 92) (dP (bS key 54) bl)).length=32 from(bR _ _)) zk) (cs':=ae af (dP (bS key 92) (dP (bS key 54) bl))) (L':=(ah b27 #[zL ob23 0 64 64,zL b15 0 32 32] 85)::ah ob23 (ae af (bS key 92)) 5::ah b15 (ae af (dP (bS key 54) bl)) 34::ah b8 #[zL ob4 0 64 64,.slice adb bl.length cb] 85::ah ob4 (ae af (bS key 54)) 5::ah b1 (ae af (dP (bS key 92) (dP (bS key 54) bl))) 34::L) (dz aj (show(dP (bS key 92) (dP (bS key 54) bl)).length=32 from(bR _ _)) zk) rfl ?_
 intro w34 hs35
 refine⟨cK,?_⟩
 refine Zd (Zt (Ze ?_))
 refine aw.done (.inl rfl) (v:=.agg (ae af (dP (bS key 92) (dP (bS key 54) bl)))) (λa hf=>ct rfl zk (ti:=Tryz.t34) zk zk (vs:=ae af (dP (bS key 92) (dP (bS key 54) bl))) (bt aj (show(dP (bS key 92) (dP (bS key 54) bl)).length=32 from(bR _ _)) zk) (hs35.cells 5 0 rfl zG) a hf) ?_
 have hs36:=hs35.dr 6
 exact⟨rfl,hs36⟩
theorem ou (v:aO):v.toList.length=32:=by simp
def ov (x y:List Int):Bool:=ot x y 32 == 0
theorem vt {w0 w:World}{L:List aI}(x:List Int) (y:List Int) (lx:x.length=32) (ly:y.length=32) (hs:St w0 L w):Calls Tryz.prog 210 #[.agg (ae af x),.agg (ae af y)] w (aZ λrv w'=>rv=.bool (ov x y)/\St w0 L w'):=by
 refine enter (args:=[.agg (ae af x),.agg (ae af y)]) Tryz.func210 rfl Tryz.ntmps210 (Nat.le_of_ble_eq_true zk) ?_
 refine Zn [(0,.agg (ae af x)),(1,.agg (ae af y))] ?_
 refine Zs ?_
 refine bU (.ef 0 (.ef 1 (.rd 2 .done))) ?_
 refine ar.box rfl rfl zk (v:=.agg (ae af x)) zk hs (cs:=ae af x) zk ?_
 intro b1 w2 hs3
 refine⟨cK,?_⟩
 refine ar.box rfl rfl zk (v:=.agg (ae af y)) zk hs3 (cs:=ae af y) zk ?_
 intro b4 w5 hs6
 refine⟨cK,?_⟩
 refine Zr 2 1 [] ?_
 refine Zd (Zt (Zs ?_))
 refine bU (.rd 0 .done) ?_
 refine Zr 0 1 [] ?_
 refine Zd (Zt (Zs (Zs ?_)))
 refine bU (.rd 0 .done) ?_
 refine Zr 0 1 [] ?_
 refine Zd (Zt (Zb ?_))
 refine aE.loop (T:=Nat×Int) (λgg=>[(2,zP b1 0),(3,zP b4 0),(4,.bool false),(5,.int .u8 gg.2),(7,.int .i64 (gg.1:Nat))]) (λgg w=>(gg.1<=32/\gg.2=ot x y gg.1)/\St w0 (ah b4 (ae af y) 34::ah b1 (ae af x) 34::L) w) (λgg=>32-gg.1) (0,0) [2,3,4,5,7] zk ⟨⟨Nat.zero_le _,rfl⟩,hs6⟩ ?_
 rintro⟨k,wv⟩ w7 ⟨hp0,hs8⟩
 have hp:k<=32/\wv=ot x y k:=hp0
 have hs9:St w0 (ah b4 (ae af y) 34::ah b1 (ae af x) 34::L) w7:=hs8
 refine Zn [(2,zP b1 0),(3,zP b4 0),(4,.bool false),(5,.int .u8 wv),(7,.int .i64 (k:Nat))] ?_
 refine Zs ?_
 refine bU (.rd 0 .done) ?_
 refine Zr 0 1 [] ?_
 refine Zd (Zt (Zs ?_))
 refine cS (t:=decide (((k:Nat):Int)<32)) (λh10=>?_) (λh10=>?_)
 ·have h10':((k:Nat):Int)<32:=of_decide_eq_true h10
  have hk:k<32:=za
  refine Zk (Zt (Zs (Zb (Zs ?_))))
  refine bU (.rd 0 (.rd 1 .done)) ?_
  refine Zr 0 2 [] ?_
  refine Zd (Zt ?_)
  refine aE.aV [0,0,2,6,0,16,48,126,255,511] (.rd 0 (.rd 1 (.rd 2 (.rd 3 (.rd 4 (.rd 5 (.rd 6 (.rd 7 (.rd 8 (.rd 9 .done)))))))))) zk zk ai zk hs9 ?_
  intro w11 hs12 hw13
  refine Zp 0 10 [(2,.cI (zP b1 (0+(k*1))) .at_),(3,.gen [.int .u8 (x.getD k 0)]),(5,.cI (zP b4 (0+(k*1))) .at_),(6,.gen [.int .u8 (y.getD k 0)])] [(2,[.prop (0<=((k:Nat):Int)/\((k:Nat):Int)<(32:Int)),.prop (Value.pointer (some (Addr.add ⟨b1,0,none⟩ (Int.toNat (k:Nat)*1)))=Value.pointer (some ⟨b1,0+(k*1),none⟩))]),(3,[.cell ⟨b1,0+(k*1),none⟩ (.int .u8 (x.getD k 0))]),(5,[.prop (0<=((k:Nat):Int)/\((k:Nat):Int)<(32:Int)),.prop (Value.pointer (some (Addr.add ⟨b4,0,none⟩ (Int.toNat (k:Nat)*1)))=Value.pointer (some ⟨b4,0+(k*1),none⟩))]),(6,[.cell ⟨b4,0+(k*1),none⟩ (.int .u8 (y.getD k 0))])] (ak (aB za (aB (aS _ _ _) av)) (ak (aG (ag.cC (au hs12 1 rfl aj.size (0:Int)) (k:=k) zd (j:=0) zf zk) av) (ak (aB za (aB (aS _ _ _) av)) (ak (aG (ag.cC (au hs12 0 rfl aj.size (0:Int)) (k:=k) zd (j:=0) zf zk) av) cW)))) ?_
  refine Zd (Zm (Zt ?_))
  refine bU (.rd 0 (.rd 1 .done)) ?_
  refine Zp 0 2 [(0,.cI (.int .i64 ((k:Nat)+1)) (.gen []))] [(0,[.prop (Value.int .i64 (IntKind.i64.wrap ((k:Nat)+1))=Value.int .i64 ((k:Nat)+1))])] (ak (aB (dD za za) av) cW) ?_
  refine Zd ?_
  exact aw.back (k+1,fV .u8 wv (bN .u8 (x.getD k 0) (y.getD k 0))) [2,3,4,5,7] zk (by show 32-(k+1)<32-k;omega) ⟨⟨za,by rw [hp.2];rfl⟩,hs12⟩
 ·have h10':¬ (((k:Nat):Int)<32):=of_decide_eq_false h10
  have hke:k=32:=za
  refine Zx (aw.da (aw.dc (aw.jR (Zt (Zs ?_)))))
  refine bU (.rd 0 (.rd 1 (.rd 2 .done))) ?_
  refine Zr 0 3 [] ?_
  refine Zd (Zt (Ze ?_))
  refine bg (v:=.bool ((wv:Int) == 0)) ?_
  have hs14:=hs9.dr 2
  exact⟨(by rw [hp.2,hke];rfl),hs14⟩
theorem vu {w0 w:World}{L:List aI}(x y:aO) (hs:St w0 L w):Calls Tryz.prog 210 #[.agg (aO.cells x),.agg (aO.cells y)] w (aZ λrv w'=>rv=.bool (ov x.toList y.toList)/\St w0 L w'):=by
 rw [Dx,Dx]
 exact vt _ _ (ou x) (ou y) hs
def ow (wrd:ByteArray) (i:Int):List Int:=dP (bF wrd) (([]:List Int)++wd i)
theorem js (wrd:ByteArray) (i:Int):(ow wrd i).length=32:=bR _ _
theorem zx {p:Prop}(h:p:=by first|omega|(simp only [List.length_append,List.length_nil,aP];omega)):p:=h
theorem AE {w0 w:World}{L:List aI}(wrd:ByteArray) (i:Int) (most:Int) (hi:1<=i) (him:i<=most) (hmost:most<=100) (hwz:wrd.size<=1000000000) (hTab:∀ w,St w0 L w->cQ w) (hs:St w0 L w):Calls Tryz.prog 128 #[.string wrd,.int .i64 i,.int .i64 most] w (aZ λrv w'=>∃ (ao:Option Addr) (co:Nat),rv=.slice ao ((ow wrd i).length) co/\St w0 (Sl ao co 5 1 af (ow wrd i)::L) w'):=by
 refine enter (args:=[.string wrd,.int .i64 i,.int .i64 most]) Tryz.func128 rfl Tryz.ntmps128 (Nat.le_of_ble_eq_true zk) ?_
 refine Zn [(0,.string wrd),(1,.int .i64 i),(2,.int .i64 most)] ?_
 refine Zs ?_
 refine bU (.rd 0 .done) ?_
 refine Zr 0 1 [] ?_
 refine Zd (Zt (Zs (Zs ?_)))
 refine aE.join (T:=Unit) (E:=λ_=>[(14,.bool ((decide ((i:Int)<1)) || (decide ((i:Int)>most)))),(6,.slice none 0 0),(0,.string wrd),(1,.int .i64 i)]) (F:=λ_ w=>St w0 L w) ?_ ?_
 ·refine bU (.rd 0 (.rd 1 (.rd 2 (.rd 3 (.rd 4 (.rd 5 (.rd 6 .done))))))) ?_
  refine Zr 0 3 [] ?_
  rcases Bool.eq_false_or_eq_true (decide ((i:Int)<1)) with h1|h1
  ·refine di 10 true h1 ?_
   have h1':(i:Int)<1:=of_decide_eq_true h1
   refine Zr 3 4 [] ?_
   refine Zd ?_
   refine aw.pick [14,6,0,1] (S':=[(14,.bool true),(6,.slice none 0 0),(0,.string wrd),(1,.int .i64 i)]) zk ?_
   exact aw.bD () (by first|rfl|(simp only [h1,Bool.not_true,Bool.not_false,Bool.true_or,Bool.false_or,Bool.true_and,Bool.false_and,Bool.or_true,Bool.or_false,Bool.and_true,Bool.and_false];done)|(simp [h1];done)) hs
  ·refine di 10 false h1 ?_
   have h1':¬ ((i:Int)<1):=of_decide_eq_false h1
   refine Zr 3 4 [] ?_
   refine Zd ?_
   refine aw.pick [14,6,0,1] (S':=[(14,.bool (decide ((i:Int)>most))),(6,.slice none 0 0),(0,.string wrd),(1,.int .i64 i)]) zk ?_
   exact aw.bD () (by first|rfl|(simp only [h1,Bool.not_true,Bool.not_false,Bool.true_or,Bool.false_or,Bool.true_and,Bool.false_and,Bool.or_true,Bool.or_false,Bool.and_true,Bool.and_false];done)|(simp [h1];done)) hs
 intro _ w2 hs3
 refine Zt ?_
 refine cS (t:=(decide ((i:Int)<1)) || (decide ((i:Int)>most))) (λh4=>?_) (λh4=>?_)
 ·exfalso;rcases Bool.or_eq_true_iff.1 h4 with h9|h9
  ·have:=of_decide_eq_true h9;omega
  ·have:=of_decide_eq_true h9;omega
 ·have h4a:(decide ((i:Int)<1))=false:=(Bool.or_eq_false_iff.1 h4).1
  have h4a':¬ ((i:Int)<1):=of_decide_eq_false h4a
  have h4b:(decide ((i:Int)>most))=false:=(Bool.or_eq_false_iff.1 h4).2
  have h4b':¬ ((i:Int)>most):=of_decide_eq_false h4b
  refine Zk (Zt (Zs ?_))
  refine bU (.rd 0 (.ef 1 (.rd 2 (.rd 3 (.ef 4 (.ef 5 (.ef 6 (.ef 7 (.ef 8 .done))))))))) ?_
  refine Zr 0 1 [] ?_
  refine ar.td rfl zk (src:=9) (dst:=85) (e:=5) (f:=af) rfl wrd zk zk zk zk hwz hs3 ?_
  intro b5 m6 w7 hs8
  have hsb:=cu wrd
  refine⟨cK,?_⟩
  refine Zp 2 2 [(3,.cI (.int .u64 i) (.gen []))] [(3,[.prop (Value.int .u64 (IntKind.u64.wrap i)=Value.int .u64 i)])] (ak (aB (nB za za) av) cW) ?_
  have hs9:=St.bW hs8 5 1 af
  refine aF (f:=99) (args:=#[.slice none 0 0,.int .u64 i]) Tryz.call99 (bX ([]:List Int) i ze za hs9) ?_
  rintro v13 w14 ⟨ao10,co11,rfl,hs12⟩
  refine⟨cK,?_⟩
  refine ar.aW rfl zk (t:=67) (e:=85) (n:=2) (ps:=[(0,zL b5 0 ((bF wrd).length) ((bF wrd).length+m6)),(1,.slice ao10 ((([]:List Int)++wd i).length) co11)]) zk zk (ti:=Tryz.t85) (z:=.slice none 0 0) zk zk zf zf (cs:=#[zL b5 0 ((bF wrd).length) ((bF wrd).length+m6),.slice ao10 ((([]:List Int)++wd i).length) co11]) zk hs12 ?_
  intro b15 w16 hs17 hz18
  refine⟨cK,?_⟩
  refine aF (f:=168) (args:=#[zL b15 0 2 2]) Tryz.call168 (ma (bF wrd) (([]:List Int)++wd i) zc zc zx (Sl.cap (hs17.at_ 1 rfl)) zx zx (λw h=>hTab w (h.drop 2)) (λw h=>mF h 1 rfl) (λw h=>h.rows 0 rfl aj.size _) hs17) ?_
  rintro v20 w21 ⟨rfl,hs19⟩
  refine⟨cK,?_⟩
  refine ar.alloc rfl rfl zk (z:=.agg gh) zk hs19 (cs:=gh) zk ?_
  intro b22 w23 hs24
  refine⟨cK,?_⟩
  refine ar.store rfl rfl zk (b:=b22) (off:=0) (v:=.agg (ae af (dP (bF wrd) (([]:List Int)++wd i)))) zk zk (ti:=Tryz.t34) zk hs24 0 rfl (bQ aj (show(dP (bF wrd) (([]:List Int)++wd i)).length=32 from(bR _ _)) zk) (cX aj) (cJ aj (show(dP (bF wrd) (([]:List Int)++wd i)).length=32 from(bR _ _)) zk) (cs':=ae af (dP (bF wrd) (([]:List Int)++wd i))) (L':=(ah b22 (ae af (dP (bF wrd) (([]:List Int)++wd i))) 34)::ah b15 #[zL b5 0 ((bF wrd).length) ((bF wrd).length+m6),.slice ao10 ((([]:List Int)++wd i).length) co11] 85::Sl ao10 co11 5 1 af (([]:List Int)++wd i)::ah b5 (ae af (bF wrd++List.replicate m6 0)) 5::L) (dz aj (show(dP (bF wrd) (([]:List Int)++wd i)).length=32 from(bR _ _)) zk) rfl ?_
  intro w25 hs26
  refine⟨cK,?_⟩
  refine Zd (Zt (Zs ?_))
  refine bU (.rd 0 (.ef 1 (.rd 2 .done))) ?_
  refine Zp 0 1 [(0,.cI (zL b22 0 32 32) (.sub 0 32))] [(0,[.prop (((none:Option Operand)=none->(0:Nat)=0)/\((none:Option Operand)=none->(32:Nat)=32)/\(0:Nat)<=32/\(32:Nat)<=32),.prop (Value.slice (some (if 32=0 then Addr.mk b22 0 none else (Addr.mk b22 0 none).add (0*1))) (32-0) (32-0)=Value.slice (some ⟨b22,0,none⟩) 32 32)])] (ak (aB ⟨(by first|(intro _;rfl)|(intro hc;cases hc)),(by first|(intro _;rfl)|(intro hc;cases hc)),za,za⟩ (aB (cw _ _ _ _ _ zf) av)) cW) ?_
  refine aF (f:=94) (args:=#[zL b22 0 ((dP (bF wrd) (([]:List Int)++wd i)).length) 32]) Tryz.call94 (fv (dP (bF wrd) (([]:List Int)++wd i)) zU (.inl ⟨_,_,rfl⟩) (λw h=>au h 0 rfl aj.size _) hs26) ?_
  rintro v30 w31 ⟨ao27,co28,rfl,hs29⟩
  refine⟨cK,?_⟩
  refine Zr 2 1 [] ?_
  refine Zd (Zt (Ze ?_))
  refine bg (v:=.slice ao27 ((dP (bF wrd) (([]:List Int)++wd i)).length) co28) ?_
  have hs32:=((((hs29.pl 0).pl 4).pl 4).pl 4).pl 4
  have hs33:=hs32.dr 4
  exact⟨ao27,co28,rfl,hs33⟩
abbrev Ew:ByteArray:=(⟨#[114,97,116,99,104,101,116,32,114,101,112,108,105,99,97]⟩:ByteArray)
def fB (i:Int):List Int:=ow Ew i
theorem hH (i:Int):(fB i).length=32:=bR _ _
theorem lk {w0 w:World}{L:List aI}(i:Int) (hi:1<=i) (him:i<=11) (hTab:∀ w,St w0 L w->cQ w) (hs:St w0 L w):Calls Tryz.prog 92 #[.int .i64 i] w (aZ λrv w'=>∃ (ao:Option Addr) (co:Nat),rv=.slice ao ((fB i).length) co/\St w0 (Sl ao co 5 1 af (fB i)::L) w'):=by
 refine enter (args:=[.int .i64 i]) Tryz.func92 rfl Tryz.ntmps92 (Nat.le_of_ble_eq_true zk) ?_
 refine Zn [(0,.int .i64 i)] ?_
 refine Zs ?_
 refine bU (.rd 0 .done) ?_
 refine Zr 0 1 [] ?_
 refine Zd (Zt (Zs ?_))
 refine bU (.rd 0 (.ef 1 (.rd 2 .done))) ?_
 refine Zr 0 1 [] ?_
 refine aF (f:=128) (args:=#[.string (⟨#[114,97,116,99,104,101,116,32,114,101,112,108,105,99,97]⟩:ByteArray),.int .i64 i,.int .i64 11]) Tryz.call128 (AE (⟨#[114,97,116,99,104,101,116,32,114,101,112,108,105,99,97]⟩:ByteArray) i 11 zc zc zc zf (λw h=>hTab w (h.drop 0)) hs) ?_
 rintro v4 w5 ⟨ao1,co2,rfl,hs3⟩
 refine⟨cK,?_⟩
 refine Zr 2 1 [] ?_
 refine Zd (Zt (Ze ?_))
 refine bg (v:=.slice ao1 ((ow (⟨#[114,97,116,99,104,101,116,32,114,101,112,108,105,99,97]⟩:ByteArray) i).length) co2) ?_
 exact⟨ao1,co2,rfl,hs3⟩
def rA (l1 l2:List Int):Nat->List Int
 | 0=>[]
 | 1=>l1
 | _=>l1++l2
theorem yo {w0 w:World}{L:List aI}{bs:Nat}{a1:Option Addr}{n1:Nat}{c1:Nat}{a2:Option Addr}{n2:Nat}{c2:Nat}(l1:List Int) (l2:List Int) (e1:l1.length=n1) (e2:l2.length=n2) (g1:l1.length<=100000) (g2:l2.length<=100000) (hn1:a1=none->c1=0) (hn2:a2=none->c2=0) (hr1:∀ w,St w0 L w->ag w a1 l1.length 1 (λk=>af (l1.getD k 0))) (hr2:∀ w,St w0 L w->ag w a2 l2.length 1 (λk=>af (l2.getD k 0))) (hs:St w0 (ah bs #[.slice a1 n1 c1,.slice a2 n2 c2] 85::L) w):Calls Tryz.prog 113 #[zL bs 0 2 2] w (aZ λrv w'=>∃ (ao:Option Addr) (co:Nat),rv=.slice ao ((l1++l2).length) co/\St w0 (ah bs #[.slice a1 n1 c1,.slice a2 n2 c2] 85::Sl ao co 5 1 af (l1++l2)::L) w'):=by
 refine enter (args:=[zL bs 0 2 2]) Tryz.func113 rfl Tryz.ntmps113 (Nat.le_of_ble_eq_true zk) ?_
 refine Zn [(0,zL bs 0 2 2)] ?_
 refine Zs ?_
 subst e1
 subst e2
 refine bU (.rd 0 .done) ?_
 refine Zr 0 1 [] ?_
 refine Zd (Zt (Zs ?_))
 refine bU (.rd 0 .done) ?_
 refine Zr 0 1 [] ?_
 refine Zd (Zt (Zs (Zs ?_)))
 refine bU (.rd 0 (.rd 1 (.rd 2 .done))) ?_
 refine Zr 0 3 [] ?_
 refine Zd (Zt (Zb ?_))
 refine aE.loop (T:=Nat×Int) (λgg=>[(0,zL bs 0 2 2),(2,.slice none 0 0),(3,.int .i64 gg.2),(9,zL bs 0 2 2),(10,.int .i64 2),(11,.int .i64 (gg.1:Nat))]) (λgg w=>(gg.1<=2/\(gg.1=0->gg.2=(0:Int))/\(gg.1=1->gg.2=(0:Int)+(l1.length:Nat))/\(gg.1=2->gg.2=(0:Int)+(l1.length:Nat)+(l2.length:Nat)))/\St w0 (ah bs #[.slice a1 l1.length c1,.slice a2 l2.length c2] 85::L) w) (λgg=>2-gg.1) (0,0) [0,2,3,9,10,11] zk ⟨⟨Nat.zero_le _,λ_=>rfl,λh=>by omega,λh=>by omega⟩,hs⟩ ?_
 rintro⟨k,z⟩ w1 ⟨hp0,hs2⟩
 have hp:k<=2/\(k=0->z=(0:Int))/\(k=1->z=(0:Int)+(l1.length:Nat))/\(k=2->z=(0:Int)+(l1.length:Nat)+(l2.length:Nat)):=hp0
 have hs3:St w0 (ah bs #[.slice a1 l1.length c1,.slice a2 l2.length c2] 85::L) w1:=hs2
 refine Zn [(0,zL bs 0 2 2),(2,.slice none 0 0),(3,.int .i64 z),(9,zL bs 0 2 2),(10,.int .i64 2),(11,.int .i64 (k:Nat))] ?_
 refine Zs ?_
 refine bU (.rd 0 .done) ?_
 refine Zr 0 1 [] ?_
 refine Zd (Zt (Zs ?_))
 refine Zn [(12,.bool (decide (((k:Nat):Int)<2))),(0,zL bs 0 2 2),(2,.slice none 0 0),(3,.int .i64 z),(9,zL bs 0 2 2),(10,.int .i64 2),(11,.int .i64 (k:Nat))] ?_
 refine cS (t:=decide (((k:Nat):Int)<2)) (λh4=>?_) (λh4=>?_)
 ·have h4':((k:Nat):Int)<2:=of_decide_eq_true h4
  have hcs:k=0\/k=1:=za
  rcases hcs with rfl|rfl
  ·have hz:z=(0:Int):=hp.2.1 rfl
   refine Zn [(12,.bool (decide (((0:Nat):Int)<2))),(0,zL bs 0 2 2),(2,.slice none 0 0),(3,.int .i64 z),(9,zL bs 0 2 2),(10,.int .i64 2),(11,.int .i64 0)] ?_
   refine Zk (Zt (Zs (Zb (Zs ?_))))
   refine bU (.rd 0 (.rd 1 (.rd 2 .done))) ?_
   refine Zp 0 3 [(0,.cI (zP bs 0) .at_),(1,.gen [.slice a1 l1.length c1])] [(0,[.prop (0<=(0:Int)/\(0:Int)<(2:Int)),.prop (Value.pointer (some (Addr.add ⟨bs,0,none⟩ (Int.toNat 0*1)))=Value.pointer (some ⟨bs,0,none⟩))]),(1,[.cell ⟨bs,0,none⟩ (.slice a1 l1.length c1)])] (ak (aB za (aB (aS _ _ _) av)) (ak (aG (hs3.cell 0 rfl zk) av) cW)) ?_
   refine Zd (Zt (Zs ?_))
   refine bU (.rd 0 (.rd 1 (.rd 2 (.rd 3 (.rd 4 .done))))) ?_
   refine Zp 0 5 [(3,.cI (.int .i64 (z+(l1.length:Nat))) (.gen []))] [(3,[.prop (Value.int .i64 (IntKind.i64.wrap (z+(l1.length:Nat)))=Value.int .i64 (z+(l1.length:Nat)))])] (ak (aB (dD za za) av) cW) ?_
   refine Zd (Zt (Zs ?_))
   refine bU (.rd 0 (.rd 1 .done)) ?_
   refine Zr 0 2 [] ?_
   refine Zd (Zt ?_)
   refine cS (t:=decide ((z+(l1.length:Nat):Int)<0)) (λh5=>?_) (λh5=>?_)
   ·have h5':(z+(l1.length:Nat):Int)<0:=of_decide_eq_true h5
    exfalso;omega
   ·have h5':¬ ((z+(l1.length:Nat):Int)<0):=of_decide_eq_false h5
    refine Zk (Zm (Zt ?_))
    refine bU (.rd 0 (.rd 1 .done)) ?_
    refine Zr 0 2 [] ?_
    refine Zd ?_
    exact aw.back (1,z+(l1.length:Nat)) [0,2,3,9,10,11] zk (by show 2-1<2-0;omega) ⟨⟨za,za,za,za⟩,hs3⟩
  ·have hz:z=(0:Int)+(l1.length:Nat):=hp.2.2.1 rfl
   refine Zn [(12,.bool (decide (((1:Nat):Int)<2))),(0,zL bs 0 2 2),(2,.slice none 0 0),(3,.int .i64 z),(9,zL bs 0 2 2),(10,.int .i64 2),(11,.int .i64 1)] ?_
   refine Zk (Zt (Zs (Zb (Zs ?_))))
   refine bU (.rd 0 (.rd 1 (.rd 2 .done))) ?_
   refine Zp 0 3 [(0,.cI (zP bs 1) .at_),(1,.gen [.slice a2 l2.length c2])] [(0,[.prop (0<=(1:Int)/\(1:Int)<(2:Int)),.prop (Value.pointer (some (Addr.add ⟨bs,0,none⟩ (Int.toNat 1*1)))=Value.pointer (some ⟨bs,1,none⟩))]),(1,[.cell ⟨bs,1,none⟩ (.slice a2 l2.length c2)])] (ak (aB za (aB (aS _ _ _) av)) (ak (aG (hs3.cell 0 rfl zk) av) cW)) ?_
   refine Zd (Zt (Zs ?_))
   refine bU (.rd 0 (.rd 1 (.rd 2 (.rd 3 (.rd 4 .done))))) ?_
   refine Zp 0 5 [(3,.cI (.int .i64 (z+(l2.length:Nat))) (.gen []))] [(3,[.prop (Value.int .i64 (IntKind.i64.wrap (z+(l2.length:Nat)))=Value.int .i64 (z+(l2.length:Nat)))])] (ak (aB (dD za za) av) cW) ?_
   refine Zd (Zt (Zs ?_))
   refine bU (.rd 0 (.rd 1 .done)) ?_
   refine Zr 0 2 [] ?_
   refine Zd (Zt ?_)
   refine cS (t:=decide ((z+(l2.length:Nat):Int)<0)) (λh6=>?_) (λh6=>?_)
   ·have h6':(z+(l2.length:Nat):Int)<0:=of_decide_eq_true h6
    exfalso;omega
   ·have h6':¬ ((z+(l2.length:Nat):Int)<0):=of_decide_eq_false h6
    refine Zk (Zm (Zt ?_))
    refine bU (.rd 0 (.rd 1 .done)) ?_
    refine Zr 0 2 [] ?_
    refine Zd ?_
    exact aw.back (2,z+(l2.length:Nat)) [0,2,3,9,10,11] zk (by show 2-2<2-1;omega) ⟨⟨za,za,za,za⟩,hs3⟩
 ·have h4':¬ (((k:Nat):Int)<2):=of_decide_eq_false h4
  have hkn:k=2:=za
  subst hkn
  have hz:z=(0:Int)+(l1.length:Nat)+(l2.length:Nat):=hp.2.2.2 rfl
  have hzn:z=((l1.length+l2.length:Nat):Int):=za
  refine Zn [(12,.bool (decide (((2:Nat):Int)<2))),(0,zL bs 0 2 2),(2,.slice none 0 0),(3,.int .i64 z),(9,zL bs 0 2 2),(10,.int .i64 2),(11,.int .i64 (2:Nat))] ?_
  refine aE.cq (S':=[(12,.bool (decide (((2:Nat):Int)<2))),(0,zL bs 0 2 2),(2,.slice none 0 0),(3,.int .i64 (l1.length+l2.length:Nat)),(9,zL bs 0 2 2),(10,.int .i64 2),(11,.int .i64 (2:Nat))]) (by rw [hzn]) ?_
  refine Zn [(12,.bool (decide (((2:Nat):Int)<2))),(0,zL bs 0 2 2),(2,.slice none 0 0),(3,.int .i64 (l1.length+l2.length:Nat)),(9,zL bs 0 2 2),(10,.int .i64 2),(11,.int .i64 (2:Nat))] ?_
  refine Zx (aw.da (aw.dc (aw.jR (Zt (Zs ?_)))))
  refine bU (.rd 0 (.ef 1 (.rd 2 .done))) ?_
  refine Zr 0 1 [] ?_
  have hs7:=St.bW hs3 5 1 af
  refine aF (f:=159) (args:=#[.slice none 0 0,.int .i64 (l1.length+l2.length:Nat)]) Tryz.call159 (iI ([]:List Int) (l1.length+l2.length:Nat) ze za hs7) ?_
  rintro v11 w12 ⟨ao8,co9,rfl,hs10⟩
  refine⟨cK,?_⟩
  refine Zr 2 1 [] ?_
  refine Zd (Zt (Zs (Zs ?_)))
  refine bU (.rd 0 (.rd 1 (.rd 2 .done))) ?_
  refine Zr 0 3 [] ?_
  refine Zd (Zt (Zb ?_))
  refine aE.loop (T:=Nat×(Option Addr)×Nat) (λgg=>[(2,.slice none 0 0),(6,.slice gg.2.1 ((rA l1 l2 gg.1).length) gg.2.2),(25,zL bs 0 2 2),(26,.int .i64 2),(27,.int .i64 (gg.1:Nat))]) (λgg w=>(gg.1<=2)/\St w0 (Sl gg.2.1 gg.2.2 5 1 af (rA l1 l2 gg.1)::ah bs #[.slice a1 l1.length c1,.slice a2 l2.length c2] 85::L) w) (λgg=>2-gg.1) (0,ao8,co9) [2,6,25,26,27] zk ⟨Nat.zero_le _,hs10⟩ ?_
  rintro⟨k,ad,c⟩ w13 ⟨hq0,hs14⟩
  have hq:k<=2:=hq0
  have hs15:St w0 (Sl ad c 5 1 af (rA l1 l2 k)::ah bs #[.slice a1 l1.length c1,.slice a2 l2.length c2] 85::L) w13:=hs14
  refine Zn [(2,.slice none 0 0),(6,.slice ad ((rA l1 l2 k).length) c),(25,zL bs 0 2 2),(26,.int .i64 2),(27,.int .i64 (k:Nat))] ?_
  refine Zs ?_
  refine bU (.rd 0 .done) ?_
  refine Zr 0 1 [] ?_
  refine Zd (Zt (Zs ?_))
  refine Zn [(28,.bool (decide (((k:Nat):Int)<2))),(2,.slice none 0 0),(6,.slice ad ((rA l1 l2 k).length) c),(25,zL bs 0 2 2),(26,.int .i64 2),(27,.int .i64 (k:Nat))] ?_
  refine cS (t:=decide (((k:Nat):Int)<2)) (λh16=>?_) (λh16=>?_)
  ·have h16':((k:Nat):Int)<2:=of_decide_eq_true h16
   have hcs:k=0\/k=1:=za
   rcases hcs with rfl|rfl
   ·have hs17:St w0 (Sl ad c 5 1 af ([]:List Int)::ah bs #[.slice a1 l1.length c1,.slice a2 l2.length c2] 85::L) w13:=hs15
    refine Zn [(28,.bool (decide (((0:Nat):Int)<2))),(2,.slice none 0 0),(6,.slice ad (([]:List Int).length) c),(25,zL bs 0 2 2),(26,.int .i64 2),(27,.int .i64 0)] ?_
    refine Zk (Zt (Zs (Zb (Zs ?_))))
    refine bU (.rd 0 (.rd 1 (.rd 2 .done))) ?_
    refine Zp 0 3 [(0,.cI (zP bs 0) .at_),(1,.gen [.slice a1 l1.length c1])] [(0,[.prop (0<=(0:Int)/\(0:Int)<(2:Int)),.prop (Value.pointer (some (Addr.add ⟨bs,0,none⟩ (Int.toNat 0*1)))=Value.pointer (some ⟨bs,0,none⟩))]),(1,[.cell ⟨bs,0,none⟩ (.slice a1 l1.length c1)])] (ak (aB za (aB (aS _ _ _) av)) (ak (aG (hs17.cell 1 rfl zk) av) cW)) ?_
    refine Zd (Zt ?_)
    refine bU (.rd 0 (.rd 1 (.ef 2 (.rd 3 .done)))) ?_
    refine Zr 0 2 [] ?_
    refine ar.append rfl zk aJ aj (ad:=ad) (c:=c) (xs:=([]:List Int)) (ys:=l1) (adx:=a1) (cx:=c1) (0:Int) zk hs17 (hr1 _ (hs17.drop 2)) hn1 zv zv ?_
    intro ad20 c21 w18 hs19
    refine⟨cK,?_⟩
    refine Zr 3 1 [] ?_
    refine Zd (Zm (Zt ?_))
    refine bU (.rd 0 (.rd 1 .done)) ?_
    refine Zr 0 2 [] ?_
    refine Zd ?_
    have hs22:St w0 (Sl ad20 c21 5 1 af (rA l1 l2 1)::ah bs #[.slice a1 l1.length c1,.slice a2 l2.length c2] 85::L) w18:=hs19
    refine aw.pick [27,6,2,25,26] (S':=[(27,.int .i64 1),(6,.slice ad20 l1.length c21),(2,.slice none 0 0),(25,zL bs 0 2 2),(26,.int .i64 2)]) zk ?_
    refine aw.cq (S':=[(27,.int .i64 1),(6,.slice ad20 ((rA l1 l2 1).length) c21),(2,.slice none 0 0),(25,zL bs 0 2 2),(26,.int .i64 2)]) (by rfl) ?_
    exact aw.back (1,ad20,c21) [2,6,25,26,27] zk (by show 2-1<2-0;omega) ⟨za,hs22⟩
   ·have hs23:St w0 (Sl ad c 5 1 af l1::ah bs #[.slice a1 l1.length c1,.slice a2 l2.length c2] 85::L) w13:=hs15
    refine Zn [(28,.bool (decide (((1:Nat):Int)<2))),(2,.slice none 0 0),(6,.slice ad l1.length c),(25,zL bs 0 2 2),(26,.int .i64 2),(27,.int .i64 1)] ?_
    refine Zk (Zt (Zs (Zb (Zs ?_))))
    refine bU (.rd 0 (.rd 1 (.rd 2 .done))) ?_
    refine Zp 0 3 [(0,.cI (zP bs 1) .at_),(1,.gen [.slice a2 l2.length c2])] [(0,[.prop (0<=(1:Int)/\(1:Int)<(2:Int)),.prop (Value.pointer (some (Addr.add ⟨bs,0,none⟩ (Int.toNat 1*1)))=Value.pointer (some ⟨bs,1,none⟩))]),(1,[.cell ⟨bs,1,none⟩ (.slice a2 l2.length c2)])] (ak (aB za (aB (aS _ _ _) av)) (ak (aG (hs23.cell 1 rfl zk) av) cW)) ?_
    refine Zd (Zt ?_)
    refine bU (.rd 0 (.rd 1 (.ef 2 (.rd 3 .done)))) ?_
    refine Zr 0 2 [] ?_
    refine ar.append rfl zk aJ aj (ad:=ad) (c:=c) (xs:=l1) (ys:=l2) (adx:=a2) (cx:=c2) (0:Int) zk hs23 (hr2 _ (hs23.drop 2)) hn2 zv zv ?_
    intro ad26 c27 w24 hs25
    refine⟨cK,?_⟩
    refine Zr 3 1 [] ?_
    refine Zd (Zm (Zt ?_))
    refine bU (.rd 0 (.rd 1 .done)) ?_
    refine Zr 0 2 [] ?_
    refine Zd ?_
    have hs28:St w0 (Sl ad26 c27 5 1 af (rA l1 l2 2)::ah bs #[.slice a1 l1.length c1,.slice a2 l2.length c2] 85::L) w24:=hs25
    refine aw.pick [27,6,2,25,26] (S':=[(27,.int .i64 2),(6,.slice ad26 ((l1++l2).length) c27),(2,.slice none 0 0),(25,zL bs 0 2 2),(26,.int .i64 2)]) zk ?_
    refine aw.cq (S':=[(27,.int .i64 2),(6,.slice ad26 ((rA l1 l2 2).length) c27),(2,.slice none 0 0),(25,zL bs 0 2 2),(26,.int .i64 2)]) (by rfl) ?_
    exact aw.back (2,ad26,c27) [2,6,25,26,27] zk (by show 2-2<2-1;omega) ⟨za,hs28⟩
  ·have h16':¬ (((k:Nat):Int)<2):=of_decide_eq_false h16
   have hkn:k=2:=za
   subst hkn
   have hs29:St w0 (Sl ad c 5 1 af (l1++l2)::ah bs #[.slice a1 l1.length c1,.slice a2 l2.length c2] 85::L) w13:=hs15
   refine Zn [(28,.bool (decide (((2:Nat):Int)<2))),(2,.slice none 0 0),(6,.slice ad ((l1++l2).length) c),(25,zL bs 0 2 2),(26,.int .i64 2),(27,.int .i64 (2:Nat))] ?_
   refine Zx (aw.da (aw.dc (aw.jR (Zt (Zs ?_)))))
   refine bU (.rd 0 (.rd 1 .done)) ?_
   refine Zr 0 2 [] ?_
   refine Zd (Zt (Ze ?_))
   refine bg (v:=.slice ad ((l1++l2).length) c) ?_
   have hs30:=(hs29.pl 0).pl 1
   exact⟨ad,c,rfl,hs30⟩
def BQ (i n:Int) (bl:List Int):List Int:=gz (fB i) ((([]:List Int)++wd n)++bl)
theorem jt (i n:Int) (bl:List Int):(BQ i n bl).length=32:=bR _ _
def eM (i n:Int) (bl:List Int):aO:=mY (BQ i n bl)
theorem py {w0 w:World}{L:List aI}{adb:Option Addr}{cb:Nat}(i:Int) (n:Int) (bl:List Int) (hi:1<=i) (him:i<=11) (hn:0<=n/\n<18446744073709551616) (hb:bl.length<=2000) (hnb:adb=none->cb=0) (hbc:bl.length<=cb) (hTab:∀ w,St w0 L w->cQ w) (hr:∀ w,St w0 L w->ag w adb bl.length 1 (λk=>af (bl.getD k 0))) (hs:St w0 L w):Calls Tryz.prog 105 #[.int .i64 i,.int .u64 n,.slice adb bl.length cb] w (aZ λrv w'=>rv=.agg (ae af (BQ i n bl))/\St w0 L w'):=by
 refine enter (args:=[.int .i64 i,.int .u64 n,.slice adb bl.length cb]) Tryz.func105 rfl Tryz.ntmps105 (Nat.le_of_ble_eq_true zk) ?_
 refine Zn [(0,.int .i64 i),(1,.int .u64 n),(2,.slice adb bl.length cb)] ?_
 refine Zs ?_
 refine bU (.ef 0 .done) ?_
 refine ar.alloc rfl rfl zk (z:=.agg gh) zk hs (cs:=gh) zk ?_
 intro b1 w2 hs3
 refine⟨cK,?_⟩
 refine Zd (Zt (Zs ?_))
 refine bU (.rd 0 (.ef 1 (.rd 2 (.ef 3 (.rd 4 (.ef 5 (.ef 6 (.ef 7 (.ef 8 .done))))))))) ?_
 refine Zr 0 1 [] ?_
 refine aF (f:=92) (args:=#[.int .i64 i]) Tryz.call92 (lk i zc zc (λw h=>hTab w (h.drop 1)) hs3) ?_
 rintro v7 w8 ⟨ao4,co5,rfl,hs6⟩
 refine⟨cK,?_⟩
 refine Zr 2 1 [] ?_
 have hs9:=St.bW hs6 5 1 af
 refine aF (f:=99) (args:=#[.slice none 0 0,.int .u64 n]) Tryz.call99 (bX ([]:List Int) n ze za hs9) ?_
 rintro v13 w14 ⟨ao10,co11,rfl,hs12⟩
 refine⟨cK,?_⟩
 refine Zr 4 1 [] ?_
 refine ar.aW rfl zk (t:=67) (e:=85) (n:=2) (ps:=[(0,.slice ao10 ((([]:List Int)++wd n).length) co11),(1,.slice adb bl.length cb)]) zk zk (ti:=Tryz.t85) (z:=.slice none 0 0) zk zk zf zf (cs:=#[.slice ao10 ((([]:List Int)++wd n).length) co11,.slice adb bl.length cb]) zk hs12 ?_
 intro b15 w16 hs17 hz18
 refine⟨cK,?_⟩
 refine aF (f:=113) (args:=#[zL b15 0 2 2]) Tryz.call113 (yo (([]:List Int)++wd n) bl zc rfl zx zx (hs17.eU 1 rfl) hnb (λw h=>h.rows 0 rfl aj.size _) (λw h=>hr _ (h.drop 3)) hs17) ?_
 rintro v22 w23 ⟨ao19,co20,rfl,hs21⟩
 refine⟨cK,?_⟩
 refine aF (f:=141) (args:=#[.slice ao4 ((fB i).length) co5,.slice ao19 (((([]:List Int)++wd n)++bl).length) co20]) Tryz.call141 (vp (fB i) ((([]:List Int)++wd n)++bl) (by rw [hH];decide) (hs21.eU 3 rfl) (Sl.cap (hs21.at_ 1 rfl)) zx (λw h=>hTab w (h.drop 5)) (λw h=>h.rows 3 rfl aj.size _) (λw h=>h.rows 1 rfl aj.size _) hs21) ?_
 rintro v25 w26 ⟨rfl,hs24⟩
 refine⟨cK,?_⟩
 refine ar.store rfl rfl zk (b:=b1) (off:=0) (v:=.agg (ae af (gz (fB i) ((([]:List Int)++wd n)++bl)))) zk zk (ti:=Tryz.t34) zk hs24 4 rfl (bQ aj (show(gz (fB i) ((([]:List Int)++wd n)++bl)).length=32 from(ea _ _)) zk) (cX aj) (cJ aj (show(gz (fB i) ((([]:List Int)++wd n)++bl)).length=32 from(ea _ _)) zk) (cs':=ae af (gz (fB i) ((([]:List Int)++wd n)++bl))) (L':=(ah b15 #[.slice ao10 ((([]:List Int)++wd n).length) co11,.slice adb bl.length cb] 85)::Sl ao19 co20 5 1 af ((([]:List Int)++wd n)++bl)::Sl ao10 co11 5 1 af (([]:List Int)++wd n)::Sl ao4 co5 5 1 af (fB i)::ah b1 (ae af (gz (fB i) ((([]:List Int)++wd n)++bl))) 34::L) (dz aj (show(gz (fB i) ((([]:List Int)++wd n)++bl)).length=32 from(ea _ _)) zk) rfl ?_
 intro w27 hs28
 refine⟨cK,?_⟩
 refine Zd (Zt (Ze ?_))
 refine aw.done (.inl rfl) (v:=.agg (ae af (gz (fB i) ((([]:List Int)++wd n)++bl)))) (λa hf=>ct rfl zk (ti:=Tryz.t34) zk zk (vs:=ae af (gz (fB i) ((([]:List Int)++wd n)++bl))) (bt aj (show(gz (fB i) ((([]:List Int)++wd n)++bl)).length=32 from(ea _ _)) zk) (hs28.cells 4 0 rfl zG) a hf) ?_
 have hs29:=hs28.dr 5
 exact⟨rfl,hs29⟩
theorem gS {w0 w:World}{L:List aI}{adb:Option Addr}{cb:Nat}(i n:Int) (bl:List Int) (hi:1<=i) (him:i<=11) (hn:0<=n/\n<18446744073709551616) (hb:bl.length<=2000) (hnb:adb=none->cb=0) (hbc:bl.length<=cb) (hTab:∀ w,St w0 L w->cQ w) (hr:∀ w,St w0 L w->ag w adb bl.length 1 (λk=>af (bl.getD k 0))) (hs:St w0 L w) :
 Calls Tryz.prog 105 #[.int .i64 i,.int .u64 n,.slice adb bl.length cb] w (aZ λrv w'=>rv=.agg (aO.cells (eM i n bl))/\St w0 L w'):=by
 rw [eM,<- Dw (jt i n bl)]
 exact py i n bl hi him hn hb hnb hbc hTab hr hs
theorem jN {w0 w:World}{L:List aI}(i:Int) (hi:1<=i) (him:i<=11) (hTab:∀ w,St w0 L w->cQ w) (hs:St w0 L w):Calls Tryz.prog 51 #[.int .i64 i] w (aZ λrv w'=>rv=.bool true/\St w0 L w'):=by
 refine enter (args:=[.int .i64 i]) Tryz.func51 rfl Tryz.ntmps51 (Nat.le_of_ble_eq_true zk) ?_
 refine Zn [(0,.int .i64 i)] ?_
 refine Zs ?_
 refine bU (.rd 0 .done) ?_
 refine Zr 0 1 [] ?_
 refine Zd (Zt (Zs ?_))
 refine bU (.rd 0 (.ef 1 (.rd 2 (.rd 3 (.rd 4 .done))))) ?_
 refine Zr 0 1 [] ?_
 refine aF (f:=92) (args:=#[.int .i64 i]) Tryz.call92 (lk i zc zc (λw h=>hTab w (h.drop 0)) hs) ?_
 rintro v4 w5 ⟨ao1,co2,rfl,hs3⟩
 refine⟨cK,?_⟩
 refine Zr 2 3 [] ?_
 refine Zd (Zt (Ze ?_))
 refine bg (v:=.bool (decide ((((fB i).length:Nat):Int)>0))) ?_
 have hs6:=hs3.dr 1
 exact⟨(by rw [hH];rfl),hs6⟩
theorem qt {w0 w:World}{L:List aI}(n:Int) (hn1:1<=n) (hn2:n<=65536) (hs:St w0 L w):Calls Tryz.prog 59 #[.int .u64 n] w (aZ λrv w'=>rv=.bool true/\St w0 L w'):=by
 refine enter (args:=[.int .u64 n]) Tryz.func59 rfl Tryz.ntmps59 (Nat.le_of_ble_eq_true zk) ?_
 refine Zn [(0,.int .u64 n)] ?_
 refine Zs ?_
 refine bU (.rd 0 .done) ?_
 refine Zr 0 1 [] ?_
 refine Zd (Zt (Zs ?_))
 refine aE.join (T:=Unit) (E:=λ_=>[(2,.bool ((decide ((n:Int) >= 1)) && (decide ((n:Int)<=65536))))]) (F:=λ_ w=>St w0 L w) ?_ ?_
 ·refine bU (.rd 0 (.rd 1 (.rd 2 (.rd 3 (.rd 4 (.rd 5 (.rd 6 .done))))))) ?_
  refine Zr 0 3 [] ?_
  rcases Bool.eq_false_or_eq_true (decide ((n:Int) >= 1)) with h1|h1
  ·refine di 5 true h1 ?_
   have h1':(n:Int) >= 1:=of_decide_eq_true h1
   refine Zr 3 4 [] ?_
   refine Zd ?_
   refine aw.pick [2] (S':=[(2,.bool (decide ((n:Int)<=65536)))]) zk ?_
   exact aw.bD () (by first|rfl|(simp only [h1,Bool.not_true,Bool.not_false,Bool.true_or,Bool.false_or,Bool.true_and,Bool.false_and,Bool.or_true,Bool.or_false,Bool.and_true,Bool.and_false];done)|(simp [h1];done)) hs
  ·refine di 5 false h1 ?_
   have h1':¬ ((n:Int) >= 1):=of_decide_eq_false h1
   exfalso;omega
 intro _ w2 hs3
 refine Zt (Ze ?_)
 refine bg (v:=.bool ((decide ((n:Int) >= 1)) && (decide ((n:Int)<=65536)))) ?_
 exact⟨(by rw [decide_eq_true (show n >= 1 by omega),decide_eq_true (show n<=65536 by omega)];rfl),hs3⟩
theorem yp {w0 w:World}{L:List aI}{adb:Option Addr}{cb:Nat}(i:Int) (n:Int) (bl:List Int) (t:aO) (hi:1<=i) (him:i<=11) (hn1:1<=n) (hn2:n<=65536) (hb:bl.length<=1024) (hnb:adb=none->cb=0) (hbc:bl.length<=cb) (hTab:∀ w,St w0 L w->cQ w) (hr:∀ w,St w0 L w->ag w adb bl.length 1 (λk=>af (bl.getD k 0))) (hs:St w0 L w):Calls Tryz.prog 194 #[.int .i64 i,.int .u64 n,.slice adb bl.length cb,.agg (aO.cells t)] w (aZ λrv w'=>rv=.bool (ov t.toList (eM i n bl).toList)/\St w0 L w'):=by
 refine enter (args:=[.int .i64 i,.int .u64 n,.slice adb bl.length cb,.agg (aO.cells t)]) Tryz.func194 rfl Tryz.ntmps194 (Nat.le_of_ble_eq_true zk) ?_
 refine Zn [(0,.int .i64 i),(1,.int .u64 n),(2,.slice adb bl.length cb),(3,.agg (aO.cells t))] ?_
 refine Zs ?_
 refine bU (.ef 0 (.rd 1 .done)) ?_
 refine ar.box rfl rfl zk (v:=.agg (aO.cells t)) zk hs (cs:=aO.cells t) zk ?_
 intro b1 w2 hs3
 refine⟨cK,?_⟩
 refine Zr 1 1 [] ?_
 refine Zd (Zt (Zs ?_))
 refine aE.aV [0,1,3,7,15,31,63,127,255,511,1023,2047,4095,4095,4095,4095,61439,131071,262143,524287] (.rd 0 (.ef 1 (.rd 2 (.rd 3 (.ef 4 (.rd 5 (.rd 6 (.rd 7 (.rd 8 (.rd 9 (.rd 10 (.rd 11 (.rd 12 (.rd 13 (.rd 14 (.rd 15 (.ef 16 (.ef 17 (.rd 18 (.rd 19 .done)))))))))))))))))))) zk zk ai zk hs3 ?_
 intro w4 hs5 hw6
 refine Zr 0 1 [] ?_
 refine aF (f:=51) (args:=#[.int .i64 i]) Tryz.call51 (jN i za za (λw h=>hTab w (h.drop 1)) hs5) ?_
 rintro v8 w9 ⟨rfl,hs7⟩
 refine⟨cK,?_⟩
 refine Zr 2 2 [] ?_
 refine aF (f:=59) (args:=#[.int .u64 n]) Tryz.call59 (qt n za za hs7) ?_
 rintro v11 w12 ⟨rfl,hs10⟩
 refine⟨cK,?_⟩
 refine Zr 5 7 [] ?_
 rcases Bool.eq_false_or_eq_true (decide (((bl.length:Nat):Int)<=1024)) with h13|h13
 ·refine di 20 true h13 ?_
  have h13':((bl.length:Nat):Int)<=1024:=of_decide_eq_true h13
  refine Zp 12 4 [(12,.agg (aO.cells t))] [(12,[.prop (Array.size (aO.cells t)=32),.cells ⟨b1,0,none⟩ (aO.cells t)])] (ak (aB zk (dq (hs10.cells 0 0 rfl zk) av)) cW) ?_
  refine aF (f:=105) (args:=#[.int .i64 i,.int .u64 n,.slice adb bl.length cb]) Tryz.call105 (gS i n bl za za za zx hnb zx (λw h=>hTab w (h.drop 1)) (λw h=>hr _ (h.drop 1)) hs10) ?_
  rintro v15 w16 ⟨rfl,hs14⟩
  refine⟨bw (n:=[.prop (Array.size (aO.cells t)=32),.cells ⟨b1,0,none⟩ (aO.cells t)]) zk (aB zk (dq (hs14.cells 0 0 rfl zk) av)),?_⟩
  refine aF (f:=210) (args:=#[.agg (aO.cells t),.agg (aO.cells (eM i n bl))]) Tryz.call210 (vu t (eM i n bl) hs14) ?_
  rintro v18 w19 ⟨rfl,hs17⟩
  refine⟨cK,?_⟩
  refine Zr 18 2 [] ?_
  refine Zd (Zt (Ze ?_))
  refine bg (v:=.bool (ov t.toList (eM i n bl).toList)) ?_
  have hs20:=hs17.dr 1
  exact⟨rfl,hs20⟩
 ·refine di 20 false h13 ?_
  have h13':¬ (((bl.length:Nat):Int)<=1024):=of_decide_eq_false h13
  exfalso;omega
def fC (x:Int) (n:Int):Int :=
 (fV .u32 (aM .u32 x n) (bV .u32 x (IntKind.u64.wrap (32-n))))
theorem eB {w0 w:World}{L:List aI}(x:Int) (n:Int) (hn:(0:Int)<=n) (hs:St w0 L w):Calls Tryz.prog 205 #[.int .u32 x,.int .u64 n] w (aZ λrv w'=>rv=.int .u32 (fC x n)/\St w0 L w'):=by
 refine bp Tryz.func205 Tryz.ntmps205 ?_
 refine En (Ls (La (Lt (Ls (Dz ?_)))))
 refine bj (Hg 2 (.shift (aM .u32 x n)) [.prop ((0:Int)<=n/\Int.fdiv x (2 ^ (min (Int.toNat n) (IntKind.bits .u32)))=aM .u32 x n)] (aB ⟨(by first|omega|exact bf rfl _),rfl⟩ av) (Hg 6 (.shift (bV .u32 x (IntKind.u64.wrap (32-n)))) [.prop ((0:Int)<=IntKind.u64.wrap (32-n)/\IntKind.u32.wrap (x*2 ^ (min (Int.toNat (IntKind.u64.wrap (32-n))) (IntKind.bits .u32)))=bV .u32 x (IntKind.u64.wrap (32-n)))] (aB ⟨(by first|omega|exact bf rfl _),rfl⟩ av) Hz)) ?_
 refine Zt (Ze (?_))
 refine bg (v:=.int .u32 (fV .u32 (aM .u32 x n) (bV .u32 x (IntKind.u64.wrap (32-n))))) ?_
 have hr:fC x n=(fV .u32 (aM .u32 x n) (bV .u32 x (IntKind.u64.wrap (32-n)))):=by rw [fC]
 exact⟨by first|(rw [hr];done)|(rw [hr];rfl),hs.drop 0⟩
theorem BR {w0 w:World}{L:List aI}(hs:St w0 L w):Calls Tryz.prog 206 #[] w (aZ λrv w'=>rv=.agg CF/\St w0 L w'):=by
 refine bp Tryz.func206 Tryz.ntmps206 ?_
 refine En (Ls (Lg [0] (Dz ?_)))
 refine ar.alloc rfl rfl zk (z:=.agg Dp) zk hs (cs:=Dp) zk ?_
 intro b1 w2 hs3
 refine Lo (Ld (Lt (Ls (Lg [1] (Lu (Dz ?_))))))
 refine Zv (b:=b1) (off:=0) (v:=.agg CF) (ti:=Tryz.t318) zk hs3 0 (cs':=CF) ?_
 intro w4 hs5
 refine Lo (Ld (Lt (Le (Dz ?_))))
 refine aw.done (.inl rfl) (v:=.agg CF) (λa hf=>ct rfl zk (ti:=Tryz.t318) zk zk (vs:=CF) zk (hs5.cells 0 0 rfl zk) a hf) ?_
 have hs6:=hs5.dr 1
 exact⟨rfl,hs6⟩
theorem te {w0 w:World}{L:List aI}(hs:St w0 L w):Calls Tryz.prog 186 #[] w (aZ λrv w'=>rv=.agg y4/\St w0 L w'):=by
 refine bp Tryz.func186 Tryz.ntmps186 ?_
 refine En (Ls (Lg [0] (Dz ?_)))
 refine ar.alloc rfl rfl zk (z:=.agg wI) zk hs (cs:=wI) zk ?_
 intro b1 w2 hs3
 refine Lo (Ld (Lt (Ls (Lg [1] (Lu (Dz ?_))))))
 refine Zv (b:=b1) (off:=0) (v:=.agg y4) (ti:=Tryz.t297) zk hs3 0 (cs':=y4) ?_
 intro w4 hs5
 refine Lo (Ld (Lt (Le (Dz ?_))))
 refine aw.done (.inl rfl) (v:=.agg y4) (λa hf=>ct rfl zk (ti:=Tryz.t297) zk zk (vs:=y4) zk (hs5.cells 0 0 rfl zk) a hf) ?_
 have hs6:=hs5.dr 1
 exact⟨rfl,hs6⟩
end Go.Proofs.YtdaohdehpmgfdaaGreatDoor
