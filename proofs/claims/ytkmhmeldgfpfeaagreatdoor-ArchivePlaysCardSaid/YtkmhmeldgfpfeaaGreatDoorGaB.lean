/-
  Several texts in one: TcD, TbT, TcE, TcF, TcG, TcH, TcI, ShaA, ShaB, ShaC, ShaH, ShaD, ShaE, ShaF, TagA, TagB, TagC, TagD, TagE, TagF, RsA.
-/
import Derived.Test.YtkmhmeldgfpfeaaGreatDoorSxT
import Derived.Test.YtkmhmeldgfpfeaaGreatDoorGaA
import Derived.Test.YtkmhmeldgfpfeaaGreatDoorProg
namespace Go.Proofs.YtkmhmeldgfpfeaaGreatDoor
open Go.RowKit Go.Sx
set_option linter.unusedVariables false
set_option linter.unusedSimpArgs false
set_option linter.unnecessarySimpa false
set_option maxRecDepth 100000
section
variable {w0 w : World} {L : List cA} {ay : Option Addr} {cy : Nat} {ax : Option Addr} {cx : Nat}
theorem DI x y (hll:x.length<=9223372036854775807) (hr1:Rw w0 L bS.cells 2 cD ax x) (hr2:Rw w0 L bS.cells 2 cD ay y) (hs:St w0 L w):Cs Tryz.prog 189 #[.slice ax x.length cx,.slice ay y.length cy] w λrv w'=>rv=.bool (decide (x=y))/\St w0 L w':=by
 refine cL Tryz.func189 Tryz.ntmps189 (En (Lq (Ls (Lq (Dz (cZ (t:=(x.length:Int) != (y.length:Nat)) (λh1=>?_) (λh1=>?_)))))))
 ·have a4:=tU h1
  exact En (Lq (Le (Ly (Dz (bL (v:=.bool false) ⟨(by rw [decide_eq_false λh9=>absurd (congrArg List.length h9) za]),hs⟩)))))
 ·have a4:=sR h1
  have hln:x.length=y.length:=za
  refine En (Lk (Lt (Ls (Lq (Lb (Dz (bH.loop (T:=Nat×(Option Addr)×(Option Addr)) (λgg=>[(0,.slice gg.2.1 x.length cx),(1,.slice gg.2.2 y.length cy),(5,.int .i64 (gg.1:Nat))]) (λgg w=>(gg.1<=x.length/\x.take gg.1=y.take gg.1/\(∀ w,St w0 L w->aB w gg.2.1 x.length 2 (λq=>bS.cells (x.getD q cD)))/\(∀ w,St w0 L w->aB w gg.2.2 y.length 2 (λq=>bS.cells (y.getD q cD))))/\St w0 L w) (λgg=>x.length-gg.1) (0,ax,ay) [0,1,5] zk ⟨⟨Nat.zero_le _,rfl,hr1,hr2⟩,hs⟩ ?_)))))))
  rintro⟨k,aq,bq⟩ w2 ⟨hp,a⟩
  dsimp only at hp a
  have a1:=hp.2.2.1
  have a2:=hp.2.2.2
  refine En (Ls (Lq (Dz (Zi ((k:Int)<(x.length:Nat)) (λa5=>?_) (λa5=>?_)))))
  ·have hkx:k<x.length:=za
   have hky:k<y.length:=za
   obtain⟨e,f,rfl⟩:=aB.isSome (a1 _ (a.drop 0)) za
   obtain⟨o,u,rfl⟩:=aB.isSome (a2 _ (a.drop 0)) za
   refine Zk (Zt (Zs (Zb (Zs (ZD (eR [0,1,2,3,4,5,6,7,8] .done) a λa6 a0 a7=>Zp 0 8 [(2,.eJ (zP e (f+(k*2))) .at_),(3,.agg (bS.cells (x.getD k cD))),(6,.eJ (zP o (u+(k*2))) .at_),(7,.agg (bS.cells (y.getD k cD)))] [(2,[.prop (0<=(k:Int)/\(k:Int)<(x.length:Int)),.prop (Value.pointer (some (Addr.add ⟨e,f,none⟩ (Int.toNat (k:Nat)*2)))=Value.pointer (some ⟨e,f+(k*2),none⟩))]),(3,[.prop (Array.size (bS.cells (x.getD k cD))=2),.cells ⟨e,f+(k*2),none⟩ (bS.cells (x.getD k cD))]),(6,[.prop (0<=(k:Int)/\(k:Int)<(y.length:Int)),.prop (Value.pointer (some (Addr.add ⟨o,u,none⟩ (Int.toNat (k:Nat)*2)))=Value.pointer (some ⟨o,u+(k*2),none⟩))]),(7,[.prop (Array.size (bS.cells (y.getD k cD))=2),.cells ⟨o,u+(k*2),none⟩ (bS.cells (y.getD k cD))])] (ak (aL za (aL (bK _ _ _) aO)) (ak (aL zk (eM (aB.iJ (a1 _ (a0.drop 0)) zo (Nat.le_of_ble_eq_true zk) zk) aO)) (ak (aL za (aL (bK _ _ _) aO)) (ak (aL zk (eM (aB.iJ (a2 _ (a0.drop 0)) zo (Nat.le_of_ble_eq_true zk) zk) aO)) gQ)))) (aU.jO rfl zk (b:=false) (t:=190) (xs:=bS.cells (x.getD k cD)) (ys:=bS.cells (y.getD k cD)) (m:=2) zk zk zf zk (r:=!(decide ((x.getD k cD)=(y.getD k cD)))) (EW  (ML (x.getD k cD) (y.getD k cD))) (Zd (Zt (cZ (t:=!(decide ((x.getD k cD)=(y.getD k cD)))) (λz=>?_) (λz=>?_))))))))))
   ·have a3:=jV z
    have hne:¬ (x.getD k cD=y.getD k cD):=by simpa using z
    exact En (Lq (Le (Ll (Ly (sT (Ll (Ly (Dz (bL (v:=.bool false) ⟨(by rw [decide_eq_false λh9=>hne (by rw [h9])]),a0⟩)))))))))
   ·have a3:=jN z
    have heq:x.getD k cD=y.getD k cD:=by simpa using z
    exact Zk (Zm (Zt (cS (dW 1 ((k:Nat)+1) Hz) (aN.back (k+1,some ⟨e,f,none⟩,some ⟨o,u,none⟩) [0,1,5] zk (by show x.length-(k+1)<x.length-k;omega) ⟨⟨za,by rw [bA (d:=cD) hkx,bA (d:=cD) hky,hp.2.1,heq],a1,a2⟩,a0⟩))))
  ·have hxy:x=y:=by rw [<- List.take_of_length_le (i:=k) (l:=x) za,<- List.take_of_length_le (i:=k) (l:=y) za];exact hp.2.1
   exact En (Lx (kD (kE (Lh (Lt (Lq (Le (Dz (bL (v:=.bool true) ⟨(by rw [decide_eq_true hxy]),a⟩)))))))))
def kP (x:aV) (y:aV):Bool :=
 if ((x.kd:Int) == y.kd)=true then
  if ((x.vw:Int) == y.vw)=true then
   if ((x.k:Int) == y.k)=true then
    if (decide (x.rq=y.rq))=true then
     if (decide (x.ql=y.ql))=true then
      decide (x.dg=y.dg)
     else
      false
    else
     false
   else
    false
  else
   false
 else
  false
theorem qC x y (hqn:x.ql.length<=9223372036854775807) (hr1:Rw w0 L bS.cells 2 cD x.qa x.ql) (hr2:Rw w0 L bS.cells 2 cD y.qa y.ql) (hs:St w0 L w):Cs Tryz.prog 152 #[.agg (aV.cells x),.agg (aV.cells y)] w λrv w'=>rv=.bool (kP x y)/\St w0 L w':=by
 refine cL Tryz.func152 Tryz.ntmps152 (En (Ls (Lg [0,1] (Dz (hG (aV.cells x) hs λz w2 a6=>Lo (Dz (hG (aV.cells y) a6 λb4 w5 a=>Lz (Ls (Lg [31] (Dz (gS 0 6 (Hl 1 1 0 a (Hl 3 0 0 a Hz)) (dB 10 ((x.kd:Int) == y.kd) (λd=>?_) (λd=>?_)))))))))))))
 ·refine gS 6 7 (Hl 7 1 1 a (Hl 9 0 1 a Hz)) (dB 17 ((x.vw:Int) == y.vw) (λe=>?_) (λe=>?_))
  ·refine gS 13 7 (Hl 14 1 2 a (Hl 16 0 2 a Hz)) (dB 24 ((x.k:Int) == y.k) (λi=>?_) (λi=>?_))
   ·refine Zp 20 4 [(21,.agg (eG.cells x.rq)),(23,.agg (eG.cells y.rq))] [(21,[.prop (Array.size (eG.cells x.rq)=40),.cells ⟨z,3,none⟩ (eG.cells x.rq)]),(23,[.prop (Array.size (eG.cells y.rq)=40),.cells ⟨b4,3,none⟩ (eG.cells y.rq)])] (ak (aL zk (eM (a.cells 1 3 rfl zk) aO)) (ak (aL zk (eM (a.cells 0 3 rfl zk) aO)) gQ)) (aU.jO rfl zk (b:=true) (t:=46) (xs:=eG.cells x.rq) (ys:=eG.cells y.rq) (m:=3) zk zk zf zk (r:=decide (x.rq=y.rq)) (lE  (MM x.rq y.rq)) (Zr 25 2 [] (dB 31 (decide (x.rq=y.rq)) (λo=>?_) (λo=>?_))))
    ·refine Zj (Hl 28 1 43 a (Hl 30 0 43 a Hz)) (dE (f:=189) (args:=#[.slice x.qa x.ql.length x.qc,.slice y.qa y.ql.length y.qc]) Tryz.call189 (DI x.ql y.ql zc (λw h=>hr1 _ (h.drop 2)) (λw h=>hr2 _ (h.drop 2)) a) ?_)
     rintro b2 b3 ⟨rfl,q⟩
     refine Lo (Dz (Zr 32 2 [] (dB 38 (decide (x.ql=y.ql)) (λu=>?_) (λu=>?_))))
     ·exact Zp 34 4 [(35,.agg (bI.cells x.dg)),(37,.agg (bI.cells y.dg))] [(35,[.prop (Array.size (bI.cells x.dg)=32),.cells ⟨z,44,none⟩ (bI.cells x.dg)]),(37,[.prop (Array.size (bI.cells y.dg)=32),.cells ⟨b4,44,none⟩ (bI.cells y.dg)])] (ak (aL zk (eM (q.cells 1 44 rfl zk) aO)) (ak (aL zk (eM (q.cells 0 44 rfl zk) aO)) gQ)) (aU.jO rfl zk (b:=true) (t:=44) (xs:=bI.cells x.dg) (ys:=bI.cells y.dg) (m:=2) zk zk zf zk (r:=decide (x.dg=y.dg)) (lE  (yv x.dg y.dg)) (En (bO (Lt (Le (Dz (bL (v:=.bool (decide (x.dg=y.dg))) (qj (by rw [kP,if_pos d,if_pos e,if_pos i,if_pos o,if_pos u]) (q.dr 2)))))))))
     ·exact En (bO (Lt (Le (Dz (bL (v:=.bool false) (qj (by rw [kP,if_pos d,if_pos e,if_pos i,if_pos o,nI u]) (q.dr 2)))))))
    ·exact En (Lw (gH (En (bO (Lt (Le (Dz (bL (v:=.bool false) (qj (by rw [kP,if_pos d,if_pos e,if_pos i,nI o]) (a.dr 2))))))))))
   ·exact En (Lw (gH (En (bO (Lt (Le (Dz (bL (v:=.bool false) (qj (by rw [kP,if_pos d,if_pos e,nI i]) (a.dr 2))))))))))
  ·exact En (Lw (gH (En (bO (Lt (Le (Dz (bL (v:=.bool false) (qj (by rw [kP,if_pos d,nI e]) (a.dr 2))))))))))
 ·exact En (Lw (gH (En (bO (Lt (Le (Dz (bL (v:=.bool false) (qj (by rw [kP,nI d]) (a.dr 2))))))))))
def iE (x:aV):aV :=
 if ((x.kd:Int) == 1)=true then
  (⟨x.kd,x.vw,0,x.rq,none,0,[],aK⟩:aV)
 else
  if ((x.kd:Int) == 2)=true then
   (⟨x.kd,x.vw,x.k,cN,none,0,[],aK⟩:aV)
  else
   if ((x.kd:Int) == 3)=true then
    (⟨x.kd,x.vw,0,cN,none,0,[],aK⟩:aV)
   else
    if ((x.kd:Int) == 5)=true then
     (⟨x.kd,x.vw,0,cN,none,0,[],aK⟩:aV)
    else
     if ((x.kd:Int) == 4)=true then
      (⟨x.kd,x.vw,0,cN,x.qa,x.qc,x.ql,aK⟩:aV)
     else
      if ((x.kd:Int) == 6)=true then
       (⟨x.kd,0,x.k,cN,none,0,[],x.dg⟩:aV)
      else
       (⟨x.kd,0,0,cN,none,0,[],aK⟩:aV)
theorem H3 x (hs:St w0 L w):Cs Tryz.prog 153 #[.agg (aV.cells x)] w λrv w'=>rv=.agg (aV.cells (iE x))/\St w0 L w':=by
 refine cL Tryz.func153 Tryz.ntmps153 (En (Ls (Lg [0,1] (Dz (hG (aV.cells x) hs λb1 w2 c5=>Lo (Dz (eN (aV.cells vC) c5 λb4 w5 q=>Lo (Ld (Lt (Ls (Dz (bX [3,4] (Hl 1 1 0 q Hz) (eN (aV.cells vC) q λb7 w8 c6=>Lo (Dz (Zu 0 0 (aV.cells (⟨x.kd,0,0,cN,none,0,[],aK⟩:aV)) c6 λd3 a=>Lo (Ld (Lt (Ls (Ls (Dz (cS (Hl 1 2 0 a Hz) (En (Lt (Lb (Lq (Dz (cZ (t:=(x.kd:Int) == 1) (λb=>?_) (λb=>?_))))))))))))))))))))))))))))
 ·have c7:=iV b
  refine Zs (bX [3] (Hl 1 2 1 a Hz) (Zu 0 1 (aV.cells (⟨x.kd,x.vw,0,cN,none,0,[],aK⟩:aV)) a λd4 u=>Lo (Ld (Lt (Dz (bX [3] (fE 1 2 3 40 (eG.cells x.rq) u Hz) (Zu 0 3 (aV.cells (⟨x.kd,x.vw,0,x.rq,none,0,[],aK⟩:aV)) u λd5 z=>Lo (Ld (Lm (Lt (Ls (Dz (bX [1] (fE 0 0 0 76 (aV.cells (⟨x.kd,x.vw,0,x.rq,none,0,[],aK⟩:aV)) z Hz) (Zu 1 0 (aV.cells (⟨x.kd,x.vw,0,x.rq,none,0,[],aK⟩:aV)) z λd6 a0=>Lo (Ld (Lt (Le (Dz (mJ 1 a0 ?_)))))))))))))))))))
  have hr:iE x=(⟨x.kd,x.vw,0,x.rq,none,0,[],aK⟩:aV):=by rw [iE,if_pos b]
  have a1:=a0.dr 3
  exact⟨(by first|rfl|(rw [hr];done)|(rw [hr];rfl)),(by first|exact a1|(rw [hr];exact a1))⟩
 ·have c7:=jC b
  refine En (Lq (Dz (cZ (t:=(x.kd:Int) == 2) (λd=>?_) (λd=>?_))))
  ·have c8:=iV d
   refine Zs (bX [3] (Hl 1 2 1 a Hz) (Zu 0 1 (aV.cells (⟨x.kd,x.vw,0,cN,none,0,[],aK⟩:aV)) a λd7 a2=>Lo (Ld (Lt (Dz (bX [3] (Hl 1 2 2 a2 Hz) (Zu 0 2 (aV.cells (⟨x.kd,x.vw,x.k,cN,none,0,[],aK⟩:aV)) a2 λd8 a3=>Lo (Ld (Lm (Lt (Ls (Dz (bX [1] (fE 0 0 0 76 (aV.cells (⟨x.kd,x.vw,x.k,cN,none,0,[],aK⟩:aV)) a3 Hz) (Zu 1 0 (aV.cells (⟨x.kd,x.vw,x.k,cN,none,0,[],aK⟩:aV)) a3 λd9 a4=>Lo (Ld (Lt (Le (Dz (mJ 1 a4 ?_)))))))))))))))))))
   have hr:iE x=(⟨x.kd,x.vw,x.k,cN,none,0,[],aK⟩:aV):=by rw [iE,nI b,if_pos d]
   have a5:=a4.dr 3
   exact⟨(by first|rfl|(rw [hr];done)|(rw [hr];rfl)),(by first|exact a5|(rw [hr];exact a5))⟩
  ·have c8:=jC d
   refine En (Ls (Lq (Dz (cZ (t:=(x.kd:Int) == 3) (λe=>?_) (λe=>?_)))))
   ·have c9:=iV e
    refine Zk (Zt (cZ (t:=(x.kd:Int) == 3) (λ_=>bX [3] (Hl 1 2 1 a Hz) (Zu 0 1 (aV.cells (⟨x.kd,x.vw,0,cN,none,0,[],aK⟩:aV)) a λe0 a6=>Lo (Ld (Lm (Lt (Ls (Dz (bX [1] (fE 0 0 0 76 (aV.cells (⟨x.kd,x.vw,0,cN,none,0,[],aK⟩:aV)) a6 Hz) (Zu 1 0 (aV.cells (⟨x.kd,x.vw,0,cN,none,0,[],aK⟩:aV)) a6 λe1 a7=>Lo (Ld (Lt (Le (Dz (mJ 1 a7 ?_)))))))))))))) (λhc=>absurd (e.symm.trans hc) zf)))
    have hr:iE x=(⟨x.kd,x.vw,0,cN,none,0,[],aK⟩:aV):=by rw [iE,nI b,nI d,if_pos e]
    have a8:=a7.dr 3
    exact⟨(by first|rfl|(rw [hr];done)|(rw [hr];rfl)),(by first|exact a8|(rw [hr];exact a8))⟩
   ·have c9:=jC e
    refine Za (Zt (cZ (t:=(x.kd:Int) == 5) (λf=>?_) (λf=>?_)))
    ·have d0:=iV f
     refine bX [3] (Hl 1 2 1 a Hz) (Zu 0 1 (aV.cells (⟨x.kd,x.vw,0,cN,none,0,[],aK⟩:aV)) a λe2 a9=>Lo (Ld (Lm (Lt (Ls (Dz (bX [1] (fE 0 0 0 76 (aV.cells (⟨x.kd,x.vw,0,cN,none,0,[],aK⟩:aV)) a9 Hz) (Zu 1 0 (aV.cells (⟨x.kd,x.vw,0,cN,none,0,[],aK⟩:aV)) a9 λe3 b0=>Lo (Ld (Lt (Le (Dz (mJ 1 b0 ?_)))))))))))))
     have hr:iE x=(⟨x.kd,x.vw,0,cN,none,0,[],aK⟩:aV):=by rw [iE,nI b,nI d,nI e,if_pos f]
     have b2:=b0.dr 3
     exact⟨(by first|rfl|(rw [hr];done)|(rw [hr];rfl)),(by first|exact b2|(rw [hr];exact b2))⟩
    ·have d0:=jC f
     refine En (Lq (Dz (cZ (t:=(x.kd:Int) == 4) (λi=>?_) (λi=>?_))))
     ·have d1:=iV i
      refine Zs (bX [3] (Hl 1 2 1 a Hz) (Zu 0 1 (aV.cells (⟨x.kd,x.vw,0,cN,none,0,[],aK⟩:aV)) a λe4 b3=>Lo (Ld (Lt (Dz (bX [3] (Hl 1 2 43 b3 Hz) (Zu 0 43 (aV.cells (⟨x.kd,x.vw,0,cN,x.qa,x.qc,x.ql,aK⟩:aV)) b3 λe5 b5=>Lo (Ld (Lm (Lt (Ls (Dz (bX [1] (fE 0 0 0 76 (aV.cells (⟨x.kd,x.vw,0,cN,x.qa,x.qc,x.ql,aK⟩:aV)) b5 Hz) (Zu 1 0 (aV.cells (⟨x.kd,x.vw,0,cN,x.qa,x.qc,x.ql,aK⟩:aV)) b5 λe6 b6=>Lo (Ld (Lt (Le (Dz (mJ 1 b6 ?_)))))))))))))))))))
      have hr:iE x=(⟨x.kd,x.vw,0,cN,x.qa,x.qc,x.ql,aK⟩:aV):=by rw [iE,nI b,nI d,nI e,nI f,if_pos i]
      have b8:=b6.dr 3
      exact⟨(by first|rfl|(rw [hr];done)|(rw [hr];rfl)),(by first|exact b8|(rw [hr];exact b8))⟩
     ·have d1:=jC i
      refine En (Lq (Dz (cZ (t:=(x.kd:Int) == 6) (λo=>?_) (λo=>?_))))
      ·have d2:=iV o
       refine Zs (bX [3] (Hl 1 2 2 a Hz) (Zu 0 2 (aV.cells (⟨x.kd,0,x.k,cN,none,0,[],aK⟩:aV)) a λe7 b9=>Lo (Ld (Lt (Dz (bX [3] (fE 1 2 44 32 (bI.cells x.dg) b9 Hz) (Zu 0 44 (aV.cells (⟨x.kd,0,x.k,cN,none,0,[],x.dg⟩:aV)) b9 λe8 c0=>Lo (Ld (Lm (Lt (Ls (Dz (bX [1] (fE 0 0 0 76 (aV.cells (⟨x.kd,0,x.k,cN,none,0,[],x.dg⟩:aV)) c0 Hz) (Zu 1 0 (aV.cells (⟨x.kd,0,x.k,cN,none,0,[],x.dg⟩:aV)) c0 λe9 c1=>Lo (Ld (Lt (Le (Dz (mJ 1 c1 ?_)))))))))))))))))))
       have hr:iE x=(⟨x.kd,0,x.k,cN,none,0,[],x.dg⟩:aV):=by rw [iE,nI b,nI d,nI e,nI f,nI i,if_pos o]
       have c2:=c1.dr 3
       exact⟨(by first|rfl|(rw [hr];done)|(rw [hr];rfl)),(by first|exact c2|(rw [hr];exact c2))⟩
      ·have d2:=jC o
       refine Zk (Zm (Zt (Zs (bX [1] (fE 0 0 0 76 (aV.cells (⟨x.kd,0,0,cN,none,0,[],aK⟩:aV)) a Hz) (Zu 1 0 (aV.cells (⟨x.kd,0,0,cN,none,0,[],aK⟩:aV)) a λf0 c3=>Lo (Ld (Lt (Le (Dz (mJ 1 c3 ?_))))))))))
       have hr:iE x=(⟨x.kd,0,0,cN,none,0,[],aK⟩:aV):=by rw [iE,nI b,nI d,nI e,nI f,nI i,nI o]
       have c4:=c3.dr 3
       exact⟨(by first|rfl|(rw [hr];done)|(rw [hr];rfl)),(by first|exact c4|(rw [hr];exact c4))⟩
theorem Lj (x:aV):(iE x).qa=x.qa/\(iE x).ql=x.ql\/(iE x).qa=none/\(iE x).ql=[]:=by
 unfold iE
 repeat' split
 all_goals first|exact .inr ⟨rfl,rfl⟩|exact .inl ⟨rfl,rfl⟩
theorem H4 {w:World}{x:aV}(h:aB w x.qa x.ql.length 2 (λk=>bS.cells (x.ql.getD k cD))):aB w (iE x).qa (iE x).ql.length 2 (λk=>bS.cells ((iE x).ql.getD k cD)):=by
 rcases Lj x with⟨a,b⟩|⟨a,b⟩
 ·rw [a,b];exact h
 ·rw [a,b];exact aB.nil _ _ _
theorem H5 {x:aV}{n:Nat}(h:x.ql.length<=n):(iE x).ql.length<=n:=by
 rcases Lj x with⟨b,a⟩|⟨b,a⟩
 ·rw [a];exact h
 ·rw [a];exact Nat.zero_le _
def nt (x:aV):Bool :=
 if kP (iE x) x=false then false else if x.vw >= 1073741824 then false
 else if x.kd=1 then jE x.rq else if x.kd=2 then decide (x.k >= 1) && decide (x.k<=4611686018427387904)
 else if x.kd=6 then decide (x.k >= 1) && decide (x.k<=4611686018427387904) else if x.kd=3 then decide (x.vw >= 1) else if x.kd=5 then decide (x.vw >= 1)
 else if x.kd=4 then pc 0 x.ql && (decide (x.vw >= 1) && decide ((x.ql.length:Int) >= 1)) else false
theorem H6 {rp nm was prev:Int}{k:Nat}(h1:k=0->was=0) (h2:0<k->1<=was/\was=prev):(((((decide (rp<1)) || (decide (rp>11))) || ((decide ((k:Int)>0)) && (decide (rp<=prev)))) || (decide (nm<1))) || (decide (nm>65536)))=decide (rp<=was\/rp>11\/nm<1\/nm>65536):=by
 rw [Bool.eq_iff_iff]
 simp only [Bool.or_eq_true,Bool.and_eq_true,decide_eq_true_eq]
 by_cases hk:k=0
 ·have:=h1 hk;omega
 ·have:=h2 za;omega
theorem DJ x (hx:kN x) (hr:Rw w0 L bS.cells 2 cD x.qa x.ql) (hs:St w0 L w):Cs Tryz.prog 112 #[.agg (aV.cells x)] w λrv w'=>rv=.bool (nt x)/\St w0 L w':=by
 refine cL Tryz.func112 Tryz.ntmps112 (Zs ?_)
 have hqn:=hx.qn
 refine Zg [0] (hG (aV.cells x) hs λf w2 d2=>Lz (Ls (Ls (Dz (ZD (eR [0,2] (.ef 1 (.ef 3 (eR [4,5,6,7,8,9] .done)))) d2 λw4 c0 g8=>Zj (fE 0 0 0 76 (aV.cells x) c0 (fE 2 0 0 76 (aV.cells x) c0 Hz)) (eE (H3 x c0) λw9 c6=>⟨fM (n:=[.prop (Array.size (aV.cells x)=76),.cells ⟨f,0,none⟩ (aV.cells x)]) zk (aL zk (eM (c6.cells 0 0 rfl zk) aO)),(eE (qC (iE x) x (H5 hx.qn) (λw h=>H4 (hr _ (h.drop 1))) (λw h=>hr _ (h.drop 1)) c6) λd3 e=>Lo (Dz (Zr 4 2 [] (dB 10 (!(kP (iE x) x)) (λb=>?_) (λb=>?_)))))⟩))))))
 ·have d:=jV b
  exact En (bO (Lt (LT (Lq (Le (Ly (Dz (bL (v:=.bool false) ⟨(by unfold nt;rw [if_pos (by simpa using b)]),e.dr 1⟩))))))))
 ·have d:=jN b
  refine lD (Hl 7 0 1 e Hz) (Zt (Zi ((x.vw:Int) >= 1073741824) (λa0=>?_) (λa0=>?_)))
  ·exact En (Lq (Le (Ly (Dz (bL (v:=.bool false) ⟨(by unfold nt;rw [if_neg (by simpa using b),if_pos a0]),e.dr 1⟩)))))
  ·refine Zk (Zt (Zs (Zs (cS (Hl 1 0 0 e Hz) (En (Lt (Lb (Lq (Dz (cZ (t:=(x.kd:Int) == 1) (λc1=>?_) (λc1=>?_)))))))))))
   ·exact Zs (bX [2] (fE 1 0 3 40 (eG.cells x.rq) e Hz) (eE (uU x.rq e) λh1 d6=>Lz (Le (Ll (Ly (Dz (bL (v:=.bool (ud x.rq)) ⟨(by unfold nt;rw [if_neg (by simpa using b),if_neg a0,if_pos (iV c1)];rw [F2]),d6.dr 1⟩)))))))
   ·have a4:=jC c1
    refine En (Ls (Lq (Dz (cZ (t:=(x.kd:Int) == 2) (λb7=>?_) (λb7=>?_)))))
    ·refine Zk (Zt (cZ (t:=(x.kd:Int) == 2) (λ_=>Zs (bH.join (T:=Unit) (E:=λ_=>[(2,.bool ((decide ((x.k:Int) >= 1)) && (decide ((x.k:Int)<=4611686018427387904))))]) (F:=λ_ w=>St w0 (aC f (aV.cells x) 49::L) w) ?_ ?_)) (λhc=>absurd (b7.symm.trans hc) zf)))
     ·refine Zg [] (gS 0 4 (Hl 1 0 2 e Hz) (dB 28 (decide ((x.k:Int) >= 1)) (λb2=>?_) (λb2=>?_)))
      ·exact lD (Hl 5 0 2 e Hz) (gB [2] () (decide ((x.k:Int)<=4611686018427387904)) (by first|rfl|simp [Hb,b,d,b2]) e)
      ·exact En (bO (Dz (gB [2] () false (by first|rfl|simp [Hb,b,d,b2]) e)))
     intro _ h2 d9
     exact Zt (Ze (Zl (Zy (bL (v:=.bool ((decide ((x.k:Int) >= 1)) && (decide ((x.k:Int)<=4611686018427387904)))) ⟨(by unfold nt;rw [if_neg (by simpa using b),if_neg a0,if_neg a4,if_pos (iV b7)]),d9.dr 1⟩))))
    ·have a6:=jC b7
     refine Za (Zt (cZ (t:=(x.kd:Int) == 6) (λc2=>?_) (λc2=>?_)))
     ·refine Zs (bH.join (T:=Unit) (E:=λ_=>[(2,.bool ((decide ((x.k:Int) >= 1)) && (decide ((x.k:Int)<=4611686018427387904))))]) (F:=λ_ w=>St w0 (aC f (aV.cells x) 49::L) w) ?_ ?_)
      ·refine Zg [] (gS 0 4 (Hl 1 0 2 e Hz) (dB 28 (decide ((x.k:Int) >= 1)) (λb3=>?_) (λb3=>?_)))
       ·exact lD (Hl 5 0 2 e Hz) (gB [2] () (decide ((x.k:Int)<=4611686018427387904)) (by first|rfl|simp [Hb,b,d,b3]) e)
       ·exact En (bO (Dz (gB [2] () false (by first|rfl|simp [Hb,b,d,b3]) e)))
      intro _ h3 e2
      exact Zt (Ze (Zl (Zy (bL (v:=.bool ((decide ((x.k:Int) >= 1)) && (decide ((x.k:Int)<=4611686018427387904)))) ⟨(by unfold nt;rw [if_neg (by simpa using b),if_neg a0,if_neg a4,if_neg a6,if_pos (iV c2)]),e2.dr 1⟩))))
     ·have a7:=jC c2
      refine En (Ls (Lq (Dz (cZ (t:=(x.kd:Int) == 3) (λb8=>?_) (λb8=>?_)))))
      ·exact Zk (Zt (cZ (t:=(x.kd:Int) == 3) (λ_=>Zs (cS (Hl 1 0 1 e Hz) (Zt (Ze (Zl (Zy (bL (v:=.bool (decide ((x.vw:Int) >= 1))) ⟨(by unfold nt;rw [if_neg (by simpa using b),if_neg a0,if_neg a4,if_neg a6,if_neg a7,if_pos (iV b8)]),e.dr 1⟩))))))) (λhc=>absurd (b8.symm.trans hc) zf)))
      ·have b0:=jC b8
       refine Za (Zt (cZ (t:=(x.kd:Int) == 5) (λc3=>?_) (λc3=>?_)))
       ·exact Zs (cS (Hl 1 0 1 e Hz) (Zt (Ze (Zl (Zy (bL (v:=.bool (decide ((x.vw:Int) >= 1))) ⟨(by unfold nt;rw [if_neg (by simpa using b),if_neg a0,if_neg a4,if_neg a6,if_neg a7,if_neg b0,if_pos (iV c3)]),e.dr 1⟩))))))
       ·have b4:=jC c3
        refine En (Lq (Dz (cZ (t:=(x.kd:Int) == 4) (λc4=>?_) (λc4=>?_))))
        ·have b9:=iV c4
         refine En (Ls (Lq (Lb (Dz ?_))))
         obtain⟨c7,c8⟩:∃ a,a=x.qa:=⟨_,rfl⟩
         have e6:St w0 (aC f (aV.cells (⟨x.kd,x.vw,x.k,x.rq,c7,x.qc,x.ql,x.dg⟩:aV)) 49::L) d3:=(by rw [c8];exact e)
         refine bH.loop (T:=Nat×Int×(Option Addr)) (λgg=>[(1,zP f 0),(3,.int .i64 (gg.1:Nat))]) (λgg w=>(gg.1<=x.ql.length/\pc 0 x.ql=pc gg.2.1 (x.ql.drop gg.1)/\(gg.1=0->gg.2.1=0)/\(0<gg.1->1<=gg.2.1/\gg.2.1=(x.ql.getD (Int.toNat ((gg.1:Nat)-1)) cD).rp)/\∀ w,St w0 L w->aB w gg.2.2 x.ql.length 2 (λq=>bS.cells (x.ql.getD q cD)))/\St w0 (aC f (aV.cells (⟨x.kd,x.vw,x.k,x.rq,gg.2.2,x.qc,x.ql,x.dg⟩:aV)) 49::L) w) (λgg=>x.ql.length-gg.1) (0,0,c7) [1,3] zk ⟨⟨Nat.zero_le _,rfl,λ_=>rfl,λh9=>absurd h9 (Nat.lt_irrefl 0),by rw [c8];exact hr⟩,e6⟩ ?_
         rintro⟨k,was,aq⟩ h4 ⟨hp,a1⟩
         dsimp only at hp a1
         have hw:=hp.2.2.2.2
         refine Zs (Zs (cS (Hl 2 0 43 a1 Hz) (Zt (Zi ((k:Int)<(x.ql.length:Nat)) (λe7=>?_) (λe7=>?_)))))
         ·have hk:k<x.ql.length:=za
          obtain⟨a2,a3,rfl⟩:=aB.isSome (hw _ (a1.drop 1)) za
          refine Zk (Zt (Zs (Zb (Zs (bX [5,6] (Hl 1 0 43 a1 (Hx 3 (k:Int) (x.ql.length:Int) a2 a3 2 (Hg 4 (.agg (bS.cells (x.ql.getD k cD))) [.prop (Array.size (bS.cells (x.ql.getD k cD))=2),.cells ⟨a2,a3+(k*2),none⟩ (bS.cells (x.ql.getD k cD))] (aL zk (eM (aB.iJ (hw _ (a1.drop 1)) zo (Nat.le_of_ble_eq_true zk) zk) aO)) Hz))) (eN (bS.cells cD) a1 λc9 h5 e8=>Lo (Dz (Zu 0 0 (bS.cells (x.ql.getD k cD)) e8 λh6 e9=>Lo (Ld (Lt (Ls (Dz (bH.join (T:=Unit) (E:=λ_=>[(86,.bool (((((decide (((x.ql.getD k cD).rp:Int)<1)) || (decide (((x.ql.getD k cD).rp:Int)>11))) || ((decide ((k:Int)>0)) && (decide (((x.ql.getD k cD).rp:Int)<=((x.ql.getD (Int.toNat ((k:Nat)-1)) cD).rp))))) || (decide (((x.ql.getD k cD).nm:Int)<1))) || (decide (((x.ql.getD k cD).nm:Int)>65536)))),(1,zP f 0),(3,.int .i64 (k:Nat))]) (F:=λ_ w=>St w0 (aC c9 (bS.cells (x.ql.getD k cD)) 190::aC f (aV.cells (⟨x.kd,x.vw,x.k,x.rq,some ⟨a2,a3,none⟩,x.qc,x.ql,x.dg⟩:aV)) 49::L) w) ?_ ?_)))))))))))))
          ·refine ZD (eR [0,1,2,3,4,5,6,7,8,9,10,11,12,13,14,15,16,17,18,19,20,21,22,23,24,25,26,27,28,29,30,31,32,33] .done) e9 λh7 o h8=>gS 0 4 (Hl 1 0 0 o Hz) (dB 56 (decide (((x.ql.getD k cD).rp:Int)<1)) (λi=>?_) (λi=>?_))
           ·have f0:=of_decide_eq_true i
            exact En (bO (Dz (aN.pick [86,1,3] (S':=[(86,.bool true),(1,zP f 0),(3,.int .i64 (k:Nat))]) zk (aN.eZ () (by first|rfl|(simp only [b,d,i,Bool.not_true,Bool.not_false,Bool.true_or,Bool.false_or,Bool.true_and,Bool.false_and,Bool.or_true,Bool.or_false,Bool.and_true,Bool.and_false];done)|(simp [b,d,i];done)) o))))
           ·have f0:=of_decide_eq_false i
            refine gS 4 5 (Hl 5 0 0 o Hz) (dB 61 (decide (((x.ql.getD k cD).rp:Int)>11)) (λu=>?_) (λu=>?_))
            ·have f1:=of_decide_eq_true u
             exact En (bO (Dz (aN.pick [86,1,3] (S':=[(86,.bool true),(1,zP f 0),(3,.int .i64 (k:Nat))]) zk (aN.eZ () (by first|rfl|(simp only [b,d,i,u,Bool.not_true,Bool.not_false,Bool.true_or,Bool.false_or,Bool.true_and,Bool.false_and,Bool.or_true,Bool.or_false,Bool.and_true,Bool.and_false];done)|(simp [b,d,i,u];done)) o))))
            ·have f1:=of_decide_eq_false u
             refine Zr 9 3 [] (dB 64 (decide ((k:Int)>0)) (λz=>?_) (λz=>?_))
             ·have f2:=of_decide_eq_true z
              refine Zp 12 13 [(13,.gen [.int .i64 ((x.ql.getD k cD).rp)]),(15,.gen [zL a2 a3 x.ql.length x.qc]),(17,.eJ (.int .i64 ((k:Nat)-1)) (.gen [])),(18,.eJ (zP a2 (a3+((Int.toNat ((k:Nat)-1))*2))) .at_),(20,.gen [.int .i64 ((x.ql.getD (Int.toNat ((k:Nat)-1)) cD).rp)])] [(13,[.cell ⟨c9,0,none⟩ (.int .i64 ((x.ql.getD k cD).rp))]),(15,[.cell ⟨f,43,none⟩ (zL a2 a3 x.ql.length x.qc)]),(17,[.prop (Value.int .i64 (IntKind.i64.wrap ((k:Nat)-1))=Value.int .i64 ((k:Nat)-1))]),(18,[.prop (0<=(((k:Nat)-1):Int)/\(((k:Nat)-1):Int)<(x.ql.length:Int)),.prop (Value.pointer (some (Addr.add ⟨a2,a3,none⟩ (Int.toNat ((k:Nat)-1)*2)))=Value.pointer (some ⟨a2,a3+((Int.toNat ((k:Nat)-1))*2),none⟩))]),(20,[.cell ⟨a2,a3+((Int.toNat ((k:Nat)-1))*2),none⟩ (.int .i64 ((x.ql.getD (Int.toNat ((k:Nat)-1)) cD).rp))])] (ak (bP (o.cell 0 rfl zk) aO) (ak (bP (o.cell 1 rfl zk) aO) (ak (aL (kF za za) aO) (ak (aL za (aL (bK _ _ _) aO)) (ak (bP (aB.dX (hw _ (o.drop 2)) (k:=Int.toNat ((k:Nat)-1)) zo (j:=0) zf zk) aO) gQ))))) (dB 77 (decide (((x.ql.getD k cD).rp:Int)<=((x.ql.getD (Int.toNat ((k:Nat)-1)) cD).rp))) (λa5=>?_) (λa5=>?_))
              ·exact En (bO (Dz (aN.pick [86,1,3] (S':=[(86,.bool true),(1,zP f 0),(3,.int .i64 (k:Nat))]) zk (aN.eZ () (by first|rfl|(simp only [b,d,i,u,z,a5,Bool.not_true,Bool.not_false,Bool.true_or,Bool.false_or,Bool.true_and,Bool.false_and,Bool.or_true,Bool.or_false,Bool.and_true,Bool.and_false];done)|(simp [b,d,i,u,z,a5];done)) o))))
              ·refine gS 25 5 (Hl 26 0 1 o Hz) (dB 82 (decide (((x.ql.getD k cD).nm:Int)<1)) (λa8=>?_) (λa8=>?_))
               ·exact En (bO (Dz (aN.pick [86,1,3] (S':=[(86,.bool true),(1,zP f 0),(3,.int .i64 (k:Nat))]) zk (aN.eZ () (by first|rfl|(simp only [b,d,i,u,z,a5,a8,Bool.not_true,Bool.not_false,Bool.true_or,Bool.false_or,Bool.true_and,Bool.false_and,Bool.or_true,Bool.or_false,Bool.and_true,Bool.and_false];done)|(simp [b,d,i,u,z,a5,a8];done)) o))))
               ·exact lD (Hl 31 0 1 o Hz) (aN.pick [86,1,3] (S':=[(86,.bool (decide (((x.ql.getD k cD).nm:Int)>65536))),(1,zP f 0),(3,.int .i64 (k:Nat))]) zk (aN.eZ () (by first|rfl|(simp only [b,d,i,u,z,a5,a8,Bool.not_true,Bool.not_false,Bool.true_or,Bool.false_or,Bool.true_and,Bool.false_and,Bool.or_true,Bool.or_false,Bool.and_true,Bool.and_false];done)|(simp [b,d,i,u,z,a5,a8];done)) o))
             ·refine gS 12 18 (Hl 26 0 1 o Hz) (dB 82 (decide (((x.ql.getD k cD).nm:Int)<1)) (λa9=>?_) (λa9=>?_))
              ·exact En (bO (Dz (aN.pick [86,1,3] (S':=[(86,.bool true),(1,zP f 0),(3,.int .i64 (k:Nat))]) zk (aN.eZ () (by first|rfl|(simp only [b,d,i,u,z,a9,Bool.not_true,Bool.not_false,Bool.true_or,Bool.false_or,Bool.true_and,Bool.false_and,Bool.or_true,Bool.or_false,Bool.and_true,Bool.and_false];done)|(simp [b,d,i,u,z,a9];done)) o))))
              ·exact lD (Hl 31 0 1 o Hz) (aN.pick [86,1,3] (S':=[(86,.bool (decide (((x.ql.getD k cD).nm:Int)>65536))),(1,zP f 0),(3,.int .i64 (k:Nat))]) zk (aN.eZ () (by first|rfl|(simp only [b,d,i,u,z,a9,Bool.not_true,Bool.not_false,Bool.true_or,Bool.false_or,Bool.true_and,Bool.false_and,Bool.or_true,Bool.or_false,Bool.and_true,Bool.and_false];done)|(simp [b,d,i,u,z,a9];done)) o))
          intro _ i0 d0
          refine Zt (cZ (t:=((((decide (((x.ql.getD k cD).rp:Int)<1)) || (decide (((x.ql.getD k cD).rp:Int)>11))) || ((decide ((k:Int)>0)) && (decide (((x.ql.getD k cD).rp:Int)<=((x.ql.getD (Int.toNat ((k:Nat)-1)) cD).rp))))) || (decide (((x.ql.getD k cD).nm:Int)<1))) || (decide (((x.ql.getD k cD).nm:Int)>65536))) (λb5=>?_) (λb5=>?_))
          ·exact En (Lq (Le (Ll (Ly (sT (Ll (Ly (Ll (Ly (Dz (bL (v:=.bool false) ⟨(by unfold nt;rw [if_neg (by simpa using b),if_neg a0,if_neg a4,if_neg a6,if_neg a7,if_neg b0,if_neg b4,if_pos b9];rw [hp.2.1,tf hk,if_pos (of_decide_eq_true ((H6 hp.2.2.1 hp.2.2.2.1).symm.trans b5))];rfl),d0.dr 2⟩)))))))))))
          ·have d1:=(Bool.or_eq_false_iff.1 b5).1
           have h60aa:=(Bool.or_eq_false_iff.1 d1).1
           have h60aaa:=(Bool.or_eq_false_iff.1 h60aa).1
           have h60aaaa:=(Bool.or_eq_false_iff.1 h60aaa).1
           have h60aaaa':=of_decide_eq_false h60aaaa
           have h60aaab:=(Bool.or_eq_false_iff.1 h60aaa).2
           have h60aaab':=of_decide_eq_false h60aaab
           have h60ab:(decide (((x.ql.getD k cD).nm:Int)<1))=false:=(Bool.or_eq_false_iff.1 d1).2
           have h60ab':=of_decide_eq_false h60ab
           have f7:=(Bool.or_eq_false_iff.1 b5).2
           exact Zk (Zm (Zt (cS (dW 1 ((k:Nat)+1) Hz) (aN.back (k+1,(x.ql.getD k cD).rp,some ⟨a2,a3,none⟩) [1,3] zk (by show x.ql.length-(k+1)<x.ql.length-k;omega) ⟨⟨za,by rw [hp.2.1,tf hk,if_neg (of_decide_eq_false ((H6 hp.2.2.1 hp.2.2.2.1).symm.trans b5))],λh9=>by omega,λh9=>⟨by show 1<=(x.ql.getD k cD).rp;omega,by rw [show Int.toNat (((k+1:Nat):Int)-1)=k from by omega]⟩,hw⟩,d0.dr 1⟩))))
         ·have hke:x.ql.drop k=[]:=List.drop_of_length_le za
          refine Zx (aN.cJ (aN.fJ (aN.iT (Zt (Zs (bH.join (T:=Unit) (E:=λ_=>[(2,.bool ((decide ((x.vw:Int) >= 1)) && (decide ((x.ql.length:Int) >= 1))))]) (F:=λ_ w=>St w0 (aC f (aV.cells (⟨x.kd,x.vw,x.k,x.rq,aq,x.qc,x.ql,x.dg⟩:aV)) 49::L) w) ?_ ?_))))))
          ·refine Zg [] (gS 0 4 (Hl 1 0 1 a1 Hz) (dB 90 (decide ((x.vw:Int) >= 1)) (λb6=>?_) (λb6=>?_)))
           ·exact lD (Hl 5 0 43 a1 Hz) (gB [2] () (decide ((x.ql.length:Int) >= 1)) (by first|rfl|simp [Hb,b,d,b6]) a1)
           ·exact En (bO (Dz (gB [2] () false (by first|rfl|simp [Hb,b,d,b6]) a1)))
          intro _ i2 g0
          exact Zt (Ze (Zl (Zy (bL (v:=.bool ((decide ((x.vw:Int) >= 1)) && (decide ((x.ql.length:Int) >= 1)))) ⟨(by unfold nt;rw [if_neg (by simpa using b),if_neg a0,if_neg a4,if_neg a6,if_neg a7,if_neg b0,if_neg b4,if_pos b9];rw [hp.2.1,hke];rfl),g0.dr 1⟩))))
        ·exact En (Lk (Lm (Lt (Lq (Le (Dz (bL (v:=.bool false) ⟨(by unfold nt;rw [if_neg (by simpa using b),if_neg a0,if_neg a4,if_neg a6,if_neg a7,if_neg b0,if_neg b4,if_neg (jC c4)]),e.dr 1⟩)))))))
end
theorem rW {c x:Bool}(h:(if c=true then x else false)=true):c=true/\x=true:=by
 cases c with
 | true=>exact⟨rfl,h⟩
 | false=>cases h
theorem tn {m:aD}(h:dN m=true):(cF m).length<=740:=by
 have:=gA h
 rw [show cF m=_ from if_pos h]
 simp only [List.length_append,List.length_nil,aZ,bI.len]
 omega
def nC (y:List Int):List Int:=hf (y.length:Nat)++y
theorem sA (y:List Int):(nC y).length=y.length+2:=by
 simp only [nC,List.length_append,fU]
 omega
theorem qD {n:Nat}{l e:List Int}(h:l.length=n):tk n (l++e,false)=(l,(e,false)):=by
 rw [qf rfl (by rw [List.length_append];omega),List.take_left' h,List.drop_left' h]
theorem eV {n:Int}{e:List Int}(h:0<=n/\n<18446744073709551616):aW (wd n++e,false)=(n,(e,false)):=by
 unfold aW AD
 rw [qD (aZ n),EY h]
theorem kI {n:Int}{e:List Int}(h:0<=n/\n<256):cG (n::e,false)=(n,(e,false)):=by
 unfold cG
 rw [show n::e=[n]++e from rfl,qD (n:=1) (l:=[n]) rfl,HT h,yw h]
theorem tq {n:Nat}{e:List Int}(h:n<65536):jF (hf (n:Nat)++e,false)=(n,(e,false)):=by
 unfold jF
 rw [qD (fU _),JY ⟨za,za⟩,L0 ⟨za,za⟩,Int.toNat_natCast]
theorem wC (s:ByteArray):(cV s).length=s.size:=by
 have h:=rz s
 unfold tx at h
 rw [List.length_append,fU] at h
 omega
theorem mQ {most:Int}{s:ByteArray}{e:List Int}(h:(s.size:Int)<=most) (h2:s.size<65536):mN most (tx s++e,false)=(s,(e,false)):=by
 unfold tx
 rw [List.append_assoc]
 rw [wm (tq h2) h (by rw [List.length_append,wC];omega),List.take_left' (wC s),List.drop_left' (wC s),Ds]
theorem tr {d:bI}{e:List Int}:ow (d.toList++e,false)=(d,(e,false)):=by
 unfold ow
 rw [qD (bI.len d),qx]
theorem ug {f:List Int}(hf:∀ x∈f,0<=x/\x<=18446744073709551615) (e:List Int):∀ k,k<=f.length->oO (f.flatMap wd++e,false) k=((f.drop k).flatMap wd++e,false)
 | 0,_=>rfl
 | k+1,h=>by
  show(aW (oO _ k)).2=_
  have hx:=hf _ (List.getElem_mem (show k<f.length by omega))
  rw [ug hf e k za,List.drop_eq_getElem_cons za,List.flatMap_cons,List.append_assoc,eV ⟨hx.1,za⟩]
theorem Gf {f:List Int}(hf:∀ x∈f,0<=x/\x<=18446744073709551615) (e:List Int){k:Nat}(h:k<f.length):dH (f.flatMap wd++e,false) k=f[k]:=by
 have hx:=hf _ (List.getElem_mem h)
 unfold dH
 rw [ug hf e k za,List.drop_eq_getElem_cons h,List.flatMap_cons,List.append_assoc,eV ⟨hx.1,za⟩]
theorem AN {v:cW}(hv:∀ x∈v.toList,0<=x/\x<=18446744073709551615) (e:List Int):eC (dH (v.toList.flatMap wd++e,false)) 11=v:=by
 apply Vector.ext
 intro i hi
 unfold eC
 rw [Vector.getElem_ofFn]
 simp only [hi,if_true]
 rw [Gf hv e (by rw [cW.len];exact hi),Vector.getElem_toList]
theorem E8 {v:cW}(hv:∀ x∈v.toList,0<=x/\x<=18446744073709551615) (e:List Int):oO (v.toList.flatMap wd++e,false) 11=(e,false):=by
 rw [ug hv e 11 (by rw [cW.len];omega),List.drop_of_length_le (by rw [cW.len];omega)]
 rfl
theorem H7 {r:eG}{e:List Int}(h:jE r=true) (hr:vv r):MB (uc r++(r.tg.toList++e),false)=(r,(e,false)):=by
 have a:=hr.kd
 have b:=hr.am
 unfold jE at h
 simp only [Bool.and_eq_true,decide_eq_true_eq] at h
 obtain⟨⟨⟨⟨⟨d,f⟩,i⟩,o⟩,q⟩,u⟩:=h
 unfold MB uc
 have ec:IntKind.u8.wrap r.cl=r.cl:=yw za
 simp only [List.append_assoc,List.cons_append,List.nil_append,ec]
 rw [kI za]
 simp only []
 rw [kI za]
 simp only []
 rw [eV za]
 simp only []
 rw [eV za]
 simp only []
 rw [mQ za za]
 simp only []
 rw [mQ za za]
 simp only []
 rw [mQ za za]
 simp only []
 rw [mQ za za]
 simp only []
 rw [tr]
theorem E9 (e:List Int):∀ (l q:List bS),(∀ p∈l,(0<=p.rp/\p.rp<256)/\(0<=p.nm/\p.nm<18446744073709551616))->sx l.length (l.flatMap pz++e,false) q=(q++l,(e,false))
 | [],q,_=>by rw [List.append_nil];rfl
 | p::l,q,h=>by
  obtain⟨h1,h2⟩:=h p (List.mem_cons_self ..)
  rw [List.length_cons,List.flatMap_cons]
  rw [show pz p=p.rp::wd p.nm from by unfold pz;rw [yw h1];rfl,List.cons_append,List.cons_append,List.append_assoc]
  rw [rE rfl (kI h1) (eV h2),E9 e l _ λx hx=>h x (List.mem_cons_of_mem _ hx),List.append_assoc]
  rfl
theorem B7:∀ (l:List bS) (was:Int),0<=was->pc was l=true->∀ p∈l,(0<=p.rp/\p.rp<256)/\(0<=p.nm/\p.nm<18446744073709551616)
 | [],_,_,_,p,hp=>by cases hp
 | a::l,was,hw,h,p,hp=>by
  unfold pc at h
  split at h
  ·cases h
  ·rcases List.mem_cons.1 hp with rfl|hp
   ·exact⟨za,za⟩
   ·exact B7 l a.rp za h p hp
theorem wD {x:aV}(hk:1<=x.kd/\x.kd<=6) (hx:kN x) (hm:lG x=true) (hq:x.ql.length<=11):gL x.kd (oo x,false)=(qm (iE x),([],false)):=by
 have o:=hx.vw
 have q:=hx.k
 unfold gL oo
 by_cases a:x.kd=1
 ·rw [if_pos a,if_pos a,show iE x=⟨x.kd,x.vw,0,x.rq,none,0,[],aK⟩ from by simp [iE,a]]
  unfold lG at hm
  rw [if_pos a] at hm
  have e:=H7 (e:=[]) hm hx.rq
  rw [List.append_nil] at e
  unfold g1 E2
  simp only []
  rw [eV za]
  simp only []
  rw [e,a]
  rfl
 rw [if_neg a,if_neg a]
 by_cases f:x.kd=2
 ·rw [if_pos f,if_pos f,show iE x=⟨x.kd,x.vw,x.k,cN,none,0,[],aK⟩ from by simp [iE,f]]
  unfold g2 Hv
  simp only []
  have e:=eV (n:=x.k) (e:=[]) za
  rw [List.append_nil] at e
  rw [eV za]
  simp only []
  rw [e,f]
  rfl
 rw [if_neg f,if_neg f]
 by_cases b:x.kd=4
 ·rw [if_pos b,if_pos b,show iE x=⟨x.kd,x.vw,0,cN,x.qa,x.qc,x.ql,aK⟩ from by simp [iE,b]]
  unfold lG at hm
  rw [if_neg a,if_neg za,if_pos b,Bool.and_eq_true] at hm
  unfold rU at hm
  rw [Bool.and_eq_true] at hm
  unfold g4 F3
  simp only []
  rw [eV za]
  simp only []
  rw [yw za,List.cons_append,List.nil_append,kI za]
  simp only [Int.toNat_natCast]
  have e:=E9 [] x.ql [] (B7 x.ql 0 za hm.2.1)
  rw [List.append_nil] at e
  rw [e,b]
  rfl
 rw [if_neg b,if_neg b]
 by_cases i:x.kd=6
 ·rw [if_pos i,if_pos i,show iE x=⟨x.kd,0,x.k,cN,none,0,[],x.dg⟩ from by simp [iE,i]]
  unfold g6 Hw
  simp only []
  have e:=tr (d:=x.dg) (e:=[])
  rw [List.append_nil] at e
  rw [eV za]
  simp only []
  rw [e,i]
  rfl
 ·rw [if_neg i,if_neg i,show iE x=⟨x.kd,x.vw,0,cN,none,0,[],aK⟩ from by rcases(by omega:x.kd=3\/x.kd=5) with c|c<;>simp [iE,c]]
  unfold g3
  simp only []
  have e:=eV (n:=x.vw) (e:=[]) za
  rw [List.append_nil] at e
  rw [e]
  rfl
theorem H8 {x:aV}(hk:1<=x.kd/\x.kd<=6) (hx:kN x) (hm:lG x=true) (hq:x.ql.length<=11):(gL x.kd (oo x,false)).2=([],false):=by rw [wD hk hx hm hq]
theorem H9 (kd:Int) (s:CS):qm (gL kd s).1=(gL kd s).1:=by
 unfold gL
 repeat' split
 all_goals rfl
theorem Ia {x y:aV}(h:pe x y=true):qm x=qm y:=by
 unfold pe at h
 obtain⟨a,h⟩:=rW h
 obtain⟨b,h⟩:=rW h
 obtain⟨d,h⟩:=rW h
 obtain⟨e,h⟩:=rW h
 obtain⟨f,h⟩:=rW h
 simp only [beq_iff_eq,decide_eq_true_eq] at a b d e f h
 unfold qm
 rw [a,b,d,e,f,h]
theorem tt {x:aV}(h:kH x=true) (hx:kN x):gL x.kd (oo x,false)=(qm x,([],false)):=by
 obtain⟨hk,hm,hq⟩:=lH h
 unfold kH at h
 rw [if_pos hk] at h
 split at h
 ·cases h
 split at h
 ·cases h
 split at h
 ·cases h
 have a:=Ia h
 rw [H9] at a
 exact Prod.ext a.symm (H8 hk hx hm hq)
theorem pf {m:aD}(h:dN m=true):(1<=m.og/\m.og<=11)/\(1<=m.nr/\m.nr<=65536):=by
 unfold dN at h
 split at h
 ·cases h
 rename_i a
 unfold AH at a
 simp only [Bool.or_eq_true,decide_eq_true_eq,not_or] at a
 omega
theorem DK {m:aD}(h:dN m=true):kX m=m.og::(m.dp.toList.flatMap wd++(m.bd.kd::oo m.bd)):=by
 have a:=pf h
 unfold kX kO
 rw [yw za,List.take_of_length_le (by rw [cW.len];omega)]
 simp only [List.append_assoc,List.cons_append,List.nil_append]
theorem Gg {m:aD}(h:dN m=true) (hm:dw m):getM (cF m)=(gM m,0):=by
 have hl:=gA h
 obtain⟨w,x⟩:=pf h
 have hb:=kY h
 obtain⟨hk,hmb,hq⟩:=lH hb
 have a:cF m=wd m.nr++(kX m++m.tg.toList):=by
  unfold cF
  rw [if_pos h,List.nil_append,List.append_assoc]
 have el:(cF m).length=8+((kX m).length+32):=by rw [a,List.length_append,List.length_append,aZ,bI.len]
 have b:aW (cF m,false)=(m.nr,(kX m++m.tg.toList,false)):=by rw [a];exact eV za
 have f:tk ((cF m).length-40) (kX m++m.tg.toList,false)=(kX m,(m.tg.toList,false)):=qD za
 have i:ow (m.tg.toList,false)=(m.tg,([],false)):=by
  have e:=tr (d:=m.tg) (e:=[])
  rw [List.append_nil] at e
  exact e
 rw [AM za b f i]
 have o:cG (kX m,false)=(m.og,(m.dp.toList.flatMap wd++(m.bd.kd::oo m.bd),false)):=by rw [DK h];exact kI za
 have q:(kX m).getD 0 0=m.og:=by rw [DK h];rfl
 have u:cG (oO (m.dp.toList.flatMap wd++(m.bd.kd::oo m.bd),false) 11)=(m.bd.kd,(oo m.bd,false)):=by rw [E8 hm.dp];exact kI za
 rw [uf o u hk q.symm (tt hb hm.bd),AN hm.dp]
 simp only []
 rw [if_neg zf,if_neg zf,if_pos ?_]
 ·rfl
 ·show jU (gM m)=_
  rw [AL]
  unfold jU
  rw [if_pos h]
theorem Gh {x y:aV}(h:kP x y=true):qm x=qm y:=by
 unfold kP at h
 obtain⟨a,h⟩:=rW h
 obtain⟨b,h⟩:=rW h
 obtain⟨d,h⟩:=rW h
 obtain⟨e,h⟩:=rW h
 obtain⟨f,h⟩:=rW h
 simp only [beq_iff_eq,decide_eq_true_eq] at a b d e f h
 unfold qm
 rw [a,b,d,e,f,h]
theorem AO {x y:aV}(h:qm x=qm y):x.kd=y.kd/\x.vw=y.vw/\x.k=y.k/\x.rq=y.rq/\x.ql=y.ql/\x.dg=y.dg:=by
 unfold qm at h
 simp only [aV.mk.injEq] at h
 simp only [h,and_self]
theorem uh {x y:aV}(h:qm x=qm y):kP x y=true:=by
 obtain⟨a,b,d,e,f,i⟩:=AO h
 unfold kP
 simp [a,b,d,e,f,i]
theorem Ib {x y:aV}(h:qm x=qm y):pe x y=true:=by
 obtain⟨a,b,d,e,f,i⟩:=AO h
 unfold pe
 simp [a,b,d,e,f,i]
theorem yB:∀ (l:List bS) (was:Int),was<=11->pc was l=true->(l.length:Int)+was<=11
 | [],_,h,_=>by simpa using h
 | a::l,was,_,h=>by
  unfold pc at h
  split at h
  ·cases h
  ·have:=yB l a.rp za h
   rw [List.length_cons]
   omega
theorem B8 {x:aV}(hx:kN x):nt x=kH x:=by
 rw [Bool.eq_iff_iff]
 constructor
 ·intro h
  unfold nt at h
  split at h
  ·cases h
  rename_i z
  split at h
  ·cases h
  rename_i w
  have hc:=Gh (by simpa using z)
  have key:(1<=x.kd/\x.kd<=6)->lG x=true->x.ql.length<=11->kH x=true:=λd a q=>by
   unfold kH
   rw [if_pos d,if_neg za,if_neg (by rw [a];decide),if_neg za,wD d hx a q]
   exact Ib hc.symm
  have f:x.kd≠4->x.ql=[]:=λh4=>by
   have e:=(AO hc).2.2.2.2.1
   rw [<- e]
   unfold iE
   repeat' split
   all_goals first|rfl|(exfalso;simp_all)
  split at h
  ·rename_i c;exact key za (by unfold lG;rw [if_pos c];exact h) (by rw [f za];decide)
  rename_i b
  split at h
  ·rename_i c;exact key za (by unfold lG;rw [if_neg b,if_pos (.inl c)];exact h) (by rw [f za];decide)
  rename_i i
  split at h
  ·rename_i c;exact key za (by unfold lG;rw [if_neg b,if_pos (.inr c)];exact h) (by rw [f za];decide)
  rename_i o
  split at h
  ·rename_i c;exact key za (by unfold lG;rw [if_neg b,if_neg za,if_neg za];exact h) (by rw [f za];decide)
  rename_i c3
  split at h
  ·rename_i c;exact key za (by unfold lG;rw [if_neg b,if_neg za,if_neg za];exact h) (by rw [f za];decide)
  rename_i c5
  split at h
  ·rename_i c
   simp only [Bool.and_eq_true,decide_eq_true_eq] at h
   have hl:=yB x.ql 0 zf h.1
   refine key za ?_ za
   unfold lG rU
   rw [if_neg b,if_neg za,if_pos c]
   simp only [Bool.and_eq_true,decide_eq_true_eq]
   exact⟨h.2.1,h.1,za⟩
  ·cases h
 ·intro h
  obtain⟨d,a,q⟩:=lH h
  have hb:=h
  unfold kH at h
  rw [if_pos d] at h
  split at h
  ·cases h
  rename_i w
  have hc:qm x=qm (iE x):=by
   have e:=tt hb hx
   rw [wD d hx a q] at e
   exact(Prod.mk.inj e).1.symm
  unfold nt
  rw [if_neg (by rw [uh hc.symm];decide),if_neg w]
  unfold lG at a
  by_cases b:x.kd=1
  ·rw [if_pos b] at a ⊢;exact a
  rw [if_neg b] at a ⊢
  by_cases i:x.kd=2
  ·rw [if_pos (.inl i)] at a;rw [if_pos i];exact a
  by_cases o:x.kd=6
  ·rw [if_pos (.inr o)] at a;rw [if_neg i,if_pos o];exact a
  rw [if_neg za] at a
  rw [if_neg i,if_neg o]
  by_cases u:x.kd=4
  ·rw [if_pos u] at a
   unfold rU at a
   simp only [Bool.and_eq_true,decide_eq_true_eq] at a
   rw [if_neg za,if_neg za,if_pos u]
   simp only [Bool.and_eq_true,decide_eq_true_eq]
   exact⟨a.2.1,a.1,za⟩
  ·rw [if_neg u] at a
   rcases(by omega:x.kd=3\/x.kd=5) with c|c
   ·rw [if_pos c];exact a
   ·rw [if_neg za,if_pos c];exact a
section
variable {w0 w : World} {L : List cA}
theorem J4 {m:aD}{k:Nat}(hk:k<11) (h:∀ z∈m.dp.toList.take k,z<=65536) (hx:m.dp.toList.getD k 0<=65536):∀ z∈m.dp.toList.take (k+1),z<=65536:=by
 rw [bA (d:=(0:Int)) (by rw [cW.len];exact hk)]
 intro z hz
 rcases List.mem_append.1 hz with hz|hz
 ·exact h z hz
 ·rw [List.mem_singleton.1 hz];exact hx
theorem nM m (hm:dw m) (hr:Rw w0 L bS.cells 2 cD m.bd.qa m.bd.ql) (hs:St w0 L w):Cs Tryz.prog 58 #[.agg (aD.cells m)] w λrv w'=>rv=.bool (dN m)/\St w0 L w':=by
 refine cL Tryz.func58 Tryz.ntmps58 (Zs ?_)
 have g1:=hm.og
 have g2:=hm.nr
 refine Zg [0] (hG (aD.cells m) hs λb w2 a1=>Lz (Ls (Ls (Dz (bH.join (T:=Unit) (E:=λ_=>[(33,.bool (((((decide ((m.og:Int)<1)) || (decide ((m.og:Int)>11))) || (decide ((m.nr:Int)<1))) || (decide ((m.nr:Int)>65536))) || (((m.dp.toList.getD (Int.toNat (m.og-1)) 0):Int) != (m.nr-1)))),(2,.bool false),(1,zP b 0)]) (F:=λ_ w=>St w0 (aC b (aD.cells m) 51::L) w) ?_ ?_)))))
 ·refine ZD (eR [0,1,2,3,4,5,6,7,8,9,10,11,12,13,14,15,16,17,18,19,20,21,22,23,24,25,26,27,28,29] .done) a1 λw4 a b4=>gS 0 4 (Hl 1 0 0 a Hz) (dB 7 (decide ((m.og:Int)<1)) (λe=>?_) (λe=>?_))
  ·have a2:=of_decide_eq_true e
   exact En (bO (Dz (gB [33,2,1] () true (by first|rfl|simp [Hb,e]) a)))
  ·have a2:=of_decide_eq_false e
   refine gS 4 5 (Hl 5 0 0 a Hz) (dB 12 (decide ((m.og:Int)>11)) (λi=>?_) (λi=>?_))
   ·have a3:=of_decide_eq_true i
    exact En (bO (Dz (gB [33,2,1] () true (by first|rfl|simp [Hb,e,i]) a)))
   ·have a3:=of_decide_eq_false i
    refine gS 9 5 (Hl 10 0 1 a Hz) (dB 17 (decide ((m.nr:Int)<1)) (λf=>?_) (λf=>?_))
    ·have a4:=of_decide_eq_true f
     exact En (bO (Dz (gB [33,2,1] () true (by first|rfl|simp [Hb,e,i,f]) a)))
    ·have a4:=of_decide_eq_false f
     refine gS 14 5 (Hl 15 0 1 a Hz) (dB 22 (decide ((m.nr:Int)>65536)) (λq=>?_) (λq=>?_))
     ·have a5:=of_decide_eq_true q
      exact En (bO (Dz (gB [33,2,1] () true (by first|rfl|simp [Hb,e,i,f,q]) a)))
     ·have a5:=of_decide_eq_false q
      exact lD (Hl 20 0 0 a (dW 21 (m.og-1) (Hx 23 ((m.og-1):Int) (11:Int) b 2 1 (Hg 24 (.gen [.int .u64 (m.dp.toList.getD (Int.toNat (m.og-1)) 0)]) [.cell ⟨b,2+((Int.toNat (m.og-1))*1),none⟩ (.int .u64 (m.dp.toList.getD (Int.toNat (m.og-1)) 0))] (bP (a.cell 0 rfl (cW.HO (off:=2) (d:=m.dp) zk za)) aO) (Hl 26 0 1 a (tP 27 (m.nr-1) Hz)))))) (gB [33,2,1] () (((m.dp.toList.getD (Int.toNat (m.og-1)) 0):Int) != (m.nr-1)) (by first|rfl|simp [Hb,e,i,f,q]) a)
 intro _ b5 x
 refine Zt (cZ (t:=((((decide ((m.og:Int)<1)) || (decide ((m.og:Int)>11))) || (decide ((m.nr:Int)<1))) || (decide ((m.nr:Int)>65536))) || (((m.dp.toList.getD (Int.toNat (m.og-1)) 0):Int) != (m.nr-1))) (λo=>?_) (λo=>?_))
 ·exact En (Lq (Le (Ly (Dz (bL (v:=.bool false) ⟨(by unfold dN;rw [if_pos (show AH m=true from o)]),x.dr 1⟩)))))
 ·have a0:=(Bool.or_eq_false_iff.1 o).1
  have h13aa:=(Bool.or_eq_false_iff.1 a0).1
  have h13aaa:=(Bool.or_eq_false_iff.1 h13aa).1
  have h13aaaa:=(Bool.or_eq_false_iff.1 h13aaa).1
  have h13aaab:(decide ((m.og:Int)>11))=false:=(Bool.or_eq_false_iff.1 h13aaa).2
  have h13aab:(decide ((m.nr:Int)<1))=false:=(Bool.or_eq_false_iff.1 h13aa).2
  have h13ab:(decide ((m.nr:Int)>65536))=false:=(Bool.or_eq_false_iff.1 a0).2
  have a7:(((m.dp.toList.getD (Int.toNat (m.og-1)) 0):Int) != (m.nr-1))=false:=(Bool.or_eq_false_iff.1 o).2
  refine En (Lk (Lt (Ls (Lq (Lb (Dz (bH.loop (T:=Nat) (λgg=>[(1,zP b 0),(3,.int .i64 (gg:Nat))]) (λgg w=>(gg<=11/\∀ z∈m.dp.toList.take gg,z<=65536)/\St w0 (aC b (aD.cells m) 51::L) w) (λgg=>11-gg) 0 [1,3] zk ⟨⟨Nat.zero_le _,λz hz=>by cases hz⟩,x⟩ ?_)))))))
  rintro k b7 ⟨hp,u⟩
  refine En (Ls (Lq (Dz (Zi ((k:Int)<11) (λa8=>?_) (λa8=>?_)))))
  ·have hk:k<11:=za
   refine Zk (Zt (Zs (Zb (Zs (cS (Hx 2 (k:Int) (11:Int) b 2 1 (Hg 3 (.gen [.int .u64 (m.dp.toList.getD k 0)]) [.cell ⟨b,2+(k*1),none⟩ (.int .u64 (m.dp.toList.getD k 0))] (bP (u.cell 0 rfl (cW.HO (off:=2) (d:=m.dp) zk za)) aO) Hz)) (Zt (Zi (((m.dp.toList.getD k 0):Int)>65536) (λa9=>?_) (λa9=>?_))))))))
   ·exact En (Lq (Le (Ll (Ly (sT (Ll (Ly (Dz (bL (v:=.bool false) ⟨(by unfold dN;rw [if_neg (ne_true_of_eq_false (show AH m=false from o)),if_neg (λf=>by have:=f _ (bC (l:=m.dp.toList) (d:=(0:Int)) (by rw [cW.len];exact hk));omega)]),u.dr 1⟩)))))))))
   ·exact Zk (Zm (Zt (cS (dW 1 ((k:Nat)+1) Hz) (aN.back (k+1) [1,3] zk (by show 11-(k+1)<11-k;omega) ⟨⟨za,J4 hk hp.2 za⟩,u⟩))))
  ·have hke:m.dp.toList.take k=m.dp.toList:=List.take_of_length_le (by rw [cW.len];omega)
   exact Zx (aN.cJ (aN.fJ (aN.iT (Zt (Zs (bX [2] (fE 1 0 13 76 (aV.cells m.bd) u Hz) (eE (DJ m.bd hm.bd (λw h=>hr _ (h.drop 1)) u) λb9 b2=>Lz (Le (Dz (bL (v:=.bool (nt m.bd)) ⟨(by unfold dN;rw [if_neg (ne_true_of_eq_false (show AH m=false from o)),if_pos (by rw [<- hke];exact hp.2),B8 hm.bd]),b2.dr 1⟩))))))))))
theorem zi {p:Prop}(h:p:=by first|omega|(simp only [List.length_append,List.length_cons,List.length_nil,aZ,fU,bI.len,kW] at *;omega)):p:=h
theorem oz m (hm:dw m) (hr:Rw w0 L bS.cells 2 cD m.bd.qa m.bd.ql) (hs:St w0 L w):Cs Tryz.prog 77 #[.agg (aD.cells m)] w λrv w'=>∃ ao co,rv=.slice ao ((jU m).length) co/\St w0 (Sl ao co 5 1 aA (jU m)::L) w':=by
 refine cL Tryz.func77 Tryz.ntmps77 (En (Ls (Lg [0] (Dz (hG (aD.cells m) hs λo w2 c3=>Lz (Ls (Ls (Dz (bX [1] (fE 0 0 0 121 (aD.cells m) c3 Hz) (eE (nM m hm (λw h=>hr _ (h.drop 1)) c3) λw6 a8=>Lz (Dz (cZ (t:=!(dN m)) (λh7=>?_) (λh7=>?_)))))))))))))
 ·have a3:=jV h7
  refine En (Lq (Le (Ly (Dz (bL (v:=.slice none 0 0) ?_)))))
  have e3:=St.bJ a8 5 1 aA
  have e4:=(e3.pl 0).pl 1
  exact⟨none,0,by rw [(show jU m=[] from if_neg (by rw [a3];decide))];rfl,by rw [(show jU m=[] from if_neg (by rw [a3];decide))];exact(e4.dr 1)⟩
 ·have a3:=jN h7
  have hb:dN m=true:=a3
  have hin:=lH (kY hb)
  have g1:=hm.bd.vw
  have g2:=hm.bd.k
  have g3:=hm.bd.kd
  refine Zk (Zt (Zs (bX [3] (Hl 1 0 0 a8 Hz) (tQ aP aF [(IntKind.u8.wrap m.og:Int)] a8 λc4 e6 e7=>Lz (Ls (Lq (Lb (Dz ?_))))))))
  have e8:St w0 (Sl (some ⟨c4,0,none⟩) 1 5 1 aA (kO m 0)::aC o (aD.cells m) 51::L) e6:=e7
  refine bH.loop (T:=Nat×(Option Addr)×Nat) (λgg=>[(1,zP o 0),(2,.slice none 0 0),(3,.slice gg.2.1 ((kO m gg.1).length) gg.2.2),(4,.int .i64 (gg.1:Nat))]) (λgg w=>(gg.1<=11)/\St w0 (Sl gg.2.1 gg.2.2 5 1 aA (kO m gg.1)::aC o (aD.cells m) 51::L) w) (λgg=>11-gg.1) (0,some ⟨c4,0,none⟩,1) [1,2,3,4] zk ⟨Nat.zero_le _,e8⟩ ?_
  rintro⟨k,ad,c⟩ k2 ⟨hp,x⟩
  dsimp only at hp x
  refine En (Ls (Lq (Dz (Zi ((k:Int)<11) (λe9=>?_) (λe9=>?_)))))
  ·have hk:k<11:=za
   have hkl:=lZ m k za
   refine Zk (Zt (Zs (Zb (bX [5] (Hx 3 (k:Int) (11:Int) o 2 1 (Hg 4 (.gen [.int .u64 (m.dp.toList.getD k 0)]) [.cell ⟨o,2+(k*1),none⟩ (.int .u64 (m.dp.toList.getD k 0))] (bP (x.cell 1 rfl (cW.HO (off:=2) (d:=m.dp) zk za)) aO) Hz)) (Zc (gK (kO m k) (m.dp.toList.getD k 0) zi (hm.dp (m.dp.toList.getD k 0) (bC (d:=(0:Int)) (by rw [cW.len];exact hk))) x) ?_)))))
   rintro k3 f0 ⟨a4,a5,rfl,f1⟩
   refine Lo (bO (Lm (Lt (Dz (cS (dW 1 ((k:Nat)+1) Hz) ?_)))))
   have f2:St w0 (Sl a4 a5 5 1 aA (kO m (k+1))::aC o (aD.cells m) 51::L) f0:=(by rw [qA m hk];exact f1)
   exact aN.pick [4,3,1,2] (S':=[(4,.int .i64 ((k:Nat)+1)),(3,.slice a4 (((kO m k)++wd (m.dp.toList.getD k 0)).length) a5),(1,zP o 0),(2,.slice none 0 0)]) zk (aN.fK (S':=[(4,.int .i64 ((k:Nat)+1)),(3,.slice a4 ((kO m (k+1)).length) a5),(1,zP o 0),(2,.slice none 0 0)]) (by rw [qA m hk]) (aN.back (k+1,a4,a5) [1,2,3,4] zk (by show 11-(k+1)<11-k;omega) ⟨za,f2⟩))
  ·have hke:k=11:=za
   subst hke
   have hkl:=lZ m 11 za
   refine Zx (aN.cJ (aN.fJ (aN.iT (Zt (Zs (bX [2,3] (fE 1 1 13 76 (aV.cells m.bd) x Hz) (eN (aV.cells vC) x λb k4 f3=>Lo (Dz (Zu 0 0 (aV.cells m.bd) f3 λk5 c5=>Lo (Ld (Lt (Ls (Dz (bX [3,4] (Hl 2 0 0 c5 Hz) (tQ aP aF [(m.bd.kd:Int)] c5 λk6 k7 f4=>Lo (Dz (oV aP aF (0:Int) (f4.pl 2) zi λk8 k9 l0 z=>Lz (Ls (Ls (Dz (cS (Hl 1 2 0 z Hz) (Zt (cZ (t:=(m.bd.kd:Int) != 6) (λa0=>?_) (λa0=>?_))))))))))))))))))))))))
   ·have f6:=tU a0
    have h6:¬ m.bd.kd=6:=by simpa using a0
    refine bX [3] (Hl 2 2 1 z Hz) (Zc (gK ((kO m 11)++([(m.bd.kd:Int)])) m.bd.vw zi hm.bd.vw z) ?_)
    rintro l1 l2 ⟨c6,c7,rfl,u⟩
    refine Lz (Ls (Ls (Dz (cS (Hl 1 2 0 u Hz) (En (Lt (Lb (Lq (Dz (cZ (t:=(m.bd.kd:Int) == 1) (λa9=>?_) (λa9=>?_)))))))))))
    ·have c8:=iV a9
     have c9:=hin.2.1
     rw [show lG m.bd=jE m.bd.rq from if_pos c8] at c9
     have hz:=ue c9
     have hrl:=pO hz
     refine ZD (eR [0,1,2,4,5,6] (.ef 3 (.ef 7 (.rd 8 .done)))) u λl3 d0 l4=>Zj (fE 2 2 3 40 (eG.cells m.bd.rq) d0 (Hg 6 (.eJ (zL b 11 m.bd.rq.tg.toList.length 32) (.sub 0 32)) [.prop (((none:Option Operand)=none->(0:Nat)=0)/\((none:Option Operand)=none->(32:Nat)=32)/\(0:Nat)<=32/\(32:Nat)<=32),.prop (Value.slice (some (if 32=0 then Addr.mk b 11 none else (Addr.mk b 11 none).add (0*1))) (32-0) (32-0)=Value.slice (some ⟨b,11,none⟩) m.bd.rq.tg.toList.length 32)] (aL ⟨(by first|(intro _;rfl)|(intro hc;cases hc)),(by first|(intro _;rfl)|(intro hc;cases hc)),za,za⟩ (aL (by rw [bI.len];exact dM _ _ _ _ _ zf) aO)) Hz)) (Zc (rV (((kO m 11)++([(m.bd.kd:Int)]))++wd m.bd.vw) m.bd.rq zi hm.bd.rq hz d0) ?_)
     rintro l5 l6 ⟨f7,f8,rfl,d1⟩
     refine⟨fM (n:=[.prop (((none:Option Operand)=none->(0:Nat)=0)/\((none:Option Operand)=none->(32:Nat)=32)/\(0:Nat)<=32/\(32:Nat)<=32),.prop (Value.slice (some (if 32=0 then Addr.mk b 11 none else (Addr.mk b 11 none).add (0*1))) (32-0) (32-0)=Value.slice (some ⟨b,11,none⟩) m.bd.rq.tg.toList.length 32)]) zk (aL ⟨(by first|(intro _;rfl)|(intro hc;cases hc)),(by first|(intro _;rfl)|(intro hc;cases hc)),za,za⟩ (aL (by rw [bI.len];exact dM _ _ _ _ _ zf) aO)),(aU.append rfl zk aP aF (ad:=f7) (c:=f8) (xs:=(((kO m 11)++([(m.bd.kd:Int)]))++wd m.bd.vw)++uc m.bd.rq) (ys:=m.bd.rq.tg.toList) (adx:=some ⟨b,11,none⟩) (cx:=32) (0:Int) zk d1 (bI.sM d1 2 11 m.bd.rq.tg rfl zk) (λh=>nomatch h) zi zi λd2 d3 l7 f9=>Lo (bO (Lm (Lt (Lq (Le (Dz (bL (v:=.slice d2 ((((((kO m 11)++([(m.bd.kd:Int)]))++wd m.bd.vw)++uc m.bd.rq)++m.bd.rq.tg.toList).length) d3) ?_))))))))⟩
     have g0:=(((f9.pl 0).pl 3).pl 3).pl 3
     have e:((((kO m 11)++([(m.bd.kd:Int)]))++wd m.bd.vw)++uc m.bd.rq)++m.bd.rq.tg.toList=jU m:=by
      rw [show jU m=kX m from if_pos hb]
      unfold kX oo
      rw [if_pos za,E2]
      all_goals simp only [List.append_assoc]
     exact⟨d2,d3,by rw [<- e],by rw [<- e];exact(g0.dr 3)⟩
    ·have c8:=jC a9
     refine En (Lq (Dz (cZ (t:=(m.bd.kd:Int) == 2) (λb0=>?_) (λb0=>?_))))
     ·have g7:=iV b0
      refine bX [3] (Hl 2 2 2 u Hz) (Zc (gK (((kO m 11)++([(m.bd.kd:Int)]))++wd m.bd.vw) m.bd.k zi hm.bd.k u) ?_)
      rintro l8 l9 ⟨d4,d5,rfl,g8⟩
      refine Lo (bO (Lm (Lt (Lq (Le (Dz (bL (v:=.slice d4 (((((kO m 11)++([(m.bd.kd:Int)]))++wd m.bd.vw)++wd m.bd.k).length) d5) ?_)))))))
      have g9:=(((g8.pl 0).pl 3).pl 3).pl 3
      have e:(((kO m 11)++([(m.bd.kd:Int)]))++wd m.bd.vw)++wd m.bd.k=jU m:=by
       rw [show jU m=kX m from if_pos hb]
       unfold kX oo
       rw [if_neg za,if_pos za,Hv]
       all_goals simp only [List.append_assoc]
      exact⟨d4,d5,by rw [<- e],by rw [<- e];exact(g9.dr 3)⟩
     ·have g7:=jC b0
      refine En (Lq (Dz (cZ (t:=(m.bd.kd:Int) == 4) (λb2=>?_) (λb2=>?_))))
      ·have h1:=iV b2
       refine Zs (bX [5,6] (Hl 2 2 43 u Hz) (tQ aP aF [(IntKind.u8.wrap (m.bd.ql.length:Nat):Int)] u λm0 m1 h2=>Lo (Dz (oV aP aF (0:Int) (h2.pl 1) zi λa6 a7 h4 h5=>Lz (Lq (Lb (Dz ?_)))))))
       obtain⟨d6,d7⟩:∃ a,a=m.bd.qa:=⟨_,rfl⟩
       have h8:=((((h5.pl 3).pl 1).pl 4).pl 4).pl 4
       have i0:=h8.dr 3
       have i1:St w0 (Sl a6 a7 5 1 aA ((kO m 11++([(m.bd.kd:Int)]++(wd m.bd.vw++[IntKind.u8.wrap (m.bd.ql.length:Nat)])))++(m.bd.ql.take 0).flatMap pz)::aC b (aV.cells (⟨m.bd.kd,m.bd.vw,m.bd.k,m.bd.rq,d6,m.bd.qc,m.bd.ql,m.bd.dg⟩:aV)) 49::L) h4:=(by rw [d7,<- (show(((kO m 11)++([(m.bd.kd:Int)]))++wd m.bd.vw)++([(IntKind.u8.wrap (m.bd.ql.length:Nat):Int)])=(kO m 11++([(m.bd.kd:Int)]++(wd m.bd.vw++[IntKind.u8.wrap (m.bd.ql.length:Nat)])))++(m.bd.ql.take 0).flatMap pz by simp only [List.append_assoc,List.take_zero,List.flatMap_nil,List.append_nil])];exact i0)
       refine Zn [(6,.int .i64 0),(3,.slice a6 (((((kO m 11)++([(m.bd.kd:Int)]))++wd m.bd.vw)++([(IntKind.u8.wrap (m.bd.ql.length:Nat):Int)])).length) a7),(5,zP b 0),(2,.slice none 0 0)] (bH.fK (S':=[(6,.int .i64 0),(3,.slice a6 (((kO m 11++([(m.bd.kd:Int)]++(wd m.bd.vw++[IntKind.u8.wrap (m.bd.ql.length:Nat)])))++(m.bd.ql.take 0).flatMap pz).length) a7),(5,zP b 0),(2,.slice none 0 0)]) (by rw [(show(((kO m 11)++([(m.bd.kd:Int)]))++wd m.bd.vw)++([(IntKind.u8.wrap (m.bd.ql.length:Nat):Int)])=(kO m 11++([(m.bd.kd:Int)]++(wd m.bd.vw++[IntKind.u8.wrap (m.bd.ql.length:Nat)])))++(m.bd.ql.take 0).flatMap pz by simp only [List.append_assoc,List.take_zero,List.flatMap_nil,List.append_nil])]) (bH.loop (T:=Nat×(Option Addr)×(Option Addr)×Nat) (λgg=>[(2,.slice none 0 0),(3,.slice gg.2.2.1 (((kO m 11++([(m.bd.kd:Int)]++(wd m.bd.vw++[IntKind.u8.wrap (m.bd.ql.length:Nat)])))++(m.bd.ql.take gg.1).flatMap pz).length) gg.2.2.2),(5,zP b 0),(6,.int .i64 (gg.1:Nat))]) (λgg w=>(gg.1<=m.bd.ql.length/\∀ w,St w0 L w->aB w gg.2.1 m.bd.ql.length 2 (λq=>bS.cells (m.bd.ql.getD q cD)))/\St w0 (Sl gg.2.2.1 gg.2.2.2 5 1 aA ((kO m 11++([(m.bd.kd:Int)]++(wd m.bd.vw++[IntKind.u8.wrap (m.bd.ql.length:Nat)])))++(m.bd.ql.take gg.1).flatMap pz)::aC b (aV.cells (⟨m.bd.kd,m.bd.vw,m.bd.k,m.bd.rq,gg.2.1,m.bd.qc,m.bd.ql,m.bd.dg⟩:aV)) 49::L) w) (λgg=>m.bd.ql.length-gg.1) (0,d6,a6,a7) [2,3,5,6] zk ⟨⟨Nat.zero_le _,by rw [d7];exact hr⟩,i1⟩ ?_))
       rintro⟨k,aq,d8,c1⟩ m2 ⟨hp,a1⟩
       dsimp only at hp a1
       have hw:=hp.2
       refine Zs (Zs (cS (Hl 2 1 43 a1 Hz) (Zt (Zi ((k:Int)<(m.bd.ql.length:Nat)) (λi2=>?_) (λi2=>?_)))))
       ·have hk:k<m.bd.ql.length:=za
        have hpk:=hm.bd.ql _ (bC (d:=cD) hk)
        have htk:(m.bd.ql.take k).length=k:=by rw [List.length_take];omega
        have hfk:=kW (m.bd.ql.take k)
        obtain⟨f,i,rfl⟩:=aB.isSome (hw _ (a1.drop 2)) za
        refine Zk (Zt (Zs (Zb (ZD (eR [0,1,2,3,4,5,6,7,10,11,12,13,14,15] (.ef 8 (.ef 9 (.ef 16 (.rd 17 .done))))) a1 λm3 a2 m4=>Zj (Hl 2 1 43 a2 (Hx 4 (k:Int) (m.bd.ql.length:Int) f i 2 (Hg 6 (.gen [.int .i64 ((m.bd.ql.getD k cD).rp)]) [.cell ⟨f,i+(k*2),none⟩ (.int .i64 ((m.bd.ql.getD k cD).rp))] (bP (aB.dX (hw _ (a2.drop 2)) (k:=k) zo (j:=0) zf zk) aO) (Hl 11 1 43 a2 (Hx 13 (k:Int) (m.bd.ql.length:Int) f i 2 (Hg 15 (.gen [.int .u64 ((m.bd.ql.getD k cD).nm)]) [.cell ⟨f,i+(k*2)+1,none⟩ (.int .u64 ((m.bd.ql.getD k cD).nm))] (bP (aB.dX (hw _ (a2.drop 2)) (k:=k) zo (j:=1) zf zk) aO) Hz)))))) (tQ aP aF [(IntKind.u8.wrap ((m.bd.ql.getD k cD).rp):Int)] a2 λm5 m6 b3=>⟨fM (n:=[.cell ⟨f,i+(k*2)+1,none⟩ (.int .u64 ((m.bd.ql.getD k cD).nm)),.prop (0<=(k:Int)/\(k:Int)<(m.bd.ql.length:Int)),.prop (Value.pointer (some (Addr.add ⟨f,i,none⟩ (Int.toNat (k:Nat)*2)))=Value.pointer (some ⟨f,i+(k*2),none⟩)),.cell ⟨b,43,none⟩ (zL f i m.bd.ql.length m.bd.qc)]) zk (bP (aB.dX (hw _ (b3.drop 3)) (k:=k) zo (j:=1) zf zk) (aL za (aL (bK _ _ _) (bP (b3.cell 2 rfl zk) aO)))),(oV aP aF (0:Int) (b3.pl 1) zi λm7 m8 m9 b4=>⟨fM (n:=[.cell ⟨f,i+(k*2)+1,none⟩ (.int .u64 ((m.bd.ql.getD k cD).nm)),.prop (0<=(k:Int)/\(k:Int)<(m.bd.ql.length:Int)),.prop (Value.pointer (some (Addr.add ⟨f,i,none⟩ (Int.toNat (k:Nat)*2)))=Value.pointer (some ⟨f,i+(k*2),none⟩)),.cell ⟨b,43,none⟩ (zL f i m.bd.ql.length m.bd.qc)]) zk (bP (aB.dX (hw _ (b4.drop 3)) (k:=k) zo (j:=1) zf zk) (aL za (aL (bK _ _ _) (bP (b4.cell 2 rfl zk) aO)))),Zc (gK (((kO m 11++([(m.bd.kd:Int)]++(wd m.bd.vw++[IntKind.u8.wrap (m.bd.ql.length:Nat)])))++(m.bd.ql.take k).flatMap pz)++([(IntKind.u8.wrap ((m.bd.ql.getD k cD).rp):Int)])) ((m.bd.ql.getD k cD).nm) zi hpk.2 b4) ?_⟩)⟩)))))
        rintro n0 n1 ⟨b5,b6,rfl,i4⟩
        refine Lo (bO (Lm (Lt (Dz (cS (dW 1 ((k:Nat)+1) Hz) ?_)))))
        have i5:=((i4.pl 2).pl 1).pl 2
        exact aN.pick [6,3,2,5] (S':=[(6,.int .i64 ((k:Nat)+1)),(3,.slice b5 (((((kO m 11++([(m.bd.kd:Int)]++(wd m.bd.vw++[IntKind.u8.wrap (m.bd.ql.length:Nat)])))++(m.bd.ql.take k).flatMap pz)++([(IntKind.u8.wrap ((m.bd.ql.getD k cD).rp):Int)]))++wd ((m.bd.ql.getD k cD).nm)).length) b6),(2,.slice none 0 0),(5,zP b 0)]) zk (aN.fK (S':=[(6,.int .i64 ((k:Nat)+1)),(3,.slice b5 (((kO m 11++([(m.bd.kd:Int)]++(wd m.bd.vw++[IntKind.u8.wrap (m.bd.ql.length:Nat)])))++(m.bd.ql.take (k+1)).flatMap pz).length) b6),(2,.slice none 0 0),(5,zP b 0)]) (by rw [(show(((kO m 11++([(m.bd.kd:Int)]++(wd m.bd.vw++[IntKind.u8.wrap (m.bd.ql.length:Nat)])))++(m.bd.ql.take k).flatMap pz)++([(IntKind.u8.wrap ((m.bd.ql.getD k cD).rp):Int)]))++wd ((m.bd.ql.getD k cD).nm)=(kO m 11++([(m.bd.kd:Int)]++(wd m.bd.vw++[IntKind.u8.wrap (m.bd.ql.length:Nat)])))++(m.bd.ql.take (k+1)).flatMap pz by rw [bA (d:=cD) hk,List.flatMap_append];simp only [List.append_assoc,List.flatMap_cons,List.flatMap_nil,List.append_nil,pz])]) (aN.back (k+1,some ⟨f,i,none⟩,b5,b6) [2,3,5,6] zk (by show m.bd.ql.length-(k+1)<m.bd.ql.length-k;omega) ⟨⟨za,hw⟩,Mz (i5.dr 1) (show(((kO m 11++([(m.bd.kd:Int)]++(wd m.bd.vw++[IntKind.u8.wrap (m.bd.ql.length:Nat)])))++(m.bd.ql.take k).flatMap pz)++([(IntKind.u8.wrap ((m.bd.ql.getD k cD).rp):Int)]))++wd ((m.bd.ql.getD k cD).nm)=(kO m 11++([(m.bd.kd:Int)]++(wd m.bd.vw++[IntKind.u8.wrap (m.bd.ql.length:Nat)])))++(m.bd.ql.take (k+1)).flatMap pz by rw [bA (d:=cD) hk,List.flatMap_append];simp only [List.append_assoc,List.flatMap_cons,List.flatMap_nil,List.append_nil,pz])⟩))
       ·have hke:m.bd.ql.take k=m.bd.ql:=List.take_of_length_le za
        refine En (Lx (kD (kE (Lh (Lm (Lt (Lq (Le (Dz (bL (v:=.slice d8 (((kO m 11++([(m.bd.kd:Int)]++(wd m.bd.vw++[IntKind.u8.wrap (m.bd.ql.length:Nat)])))++(m.bd.ql.take k).flatMap pz).length) c1) ?_))))))))))
        have i8:=(a1.pl 0).pl 1
        have e:(kO m 11++([(m.bd.kd:Int)]++(wd m.bd.vw++[IntKind.u8.wrap (m.bd.ql.length:Nat)])))++(m.bd.ql.take k).flatMap pz=jU m:=by
         rw [show jU m=kX m from if_pos hb]
         unfold kX oo
         rw [if_neg za,if_neg za,if_pos za,F3]
         rw [hke]
         all_goals simp only [List.append_assoc]
        exact⟨d8,c1,by rw [<- e],by rw [<- e];exact(i8.dr 1)⟩
      ·have h1:=jC b2
       refine En (Lq (Dz (cZ (t:=(m.bd.kd:Int) == 6) (λb7=>?_) (λb7=>?_))))
       ·have j0:=iV b7
        exfalso;omega
       ·have j0:=jC b7
        refine En (Lk (Lm (Lt (Lq (Le (Dz (bL (v:=.slice c6 ((((kO m 11)++([(m.bd.kd:Int)]))++wd m.bd.vw).length) c7) ?_)))))))
        have j1:=(((u.pl 0).pl 3).pl 3).pl 3
        have e:((kO m 11)++([(m.bd.kd:Int)]))++wd m.bd.vw=jU m:=by
         rw [show jU m=kX m from if_pos hb]
         unfold kX oo
         rw [if_neg za,if_neg za,if_neg za,if_neg za]
         all_goals simp only [List.append_assoc]
        exact⟨c6,c7,by rw [<- e],by rw [<- e];exact(j1.dr 3)⟩
   ·have f6:=sR a0
    have h6:m.bd.kd=6:=by simpa using a0
    refine Zk (Zt (Zs (Zs (cS (Hl 1 2 0 z Hz) (En (Lt (Lb (Lq (Dz (cZ (t:=(m.bd.kd:Int) == 1) (λb8=>?_) (λb8=>?_)))))))))))
    ·have j3:=iV b8
     exfalso;omega
    ·have j3:=jC b8
     refine En (Lq (Dz (cZ (t:=(m.bd.kd:Int) == 2) (λb9=>?_) (λb9=>?_))))
     ·have j4:=iV b9
      exfalso;omega
     ·have j4:=jC b9
      refine En (Lq (Dz (cZ (t:=(m.bd.kd:Int) == 4) (λc0=>?_) (λc0=>?_))))
      ·have j5:=iV c0
       exfalso;omega
      ·have j5:=jC c0
       refine En (Lq (Dz (cZ (t:=(m.bd.kd:Int) == 6) (λc2=>?_) (λc2=>?_))))
       ·have j6:=iV c2
        refine ZD (eR [0,1,2,4,5] (.ef 3 (.ef 6 (.rd 7 .done)))) z λn2 d9 n3=>Zj (Hl 2 2 2 d9 (Hg 5 (.eJ (zL b 44 m.bd.dg.toList.length 32) (.sub 0 32)) [.prop (((none:Option Operand)=none->(0:Nat)=0)/\((none:Option Operand)=none->(32:Nat)=32)/\(0:Nat)<=32/\(32:Nat)<=32),.prop (Value.slice (some (if 32=0 then Addr.mk b 44 none else (Addr.mk b 44 none).add (0*1))) (32-0) (32-0)=Value.slice (some ⟨b,44,none⟩) m.bd.dg.toList.length 32)] (aL ⟨(by first|(intro _;rfl)|(intro hc;cases hc)),(by first|(intro _;rfl)|(intro hc;cases hc)),za,za⟩ (aL (by rw [bI.len];exact dM _ _ _ _ _ zf) aO)) Hz)) (Zc (gK ((kO m 11)++([(m.bd.kd:Int)])) m.bd.k zi hm.bd.k d9) ?_)
        rintro n4 n5 ⟨j7,j8,rfl,e0⟩
        refine⟨fM (n:=[.prop (((none:Option Operand)=none->(0:Nat)=0)/\((none:Option Operand)=none->(32:Nat)=32)/\(0:Nat)<=32/\(32:Nat)<=32),.prop (Value.slice (some (if 32=0 then Addr.mk b 44 none else (Addr.mk b 44 none).add (0*1))) (32-0) (32-0)=Value.slice (some ⟨b,44,none⟩) m.bd.dg.toList.length 32)]) zk (aL ⟨(by first|(intro _;rfl)|(intro hc;cases hc)),(by first|(intro _;rfl)|(intro hc;cases hc)),za,za⟩ (aL (by rw [bI.len];exact dM _ _ _ _ _ zf) aO)),(aU.append rfl zk aP aF (ad:=j7) (c:=j8) (xs:=((kO m 11)++([(m.bd.kd:Int)]))++wd m.bd.k) (ys:=m.bd.dg.toList) (adx:=some ⟨b,44,none⟩) (cx:=32) (0:Int) zk e0 (bI.sM e0 2 44 m.bd.dg rfl zk) (λh=>nomatch h) zi zi λe1 e2 n6 j9=>Lo (bO (Lm (Lt (Lq (Le (Dz (bL (v:=.slice e1 (((((kO m 11)++([(m.bd.kd:Int)]))++wd m.bd.k)++m.bd.dg.toList).length) e2) ?_))))))))⟩
        have k0:=(((j9.pl 0).pl 3).pl 3).pl 3
        have e:(((kO m 11)++([(m.bd.kd:Int)]))++wd m.bd.k)++m.bd.dg.toList=jU m:=by
         rw [show jU m=kX m from if_pos hb]
         unfold kX oo
         rw [if_neg za,if_neg za,if_neg za,if_pos za,Hw]
         all_goals simp only [List.append_assoc]
        exact⟨e1,e2,by rw [<- e],by rw [<- e];exact(k0.dr 3)⟩
       ·have j6:=jC c2
        exfalso;omega
theorem Gi m (hm:dw m) (hr:Rw w0 L bS.cells 2 cD m.bd.qa m.bd.ql) (hs:St w0 L w):Cs Tryz.prog 59 #[.agg (aD.cells m)] w λrv w'=>∃ ao co,rv=.slice ao ((cF m).length) co/\St w0 (Sl ao co 5 1 aA (cF m)::L) w':=by
 refine cL Tryz.func59 Tryz.ntmps59 (En (Ls (Lg [0] (Dz (hG (aD.cells m) hs λa w2 o=>Lz (Ls (Ls (Dz (bX [1] (fE 0 0 0 121 (aD.cells m) o Hz) (eE (nM m hm (λw h=>hr _ (h.drop 1)) o) λw6 q=>Lz (Dz (cZ (t:=!(dN m)) (λd=>?_) (λd=>?_)))))))))))))
 ·have b:=jV d
  refine En (Lq (Le (Ly (Dz (bL (v:=.slice none 0 0) ?_)))))
  have a1:=St.bJ q 5 1 aA
  have a2:=(a1.pl 0).pl 1
  exact⟨none,0,by rw [(show cF m=[] from if_neg (by rw [b];decide))];rfl,by rw [(show cF m=[] from if_neg (by rw [b];decide))];exact(a2.dr 1)⟩
 ·have b:=jN d
  have hb:dN m=true:=b
  refine Zk (Zt (Zs (ZD (eR [0,1,3,6,7] (.ef 2 (.ef 4 (.ef 5 (.ef 8 (.rd 9 .done)))))) q λb6 f b7=>Zj (Hl 1 0 1 f (fE 3 0 0 121 (aD.cells m) f (Hg 7 (.eJ (zL a 89 m.tg.toList.length 32) (.sub 0 32)) [.prop (((none:Option Operand)=none->(0:Nat)=0)/\((none:Option Operand)=none->(32:Nat)=32)/\(0:Nat)<=32/\(32:Nat)<=32),.prop (Value.slice (some (if 32=0 then Addr.mk a 89 none else (Addr.mk a 89 none).add (0*1))) (32-0) (32-0)=Value.slice (some ⟨a,89,none⟩) m.tg.toList.length 32)] (aL ⟨(by first|(intro _;rfl)|(intro hc;cases hc)),(by first|(intro _;rfl)|(intro hc;cases hc)),za,za⟩ (aL (by rw [bI.len];exact dM _ _ _ _ _ zf) aO)) Hz))) (Zc (gK ([]:List Int) m.nr zi hm.nr (St.bJ f 5 1 aA)) ?_))))
  rintro b8 b9 ⟨a5,a6,rfl,u⟩
  refine⟨fM (n:=[.prop (((none:Option Operand)=none->(0:Nat)=0)/\((none:Option Operand)=none->(32:Nat)=32)/\(0:Nat)<=32/\(32:Nat)<=32),.prop (Value.slice (some (if 32=0 then Addr.mk a 89 none else (Addr.mk a 89 none).add (0*1))) (32-0) (32-0)=Value.slice (some ⟨a,89,none⟩) m.tg.toList.length 32),.prop (Array.size (aD.cells m)=121),.cells ⟨a,0,none⟩ (aD.cells m)]) zk (aL ⟨(by first|(intro _;rfl)|(intro hc;cases hc)),(by first|(intro _;rfl)|(intro hc;cases hc)),za,za⟩ (aL (by rw [bI.len];exact dM _ _ _ _ _ zf) (aL zk (eM (u.cells 1 0 rfl zk) aO)))),Zc (oz m hm (λw h=>hr _ (h.drop 2)) u) ?_⟩
  rintro c0 c1 ⟨a7,a8,rfl,a9⟩
  refine⟨fM (n:=[.prop (((none:Option Operand)=none->(0:Nat)=0)/\((none:Option Operand)=none->(32:Nat)=32)/\(0:Nat)<=32/\(32:Nat)<=32),.prop (Value.slice (some (if 32=0 then Addr.mk a 89 none else (Addr.mk a 89 none).add (0*1))) (32-0) (32-0)=Value.slice (some ⟨a,89,none⟩) m.tg.toList.length 32)]) zk (aL ⟨(by first|(intro _;rfl)|(intro hc;cases hc)),(by first|(intro _;rfl)|(intro hc;cases hc)),za,za⟩ (aL (by rw [bI.len];exact dM _ _ _ _ _ zf) aO)),?_⟩
  have i:=a9.pl 1
  refine aU.append rfl zk aP aF (ad:=a5) (c:=a6) (xs:=([]:List Int)++wd m.nr) (ys:=jU m) (adx:=a7) (cx:=a8) (0:Int) zk i (i.rows 1 rfl aF.size (0:Int)) (i.dI 1 rfl) (by have:=gA hb;have e:jU m=kX m:=if_pos hb;simp only [e,List.length_append,List.length_nil,aZ,bI.len];omega) (by have:=gA hb;have e:jU m=kX m:=if_pos hb;simp only [e,List.length_append,List.length_nil,aZ,bI.len];omega) λb0 b2 c2 x=>⟨fM (n:=[.prop (((none:Option Operand)=none->(0:Nat)=0)/\((none:Option Operand)=none->(32:Nat)=32)/\(0:Nat)<=32/\(32:Nat)<=32),.prop (Value.slice (some (if 32=0 then Addr.mk a 89 none else (Addr.mk a 89 none).add (0*1))) (32-0) (32-0)=Value.slice (some ⟨a,89,none⟩) m.tg.toList.length 32)]) zk (aL ⟨(by first|(intro _;rfl)|(intro hc;cases hc)),(by first|(intro _;rfl)|(intro hc;cases hc)),za,za⟩ (aL (by rw [bI.len];exact dM _ _ _ _ _ zf) aO)),(aU.append rfl zk aP aF (ad:=b0) (c:=b2) (xs:=(([]:List Int)++wd m.nr)++(jU m)) (ys:=m.tg.toList) (adx:=some ⟨a,89,none⟩) (cx:=32) (0:Int) zk x (bI.sM x 2 89 m.tg rfl zk) (λh=>nomatch h) (by have:=gA hb;have e:jU m=kX m:=if_pos hb;simp only [e,List.length_append,List.length_nil,aZ,bI.len];omega) (by have:=gA hb;have e:jU m=kX m:=if_pos hb;simp only [e,List.length_append,List.length_nil,aZ,bI.len];omega) λz a0 c3 b3=>Lz (Le (Dz (bL (v:=.slice z ((((([]:List Int)++wd m.nr)++(jU m))++m.tg.toList).length) a0) ?_))))⟩
  have b4:=((b3.pl 0).pl 2).pl 2
  have h9:((([]:List Int)++wd m.nr)++(jU m))++m.tg.toList=cF m:=by rw [show jU m=kX m from if_pos hb];exact(if_pos hb).symm
  exact⟨z,a0,by rw [<- h9],by rw [<- h9];exact(b4.dr 2)⟩
end
section
variable {w0 w : World} {L : List cA} {ad : Option Addr} {cb : Nat}
def MP (s:CS):eG×CS :=
 let a:=cG s
 let b:=cG a.2
 let c:=aW b.2
 let d:=aW c.2
 let e:=mN 65535 d.2
 let f:=mN 65535 e.2
 let g:=mN 65535 f.2
 let h:=mN 65535 g.2
 let i:=ow h.2
 (⟨a.1,c.1,⟨b.1,e.1,f.1,g.1,h.1,d.1⟩,i.1⟩,i.2)
def Ng (kd:Int) (s:CS):aV×CS :=
 let a:=aW s
 let b:=MP a.2
 (⟨kd,a.1,0,b.1,none,0,[],aK⟩,b.2)
def vD (kd:Int) (s:CS):aV×CS:=if kd=1 then Ng kd s else gL kd s
def J5 (b:List Int):aD×Bool :=
 let a:=cG (b,false)
 let k:=cG (oO a.2 11)
 let g:=vD k.1 k.2
 (⟨a.1,0,eC (dH a.2) 11,g.1,aK⟩,!g.2.2 && decide (g.2.1.length=0))
theorem nW {b r3:List Int}{a k:Int}{s1 s2:CS}{g:aV}{p3:Bool}(h1:cG (b,false)=(a,s1)) (h2:cG (oO s1 11)=(k,s2)) (h3:vD k s2=(g,(r3,p3))):J5 b=(⟨a,0,eC (dH s1) 11,g,aK⟩,!p3 && decide (r3.length=0)):=by
 unfold J5
 simp only [h1,h2,h3]
theorem Ic {p:Bool}{n:Nat}(h:(!p)=true):(!p && decide (n=0))=((n:Int) == 0):=by rw [h,ib,Bool.true_and];simp
theorem Ie {p:Bool}{n:Nat}(h:(!p)=false):(!p && decide (n=0))=false:=by rw [h];rfl
theorem Fa {a b c d:Int}{e f g h:ByteArray}{i:bI}(h1:0<=a/\a<256) (h2:0<=b/\b<256) (h3:0<=c/\c<18446744073709551616) (h4:0<=d/\d<18446744073709551616) (h5:∀ z∈i.toList,0<=z/\z<256):vv ⟨a,c,⟨b,e,f,g,h,d⟩,i⟩ :=
 ⟨zq,zq,zq,zq,h5⟩
theorem DL Q b (hQ:∀ w,St w0 L w->Q.holds w) (hq:bG Q ad b cb) (hs:St w0 L w):Cs Tryz.prog 156 #[.slice ad b.length cb] w λrv w'=>∃ mm2 bb2,rv=.tuple #[.agg (aD.cells mm2),.bool bb2]/\J5 b=(gM mm2,bb2)/\dw mm2/\St w0 (Sl mm2.bd.qa mm2.bd.qc 190 2 bS.cells mm2.bd.ql::L) w':=by
 refine cL Tryz.func156 Tryz.ntmps156 (En (Ls (Lg [0] (Dz (eN (aD.cells aJ) hs λb1 w2 m7=>Lz (Ls (Lg [2] (Lw (hG #[.slice ad b.length cb,.bool false] m7 λu w5 m8=>Lz (Ls (Lg [1,4,5] (Lw (Zc (lX Q b false (λw h=>hQ w (h.drop 1)) hq m8) ?_)))))))))))))
 rintro bf bg ⟨q,d,i,i2,i3,rfl,c0,bh,m9,n0⟩
 refine K8 (dW 2 q Hz) (eN (aD.cells aJ) n0 λa1 bi n1=>Lo (Dz (Zu 0 0 (aD.cells (⟨q,0,qk,vC,aK⟩:aD)) n1 λn2 n3=>Lo (Ld (Lt (Ls (Lq (Lb (Dz ?_)))))))))
 have n4:=(n3.pl 0).pl 1
 have n5:St w0 (aC u #[.slice i2 d.length i3,.bool i] 115::aC a1 (aD.cells (⟨q,0,eC (dH (d,i)) 0,vC,aK⟩:aD)) 51::aC b1 (aD.cells aJ) 51::L) n2:=(by rw [Lf];exact n4)
 refine bH.loop (T:=Nat×(List Int)×Bool×(Option Addr)×Nat) (λgg=>[(2,zP b1 0),(3,.bool false),(4,zP u 0),(5,zP a1 0),(6,.int .i64 (gg.1:Nat))]) (λgg w=>(gg.1<=11/\(gg.2.1,gg.2.2.1)=oO (d,i) gg.1/\bG Q gg.2.2.2.1 gg.2.1 gg.2.2.2.2)/\St w0 (aC u #[.slice gg.2.2.2.1 gg.2.1.length gg.2.2.2.2,.bool gg.2.2.1] 115::aC a1 (aD.cells (⟨q,0,eC (dH (d,i)) gg.1,vC,aK⟩:aD)) 51::aC b1 (aD.cells aJ) 51::L) w) (λgg=>11-gg.1) (0,d,i,i2,i3) [2,3,4,5,6] zk ⟨⟨Nat.zero_le _,rfl,m9⟩,n5⟩ ?_
 rintro⟨kk,i4,i5,bj,bk⟩ bm ⟨hp,f2⟩
 dsimp only at hp f2
 refine En (Ls (Lq (Dz (Zi ((kk:Int)<11) (λn6=>?_) (λn6=>?_)))))
 ·have hk:kk<11:=za
  refine En (Lk (Lt (Ls (Lb (Lg [2,5] (Lw (Zc (hJ Q i4 i5 (λw h=>hQ w (h.drop 2)) hp.2.2 f2) ?_)))))))
  rintro bn bo ⟨i6,i7,i8,i9,j0,rfl,j1,bp,n7,n8⟩
  refine K8 (Hx 4 (kk:Int) (11:Int) a1 2 1 Hz) ?_
  have hvk:dH (d,i) kk=i6:=by show(aW (oO _ kk)).1=_;rw [<- hp.2.1,j1]
  exact aU.store rfl rfl zk (b:=a1) (off:=2+(kk*1)) (v:=.int .u64 i6) zk zk (ti:=Tryz.t29) zk n8 1 rfl zk zk (by show 2+(kk*1)+1<=121;omega) (cs':=aD.cells (⟨q,0,eC (dH (d,i)) (kk+1),vC,aK⟩:aD)) (L':=(aC u #[.slice i9 i7.length j0,.bool i8] 115)::aC a1 (aD.cells (⟨q,0,eC (dH (d,i)) (kk+1),vC,aK⟩:aD)) 51::aC b1 (aD.cells aJ) 51::L) (by rw [Nat.mul_one,<- hvk];exact Li _ hk) rfl λbq n9=>Lo (Ld (Lm (Lt (Dz (cS (dW 1 ((kk:Nat)+1) Hz) (aN.back (kk+1,i7,i8,i9,j0) [2,3,4,5,6] zk (by show 11-(kk+1)<11-kk;omega) ⟨⟨za,by show _=(aW (oO _ kk)).2;rw [<- hp.2.1,j1],n7⟩,n9⟩))))))
 ·have hke:kk=11:=za
  subst hke
  have hst:=hp.2.1
  refine En (Lx (kD (kE (Lh (Lt (Ls (Lg [1,3,4] (Lw (Zc (lX Q i4 i5 (λw h=>hQ w (h.drop 2)) hp.2.2 f2) ?_)))))))))
  rintro br bs ⟨a,b3,b5,bt,bu,rfl,c1,bv,j2,o0⟩
  refine Lo (Lw (eN (aV.cells vC) o0 λc5 bw o1=>Lo (Dz (Zu 0 0 (aV.cells (⟨a,0,0,cN,none,0,[],aK⟩:aV)) o1 λbx f0=>Lo (Ld (Lt (Ls (Ls (Dz (cS (Hl 1 0 0 f0 Hz) (Zt (cZ (t:=(a:Int) != 6) (λd8=>?_) (λd8=>?_)))))))))))))
  ·have o2:=tU d8
   have h6:¬ a=6:=by simpa using d8
   refine En (Lg [1,3] (Lw (Zc (hJ Q b3 b5 (λw h=>hQ w (h.drop 3)) j2 (f0.pl 1)) ?_)))
   rintro bz ca ⟨o,c6,c2,o4,o5,rfl,c7,cc,f3,o6⟩
   refine Lo (Lw (Zu 1 1 (aV.cells (⟨a,o,0,cN,none,0,[],aK⟩:aV)) o6 λcd d6=>Lo (Ld (Lt (Ls (Ls (Dz (cS (Hl 1 1 0 d6 Hz) (En (Lt (Lb (Lq (Dz (cZ (t:=(a:Int) == 1) (λf4=>?_) (λf4=>?_)))))))))))))))
   ·have f5:=iV f4
    refine En (Ls (Lg [1,5] (Lw (Zc (lX Q c6 c2 (λw h=>hQ w (h.drop 3)) f3 d6) ?_))))
    rintro ce cf ⟨x,o7,o8,ch,ci,rfl,j3,j4,o9,p0⟩
    refine K8 (dW 2 x Hz) (Zu 1 3 (aV.cells (⟨a,o,0,(⟨x,0,Nf,aK⟩:eG),none,0,[],aK⟩:aV)) p0 λcj p1=>Lo (Ld (Lt (Ls (Lg [1,5] (Lw (Zc (lX Q o7 o8 (λw h=>hQ w (h.drop 3)) o9 p1) ?_)))))))
    rintro ck cn ⟨a2,p2,p3,co,cq,rfl,j5,j6,p4,p5⟩
    refine Lo (Lw (Zu 1 5 (aV.cells (⟨a,o,0,(⟨x,0,(⟨a2,aR,aR,aR,aR,0⟩:lP),aK⟩:eG),none,0,[],aK⟩:aV)) p5 λcr p6=>Lo (Ld (Lt (Ls (Lg [1,4] (Lw (Zc (hJ Q p2 p3 (λw h=>hQ w (h.drop 3)) p4 p6) ?_))))))))
    rintro ct cu ⟨a3,p7,p8,cv,cw,rfl,j7,j8,p9,q0⟩
    refine Lo (Lw (Zu 1 4 (aV.cells (⟨a,o,0,(⟨x,a3,(⟨a2,aR,aR,aR,aR,0⟩:lP),aK⟩:eG),none,0,[],aK⟩:aV)) q0 λcx q1=>Lo (Ld (Lt (Ls (Lg [1,5] (Lw (Zc (hJ Q p7 p8 (λw h=>hQ w (h.drop 3)) p9 q1) ?_))))))))
    rintro cy cz ⟨a4,q2,q3,da,db,rfl,j9,k0,q4,q5⟩
    refine Lo (Lw (Zu 1 10 (aV.cells (⟨a,o,0,(⟨x,a3,(⟨a2,aR,aR,aR,aR,a4⟩:lP),aK⟩:eG),none,0,[],aK⟩:aV)) q5 λdc q6=>Lo (Ld (Lt (Ls (Lg [1,5] (Lw (Zc (pN Q q2 q3 65535 (λw h=>hQ w (h.drop 3)) q4 q6) ?_))))))))
    rintro dd de ⟨a5,q7,q8,df,dh,rfl,k1,q9,r0⟩
    refine Lo (Lw (Zu 1 6 (aV.cells (⟨a,o,0,(⟨x,a3,(⟨a2,a5,aR,aR,aR,a4⟩:lP),aK⟩:eG),none,0,[],aK⟩:aV)) r0 λdi r4=>Lo (Ld (Lt (Ls (Lg [1,5] (Lw (Zc (pN Q q7 q8 65535 (λw h=>hQ w (h.drop 3)) q9 r4) ?_))))))))
    rintro dj dk ⟨a6,r5,r6,dl,dm,rfl,k2,r7,r8⟩
    refine Lo (Lw (Zu 1 7 (aV.cells (⟨a,o,0,(⟨x,a3,(⟨a2,a5,a6,aR,aR,a4⟩:lP),aK⟩:eG),none,0,[],aK⟩:aV)) r8 λdn r9=>Lo (Ld (Lt (Ls (Lg [1,5] (Lw (Zc (pN Q r5 r6 65535 (λw h=>hQ w (h.drop 3)) r7 r9) ?_))))))))
    rintro dq ds ⟨a7,s0,s1,dt,du,rfl,k3,s3,s4⟩
    refine Lo (Lw (Zu 1 8 (aV.cells (⟨a,o,0,(⟨x,a3,(⟨a2,a5,a6,a7,aR,a4⟩:lP),aK⟩:eG),none,0,[],aK⟩:aV)) s4 λdv s5=>Lo (Ld (Lt (Ls (Lg [1,5] (Lw (Zc (pN Q s0 s1 65535 (λw h=>hQ w (h.drop 3)) s3 s5) ?_))))))))
    rintro dx dy ⟨a8,s6,s7,dz,ea,rfl,k4,s8,s9⟩
    refine Lo (Lw (Zu 1 9 (aV.cells (⟨a,o,0,(⟨x,a3,(⟨a2,a5,a6,a7,a8,a4⟩:lP),aK⟩:eG),none,0,[],aK⟩:aV)) s9 λeb t0=>Lo (Ld (Lt (Lg [1,4] (Lw (Zc (sw Q s6 s7 (λw h=>hQ w (h.drop 3)) s8 t0) ?_)))))))
    rintro ec ed ⟨b6,d9,c8,t1,t2,rfl,k5,k6,ee,t3⟩
    refine Lo (Lw (Zu 1 11 (aV.cells (⟨a,o,0,(⟨x,a3,(⟨a2,a5,a6,a7,a8,a4⟩:lP),b6⟩:eG),none,0,[],aK⟩:aV)) t3 λeg k7=>Lo (Ld (Lm (Lt (Ls (Dz (bX [2] (fE 0 1 0 76 (aV.cells (⟨a,o,0,(⟨x,a3,(⟨a2,a5,a6,a7,a8,a4⟩:lP),b6⟩:eG),none,0,[],aK⟩:aV)) k7 Hz) (Zu 2 13 (aD.cells (⟨q,0,eC (dH (d,i)) 11,(⟨a,o,0,(⟨x,a3,(⟨a2,a5,a6,a7,a8,a4⟩:lP),b6⟩:eG),none,0,[],aK⟩:aV),aK⟩:aD)) k7 λeh t4=>Lo (Ld (Lt (Ls (Dz (ZD (eR [0,1,2,3,4,5,6,7,8,9,10,11,12,13] (.ef 14 (.rd 15 .done))) t4 λei e0 ej=>Zp 0 7 [(0,.agg (aD.cells (⟨q,0,eC (dH (d,i)) 11,(⟨a,o,0,(⟨x,a3,(⟨a2,a5,a6,a7,a8,a4⟩:lP),b6⟩:eG),none,0,[],aK⟩:aV),aK⟩:aD))),(4,.gen [.bool c8])] [(0,[.prop (Array.size (aD.cells (⟨q,0,eC (dH (d,i)) 11,(⟨a,o,0,(⟨x,a3,(⟨a2,a5,a6,a7,a8,a4⟩:lP),b6⟩:eG),none,0,[],aK⟩:aV),aK⟩:aD))=121),.cells ⟨a1,0,none⟩ (aD.cells (⟨q,0,eC (dH (d,i)) 11,(⟨a,o,0,(⟨x,a3,(⟨a2,a5,a6,a7,a8,a4⟩:lP),b6⟩:eG),none,0,[],aK⟩:aV),aK⟩:aD))]),(4,[.cell ⟨u,1,none⟩ (.bool c8)])] (ak (aL zk (eM (e0.cells 2 0 rfl zk) aO)) (ak (bP (e0.cell 0 rfl zk) aO) gQ)) ?_))))))))))))))
    rcases Bool.eq_false_or_eq_true (!c8) with c9|c9
    ·refine py 134 true c9 (Zj (Hl 10 0 0 e0 Hz) (Zu 3 0 (aD.cells (⟨q,0,eC (dH (d,i)) 11,(⟨a,o,0,(⟨x,a3,(⟨a2,a5,a6,a7,a8,a4⟩:lP),b6⟩:eG),none,0,[],aK⟩:aV),aK⟩:aD)) e0 λek f6=>⟨fM (n:=[.cell ⟨u,0,none⟩ (.slice t1 d9.length t2)]) zk (bP (f6.cell 0 rfl zk) aO),En (bO (Lt (Le (Dz (mZ 3 (.bool ((d9.length:Int) == 0)) f6 ?_)))))⟩))
     have t6:=St.bJ f6 190 2 bS.cells
     have h3:vD a (b3,b5)=((⟨a,o,0,(⟨x,a3,(⟨a2,a5,a6,a7,a8,a4⟩:lP),b6⟩:eG),none,0,[],aK⟩:aV),(d9,c8)):=by unfold vD;rw [if_pos f5];unfold Ng MP;simp only [c7,j3,j5,j7,j9,k1,k2,k3,k4,k5]
     have t7:=((((t6.pl 0).pl 4).pl 4).pl 4).pl 4
     exact⟨(⟨q,0,eC (dH (d,i)) 11,(⟨a,o,0,(⟨x,a3,(⟨a2,a5,a6,a7,a8,a4⟩:lP),b6⟩:eG),none,0,[],aK⟩:aV),aK⟩:aD),((d9.length:Int) == 0),rfl,(nW c0 ((congrArg cG hst.symm).trans c1) h3).trans (congrArg (Prod.mk _) (Ic c9)),⟨zq,zq,iX _ 0 (λk hk=>by have:=cC (s:=oO (d,i) k) (v:=dH (d,i) k) (s2:=(aW (oO (d,i) k)).2) rfl;omega),⟨zq,zq,zq,Fa j4 j6 j8 k0 k6,(λp hp=>by cases hp),cO,Nat.zero_le _⟩,cO⟩,t7.dr 4⟩
    ·refine py 134 false c9 (En (Lw (Zu 3 0 (aD.cells (⟨q,0,eC (dH (d,i)) 11,(⟨a,o,0,(⟨x,a3,(⟨a2,a5,a6,a7,a8,a4⟩:lP),b6⟩:eG),none,0,[],aK⟩:aV),aK⟩:aD)) e0 λel k8=>Lz (Le (Dz (mZ 3 (.bool false) k8 ?_))))))
     have t9:=St.bJ k8 190 2 bS.cells
     have h3:vD a (b3,b5)=((⟨a,o,0,(⟨x,a3,(⟨a2,a5,a6,a7,a8,a4⟩:lP),b6⟩:eG),none,0,[],aK⟩:aV),(d9,c8)):=by unfold vD;rw [if_pos f5];unfold Ng MP;simp only [c7,j3,j5,j7,j9,k1,k2,k3,k4,k5]
     have u0:=((((t9.pl 0).pl 4).pl 4).pl 4).pl 4
     exact⟨(⟨q,0,eC (dH (d,i)) 11,(⟨a,o,0,(⟨x,a3,(⟨a2,a5,a6,a7,a8,a4⟩:lP),b6⟩:eG),none,0,[],aK⟩:aV),aK⟩:aD),false,rfl,(nW c0 ((congrArg cG hst.symm).trans c1) h3).trans (congrArg (Prod.mk _) (Ie c9)),⟨zq,zq,iX _ 0 (λk hk=>by have:=cC (s:=oO (d,i) k) (v:=dH (d,i) k) (s2:=(aW (oO (d,i) k)).2) rfl;omega),⟨zq,zq,zq,Fa j4 j6 j8 k0 k6,(λp hp=>by cases hp),cO,Nat.zero_le _⟩,cO⟩,u0.dr 4⟩
   ·have f5:=jC f4
    refine En (Lq (Dz (cZ (t:=(a:Int) == 2) (λf7=>?_) (λf7=>?_))))
    ·have e1:=iV f7
     refine En (Lg [1,3] (Lw (Zc (hJ Q c6 c2 (λw h=>hQ w (h.drop 3)) f3 d6) ?_)))
     rintro em en ⟨b7,e2,d0,u2,u3,rfl,k9,eo,ep,u4⟩
     refine Lo (Lw (Zu 1 2 (aV.cells (⟨a,o,b7,cN,none,0,[],aK⟩:aV)) u4 λes l0=>Lo (Ld (Lm (Lt (Ls (Dz (bX [2] (fE 0 1 0 76 (aV.cells (⟨a,o,b7,cN,none,0,[],aK⟩:aV)) l0 Hz) (Zu 2 13 (aD.cells (⟨q,0,eC (dH (d,i)) 11,(⟨a,o,b7,cN,none,0,[],aK⟩:aV),aK⟩:aD)) l0 λet u5=>Lo (Ld (Lt (Ls (Dz (ZD (eR [0,1,2,3,4,5,6,7,8,9,10,11,12,13] (.ef 14 (.rd 15 .done))) u5 λeu e3 ev=>Zp 0 7 [(0,.agg (aD.cells (⟨q,0,eC (dH (d,i)) 11,(⟨a,o,b7,cN,none,0,[],aK⟩:aV),aK⟩:aD))),(4,.gen [.bool d0])] [(0,[.prop (Array.size (aD.cells (⟨q,0,eC (dH (d,i)) 11,(⟨a,o,b7,cN,none,0,[],aK⟩:aV),aK⟩:aD))=121),.cells ⟨a1,0,none⟩ (aD.cells (⟨q,0,eC (dH (d,i)) 11,(⟨a,o,b7,cN,none,0,[],aK⟩:aV),aK⟩:aD))]),(4,[.cell ⟨u,1,none⟩ (.bool d0)])] (ak (aL zk (eM (e3.cells 2 0 rfl zk) aO)) (ak (bP (e3.cell 0 rfl zk) aO) gQ)) ?_))))))))))))))
     rcases Bool.eq_false_or_eq_true (!d0) with d1|d1
     ·refine py 134 true d1 (Zj (Hl 10 0 0 e3 Hz) (Zu 3 0 (aD.cells (⟨q,0,eC (dH (d,i)) 11,(⟨a,o,b7,cN,none,0,[],aK⟩:aV),aK⟩:aD)) e3 λew f8=>⟨fM (n:=[.cell ⟨u,0,none⟩ (.slice u2 e2.length u3)]) zk (bP (f8.cell 0 rfl zk) aO),En (bO (Lt (Le (Dz (mZ 3 (.bool ((e2.length:Int) == 0)) f8 ?_)))))⟩))
      have u7:=St.bJ f8 190 2 bS.cells
      have h3:vD a (b3,b5)=((⟨a,o,b7,cN,none,0,[],aK⟩:aV),(e2,d0)):=by unfold vD gL;rw [if_neg za,if_neg za,if_pos e1];unfold g2;simp only [c7,k9];rw [e1]
      have u8:=((((u7.pl 0).pl 4).pl 4).pl 4).pl 4
      exact⟨(⟨q,0,eC (dH (d,i)) 11,(⟨a,o,b7,cN,none,0,[],aK⟩:aV),aK⟩:aD),((e2.length:Int) == 0),rfl,(nW c0 ((congrArg cG hst.symm).trans c1) h3).trans (congrArg (Prod.mk _) (Ic d1)),⟨zq,zq,iX _ 0 (λk hk=>by have:=cC (s:=oO (d,i) k) (v:=dH (d,i) k) (s2:=(aW (oO (d,i) k)).2) rfl;omega),⟨zq,zq,zq,fZ,(λp hp=>by cases hp),cO,Nat.zero_le _⟩,cO⟩,u8.dr 4⟩
     ·refine py 134 false d1 (En (Lw (Zu 3 0 (aD.cells (⟨q,0,eC (dH (d,i)) 11,(⟨a,o,b7,cN,none,0,[],aK⟩:aV),aK⟩:aD)) e3 λex l1=>Lz (Le (Dz (mZ 3 (.bool false) l1 ?_))))))
      have v0:=St.bJ l1 190 2 bS.cells
      have h3:vD a (b3,b5)=((⟨a,o,b7,cN,none,0,[],aK⟩:aV),(e2,d0)):=by unfold vD gL;rw [if_neg za,if_neg za,if_pos e1];unfold g2;simp only [c7,k9];rw [e1]
      have v1:=((((v0.pl 0).pl 4).pl 4).pl 4).pl 4
      exact⟨(⟨q,0,eC (dH (d,i)) 11,(⟨a,o,b7,cN,none,0,[],aK⟩:aV),aK⟩:aD),false,rfl,(nW c0 ((congrArg cG hst.symm).trans c1) h3).trans (congrArg (Prod.mk _) (Ie d1)),⟨zq,zq,iX _ 0 (λk hk=>by have:=cC (s:=oO (d,i) k) (v:=dH (d,i) k) (s2:=(aW (oO (d,i) k)).2) rfl;omega),⟨zq,zq,zq,fZ,(λp hp=>by cases hp),cO,Nat.zero_le _⟩,cO⟩,v1.dr 4⟩
    ·have e1:=jC f7
     refine En (Lq (Dz (cZ (t:=(a:Int) == 4) (λf9=>?_) (λf9=>?_))))
     ·have e4:=iV f9
      refine En (Ls (Lg [1] (Lw (Zc (lX Q c6 c2 (λw h=>hQ w (h.drop 3)) f3 d6) ?_))))
      rintro ey v3 ⟨g0,g5,g7,l2,l3,rfl,g8,ez,v4,v5⟩
      refine BS (dW 2 g0 Hz) (En (Lt (Lq (Lb (Dz ?_)))))
      have hnr:=gT g8
      obtain⟨nb,rfl⟩:∃ m:Nat,g0=(m:Int):=⟨g0.toNat,za⟩
      have v6:=St.bJ v5 190 2 bS.cells
      have v7:=((v6.pl 1).pl 2).pl 2
      have v8:St w0 (Sl none 0 190 2 bS.cells ([]:List bS)::aC c5 (aV.cells (⟨a,o,0,cN,none,0,([]:List bS),aK⟩:aV)) 49::aC u #[.slice l2 g5.length l3,.bool g7] 115::aC a1 (aD.cells (⟨q,0,eC (dH (d,i)) 11,vC,aK⟩:aD)) 51::aC b1 (aD.cells aJ) 51::L) v3:=v7
      refine bH.loop (T:=Nat×(List Int)×Bool×(Option Addr)×Nat×(Option Addr)×Nat×(List bS)) (λgg=>[(2,zP b1 0),(3,.bool false),(4,zP u 0),(5,zP a1 0),(7,zP c5 0),(8,.int .i64 (nb:Nat)),(9,.int .i64 (gg.1:Nat))]) (λgg w=>(gg.1<=nb/\sx nb (g5,g7) []=sx (nb-gg.1) (gg.2.1,gg.2.2.1) gg.2.2.2.2.2.2.2/\bG Q gg.2.2.2.1 gg.2.1 gg.2.2.2.2.1/\(∀ p∈gg.2.2.2.2.2.2.2,(-9223372036854775808<=p.rp/\p.rp<=9223372036854775807)/\(0<=p.nm/\p.nm<=18446744073709551615))/\gg.2.2.2.2.2.2.2.length<=gg.1)/\St w0 (Sl gg.2.2.2.2.2.1 gg.2.2.2.2.2.2.1 190 2 bS.cells gg.2.2.2.2.2.2.2::aC c5 (aV.cells (⟨a,o,0,cN,gg.2.2.2.2.2.1,gg.2.2.2.2.2.2.1,gg.2.2.2.2.2.2.2,aK⟩:aV)) 49::aC u #[.slice gg.2.2.2.1 gg.2.1.length gg.2.2.2.2.1,.bool gg.2.2.1] 115::aC a1 (aD.cells (⟨q,0,eC (dH (d,i)) 11,vC,aK⟩:aD)) 51::aC b1 (aD.cells aJ) 51::L) w) (λgg=>nb-gg.1) (0,g5,g7,l2,l3,none,0,([]:List bS)) [2,3,4,5,7,8,9] zk ⟨⟨za,rfl,v4,λp hp=>(by cases hp),by simp only [List.length_nil];omega⟩,v8⟩ ?_
      rintro⟨ii,rrq,spq,azq,czq,a9,b0,a0⟩ fa ⟨hp,f1⟩
      dsimp only at hp f1
      refine Zs (Zs (bH.join (T:=Unit) (E:=λ_=>[(102,.bool ((decide ((ii:Int)<(nb:Nat))) && (!spq))),(2,zP b1 0),(3,.bool false),(4,zP u 0),(5,zP a1 0),(7,zP c5 0),(8,.int .i64 (nb:Nat)),(9,.int .i64 (ii:Nat))]) (F:=λ_ w=>St w0 (Sl a9 b0 190 2 bS.cells a0::aC c5 (aV.cells (⟨a,o,0,cN,a9,b0,a0,aK⟩:aV)) 49::aC u #[.slice azq rrq.length czq,.bool spq] 115::aC a1 (aD.cells (⟨q,0,eC (dH (d,i)) 11,vC,aK⟩:aD)) 51::aC b1 (aD.cells aJ) 51::L) w) ?_ ?_))
      ·refine Zg [] (Zr 0 4 [] ?_)
       rcases Bool.eq_false_or_eq_true (decide ((ii:Int)<(nb:Nat))) with c3|c3
       ·exact py 96 true c3 (lD (Hl 7 2 1 f1 Hz) (aN.pick [102,2,3,4,5,7,8,9] (S':=[(102,.bool (!spq)),(2,zP b1 0),(3,.bool false),(4,zP u 0),(5,zP a1 0),(7,zP c5 0),(8,.int .i64 (nb:Nat)),(9,.int .i64 (ii:Nat))]) zk (aN.eZ () (by first|rfl|(simp only [c3,Bool.not_true,Bool.not_false,Bool.true_or,Bool.false_or,Bool.true_and,Bool.false_and,Bool.or_true,Bool.or_false,Bool.and_true,Bool.and_false];done)|(simp [c3];done)) f1)))
       ·exact py 96 false c3 (En (bO (Dz (aN.pick [102,2,3,4,5,7,8,9] (S':=[(102,.bool false),(2,zP b1 0),(3,.bool false),(4,zP u 0),(5,zP a1 0),(7,zP c5 0),(8,.int .i64 (nb:Nat)),(9,.int .i64 (ii:Nat))]) zk (aN.eZ () (by first|rfl|(simp only [c3,Bool.not_true,Bool.not_false,Bool.true_or,Bool.false_or,Bool.true_and,Bool.false_and,Bool.or_true,Bool.or_false,Bool.and_true,Bool.and_false];done)|(simp [c3];done)) f1)))))
      intro _ fb g9
      refine Zt (cZ (t:=(decide ((ii:Int)<(nb:Nat))) && (!spq)) (λd7=>?_) (λd7=>?_))
      ·have w1:=(Bool.and_eq_true_iff.1 d7).1
       have w3:(!spq)=true:=(Bool.and_eq_true_iff.1 d7).2
       have hsf:spq=false:=by simpa using (Bool.and_eq_true_iff.1 d7).2
       have hii:ii<nb:=by have:=of_decide_eq_true (Bool.and_eq_true_iff.1 d7).1;omega
       refine En (Lk (Lt (Ls (Lb (Ls (Lg [1,4,5] (Lw (Zc (lX Q rrq spq (λw h=>hQ w (h.drop 4)) hp.2.2.1 (g9.pl 2)) ?_))))))))
       rintro fe ff ⟨b9,w6,w7,fg,fh,rfl,w8,fi,w9,x0⟩
       refine K8 (dW 2 b9 Hz) (eN (bS.cells cD) x0 λx1 fj x2=>Lo (Dz (Zu 0 0 (bS.cells (⟨b9,0⟩:bS)) x2 λfk x3=>Lo (Ld (Lt (Ls (Lg [1,3] (Lw (Zc (hJ Q w6 w7 (λw h=>hQ w (h.drop 5)) w9 (x3.pl 1)) ?_)))))))))
       rintro fl fm ⟨c4,l4,l5,l6,l7,rfl,x5,fo,x6,x7⟩
       refine Lo (Lw (Zu 1 1 (bS.cells (⟨b9,c4⟩:bS)) x7 λfp h0=>Lo (Ld (Lt (Dz (bX [3,4,6] (Hl 1 3 43 h0 (fE 2 1 0 2 (bS.cells (⟨b9,c4⟩:bS)) h0 Hz)) (aU.cT rfl zk (t:=47) (e:=190) (n:=1) (ps:=[(0,.agg (bS.cells (⟨b9,c4⟩:bS)))]) zk zk (ti:=Tryz.t190) (z:=.agg (bS.cells cD)) zk zk zf zf (cs:=bS.cells (⟨b9,c4⟩:bS)) zk h0 λx8 x9 y0 y1=>?_)))))))
       have y2:St w0 (Sl (some ⟨x8,0,none⟩) 1 190 2 bS.cells ([((⟨b9,c4⟩:bS):bS)])::aC u #[.slice l6 l4.length l7,.bool l5] 115::aC x1 (bS.cells (⟨b9,c4⟩:bS)) 190::Sl a9 b0 190 2 bS.cells a0::aC c5 (aV.cells (⟨a,o,0,cN,a9,b0,a0,aK⟩:aV)) 49::aC a1 (aD.cells (⟨q,0,eC (dH (d,i)) 11,vC,aK⟩:aD)) 51::aC b1 (aD.cells aJ) 51::L) x9:=St.lS (l:=[((⟨b9,c4⟩:bS):bS)]) (f:=bS.cells) y0 y1 vu.size zl zk
       refine Lo (Dz (oV HP vu cD (y2.pl 3) zj λl8 l9 fq y4=>Lo (Lw (Zu 4 43 (aV.cells (⟨a,o,0,cN,l8,l9,(a0++([((⟨b9,c4⟩:bS):bS)])),aK⟩:aV)) y4 λfs y5=>Lo (Ld (Lm (Lt (Dz (cS (dW 1 ((ii:Nat)+1) Hz) ?_)))))))))
       have y6:=((((((y5.pl 6).pl 6).pl 4).pl 6).pl 4).pl 6).pl 6
       exact aN.back (ii+1,l4,l5,l6,l7,l8,l9,(a0++[(⟨b9,c4⟩:bS)])) [2,3,4,5,7,8,9] zk (by show nb-(ii+1)<nb-ii;omega) ⟨⟨za,by rw [hp.2.1,show nb-ii=(nb-(ii+1))+1 from by omega,rE hsf w8 x5],x6,λp y8=>(List.mem_append.1 y8).elim (hp.2.2.2.1 p) (λh9=>by rw [List.mem_singleton.1 h9];exact⟨zq,zq⟩),by show(a0++[_]).length<=ii+1;have:=hp.2.2.2.2;simp only [List.length_append,List.length_cons,List.length_nil];omega⟩,y6.dr 2⟩
      ·have hend:nb-ii=0\/spq=true:=by
        rcases Bool.and_eq_false_iff.1 d7 with h9|h9
        ·have:=of_decide_eq_false h9;exact .inl za
        ·exact .inr (by simpa using h9)
       refine Zx (aN.cJ (aN.fJ (aN.iT (Zm (Zt (Zs (bX [2] (fE 0 1 0 76 (aV.cells (⟨a,o,0,cN,a9,b0,a0,aK⟩:aV)) g9 Hz) (Zu 3 13 (aD.cells (⟨q,0,eC (dH (d,i)) 11,(⟨a,o,0,cN,a9,b0,a0,aK⟩:aV),aK⟩:aD)) g9 λft y9=>Lo (Ld (Lt (Ls (Dz (ZD (eR [0,1,2,3,4,5,6,7,8,9,10,11,12,13] (.ef 14 (.rd 15 .done))) y9 λfu e5 fv=>Zp 0 7 [(0,.agg (aD.cells (⟨q,0,eC (dH (d,i)) 11,(⟨a,o,0,cN,a9,b0,a0,aK⟩:aV),aK⟩:aD))),(4,.gen [.bool spq])] [(0,[.prop (Array.size (aD.cells (⟨q,0,eC (dH (d,i)) 11,(⟨a,o,0,cN,a9,b0,a0,aK⟩:aV),aK⟩:aD))=121),.cells ⟨a1,0,none⟩ (aD.cells (⟨q,0,eC (dH (d,i)) 11,(⟨a,o,0,cN,a9,b0,a0,aK⟩:aV),aK⟩:aD))]),(4,[.cell ⟨u,1,none⟩ (.bool spq)])] (ak (aL zk (eM (e5.cells 3 0 rfl zk) aO)) (ak (bP (e5.cell 2 rfl zk) aO) gQ)) ?_)))))))))))))
       rcases Bool.eq_false_or_eq_true (!spq) with d2|d2
       ·refine py 134 true d2 (Zj (Hl 10 2 0 e5 Hz) (Zu 4 0 (aD.cells (⟨q,0,eC (dH (d,i)) 11,(⟨a,o,0,cN,a9,b0,a0,aK⟩:aV),aK⟩:aD)) e5 λfw h1=>⟨fM (n:=[.cell ⟨u,0,none⟩ (.slice azq rrq.length czq)]) zk (bP (h1.cell 2 rfl zk) aO),En (bO (Lt (Le (Dz (mZ 4 (.bool ((rrq.length:Int) == 0)) h1 ?_)))))⟩))
        have h3:vD a (b3,b5)=((⟨a,o,0,cN,none,0,a0,aK⟩:aV),(rrq,spq)):=by unfold vD gL;rw [if_neg za,if_neg za,if_neg za,if_pos e4];unfold g4;simp only [c7,g8,Int.toNat_natCast];rw [hp.2.1,pd hend,e4]
        have z1:=((((h1.pl 0).pl 4).pl 4).pl 4).pl 4
        exact⟨(⟨q,0,eC (dH (d,i)) 11,(⟨a,o,0,cN,a9,b0,a0,aK⟩:aV),aK⟩:aD),((rrq.length:Int) == 0),rfl,(nW c0 ((congrArg cG hst.symm).trans c1) h3).trans (congrArg (Prod.mk _) (Ic d2)),⟨zq,zq,iX _ 0 (λk hk=>by have:=cC (s:=oO (d,i) k) (v:=dH (d,i) k) (s2:=(aW (oO (d,i) k)).2) rfl;omega),⟨zq,zq,zq,fZ,hp.2.2.2.1,cO,(by show a0.length<=_;have:=hp.2.2.2.2;omega)⟩,cO⟩,z1.dr 4⟩
       ·refine py 134 false d2 (En (Lw (Zu 4 0 (aD.cells (⟨q,0,eC (dH (d,i)) 11,(⟨a,o,0,cN,a9,b0,a0,aK⟩:aV),aK⟩:aD)) e5 λfx m0=>Lz (Le (Dz (mZ 4 (.bool false) m0 ?_))))))
        have h3:vD a (b3,b5)=((⟨a,o,0,cN,none,0,a0,aK⟩:aV),(rrq,spq)):=by unfold vD gL;rw [if_neg za,if_neg za,if_neg za,if_pos e4];unfold g4;simp only [c7,g8,Int.toNat_natCast];rw [hp.2.1,pd hend,e4]
        have z3:=((((m0.pl 0).pl 4).pl 4).pl 4).pl 4
        exact⟨(⟨q,0,eC (dH (d,i)) 11,(⟨a,o,0,cN,a9,b0,a0,aK⟩:aV),aK⟩:aD),false,rfl,(nW c0 ((congrArg cG hst.symm).trans c1) h3).trans (congrArg (Prod.mk _) (Ie d2)),⟨zq,zq,iX _ 0 (λk hk=>by have:=cC (s:=oO (d,i) k) (v:=dH (d,i) k) (s2:=(aW (oO (d,i) k)).2) rfl;omega),⟨zq,zq,zq,fZ,hp.2.2.2.1,cO,(by show a0.length<=_;have:=hp.2.2.2.2;omega)⟩,cO⟩,z3.dr 4⟩
     ·have e4:=jC f9
      refine En (Lq (Dz (cZ (t:=(a:Int) == 6) (λh2=>?_) (λh2=>?_))))
      ·have z5:=iV h2
       exfalso;omega
      ·have z5:=jC h2
       refine Zk (Zm (Zt (Zs (bX [2] (fE 0 1 0 76 (aV.cells (⟨a,o,0,cN,none,0,[],aK⟩:aV)) d6 Hz) (Zu 2 13 (aD.cells (⟨q,0,eC (dH (d,i)) 11,(⟨a,o,0,cN,none,0,[],aK⟩:aV),aK⟩:aD)) d6 λfy z6=>Lo (Ld (Lt (Ls (Dz (ZD (eR [0,1,2,3,4,5,6,7,8,9,10,11,12,13] (.ef 14 (.rd 15 .done))) z6 λfz e6 ga=>Zp 0 7 [(0,.agg (aD.cells (⟨q,0,eC (dH (d,i)) 11,(⟨a,o,0,cN,none,0,[],aK⟩:aV),aK⟩:aD))),(4,.gen [.bool c2])] [(0,[.prop (Array.size (aD.cells (⟨q,0,eC (dH (d,i)) 11,(⟨a,o,0,cN,none,0,[],aK⟩:aV),aK⟩:aD))=121),.cells ⟨a1,0,none⟩ (aD.cells (⟨q,0,eC (dH (d,i)) 11,(⟨a,o,0,cN,none,0,[],aK⟩:aV),aK⟩:aD))]),(4,[.cell ⟨u,1,none⟩ (.bool c2)])] (ak (aL zk (eM (e6.cells 2 0 rfl zk) aO)) (ak (bP (e6.cell 0 rfl zk) aO) gQ)) ?_))))))))))
       rcases Bool.eq_false_or_eq_true (!c2) with d3|d3
       ·refine py 134 true d3 ?_
        have z7:=jV d3
        refine Zj (Hl 10 0 0 e6 Hz) (Zu 3 0 (aD.cells (⟨q,0,eC (dH (d,i)) 11,(⟨a,o,0,cN,none,0,[],aK⟩:aV),aK⟩:aD)) e6 λgb h4=>⟨fM (n:=[.cell ⟨u,0,none⟩ (.slice o4 c6.length o5)]) zk (bP (h4.cell 0 rfl zk) aO),En (bO (Lt (Le (Dz (mZ 3 (.bool ((c6.length:Int) == 0)) h4 ?_)))))⟩)
        have z8:=St.bJ h4 190 2 bS.cells
        have h3:vD a (b3,b5)=((⟨a,o,0,cN,none,0,[],aK⟩:aV),(c6,c2)):=by unfold vD gL;rw [if_neg za,if_neg za,if_neg za,if_neg za,if_neg za];unfold g3;simp only [c7]
        have z9:=((((z8.pl 0).pl 4).pl 4).pl 4).pl 4
        exact⟨(⟨q,0,eC (dH (d,i)) 11,(⟨a,o,0,cN,none,0,[],aK⟩:aV),aK⟩:aD),((c6.length:Int) == 0),rfl,(nW c0 ((congrArg cG hst.symm).trans c1) h3).trans (congrArg (Prod.mk _) (Ic d3)),⟨zq,zq,iX _ 0 (λk hk=>by have:=cC (s:=oO (d,i) k) (v:=dH (d,i) k) (s2:=(aW (oO (d,i) k)).2) rfl;omega),⟨zq,zq,zq,fZ,(λp hp=>by cases hp),cO,Nat.zero_le _⟩,cO⟩,z9.dr 4⟩
       ·refine py 134 false d3 ?_
        have z7:=jN d3
        refine En (Lw (Zu 3 0 (aD.cells (⟨q,0,eC (dH (d,i)) 11,(⟨a,o,0,cN,none,0,[],aK⟩:aV),aK⟩:aD)) e6 λgc m1=>Lz (Le (Dz (mZ 3 (.bool false) m1 ?_)))))
        have ab:=St.bJ m1 190 2 bS.cells
        have h3:vD a (b3,b5)=((⟨a,o,0,cN,none,0,[],aK⟩:aV),(c6,c2)):=by unfold vD gL;rw [if_neg za,if_neg za,if_neg za,if_neg za,if_neg za];unfold g3;simp only [c7]
        have ae:=((((ab.pl 0).pl 4).pl 4).pl 4).pl 4
        exact⟨(⟨q,0,eC (dH (d,i)) 11,(⟨a,o,0,cN,none,0,[],aK⟩:aV),aK⟩:aD),false,rfl,(nW c0 ((congrArg cG hst.symm).trans c1) h3).trans (congrArg (Prod.mk _) (Ie d3)),⟨zq,zq,iX _ 0 (λk hk=>by have:=cC (s:=oO (d,i) k) (v:=dH (d,i) k) (s2:=(aW (oO (d,i) k)).2) rfl;omega),⟨zq,zq,zq,fZ,(λp hp=>by cases hp),cO,Nat.zero_le _⟩,cO⟩,ae.dr 4⟩
  ·have o2:=sR d8
   have h6:a=6:=by simpa using d8
   refine Zk (Zt (Zs (Zs (cS (Hl 1 0 0 f0 Hz) (En (Lt (Lb (Lq (Dz (cZ (t:=(a:Int) == 1) (λh5=>?_) (λh5=>?_)))))))))))
   ·have ag:=iV h5
    exfalso;omega
   ·have ag:=jC h5
    refine En (Lq (Dz (cZ (t:=(a:Int) == 2) (λh7=>?_) (λh7=>?_))))
    ·have ah:=iV h7
     exfalso;omega
    ·have ah:=jC h7
     refine En (Lq (Dz (cZ (t:=(a:Int) == 4) (λh8=>?_) (λh8=>?_))))
     ·have ai:=iV h8
      exfalso;omega
     ·have ai:=jC h8
      refine En (Lq (Dz (cZ (t:=(a:Int) == 6) (λi0=>?_) (λi0=>?_))))
      ·have e7:=iV i0
       refine En (Ls (Lg [1,3] (Lw (Zc (hJ Q b3 b5 (λw h=>hQ w (h.drop 3)) j2 (f0.pl 1)) ?_))))
       rintro gd ge ⟨b2,al,an,gf,gh,rfl,m2,gi,ao,ap⟩
       refine Lo (Lw (Zu 1 2 (aV.cells (⟨a,0,b2,cN,none,0,[],aK⟩:aV)) ap λgj aq=>Lo (Ld (Lt (Lg [1,3] (Lw (Zc (sw Q al an (λw h=>hQ w (h.drop 3)) ao aq) ?_)))))))
       rintro gk gl ⟨b8,e8,d4,ar,au,rfl,m3,m4,gm,av⟩
       refine Lo (Lw (Zu 1 44 (aV.cells (⟨a,0,b2,cN,none,0,[],b8⟩:aV)) av λgn m5=>Lo (Ld (Lm (Lt (Ls (Dz (bX [2] (fE 0 1 0 76 (aV.cells (⟨a,0,b2,cN,none,0,[],b8⟩:aV)) m5 Hz) (Zu 2 13 (aD.cells (⟨q,0,eC (dH (d,i)) 11,(⟨a,0,b2,cN,none,0,[],b8⟩:aV),aK⟩:aD)) m5 λgo aw=>Lo (Ld (Lt (Ls (Dz (ZD (eR [0,1,2,3,4,5,6,7,8,9,10,11,12,13] (.ef 14 (.rd 15 .done))) aw λgp e9 gq=>Zp 0 7 [(0,.agg (aD.cells (⟨q,0,eC (dH (d,i)) 11,(⟨a,0,b2,cN,none,0,[],b8⟩:aV),aK⟩:aD))),(4,.gen [.bool d4])] [(0,[.prop (Array.size (aD.cells (⟨q,0,eC (dH (d,i)) 11,(⟨a,0,b2,cN,none,0,[],b8⟩:aV),aK⟩:aD))=121),.cells ⟨a1,0,none⟩ (aD.cells (⟨q,0,eC (dH (d,i)) 11,(⟨a,0,b2,cN,none,0,[],b8⟩:aV),aK⟩:aD))]),(4,[.cell ⟨u,1,none⟩ (.bool d4)])] (ak (aL zk (eM (e9.cells 2 0 rfl zk) aO)) (ak (bP (e9.cell 0 rfl zk) aO) gQ)) ?_))))))))))))))
       rcases Bool.eq_false_or_eq_true (!d4) with d5|d5
       ·refine py 134 true d5 (Zj (Hl 10 0 0 e9 Hz) (Zu 3 0 (aD.cells (⟨q,0,eC (dH (d,i)) 11,(⟨a,0,b2,cN,none,0,[],b8⟩:aV),aK⟩:aD)) e9 λgr i1=>⟨fM (n:=[.cell ⟨u,0,none⟩ (.slice ar e8.length au)]) zk (bP (i1.cell 0 rfl zk) aO),En (bO (Lt (Le (Dz (mZ 3 (.bool ((e8.length:Int) == 0)) i1 ?_)))))⟩))
        have ay:=St.bJ i1 190 2 bS.cells
        have h3:vD a (b3,b5)=((⟨a,0,b2,cN,none,0,[],b8⟩:aV),(e8,d4)):=by unfold vD gL;rw [if_neg za,if_neg za,if_neg za,if_neg za,if_pos e7];unfold g6;simp only [m2,m3];rw [e7]
        have az:=((((ay.pl 0).pl 4).pl 4).pl 4).pl 4
        exact⟨(⟨q,0,eC (dH (d,i)) 11,(⟨a,0,b2,cN,none,0,[],b8⟩:aV),aK⟩:aD),((e8.length:Int) == 0),rfl,(nW c0 ((congrArg cG hst.symm).trans c1) h3).trans (congrArg (Prod.mk _) (Ic d5)),⟨zq,zq,iX _ 0 (λk hk=>by have:=cC (s:=oO (d,i) k) (v:=dH (d,i) k) (s2:=(aW (oO (d,i) k)).2) rfl;omega),⟨zq,zq,zq,fZ,(λp hp=>by cases hp),m4,Nat.zero_le _⟩,cO⟩,az.dr 4⟩
       ·refine py 134 false d5 (En (Lw (Zu 3 0 (aD.cells (⟨q,0,eC (dH (d,i)) 11,(⟨a,0,b2,cN,none,0,[],b8⟩:aV),aK⟩:aD)) e9 λgs m6=>Lz (Le (Dz (mZ 3 (.bool false) m6 ?_))))))
        have bb:=St.bJ m6 190 2 bS.cells
        have h3:vD a (b3,b5)=((⟨a,0,b2,cN,none,0,[],b8⟩:aV),(e8,d4)):=by unfold vD gL;rw [if_neg za,if_neg za,if_neg za,if_neg za,if_pos e7];unfold g6;simp only [m2,m3];rw [e7]
        have bc:=((((bb.pl 0).pl 4).pl 4).pl 4).pl 4
        exact⟨(⟨q,0,eC (dH (d,i)) 11,(⟨a,0,b2,cN,none,0,[],b8⟩:aV),aK⟩:aD),false,rfl,(nW c0 ((congrArg cG hst.symm).trans c1) h3).trans (congrArg (Prod.mk _) (Ie d5)),⟨zq,zq,iX _ 0 (λk hk=>by have:=cC (s:=oO (d,i) k) (v:=dH (d,i) k) (s2:=(aW (oO (d,i) k)).2) rfl;omega),⟨zq,zq,zq,fZ,(λp hp=>by cases hp),m4,Nat.zero_le _⟩,cO⟩,bc.dr 4⟩
      ·have e7:=jC i0
       exfalso;omega
end
theorem J6 {r:eG}{e:List Int}(h:jE r=true) (hr:vv r):MP (uc r++(r.tg.toList++e),false)=(r,(e,false)):=by
 have a:=hr.kd
 have b:=hr.am
 unfold jE at h
 simp only [Bool.and_eq_true,decide_eq_true_eq] at h
 obtain⟨⟨⟨⟨⟨d,f⟩,i⟩,o⟩,q⟩,u⟩:=h
 unfold MP uc
 have ec:IntKind.u8.wrap r.cl=r.cl:=yw za
 simp only [List.append_assoc,List.cons_append,List.nil_append,ec]
 rw [kI za]
 simp only []
 rw [kI za]
 simp only []
 rw [eV za]
 simp only []
 rw [eV za]
 simp only []
 rw [mQ za za]
 simp only []
 rw [mQ za za]
 simp only []
 rw [mQ za za]
 simp only []
 rw [mQ za za]
 simp only []
 rw [tr]
theorem J7 {x:aV}(h:kH x=true) (hx:kN x):vD x.kd (oo x,false)=(qm x,([],false)):=by
 have a:=tt h hx
 unfold vD
 by_cases b:x.kd=1
 ·obtain⟨hk,hm,hq⟩:=lH h
  have f:=hx.vw
  unfold lG at hm
  rw [if_pos b] at hm
  have e:=J6 (e:=[]) hm hx.rq
  rw [List.append_nil] at e
  have d:=H7 (e:=[]) hm hx.rq
  rw [List.append_nil] at d
  unfold gL oo at a
  rw [if_pos b,if_pos b] at a
  unfold g1 E2 at a
  simp only [] at a
  rw [eV za] at a
  simp only [d] at a
  rw [if_pos b]
  unfold Ng oo
  rw [if_pos b]
  unfold E2
  simp only []
  rw [eV za]
  simp only [e]
  rw [b]
  exact a
 ·rw [if_neg b];exact a
def BG (i n:Int) (b:List Int) (t:bI):aD×Int :=
 let m:aD:=⟨(J5 b).1.og,n,(J5 b).1.dp,(J5 b).1.bd,t⟩
 if (J5 b).2=false then (aJ,5) else if m.og≠i then (aJ,5) else if dN m=false then (aJ,5) else if jU m=b then (m,0) else (aJ,5)
theorem Fb {m:aD}(h:dN m=true) (hm:dw m):cG (kX m,false)=(m.og,(m.dp.toList.flatMap wd++(m.bd.kd::oo m.bd),false))/\cG (oO (m.dp.toList.flatMap wd++(m.bd.kd::oo m.bd),false) 11)=(m.bd.kd,(oo m.bd,false)):=by
 obtain⟨a,b⟩:=pf h
 obtain⟨hk,hmb,hq⟩:=lH (kY h)
 exact⟨by rw [DK h];exact kI za,by rw [E8 hm.dp];exact kI za⟩
theorem J8 {m:aD}(h:dN m=true) (hm:dw m):J5 (kX m)=(⟨m.og,0,m.dp,qm m.bd,aK⟩,true):=by
 obtain⟨a,b⟩:=Fb h hm
 rw [nW a b (J7 (kY h) hm.bd),AN hm.dp]
 rfl
theorem vE {m:aD}(h:dN m=true):jU m=kX m:=if_pos h
theorem Fc {m:aD}(h:dN m=true) (hm:dw m):BG m.og m.nr (kX m) m.tg=(gM m,0):=by
 have e:(⟨m.og,m.nr,m.dp,qm m.bd,m.tg⟩:aD)=gM m:=rfl
 have hmc:dN (gM m)=true:=h
 unfold BG
 rw [J8 h hm]
 simp only [e]
 rw [if_neg zf,if_neg (by exact λh=>h rfl),if_neg (by rw [hmc];decide),if_pos (by rw [AL,vE h])]
theorem Fe {m:aD}(h:dN m=true) (hm:dw m):ofM m.og m.nr (kX m) m.tg=(gM m,0):=by
 obtain⟨a,b⟩:=Fb h hm
 obtain⟨hk,hmb,hq⟩:=lH (kY h)
 rw [uf a b hk rfl (tt (kY h) hm.bd),AN hm.dp]
 simp only []
 rw [if_neg zf,if_neg zf,if_pos ?_]
 ·rfl
 ·show jU (gM m)=_
  rw [AL,vE h]
theorem L9 {i n:Int}{b:List Int}{t:bI}{m:aD}(h:BG i n b t=(m,0)):dN m=true/\kX m=b/\m.og=i/\m.nr=n/\m.tg=t:=by
 unfold BG at h
 simp only [] at h
 split at h
 ·exact absurd (Prod.mk.inj h).2 zf
 split at h
 ·exact absurd (Prod.mk.inj h).2 zf
 split at h
 ·exact absurd (Prod.mk.inj h).2 zf
 split at h
 ·rename_i f a d e
  obtain rfl:=(Prod.mk.inj h).1
  have hm:=(Bool.not_eq_false _).mp d
  exact⟨hm,by rw [<- vE hm];exact e,by simpa using a,rfl,rfl⟩
 ·exact absurd (Prod.mk.inj h).2 zf
theorem J9 {i n:Int}{b:List Int}{t:bI}{m:aD}(h:ofM i n b t=(m,0)):dN m=true/\kX m=b/\m.og=i/\m.nr=n/\m.tg=t:=by
 cases b with
 | nil=>exact absurd (Prod.mk.inj ((show ofM i n [] t=(aJ,5) from by kernel_rfl).symm.trans h)).2 zf
 | cons y b =>
  unfold ofM at h
  simp only [] at h
  split at h
  ·exact absurd (Prod.mk.inj h).2 zf
  split at h
  ·exact absurd (Prod.mk.inj h).2 zf
  split at h
  ·exact absurd (Prod.mk.inj h).2 zf
  split at h
  ·exact absurd (Prod.mk.inj h).2 zf
  split at h
  ·rename_i f d o q a
   obtain rfl:=(Prod.mk.inj h).1
   have hm:dN ⟨_,n,_,_,t⟩=true:=Classical.byContradiction λe=>by
    rw [show jU _=[] from if_neg e] at a
    cases a
   exact⟨hm,by rw [<- vE hm];exact a,by simpa using d,rfl,rfl⟩
  ·exact absurd (Prod.mk.inj h).2 zf
theorem Ka (i n:Int) (b:List Int) (t:bI):(BG i n b t).2=0\/BG i n b t=(aJ,5):=by
 unfold BG
 simp only []
 repeat' split
 all_goals first|exact .inl rfl|exact .inr rfl
theorem Kb (i n:Int) (b:List Int) (t:bI):(ofM i n b t).2=0\/ofM i n b t=(aJ,5):=by
 unfold ofM
 simp only []
 repeat' split
 all_goals first|exact .inl rfl|exact .inr rfl
theorem rX {n:Nat}{s:CS}(h:gJ s.1):gJ (tk n s).2.1:=by
 unfold tk
 split
 ·exact h
 ·exact λz hz=>h z (List.mem_of_mem_drop hz)
theorem Ff {most:Int}{s:CS}(h:gJ s.1):gJ (mN most s).2.1:=by
 unfold mN
 simp only []
 split
 ·exact h
 ·exact rX (s:=(_,_)) (rX h)
theorem Ig {s:CS}(h:gJ s.1):∀ k,gJ (oO s k).1
 | 0=>h
 | k+1=>rX (Ig h k)
theorem Ma {s:CS}(h:gJ s.1):vv (MB s).1:=by
 have b:gJ (cG s).2.1:=rX h
 have d:gJ (cG (cG s).2).2.1:=rX b
 have r1:=gT (s:=s) rfl
 have r2:=gT (s:=(cG s).2) rfl
 have r3:=cC (s:=(cG (cG s).2).2) rfl
 have a:=cC (s:=(aW (cG (cG s).2).2).2) rfl
 exact⟨⟨Int.le_trans zf r1.1,Int.le_trans (Int.le_of_lt r1.2) zf⟩,⟨r3.1,Int.le_of_lt_add_one r3.2⟩,⟨r2.1,Int.le_of_lt_add_one r2.2⟩,⟨a.1,Int.le_of_lt_add_one a.2⟩,te (lW (Ff (Ff (Ff (Ff (rX (rX d)))))))⟩
theorem Fg:∀ (n:Nat) (s:CS) (q:List bS),(∀ p∈q,(-9223372036854775808<=p.rp/\p.rp<=9223372036854775807)/\(0<=p.nm/\p.nm<=18446744073709551615))->(∀ p∈(sx n s q).1,(-9223372036854775808<=p.rp/\p.rp<=9223372036854775807)/\(0<=p.nm/\p.nm<=18446744073709551615))/\(sx n s q).1.length<=q.length+n
 | 0,_,_,h=>⟨h,Nat.le_refl _⟩
 | n+1,s,q,h=>by
  unfold sx
  split
  ·exact⟨h,Nat.le_add_right _ _⟩
  ·have r1:=gT (s:=s) rfl
   have r2:=cC (s:=(cG s).2) rfl
   obtain⟨k1,k2⟩:=Fg n (aW (cG s).2).2 (q++[⟨(cG s).1,(aW (cG s).2).1⟩]) λp hp=>(List.mem_append.1 hp).elim (h p) λh9=>by
    rw [List.mem_singleton.1 h9]
    exact⟨⟨Int.le_trans zf r1.1,Int.le_trans (Int.le_of_lt r1.2) zf⟩,⟨r2.1,Int.le_of_lt_add_one r2.2⟩⟩
   exact⟨k1,by rw [List.length_append,List.length_singleton] at k2;omega⟩
theorem Kc {kd:Int}{s:CS}(hk:0<=kd/\kd<=255) (h:gJ s.1):kN (gL kd s).1:=by
 have r1:=cC (s:=s) rfl
 have r2:=cC (s:=(aW s).2) rfl
 have b:gJ (aW s).2.1:=rX h
 have a:(0:Int)<=0/\(0:Int)<=18446744073709551615:=zf
 unfold gL
 split
 ·exact⟨(show(0:Int)<=1/\(1:Int)<=255 by decide),⟨r1.1,Int.le_of_lt_add_one r1.2⟩,a,Ma b,(λp hp=>by cases hp),cO,Nat.zero_le _⟩
 split
 ·exact⟨(show(0:Int)<=2/\(2:Int)<=255 by decide),⟨r1.1,Int.le_of_lt_add_one r1.2⟩,⟨r2.1,Int.le_of_lt_add_one r2.2⟩,fZ,(λp hp=>by cases hp),cO,Nat.zero_le _⟩
 split
 ·have r3:0<=(cG (aW s).2).1/\(cG (aW s).2).1<256:=gT rfl
  obtain⟨d,e⟩:=Fg (cG (aW s).2).1.toNat (cG (aW s).2).2 [] λp hp=>by cases hp
  exact⟨(show(0:Int)<=4/\(4:Int)<=255 by decide),⟨r1.1,Int.le_of_lt_add_one r1.2⟩,a,fZ,d,cO,Nat.le_trans e (by show 0+(cG (aW s).2).1.toNat<=_;omega)⟩
 split
 ·exact⟨(show(0:Int)<=6/\(6:Int)<=255 by decide),a,⟨r1.1,Int.le_of_lt_add_one r1.2⟩,fZ,(λp hp=>by cases hp),te (lW b),Nat.zero_le _⟩
 ·exact⟨hk,⟨r1.1,Int.le_of_lt_add_one r1.2⟩,a,fZ,(λp hp=>by cases hp),cO,Nat.zero_le _⟩
theorem wE {i n:Int}{b:List Int}{t:bI}(hb:gJ b) (hn:0<=n/\n<=18446744073709551615) (ht:∀ z∈t.toList,0<=z/\z<256):dw (ofM i n b t).1:=by
 have a:gJ (cG (b,false)).2.1:=rX (s:=(b,false)) hb
 have r1:=gT (s:=(b,false)) rfl
 have r2:=gT (s:=oO (cG (b,false)).2 11) rfl
 unfold ofM
 simp only []
 repeat' split
 all_goals first|exact kA|exact⟨⟨Int.le_trans zf r1.1,Int.le_trans (Int.le_of_lt r1.2) zf⟩,hn,iX _ 0 (λk hk=>by have:=cC (s:=oO (cG (b,false)).2 k) rfl;exact⟨this.1,Int.le_of_lt_add_one this.2⟩),Kc ⟨r2.1,Int.le_of_lt_add_one r2.2⟩ (rX (Ig a 11)),ht⟩
theorem tu {m:aD}(h:dw m):dw (gM m):=⟨h.og,h.nr,h.dp,⟨h.bd.kd,h.bd.vw,h.bd.k,h.bd.rq,h.bd.ql,h.bd.dg,h.bd.qn⟩,h.tg⟩
theorem wF {i n:Int}{b:List Int}{t:bI}(hR:dw (BG i n b t).1) (hM:dw (ofM i n b t).1):BG i n b t=ofM i n b t:=by
 rcases Ka i n b t with w|w
 ·obtain⟨a,d,e,f,o⟩:=L9 (show BG i n b t=((BG i n b t).1,0) by rw [<- w])
  have q:=Fe a hR
  rw [d,e,f,o] at q
  have u:=Fc a hR
  rw [d,e,f,o] at u
  exact u.trans q.symm
 rcases Kb i n b t with x|x
 ·obtain⟨a,d,e,f,o⟩:=J9 (show ofM i n b t=((ofM i n b t).1,0) by rw [<- x])
  have q:=Fe a hM
  rw [d,e,f,o] at q
  have u:=Fc a hM
  rw [d,e,f,o] at u
  exact u.trans q.symm
 ·rw [w,x]
section
variable {w0 w : World} {L : List cA} {ad : Option Addr} {cb : Nat}
theorem qE {i n:Int}{b:List Int}{t:bI}{m7 m:aD}{bb:Bool}(h:J5 b=(gM m7,bb)) (hm:m=⟨m7.og,n,m7.dp,m7.bd,t⟩):BG i n b t=if bb=false then (aJ,5) else if m.og≠i then (aJ,5) else if dN m=false then (aJ,5) else if jU m=b then (gM m,0) else (aJ,5):=by
 subst hm
 unfold BG
 rw [h]
 rfl
theorem Ih i n Q b t (hQ:∀ w,St w0 L w->Q.holds w) (hq:bG Q ad b cb) (hn:0<=n/\n<=18446744073709551615) (ht:∀ z∈t.toList,0<=z/\z<256) (hs:St w0 L w):Cs Tryz.prog 119 #[.int .i64 i,.int .u64 n,.slice ad b.length cb,.agg (bI.cells t)] w λrv w'=>∃ mm2 ee2,rv=.tuple #[.agg (aD.cells mm2),.int .i64 ee2]/\ofM i n b t=(gM mm2,ee2)/\dw mm2/\St w0 (Sl mm2.bd.qa mm2.bd.qc 190 2 bS.cells mm2.bd.ql::L) w':=by
 refine cL Tryz.func119 Tryz.ntmps119 (En (Ls (Lg [0,1] (Dz (hG (bI.cells t) hs λb1 w2 b5=>Lo (Dz (eN (aD.cells aJ) b5 λb4 w5 b6=>Lz (Ls (Lg [1,5,6] (Lw (Zc (DL Q b (λw h=>hQ w (h.drop 2)) hq b6) ?_)))))))))))
 rintro e2 e3 ⟨a,a3,rfl,x,a4,b7⟩
 refine Lo (Lw (eN (aD.cells aJ) b7 λa6 e4 b8=>Lo (Dz (Zu 0 0 (aD.cells a) b8 λe5 b9=>Lz (Ls (Lg [2] (Lw (Zu 0 1 (aD.cells (⟨a.og,n,a.dp,a.bd,a.tg⟩:aD)) b9 λe6 a7=>Lo (Ld (Lt (Ls (Dz (bX [2] (fE 0 3 0 32 (bI.cells t) a7 Hz) (Zu 0 89 (aD.cells (⟨a.og,n,a.dp,a.bd,t⟩:aD)) a7 λc0 c1=>Lo (Ld (Lt (Ls (Ls (Dz ?_)))))))))))))))))))
 obtain⟨mm,hmm⟩:∃ m:aD,m=(⟨a.og,n,a.dp,a.bd,t⟩:aD):=⟨_,rfl⟩
 have hmo:dw mm:=by rw [hmm];exact⟨a4.og,hn,a4.dp,a4.bd,ht⟩
 have c2:St w0 (aC a6 (aD.cells mm) 51::Sl mm.bd.qa mm.bd.qc 190 2 bS.cells mm.bd.ql::aC b4 (aD.cells aJ) 51::aC b1 (bI.cells t) 44::L) c0:=(by rw [hmm];exact c1)
 refine ZD (eR [0,1,2,3,4,5,6,7,8,9] (.ef 10 (eR [11,12,13,14,17,18] (.ef 15 (eR [16,19,20] .done))))) c2 λe7 a0 e8=>Zr 0 3 [] ?_
 rcases Bool.eq_false_or_eq_true (!a3) with d|d
 ·refine py 23 true d (En (Lw (gH (En (Lw (gH (En (bO (Lt (LT (Ls (Lg [1] (Lw (Zu 2 0 (aD.cells aJ) a0 λe9 a8=>Lz (Le (Ly (Dz (mZ 2 (.int .i64 5) a8 ?_))))))))))))))))))
  have hr:BG i n b t=(gM aJ,5):=by
   rw [qE x hmm,if_pos (by simpa using d)]
   rfl
  have heq:=wF (i:=i) (n:=n) (b:=b) (t:=t) (by rw [hr];exact tu kA) (wE hq.nV hn ht)
  have c4:=St.bJ a8 190 2 bS.cells
  have c5:=((((c4.pl 0).pl 4).pl 4).pl 4).pl 4
  exact⟨aJ,5,rfl,heq.symm.trans hr,kA,c5.dr 4⟩
 ·refine py 23 false d (gS 3 6 (Hl 4 0 0 a0 Hz) (dB 29 ((mm.og:Int) != i) (λo=>?_) (λo=>?_)))
  ·refine En (Lw (gH (En (Lw (gH (En (bO (Lt (LT (Ls (Lg [1] (Lw (Zu 2 0 (aD.cells aJ) a0 λf0 a9=>Lz (Le (Ly (Dz (mZ 2 (.int .i64 5) a9 ?_)))))))))))))))))
   have hr:BG i n b t=(gM aJ,5):=by
    rw [qE x hmm,if_neg (by simpa using d),if_pos (show mm.og≠i from by simpa using o)]
    rfl
   have heq:=wF (i:=i) (n:=n) (b:=b) (t:=t) (by rw [hr];exact tu kA) (wE hq.nV hn ht)
   have c8:=St.bJ a9 190 2 bS.cells
   have c9:=((((c8.pl 0).pl 4).pl 4).pl 4).pl 4
   exact⟨aJ,5,rfl,heq.symm.trans hr,kA,c9.dr 4⟩
  ·refine Zj (fE 9 0 0 121 (aD.cells mm) a0 Hz) (eE (nM mm hmo (λw h=>h.rows 1 rfl vu.size _) a0) λf2 a2=>Lo (Dz (Zr 11 3 [] (dB 34 (!(dN mm)) (λq=>?_) (λq=>?_)))))
   ·refine En (Lw (gH (En (bO (Lt (LT (Ls (Lg [1] (Lw (Zu 2 0 (aD.cells aJ) a2 λf3 b0=>Lz (Le (Ly (Dz (mZ 2 (.int .i64 5) b0 ?_))))))))))))))
    have hr:BG i n b t=(gM aJ,5):=by
     rw [qE x hmm,if_neg (by simpa using d),if_neg (show ¬ mm.og≠i from by simpa using o),if_pos (show dN mm=false from by simpa using q)]
     rfl
    have heq:=wF (i:=i) (n:=n) (b:=b) (t:=t) (by rw [hr];exact tu kA) (wE hq.nV hn ht)
    have d2:=St.bJ b0 190 2 bS.cells
    have d3:=((((d2.pl 0).pl 4).pl 4).pl 4).pl 4
    exact⟨aJ,5,rfl,heq.symm.trans hr,kA,d3.dr 4⟩
   ·refine Zh [(14,.agg (aD.cells mm)),(17,.gen [])] [(14,[.prop (Array.size (aD.cells mm)=121),.cells ⟨a6,0,none⟩ (aD.cells mm)])] (ak (aL zk (eM (a2.cells 0 0 rfl zk) aO)) gQ) (aU.fT rfl zk (src:=25) (dst:=9) (e:=5) (ad:=ad) (n:=b.length) (cap:=cb) (f:=aA) rfl b rfl zk zk zk zk hq.nV (hq.row _ (hQ _ (a2.drop 4))) ?_)
    refine Zc (oz mm hmo (λw h=>h.rows 1 rfl vu.size _) a2) ?_
    rintro f4 f5 ⟨d5,d6,rfl,a1⟩
    refine⟨fM (n:=[.holds (λw=>aB w ad b.length 1 (λk=>aA (b.getD k 0)))]) zk (JM (hq.row _ (hQ _ (a1.drop 5))) aO),aU.fT rfl zk (src:=25) (dst:=9) (e:=5) (ad:=d5) (n:=(jU mm).length) (cap:=d6) (f:=aA) rfl (jU mm) rfl zk zk zk zk (AJ hmo) (a1.rows 0 rfl aF.size (0:Int)) (lD (Hg 19 (.eJ (.bool (!(decide ((strOf (jU mm))=(strOf b))))) (.gen [])) [.prop (Value.bool (!((strOf (jU mm)).toList == (strOf b).toList))=Value.bool (!(decide ((strOf (jU mm))=(strOf b)))))] (aL (LY _ _) aO) Hz) (Zt (cZ (t:=!(decide ((strOf (jU mm))=(strOf b)))) (λu=>?_) (λu=>?_))))⟩
    ·have a5:=jV u
     refine En (Ls (Lg [1] (Lw (Zu 3 0 (aD.cells aJ) a1 λf6 b2=>Lz (Le (Ly (Dz (mZ 3 (.int .i64 5) b2 ?_))))))))
     have hr:BG i n b t=(gM aJ,5):=by
      rw [qE x hmm,if_neg (by simpa using d),if_neg (show ¬ mm.og≠i from by simpa using o),if_neg (show ¬ dN mm=false from by simpa using q),if_neg (show ¬ jU mm=b from λe=>by rw [e] at u;simp at u)]
      rfl
     have heq:=wF (i:=i) (n:=n) (b:=b) (t:=t) (by rw [hr];exact tu kA) (wE hq.nV hn ht)
     have d7:=St.bJ b2 190 2 bS.cells
     have d8:=(((((d7.pl 0).pl 5).pl 5).pl 5).pl 5).pl 5
     exact⟨aJ,5,rfl,heq.symm.trans hr,kA,d8.dr 5⟩
    ·have a5:=jN u
     refine Zk (Zt (Zs (bX [1] (fE 0 1 0 121 (aD.cells mm) a1 Hz) (Zu 3 0 (aD.cells mm) a1 λf7 b3=>Lz (Le (Dz (mZ 3 (.int .i64 0) b3 ?_)))))))
     have hr:BG i n b t=(gM mm,0):=by
      rw [qE x hmm,if_neg (by simpa using d),if_neg (show ¬ mm.og≠i from by simpa using o),if_neg (show ¬ dN mm=false from by simpa using q),if_pos (show jU mm=b from ub (AJ hmo) hq.nV (by simpa using u))]
     have heq:=wF (i:=i) (n:=n) (b:=b) (t:=t) (by rw [hr];exact tu hmo) (wE hq.nV hn ht)
     have e0:=((((b3.pl 2).pl 4).pl 4).pl 4).pl 4
     exact⟨mm,0,rfl,heq.symm.trans hr,hmo,e0.dr 4⟩
theorem Gj Q b (hQ:∀ w,St w0 L w->Q.holds w) (hq:bG Q ad b cb) (hs:St w0 L w):Cs Tryz.prog 70 #[.slice ad b.length cb] w λrv w'=>∃ mm2 ee2,rv=.tuple #[.agg (aD.cells mm2),.int .i64 ee2]/\getM b=(gM mm2,ee2)/\dw mm2/\St w0 (Sl mm2.bd.qa mm2.bd.qc 190 2 bS.cells mm2.bd.ql::L) w':=by
 refine cL Tryz.func70 Tryz.ntmps70 (Zs ?_)
 have hbl:=hq.len
 refine Zg [0] (eN (aD.cells aJ) hs λb1 w2 o=>Lz (Ls (Lq (Dz (Zi ((b.length:Int)<41) (λa5=>?_) (λa5=>?_))))))
 ·have hlen:b.length<=40:=za
  refine En (Ls (Lg [1] (Lw (Zu 0 0 (aD.cells aJ) o λw5 q=>Lz (Le (Ly (Dz (mZ 0 (.int .i64 5) q ?_))))))))
  have a6:=St.bJ q 190 2 bS.cells
  have a7:=(a6.pl 0).pl 1
  exact⟨aJ,5,rfl,(if_pos hlen),kA,a7.dr 1⟩
 ·have hlen:40<b.length:=za
  refine En (Lk (Lt (Ls (Lg [2] (Lw (hG #[.slice ad b.length cb,.bool false] o λd0 d1 a9=>Lz (Ls (Lg [1] (Lw (Zc (hJ Q b false (λw h=>hQ w (h.drop 1)) hq a9) ?_))))))))))
  rintro d2 d3 ⟨b0,b2,b3,d4,d5,rfl,f,d6,b4,b5⟩
  refine Lz (Ls (Dz (bX [4] (Hg 3 (.eJ (.int .i64 (b.length-40:Nat)) (.gen [])) [.prop (Value.int .i64 (IntKind.i64.wrap ((b.length:Nat)-40))=Value.int .i64 (b.length-40:Nat))] (aL (gV za za za) aO) Hz) (Zc (pb Q b2 b3 (b.length-40) (λw h=>hQ w (h.drop 1)) b4 b5) ?_))))
  rintro d7 d8 ⟨d9,b6,a,b7,b8,e0,e1,rfl,u,b9,i⟩
  refine Lz (Ls (Dz ?_))
  have hown:=E7 hlen f u
  have x:∀ z∈a,0<=z/\z<256:=by rw [hown.2];exact λz hz=>hq.nV z (List.mem_of_mem_drop (List.mem_of_mem_take hz))
  have e2:=x _ (bC (d:=(0:Int)) (k:=0) za)
  obtain⟨e,rfl⟩:=Sl.isSome (i.at_ 0 rfl) za
  refine ZD (eR [0,1,2,3,4,5,6] (.ef 7 (.ef 8 (eR [9,10] (.ef 11 (.rd 12 .done)))))) i λe3 a0 e4=>Zj (Hx 1 (0:Int) (a.length:Int) e 0 1 (Hg 2 (.gen [.int .u8 (a.getD 0 0)]) [.cell ⟨e,0,none⟩ (.int .u8 (a.getD 0 0))] (bP (aB.dX (a0.rows 0 rfl aF.size (0:Int)) (k:=0) zo (j:=0) zf zk) aO) (dW 3 (a.getD 0 0) Hz))) (Zc (sw Q b7 b8 (λw h=>hQ w (h.drop 2)) b9 (a0.pl 1)) ?_)
  rintro e5 e6 ⟨c2,e7,e8,e9,f0,rfl,c3,c4,f1,a1⟩
  refine⟨fM (n:=[.prop (Value.int .i64 (IntKind.i64.wrap (a.getD 0 0))=Value.int .i64 (a.getD 0 0)),.cell ⟨e,0,none⟩ (.int .u8 (a.getD 0 0)),.prop (0<=(0:Int)/\(0:Int)<(a.length:Int)),.prop (Value.pointer (some (Addr.add ⟨e,0,none⟩ (Int.toNat 0*1)))=Value.pointer (some ⟨e,0,none⟩))]) zk (aL (kF za za) (bP (aB.dX (a1.rows 1 rfl aF.size (0:Int)) (k:=0) zo (j:=0) zf zk) (aL za (aL (bK _ _ _) aO)))),Zc (Ih (a.getD 0 0) b0 (Sl (some ⟨e,0,none⟩) b6 5 1 aA a) a c2 (λw h=>h.at_ 1 rfl) (bG.new i (j:=0) rfl x (by have:=hq.len;omega)) (by have:=cC f;omega) c4 a1) ?_⟩
  rintro f2 f3 ⟨a2,a3,rfl,c5,c6,c7⟩
  refine Lo (Lw (Zu 3 0 (aD.cells a2) c7 λf4 a4=>Lz (Le (Dz (mZ 3 (.int .i64 a3) a4 ?_)))))
  have c8:=(((a4.pl 0).pl 3).pl 3).pl 3
  exact⟨a2,a3,rfl,(AM za f u c3).trans c5,c6,c8.dr 3⟩
end
section
variable {w0 w : World} {L : List cA}
def rotl (x:Int) (k:Int):Int :=
 (mL .u32 (dY .u32 x (jS .u64 (IntKind.u64.wrap k) 31)) (bF .u32 x (IntKind.u64.wrap (32-(jS .u64 (IntKind.u64.wrap k) 31)))))
theorem Gk x k (hs:St w0 L w):Cs Tryz.prog 213 #[.int .u32 x,.int .i64 k] w λrv w'=>rv=.int .u32 (rotl x k)/\St w0 L w':=by
 refine cL Tryz.func213 Tryz.ntmps213 (En (Lq (Lq (Ls (Dz (cS (Hg 2 (.shift (dY .u32 x (jS .u64 (IntKind.u64.wrap k) 31))) [.prop ((0:Int)<=jS .u64 (IntKind.u64.wrap k) 31/\IntKind.u32.wrap (x*2 ^ (min (Int.toNat (jS .u64 (IntKind.u64.wrap k) 31)) (IntKind.bits .u32)))=dY .u32 x (jS .u64 (IntKind.u64.wrap k) 31))] (aL ⟨(by first|omega|exact bW rfl _),rfl⟩ aO) (Hg 6 (.shift (bF .u32 x (IntKind.u64.wrap (32-(jS .u64 (IntKind.u64.wrap k) 31))))) [.prop ((0:Int)<=IntKind.u64.wrap (32-(jS .u64 (IntKind.u64.wrap k) 31))/\Int.fdiv x (2 ^ (min (Int.toNat (IntKind.u64.wrap (32-(jS .u64 (IntKind.u64.wrap k) 31)))) (IntKind.bits .u32)))=bF .u32 x (IntKind.u64.wrap (32-(jS .u64 (IntKind.u64.wrap k) 31))))] (aL ⟨(by first|omega|exact bW rfl _),rfl⟩ aO) Hz)) (Zt (Ze (bL (v:=.int .u32 (mL .u32 (dY .u32 x (jS .u64 (IntKind.u64.wrap k) 31)) (bF .u32 x (IntKind.u64.wrap (32-(jS .u64 (IntKind.u64.wrap k) 31)))))) ?_)))))))))
 have hr:rotl x k=(mL .u32 (dY .u32 x (jS .u64 (IntKind.u64.wrap k) 31)) (bF .u32 x (IntKind.u64.wrap (32-(jS .u64 (IntKind.u64.wrap k) 31))))):=by rw [rotl]
 exact⟨by first|(rw [hr];done)|(rw [hr];rfl),hs.drop 0⟩
def dD (x:Int) (n:Int):Int :=
 (rotl x (IntKind.i64.wrap (0-n)))
theorem hU x n (hs:St w0 L w):Cs Tryz.prog 168 #[.int .u32 x,.int .i64 n] w λrv w'=>rv=.int .u32 (dD x n)/\St w0 L w':=by
 refine cL Tryz.func168 Tryz.ntmps168 (En (Lq (Ls (Lg [3] (Lw (eE (Gk x (IntKind.i64.wrap (0-n))  hs) λd a=>Lz (Le (Dz (bL (v:=.int .u32 (rotl x (IntKind.i64.wrap (0-n)))) ?_)))))))))
 have hr:dD x n=(rotl x (IntKind.i64.wrap (0-n))):=by rw [dD]
 exact⟨by first|(rw [hr];done)|(rw [hr];rfl),a.drop 0⟩
def iter {α:Type}(f:Nat->α->α):Nat->α->α
 | 0,a=>a
 | n+1,a=>f n (iter f n a)
theorem yC {α:Type}(f:Nat->α->α) (a:α):iter f 0 a=a:=rfl
theorem fF {α:Type}(f:Nat->α->α) (n:Nat) (a:α):iter f (n+1) a=f n (iter f n a):=rfl
def bM (n:Int):Array Value:=#[.int .u32 n]
theorem bN:gX bM 1:=⟨λ_=>rfl,λ_=>rfl⟩
end
section
variable {w0 w : World} {L : List cA}
def Ii (bl:List Int) (k j:Nat) (vl:List Int):List Int:=vl.set k (mL .u32 (dY .u32 (vl.getD k 0) 8) (IntKind.u32.wrap (bl.getD ((4*k)+j) 0)))
def Ij (bl:List Int) (k:Nat) (wl:List Int):List Int:=iter (Ii bl k) 4 wl
def sB (bl:List Int):List Int:=iter (Ij bl) 16 (List.replicate 64 0)
def wG (i:Nat) (xl:List Int):List Int:=xl.set i (IntKind.u32.wrap ((IntKind.u32.wrap ((IntKind.u32.wrap ((xl.getD (i-16) 0)+(dL .u32 (dL .u32 (dD (xl.getD (i-15) 0) 7) (dD (xl.getD (i-15) 0) 18)) (bF .u32 (xl.getD (i-15) 0) 3))))+(xl.getD (i-7) 0)))+(dL .u32 (dL .u32 (dD (xl.getD (i-2) 0) 17) (dD (xl.getD (i-2) 0) 19)) (bF .u32 (xl.getD (i-2) 0) 10))))
def lI (bl:List Int):List Int:=iter (λn=>wG (n+16)) 48 (sB bl)
theorem DM {p:Nat}bl (hb:bl.length=64) (hs:St w0 (aC p (af aA bl) 149::L) w):Cs Tryz.prog 167 #[zP p 0] w λrv w'=>rv=.agg (af bM (lI bl))/\St w0 (aC p (af aA bl) 149::L) w':=by
 refine cL Tryz.func167 Tryz.ntmps167 (En (Ls (Lg [0] (Dz (eN NS hs λd w2 a6=>Lo (Ld (Lt (Ls (Ls (Dz (cS (Hg 0 (.eJ (zL d 0 16 64) (.sub 0 16)) [.prop ((16:Int)=((16:Nat):Int)),.prop (((none:Option Operand)=none->(0:Nat)=0)/\((some (Operand.const (.int .i64 16)))=none->(16:Nat)=64)/\(0:Nat)<=16/\(16:Nat)<=64),.prop (Value.slice (some (if 64=0 then Addr.mk d 0 none else (Addr.mk d 0 none).add (0*1))) (16-0) (64-0)=Value.slice (some ⟨d,0,none⟩) 16 64)] (aL za (aL ⟨(by first|(intro _;rfl)|(intro hc;cases hc)),(by first|(intro _;rfl)|(intro hc;cases hc)),za,za⟩ (aL (dM _ _ _ _ _ zf) aO))) Hz) (Zt (Zb ?_)))))))))))))
 have a7:St w0 (aC d (af bM (List.replicate 64 0)) 198::aC p (af aA bl) 149::L) w2:=Eq.mp zk a6
 refine bH.loop (T:=Nat×(List Int)) (λgg=>[(0,zP p 0),(2,zP d 0),(10,.int .i64 16),(11,.int .i64 (gg.1:Nat))]) (λgg w=>(gg.1<=16/\gg.2=iter (Ij bl) gg.1 (List.replicate 64 0)/\gg.2.length=64)/\St w0 (aC d (af bM gg.2) 198::aC p (af aA bl) 149::L) w) (λgg=>16-gg.1) (0,(List.replicate 64 0)) [0,2,10,11] zk ⟨⟨Nat.zero_le _,rfl,rfl⟩,a7⟩ ?_
 rintro⟨k,wl⟩ w5 ⟨hp,x⟩
 dsimp only at hp x
 refine En (Lq (Ls (Dz (Zi ((k:Int)<16) (λa8=>?_) (λa8=>?_)))))
 ·refine En (Lk (Lt (Ls (Lb (Lq (Ls (Dz (cS (dW 3 (4*(k:Nat)) (dW 5 (4*(k:Nat)) (dW 6 ((4*(k:Nat))+4) (Hg 7 (.eJ (zL p (0+((4*k)*1)) 4 (64-(4*k))) (.sub (4*k) (4*k+4))) [.prop ((4*(k:Nat):Int)=((4*k:Nat):Int)),.prop (((4*(k:Nat))+4:Int)=((4*k+4:Nat):Int)),.prop (((some (Operand.tmp 17))=none->(4*k:Nat)=0)/\((some (Operand.tmp 20))=none->(4*k+4:Nat)=64)/\(4*k:Nat)<=4*k+4/\(4*k+4:Nat)<=64),.prop (Value.slice (some (if 64=4*k then Addr.mk p 0 none else (Addr.mk p 0 none).add ((4*k)*1))) ((4*k+4)-(4*k)) (64-(4*k))=Value.slice (some ⟨p,0+((4*k)*1),none⟩) 4 (64-(4*k)))] (aL za (aL za (aL ⟨(by first|(intro _;rfl)|(intro hc;cases hc)),(by first|(intro _;rfl)|(intro hc;cases hc)),za,za⟩ (aL (Ay za za) aO)))) Hz)))) (Zt (Zb (bH.loop (T:=Nat×(List Int)) (λgg=>[(0,zP p 0),(2,zP d 0),(3,.int .i64 (k:Nat)),(10,.int .i64 16),(11,.int .i64 (k:Nat)),(21,zL p (0+((4*k)*1)) 4 (64-(4*k))),(22,.int .i64 4),(23,.int .i64 (gg.1:Nat))]) (λgg w=>(gg.1<=4/\gg.2=iter (Ii bl k) gg.1 wl/\gg.2.length=64)/\St w0 (aC d (af bM gg.2) 198::aC p (af aA bl) 149::L) w) (λgg=>4-gg.1) (0,wl) [0,2,3,10,11,21,22,23] zk ⟨⟨Nat.zero_le _,rfl,hp.2.2⟩,x⟩ ?_)))))))))))
  rintro⟨j,vl⟩ w9 ⟨e,o⟩
  dsimp only at e o
  refine En (Lq (Ls (Dz (Zi ((j:Int)<4) (λa9=>?_) (λa9=>?_)))))
  ·exact Zk (Zt (Zs (Zb (Zs (cS (Hg 0 (.eJ (zP p (0+(((4*k)+j)*1))) .at_) [.prop (0<=(j:Int)/\(j:Int)<(4:Int)),.prop (Value.pointer (some (Addr.add ⟨p,0+((4*k)*1),none⟩ (Int.toNat (j:Nat)*1)))=Value.pointer (some ⟨p,0+(((4*k)+j)*1),none⟩))] (aL za (aL (JV _ _ _ _) aO)) (Hg 1 (.gen [.int .u8 (bl.getD ((4*k)+j) 0)]) [.cell ⟨p,0+(((4*k)+j)*1),none⟩ (.int .u8 (bl.getD ((4*k)+j) 0))] (bP (aB.dX (aI o 1 rfl aF.size (0:Int)) (k:=((4*k)+j)) zo (j:=0) zf zk) aO) Hz)) (Zt (bX [9] (Hx 2 (k:Int) (64:Int) d 0 1 (Hg 3 (.gen [.int .u32 (vl.getD k 0)]) [.cell ⟨d,0+(k*1),none⟩ (.int .u32 (vl.getD k 0))] (bP (aB.dX (aI o 0 rfl bN.size (0:Int)) (k:=k) zo (j:=0) zf zk) aO) (Hg 4 (.shift (dY .u32 (vl.getD k 0) 8)) [.prop ((0:Int)<=8/\IntKind.u32.wrap ((vl.getD k 0)*2 ^ (min (Int.toNat 8) (IntKind.bits .u32)))=dY .u32 (vl.getD k 0) 8)] (aL ⟨(by first|omega|exact bW rfl _),rfl⟩ aO) (Hx 8 (k:Int) (64:Int) d 0 1 Hz)))) (aU.store rfl rfl zk (b:=d) (off:=0+(k*1)) (v:=.int .u32 (mL .u32 (dY .u32 (vl.getD k 0) 8) (IntKind.u32.wrap (bl.getD ((4*k)+j) 0)))) zk zk (ti:=Tryz.t146) zk o 0 rfl zk zk (by rw [Nat.zero_add];exact fN (f:=bM) (size:=1) (l:=vl) (k:=k) bN.size zo) (cs':=af bM (vl.set k (mL .u32 (dY .u32 (vl.getD k 0) 8) (IntKind.u32.wrap (bl.getD ((4*k)+j) 0))))) (L':=(aC d (af bM (vl.set k (mL .u32 (dY .u32 (vl.getD k 0) 8) (IntKind.u32.wrap (bl.getD ((4*k)+j) 0))))) 198)::aC p (af aA bl) 149::L) (by rw [Nat.zero_add];exact eT (f:=bM) (size:=1) (l:=vl) (k:=k) bN.size zo (mL .u32 (dY .u32 (vl.getD k 0) 8) (IntKind.u32.wrap (bl.getD ((4*k)+j) 0)))) rfl λb5 b0=>Lo (Ld (Lm (Lt (Dz (cS (dW 0 ((j:Nat)+1) Hz) (aN.back (j+1,vl.set k (mL .u32 (dY .u32 (vl.getD k 0) 8) (IntKind.u32.wrap (bl.getD ((4*k)+j) 0)))) [0,2,3,10,11,21,22,23] zk (by show 4-(j+1)<4-j;omega) ⟨⟨za,by rw [fF,<- e.2.1];rfl,by simp only [List.length_set];exact e.2.2⟩,b0⟩))))))))))))))
  ·exact Zx (aN.cJ (aN.fJ (aN.iT (Zm (Zt (cS (dW 0 ((k:Nat)+1) Hz) (aN.back (k+1,vl) [0,2,10,11] zk (by show 16-(k+1)<16-k;omega) ⟨⟨za,by rw [e.2.1,show j=4 by omega,hp.2.1];exact(fF (Ij bl) k _).symm,e.2.2⟩,o⟩)))))))
 ·refine En (Lx (kD (kE (Lh (Lt (Ls (Lq (Lb (Dz (bH.loop (T:=Nat×(List Int)) (λgg=>[(2,zP d 0),(6,.int .i64 (gg.1:Nat))]) (λgg w=>(16<=gg.1/\gg.1<=64/\gg.2=iter (λn=>wG (n+16)) (gg.1-16) (sB bl)/\gg.2.length=64)/\St w0 (aC d (af bM gg.2) 198::aC p (af aA bl) 149::L) w) (λgg=>64-gg.1) (16,wl) [2,6] zk ⟨⟨za,za,(by show wl=iter (λn=>wG (n+16)) (16-16) (sB bl);rw [Nat.sub_self,yC,hp.2.1,show k=16 by omega,sB]),hp.2.2⟩,x⟩ ?_))))))))))
  rintro⟨i,xl⟩ b6 ⟨q,u⟩
  dsimp only at q u
  refine En (Ls (Lq (Dz (Zi ((i:Int)<64) (λb2=>?_) (λb2=>?_)))))
  ·exact Zk (Zt (Zs (Zb (Zs (ZD (eR [0,1,2,3,4,5,6,7,8,9] .done) u λb7 z b8=>lD (Hg 1 (.eJ (.int .i64 (i-15:Nat)) (.gen [])) [.prop (Value.int .i64 (IntKind.i64.wrap ((i:Nat)-15))=Value.int .i64 (i-15:Nat))] (aL (gV za za za) aO) (Hx 2 ((i-15:Nat):Int) (64:Int) d 0 1 (Hg 3 (.gen [.int .u32 (xl.getD (i-15) 0)]) [.cell ⟨d,0+((i-15)*1),none⟩ (.int .u32 (xl.getD (i-15) 0))] (bP (aB.dX (aI z 0 rfl bN.size (0:Int)) (k:=(i-15)) zo (j:=0) zf zk) aO) (Hg 5 (.eJ (.int .i64 (i-2:Nat)) (.gen [])) [.prop (Value.int .i64 (IntKind.i64.wrap ((i:Nat)-2))=Value.int .i64 (i-2:Nat))] (aL (gV za za za) aO) (Hx 6 ((i-2:Nat):Int) (64:Int) d 0 1 (Hg 7 (.gen [.int .u32 (xl.getD (i-2) 0)]) [.cell ⟨d,0+((i-2)*1),none⟩ (.int .u32 (xl.getD (i-2) 0))] (bP (aB.dX (aI z 0 rfl bN.size (0:Int)) (k:=(i-2)) zo (j:=0) zf zk) aO) Hz)))))) (Zt (ZD (eR [0,1,2,3,4,5,7,10,11,14,15,16,17,19,21,24,25] (.ef 6 (.ef 8 (eR [9,12,13,18] (.ef 20 (.ef 22 (eR [23,26,27,28] (.ef 29 .done)))))))) z λb9 a0 c0=>Zj (Hg 2 (.eJ (.int .i64 (i-16:Nat)) (.gen [])) [.prop (Value.int .i64 (IntKind.i64.wrap ((i:Nat)-16))=Value.int .i64 (i-16:Nat))] (aL (gV za za za) aO) (Hx 3 ((i-16:Nat):Int) (64:Int) d 0 1 (Hg 4 (.gen [.int .u32 (xl.getD (i-16) 0)]) [.cell ⟨d,0+((i-16)*1),none⟩ (.int .u32 (xl.getD (i-16) 0))] (bP (aB.dX (aI a0 0 rfl bN.size (0:Int)) (k:=(i-16)) zo (j:=0) zf zk) aO) (Hg 11 (.shift (bF .u32 (xl.getD (i-15) 0) 3)) [.prop ((0:Int)<=3/\Int.fdiv (xl.getD (i-15) 0) (2 ^ (min (Int.toNat 3) (IntKind.bits .u32)))=bF .u32 (xl.getD (i-15) 0) 3)] (aL ⟨(by first|omega|exact bW rfl _),rfl⟩ aO) (Hg 15 (.eJ (.int .i64 (i-7:Nat)) (.gen [])) [.prop (Value.int .i64 (IntKind.i64.wrap ((i:Nat)-7))=Value.int .i64 (i-7:Nat))] (aL (gV za za za) aO) (Hx 16 ((i-7:Nat):Int) (64:Int) d 0 1 (Hg 17 (.gen [.int .u32 (xl.getD (i-7) 0)]) [.cell ⟨d,0+((i-7)*1),none⟩ (.int .u32 (xl.getD (i-7) 0))] (bP (aB.dX (aI a0 0 rfl bN.size (0:Int)) (k:=(i-7)) zo (j:=0) zf zk) aO) (Hg 25 (.shift (bF .u32 (xl.getD (i-2) 0) 10)) [.prop ((0:Int)<=10/\Int.fdiv (xl.getD (i-2) 0) (2 ^ (min (Int.toNat 10) (IntKind.bits .u32)))=bF .u32 (xl.getD (i-2) 0) 10)] (aL ⟨(by first|omega|exact bW rfl _),rfl⟩ aO) Hz)))))))) (eE (hU (xl.getD (i-15) 0) 7  a0) λc2 a1=>⟨fM (n:=[.prop ((0:Int)<=10/\Int.fdiv (xl.getD (i-2) 0) (2 ^ (min (Int.toNat 10) (IntKind.bits .u32)))=bF .u32 (xl.getD (i-2) 0) 10),.cell ⟨d,0+((i-7)*1),none⟩ (.int .u32 (xl.getD (i-7) 0)),.prop (0<=((i-7:Nat):Int)/\((i-7:Nat):Int)<(64:Int)),.prop (Value.pointer (some (Addr.add ⟨d,0,none⟩ (Int.toNat (i-7:Nat)*1)))=Value.pointer (some ⟨d,0+((i-7)*1),none⟩)),.prop (Value.int .i64 (IntKind.i64.wrap ((i:Nat)-7))=Value.int .i64 (i-7:Nat)),.prop ((0:Int)<=3/\Int.fdiv (xl.getD (i-15) 0) (2 ^ (min (Int.toNat 3) (IntKind.bits .u32)))=bF .u32 (xl.getD (i-15) 0) 3),.cell ⟨d,0+((i-16)*1),none⟩ (.int .u32 (xl.getD (i-16) 0)),.prop (0<=((i-16:Nat):Int)/\((i-16:Nat):Int)<(64:Int)),.prop (Value.pointer (some (Addr.add ⟨d,0,none⟩ (Int.toNat (i-16:Nat)*1)))=Value.pointer (some ⟨d,0+((i-16)*1),none⟩)),.prop (Value.int .i64 (IntKind.i64.wrap ((i:Nat)-16))=Value.int .i64 (i-16:Nat))]) zk (aL ⟨(by first|omega|exact bW rfl _),rfl⟩ (bP (aB.dX (aI a1 0 rfl bN.size (0:Int)) (k:=(i-7)) zo (j:=0) zf zk) (aL za (aL (bK _ _ _) (aL (gV za za za) (aL ⟨(by first|omega|exact bW rfl _),rfl⟩ (bP (aB.dX (aI a1 0 rfl bN.size (0:Int)) (k:=(i-16)) zo (j:=0) zf zk) (aL za (aL (bK _ _ _) (aL (gV za za za) aO)))))))))),(eE (hU (xl.getD (i-15) 0) 18  a1) λc4 a2=>⟨fM (n:=[.prop ((0:Int)<=10/\Int.fdiv (xl.getD (i-2) 0) (2 ^ (min (Int.toNat 10) (IntKind.bits .u32)))=bF .u32 (xl.getD (i-2) 0) 10),.cell ⟨d,0+((i-7)*1),none⟩ (.int .u32 (xl.getD (i-7) 0)),.prop (0<=((i-7:Nat):Int)/\((i-7:Nat):Int)<(64:Int)),.prop (Value.pointer (some (Addr.add ⟨d,0,none⟩ (Int.toNat (i-7:Nat)*1)))=Value.pointer (some ⟨d,0+((i-7)*1),none⟩)),.prop (Value.int .i64 (IntKind.i64.wrap ((i:Nat)-7))=Value.int .i64 (i-7:Nat)),.prop ((0:Int)<=3/\Int.fdiv (xl.getD (i-15) 0) (2 ^ (min (Int.toNat 3) (IntKind.bits .u32)))=bF .u32 (xl.getD (i-15) 0) 3),.cell ⟨d,0+((i-16)*1),none⟩ (.int .u32 (xl.getD (i-16) 0)),.prop (0<=((i-16:Nat):Int)/\((i-16:Nat):Int)<(64:Int)),.prop (Value.pointer (some (Addr.add ⟨d,0,none⟩ (Int.toNat (i-16:Nat)*1)))=Value.pointer (some ⟨d,0+((i-16)*1),none⟩)),.prop (Value.int .i64 (IntKind.i64.wrap ((i:Nat)-16))=Value.int .i64 (i-16:Nat))]) zk (aL ⟨(by first|omega|exact bW rfl _),rfl⟩ (bP (aB.dX (aI a2 0 rfl bN.size (0:Int)) (k:=(i-7)) zo (j:=0) zf zk) (aL za (aL (bK _ _ _) (aL (gV za za za) (aL ⟨(by first|omega|exact bW rfl _),rfl⟩ (bP (aB.dX (aI a2 0 rfl bN.size (0:Int)) (k:=(i-16)) zo (j:=0) zf zk) (aL za (aL (bK _ _ _) (aL (gV za za za) aO)))))))))),En (Lw (eE (hU (xl.getD (i-2) 0) 17  a2) λc6 a3=>⟨fM (n:=[.prop ((0:Int)<=10/\Int.fdiv (xl.getD (i-2) 0) (2 ^ (min (Int.toNat 10) (IntKind.bits .u32)))=bF .u32 (xl.getD (i-2) 0) 10),.cell ⟨d,0+((i-7)*1),none⟩ (.int .u32 (xl.getD (i-7) 0)),.prop (0<=((i-7:Nat):Int)/\((i-7:Nat):Int)<(64:Int)),.prop (Value.pointer (some (Addr.add ⟨d,0,none⟩ (Int.toNat (i-7:Nat)*1)))=Value.pointer (some ⟨d,0+((i-7)*1),none⟩)),.prop (Value.int .i64 (IntKind.i64.wrap ((i:Nat)-7))=Value.int .i64 (i-7:Nat)),.prop ((0:Int)<=3/\Int.fdiv (xl.getD (i-15) 0) (2 ^ (min (Int.toNat 3) (IntKind.bits .u32)))=bF .u32 (xl.getD (i-15) 0) 3),.cell ⟨d,0+((i-16)*1),none⟩ (.int .u32 (xl.getD (i-16) 0)),.prop (0<=((i-16:Nat):Int)/\((i-16:Nat):Int)<(64:Int)),.prop (Value.pointer (some (Addr.add ⟨d,0,none⟩ (Int.toNat (i-16:Nat)*1)))=Value.pointer (some ⟨d,0+((i-16)*1),none⟩)),.prop (Value.int .i64 (IntKind.i64.wrap ((i:Nat)-16))=Value.int .i64 (i-16:Nat))]) zk (aL ⟨(by first|omega|exact bW rfl _),rfl⟩ (bP (aB.dX (aI a3 0 rfl bN.size (0:Int)) (k:=(i-7)) zo (j:=0) zf zk) (aL za (aL (bK _ _ _) (aL (gV za za za) (aL ⟨(by first|omega|exact bW rfl _),rfl⟩ (bP (aB.dX (aI a3 0 rfl bN.size (0:Int)) (k:=(i-16)) zo (j:=0) zf zk) (aL za (aL (bK _ _ _) (aL (gV za za za) aO)))))))))),(eE (hU (xl.getD (i-2) 0) 19  a3) λc8 a4=>⟨fM (n:=[.prop ((0:Int)<=10/\Int.fdiv (xl.getD (i-2) 0) (2 ^ (min (Int.toNat 10) (IntKind.bits .u32)))=bF .u32 (xl.getD (i-2) 0) 10),.cell ⟨d,0+((i-7)*1),none⟩ (.int .u32 (xl.getD (i-7) 0)),.prop (0<=((i-7:Nat):Int)/\((i-7:Nat):Int)<(64:Int)),.prop (Value.pointer (some (Addr.add ⟨d,0,none⟩ (Int.toNat (i-7:Nat)*1)))=Value.pointer (some ⟨d,0+((i-7)*1),none⟩)),.prop (Value.int .i64 (IntKind.i64.wrap ((i:Nat)-7))=Value.int .i64 (i-7:Nat)),.prop ((0:Int)<=3/\Int.fdiv (xl.getD (i-15) 0) (2 ^ (min (Int.toNat 3) (IntKind.bits .u32)))=bF .u32 (xl.getD (i-15) 0) 3),.cell ⟨d,0+((i-16)*1),none⟩ (.int .u32 (xl.getD (i-16) 0)),.prop (0<=((i-16:Nat):Int)/\((i-16:Nat):Int)<(64:Int)),.prop (Value.pointer (some (Addr.add ⟨d,0,none⟩ (Int.toNat (i-16:Nat)*1)))=Value.pointer (some ⟨d,0+((i-16)*1),none⟩)),.prop (Value.int .i64 (IntKind.i64.wrap ((i:Nat)-16))=Value.int .i64 (i-16:Nat))]) zk (aL ⟨(by first|omega|exact bW rfl _),rfl⟩ (bP (aB.dX (aI a4 0 rfl bN.size (0:Int)) (k:=(i-7)) zo (j:=0) zf zk) (aL za (aL (bK _ _ _) (aL (gV za za za) (aL ⟨(by first|omega|exact bW rfl _),rfl⟩ (bP (aB.dX (aI a4 0 rfl bN.size (0:Int)) (k:=(i-16)) zo (j:=0) zf zk) (aL za (aL (bK _ _ _) (aL (gV za za za) aO)))))))))),Zj (Hx 28 (i:Int) (64:Int) d 0 1 Hz) (aU.store rfl rfl zk (b:=d) (off:=0+(i*1)) (v:=.int .u32 (IntKind.u32.wrap ((IntKind.u32.wrap ((IntKind.u32.wrap ((xl.getD (i-16) 0)+(dL .u32 (dL .u32 (dD (xl.getD (i-15) 0) 7) (dD (xl.getD (i-15) 0) 18)) (bF .u32 (xl.getD (i-15) 0) 3))))+(xl.getD (i-7) 0)))+(dL .u32 (dL .u32 (dD (xl.getD (i-2) 0) 17) (dD (xl.getD (i-2) 0) 19)) (bF .u32 (xl.getD (i-2) 0) 10))))) zk zk (ti:=Tryz.t146) zk a4 0 rfl zk zk (by rw [Nat.zero_add];exact fN (f:=bM) (size:=1) (l:=xl) (k:=i) bN.size zo) (cs':=af bM (xl.set i (IntKind.u32.wrap ((IntKind.u32.wrap ((IntKind.u32.wrap ((xl.getD (i-16) 0)+(dL .u32 (dL .u32 (dD (xl.getD (i-15) 0) 7) (dD (xl.getD (i-15) 0) 18)) (bF .u32 (xl.getD (i-15) 0) 3))))+(xl.getD (i-7) 0)))+(dL .u32 (dL .u32 (dD (xl.getD (i-2) 0) 17) (dD (xl.getD (i-2) 0) 19)) (bF .u32 (xl.getD (i-2) 0) 10)))))) (L':=(aC d (af bM (xl.set i (IntKind.u32.wrap ((IntKind.u32.wrap ((IntKind.u32.wrap ((xl.getD (i-16) 0)+(dL .u32 (dL .u32 (dD (xl.getD (i-15) 0) 7) (dD (xl.getD (i-15) 0) 18)) (bF .u32 (xl.getD (i-15) 0) 3))))+(xl.getD (i-7) 0)))+(dL .u32 (dL .u32 (dD (xl.getD (i-2) 0) 17) (dD (xl.getD (i-2) 0) 19)) (bF .u32 (xl.getD (i-2) 0) 10)))))) 198)::aC p (af aA bl) 149::L) (by rw [Nat.zero_add];exact eT (f:=bM) (size:=1) (l:=xl) (k:=i) bN.size zo (IntKind.u32.wrap ((IntKind.u32.wrap ((IntKind.u32.wrap ((xl.getD (i-16) 0)+(dL .u32 (dL .u32 (dD (xl.getD (i-15) 0) 7) (dD (xl.getD (i-15) 0) 18)) (bF .u32 (xl.getD (i-15) 0) 3))))+(xl.getD (i-7) 0)))+(dL .u32 (dL .u32 (dD (xl.getD (i-2) 0) 17) (dD (xl.getD (i-2) 0) 19)) (bF .u32 (xl.getD (i-2) 0) 10))))) rfl λc9 b3=>Lo (Ld (Lm (Lt (Dz (cS (dW 1 ((i:Nat)+1) Hz) (aN.back (i+1,xl.set i (IntKind.u32.wrap ((IntKind.u32.wrap ((IntKind.u32.wrap ((xl.getD (i-16) 0)+(dL .u32 (dL .u32 (dD (xl.getD (i-15) 0) 7) (dD (xl.getD (i-15) 0) 18)) (bF .u32 (xl.getD (i-15) 0) 3))))+(xl.getD (i-7) 0)))+(dL .u32 (dL .u32 (dD (xl.getD (i-2) 0) 17) (dD (xl.getD (i-2) 0) 19)) (bF .u32 (xl.getD (i-2) 0) 10))))) [2,6] zk (by show 64-(i+1)<64-i;omega) ⟨⟨za,za,by rw [show i+1-16=(i-16)+1 by omega,fF,<- q.2.2.1,show i-16+16=i by omega];rfl,by simp only [List.length_set];exact q.2.2.2⟩,b3⟩)))))))⟩)⟩))⟩)⟩))))))))
  ·exact Zx (aN.cJ (aN.fJ (aN.iT (Zt (Zs (bX [1] (Hg 0 (.agg (af bM xl)) [.prop (Array.size (af bM xl)=64),.cells ⟨d,0,none⟩ (af bM xl)] (aL (bQ bN (show(xl).length=64 from zA) rfl) (eM (u.cells 0 0 rfl zG) aO)) Hz) (aU.store rfl rfl zk (b:=d) (off:=0) (v:=.agg (af bM xl)) zk zk (ti:=Tryz.t198) zk u 0 rfl (cK bN (show(xl).length=64 from zA) zk) (eQ bN) (eF bN (show(xl).length=64 from zA) (by rw [bQ bN (show(xl).length=64 from zA) (m:=64) rfl];rfl)) (cs':=af bM xl) (L':=(aC d (af bM xl) 198)::aC p (af aA bl) 149::L) (eX bN (show(xl).length=64 from zA) (by rw [bQ bN (show(xl).length=64 from zA) (m:=64) rfl];rfl)) rfl λd0 a5=>Lo (Ld (Lt (Le (Dz (aN.done (.inl rfl) (v:=.agg (af bM xl)) (λa hf=>gW rfl zk (ti:=Tryz.t198) zk zk (vs:=af bM xl) (bQ bN (show(xl).length=64 from zA) zk) (a5.cells 0 0 rfl zG) a hf) ⟨(by rw [q.2.2.1,show i=64 by omega];rfl),a5.dr 1⟩))))))))))))
end
section
variable {w0 w : World} {L : List cA}
theorem tv {α:Type}{f:Nat->α->α}{p:α->Prop}(hf:∀ n a,p a->p (f n a)) (n:Nat){a:α}(ha:p a):p (iter f n a):=by
 induction n with
 | zero=>exact ha
 | succ n ih=>exact hf n _ ih
theorem xY (bl:List Int):(sB bl).length=64 :=
 tv (p:=λl:List Int=>l.length=64) (λk a h=>tv (p:=λl:List Int=>l.length=64) (λj b h=>by unfold Ii;rw [List.length_set];exact h) 4 h) 16 (by rw [List.length_replicate])
theorem xZ (bl:List Int):(lI bl).length=64 :=
 tv (p:=λl:List Int=>l.length=64) (λk a h=>by unfold wG;rw [List.length_set];exact h) 48 (xY bl)
def shaT:List Int:=[1116352408,1899447441,3049323471,3921009573,961987163,1508970993,2453635748,2870763221,3624381080,310598401,607225278,1426881987,1925078388,2162078206,2614888103,3248222580,3835390401,4022224774,264347078,604807628,770255983,1249150122,1555081692,1996064986,2554220882,2821834349,2952996808,3210313671,3336571891,3584528711,113926993,338241895,666307205,773529912,1294757372,1396182291,1695183700,1986661051,2177026350,2456956037,2730485921,2820302411,3259730800,3345764771,3516065817,3600352804,4094571909,275423344,430227734,506948616,659060556,883997877,958139571,1322822218,1537002063,1747873779,1955562222,2024104815,2227730452,2361852424,2428436474,2756734187,3204031479,3329325298]
theorem uX:shaT.length=64:=zf
def jX (w:World):Prop:=aB w (some ⟨0,0,none⟩) 64 1 (λk=>bM (shaT.getD k 0))
abbrev T8:=Int×Int×Int×Int×Int×Int×Int×Int
def DN (ws:List Int) (k:Nat) (t:T8):T8:=(IntKind.u32.wrap ((IntKind.u32.wrap ((IntKind.u32.wrap ((IntKind.u32.wrap ((IntKind.u32.wrap (t.2.2.2.2.2.2.2+(dL .u32 (dL .u32 (dD t.2.2.2.2.1 6) (dD t.2.2.2.2.1 11)) (dD t.2.2.2.2.1 25))))+(dL .u32 (jS .u32 t.2.2.2.2.1 t.2.2.2.2.2.1) (jS .u32 (FR .u32 t.2.2.2.2.1) t.2.2.2.2.2.2.1))))+(shaT.getD k 0)))+(ws.getD k 0)))+(IntKind.u32.wrap ((dL .u32 (dL .u32 (dD t.1 2) (dD t.1 13)) (dD t.1 22))+(dL .u32 (dL .u32 (jS .u32 t.1 t.2.1) (jS .u32 t.1 t.2.2.1)) (jS .u32 t.2.1 t.2.2.1))))),
 t.1,
 t.2.1,
 t.2.2.1,
 IntKind.u32.wrap (t.2.2.2.1+(IntKind.u32.wrap ((IntKind.u32.wrap ((IntKind.u32.wrap ((IntKind.u32.wrap (t.2.2.2.2.2.2.2+(dL .u32 (dL .u32 (dD t.2.2.2.2.1 6) (dD t.2.2.2.2.1 11)) (dD t.2.2.2.2.1 25))))+(dL .u32 (jS .u32 t.2.2.2.2.1 t.2.2.2.2.2.1) (jS .u32 (FR .u32 t.2.2.2.2.1) t.2.2.2.2.2.2.1))))+(shaT.getD k 0)))+(ws.getD k 0)))),
 t.2.2.2.2.1,
 t.2.2.2.2.2.1,
 t.2.2.2.2.2.2.1)
def uY (t:T8):List Int:=[t.1,t.2.1,t.2.2.1,t.2.2.2.1,t.2.2.2.2.1,t.2.2.2.2.2.1,t.2.2.2.2.2.2.1,t.2.2.2.2.2.2.2]
def Ik (al:List Int) (j:Nat) (vl:List Int):List Int:=vl.set j (IntKind.u32.wrap ((vl.getD j 0)+(al.getD j 0)))
def eP (s bl:List Int):List Int:=iter (Ik (uY (iter (DN (lI bl)) 64 (s.getD 0 0,s.getD 1 0,s.getD 2 0,s.getD 3 0,s.getD 4 0,s.getD 5 0,s.getD 6 0,s.getD 7 0)))) 8 s
theorem Il {s bl:List Int}{xa xb xc xd xe xf xg xh:Int}(h:(xa,xb,xc,xd,xe,xf,xg,xh)=iter (DN (lI bl)) 64 (s.getD 0 0,s.getD 1 0,s.getD 2 0,s.getD 3 0,s.getD 4 0,s.getD 5 0,s.getD 6 0,s.getD 7 0)):iter (Ik [xa,xb,xc,xd,xe,xf,xg,xh]) 8 s=eP s bl:=by
 unfold eP
 rw [<- h]
 rfl
theorem fB {s:List Int}(h:s.length=8) (bl:List Int):(eP s bl).length=8 :=
 tv (p:=λl:List Int=>l.length=8) (λk a h=>by unfold Ik;rw [List.length_set];exact h) 8 h
theorem zH {p:Prop}(h:p:=by first|omega|(simp only [xZ,List.length_cons,List.length_nil];omega)):p:=h
theorem DO s bl (hs8:s.length=8) (hb:bl.length=64) (hT:∀ w,St w0 L w->jX w) (hs:St w0 L w):Cs Tryz.prog 134 #[.agg (af bM s),.agg (af aA bl)] w λrv w'=>rv=.agg (af bM (eP s bl))/\St w0 L w':=by
 refine cL Tryz.func134 Tryz.ntmps134 (En (Ls (Lg [0,1,2] (Dz (hG (af bM s) hs λe w2 a5=>Lo (Dz (hG (af aA bl) a5 λx w5 a6=>Lo (Dz (eN LS a6 λq w8 a7=>Lo (Ld (Lt (Ls (Dz (ZD (eR [0,1,2,3,4,5,6,7,8,9,10,11,12,13,14,15,16,17,18,19,20,21,22,23] .done) a7 λc0 i c1=>lD (Hx 0 (0:Int) (8:Int) e 0 1 (Hg 1 (.gen [.int .u32 (s.getD 0 0)]) [.cell ⟨e,0,none⟩ (.int .u32 (s.getD 0 0))] (bP (aB.dX (aI i 2 rfl bN.size (0:Int)) (k:=0) zo (j:=0) zf zk) aO) (Hx 2 (1:Int) (8:Int) e 0 1 (Hg 3 (.gen [.int .u32 (s.getD 1 0)]) [.cell ⟨e,1,none⟩ (.int .u32 (s.getD 1 0))] (bP (aB.dX (aI i 2 rfl bN.size (0:Int)) (k:=1) zo (j:=0) zf zk) aO) (Hx 4 (2:Int) (8:Int) e 0 1 (Hg 5 (.gen [.int .u32 (s.getD 2 0)]) [.cell ⟨e,2,none⟩ (.int .u32 (s.getD 2 0))] (bP (aB.dX (aI i 2 rfl bN.size (0:Int)) (k:=2) zo (j:=0) zf zk) aO) (Hx 6 (3:Int) (8:Int) e 0 1 (Hg 7 (.gen [.int .u32 (s.getD 3 0)]) [.cell ⟨e,3,none⟩ (.int .u32 (s.getD 3 0))] (bP (aB.dX (aI i 2 rfl bN.size (0:Int)) (k:=3) zo (j:=0) zf zk) aO) (Hx 8 (4:Int) (8:Int) e 0 1 (Hg 9 (.gen [.int .u32 (s.getD 4 0)]) [.cell ⟨e,4,none⟩ (.int .u32 (s.getD 4 0))] (bP (aB.dX (aI i 2 rfl bN.size (0:Int)) (k:=4) zo (j:=0) zf zk) aO) (Hx 10 (5:Int) (8:Int) e 0 1 (Hg 11 (.gen [.int .u32 (s.getD 5 0)]) [.cell ⟨e,5,none⟩ (.int .u32 (s.getD 5 0))] (bP (aB.dX (aI i 2 rfl bN.size (0:Int)) (k:=5) zo (j:=0) zf zk) aO) (Hx 12 (6:Int) (8:Int) e 0 1 (Hg 13 (.gen [.int .u32 (s.getD 6 0)]) [.cell ⟨e,6,none⟩ (.int .u32 (s.getD 6 0))] (bP (aB.dX (aI i 2 rfl bN.size (0:Int)) (k:=6) zo (j:=0) zf zk) aO) (Hx 14 (7:Int) (8:Int) e 0 1 (Hg 15 (.gen [.int .u32 (s.getD 7 0)]) [.cell ⟨e,7,none⟩ (.int .u32 (s.getD 7 0))] (bP (aB.dX (aI i 2 rfl bN.size (0:Int)) (k:=7) zo (j:=0) zf zk) aO) Hz)))))))))))))))) (En (Lt (Ls (Ls (Lg [0] (Dz (eE (DM bl zc (i.pl 1)) λc3 a9=>Lz (Lb (Dz (bH.loop (T:=Nat×Int×Int×Int×Int×Int×Int×Int×Int) (λgg=>[(2,zP e 0),(4,zP q 0),(5,.int .u32 gg.2.1),(6,.int .u32 gg.2.2.1),(7,.int .u32 gg.2.2.2.1),(8,.int .u32 gg.2.2.2.2.1),(9,.int .u32 gg.2.2.2.2.2.1),(10,.int .u32 gg.2.2.2.2.2.2.1),(11,.int .u32 gg.2.2.2.2.2.2.2.1),(12,.int .u32 gg.2.2.2.2.2.2.2.2),(35,.agg (af bM (lI bl))),(36,.int .i64 (gg.1:Nat))]) (λgg w=>(gg.1<=64/\(gg.2.1,gg.2.2.1,gg.2.2.2.1,gg.2.2.2.2.1,gg.2.2.2.2.2.1,gg.2.2.2.2.2.2.1,gg.2.2.2.2.2.2.2.1,gg.2.2.2.2.2.2.2.2)=iter (DN (lI bl)) gg.1 ((s.getD 0 0),s.getD 1 0,s.getD 2 0,s.getD 3 0,s.getD 4 0,s.getD 5 0,s.getD 6 0,(s.getD 7 0)))/\St w0 (aC x (af aA bl) 149::aC q LS 147::aC e (af bM s) 147::L) w) (λgg=>64-gg.1) (0,s.getD 0 0,s.getD 1 0,s.getD 2 0,s.getD 3 0,s.getD 4 0,s.getD 5 0,s.getD 6 0,(s.getD 7 0)) [2,4,5,6,7,8,9,10,11,12,35,36] zk ⟨⟨Nat.zero_le _,rfl⟩,a9⟩ ?_))))))))))))))))))))))))
 rintro⟨k,xa,xb,xc,xd,xe,xf,xg,xh⟩ c4 ⟨hp,z⟩
 dsimp only at hp z
 refine En (Lq (Ls (Dz (Zi ((k:Int)<64) (λb0=>?_) (λb0=>?_)))))
 ·exact Zk (Zt (Zs (Zb (Zs (cS (Hg 1 (.elem (.int .u32 ((lI bl).getD k 0))) [.prop (0<=(k:Int)/\(k:Int)<(64:Int)),.prop ((af bM (lI bl))[Int.toNat (k:Nat)*1]?=some (.int .u32 ((lI bl).getD k 0)))] (aL za (aL (Az (d:=(0:Int)) (k:=k) bN za zH zk) aO)) Hz) (Zt (Zs (ZD (eR [0,1,3,6,10,11,12,13,14,15,16,17,19,20,21,23] (.ef 2 (.ef 4 (.rd 5 (.ef 7 (eR [8,9,18,22,24,25] .done)))))) z λc5 a0 c6=>Zj (Hx 20 (k:Int) (64:Int) 0 0 1 (Hg 21 (.gen [.int .u32 (shaT.getD k 0)]) [.cell ⟨0,0+(k*1),none⟩ (.int .u32 (shaT.getD k 0))] (bP (aB.dX (hT _ (a0.drop 3)) (k:=k) zo (j:=0) zf zk) aO) Hz)) (eE (hU xe 6  a0) λc8 a1=>⟨fM (n:=[.cell ⟨0,0+(k*1),none⟩ (.int .u32 (shaT.getD k 0)),.prop (0<=(k:Int)/\(k:Int)<(64:Int)),.prop (Value.pointer (some (Addr.add ⟨0,0,none⟩ (Int.toNat (k:Nat)*1)))=Value.pointer (some ⟨0,0+(k*1),none⟩))]) zk (bP (aB.dX (hT _ (a1.drop 3)) (k:=k) zo (j:=0) zf zk) (aL za (aL (bK _ _ _) aO))),(eE (hU xe 11  a1) λd0 a2=>⟨fM (n:=[.cell ⟨0,0+(k*1),none⟩ (.int .u32 (shaT.getD k 0)),.prop (0<=(k:Int)/\(k:Int)<(64:Int)),.prop (Value.pointer (some (Addr.add ⟨0,0,none⟩ (Int.toNat (k:Nat)*1)))=Value.pointer (some ⟨0,0+(k*1),none⟩))]) zk (bP (aB.dX (hT _ (a2.drop 3)) (k:=k) zo (j:=0) zf zk) (aL za (aL (bK _ _ _) aO))),En (Lw (eE (hU xe 25  a2) λd2 a3=>⟨fM (n:=[.cell ⟨0,0+(k*1),none⟩ (.int .u32 (shaT.getD k 0)),.prop (0<=(k:Int)/\(k:Int)<(64:Int)),.prop (Value.pointer (some (Addr.add ⟨0,0,none⟩ (Int.toNat (k:Nat)*1)))=Value.pointer (some ⟨0,0+(k*1),none⟩))]) zk (bP (aB.dX (hT _ (a3.drop 3)) (k:=k) zo (j:=0) zf zk) (aL za (aL (bK _ _ _) aO))),En (bO (Lt (Ls (Lg [1,3,6] (Lw (eE (hU xa 2  a3) λd4 b2=>Lo (Lw (eE (hU xa 13  b2) λd6 b3=>Lo (Lw (eE (hU xa 22  b3) λd8 b5=>Lz (La (Lm (Lt (Dz (cS (dW 0 ((k:Nat)+1) Hz) (aN.back (k+1,IntKind.u32.wrap ((IntKind.u32.wrap ((IntKind.u32.wrap ((IntKind.u32.wrap ((IntKind.u32.wrap (xh+(dL .u32 (dL .u32 (dD xe 6) (dD xe 11)) (dD xe 25))))+(dL .u32 (jS .u32 xe xf) (jS .u32 (FR .u32 xe) xg))))+(shaT.getD k 0)))+((lI bl).getD k 0)))+(IntKind.u32.wrap ((dL .u32 (dL .u32 (dD xa 2) (dD xa 13)) (dD xa 22))+(dL .u32 (dL .u32 (jS .u32 xa xb) (jS .u32 xa xc)) (jS .u32 xb xc))))),xa,xb,xc,IntKind.u32.wrap (xd+(IntKind.u32.wrap ((IntKind.u32.wrap ((IntKind.u32.wrap ((IntKind.u32.wrap (xh+(dL .u32 (dL .u32 (dD xe 6) (dD xe 11)) (dD xe 25))))+(dL .u32 (jS .u32 xe xf) (jS .u32 (FR .u32 xe) xg))))+(shaT.getD k 0)))+((lI bl).getD k 0)))),xe,xf,xg) [2,4,5,6,7,8,9,10,11,12,35,36] zk (by show 64-(k+1)<64-k;omega) ⟨⟨za,by rw [fF,<- hp.2];rfl⟩,b5⟩))))))))))))))))⟩))⟩)⟩)))))))))
 ·refine En (Lx (kD (kE (Lh (Lt (Ls (Lq (Lb (Dz (bH.loop (T:=Nat×(List Int)) (λgg=>[(2,zP e 0),(4,zP q 0),(106,.agg (af bM ([xa,xb,xc,xd,xe,xf,xg,xh]))),(107,.int .i64 (gg.1:Nat))]) (λgg w=>(gg.1<=8/\gg.2=iter (Ik [xa,xb,xc,xd,xe,xf,xg,xh]) gg.1 s/\gg.2.length=8)/\St w0 (aC x (af aA bl) 149::aC q LS 147::aC e (af bM gg.2) 147::L) w) (λgg=>8-gg.1) (0,s) [2,4,106,107] zk ⟨⟨Nat.zero_le _,rfl,hs8⟩,z⟩ ?_))))))))))
  rintro⟨j,vl⟩ d9 ⟨o,u⟩
  dsimp only at o u
  refine En (Lq (Ls (Dz (Zi ((j:Int)<8) (λb6=>?_) (λb6=>?_)))))
  ·exact Zk (Zt (Zs (Zb (Zs (cS (Hg 1 (.elem (.int .u32 (([xa,xb,xc,xd,xe,xf,xg,xh]).getD j 0))) [.prop (0<=(j:Int)/\(j:Int)<(8:Int)),.prop ((af bM ([xa,xb,xc,xd,xe,xf,xg,xh]))[Int.toNat (j:Nat)*1]?=some (.int .u32 (([xa,xb,xc,xd,xe,xf,xg,xh]).getD j 0)))] (aL za (aL (Az (d:=(0:Int)) (k:=j) bN za zH zk) aO)) Hz) (Zt (bX [6] (Hx 1 (j:Int) (8:Int) e 0 1 (Hg 2 (.gen [.int .u32 (vl.getD j 0)]) [.cell ⟨e,0+(j*1),none⟩ (.int .u32 (vl.getD j 0))] (bP (aB.dX (aI u 2 rfl bN.size (0:Int)) (k:=j) zo (j:=0) zf zk) aO) (Hx 5 (j:Int) (8:Int) e 0 1 Hz))) (aU.store rfl rfl zk (b:=e) (off:=0+(j*1)) (v:=.int .u32 (IntKind.u32.wrap ((vl.getD j 0)+(([xa,xb,xc,xd,xe,xf,xg,xh]).getD j 0)))) zk zk (ti:=Tryz.t146) zk u 2 rfl zk zk (by rw [Nat.zero_add];exact fN (f:=bM) (size:=1) (l:=vl) (k:=j) bN.size zo) (cs':=af bM (vl.set j (IntKind.u32.wrap ((vl.getD j 0)+(([xa,xb,xc,xd,xe,xf,xg,xh]).getD j 0))))) (L':=(aC x (af aA bl) 149)::aC q LS 147::aC e (af bM (vl.set j (IntKind.u32.wrap ((vl.getD j 0)+(([xa,xb,xc,xd,xe,xf,xg,xh]).getD j 0))))) 147::L) (by rw [Nat.zero_add];exact eT (f:=bM) (size:=1) (l:=vl) (k:=j) bN.size zo (IntKind.u32.wrap ((vl.getD j 0)+(([xa,xb,xc,xd,xe,xf,xg,xh]).getD j 0)))) rfl λe0 b8=>Lo (Ld (Lm (Lt (Dz (cS (dW 0 ((j:Nat)+1) Hz) (aN.back (j+1,vl.set j (IntKind.u32.wrap ((vl.getD j 0)+(([xa,xb,xc,xd,xe,xf,xg,xh]).getD j 0)))) [2,4,106,107] zk (by show 8-(j+1)<8-j;omega) ⟨⟨za,by rw [fF,<- o.2.1];rfl,by simp only [List.length_set];exact o.2.2⟩,b8⟩))))))))))))))
  ·exact Zx (aN.cJ (aN.fJ (aN.iT (Zt (Zs (bX [1] (Hg 0 (.agg (af bM vl)) [.prop (Array.size (af bM vl)=8),.cells ⟨e,0,none⟩ (af bM vl)] (aL (bQ bN (show(vl).length=8 from o.2.2) rfl) (eM (u.cells 2 0 rfl zG) aO)) Hz) (aU.store rfl rfl zk (b:=q) (off:=0) (v:=.agg (af bM vl)) zk zk (ti:=Tryz.t147) zk u 1 rfl (cK bN (show(vl).length=8 from o.2.2) zk) (eQ bN) (eF bN (show(vl).length=8 from o.2.2) zk) (cs':=af bM vl) (L':=(aC x (af aA bl) 149)::aC q (af bM vl) 147::aC e (af bM vl) 147::L) (eX bN (show(vl).length=8 from o.2.2) zk) rfl λe1 a4=>Lo (Ld (Lt (Le (Dz (aN.done (.inl rfl) (v:=.agg (af bM vl)) (λa hf=>gW rfl zk (ti:=Tryz.t147) zk zk (vs:=af bM vl) (bQ bN (show(vl).length=8 from o.2.2) zk) (a4.cells 1 0 rfl zG) a hf) ⟨(by rw [o.2.1,show j=8 by omega];exact congrArg (λl=>Value.agg (af bM l)) (Il (hp.2.trans (by rw [show k=64 by omega])))),a4.dr 3⟩))))))))))))
end
end Go.Proofs.YtkmhmeldgfpfeaaGreatDoor
namespace Go.Proofs.YtkmhmeldgfpfeaaGreatDoor
open Go.RowKit Go.Sx
set_option linter.unusedVariables false
set_option linter.unusedSimpArgs false
set_option maxRecDepth 100000
set_option linter.unusedSectionVars false
theorem kQ:∀ (vs pre sM post:List Value),sM.length=vs.length->bZ (pre++sM++post).toArray pre.length vs=(pre++vs++post).toArray
 | [],pre,sM,post,h=>by
  have:sM=[]:=List.length_eq_zero_iff.1 h
  subst this
  rfl
 | v::vs,pre,m::sM,post,h=>by
  have h1:sM.length=vs.length:=by simpa using h
  have e:((pre++m::sM++post).toArray.setIfInBounds pre.length v)=((pre++[v])++sM++post).toArray:=by
   apply Array.ext'
   simp [List.set_append]
  have ih:=kQ vs (pre++[v]) sM post h1
  rw [List.length_append] at ih
  show bZ ((pre++m::sM++post).toArray.setIfInBounds pre.length v) (pre.length+1) vs=_
  rw [e]
  rw [show pre.length+1=pre.length+[v].length from rfl,ih]
  congr 1
  simp
 | _::_,_,[],_,h=>by simp at h
def lR (s part:List Int) (n all:Int):List Value:=s.map (Value.int .u32)++part.map (Value.int .u8)++[.int .i64 n,.int .u64 all]
def cH (s part:List Int) (n all:Int):Array Value:=(lR s part n all).toArray
theorem B9 (l:List Int):(af bM l)=(l.map (Value.int .u32)).toArray:=by
 apply Array.ext'
 simp only [af]
 induction l with
 | nil=>rfl
 | cons a l ih=>simp only [List.flatMap_cons,List.map_cons,ih];rfl
theorem qF (l:List Int):(l.flatMap λx=>(aA x).toList)=l.map (Value.int .u8):=by
 induction l with
 | nil=>rfl
 | cons a l ih=>simp only [List.flatMap_cons,List.map_cons,ih];rfl
theorem sC (l:List Int):(af aA l)=(l.map (Value.int .u8)).toArray:=by
 apply Array.ext'
 simp only [af]
 exact qF l
section
variable {s part : List Int} {n all : Int} (h8 : s.length = 8) (h64 : part.length = 64)
include h8 h64
theorem nN:(cH s part n all).size=74:=by
 simp only [cH,lR,List.size_toArray,List.length_append,List.length_map,List.length_cons,List.length_nil];omega
theorem AP:(cH s part n all)[72]?=some (.int .i64 n):=by
 simp only [cH,lR,List.getElem?_toArray]
 rw [List.getElem?_append_right (by simp only [List.length_append,List.length_map];omega)]
 simp only [List.length_append,List.length_map,h8,h64]
 rfl
theorem Ca:(cH s part n all)[73]?=some (.int .u64 all):=by
 simp only [cH,lR,List.getElem?_toArray]
 rw [List.getElem?_append_right (by simp only [List.length_append,List.length_map];omega)]
 simp only [List.length_append,List.length_map,h8,h64]
 rfl
theorem Im:(cH s part n all).extract 0 (0+(af bM s).size)=af bM s:=by
 rw [B9]
 apply Array.ext'
 simp only [cH,lR,List.extract_toArray,List.size_toArray,List.length_map,List.extract_eq_take_drop,List.drop_zero,Nat.zero_add,Nat.sub_zero,List.append_assoc]
 exact List.take_left' (List.length_map ..)
theorem Gl:(cH s part n all).extract 8 (8+(af aA part).size)=af aA part:=by
 rw [sC]
 apply Array.ext'
 simp only [cH,lR,List.extract_toArray,List.size_toArray,List.length_map,List.extract_eq_take_drop,Nat.add_sub_cancel_left]
 rw [List.append_assoc,List.drop_left' (by rw [List.length_map,h8]),List.take_left' (List.length_map ..)]
theorem Ln (m:Int):bZ (cH s part n all) 72 [.int .i64 m]=cH s part m all:=by
 have:=kQ [.int .i64 m] (s.map (Value.int .u32)++part.map (Value.int .u8)) [.int .i64 n] [.int .u64 all] rfl
 rw [show(s.map (Value.int .u32)++part.map (Value.int .u8)).length=72 by simp only [List.length_append,List.length_map];omega] at this
 simpa [cH,lR] using this
theorem Kd (m:Int):bZ (cH s part n all) 73 [.int .u64 m]=cH s part n m:=by
 have:=kQ [.int .u64 m] (s.map (Value.int .u32)++part.map (Value.int .u8)++[.int .i64 n]) [.int .u64 all] [] rfl
 rw [show(s.map (Value.int .u32)++part.map (Value.int .u8)++[Value.int .i64 n]).length=73 by simp only [List.length_append,List.length_map,List.length_cons,List.length_nil];omega] at this
 simpa [cH,lR] using this
theorem MQ {s':List Int}(h:s'.length=8):bZ (cH s part n all) 0 (Value.cells (.agg (af bM s'))).toList=cH s' part n all:=by
 have:=kQ (s'.map (Value.int .u32)) [] (s.map (Value.int .u32)) (part.map (Value.int .u8)++[.int .i64 n,.int .u64 all]) (by rw [List.length_map,List.length_map,h8,h])
 have e:(Value.cells (.agg (af bM s'))).toList=s'.map (Value.int .u32):=by show(af bM s').toList=_;rw [B9]
 rw [e]
 simpa [cH,lR] using this
theorem Gm {s' part':List Int}{n' all':Int}(h8':s'.length=8) (h64':part'.length=64):bZ (cH s part n all) 0 (Value.cells (.agg (cH s' part' n' all'))).toList=cH s' part' n' all':=by
 have:=kQ (lR s' part' n' all') [] (lR s part n all) [] (by simp only [lR,List.length_append,List.length_map,List.length_cons,List.length_nil];omega)
 rw [List.nil_append,List.append_nil,List.nil_append,List.append_nil] at this
 exact this
def dA (part:List Int) (a:Nat) (ys:List Int):List Int:=part.take a++ys++part.drop (a+ys.length)
omit h8 in
theorem AQ {a:Nat}{ys:List Int}(h:a+ys.length<=64):(dA part a ys).length=64:=by
 simp only [dA,List.length_append,List.length_take,List.length_drop];omega
theorem Io {a:Nat}{ys:List Int}(h:a+ys.length<=64):bZ (cH s part n all) (8+a) (ys.flatMap λx=>(aA x).toList)=cH s (dA part a ys) n all:=by
 have e1:part=part.take a++(part.drop a).take ys.length++part.drop (a+ys.length):=by
  rw [List.append_assoc,<- List.drop_drop,List.take_append_drop,List.take_append_drop]
 have:=kQ (ys.map (Value.int .u8)) (s.map (Value.int .u32)++(part.take a).map (Value.int .u8)) (((part.drop a).take ys.length).map (Value.int .u8)) ((part.drop (a+ys.length)).map (Value.int .u8)++[.int .i64 n,.int .u64 all])
  (by simp only [List.length_map,List.length_take,List.length_drop];omega)
 rw [show(s.map (Value.int .u32)++(part.take a).map (Value.int .u8)).length=8+a by simp only [List.length_append,List.length_map,List.length_take];omega] at this
 rw [qF]
 have e2:lR s part n all=s.map (Value.int .u32)++(part.take a).map (Value.int .u8)++((part.drop a).take ys.length).map (Value.int .u8)++((part.drop (a+ys.length)).map (Value.int .u8)++[.int .i64 n,.int .u64 all]):=by
  conv=>lhs;rw [lR,e1]
  simp only [List.map_append,List.append_assoc]
 have e3:lR s (dA part a ys) n all=s.map (Value.int .u32)++(part.take a).map (Value.int .u8)++ys.map (Value.int .u8)++((part.drop (a+ys.length)).map (Value.int .u8)++[.int .i64 n,.int .u64 all]):=by
  simp only [lR,dA,List.map_append,List.append_assoc]
 rw [cH,cH,e2,e3]
 exact this
end
abbrev HS:=List Int×List Int×Nat
structure ui (h:HS):Prop where
 s:h.1.length=8
 part:h.2.1.length=64
 n:h.2.2<64
def vF (h:HS) (l:List Int):Nat:=min l.length (64-h.2.2)
def qG (h:HS) (l:List Int):List Int:=dA h.2.1 h.2.2 (l.take (vF h l))
def lJ (h:HS) (l:List Int):HS:=if h.2.2+vF h l=64 then (eP h.1 (qG h l),qG h l,0) else (h.1,qG h l,h.2.2+vF h l)
def Hy:Nat->HS->List Int->HS
 | 0,h,_=>h
 | f+1,h,l=>if l.length=0 then h else Hy f (lJ h l) (l.drop (vF h l))
def jJ (h:HS) (l:List Int):HS:=Hy l.length h l
theorem dF {h:HS}(ok:ui h) (l:List Int):(qG h l).length=64:=by
 have h1:=ok.part;have h2:=ok.n
 refine AQ h1 ?_
 rw [List.length_take]
 unfold vF
 omega
theorem mx {h:HS}(ok:ui h) (l:List Int):ui (lJ h l):=by
 unfold lJ
 split
 ·exact⟨fB ok.s _,dF ok l,by show(0:Nat)<64;omega⟩
 ·rename_i hn
  refine⟨ok.s,dF ok l,?_⟩
  show h.2.2+vF h l<64
  have h2:=ok.n
  have:vF h l<=64-h.2.2:=Nat.min_le_right _ _
  omega
theorem yD:∀ (f g:Nat) (h:HS) (l:List Int),ui h->l.length<=f->l.length<=g->Hy f h l=Hy g h l
 | 0,0,_,_,_,_,_=>rfl
 | 0,g+1,h,l,ok,hf,_=>by
  have h0:l.length=0:=za
  rw [Hy,Hy,if_pos h0]
 | f+1,0,h,l,ok,_,hg=>by
  have h0:l.length=0:=za
  rw [Hy,Hy,if_pos h0]
 | f+1,g+1,h,l,ok,hf,hg=>by
  rw [Hy,Hy]
  by_cases h0:l.length=0
  ·rw [if_pos h0,if_pos h0]
  ·rw [if_neg h0,if_neg h0]
   have hk:1<=vF h l:=by unfold vF;have:=ok.n;omega
   exact yD f g _ _ (mx ok l) zM zM
theorem wH {h:HS}(ok:ui h){l:List Int}(hl:0<l.length):jJ h l=jJ (lJ h l) (l.drop (vF h l)):=by
 have hk:1<=vF h l:=by unfold vF;have:=ok.n;omega
 unfold jJ
 obtain⟨f,hf⟩:∃ f,l.length=f+1:=⟨l.length-1,za⟩
 rw [hf,Hy,if_neg za]
 exact yD _ _ _ _ (mx ok l) zM (Nat.le_refl _)
theorem Fh {h:HS}{l:List Int}(hl:¬ 0<l.length):jJ h l=h:=by
 unfold jJ
 rw [show l.length=0 by omega]
 rfl
theorem fO {h:HS}(ok:ui h) (l:List Int):ui (jJ h l):=by
 unfold jJ
 generalize l.length=f
 induction f generalizing h l with
 | zero=>exact ok
 | succ f ih =>
  rw [Hy]
  split
  ·exact ok
  ·exact ih (mx ok l) _
theorem Ke {h:HS}(x:Int):jJ h [x]=lJ h [x]:=rfl
theorem uj {h:HS}(ok:ui h) (x:Int):(jJ h [x]).2.2=if h.2.2+1=64 then 0 else h.2.2+1:=by
 have hn:=ok.n
 have hk:vF h [x]=1:=by unfold vF;simp only [List.length_cons,List.length_nil];omega
 rw [Ke,lJ,hk]
 split<;>rfl
def Mb:Nat->HS->HS
 | 0,h=>h
 | f+1,h=>Mb f (jJ h [0])
def pad (h:HS):HS:=Mb ((120-h.2.2) % 64) h
theorem Ip {h:HS}(ok:ui h) (hn:h.2.2≠56):pad (jJ h [0])=pad h:=by
 have h1:=uj ok 0
 have h2:=ok.n
 unfold pad
 rw [h1]
 have e:(120-h.2.2) % 64=(120-(if h.2.2+1=64 then 0 else h.2.2+1)) % 64+1:=by split<;>omega
 rw [e]
 rfl
theorem Iq {h:HS}(ok:ui h) (hn:h.2.2≠56):(120-(jJ h [0]).2.2) % 64<(120-h.2.2) % 64:=by
 have h1:=uj ok 0
 have h2:=ok.n
 rw [h1]
 split<;>omega
theorem Kf {h:HS}(hn:h.2.2=56):pad h=h:=by unfold pad;rw [hn];rfl
theorem Gn (s part:List Int) (n all:Int):(Value.cells (.agg (cH s part n all))).toList.all vt=true:=by
 show(lR s part n all).all vt=true
 rw [List.all_eq_true]
 intro u hu
 simp only [lR,List.mem_append,List.mem_map,List.mem_cons,List.not_mem_nil,or_false] at hu
 rcases hu with(⟨x,-,rfl⟩|⟨x,-,rfl⟩)|(rfl|rfl)<;>rfl
theorem DP {s part:List Int}{n all:Int}(h8:s.length=8) (h64:part.length=64):(cH s part n all).extract 0 (0+(cH s part n all).size)=cH s part n all:=by
 rw [Nat.zero_add,Array.extract_size]
theorem Kg {l ys:List Int}{a:Nat}(h:a+ys.length<=l.length):bZ (af aA l) a (ys.flatMap λx=>(aA x).toList)=af aA (dA l a ys):=by
 have e1:l=l.take a++(l.drop a).take ys.length++l.drop (a+ys.length):=by
  rw [List.append_assoc,<- List.drop_drop,List.take_append_drop,List.take_append_drop]
 have:=kQ (ys.map (Value.int .u8)) ((l.take a).map (Value.int .u8)) (((l.drop a).take ys.length).map (Value.int .u8)) ((l.drop (a+ys.length)).map (Value.int .u8)) (by simp only [List.length_map,List.length_take,List.length_drop];omega)
 rw [show((l.take a).map (Value.int .u8)).length=a by simp only [List.length_map,List.length_take];omega] at this
 rw [qF,sC,sC]
 have e2:l.map (Value.int .u8)=(l.take a).map (Value.int .u8)++((l.drop a).take ys.length).map (Value.int .u8)++(l.drop (a+ys.length)).map (Value.int .u8):=by
  conv=>lhs;rw [e1]
  simp only [List.map_append]
 have e3:(dA l a ys).map (Value.int .u8)=(l.take a).map (Value.int .u8)++ys.map (Value.int .u8)++(l.drop (a+ys.length)).map (Value.int .u8):=by
  simp only [dA,List.map_append]
 rw [e2,e3]
 exact this
theorem yE {l ys:List Int}{a:Nat}(h:a+ys.length<=l.length):(dA l a ys).length=l.length:=by
 simp only [dA,List.length_append,List.length_take,List.length_drop];omega
end Go.Proofs.YtkmhmeldgfpfeaaGreatDoor
namespace Go.Proofs.YtkmhmeldgfpfeaaGreatDoor
open Go.RowKit Go.Sx
set_option linter.unusedVariables false
set_option linter.unusedSimpArgs false
set_option linter.unnecessarySimpa false
set_option maxRecDepth 100000
section
variable {w0 w : World} {L : List cA}
theorem rF {s part:List Int}{n all:Int}(h8:s.length=8) (h64:part.length=64){m:Nat}(h:m<=74):m<=(cH s part n all).size:=by rw [nN h8 h64];exact h
theorem mA {h:Nat}{ad0:Option Addr}{c0:Nat}s0 p0 n0 all l (hk0:ui (s0,p0,n0)) (hcap:l.length<=c0) (hln:l.length<=1000000000000) (hT:∀ w,St w0 L w->jX w) (hr:Rw w0 L aA 1 0 ad0 l) (hs:St w0 (aC h (cH s0 p0 n0 all) 197::L) w):Cs Tryz.prog 89 #[zP h 0,.slice ad0 l.length c0] w λrv w'=>rv=.tuple #[]/\St w0 (aC h (cH ((jJ (s0,p0,n0) l).1) ((jJ (s0,p0,n0) l).2.1) ((jJ (s0,p0,n0) l).2.2:Nat) (IntKind.u64.wrap (all+(IntKind.u64.wrap (l.length:Nat))))) 197::L) w':=by
 refine cL Tryz.func89 Tryz.ntmps89 (En (Ls (Lq (LF (Lk (Lt (Ls (Dz (bX [10] (Hg 3 (.gen [.int .u64 all]) [.cell ⟨h,73,none⟩ (.int .u64 all)] (bP (hs.cell 0 rfl (Ca hk0.s hk0.part)) aO) Hz) (aU.store rfl rfl zk (b:=h) (off:=73) (v:=.int .u64 (IntKind.u64.wrap (all+(IntKind.u64.wrap (l.length:Nat))))) zk zk (ti:=Tryz.t29) zk hs 0 rfl zk zk (rF hk0.s hk0.part (Nat.le_of_ble_eq_true zk)) (cs':=cH s0 p0 (n0:Nat) (IntKind.u64.wrap (all+(IntKind.u64.wrap (l.length:Nat))))) (L':=(aC h (cH s0 p0 (n0:Nat) (IntKind.u64.wrap (all+(IntKind.u64.wrap (l.length:Nat))))) 197)::L) (Kd hk0.s hk0.part _) rfl λw1 z=>Lo (Ld (Lt (Lb (Dz (bH.loop (T:=(List Int)×(List Int)×Nat×(Option Addr)×Nat×(List Int)) (λgg=>[(0,zP h 0),(1,.slice gg.2.2.2.1 gg.2.2.2.2.2.length gg.2.2.2.2.1)]) (λgg w=>(ui (gg.1,gg.2.1,gg.2.2.1)/\gg.2.2.2.2.2.length<=gg.2.2.2.2.1/\jJ (gg.1,gg.2.1,gg.2.2.1) gg.2.2.2.2.2=jJ (s0,p0,n0) l/\(∀ w,St w0 L w->aB w gg.2.2.2.1 gg.2.2.2.2.2.length 1 (λk=>aA (gg.2.2.2.2.2.getD k 0))))/\St w0 (aC h (cH gg.1 gg.2.1 (gg.2.2.1:Nat) (IntKind.u64.wrap (all+(IntKind.u64.wrap (l.length:Nat))))) 197::L) w) (λgg=>gg.2.2.2.2.2.length) (s0,p0,n0,ad0,c0,l) [0,1] zk ⟨⟨hk0,hcap,rfl,hr⟩,z⟩ ?_)))))))))))))))
 rintro⟨s,part,n,ad,c,r⟩ w3 ⟨hp,i⟩
 dsimp only at hp i
 obtain⟨ok,hrc,heq,hrow⟩:=hp
 have hn:n<64:=ok.n
 refine En (Ls (Lq (Dz (Zi ((r.length:Int)>0) (λa0=>?_) (λa0=>?_)))))
 ·have e:0<r.length:=za
  refine Zk (Zt (Zb (Zs (ZD (eR [0,1,2,3,4,5,6,7,8] (.ef 9 (.rd 10 .done))) i λw7 o a5=>Zj (Hg 6 (.gen [.int .i64 (n:Nat)]) [.cell ⟨h,72,none⟩ (.int .i64 (n:Nat))] (bP (o.cell 0 rfl (AP ok.s ok.part)) aO) (Hg 7 (.eJ (zL h (8+(n*1)) (64-n) (64-n)) (.sub n 64)) [.prop ((n:Int)=(n:Int)),.prop (((some (Operand.tmp 26))=none->(n:Nat)=0)/\((none:Option Operand)=none->(64:Nat)=64)/\(n:Nat)<=64/\(64:Nat)<=64),.prop (Value.slice (some (if 64=n then Addr.mk h 8 none else (Addr.mk h 8 none).add (n*1))) (64-n) (64-n)=Value.slice (some ⟨h,8+(n*1),none⟩) (64-n) (64-n))] (aL za (aL ⟨(by first|(intro _;rfl)|(intro hc;cases hc)),(by first|(intro _;rfl)|(intro hc;cases hc)),za,za⟩ (aL (Ay za za) aO))) Hz)) (aU.copy rfl zk aP aF (b:=h) (off:=8+(n*1)) (dLen:=64-n) (dCap:=(64-n)) (ys:=r) (adx:=ad) (cx:=c) (0:Int) zk o ((λw h=>hrow w (h.drop 1)) _ o) (by rw [nN ok.s ok.part];omega) (cs':=cH s (dA part n (r.take (min r.length (64-n)))) (n:Nat) (IntKind.u64.wrap (all+(IntKind.u64.wrap (l.length:Nat))))) (by rw [Nat.mul_one];exact Io ok.s ok.part zK) λa6 x=>Lz (Ls (Dz (cS (Hg 2 (.eJ (.slice (eA ad c (min r.length (64-n)) 1) ((r.drop (min r.length (64-n))).length) (c-(min r.length (64-n)))) (.sub (min r.length (64-n)) r.length)) [.prop (((min r.length (64-n):Nat):Int)=(((min r.length (64-n)):Nat):Int)),.prop ((some (Operand.tmp 31)=none->((min r.length (64-n)):Nat)=0)/\((none:Option Operand)=none->(r.length:Nat)=r.length)/\((min r.length (64-n)):Nat)<=r.length/\(r.length:Nat)<=c),.prop (Value.slice (if c=(min r.length (64-n)) then ad else (ad:Option Addr).map (λa=>a.add ((min r.length (64-n))*1))) (r.length-(min r.length (64-n))) (c-(min r.length (64-n)))=Value.slice (eA ad c (min r.length (64-n)) 1) ((r.drop (min r.length (64-n))).length) (c-(min r.length (64-n))))] (aL za (aL ⟨(by first|(intro _;rfl)|(intro hc;cases hc)),(by first|(intro _;rfl)|(intro hc;cases hc)),za,za⟩ (aL (rT zw) aO))) Hz) (Zt (Zs (bX [8] (Hg 3 (.gen [.int .i64 (n:Nat)]) [.cell ⟨h,72,none⟩ (.int .i64 (n:Nat))] (bP (x.cell 0 rfl (AP ok.s (dF ok r))) aO) (dW 5 ((n:Nat)+(min r.length (64-n):Nat)) Hz)) (aU.store rfl rfl zk (b:=h) (off:=72) (v:=.int .i64 ((n:Nat)+(min r.length (64-n):Nat))) zk zk (ti:=Tryz.t3) zk x 0 rfl zk zk (rF ok.s (dF ok r) (Nat.le_of_ble_eq_true zk)) (cs':=cH s (dA part n (r.take (min r.length (64-n)))) ((n:Nat)+(min r.length (64-n):Nat)) (IntKind.u64.wrap (all+(IntKind.u64.wrap (l.length:Nat))))) (L':=(aC h (cH s (dA part n (r.take (min r.length (64-n)))) ((n:Nat)+(min r.length (64-n):Nat)) (IntKind.u64.wrap (all+(IntKind.u64.wrap (l.length:Nat))))) 197)::L) (Ln ok.s (dF ok r) _) rfl λa7 f=>Lo (Ld (Lt (Ls (Dz (cS (Hg 3 (.gen [.int .i64 ((n:Nat)+(min r.length (64-n):Nat))]) [.cell ⟨h,72,none⟩ (.int .i64 ((n:Nat)+(min r.length (64-n):Nat)))] (bP (f.cell 0 rfl (AP ok.s (dF ok r))) aO) Hz) (Zt (cZ (t:=(((n:Nat)+(min r.length (64-n):Nat)):Int) == 64) (λq=>?_) (λq=>?_))))))))))))))))))))
  ·have a1:=iV q
   refine ZD (eR [0,1,2,3,4,5,6,7,8,9] (.ef 10 (eR [11,12] (.ef 13 (eR [14,15] (.ef 16 .done)))))) f λa8 u a9=>Zj (Hg 5 (.agg (af bM s)) [.prop (Array.size (af bM s)=8),.cells ⟨h,0,none⟩ (af bM s)] (aL (bQ bN (show(s).length=8 from ok.s) rfl) (eM (u.cells 0 0 rfl (Im ok.s (dF ok r))) aO)) (Hg 9 (.agg (af aA (dA part n (r.take (min r.length (64-n)))))) [.prop (Array.size (af aA (dA part n (r.take (min r.length (64-n)))))=64),.cells ⟨h,8,none⟩ (af aA (dA part n (r.take (min r.length (64-n)))))] (aL (bQ aF (show(dA part n (r.take (min r.length (64-n)))).length=64 from(dF ok r)) rfl) (eM (u.cells 0 8 rfl (Gl ok.s (dF ok r))) aO)) Hz)) (eE (DO s (dA part n (r.take (min r.length (64-n)))) ok.s (dF ok r) (λw h=>hT w (h.drop 1)) u) λb1 a2=>Lo (Lw (aU.store rfl rfl zk (b:=h) (off:=0) (v:=.agg (af bM (eP s (dA part n (r.take (min r.length (64-n))))))) zk zk (ti:=Tryz.t147) zk a2 0 rfl (cK bN (show(eP s (dA part n (r.take (min r.length (64-n))))).length=8 from(fB ok.s _)) zk) (eQ bN) (by rw [Nat.zero_add,cK bN (show(eP s (dA part n (r.take (min r.length (64-n))))).length=8 from(fB ok.s _)) (m:=8) rfl];exact rF ok.s (dF ok r) zf) (cs':=cH (eP s (dA part n (r.take (min r.length (64-n))))) (dA part n (r.take (min r.length (64-n)))) ((n:Nat)+(min r.length (64-n):Nat)) (IntKind.u64.wrap (all+(IntKind.u64.wrap (l.length:Nat))))) (L':=(aC h (cH (eP s (dA part n (r.take (min r.length (64-n))))) (dA part n (r.take (min r.length (64-n)))) ((n:Nat)+(min r.length (64-n):Nat)) (IntKind.u64.wrap (all+(IntKind.u64.wrap (l.length:Nat))))) 197)::L) (MQ ok.s (dF ok r) (show(eP s (dA part n (r.take (min r.length (64-n))))).length=8 from(fB ok.s _))) rfl λb2 a3=>Lo (Lw (aU.store rfl rfl zk (b:=h) (off:=72) (v:=.int .i64 0) zk zk (ti:=Tryz.t3) zk a3 0 rfl zk zk (rF (fB ok.s _) (dF ok r) (Nat.le_of_ble_eq_true zk)) (cs':=cH (eP s (dA part n (r.take (min r.length (64-n))))) (dA part n (r.take (min r.length (64-n)))) 0 (IntKind.u64.wrap (all+(IntKind.u64.wrap (l.length:Nat))))) (L':=(aC h (cH (eP s (dA part n (r.take (min r.length (64-n))))) (dA part n (r.take (min r.length (64-n)))) 0 (IntKind.u64.wrap (all+(IntKind.u64.wrap (l.length:Nat))))) 197)::L) (Ln (fB ok.s _) (dF ok r) _) rfl λb3 a4=>Lo (Ld (Lm (Dz ?_))))))))
   have hst:lJ (s,part,n) r=(eP s (dA part n (r.take (min r.length (64-n)))),dA part n (r.take (min r.length (64-n))),0):=by unfold lJ qG vF;exact if_pos (by show n+min r.length (64-n)=64;omega)
   exact aN.back (eP s (dA part n (r.take (min r.length (64-n)))),dA part n (r.take (min r.length (64-n))),0,eA ad c (min r.length (64-n)) 1,c-(min r.length (64-n)),r.drop (min r.length (64-n))) [0,1] zk (by show(r.drop (min r.length (64-n))).length<r.length;show(List.drop _ r).length<_;rw [List.length_drop];omega) ⟨⟨(by have d:=mx ok r;rw [hst] at d;exact d),(by show(List.drop _ r).length<=c-min r.length (64-n);rw [List.length_drop];omega),(by rw [<- heq,wH ok e,hst];rfl),λw h=>aB.yr (hrow w h) hrc za⟩,a4⟩
  ·have a1:=jC q
   refine Zk (Zm ?_)
   rw [<- Int.natCast_add] at f
   have hst:lJ (s,part,n) r=(s,dA part n (r.take (min r.length (64-n))),n+(min r.length (64-n))):=by unfold lJ qG vF;exact if_neg (by show ¬ n+min r.length (64-n)=64;omega)
   exact aN.back (s,dA part n (r.take (min r.length (64-n))),n+(min r.length (64-n)),eA ad c (min r.length (64-n)) 1,c-(min r.length (64-n)),r.drop (min r.length (64-n))) [0,1] zk (by show(r.drop (min r.length (64-n))).length<r.length;show(List.drop _ r).length<_;rw [List.length_drop];omega) ⟨⟨(by have d:=mx ok r;rw [hst] at d;exact d),(by show(List.drop _ r).length<=c-min r.length (64-n);rw [List.length_drop];omega),(by rw [<- heq,wH ok e,hst];rfl),λw h=>aB.yr (hrow w h) hrc za⟩,f⟩
 ·have e:¬ 0<r.length:=za
  refine Zx (aN.cJ (aN.fJ (aN.iT (aN.done (.inr rfl) (λa hf=>results0 rfl a hf) ?_))))
  have hfin:(s,part,n)=jJ (s0,p0,n0) l:=by rw [<- heq,Fh e]
  exact⟨rfl,by rw [<- hfin];exact i⟩
end
section
variable {w0 w : World} {L : List cA}
def cX:List Int:=[1779033703,3144134277,1013904242,2773480762,1359893119,2600822924,528734635,1541459225]
def Cb:HS:=(cX,List.replicate 64 0,0)
theorem fG:ui Cb:=⟨rfl,rfl,by show(0:Nat)<64;omega⟩
theorem ya (hs:St w0 L w):Cs Tryz.prog 133 #[] w λrv w'=>rv=.agg MF/\St w0 L w':=by
 exact cL Tryz.func133 Tryz.ntmps133 (En (Ls (Lg [0] (Dz (eN LS hs λe f b=>Lo (Ld (Lt (Ls (Lg [1] (Lw (Zu 0 0 MF b λi a=>Lo (Ld (Lt (Le (Dz (mJ 0 a ⟨rfl,a.dr 1⟩))))))))))))))))
theorem qH (hs:St w0 L w):Cs Tryz.prog 88 #[] w λrv w'=>∃ h,rv=zP h 0/\St w0 (aC h (cH cX (List.replicate 64 0) (0:Nat) 0) 197::L) w':=by
 refine cL Tryz.func88 Tryz.ntmps88 (En (Lq (Ls (Lg [0,2] (Dz (eE (ya hs) λo b=>Lo (Lw (hG #[.int .u32 1779033703,.int .u32 3144134277,.int .u32 1013904242,.int .u32 2773480762,.int .u32 1359893119,.int .u32 2600822924,.int .u32 528734635,.int .u32 1541459225,.int .u8 0,.int .u8 0,.int .u8 0,.int .u8 0,.int .u8 0,.int .u8 0,.int .u8 0,.int .u8 0,.int .u8 0,.int .u8 0,.int .u8 0,.int .u8 0,.int .u8 0,.int .u8 0,.int .u8 0,.int .u8 0,.int .u8 0,.int .u8 0,.int .u8 0,.int .u8 0,.int .u8 0,.int .u8 0,.int .u8 0,.int .u8 0,.int .u8 0,.int .u8 0,.int .u8 0,.int .u8 0,.int .u8 0,.int .u8 0,.int .u8 0,.int .u8 0,.int .u8 0,.int .u8 0,.int .u8 0,.int .u8 0,.int .u8 0,.int .u8 0,.int .u8 0,.int .u8 0,.int .u8 0,.int .u8 0,.int .u8 0,.int .u8 0,.int .u8 0,.int .u8 0,.int .u8 0,.int .u8 0,.int .u8 0,.int .u8 0,.int .u8 0,.int .u8 0,.int .u8 0,.int .u8 0,.int .u8 0,.int .u8 0,.int .u8 0,.int .u8 0,.int .u8 0,.int .u8 0,.int .u8 0,.int .u8 0,.int .u8 0,.int .u8 0,.int .i64 0,.int .u64 0] b λa d e=>Lz (Le (Dz (bL (v:=zP a 0) ?_)))))))))))
 have f:St w0 (aC a (cH cX (List.replicate 64 0) (0:Nat) 0) 197::L) d:=Eq.mp zk e
 exact⟨a,rfl,f⟩
end
section
variable {w0 w : World} {L : List cA} {ad : Option Addr} {c : Nat}
def DQ (n:Int) (j:Nat):Int:=IntKind.u8.wrap (bF .u64 n (8*(7-(j:Int))))
def Gp (n:Int) (y:Nat) (h:HS):HS:=iter (λj g=>jJ g [DQ n j]) y h
theorem yF (n:Int) (y:Nat) (h:HS):Gp n (y+1) h=jJ (Gp n y h) [DQ n y]:=rfl
def Cc (x:Int):List Int:=[IntKind.u8.wrap (bF .u32 x 24),IntKind.u8.wrap (bF .u32 x 16),IntKind.u8.wrap (bF .u32 x 8),IntKind.u8.wrap x]
def AR (s:List Int) (k:Nat):List Int:=iter (λi l=>dA l (4*i) (Cc (s.getD i 0))) k (List.replicate 32 0)
theorem uk (s:List Int) (k:Nat):AR s (k+1)=dA (AR s k) (4*k) (Cc (s.getD k 0)):=rfl
def nX (h:HS) (all:Int):List Int:=AR (Gp (IntKind.u64.wrap (all*8)) 8 (pad (jJ h [(128:Int)]))).1 8
theorem fP (s:List Int):∀ k,k<=8->(AR s k).length=32
 | 0,_=>rfl
 | k+1,h=>by
  have ih:=fP s k za
  rw [uk,yE (by rw [ih];simp only [Cc,List.length_cons,List.length_nil];omega),ih]
theorem tw {h:Nat}s0 p0 n0 all (hk0:ui (s0,p0,n0)) (hT:∀ w,St w0 L w->jX w) (hs:St w0 (aC h (cH s0 p0 n0 all) 197::L) w):Cs Tryz.prog 90 #[zP h 0] w λrv w'=>rv=.agg (af aA (nX (s0,p0,n0) all))/\St w0 (aC h (cH s0 p0 (n0:Nat) all) 197::L) w':=by
 refine enter (args:=[zP h 0]) Tryz.func90 rfl Tryz.ntmps90 (Nat.le_of_ble_eq_true zk) (Zn [(0,zP h 0)] (Zs (gC (.ef 0 .done) (eN sK hs λo w2 b0=>⟨jI,Zd (Zt (Zs (gC (.ef 0 (.rd 1 .done)) (dE (f:=88) (args:=#[]) Tryz.call88 (qH b0) ?_))))⟩))))
 rintro v6 w7 ⟨q,rfl,a6⟩
 refine⟨jI,Zr 1 1 [] (Zd (Zt (Zs (Zs (gC (.rd 0 (.rd 1 .done)) (Zr 0 2 [] (Zd (Zt (N1 (gC (.rd 0 (.rd 1 (.rd 2 (.rd 3 (.rd 4 (.ef 5 .done)))))) (Zp 0 5 [(3,.agg (cH s0 p0 (n0:Nat) all))] [(3,[.prop (Array.size (cH s0 p0 (n0:Nat) all)=74),.cells ⟨h,0,none⟩ (cH s0 p0 (n0:Nat) all)])] (ak (aL (nN (show s0.length=8 from hk0.s) (show p0.length=64 from hk0.part)) (eM (a6.cells 2 0 rfl (DP (show s0.length=8 from hk0.s) (show p0.length=64 from hk0.part))) aO)) gQ) (aU.store rfl rfl zk (b:=q) (off:=0) (v:=.agg (cH s0 p0 (n0:Nat) all)) zk zk (ti:=Tryz.t197) zk a6 0 rfl (nN (show s0.length=8 from hk0.s) (show p0.length=64 from hk0.part)) (Gn _ _ _ _) (by show 0+(cH _ _ _ _).size<=_;rw [nN (show s0.length=8 from hk0.s) (show p0.length=64 from hk0.part),nN (show cX.length=8 from fG.s) (show(List.replicate 64 0).length=64 from fG.part)];omega) (cs':=cH s0 p0 (n0:Nat) all) (L':=(aC q (cH s0 p0 (n0:Nat) all) 197)::aC o sK 44::aC h (cH s0 p0 (n0:Nat) all) 197::L) (Gm (show cX.length=8 from fG.s) (show(List.replicate 64 0).length=64 from fG.part) (show s0.length=8 from hk0.s) (show p0.length=64 from hk0.part)) rfl λw8 a7=>⟨jI,Zd (Zt (Zs (gC (.rd 0 (.rd 1 (.rd 2 (.rd 3 (.rd 4 (.rd 5 .done)))))) (Zp 0 6 [(3,.gen [.int .u64 all])] [(3,[.cell ⟨q,73,none⟩ (.int .u64 all)])] (ak (bP (a7.cell 0 rfl (Ca (show s0.length=8 from hk0.s) (show p0.length=64 from hk0.part))) aO) gQ) (Zd (Zt (Zs (gC (.rd 0 (.ef 1 (.ef 2 .done))) (Zr 0 1 [] (tQ aP aF [(128:Int)] a7 λb2 e2 b3=>⟨jI,dE (f:=89) (args:=#[zP q 0,zL b2 0 (([(128:Int)]).length) 1]) Tryz.call89 (mA s0 p0 n0 all ([(128:Int)]) (by first|exact hk0|exact fG|exact hpa.1|exact hpb.2.2.1|exact fO hk0 _|exact fO fG _|exact fO hpa.1 _|exact fO hpb.2.2.1 _) (Nat.le_refl _) zO (λw h=>hT w (h.drop 3)) (λw h=>h.rows 0 rfl aF.size _) (b3.pl 1)) ?_⟩))))))))))⟩))))))))))))⟩
 rintro e3 e4 ⟨rfl,b5⟩
 refine⟨jI,Zd (Zt (Zs (Zb ?_)))⟩
 have b6:=(((b5.pl 3).pl 3).pl 2).pl 3
 refine bH.loop (T:=HS×Int) (λgg=>[(2,zP o 0),(3,zP q 0),(4,.int .u64 (IntKind.u64.wrap (all*8)))]) (λgg w=>(ui gg.1/\pad gg.1=pad (jJ (s0,p0,n0) [(128:Int)]))/\St w0 (aC q (cH gg.1.1 gg.1.2.1 (gg.1.2.2:Nat) gg.2) 197::aC o sK 44::aC h (cH s0 p0 (n0:Nat) all) 197::L) w) (λgg=>(120-gg.1.2.2) % 64) ((jJ (s0,p0,n0) ([(128:Int)])),(IntKind.u64.wrap (all+(IntKind.u64.wrap (([(128:Int)]).length:Nat))))) [2,3,4] zk ⟨⟨fO hk0 _,rfl⟩,b6.dr 1⟩ ?_
 rintro⟨g1,a1⟩ e5 ⟨hpa,x⟩
 dsimp only at hpa x
 refine Zs (Zs (gC (.rd 0 (.rd 1 (.rd 2 (.rd 3 (.rd 4 .done))))) (Zp 0 5 [(3,.gen [.int .i64 (g1.2.2:Nat)])] [(3,[.cell ⟨q,72,none⟩ (.int .i64 (g1.2.2:Nat))])] (ak (bP (x.cell 0 rfl (AP (show g1.1.length=8 from hpa.1.s) (show g1.2.1.length=64 from hpa.1.part))) aO) gQ) (Zd (Zt (cZ (t:=(g1.2.2:Int) != 56) (λa2=>?_) (λa2=>?_)))))))
 ·have b8:=tU a2
  refine Zk (Zt (Zb (gC (.rd 0 (.ef 1 (.ef 2 .done))) (Zr 0 1 [] (tQ aP aF [(0:Int)] x λb9 e6 c0=>⟨jI,dE (f:=89) (args:=#[zP q 0,zL b9 0 (([(0:Int)]).length) 1]) Tryz.call89 (mA g1.1 g1.2.1 g1.2.2 a1 ([(0:Int)]) (by first|exact hk0|exact fG|exact hpa.1|exact hpb.2.2.1|exact fO hk0 _|exact fO fG _|exact fO hpa.1 _|exact fO hpb.2.2.1 _) (Nat.le_refl _) zO (λw h=>hT w (h.drop 3)) (λw h=>h.rows 0 rfl aF.size _) (c0.pl 1)) ?_⟩)))))
  rintro e7 e8 ⟨rfl,c2⟩
  refine⟨jI,Zd (Zm ?_)⟩
  have c3:=(((c2.pl 3).pl 3).pl 2).pl 3
  exact aN.back ((jJ (g1.1,g1.2.1,g1.2.2) ([(0:Int)])),IntKind.u64.wrap (a1+(IntKind.u64.wrap (([(0:Int)]).length:Nat)))) [2,3,4] zk (by show(120-(jJ (g1.1,g1.2.1,g1.2.2) ([(0:Int)])).2.2) % 64<(120-g1.2.2) % 64;exact Iq hpa.1 (by show g1.2.2≠56;omega)) ⟨⟨fO hpa.1 _,(Ip hpa.1 (by show g1.2.2≠56;omega)).trans hpa.2⟩,c3.dr 1⟩
 ·have b8:=sR a2
  refine Zx (aN.cJ (aN.fJ (aN.iT (Zt (Zs (Zs (gC (.rd 0 .done) (Zr 0 1 [] (Zd (Zt (Zb (bH.loop (T:=Nat×Int×HS×Int) (λgg=>[(2,zP o 0),(3,zP q 0),(4,.int .u64 (IntKind.u64.wrap (all*8))),(5,.int .i64 gg.2.1)]) (λgg w=>(gg.1<=8/\gg.2.1=7-(gg.1:Nat)/\ui gg.2.2.1/\gg.2.2.1=Gp (IntKind.u64.wrap (all*8)) gg.1 (pad (jJ (s0,p0,n0) [(128:Int)])))/\St w0 (aC q (cH gg.2.2.1.1 gg.2.2.1.2.1 (gg.2.2.1.2.2:Nat) gg.2.2.2) 197::aC o sK 44::aC h (cH s0 p0 (n0:Nat) all) 197::L) w) (λgg=>8-gg.1) (0,7,g1,a1) [2,3,4,5] zk ⟨⟨Nat.zero_le _,by first|omega|(simp only;omega),hpa.1,by rw [<- hpa.2,Kf za];rfl⟩,x⟩ ?_))))))))))))
  rintro⟨u,i,g2,a3⟩ c5 ⟨hpb,z⟩
  dsimp only at hpb z
  refine Zs (Zs (gC (.rd 0 (.rd 1 .done)) (Zr 0 2 [] (Zd (Zt (cZ (t:=decide ((i:Int) >= 0)) (λa4=>?_) (λa4=>?_)))))))
  ·have c6:=of_decide_eq_true a4
   refine Zk (Zt (Zs (Zb (gC (.rd 0 (.rd 1 (.rd 2 (.rd 3 (.rd 4 (.rd 5 (.ef 6 (.ef 7 .done)))))))) ?_))))
   refine Zp 0 6 [(3,.eJ (.int .i64 (8*i)) (.gen [])),(4,.shift (bF .u64 (IntKind.u64.wrap (all*8)) (8*i)))] [(3,[.prop (Value.int .i64 (IntKind.i64.wrap (8*i))=Value.int .i64 (8*i))]),(4,[.prop ((0:Int)<=8*i/\Int.fdiv (IntKind.u64.wrap (all*8)) (2 ^ (min (Int.toNat (8*i)) (IntKind.bits .u64)))=bF .u64 (IntKind.u64.wrap (all*8)) (8*i))])] (ak (aL (kF za za) aO) (ak (aL ⟨(by first|omega|exact bW rfl _),rfl⟩ aO) gQ)) (tQ aP aF [(IntKind.u8.wrap (bF .u64 (IntKind.u64.wrap (all*8)) (8*i)):Int)] z λc7 e9 c8=>⟨jI,dE (f:=89) (args:=#[zP q 0,zL c7 0 (([(IntKind.u8.wrap (bF .u64 (IntKind.u64.wrap (all*8)) (8*i)):Int)]).length) 1]) Tryz.call89 (mA g2.1 g2.2.1 g2.2.2 a3 ([(IntKind.u8.wrap (bF .u64 (IntKind.u64.wrap (all*8)) (8*i)):Int)]) (by first|exact hk0|exact fG|exact hpa.1|exact hpb.2.2.1|exact fO hk0 _|exact fO fG _|exact fO hpa.1 _|exact fO hpb.2.2.1 _) (Nat.le_refl _) zO (λw h=>hT w (h.drop 3)) (λw h=>h.rows 0 rfl aF.size _) (c8.pl 1)) ?_⟩)
   rintro f0 f1 ⟨rfl,d0⟩
   refine⟨jI,Zd (Zm (Zt (gC (.rd 0 (.rd 1 (.rd 2 .done))) (Zp 0 3 [(1,.eJ (.int .i64 (i-1)) (.gen []))] [(1,[.prop (Value.int .i64 (IntKind.i64.wrap (i-1))=Value.int .i64 (i-1))])] (ak (aL (kF za za) aO) gQ) (Zd ?_)))))⟩
   have d1:=(((d0.pl 3).pl 3).pl 2).pl 3
   exact aN.back (u+1,i-1,jJ (g2.1,g2.2.1,g2.2.2) ([(IntKind.u8.wrap (bF .u64 (IntKind.u64.wrap (all*8)) (8*i)):Int)]),IntKind.u64.wrap (a3+(IntKind.u64.wrap (([(IntKind.u8.wrap (bF .u64 (IntKind.u64.wrap (all*8)) (8*i)):Int)]).length:Nat)))) [2,3,4,5] zk (by show 8-(u+1)<8-u;omega) ⟨⟨by first|omega|(simp only;omega),by first|omega|(simp only;omega),fO hpb.2.2.1 _,by show jJ g2 _=Gp _ (u+1) _;rw [yF,<- hpb.2.2.2,DQ,<- hpb.2.1]⟩,d1.dr 1⟩
  ·have c6:=of_decide_eq_false a4
   refine Zx (aN.cJ (aN.fJ (aN.iT (Zt (Zs (Zs (gC (.rd 0 (.rd 1 (.rd 2 (.rd 3 (.rd 4 .done))))) (Zp 0 5 [(3,.agg (af bM g2.1))] [(3,[.prop (Array.size (af bM g2.1)=8),.cells ⟨q,0,none⟩ (af bM g2.1)])] (ak (aL (bQ bN (show(g2.1).length=8 from(show g2.1.length=8 from hpb.2.2.1.s)) rfl) (eM (z.cells 0 0 rfl (Im (show g2.1.length=8 from hpb.2.2.1.s) (show g2.2.1.length=64 from hpb.2.2.1.part))) aO)) gQ) (Zd (Zt (Zb ?_)))))))))))
   have d3:St w0 (aC q (cH g2.1 g2.2.1 (g2.2.2:Nat) a3) 197::aC o (af aA (List.replicate 32 0)) 44::aC h (cH s0 p0 (n0:Nat) all) 197::L) c5:=Eq.mp zk z
   have f2:g2.1.length=8:=hpb.2.2.1.s
   refine bH.loop (T:=Nat×(List Int)) (λgg=>[(2,zP o 0),(47,.agg (af bM g2.1)),(48,.int .i64 (gg.1:Nat))]) (λgg w=>(gg.1<=8/\gg.2=AR g2.1 gg.1/\gg.2.length=32)/\St w0 (aC o (af aA gg.2) 44::aC h (cH s0 p0 (n0:Nat) all) 197::L) w) (λgg=>8-gg.1) (0,(List.replicate 32 0)) [2,47,48] zk ⟨⟨Nat.zero_le _,rfl,rfl⟩,d3.dr 1⟩ ?_
   rintro⟨e,ol⟩ f3 ⟨hpc,a0⟩
   dsimp only at hpc a0
   refine Zs (gC (.rd 0 .done) (Zr 0 1 [] (Zd (Zt (Zs (cZ (t:=decide ((e:Int)<8)) (λa5=>?_) (λa5=>?_)))))))
   ·have d5:=of_decide_eq_true a5
    refine Zk (Zt (Zs (Zb (Zs (gC (.rd 0 (.rd 1 (.rd 2 (.rd 3 .done)))) ?_)))))
    refine Zp 0 4 [(1,.elem (.int .u32 (g2.1.getD e 0)))] [(1,[.prop (0<=(e:Int)/\(e:Int)<(8:Int)),.prop ((af bM g2.1)[Int.toNat (e:Nat)*1]?=some (.int .u32 (g2.1.getD e 0)))])] (ak (aL za (aL (Az (d:=(0:Int)) (k:=e) bN za zH zk) aO)) gQ) (Zd (Zt (gC (.rd 0 (.rd 1 (.rd 2 (.rd 3 (.rd 4 (.rd 5 (.rd 6 (.rd 7 (.rd 8 (.rd 9 (.rd 10 (.rd 11 (.rd 12 (.rd 13 (.ef 14 (.ef 15 .done)))))))))))))))) (Zp 0 14 [(1,.eJ (.int .i64 (4*(e:Nat))) (.gen [])),(2,.eJ (zL o (0+((4*e)*1)) (32-(4*e)) (32-(4*e))) (.sub (4*e) 32)),(4,.shift (bF .u32 (g2.1.getD e 0) 24)),(7,.shift (bF .u32 (g2.1.getD e 0) 16)),(10,.shift (bF .u32 (g2.1.getD e 0) 8))] [(1,[.prop (Value.int .i64 (IntKind.i64.wrap (4*(e:Nat)))=Value.int .i64 (4*(e:Nat)))]),(2,[.prop ((4*(e:Nat):Int)=((4*e:Nat):Int)),.prop (((some (Operand.tmp 53))=none->(4*e:Nat)=0)/\((none:Option Operand)=none->(32:Nat)=32)/\(4*e:Nat)<=32/\(32:Nat)<=32),.prop (Value.slice (some (if 32=4*e then Addr.mk o 0 none else (Addr.mk o 0 none).add ((4*e)*1))) (32-(4*e)) (32-(4*e))=Value.slice (some ⟨o,0+((4*e)*1),none⟩) (32-(4*e)) (32-(4*e)))]),(4,[.prop ((0:Int)<=24/\Int.fdiv (g2.1.getD e 0) (2 ^ (min (Int.toNat 24) (IntKind.bits .u32)))=bF .u32 (g2.1.getD e 0) 24)]),(7,[.prop ((0:Int)<=16/\Int.fdiv (g2.1.getD e 0) (2 ^ (min (Int.toNat 16) (IntKind.bits .u32)))=bF .u32 (g2.1.getD e 0) 16)]),(10,[.prop ((0:Int)<=8/\Int.fdiv (g2.1.getD e 0) (2 ^ (min (Int.toNat 8) (IntKind.bits .u32)))=bF .u32 (g2.1.getD e 0) 8)])] (ak (aL (kF za za) aO) (ak (aL za (aL ⟨(by first|(intro _;rfl)|(intro hc;cases hc)),(by first|(intro _;rfl)|(intro hc;cases hc)),za,za⟩ (aL (Ay za za) aO))) (ak (aL ⟨(by first|omega|exact bW rfl _),rfl⟩ aO) (ak (aL ⟨(by first|omega|exact bW rfl _),rfl⟩ aO) (ak (aL ⟨(by first|omega|exact bW rfl _),rfl⟩ aO) gQ))))) (tQ aP aF [(IntKind.u8.wrap (bF .u32 (g2.1.getD e 0) 24):Int),(IntKind.u8.wrap (bF .u32 (g2.1.getD e 0) 16):Int),(IntKind.u8.wrap (bF .u32 (g2.1.getD e 0) 8):Int),(IntKind.u8.wrap (g2.1.getD e 0):Int)] a0 λd6 f4 d7=>⟨jI,?_⟩)))))
    have a8:=d7.pl 1
    refine aU.copy rfl zk aP aF (b:=o) (off:=0+((4*e)*1)) (dLen:=32-(4*e)) (dCap:=(32-(4*e))) (ys:=[(IntKind.u8.wrap (bF .u32 (g2.1.getD e 0) 24):Int),(IntKind.u8.wrap (bF .u32 (g2.1.getD e 0) 16):Int),(IntKind.u8.wrap (bF .u32 (g2.1.getD e 0) 8):Int),(IntKind.u8.wrap (g2.1.getD e 0):Int)]) (adx:=some ⟨d6,0,none⟩) (cx:=4) (0:Int) zk a8 (a8.rows 1 rfl aF.size (0:Int)) (by rw [eO aF.size,Nat.zero_add,Nat.mul_one,Nat.mul_one,Nat.mul_one];simp only [List.length_cons,List.length_nil];omega) (cs':=af aA (dA ol (4*e) (([(IntKind.u8.wrap (bF .u32 (g2.1.getD e 0) 24):Int),(IntKind.u8.wrap (bF .u32 (g2.1.getD e 0) 16):Int),(IntKind.u8.wrap (bF .u32 (g2.1.getD e 0) 8):Int),(IntKind.u8.wrap (g2.1.getD e 0):Int)]).take (min ([(IntKind.u8.wrap (bF .u32 (g2.1.getD e 0) 24):Int),(IntKind.u8.wrap (bF .u32 (g2.1.getD e 0) 16):Int),(IntKind.u8.wrap (bF .u32 (g2.1.getD e 0) 8):Int),(IntKind.u8.wrap (g2.1.getD e 0):Int)]).length (32-(4*e)))))) (by rw [Nat.zero_add,Nat.mul_one];exact Kg (by simp only [List.length_take,List.length_cons,List.length_nil];omega)) λf5 d8=>⟨jI,Zd (Zm (Zt (gC (.rd 0 (.rd 1 .done)) (Zp 0 2 [(0,.eJ (.int .i64 ((e:Nat)+1)) (.gen []))] [(0,[.prop (Value.int .i64 (IntKind.i64.wrap ((e:Nat)+1))=Value.int .i64 ((e:Nat)+1))])] (ak (aL (kF za za) aO) gQ) (Zd ?_)))))⟩
    have d9:=((d8.pl 2).pl 1).pl 2
    exact aN.back (e+1,dA ol (4*e) (([(IntKind.u8.wrap (bF .u32 (g2.1.getD e 0) 24):Int),(IntKind.u8.wrap (bF .u32 (g2.1.getD e 0) 16):Int),(IntKind.u8.wrap (bF .u32 (g2.1.getD e 0) 8):Int),(IntKind.u8.wrap (g2.1.getD e 0):Int)]).take (min ([(IntKind.u8.wrap (bF .u32 (g2.1.getD e 0) 24):Int),(IntKind.u8.wrap (bF .u32 (g2.1.getD e 0) 16):Int),(IntKind.u8.wrap (bF .u32 (g2.1.getD e 0) 8):Int),(IntKind.u8.wrap (g2.1.getD e 0):Int)]).length (32-(4*e))))) [2,47,48] zk (by show 8-(e+1)<8-e;omega) ⟨⟨za,(by have q:min 4 (32-4*e)=4:=za;rw [uk,<- hpc.2.1];show dA ol (4*e) (List.take (min 4 (32-4*e)) (Cc (g2.1.getD e 0)))=dA ol (4*e) (Cc (g2.1.getD e 0));rw [q];rfl),by rw [yE];exact hpc.2.2;simp only [List.length_take,List.length_cons,List.length_nil];omega⟩,d9.dr 1⟩
   ·have d5:=of_decide_eq_false a5
    exact Zx (aN.cJ (aN.fJ (aN.iT (Zt (Zs (gC (.rd 0 (.ef 1 .done)) (Zp 0 1 [(0,.agg (af aA ol))] [(0,[.prop (Array.size (af aA ol)=32),.cells ⟨o,0,none⟩ (af aA ol)])] (ak (aL (bQ aF (show(ol).length=32 from zc) rfl) (eM (a0.cells 0 0 rfl zG) aO)) gQ) (aU.store rfl rfl zk (b:=o) (off:=0) (v:=.agg (af aA ol)) zk zk (ti:=Tryz.t44) zk a0 0 rfl (cK aF (show(ol).length=32 from zc) zk) (eQ aF) (eF aF (show(ol).length=32 from zc) (by rw [bQ aF (show(ol).length=32 from zc) (m:=32) rfl];rfl)) (cs':=af aA ol) (L':=(aC o (af aA ol) 44)::aC h (cH s0 p0 (n0:Nat) all) 197::L) (eX aF (show(ol).length=32 from zc) (by rw [bQ aF (show(ol).length=32 from zc) (m:=32) rfl];rfl)) rfl λf6 a9=>⟨jI,Zd (Zt (Ze (aN.done (.inl rfl) (v:=.agg (af aA ol)) (λa hf=>gW rfl zk (ti:=Tryz.t44) zk zk (vs:=af aA ol) (bQ aF (show(ol).length=32 from zc) zk) (a9.cells 0 0 rfl zG) a hf) ⟨(by rw [hpc.2.1,show e=8 by omega,hpb.2.2.2,show u=8 by omega];rfl),a9.dr 1⟩)))⟩))))))))
def gI (l:List Int):List Int:=nX (jJ Cb l) (IntKind.u64.wrap (0+(IntKind.u64.wrap (l.length:Nat))))
theorem dP (l:List Int):(gI l).length=32:=fP _ 8 (Nat.le_refl _)
theorem Cd l (hcap:l.length<=c) (hl:l.length<=1000000000000) (hT:∀ w,St w0 L w->jX w) (hr:Rw w0 L aA 1 0 ad l) (hs:St w0 L w):Cs Tryz.prog 32 #[.slice ad l.length c] w λrv w'=>rv=.agg (af aA (gI l))/\St w0 L w':=by
 refine enter (args:=[.slice ad l.length c]) Tryz.func32 rfl Tryz.ntmps32 (Nat.le_of_ble_eq_true zk) (Zn [(0,.slice ad l.length c)] (Zs (gC (.ef 0 .done) (eN sK hs λi w2 q=>⟨jI,Zd (Zt (Zs (gC (.ef 0 (.rd 1 .done)) (dE (f:=88) (args:=#[]) Tryz.call88 (qH q) ?_))))⟩))))
 rintro v6 w7 ⟨d,rfl,u⟩
 refine⟨jI,Zr 1 1 [] (Zd (Zt (Zs (gC (.rd 0 (.rd 1 (.ef 2 .done))) (Zr 0 2 [] (dE (f:=89) (args:=#[zP d 0,.slice ad l.length c]) Tryz.call89 (mA cX (List.replicate 64 0) 0 0 l (by first|exact e|exact fG|exact hpa.1|exact hpb.2.2.1|exact fO e _|exact fO fG _|exact fO hpa.1 _|exact fO hpb.2.2.1 _) zc zc (λw h=>hT w (h.drop 1)) (λw h=>hr _ (h.drop 1)) u) ?_))))))⟩
 rintro v9 a1 ⟨rfl,x⟩
 refine⟨jI,Zd (Zt (Zs (gC (.rd 0 (.ef 1 (.ef 2 .done))) (Zr 0 1 [] (dE (f:=90) (args:=#[zP d 0]) Tryz.call90 (tw ((jJ (cX,List.replicate 64 0,0) l).1) ((jJ (cX,List.replicate 64 0,0) l).2.1) ((jJ (cX,List.replicate 64 0,0) l).2.2) (IntKind.u64.wrap (0+(IntKind.u64.wrap (l.length:Nat)))) (by first|exact e|exact fG|exact hpa.1|exact hpb.2.2.1|exact fO e _|exact fO fG _|exact fO hpa.1 _|exact fO hpb.2.2.1 _) (λw h=>hT w (h.drop 1)) x) ?_)))))⟩
 rintro a2 a3 ⟨rfl,z⟩
 exact⟨jI,(aU.store rfl rfl zk (b:=i) (off:=0) (v:=.agg (af aA (nX (((jJ (cX,List.replicate 64 0,0) l).1),(jJ (cX,List.replicate 64 0,0) l).2.1,((jJ (cX,List.replicate 64 0,0) l).2.2)) (IntKind.u64.wrap (0+(IntKind.u64.wrap (l.length:Nat))))))) zk zk (ti:=Tryz.t44) zk z 1 rfl (cK aF (show(nX (((jJ (cX,List.replicate 64 0,0) l).1),(jJ (cX,List.replicate 64 0,0) l).2.1,((jJ (cX,List.replicate 64 0,0) l).2.2)) (IntKind.u64.wrap (0+(IntKind.u64.wrap (l.length:Nat))))).length=32 from(fP _ 8 (Nat.le_refl _))) zk) (eQ aF) (eF aF (show(nX (((jJ (cX,List.replicate 64 0,0) l).1),(jJ (cX,List.replicate 64 0,0) l).2.1,((jJ (cX,List.replicate 64 0,0) l).2.2)) (IntKind.u64.wrap (0+(IntKind.u64.wrap (l.length:Nat))))).length=32 from(fP _ 8 (Nat.le_refl _))) zk) (cs':=af aA (nX (((jJ (cX,List.replicate 64 0,0) l).1),(jJ (cX,List.replicate 64 0,0) l).2.1,((jJ (cX,List.replicate 64 0,0) l).2.2)) (IntKind.u64.wrap (0+(IntKind.u64.wrap (l.length:Nat)))))) (L':=(aC d (cH ((jJ (cX,List.replicate 64 0,0) l).1) ((jJ (cX,List.replicate 64 0,0) l).2.1) (((jJ (cX,List.replicate 64 0,0) l).2.2):Nat) (IntKind.u64.wrap (0+(IntKind.u64.wrap (l.length:Nat))))) 197)::aC i (af aA (nX (((jJ (cX,List.replicate 64 0,0) l).1),(jJ (cX,List.replicate 64 0,0) l).2.1,((jJ (cX,List.replicate 64 0,0) l).2.2)) (IntKind.u64.wrap (0+(IntKind.u64.wrap (l.length:Nat)))))) 44::L) (eX aF (show(nX (((jJ (cX,List.replicate 64 0,0) l).1),(jJ (cX,List.replicate 64 0,0) l).2.1,((jJ (cX,List.replicate 64 0,0) l).2.2)) (IntKind.u64.wrap (0+(IntKind.u64.wrap (l.length:Nat))))).length=32 from(fP _ 8 (Nat.le_refl _))) zk) rfl λa4 o=>⟨jI,Zd (Zt (Ze (aN.done (.inl rfl) (v:=.agg (af aA (nX (((jJ (cX,List.replicate 64 0,0) l).1),(jJ (cX,List.replicate 64 0,0) l).2.1,((jJ (cX,List.replicate 64 0,0) l).2.2)) (IntKind.u64.wrap (0+(IntKind.u64.wrap (l.length:Nat))))))) (λa hf=>gW rfl zk (ti:=Tryz.t44) zk zk (vs:=af aA (nX (((jJ (cX,List.replicate 64 0,0) l).1),(jJ (cX,List.replicate 64 0,0) l).2.1,((jJ (cX,List.replicate 64 0,0) l).2.2)) (IntKind.u64.wrap (0+(IntKind.u64.wrap (l.length:Nat)))))) (bQ aF (show(nX (((jJ (cX,List.replicate 64 0,0) l).1),(jJ (cX,List.replicate 64 0,0) l).2.1,((jJ (cX,List.replicate 64 0,0) l).2.2)) (IntKind.u64.wrap (0+(IntKind.u64.wrap (l.length:Nat))))).length=32 from(fP _ 8 (Nat.le_refl _))) zk) (o.cells 1 0 rfl zG) a hf) ⟨rfl,o.dr 2⟩)))⟩)⟩
end
section
variable {w0 w : World} {L : List cA}
def lK (l1 l2:List Int):Nat->HS
 | 0=>Cb
 | 1=>jJ Cb l1
 | _=>jJ (jJ Cb l1) l2
def yG (l1 l2:List Int):Nat->Int
 | 0=>0
 | 1=>IntKind.u64.wrap (0+(IntKind.u64.wrap (l1.length:Nat)))
 | _=>IntKind.u64.wrap ((IntKind.u64.wrap (0+(IntKind.u64.wrap (l1.length:Nat))))+(IntKind.u64.wrap (l2.length:Nat)))
def hY (l1 l2:List Int):List Int:=nX (lK l1 l2 2) (yG l1 l2 2)
theorem dQ (l1 l2:List Int):(hY l1 l2).length=32:=fP _ 8 (Nat.le_refl _)
theorem DR (l1 l2:List Int):∀ k,ui (lK l1 l2 k)
 | 0=>fG
 | 1=>fO fG _
 | _+2=>fO (fO fG _) _
theorem um {bs:Nat}{a1:Option Addr}{n1:Nat}{c1:Nat}{a2:Option Addr}{n2:Nat}{c2:Nat}l1 l2 (e1:l1.length=n1) (e2:l2.length=n2) (q1:l1.length<=c1) (q2:l2.length<=c2) (g1:l1.length<=1000000000) (g2:l2.length<=1000000000) (hTab:∀ w,St w0 L w->jX w) (hr1:Rw w0 L aA 1 0 a1 l1) (hr2:Rw w0 L aA 1 0 a2 l2) (hs:St w0 (aC bs #[.slice a1 n1 c1,.slice a2 n2 c2] 25::L) w):Cs Tryz.prog 221 #[zL bs 0 2 2] w λrv w'=>rv=.agg (af aA (hY l1 l2))/\St w0 (aC bs #[.slice a1 n1 c1,.slice a2 n2 c2] 25::L) w':=by
 refine enter (args:=[zL bs 0 2 2]) Tryz.func221 rfl Tryz.ntmps221 (Nat.le_of_ble_eq_true zk) (Zn [(0,zL bs 0 2 2)] (Zs ?_))
 subst e1
 subst e2
 refine gC (.ef 0 .done) (eN sK hs λe w2 a0=>⟨jI,Zd (Zt (Zs (gC (.ef 0 (.rd 1 .done)) (dE (f:=88) (args:=#[]) Tryz.call88 (qH a0) ?_))))⟩)
 rintro v6 w7 ⟨d,rfl,a3⟩
 refine⟨jI,Zr 1 1 [] (Zd (Zt (Zs (Zs (gC (.rd 0 (.rd 1 (.rd 2 .done))) (Zr 0 3 [] (Zd (Zt (Zb (bH.loop (T:=Nat) (λgg=>[(2,zP e 0),(3,zP d 0),(7,zL bs 0 2 2),(8,.int .i64 2),(9,.int .i64 (gg:Nat))]) (λgg w=>(gg<=2)/\St w0 (aC d (cH ((lK l1 l2 gg).1) ((lK l1 l2 gg).2.1) ((lK l1 l2 gg).2.2:Nat) (yG l1 l2 gg)) 197::aC bs #[.slice a1 l1.length c1,.slice a2 l2.length c2] 25::aC e sK 44::L) w) (λgg=>2-gg) 0 [2,3,7,8,9] zk ⟨Nat.zero_le _,((a3.pl 1).pl 2).pl 2⟩ ?_))))))))))⟩
 rintro k i ⟨hp,o⟩
 refine Zs (gC (.rd 0 .done) (Zr 0 1 [] (Zd (Zt (Zs (Zn [(10,.bool (decide ((k:Int)<2))),(2,zP e 0),(3,zP d 0),(7,zL bs 0 2 2),(8,.int .i64 2),(9,.int .i64 (k:Nat))] (cZ (t:=decide ((k:Int)<2)) (λq=>?_) (λq=>?_))))))))
 ·have a5:=of_decide_eq_true q
  have hcs:k=0\/k=1:=za
  rcases hcs with rfl|rfl
  ·have u:St w0 (aC d (cH ((lK l1 l2 0).1) ((lK l1 l2 0).2.1) ((lK l1 l2 0).2.2:Nat) (yG l1 l2 0)) 197::aC bs #[.slice a1 l1.length c1,.slice a2 l2.length c2] 25::aC e sK 44::L) i:=o
   refine Zn [(10,.bool (decide (((0:Nat):Int)<2))),(2,zP e 0),(3,zP d 0),(7,zL bs 0 2 2),(8,.int .i64 2),(9,.int .i64 0)] (Zk (Zt (Zs (Zb (Zs (gC (.rd 0 (.rd 1 (.rd 2 .done))) (Zp 0 3 [(0,.eJ (zP bs 0) .at_),(1,.gen [.slice a1 l1.length c1])] [(0,[.prop (0<=(0:Int)/\(0:Int)<(2:Int)),.prop (Value.pointer (some (Addr.add ⟨bs,0,none⟩ (Int.toNat 0*1)))=Value.pointer (some ⟨bs,0,none⟩))]),(1,[.cell ⟨bs,0,none⟩ (.slice a1 l1.length c1)])] (ak (aL za (aL (bK _ _ _) aO)) (ak (bP (u.cell 1 rfl zk) aO) gQ)) (Zd (Zt (gC (.rd 0 (.rd 1 (.ef 2 .done))) (Zr 0 2 [] (dE (f:=89) (args:=#[zP d 0,.slice a1 l1.length c1]) Tryz.call89 (mA ((lK l1 l2 0).1) ((lK l1 l2 0).2.1) ((lK l1 l2 0).2.2) (yG l1 l2 0) l1 (DR l1 l2 0) zc za (λw h=>hTab w (h.drop 2)) (λw h=>hr1 _ (h.drop 2)) u) ?_))))))))))))
   rintro b8 a6 ⟨rfl,a7⟩
   refine⟨jI,Zd (Zm (Zt (gC (.rd 0 (.rd 1 .done)) (Zr 0 2 [] (Zd ?_)))))⟩
   have a8:St w0 (aC d (cH ((lK l1 l2 1).1) ((lK l1 l2 1).2.1) ((lK l1 l2 1).2.2:Nat) (yG l1 l2 1)) 197::aC bs #[.slice a1 l1.length c1,.slice a2 l2.length c2] 25::aC e sK 44::L) a6:=a7
   exact aN.back 1 [2,3,7,8,9] zk zf ⟨za,a8⟩
  ·have x:St w0 (aC d (cH ((lK l1 l2 1).1) ((lK l1 l2 1).2.1) ((lK l1 l2 1).2.2:Nat) (yG l1 l2 1)) 197::aC bs #[.slice a1 l1.length c1,.slice a2 l2.length c2] 25::aC e sK 44::L) i:=o
   refine Zn [(10,.bool (decide (((1:Nat):Int)<2))),(2,zP e 0),(3,zP d 0),(7,zL bs 0 2 2),(8,.int .i64 2),(9,.int .i64 1)] (Zk (Zt (Zs (Zb (Zs (gC (.rd 0 (.rd 1 (.rd 2 .done))) (Zp 0 3 [(0,.eJ (zP bs 1) .at_),(1,.gen [.slice a2 l2.length c2])] [(0,[.prop (0<=(1:Int)/\(1:Int)<(2:Int)),.prop (Value.pointer (some (Addr.add ⟨bs,0,none⟩ (Int.toNat 1*1)))=Value.pointer (some ⟨bs,1,none⟩))]),(1,[.cell ⟨bs,1,none⟩ (.slice a2 l2.length c2)])] (ak (aL za (aL (bK _ _ _) aO)) (ak (bP (x.cell 1 rfl zk) aO) gQ)) (Zd (Zt (gC (.rd 0 (.rd 1 (.ef 2 .done))) (Zr 0 2 [] (dE (f:=89) (args:=#[zP d 0,.slice a2 l2.length c2]) Tryz.call89 (mA ((lK l1 l2 1).1) ((lK l1 l2 1).2.1) ((lK l1 l2 1).2.2) (yG l1 l2 1) l2 (DR l1 l2 1) zc za (λw h=>hTab w (h.drop 2)) (λw h=>hr2 _ (h.drop 2)) x) ?_))))))))))))
   rintro b9 a9 ⟨rfl,b0⟩
   refine⟨jI,Zd (Zm (Zt (gC (.rd 0 (.rd 1 .done)) (Zr 0 2 [] (Zd ?_)))))⟩
   have b2:St w0 (aC d (cH ((lK l1 l2 2).1) ((lK l1 l2 2).2.1) ((lK l1 l2 2).2.2:Nat) (yG l1 l2 2)) 197::aC bs #[.slice a1 l1.length c1,.slice a2 l2.length c2] 25::aC e sK 44::L) a9:=b0
   exact aN.back 2 [2,3,7,8,9] zk zf ⟨za,b2⟩
 ·have a5:=of_decide_eq_false q
  have b3:k=2:=za
  subst b3
  have b4:St w0 (aC d (cH ((lK l1 l2 2).1) ((lK l1 l2 2).2.1) ((lK l1 l2 2).2.2:Nat) (yG l1 l2 2)) 197::aC bs #[.slice a1 l1.length c1,.slice a2 l2.length c2] 25::aC e sK 44::L) i:=o
  refine Zx (aN.cJ (aN.fJ (aN.iT (Zt (Zs (gC (.rd 0 (.ef 1 (.ef 2 .done))) (Zr 0 1 [] (dE (f:=90) (args:=#[zP d 0]) Tryz.call90 (tw ((lK l1 l2 2).1) ((lK l1 l2 2).2.1) ((lK l1 l2 2).2.2) (yG l1 l2 2) (DR l1 l2 2) (λw h=>hTab w (h.drop 2)) b4) ?_))))))))
  rintro c0 c3 ⟨rfl,b5⟩
  refine⟨jI,(aU.store rfl rfl zk (b:=e) (off:=0) (v:=.agg (af aA (nX (((lK l1 l2 2).1),(lK l1 l2 2).2.1,((lK l1 l2 2).2.2)) (yG l1 l2 2)))) zk zk (ti:=Tryz.t44) zk b5 2 rfl (cK aF (show(nX (((lK l1 l2 2).1),(lK l1 l2 2).2.1,((lK l1 l2 2).2.2)) (yG l1 l2 2)).length=32 from(fP _ 8 (Nat.le_refl _))) zk) (eQ aF) (eF aF (show(nX (((lK l1 l2 2).1),(lK l1 l2 2).2.1,((lK l1 l2 2).2.2)) (yG l1 l2 2)).length=32 from(fP _ 8 (Nat.le_refl _))) zk) (cs':=af aA (nX (((lK l1 l2 2).1),(lK l1 l2 2).2.1,((lK l1 l2 2).2.2)) (yG l1 l2 2))) (L':=(aC d (cH ((lK l1 l2 2).1) ((lK l1 l2 2).2.1) (((lK l1 l2 2).2.2):Nat) (yG l1 l2 2)) 197)::aC bs #[.slice a1 l1.length c1,.slice a2 l2.length c2] 25::aC e (af aA (nX (((lK l1 l2 2).1),(lK l1 l2 2).2.1,((lK l1 l2 2).2.2)) (yG l1 l2 2))) 44::L) (eX aF (show(nX (((lK l1 l2 2).1),(lK l1 l2 2).2.1,((lK l1 l2 2).2.2)) (yG l1 l2 2)).length=32 from(fP _ 8 (Nat.le_refl _))) zk) rfl λc4 z=>⟨jI,Zd (Zt (Ze (aN.done (.inl rfl) (v:=.agg (af aA (nX (((lK l1 l2 2).1),(lK l1 l2 2).2.1,((lK l1 l2 2).2.2)) (yG l1 l2 2)))) (λa hf=>gW rfl zk (ti:=Tryz.t44) zk zk (vs:=af aA (nX (((lK l1 l2 2).1),(lK l1 l2 2).2.1,((lK l1 l2 2).2.2)) (yG l1 l2 2))) (bQ aF (show(nX (((lK l1 l2 2).1),(lK l1 l2 2).2.1,((lK l1 l2 2).2.2)) (yG l1 l2 2)).length=32 from(fP _ 8 (Nat.le_refl _))) zk) (z.cells 2 0 rfl zG) a hf) ?_)))⟩)⟩
  have b6:=((z.pl 1).pl 2).pl 2
  exact⟨rfl,b6.dr 2⟩
end
section
variable {w0 w : World} {L : List cA}
def DS (key:List Int):List Int:=mX (List.replicate 64 (0:Int)) 0 (key.take (min key.length 64))
def pP (key:List Int) (bv:Int) (k:Nat):List Int:=iter (λj q=>q.set j (dL .u8 (q.getD j 0) bv)) k (DS key)
def dS (key:List Int) (bv:Int):List Int:=pP key bv 64
theorem qI (key:List Int) (bv:Int):∀ k,(pP key bv k).length=64
 | 0=>by
  show(DS key).length=64
  rw [DS,uT zI,List.length_replicate]
 | k+1=>by
  show((pP key bv k).set k _).length=64
  rw [List.length_set]
  exact qI key bv k
theorem mR (key:List Int) (bv:Int):(dS key bv).length=64:=qI key bv 64
theorem uZ {adk:Option Addr}{ck:Nat}key bv (hkl:key.length<=64) (hnk:adk=none->ck=0) (hr:Rw w0 L aA 1 0 adk key) (hs:St w0 L w):Cs Tryz.prog 222 #[.slice adk key.length ck,.int .u8 bv] w λrv w'=>∃ ob,rv=zL ob 0 64 64/\St w0 (aC ob (af aA (dS key bv)) 5::L) w':=by
 refine enter (args:=[.slice adk key.length ck,.int .u8 bv]) Tryz.func222 rfl Tryz.ntmps222 (Nat.le_of_ble_eq_true zk) (Zn [(0,.slice adk key.length ck),(1,.int .u8 bv)] (Zs (gC (.rd 0 .done) (Zr 0 1 [] (Zd (Zt (Zs (Zs (gC (.rd 0 (.rd 1 (.rd 2 .done))) (Zr 0 3 [] (Zd (Zt (cZ (t:=decide ((key.length:Int)>64)) (λd=>?_) (λd=>?_))))))))))))))
 ·have u:=of_decide_eq_true d
  exfalso;omega
 ·have u:=of_decide_eq_false d
  refine Zk (Zt (Zs (gC (.ef 0 (.rd 1 .done)) (aU.makeSlice rfl zk (t:=25) (e:=5) (n:=64) zk zk (ti:=Tryz.t5) zk (z:=.int .u8 0) zk (f:=aA) (0:Int) zk (size:=1) zk aF zf za (Nat.le_of_ble_eq_true zk) hs λa w3 q=>⟨jI,Zr 1 1 [] (Zd (Zt (Zs (gC (.rd 0 (.rd 1 (.ef 2 .done))) (Zr 0 2 [] (aU.K9 rfl zk aP aF (b:=a) (off:=0) (dLen:=64) (dCap:=64) (ys:=key) (adx:=adk) (cx:=ck) (0:Int) rfl zk q (hr _ (q.drop 1)) (by rw [eO aF.size];simp only [List.length_replicate,Nat.zero_add];exact Nat.mul_le_mul_right _ za) (cs':=af aA (mX (List.replicate 64 (0:Int)) 0 (key.take (min key.length 64)))) (by show bZ _ (0*1) _=_;exact B2 aF.size zI) λw7 x=>⟨jI,Zd (Zt (Zs (Zs (gC (.rd 0 .done) (Zr 0 1 [] (Zd (Zt (Zb (bH.loop (T:=Nat) (λgg=>[(1,.int .u8 bv),(4,.slice none 0 0),(6,zL a 0 64 64),(19,.int .i64 (gg:Nat))]) (λgg w=>(gg<=64)/\St w0 (aC a (af aA (pP key bv gg)) 5::L) w) (λgg=>64-gg) 0 [1,4,6,19] zk ⟨Nat.zero_le _,x⟩ ?_)))))))))⟩))))))⟩))))
  rintro k w9 ⟨hp,i⟩
  refine Zs (gC (.rd 0 .done) (Zr 0 1 [] (Zd (Zt (Zs (cZ (t:=decide ((k:Int)<64)) (λo=>?_) (λo=>?_)))))))
  ·have a0:=of_decide_eq_true o
   have hk:k<64:=za
   have hln:=qI key bv k
   refine Zk (Zt (Zs (Zb (Zs (gC (.rd 0 (.rd 1 .done)) (Zr 0 2 [] (Zd (Zt (gC (.rd 0 (.rd 1 (.rd 2 (.rd 3 (.rd 4 (.rd 5 (.rd 6 (.ef 7 .done)))))))) (Zp 0 7 [(2,.eJ (zP a (0+(k*1))) .at_),(3,.gen [.int .u8 ((pP key bv k).getD k 0)]),(6,.eJ (zP a (0+(k*1))) .at_)] [(2,[.prop (0<=(k:Int)/\(k:Int)<(64:Int)),.prop (Value.pointer (some (Addr.add ⟨a,0,none⟩ (Int.toNat (k:Nat)*1)))=Value.pointer (some ⟨a,0+(k*1),none⟩))]),(3,[.cell ⟨a,0+(k*1),none⟩ (.int .u8 ((pP key bv k).getD k 0))]),(6,[.prop (0<=(k:Int)/\(k:Int)<(64:Int)),.prop (Value.pointer (some (Addr.add ⟨a,0,none⟩ (Int.toNat (k:Nat)*1)))=Value.pointer (some ⟨a,0+(k*1),none⟩))])] (ak (aL za (aL (bK _ _ _) aO)) (ak (bP (aB.dX (aI i 0 rfl aF.size (0:Int)) (k:=k) zo (j:=0) zf zk) aO) (ak (aL za (aL (bK _ _ _) aO)) gQ))) (aU.store rfl rfl zk (b:=a) (off:=0+(k*1)) (v:=.int .u8 (dL .u8 ((pP key bv k).getD k 0) bv)) zk zk (ti:=Tryz.t5) zk i 0 rfl zk zk (by rw [Nat.zero_add];exact fN (f:=aA) (size:=1) (l:=pP key bv k) (k:=k) aF.size zo) (cs':=af aA ((pP key bv k).set k (dL .u8 ((pP key bv k).getD k 0) bv))) (L':=(aC a (af aA ((pP key bv k).set k (dL .u8 ((pP key bv k).getD k 0) bv))) 5)::L) (by rw [Nat.zero_add];exact eT (f:=aA) (size:=1) (l:=pP key bv k) (k:=k) aF.size zo (dL .u8 ((pP key bv k).getD k 0) bv)) rfl λa1 a2=>⟨jI,Zd (Zm (Zt (gC (.rd 0 (.rd 1 .done)) (Zp 0 2 [(0,.eJ (.int .i64 ((k:Nat)+1)) (.gen []))] [(0,[.prop (Value.int .i64 (IntKind.i64.wrap ((k:Nat)+1))=Value.int .i64 ((k:Nat)+1))])] (ak (aL (kF za za) aO) gQ) (Zd ?_)))))⟩)))))))))))
   have a3:St w0 (aC a (af aA (pP key bv (k+1))) 5::L) a1:=a2
   exact aN.back (k+1) [1,4,6,19] zk (by show 64-(k+1)<64-k;omega) ⟨za,a3⟩
  ·have a0:=of_decide_eq_false o
   have hke:k=64:=za
   subst hke
   exact Zx (aN.cJ (aN.fJ (aN.iT (Zt (Zs (gC (.rd 0 (.rd 1 .done)) (Zr 0 2 [] (Zd (Zt (Ze (bL (v:=zL a 0 64 64) ⟨a,rfl,i⟩)))))))))))
end
section
variable {w0 w : World} {L : List cA}
def lL (key bl:List Int):List Int:=hY (dS key 92) (hY (dS key 54) bl)
theorem gY (key bl:List Int):(lL key bl).length=32:=dQ _ _
def yH (x y:List Int) (k:Nat):Int:=iter (λj v=>mL .u8 v (dL .u8 (x.getD j 0) (y.getD j 0))) k 0
theorem zN {p:Prop}(h:p:=by rw [mR];decide):p:=h
theorem zR {p:Prop}(h:p:=by rw [dQ];decide):p:=h
theorem DT {adk:Option Addr}{ck:Nat}{adb:Option Addr}{cb:Nat}key bl (hkl:key.length<=64) (hnk:adk=none->ck=0) (hbc:bl.length<=cb) (hbl:bl.length<=1000000000) (hTab:∀ w,St w0 L w->jX w) (hr1:Rw w0 L aA 1 0 adk key) (hr2:Rw w0 L aA 1 0 adb bl) (hs:St w0 L w):Cs Tryz.prog 188 #[.slice adk key.length ck,.slice adb bl.length cb] w λrv w'=>rv=.agg (af aA (lL key bl))/\St w0 L w':=by
 refine enter (args:=[.slice adk key.length ck,.slice adb bl.length cb]) Tryz.func188 rfl Tryz.ntmps188 (Nat.le_of_ble_eq_true zk) (Zn [(0,.slice adk key.length ck),(1,.slice adb bl.length cb)] (Zs (gC (.ef 0 .done) (eN sK hs λq w2 a1=>⟨jI,Zd (Zt (Zs (gC (.rd 0 (.ef 1 (.rd 2 (.ef 3 (.ef 4 (.ef 5 (.ef 6 .done))))))) (Zr 0 1 [] (dE (f:=222) (args:=#[.slice adk key.length ck,.int .u8 54]) Tryz.call222 (uZ key 54 zc hnk (λw h=>hr1 _ (h.drop 1)) a1) ?_)))))⟩))))
 rintro v6 w7 ⟨i,rfl,a2⟩
 refine⟨jI,Zr 2 1 [] (aU.cT rfl zk (t:=205) (e:=25) (n:=2) (ps:=[(0,zL i 0 64 64),(1,.slice adb bl.length cb)]) zk zk (ti:=Tryz.t25) (z:=.slice none 0 0) zk zk zf zf (cs:=#[zL i 0 64 64,.slice adb bl.length cb]) zk a2 λu w9 a3 b3=>⟨jI,dE (f:=221) (args:=#[zL u 0 2 2]) Tryz.call221 (um (dS key 54) bl (mR _ _) rfl zN zc zN zc (λw h=>hTab w (h.drop 2)) (λw h=>aI h 0 rfl aF.size _) (λw h=>hr2 _ (h.drop 2)) a3) ?_⟩)⟩
 rintro b4 b5 ⟨rfl,a4⟩
 refine⟨jI,(eN sK a4 λd b6 a5=>⟨jI,(aU.store rfl rfl zk (b:=d) (off:=0) (v:=.agg (af aA (hY (dS key 54) bl))) zk zk (ti:=Tryz.t44) zk a5 0 rfl (cK aF (show(hY (dS key 54) bl).length=32 from(dQ _ _)) zk) (eQ aF) (eF aF (show(hY (dS key 54) bl).length=32 from(dQ _ _)) zk) (cs':=af aA (hY (dS key 54) bl)) (L':=(aC d (af aA (hY (dS key 54) bl)) 44)::aC u #[zL i 0 64 64,.slice adb bl.length cb] 25::aC i (af aA (dS key 54)) 5::aC q sK 44::L) (eX aF (show(hY (dS key 54) bl).length=32 from(dQ _ _)) zk) rfl λb7 a6=>⟨jI,Zd (Zt (Zs (ZD (eR [0,2] (.ef 1 (.ef 3 (.ef 4 (.ef 5 .done))))) a6 λb9 a7 c0=>Zh [(0,.gen []),(2,.eJ (zL d 0 32 32) (.sub 0 32))] [(2,[.prop (((none:Option Operand)=none->(0:Nat)=0)/\((none:Option Operand)=none->(32:Nat)=32)/\(0:Nat)<=32/\(32:Nat)<=32),.prop (Value.slice (some (if 32=0 then Addr.mk d 0 none else (Addr.mk d 0 none).add (0*1))) (32-0) (32-0)=Value.slice (some ⟨d,0,none⟩) 32 32)])] (ak (aL ⟨(by first|(intro _;rfl)|(intro hc;cases hc)),(by first|(intro _;rfl)|(intro hc;cases hc)),za,za⟩ (aL (dM _ _ _ _ _ zf) aO)) gQ) ?_)))⟩)⟩)⟩
 refine dE (f:=222) (args:=#[.slice adk key.length ck,.int .u8 92]) Tryz.call222 (uZ key 92 zc hnk (λw h=>hr1 _ (h.drop 4)) a7) ?_
 rintro c1 c2 ⟨o,rfl,a8⟩
 refine⟨fM (n:=[.prop (((none:Option Operand)=none->(0:Nat)=0)/\((none:Option Operand)=none->(32:Nat)=32)/\(0:Nat)<=32/\(32:Nat)<=32),.prop (Value.slice (some (if 32=0 then Addr.mk d 0 none else (Addr.mk d 0 none).add (0*1))) (32-0) (32-0)=Value.slice (some ⟨d,0,none⟩) 32 32)]) zk (aL ⟨(by first|(intro _;rfl)|(intro hc;cases hc)),(by first|(intro _;rfl)|(intro hc;cases hc)),za,za⟩ (aL (dM _ _ _ _ _ zf) aO)),(aU.cT rfl zk (t:=205) (e:=25) (n:=2) (ps:=[(0,zL o 0 64 64),(1,zL d 0 32 32)]) zk zk (ti:=Tryz.t25) (z:=.slice none 0 0) zk zk zf zf (cs:=#[zL o 0 64 64,zL d 0 32 32]) zk a8 λx c3 a9 c4=>⟨jI,dE (f:=221) (args:=#[zL x 0 2 2]) Tryz.call221 (um (dS key 92) (hY (dS key 54) bl) (mR _ _) (dQ _ _) zN zR zN zR (λw h=>hTab w (h.drop 5)) (λw h=>aI h 0 rfl aF.size _) (λw h=>aI h 1 rfl aF.size _) a9) ?_⟩)⟩
 rintro c5 c6 ⟨rfl,b0⟩
 refine⟨jI,(aU.store rfl rfl zk (b:=q) (off:=0) (v:=.agg (af aA (hY (dS key 92) (hY (dS key 54) bl)))) zk zk (ti:=Tryz.t44) zk b0 5 rfl (cK aF (show(hY (dS key 92) (hY (dS key 54) bl)).length=32 from(dQ _ _)) zk) (eQ aF) (eF aF (show(hY (dS key 92) (hY (dS key 54) bl)).length=32 from(dQ _ _)) zk) (cs':=af aA (hY (dS key 92) (hY (dS key 54) bl))) (L':=(aC x #[zL o 0 64 64,zL d 0 32 32] 25)::aC o (af aA (dS key 92)) 5::aC d (af aA (hY (dS key 54) bl)) 44::aC u #[zL i 0 64 64,.slice adb bl.length cb] 25::aC i (af aA (dS key 54)) 5::aC q (af aA (hY (dS key 92) (hY (dS key 54) bl))) 44::L) (eX aF (show(hY (dS key 92) (hY (dS key 54) bl)).length=32 from(dQ _ _)) zk) rfl λc7 a0=>⟨jI,Zd (Zt (Ze (aN.done (.inl rfl) (v:=.agg (af aA (hY (dS key 92) (hY (dS key 54) bl)))) (λa hf=>gW rfl zk (ti:=Tryz.t44) zk zk (vs:=af aA (hY (dS key 92) (hY (dS key 54) bl))) (bQ aF (show(hY (dS key 92) (hY (dS key 54) bl)).length=32 from(dQ _ _)) zk) (a0.cells 5 0 rfl zG) a hf) ?_)))⟩)⟩
 have b2:=a0.dr 6
 exact⟨rfl,b2⟩
end
section
variable {w0 w : World} {L : List cA}
theorem wI (v:bI):v.toList.length=32:=by simp
def wJ (x y:List Int):Bool:=yH x y 32 == 0
theorem DV x y (lx:x.length=32) (ly:y.length=32) (hs:St w0 L w):Cs Tryz.prog 148 #[.agg (af aA x),.agg (af aA y)] w λrv w'=>rv=.bool (wJ x y)/\St w0 L w':=by
 refine enter (args:=[.agg (af aA x),.agg (af aA y)]) Tryz.func148 rfl Tryz.ntmps148 (Nat.le_of_ble_eq_true zk) (Zn [(0,.agg (af aA x)),(1,.agg (af aA y))] (Zs (gC (.ef 0 (.ef 1 (.rd 2 .done))) (hG (af aA x) hs λa z i=>⟨jI,(hG (af aA y) i λb w5 o=>⟨jI,Zr 2 1 [] (Zd (Zt (Zs (gC (.rd 0 .done) (Zr 0 1 [] (Zd (Zt (Zs (Zs (gC (.rd 0 .done) (Zr 0 1 [] (Zd (Zt (Zb (bH.loop (T:=Nat×Int) (λgg=>[(2,zP a 0),(3,zP b 0),(4,.bool false),(5,.int .u8 gg.2),(7,.int .i64 (gg.1:Nat))]) (λgg w=>(gg.1<=32/\gg.2=yH x y gg.1)/\St w0 (aC b (af aA y) 44::aC a (af aA x) 44::L) w) (λgg=>32-gg.1) (0,0) [2,3,4,5,7] zk ⟨⟨Nat.zero_le _,rfl⟩,o⟩ ?_)))))))))))))))⟩)⟩))))
 rintro⟨k,wv⟩ w7 ⟨hp,d⟩
 dsimp only at hp d
 refine Zs (gC (.rd 0 .done) (Zr 0 1 [] (Zd (Zt (Zs (cZ (t:=decide ((k:Int)<32)) (λe=>?_) (λe=>?_)))))))
 ·have q:=of_decide_eq_true e
  have hk:k<32:=za
  exact Zk (Zt (Zs (Zb (Zs (gC (.rd 0 (.rd 1 .done)) (Zr 0 2 [] (Zd (Zt (ZD (eR [0,1,2,3,4,5,6,7,8,9] .done) d λa0 f a1=>Zp 0 10 [(2,.eJ (zP a (0+(k*1))) .at_),(3,.gen [.int .u8 (x.getD k 0)]),(5,.eJ (zP b (0+(k*1))) .at_),(6,.gen [.int .u8 (y.getD k 0)])] [(2,[.prop (0<=(k:Int)/\(k:Int)<(32:Int)),.prop (Value.pointer (some (Addr.add ⟨a,0,none⟩ (Int.toNat (k:Nat)*1)))=Value.pointer (some ⟨a,0+(k*1),none⟩))]),(3,[.cell ⟨a,0+(k*1),none⟩ (.int .u8 (x.getD k 0))]),(5,[.prop (0<=(k:Int)/\(k:Int)<(32:Int)),.prop (Value.pointer (some (Addr.add ⟨b,0,none⟩ (Int.toNat (k:Nat)*1)))=Value.pointer (some ⟨b,0+(k*1),none⟩))]),(6,[.cell ⟨b,0+(k*1),none⟩ (.int .u8 (y.getD k 0))])] (ak (aL za (aL (bK _ _ _) aO)) (ak (bP (aB.dX (aI f 1 rfl aF.size (0:Int)) (k:=k) zo (j:=0) zf zk) aO) (ak (aL za (aL (bK _ _ _) aO)) (ak (bP (aB.dX (aI f 0 rfl aF.size (0:Int)) (k:=k) zo (j:=0) zf zk) aO) gQ)))) (Zd (Zm (Zt (gC (.rd 0 (.rd 1 .done)) (Zp 0 2 [(0,.eJ (.int .i64 ((k:Nat)+1)) (.gen []))] [(0,[.prop (Value.int .i64 (IntKind.i64.wrap ((k:Nat)+1))=Value.int .i64 ((k:Nat)+1))])] (ak (aL (kF za za) aO) gQ) (Zd (aN.back (k+1,mL .u8 wv (dL .u8 (x.getD k 0) (y.getD k 0))) [2,3,4,5,7] zk (by show 32-(k+1)<32-k;omega) ⟨⟨za,by rw [hp.2];rfl⟩,f⟩))))))))))))))))
 ·have q:=of_decide_eq_false e
  have hke:k=32:=za
  exact Zx (aN.cJ (aN.fJ (aN.iT (Zt (Zs (gC (.rd 0 (.rd 1 (.rd 2 .done))) (Zr 0 3 [] (Zd (Zt (Ze (bL (v:=.bool ((wv:Int) == 0)) ⟨(by rw [hp.2,hke];rfl),d.dr 2⟩)))))))))))
theorem DW (x y:bI) (hs:St w0 L w):Cs Tryz.prog 148 #[.agg (bI.cells x),.agg (bI.cells y)] w λrv w'=>rv=.bool (wJ x.toList y.toList)/\St w0 L w':=by
 rw [MN,MN]
 exact DV _ _ (wI x) (wI y) hs
end
section
variable {w0 w : World} {L : List cA}
def uo (wrd:ByteArray) (i:Int):List Int:=hY (cV wrd) (([]:List Int)++wd i)
theorem oA (wrd:ByteArray) (i:Int):(uo wrd i).length=32:=dQ _ _
theorem zC {p:Prop}(h:p:=by first|omega|(simp only [List.length_append,List.length_nil,aZ];omega)):p:=h
theorem It wrd i most (hi:1<=i) (him:i<=most) (hmost:most<=100) (hwz:wrd.size<=1000000000) (hTab:∀ w,St w0 L w->jX w) (hs:St w0 L w):Cs Tryz.prog 220 #[.string wrd,.int .i64 i,.int .i64 most] w λrv w'=>∃ ao co,rv=.slice ao ((uo wrd i).length) co/\St w0 (Sl ao co 5 1 aA (uo wrd i)::L) w':=by
 refine enter (args:=[.string wrd,.int .i64 i,.int .i64 most]) Tryz.func220 rfl Tryz.ntmps220 (Nat.le_of_ble_eq_true zk) (Zn [(0,.string wrd),(1,.int .i64 i),(2,.int .i64 most)] (Zs (gC (.rd 0 .done) (Zr 0 1 [] (Zd (Zt (Zs (Zs (bH.join (T:=Unit) (E:=λ_=>[(14,.bool ((decide ((i:Int)<1)) || (decide ((i:Int)>most)))),(6,.slice none 0 0),(0,.string wrd),(1,.int .i64 i)]) (F:=λ_ w=>St w0 L w) ?_ ?_)))))))))
 ·refine gC (.rd 0 (.rd 1 (.rd 2 (.rd 3 (.rd 4 (.rd 5 (.rd 6 .done))))))) (Zr 0 3 [] (dB 10 (decide ((i:Int)<1)) (λd=>?_) (λd=>?_)))
  ·exact Zr 3 4 [] (Zd (gB [14,6,0,1] () true (by first|rfl|simp [Hb,d]) hs))
  ·exact Zr 3 4 [] (Zd (gB [14,6,0,1] () (decide ((i:Int)>most)) (by first|rfl|simp [Hb,d]) hs))
 intro _ w2 a6
 refine Zt (cZ (t:=(decide ((i:Int)<1)) || (decide ((i:Int)>most))) (λo=>?_) (λo=>?_))
 ·exfalso;rcases Bool.or_eq_true_iff.1 o with h9|h9
  ·have:=of_decide_eq_true h9;omega
  ·have:=of_decide_eq_true h9;omega
 ·have a7:=(Bool.or_eq_false_iff.1 o).1
  have a8:(decide ((i:Int)>most))=false:=(Bool.or_eq_false_iff.1 o).2
  refine Zk (Zt (Zs (gC (.rd 0 (.ef 1 (.rd 2 (.rd 3 (.ef 4 (.ef 5 (.ef 6 (.ef 7 (.ef 8 .done))))))))) (Zr 0 1 [] (aU.Cf rfl zk (src:=9) (dst:=25) (e:=5) (f:=aA) rfl wrd zk zk zk zk hwz a6 λq u w7 a9=>?_)))))
  have hsb:=bY wrd
  refine⟨jI,Zp 2 2 [(3,.eJ (.int .u64 i) (.gen []))] [(3,[.prop (Value.int .u64 (IntKind.u64.wrap i)=Value.int .u64 i)])] (ak (aL (BR za za) aO) gQ) (dE (f:=38) (args:=#[.slice none 0 0,.int .u64 i]) Tryz.call38 (eU ([]:List Int) i zg za (St.bJ a9 5 1 aA)) ?_)⟩
  rintro c1 c2 ⟨x,a0,rfl,b1⟩
  refine⟨jI,(aU.cT rfl zk (t:=205) (e:=25) (n:=2) (ps:=[(0,zL q 0 ((cV wrd).length) ((cV wrd).length+u)),(1,.slice x ((([]:List Int)++wd i).length) a0)]) zk zk (ti:=Tryz.t25) (z:=.slice none 0 0) zk zk zf zf (cs:=#[zL q 0 ((cV wrd).length) ((cV wrd).length+u),.slice x ((([]:List Int)++wd i).length) a0]) zk b1 λa1 c3 a2 c4=>⟨jI,dE (f:=221) (args:=#[zL a1 0 2 2]) Tryz.call221 (um (cV wrd) (([]:List Int)++wd i) zc zc zC (Sl.cap (a2.at_ 1 rfl)) zC zC (λw h=>hTab w (h.drop 2)) (λw h=>vb h 1 rfl) (λw h=>h.rows 0 rfl aF.size _) a2) ?_⟩)⟩
  rintro c5 c6 ⟨rfl,b2⟩
  refine⟨jI,(eN sK b2 λa c7 b3=>⟨jI,(aU.store rfl rfl zk (b:=a) (off:=0) (v:=.agg (af aA (hY (cV wrd) (([]:List Int)++wd i)))) zk zk (ti:=Tryz.t44) zk b3 0 rfl (cK aF (show(hY (cV wrd) (([]:List Int)++wd i)).length=32 from(dQ _ _)) zk) (eQ aF) (eF aF (show(hY (cV wrd) (([]:List Int)++wd i)).length=32 from(dQ _ _)) zk) (cs':=af aA (hY (cV wrd) (([]:List Int)++wd i))) (L':=(aC a (af aA (hY (cV wrd) (([]:List Int)++wd i))) 44)::aC a1 #[zL q 0 ((cV wrd).length) ((cV wrd).length+u),.slice x ((([]:List Int)++wd i).length) a0] 25::Sl x a0 5 1 aA (([]:List Int)++wd i)::aC q (af aA (cV wrd++List.replicate u 0)) 5::L) (eX aF (show(hY (cV wrd) (([]:List Int)++wd i)).length=32 from(dQ _ _)) zk) rfl λc8 b4=>⟨jI,Zd (Zt (Zs (gC (.rd 0 (.ef 1 (.rd 2 .done))) (Zp 0 1 [(0,.eJ (zL a 0 32 32) (.sub 0 32))] [(0,[.prop (((none:Option Operand)=none->(0:Nat)=0)/\((none:Option Operand)=none->(32:Nat)=32)/\(0:Nat)<=32/\(32:Nat)<=32),.prop (Value.slice (some (if 32=0 then Addr.mk a 0 none else (Addr.mk a 0 none).add (0*1))) (32-0) (32-0)=Value.slice (some ⟨a,0,none⟩) 32 32)])] (ak (aL ⟨(by first|(intro _;rfl)|(intro hc;cases hc)),(by first|(intro _;rfl)|(intro hc;cases hc)),za,za⟩ (aL (dM _ _ _ _ _ zf) aO)) gQ) (dE (f:=113) (args:=#[zL a 0 ((hY (cV wrd) (([]:List Int)++wd i)).length) 32]) Tryz.call113 (qy (hY (cV wrd) (([]:List Int)++wd i)) zR (.inl ⟨_,_,rfl⟩) (λw h=>aI h 0 rfl aF.size _) b4) ?_)))))⟩)⟩)⟩
  rintro c9 d0 ⟨a3,a4,rfl,b6⟩
  refine⟨jI,Zr 2 1 [] (Zd (Zt (Ze (bL (v:=.slice a3 ((hY (cV wrd) (([]:List Int)++wd i)).length) a4) ?_))))⟩
  have b7:=((((b6.pl 0).pl 4).pl 4).pl 4).pl 4
  exact⟨a3,a4,rfl,b7.dr 4⟩
abbrev NB:ByteArray:=(⟨#[114,97,116,99,104,101,116,32,114,101,112,108,105,99,97]⟩:ByteArray)
def lB (i:Int):List Int:=uo NB i
theorem oB (i:Int):(lB i).length=32:=dQ _ _
theorem tz i (hi:1<=i) (him:i<=11) (hTab:∀ w,St w0 L w->jX w) (hs:St w0 L w):Cs Tryz.prog 187 #[.int .i64 i] w λrv w'=>∃ ao co,rv=.slice ao ((lB i).length) co/\St w0 (Sl ao co 5 1 aA (lB i)::L) w':=by
 refine enter (args:=[.int .i64 i]) Tryz.func187 rfl Tryz.ntmps187 (Nat.le_of_ble_eq_true zk) (Zn [(0,.int .i64 i)] (Zs (gC (.rd 0 .done) (Zr 0 1 [] (Zd (Zt (Zs (gC (.rd 0 (.ef 1 (.rd 2 .done))) (Zr 0 1 [] (dE (f:=220) (args:=#[.string (⟨#[114,97,116,99,104,101,116,32,114,101,112,108,105,99,97]⟩:ByteArray),.int .i64 i,.int .i64 11]) Tryz.call220 (It (⟨#[114,97,116,99,104,101,116,32,114,101,112,108,105,99,97]⟩:ByteArray) i 11 zc zc zc zf (λw h=>hTab w (h.drop 0)) hs) ?_))))))))))
 rintro e o ⟨a,b,rfl,d⟩
 exact⟨jI,Zr 2 1 [] (Zd (Zt (Ze (bL (v:=.slice a ((uo (⟨#[114,97,116,99,104,101,116,32,114,101,112,108,105,99,97]⟩:ByteArray) i).length) b) ⟨a,b,rfl,d⟩))))⟩
def DX (l1 l2:List Int):Nat->List Int
 | 0=>[]
 | 1=>l1
 | _=>l1++l2
theorem Gq {bs:Nat}{a1:Option Addr}{n1:Nat}{c1:Nat}{a2:Option Addr}{n2:Nat}{c2:Nat}l1 l2 (e1:l1.length=n1) (e2:l2.length=n2) (g1:l1.length<=100000) (g2:l2.length<=100000) (hn1:a1=none->c1=0) (hn2:a2=none->c2=0) (hr1:Rw w0 L aA 1 0 a1 l1) (hr2:Rw w0 L aA 1 0 a2 l2) (hs:St w0 (aC bs #[.slice a1 n1 c1,.slice a2 n2 c2] 25::L) w):Cs Tryz.prog 99 #[zL bs 0 2 2] w λrv w'=>∃ ao co,rv=.slice ao ((l1++l2).length) co/\St w0 (aC bs #[.slice a1 n1 c1,.slice a2 n2 c2] 25::Sl ao co 5 1 aA (l1++l2)::L) w':=by
 refine enter (args:=[zL bs 0 2 2]) Tryz.func99 rfl Tryz.ntmps99 (Nat.le_of_ble_eq_true zk) (Zn [(0,zL bs 0 2 2)] (Zs ?_))
 subst e1
 subst e2
 refine gC (.rd 0 .done) (Zr 0 1 [] (Zd (Zt (Zs (gC (.rd 0 .done) (Zr 0 1 [] (Zd (Zt (Zs (Zs (gC (.rd 0 (.rd 1 (.rd 2 .done))) (Zr 0 3 [] (Zd (Zt (Zb (bH.loop (T:=Nat×Int) (λgg=>[(0,zL bs 0 2 2),(2,.slice none 0 0),(3,.int .i64 gg.2),(9,zL bs 0 2 2),(10,.int .i64 2),(11,.int .i64 (gg.1:Nat))]) (λgg w=>(gg.1<=2/\(gg.1=0->gg.2=(0:Int))/\(gg.1=1->gg.2=(0:Int)+(l1.length:Nat))/\(gg.1=2->gg.2=(0:Int)+(l1.length:Nat)+(l2.length:Nat)))/\St w0 (aC bs #[.slice a1 l1.length c1,.slice a2 l2.length c2] 25::L) w) (λgg=>2-gg.1) (0,0) [0,2,3,9,10,11] zk ⟨⟨Nat.zero_le _,λ_=>rfl,λh=>by omega,λh=>by omega⟩,hs⟩ ?_))))))))))))))))
 rintro⟨k,z⟩ w1 ⟨hp,a⟩
 dsimp only at hp a
 refine Zs (gC (.rd 0 .done) (Zr 0 1 [] (Zd (Zt (Zs (Zn [(12,.bool (decide ((k:Int)<2))),(0,zL bs 0 2 2),(2,.slice none 0 0),(3,.int .i64 z),(9,zL bs 0 2 2),(10,.int .i64 2),(11,.int .i64 (k:Nat))] (cZ (t:=decide ((k:Int)<2)) (λq=>?_) (λq=>?_))))))))
 ·have a6:=of_decide_eq_true q
  have hcs:k=0\/k=1:=za
  rcases hcs with rfl|rfl
  ·have hz:z=(0:Int):=hp.2.1 rfl
   refine Zn [(12,.bool (decide (((0:Nat):Int)<2))),(0,zL bs 0 2 2),(2,.slice none 0 0),(3,.int .i64 z),(9,zL bs 0 2 2),(10,.int .i64 2),(11,.int .i64 0)] (Zk (Zt (Zs (Zb (Zs (gC (.rd 0 (.rd 1 (.rd 2 .done))) (Zp 0 3 [(0,.eJ (zP bs 0) .at_),(1,.gen [.slice a1 l1.length c1])] [(0,[.prop (0<=(0:Int)/\(0:Int)<(2:Int)),.prop (Value.pointer (some (Addr.add ⟨bs,0,none⟩ (Int.toNat 0*1)))=Value.pointer (some ⟨bs,0,none⟩))]),(1,[.cell ⟨bs,0,none⟩ (.slice a1 l1.length c1)])] (ak (aL za (aL (bK _ _ _) aO)) (ak (bP (a.cell 0 rfl zk) aO) gQ)) (Zd (Zt (Zs (gC (.rd 0 (.rd 1 (.rd 2 (.rd 3 (.rd 4 .done))))) (Zp 0 5 [(3,.eJ (.int .i64 (z+(l1.length:Nat))) (.gen []))] [(3,[.prop (Value.int .i64 (IntKind.i64.wrap (z+(l1.length:Nat)))=Value.int .i64 (z+(l1.length:Nat)))])] (ak (aL (kF za za) aO) gQ) (Zd (Zt (Zs (gC (.rd 0 (.rd 1 .done)) (Zr 0 2 [] (Zd (Zt (cZ (t:=decide ((z+(l1.length:Nat):Int)<0)) (λu=>?_) (λu=>?_)))))))))))))))))))))
   ·have a7:=of_decide_eq_true u
    exfalso;omega
   ·exact Zk (Zm (Zt (gC (.rd 0 (.rd 1 .done)) (Zr 0 2 [] (Zd (aN.back (1,z+(l1.length:Nat)) [0,2,3,9,10,11] zk (by show 2-1<2-0;omega) ⟨⟨za,za,za,za⟩,a⟩))))))
  ·have hz:z=(0:Int)+(l1.length:Nat):=hp.2.2.1 rfl
   refine Zn [(12,.bool (decide (((1:Nat):Int)<2))),(0,zL bs 0 2 2),(2,.slice none 0 0),(3,.int .i64 z),(9,zL bs 0 2 2),(10,.int .i64 2),(11,.int .i64 1)] (Zk (Zt (Zs (Zb (Zs (gC (.rd 0 (.rd 1 (.rd 2 .done))) (Zp 0 3 [(0,.eJ (zP bs 1) .at_),(1,.gen [.slice a2 l2.length c2])] [(0,[.prop (0<=(1:Int)/\(1:Int)<(2:Int)),.prop (Value.pointer (some (Addr.add ⟨bs,0,none⟩ (Int.toNat 1*1)))=Value.pointer (some ⟨bs,1,none⟩))]),(1,[.cell ⟨bs,1,none⟩ (.slice a2 l2.length c2)])] (ak (aL za (aL (bK _ _ _) aO)) (ak (bP (a.cell 0 rfl zk) aO) gQ)) (Zd (Zt (Zs (gC (.rd 0 (.rd 1 (.rd 2 (.rd 3 (.rd 4 .done))))) (Zp 0 5 [(3,.eJ (.int .i64 (z+(l2.length:Nat))) (.gen []))] [(3,[.prop (Value.int .i64 (IntKind.i64.wrap (z+(l2.length:Nat)))=Value.int .i64 (z+(l2.length:Nat)))])] (ak (aL (kF za za) aO) gQ) (Zd (Zt (Zs (gC (.rd 0 (.rd 1 .done)) (Zr 0 2 [] (Zd (Zt (cZ (t:=decide ((z+(l2.length:Nat):Int)<0)) (λx=>?_) (λx=>?_)))))))))))))))))))))
   ·have a8:=of_decide_eq_true x
    exfalso;omega
   ·exact Zk (Zm (Zt (gC (.rd 0 (.rd 1 .done)) (Zr 0 2 [] (Zd (aN.back (2,z+(l2.length:Nat)) [0,2,3,9,10,11] zk (by show 2-2<2-1;omega) ⟨⟨za,za,za,za⟩,a⟩))))))
 ·have a6:=of_decide_eq_false q
  have hkn:k=2:=za
  subst hkn
  have hz:z=(0:Int)+(l1.length:Nat)+(l2.length:Nat):=hp.2.2.2 rfl
  have hzn:z=((l1.length+l2.length:Nat):Int):=za
  refine Zn [(12,.bool (decide (((2:Nat):Int)<2))),(0,zL bs 0 2 2),(2,.slice none 0 0),(3,.int .i64 z),(9,zL bs 0 2 2),(10,.int .i64 2),(11,.int .i64 (2:Nat))] (bH.fK (S':=[(12,.bool (decide (((2:Nat):Int)<2))),(0,zL bs 0 2 2),(2,.slice none 0 0),(3,.int .i64 (l1.length+l2.length:Nat)),(9,zL bs 0 2 2),(10,.int .i64 2),(11,.int .i64 (2:Nat))]) (by rw [hzn]) (Zn [(12,.bool (decide (((2:Nat):Int)<2))),(0,zL bs 0 2 2),(2,.slice none 0 0),(3,.int .i64 (l1.length+l2.length:Nat)),(9,zL bs 0 2 2),(10,.int .i64 2),(11,.int .i64 (2:Nat))] (Zx (aN.cJ (aN.fJ (aN.iT (Zt (Zs (gC (.rd 0 (.ef 1 (.rd 2 .done))) (Zr 0 1 [] (dE (f:=138) (args:=#[.slice none 0 0,.int .i64 (l1.length+l2.length:Nat)]) Tryz.call138 (pI ([]:List Int) (l1.length+l2.length:Nat) zg za (St.bJ a 5 1 aA)) ?_)))))))))))
  rintro c4 c5 ⟨b0,b1,rfl,b2⟩
  refine⟨jI,Zr 2 1 [] (Zd (Zt (Zs (Zs (gC (.rd 0 (.rd 1 (.rd 2 .done))) (Zr 0 3 [] (Zd (Zt (Zb (bH.loop (T:=Nat×(Option Addr)×Nat) (λgg=>[(2,.slice none 0 0),(6,.slice gg.2.1 ((DX l1 l2 gg.1).length) gg.2.2),(25,zL bs 0 2 2),(26,.int .i64 2),(27,.int .i64 (gg.1:Nat))]) (λgg w=>(gg.1<=2)/\St w0 (Sl gg.2.1 gg.2.2 5 1 aA (DX l1 l2 gg.1)::aC bs #[.slice a1 l1.length c1,.slice a2 l2.length c2] 25::L) w) (λgg=>2-gg.1) (0,b0,b1) [2,6,25,26,27] zk ⟨Nat.zero_le _,b2⟩ ?_))))))))))⟩
  rintro⟨k,ad,c⟩ a0 ⟨hq,b⟩
  dsimp only at hq b
  refine Zs (gC (.rd 0 .done) (Zr 0 1 [] (Zd (Zt (Zs (Zn [(28,.bool (decide ((k:Int)<2))),(2,.slice none 0 0),(6,.slice ad ((DX l1 l2 k).length) c),(25,zL bs 0 2 2),(26,.int .i64 2),(27,.int .i64 (k:Nat))] (cZ (t:=decide ((k:Int)<2)) (λa3=>?_) (λa3=>?_))))))))
  ·have b3:=of_decide_eq_true a3
   have hcs:k=0\/k=1:=za
   rcases hcs with rfl|rfl
   ·have a4:St w0 (Sl ad c 5 1 aA ([]:List Int)::aC bs #[.slice a1 l1.length c1,.slice a2 l2.length c2] 25::L) a0:=b
    refine Zn [(28,.bool (decide (((0:Nat):Int)<2))),(2,.slice none 0 0),(6,.slice ad (([]:List Int).length) c),(25,zL bs 0 2 2),(26,.int .i64 2),(27,.int .i64 0)] (Zk (Zt (Zs (Zb (Zs (gC (.rd 0 (.rd 1 (.rd 2 .done))) (Zp 0 3 [(0,.eJ (zP bs 0) .at_),(1,.gen [.slice a1 l1.length c1])] [(0,[.prop (0<=(0:Int)/\(0:Int)<(2:Int)),.prop (Value.pointer (some (Addr.add ⟨bs,0,none⟩ (Int.toNat 0*1)))=Value.pointer (some ⟨bs,0,none⟩))]),(1,[.cell ⟨bs,0,none⟩ (.slice a1 l1.length c1)])] (ak (aL za (aL (bK _ _ _) aO)) (ak (bP (a4.cell 1 rfl zk) aO) gQ)) (Zd (Zt (gC (.rd 0 (.rd 1 (.ef 2 (.rd 3 .done)))) (Zr 0 2 [] (aU.append rfl zk aP aF (ad:=ad) (c:=c) (xs:=([]:List Int)) (ys:=l1) (adx:=a1) (cx:=c1) (0:Int) zk a4 (hr1 _ (a4.drop 2)) hn1 zx zx λd e b4 b5=>⟨jI,Zr 3 1 [] (Zd (Zm (Zt (gC (.rd 0 (.rd 1 .done)) (Zr 0 2 [] (Zd ?_))))))⟩))))))))))))
    have b6:St w0 (Sl d e 5 1 aA (DX l1 l2 1)::aC bs #[.slice a1 l1.length c1,.slice a2 l2.length c2] 25::L) b4:=b5
    exact aN.pick [27,6,2,25,26] (S':=[(27,.int .i64 1),(6,.slice d l1.length e),(2,.slice none 0 0),(25,zL bs 0 2 2),(26,.int .i64 2)]) zk (aN.fK (S':=[(27,.int .i64 1),(6,.slice d ((DX l1 l2 1).length) e),(2,.slice none 0 0),(25,zL bs 0 2 2),(26,.int .i64 2)]) (by rfl) (aN.back (1,d,e) [2,6,25,26,27] zk (by show 2-1<2-0;omega) ⟨za,b6⟩))
   ·have a5:St w0 (Sl ad c 5 1 aA l1::aC bs #[.slice a1 l1.length c1,.slice a2 l2.length c2] 25::L) a0:=b
    refine Zn [(28,.bool (decide (((1:Nat):Int)<2))),(2,.slice none 0 0),(6,.slice ad l1.length c),(25,zL bs 0 2 2),(26,.int .i64 2),(27,.int .i64 1)] (Zk (Zt (Zs (Zb (Zs (gC (.rd 0 (.rd 1 (.rd 2 .done))) (Zp 0 3 [(0,.eJ (zP bs 1) .at_),(1,.gen [.slice a2 l2.length c2])] [(0,[.prop (0<=(1:Int)/\(1:Int)<(2:Int)),.prop (Value.pointer (some (Addr.add ⟨bs,0,none⟩ (Int.toNat 1*1)))=Value.pointer (some ⟨bs,1,none⟩))]),(1,[.cell ⟨bs,1,none⟩ (.slice a2 l2.length c2)])] (ak (aL za (aL (bK _ _ _) aO)) (ak (bP (a5.cell 1 rfl zk) aO) gQ)) (Zd (Zt (gC (.rd 0 (.rd 1 (.ef 2 (.rd 3 .done)))) (Zr 0 2 [] (aU.append rfl zk aP aF (ad:=ad) (c:=c) (xs:=l1) (ys:=l2) (adx:=a2) (cx:=c2) (0:Int) zk a5 (hr2 _ (a5.drop 2)) hn2 zx zx λi o b7 b8=>⟨jI,Zr 3 1 [] (Zd (Zm (Zt (gC (.rd 0 (.rd 1 .done)) (Zr 0 2 [] (Zd ?_))))))⟩))))))))))))
    have b9:St w0 (Sl i o 5 1 aA (DX l1 l2 2)::aC bs #[.slice a1 l1.length c1,.slice a2 l2.length c2] 25::L) b7:=b8
    exact aN.pick [27,6,2,25,26] (S':=[(27,.int .i64 2),(6,.slice i ((l1++l2).length) o),(2,.slice none 0 0),(25,zL bs 0 2 2),(26,.int .i64 2)]) zk (aN.fK (S':=[(27,.int .i64 2),(6,.slice i ((DX l1 l2 2).length) o),(2,.slice none 0 0),(25,zL bs 0 2 2),(26,.int .i64 2)]) (by rfl) (aN.back (2,i,o) [2,6,25,26,27] zk (by show 2-2<2-1;omega) ⟨za,b9⟩))
  ·have b3:=of_decide_eq_false a3
   have hkn:k=2:=za
   subst hkn
   have c0:St w0 (Sl ad c 5 1 aA (l1++l2)::aC bs #[.slice a1 l1.length c1,.slice a2 l2.length c2] 25::L) a0:=b
   exact Zn [(28,.bool (decide (((2:Nat):Int)<2))),(2,.slice none 0 0),(6,.slice ad ((l1++l2).length) c),(25,zL bs 0 2 2),(26,.int .i64 2),(27,.int .i64 (2:Nat))] (Zx (aN.cJ (aN.fJ (aN.iT (Zt (Zs (gC (.rd 0 (.rd 1 .done)) (Zr 0 2 [] (Zd (Zt (Ze (bL (v:=.slice ad ((l1++l2).length) c) ⟨ad,c,rfl,(c0.pl 0).pl 1⟩))))))))))))
end
section
variable {w0 w : World} {L : List cA}
def Kh (i n:Int) (bl:List Int):List Int:=lL (lB i) ((([]:List Int)++wd n)++bl)
theorem qJ (i n:Int) (bl:List Int):(Kh i n bl).length=32:=dQ _ _
def nD (i n:Int) (bl:List Int):bI:=oN (Kh i n bl)
theorem yb {adb:Option Addr}{cb:Nat}i n bl (hi:1<=i) (him:i<=11) (hn:0<=n/\n<18446744073709551616) (hb:bl.length<=2000) (hnb:adb=none->cb=0) (hbc:bl.length<=cb) (hTab:∀ w,St w0 L w->jX w) (hr:Rw w0 L aA 1 0 adb bl) (hs:St w0 L w):Cs Tryz.prog 149 #[.int .i64 i,.int .u64 n,.slice adb bl.length cb] w λrv w'=>rv=.agg (af aA (Kh i n bl))/\St w0 L w':=by
 refine enter (args:=[.int .i64 i,.int .u64 n,.slice adb bl.length cb]) Tryz.func149 rfl Tryz.ntmps149 (Nat.le_of_ble_eq_true zk) (Zn [(0,.int .i64 i),(1,.int .u64 n),(2,.slice adb bl.length cb)] (Zs (gC (.ef 0 .done) (eN sK hs λu w2 a6=>⟨jI,Zd (Zt (Zs (gC (.rd 0 (.ef 1 (.rd 2 (.ef 3 (.rd 4 (.ef 5 (.ef 6 (.ef 7 (.ef 8 .done))))))))) (Zr 0 1 [] (dE (f:=187) (args:=#[.int .i64 i]) Tryz.call187 (tz i zc zc (λw h=>hTab w (h.drop 1)) a6) ?_)))))⟩))))
 rintro v7 w8 ⟨x,a0,rfl,a7⟩
 refine⟨jI,Zr 2 1 [] (dE (f:=38) (args:=#[.slice none 0 0,.int .u64 n]) Tryz.call38 (eU ([]:List Int) n zg za (St.bJ a7 5 1 aA)) ?_)⟩
 rintro b3 b4 ⟨d,o,rfl,a9⟩
 refine⟨jI,Zr 4 1 [] (aU.cT rfl zk (t:=205) (e:=25) (n:=2) (ps:=[(0,.slice d ((([]:List Int)++wd n).length) o),(1,.slice adb bl.length cb)]) zk zk (ti:=Tryz.t25) (z:=.slice none 0 0) zk zk zf zf (cs:=#[.slice d ((([]:List Int)++wd n).length) o,.slice adb bl.length cb]) zk a9 λa1 b5 a2 b6=>⟨jI,dE (f:=99) (args:=#[zL a1 0 2 2]) Tryz.call99 (Gq (([]:List Int)++wd n) bl zc rfl zC zC (a2.dI 1 rfl) hnb (λw h=>h.rows 0 rfl aF.size _) (λw h=>hr _ (h.drop 3)) a2) ?_⟩)⟩
 rintro b7 b8 ⟨a3,a4,rfl,q⟩
 refine⟨jI,dE (f:=188) (args:=#[.slice x ((lB i).length) a0,.slice a3 (((([]:List Int)++wd n)++bl).length) a4]) Tryz.call188 (DT (lB i) ((([]:List Int)++wd n)++bl) (by rw [oB];decide) (q.dI 3 rfl) (Sl.cap (q.at_ 1 rfl)) zC (λw h=>hTab w (h.drop 5)) (λw h=>h.rows 3 rfl aF.size _) (λw h=>h.rows 1 rfl aF.size _) q) ?_⟩
 rintro b9 c0 ⟨rfl,b0⟩
 exact⟨jI,(aU.store rfl rfl zk (b:=u) (off:=0) (v:=.agg (af aA (lL (lB i) ((([]:List Int)++wd n)++bl)))) zk zk (ti:=Tryz.t44) zk b0 4 rfl (cK aF (show(lL (lB i) ((([]:List Int)++wd n)++bl)).length=32 from(gY _ _)) zk) (eQ aF) (eF aF (show(lL (lB i) ((([]:List Int)++wd n)++bl)).length=32 from(gY _ _)) zk) (cs':=af aA (lL (lB i) ((([]:List Int)++wd n)++bl))) (L':=(aC a1 #[.slice d ((([]:List Int)++wd n).length) o,.slice adb bl.length cb] 25)::Sl a3 a4 5 1 aA ((([]:List Int)++wd n)++bl)::Sl d o 5 1 aA (([]:List Int)++wd n)::Sl x a0 5 1 aA (lB i)::aC u (af aA (lL (lB i) ((([]:List Int)++wd n)++bl))) 44::L) (eX aF (show(lL (lB i) ((([]:List Int)++wd n)++bl)).length=32 from(gY _ _)) zk) rfl λc1 a5=>⟨jI,Zd (Zt (Ze (aN.done (.inl rfl) (v:=.agg (af aA (lL (lB i) ((([]:List Int)++wd n)++bl)))) (λa hf=>gW rfl zk (ti:=Tryz.t44) zk zk (vs:=af aA (lL (lB i) ((([]:List Int)++wd n)++bl))) (bQ aF (show(lL (lB i) ((([]:List Int)++wd n)++bl)).length=32 from(gY _ _)) zk) (a5.cells 4 0 rfl zG) a hf) ⟨rfl,a5.dr 5⟩)))⟩)⟩
theorem wK {adb:Option Addr}{cb:Nat}(i n:Int) bl (hi:1<=i) (him:i<=11) (hn:0<=n/\n<18446744073709551616) (hb:bl.length<=2000) (hnb:adb=none->cb=0) (hbc:bl.length<=cb) (hTab:∀ w,St w0 L w->jX w) (hr:Rw w0 L aA 1 0 adb bl) (hs:St w0 L w) :
 Cs Tryz.prog 149 #[.int .i64 i,.int .u64 n,.slice adb bl.length cb] w λrv w'=>rv=.agg (bI.cells (nD i n bl))/\St w0 L w':=by
 rw [nD,<- HQ (qJ i n bl)]
 exact yb i n bl hi him hn hb hnb hbc hTab hr hs
theorem Gr i (hi:1<=i) (him:i<=11) (hTab:∀ w,St w0 L w->jX w) (hs:St w0 L w):Cs Tryz.prog 146 #[.int .i64 i] w λrv w'=>rv=.bool true/\St w0 L w':=by
 refine enter (args:=[.int .i64 i]) Tryz.func146 rfl Tryz.ntmps146 (Nat.le_of_ble_eq_true zk) (Zn [(0,.int .i64 i)] (Zs (gC (.rd 0 .done) (Zr 0 1 [] (Zd (Zt (Zs (gC (.rd 0 (.ef 1 (.rd 2 (.rd 3 (.rd 4 .done))))) (Zr 0 1 [] (dE (f:=187) (args:=#[.int .i64 i]) Tryz.call187 (tz i zc zc (λw h=>hTab w (h.drop 0)) hs) ?_))))))))))
 rintro d e ⟨o,q,rfl,a⟩
 exact⟨jI,Zr 2 3 [] (Zd (Zt (Ze (bL (v:=.bool (decide (((lB i).length:Int)>0))) ⟨(by rw [oB];rfl),a.dr 1⟩))))⟩
theorem Gs n (hn1:1<=n) (hn2:n<=65536) (hs:St w0 L w):Cs Tryz.prog 147 #[.int .u64 n] w λrv w'=>rv=.bool true/\St w0 L w':=by
 refine enter (args:=[.int .u64 n]) Tryz.func147 rfl Tryz.ntmps147 (Nat.le_of_ble_eq_true zk) (Zn [(0,.int .u64 n)] (Zs (gC (.rd 0 .done) (Zr 0 1 [] (Zd (Zt (Zs (bH.join (T:=Unit) (E:=λ_=>[(2,.bool ((decide ((n:Int) >= 1)) && (decide ((n:Int)<=65536))))]) (F:=λ_ w=>St w0 L w) ?_ ?_))))))))
 ·refine gC (.rd 0 (.rd 1 (.rd 2 (.rd 3 (.rd 4 (.rd 5 (.rd 6 .done))))))) (Zr 0 3 [] (dB 5 (decide ((n:Int) >= 1)) (λa=>?_) (λa=>?_)))
  ·have b:=of_decide_eq_true a
   exact Zr 3 4 [] (Zd (gB [2] () (decide ((n:Int)<=65536)) (by first|rfl|simp [Hb,a]) hs))
  ·have b:=of_decide_eq_false a
   exfalso;omega
 intro _ e d
 exact Zt (Ze (bL (v:=.bool ((decide ((n:Int) >= 1)) && (decide ((n:Int)<=65536)))) ⟨(by rw [decide_eq_true (show n >= 1 by omega),decide_eq_true (show n<=65536 by omega)];rfl),d⟩))
theorem Gt {adb:Option Addr}{cb:Nat}i n bl t (hi:1<=i) (him:i<=11) (hn1:1<=n) (hn2:n<=65536) (hb:bl.length<=1024) (hnb:adb=none->cb=0) (hbc:bl.length<=cb) (hTab:∀ w,St w0 L w->jX w) (hr:Rw w0 L aA 1 0 adb bl) (hs:St w0 L w):Cs Tryz.prog 105 #[.int .i64 i,.int .u64 n,.slice adb bl.length cb,.agg (bI.cells t)] w λrv w'=>rv=.bool (wJ t.toList (nD i n bl).toList)/\St w0 L w':=by
 refine enter (args:=[.int .i64 i,.int .u64 n,.slice adb bl.length cb,.agg (bI.cells t)]) Tryz.func105 rfl Tryz.ntmps105 (Nat.le_of_ble_eq_true zk) (Zn [(0,.int .i64 i),(1,.int .u64 n),(2,.slice adb bl.length cb),(3,.agg (bI.cells t))] (Zs (gC (.ef 0 (.rd 1 .done)) (hG (bI.cells t) hs λa w2 e=>⟨jI,Zr 1 1 [] (Zd (Zt (Zs (ZD (.rd 0 (.ef 1 (eR [2,3] (.ef 4 (eR [5,6,7,8,9,10,11,12,13,14,15] (.ef 16 (.ef 17 (eR [18,19] .done)))))))) e λw4 o a0=>Zr 0 1 [] (dE (f:=146) (args:=#[.int .i64 i]) Tryz.call146 (Gr i za za (λw h=>hTab w (h.drop 1)) o) ?_)))))⟩))))
 rintro v8 w9 ⟨rfl,q⟩
 refine⟨jI,Zr 2 2 [] (dE (f:=147) (args:=#[.int .u64 n]) Tryz.call147 (Gs n za za q) ?_)⟩
 rintro a1 a2 ⟨rfl,b⟩
 refine⟨jI,Zr 5 7 [] (C9 20 ((bl.length:Int)<=1024) (λu=>?_) (λu=>?_))⟩
 ·refine Zp 12 4 [(12,.agg (bI.cells t))] [(12,[.prop (Array.size (bI.cells t)=32),.cells ⟨a,0,none⟩ (bI.cells t)])] (ak (aL zk (eM (b.cells 0 0 rfl zk) aO)) gQ) (dE (f:=149) (args:=#[.int .i64 i,.int .u64 n,.slice adb bl.length cb]) Tryz.call149 (wK i n bl za za za zC hnb zC (λw h=>hTab w (h.drop 1)) (λw h=>hr _ (h.drop 1)) b) ?_)
  rintro a3 a4 ⟨rfl,d⟩
  refine⟨fM (n:=[.prop (Array.size (bI.cells t)=32),.cells ⟨a,0,none⟩ (bI.cells t)]) zk (aL zk (eM (d.cells 0 0 rfl zk) aO)),dE (f:=148) (args:=#[.agg (bI.cells t),.agg (bI.cells (nD i n bl))]) Tryz.call148 (DW t (nD i n bl) d) ?_⟩
  rintro a5 a6 ⟨rfl,x⟩
  exact⟨jI,Zr 18 2 [] (Zd (Zt (Ze (bL (v:=.bool (wJ t.toList (nD i n bl).toList)) ⟨rfl,x.dr 1⟩))))⟩
 ·exfalso;omega
end
section
variable {w0 w : World} {L : List cA}
def mS (x:Int) (n:Int):Int :=
 (mL .u32 (bF .u32 x n) (dY .u32 x (IntKind.u64.wrap (32-n))))
theorem jA x n (hn:(0)<=n) (hs:St w0 L w):Cs Tryz.prog 135 #[.int .u32 x,.int .u64 n] w λrv w'=>rv=.int .u32 (mS x n)/\St w0 L w':=by
 refine cL Tryz.func135 Tryz.ntmps135 (En (Lq (Ls (Dz (cS (Hg 2 (.shift (bF .u32 x n)) [.prop ((0:Int)<=n/\Int.fdiv x (2 ^ (min (Int.toNat n) (IntKind.bits .u32)))=bF .u32 x n)] (aL ⟨(by first|omega|exact bW rfl _),rfl⟩ aO) (Hg 6 (.shift (dY .u32 x (IntKind.u64.wrap (32-n)))) [.prop ((0:Int)<=IntKind.u64.wrap (32-n)/\IntKind.u32.wrap (x*2 ^ (min (Int.toNat (IntKind.u64.wrap (32-n))) (IntKind.bits .u32)))=dY .u32 x (IntKind.u64.wrap (32-n)))] (aL ⟨(by first|omega|exact bW rfl _),rfl⟩ aO) Hz)) (Zt (Ze (bL (v:=.int .u32 (mL .u32 (bF .u32 x n) (dY .u32 x (IntKind.u64.wrap (32-n))))) ?_))))))))
 have hr:mS x n=(mL .u32 (bF .u32 x n) (dY .u32 x (IntKind.u64.wrap (32-n)))):=by rw [mS]
 exact⟨by first|(rw [hr];done)|(rw [hr];rfl),hs.drop 0⟩
theorem Ki (hs:St w0 L w):Cs Tryz.prog 136 #[] w λrv w'=>rv=.agg Nr/\St w0 L w':=by
 exact cL Tryz.func136 Tryz.ntmps136 (En (Ls (Lg [0] (Dz (eN NS hs λe f b=>Lo (Ld (Lt (Ls (Lg [1] (Lw (Zu 0 0 Nr b λi a=>Lo (Ld (Lt (Le (Dz (mJ 0 a ⟨rfl,a.dr 1⟩))))))))))))))))
theorem Cg (hs:St w0 L w):Cs Tryz.prog 93 #[] w λrv w'=>rv=.agg MF/\St w0 L w':=by
 exact cL Tryz.func93 Tryz.ntmps93 (En (Ls (Lg [0] (Dz (eN LS hs λe f b=>Lo (Ld (Lt (Ls (Lg [1] (Lw (Zu 0 0 MF b λi a=>Lo (Ld (Lt (Le (Dz (mJ 0 a ⟨rfl,a.dr 1⟩))))))))))))))))
end
end Go.Proofs.YtkmhmeldgfpfeaaGreatDoor
