/-
  Several texts in one: TcF, TcG, TcH, TcI, TcJ, TcK, TcL.
-/
import Derived.Test.YtlomlmbbiopaaaaGreatDoorSxT
import Derived.Test.YtlomlmbbiopaaaaGreatDoorGaC
import Derived.Test.YtlomlmbbiopaaaaGreatDoorGaB
namespace Go.Proofs.YtlomlmbbiopaaaaGreatDoor
open Go.RowKit Go.Sx
set_option linter.unusedVariables false
set_option linter.unusedSimpArgs false
set_option linter.unnecessarySimpa false
set_option maxRecDepth 100000
section
variable {w0 w : World} {L : List Asn}
theorem dp_step {m:TMs}{k:Nat}(hk:k<11) (h:∀ z∈m.dp.toList.take k,z≤65536) (hx:m.dp.toList.getD k 0≤65536):∀ z∈m.dp.toList.take (k+1),z≤65536:=by
 rw [take_succ_getD (d:=(0:Int)) (by rw [VecD.len];exact hk)]
 intro z hz
 rcases List.mem_append.1 hz with hz|hz
 ·exact h z hz
 ·rw [List.mem_singleton.1 hz];exact hx
theorem rmay_spec (m) (hm:MsOK m) (hr:Rw w0 L TPr.cells 2 dPr m.bd.qa m.bd.ql) (hs:St w0 (L) w):Cs Tryz.prog 18 #[.agg (TMs.cells m)] w fun rv w'=>rv=.bool (mayM m)∧St w0 (L) w':=by
 refine Zen Tryz.func18 Tryz.ntmps18 (Zs ?_)
 have g1:=hm.og
 have g2:=hm.nr
 refine Zg [0] (Zbg (TMs.cells m) hs fun b w2 a1=>Lz (Ls (Ls (Dz (GoC.join (T:=Unit) (E:=fun _=>[(33,.bool (((((decide ((m.og:Int)<1)) || (decide ((m.og:Int)>11))) || (decide ((m.nr:Int)<1))) || (decide ((m.nr:Int)>65536))) || (((m.dp.toList.getD (Int.toNat (m.og-1)) 0):Int) != (m.nr-1)))),(2,.bool false),(1,zP b 0)]) (F:=fun _ w=>St w0 ((Cel b (TMs.cells m) 63)::L) w) ?_ ?_)))))
 ·refine ZD (rds [0,1,2,3,4,5,6,7,8,9,10,11,12,13,14,15,16,17,18,19,20,21,22,23,24,25,26,27,28,29] .done) a1 fun w4 a b4=>Zpj 0 4 (Hl 1 0 0 a Hz) (Zsq 7 (decide ((m.og:Int)<1)) (fun e=>?_) (fun e=>?_))
  ·have a2:=of_decide_eq_true e
   exact En (Lud (Dz (Zmb [33,2,1] () true (by first|rfl|simp [Hb,e]) a)))
  ·have a2:=of_decide_eq_false e
   refine Zpj 4 5 (Hl 5 0 0 a Hz) (Zsq 12 (decide ((m.og:Int)>11)) (fun i=>?_) (fun i=>?_))
   ·have a3:=of_decide_eq_true i
    exact En (Lud (Dz (Zmb [33,2,1] () true (by first|rfl|simp [Hb,e,i]) a)))
   ·have a3:=of_decide_eq_false i
    refine Zpj 9 5 (Hl 10 0 1 a Hz) (Zsq 17 (decide ((m.nr:Int)<1)) (fun f=>?_) (fun f=>?_))
    ·have a4:=of_decide_eq_true f
     exact En (Lud (Dz (Zmb [33,2,1] () true (by first|rfl|simp [Hb,e,i,f]) a)))
    ·have a4:=of_decide_eq_false f
     refine Zpj 14 5 (Hl 15 0 1 a Hz) (Zsq 22 (decide ((m.nr:Int)>65536)) (fun q=>?_) (fun q=>?_))
     ·have a5:=of_decide_eq_true q
      exact En (Lud (Dz (Zmb [33,2,1] () true (by first|rfl|simp [Hb,e,i,f,q]) a)))
     ·have a5:=of_decide_eq_false q
      exact Zjd (Hl 20 0 0 a (Hwi 21 (m.og-1) (Hx 23 ((m.og-1):Int) (11:Int) b 2 1 (Hg 24 (.gen [.int .u64 (m.dp.toList.getD (Int.toNat (m.og-1)) 0)]) [.cell ⟨b,2+((Int.toNat (m.og-1))*1),none⟩ (.int .u64 (m.dp.toList.getD (Int.toNat (m.og-1)) 0))] (okc (a.cell 0 rfl (VecD.midc (off:=2) (d:=m.dp) (by kernel_rfl) (by omega))) ok0) (Hl 26 0 1 a (Hwu 27 (m.nr-1) Hz)))))) (Zmb [33,2,1] () (((m.dp.toList.getD (Int.toNat (m.og-1)) 0):Int) != (m.nr-1)) (by first|rfl|simp [Hb,e,i,f,q]) a)
 intro _ b5 x
 refine Zt (Zqc (t:=((((decide ((m.og:Int)<1)) || (decide ((m.og:Int)>11))) || (decide ((m.nr:Int)<1))) || (decide ((m.nr:Int)>65536))) || (((m.dp.toList.getD (Int.toNat (m.og-1)) 0):Int) != (m.nr-1))) (fun o=>?_) (fun o=>?_))
 ·exact En (Lq (Le (Ly (Dz (Zq1 (v:=.bool false) ⟨(by unfold mayM;rw [if_pos (show mayT m=true from o)]),(x.dr 1)⟩)))))
 ·have a0:=(Bool.or_eq_false_iff.1 o).1
  have h13aa:=(Bool.or_eq_false_iff.1 a0).1
  have h13aaa:=(Bool.or_eq_false_iff.1 h13aa).1
  have h13aaaa:=(Bool.or_eq_false_iff.1 h13aaa).1
  have h13aaab:(decide ((m.og:Int)>11))=false:=(Bool.or_eq_false_iff.1 h13aaa).2
  have h13aab:(decide ((m.nr:Int)<1))=false:=(Bool.or_eq_false_iff.1 h13aa).2
  have h13ab:(decide ((m.nr:Int)>65536))=false:=(Bool.or_eq_false_iff.1 a0).2
  have a7:(((m.dp.toList.getD (Int.toNat (m.og-1)) 0):Int) != (m.nr-1))=false:=(Bool.or_eq_false_iff.1 o).2
  refine En (Lk (Lt (Ls (Lq (Lb (Dz (GoC.loop (T:=Nat) (fun gg=>[(1,zP b 0),(3,.int .i64 (gg:Nat))]) (fun gg w=>(gg≤11∧∀ z∈m.dp.toList.take gg,z≤65536)∧St w0 ((Cel b (TMs.cells m) 63)::L) w) (fun gg=>11-gg) 0 [1,3] (by kernel_rfl) ⟨⟨Nat.zero_le _,fun z hz=>by cases hz⟩,x⟩ ?_)))))))
  rintro k b7 ⟨hp,u⟩
  refine En (Ls (Lq (Dz (Zi ((k:Int)<11) (fun a8=>?_) (fun a8=>?_)))))
  ·have hk:k<11:=by omega
   refine Zk (Zt (Zs (Zb (Zs (Zaj (Hx 2 (k:Int) (11:Int) b 2 1 (Hg 3 (.gen [.int .u64 (m.dp.toList.getD k 0)]) [.cell ⟨b,2+(k*1),none⟩ (.int .u64 (m.dp.toList.getD k 0))] (okc (u.cell 0 rfl (VecD.midc (off:=2) (d:=m.dp) (by kernel_rfl) (by omega))) ok0) Hz)) (Zt (Zi (((m.dp.toList.getD k 0):Int)>65536) (fun a9=>?_) (fun a9=>?_))))))))
   ·exact En (Lq (Le (Ll (Ly (LsR (Ll (Ly (Dz (Zq1 (v:=.bool false) ⟨(by unfold mayM;rw [if_neg (nF (show mayT m=false from o)),if_neg (fun f=>by have:=f _ (getD_mem (l:=m.dp.toList) (d:=(0:Int)) (by rw [VecD.len];exact hk));omega)]),(u.dr 1)⟩)))))))))
   ·exact Zk (Zm (Zt (Zaj (Hwi 1 ((k:Nat)+1) Hz) (GoQ.back (k+1) [1,3] (by kernel_rfl) (by show 11-(k+1)<11-k;omega) ⟨⟨by omega,dp_step hk hp.2 (by omega)⟩,u⟩))))
  ·have hke:m.dp.toList.take k=m.dp.toList:=List.take_of_length_le (by rw [VecD.len];omega)
   exact Zx (GoQ.skipC (GoQ.skipL (GoQ.hit (Zt (Zs (Zgj [2] (Hla 1 0 13 76 (TBd.cells m.bd) u Hz) (Zc1 (rbody_spec m.bd hm.bd (fun w h=>hr _ (h.drop 1)) u) fun b9 b2=>Lz (Le (Dz (Zq1 (v:=.bool (bodyR m.bd)) ⟨(by unfold mayM;rw [if_neg (nF (show mayT m=false from o)),if_pos (by rw [← hke];exact hp.2),bodyR_eq hm.bd]),(b2.dr 1)⟩))))))))))
theorem rbytes_spec (m) (hm:MsOK m) (hr:Rw w0 L TPr.cells 2 dPr m.bd.qa m.bd.ql) (hs:St w0 (L) w):Cs Tryz.prog 70 #[.agg (TMs.cells m)] w fun rv w'=>∃ ao co,rv=.slice ao ((byB m).length) co∧St w0 ((Sl ao co 5 1 byteC (byB m))::L) w':=by
 refine Zen Tryz.func70 Tryz.ntmps70 (En (Ls (Lg [0] (Dz (Zbg (TMs.cells m) hs fun o w2 c3=>Lz (Ls (Ls (Dz (Zgj [1] (Hla 0 0 0 121 (TMs.cells m) c3 Hz) (Zc1 (rmay_spec m hm (fun w h=>hr _ (h.drop 1)) c3) fun w6 a8=>Lz (Dz (Zqc (t:=!(mayM m)) (fun h7=>?_) (fun h7=>?_)))))))))))))
 ·have a3:=notT h7
  refine En (Lq (Le (Ly (Dz (Zq1 (v:=.slice none 0 0) ?_)))))
  have e3:=St.slNil a8 5 1 byteC
  have e4:=((e3.pl 0).pl 1)
  exact⟨none,0,by rw [(show byB m=[] from if_neg (by rw [a3];decide))];rfl,by rw [(show byB m=[] from if_neg (by rw [a3];decide))];exact(e4.dr 1)⟩
 ·have a3:=notF h7
  have hb:mayM m=true:=a3
  have hin:=bodyB_in (mayM_body hb)
  have g1:=hm.bd.vw
  have g2:=hm.bd.k
  have g3:=hm.bd.kd
  refine Zk (Zt (Zs (Zgj [3] (Hl 1 0 0 a8 Hz) (Zll bytesOK byteF [(IntKind.u8.wrap m.og:Int)] a8 fun c4 e6 e7=>Lz (Ls (Lq (Lb (Dz ?_))))))))
  have e8:St w0 ((Sl (some ⟨c4,0,none⟩) 1 5 1 byteC (dpI m 0))::(Cel o (TMs.cells m) 63)::L) e6:=e7
  refine GoC.loop (T:=Nat×(Option Addr)×Nat) (fun gg=>[(1,zP o 0),(2,.slice none 0 0),(3,.slice gg.2.1 ((dpI m gg.1).length) gg.2.2),(4,.int .i64 (gg.1:Nat))]) (fun gg w=>(gg.1≤11)∧St w0 ((Sl gg.2.1 gg.2.2 5 1 byteC (dpI m gg.1))::(Cel o (TMs.cells m) 63)::L) w) (fun gg=>11-gg.1) (0,(some ⟨c4,0,none⟩),1) [1,2,3,4] (by kernel_rfl) ⟨Nat.zero_le _,e8⟩ ?_
  rintro⟨k,ad,c⟩ k2 ⟨hp,x⟩
  dsimp only at hp x
  refine En (Ls (Lq (Dz (Zi ((k:Int)<11) (fun e9=>?_) (fun e9=>?_)))))
  ·have hk:k<11:=by omega
   have hkl:=dpI_length m k (by omega)
   refine Zk (Zt (Zs (Zb (Zgj [5] (Hx 3 (k:Int) (11:Int) o 2 1 (Hg 4 (.gen [.int .u64 (m.dp.toList.getD k 0)]) [.cell ⟨o,2+(k*1),none⟩ (.int .u64 (m.dp.toList.getD k 0))] (okc (x.cell 1 rfl (VecD.midc (off:=2) (d:=m.dp) (by kernel_rfl) (by omega))) ok0) Hz)) (Zc (rword_spec (dpI m k) (m.dp.toList.getD k 0) (by first|omega|(simp only [lA,lC,lN,wd_length,hf_length,D32.len,prsB_length] at *;omega)) (hm.dp (m.dp.toList.getD k 0) (getD_mem (d:=(0:Int)) (by rw [VecD.len];exact hk))) x) ?_)))))
   rintro k3 f0 ⟨a4,a5,rfl,f1⟩
   refine Lo (Lud (Lm (Lt (Dz (Zaj (Hwi 1 ((k:Nat)+1) Hz) ?_)))))
   have f2:St w0 ((Sl a4 a5 5 1 byteC (dpI m (k+1)))::(Cel o (TMs.cells m) 63)::L) f0:=(by rw [dpI_succ m hk];exact f1)
   exact GoQ.pick [4,3,1,2] (S':=[(4,.int .i64 ((k:Nat)+1)),(3,.slice a4 (((dpI m k)++wd (m.dp.toList.getD k 0)).length) a5),(1,zP o 0),(2,.slice none 0 0)]) (by kernel_rfl) (GoQ.slots (S':=[(4,.int .i64 ((k:Nat)+1)),(3,.slice a4 ((dpI m (k+1)).length) a5),(1,zP o 0),(2,.slice none 0 0)]) (by rw [dpI_succ m hk]) (GoQ.back (k+1,a4,a5) [1,2,3,4] (by kernel_rfl) (by show 11-(k+1)<11-k;omega) ⟨(by omega),f2⟩))
  ·have hke:k=11:=by omega
   subst hke
   have hkl:=dpI_length m 11 (by omega)
   refine Zx (GoQ.skipC (GoQ.skipL (GoQ.hit (Zt (Zs (Zgj [2,3] (Hla 1 1 13 76 (TBd.cells m.bd) x Hz) (Zag (TBd.cells dBd) x fun b k4 f3=>Lo (Dz (Zu 0 0 (TBd.cells m.bd) f3 fun k5 c5=>Lo (Ld (Lt (Ls (Dz (Zgj [3,4] (Hl 2 0 0 c5 Hz) (Zll bytesOK byteF [(m.bd.kd:Int)] c5 fun k6 k7 f4=>Lo (Dz (Zap bytesOK byteF (0:Int) (f4.pl 2) (by first|omega|(simp only [lA,lC,lN,wd_length,hf_length,D32.len,prsB_length] at *;omega)) fun k8 k9 l0 z=>Lz (Ls (Ls (Dz (Zaj (Hl 1 2 0 z Hz) (Zt (Zqc (t:=(m.bd.kd:Int) != 6) (fun a0=>?_) (fun a0=>?_))))))))))))))))))))))))
   ·have f6:=ineT a0
    have h6:¬ m.bd.kd=6:=by simpa using a0
    refine Zgj [3] (Hl 2 2 1 z Hz) (Zc (rword_spec ((dpI m 11)++([(m.bd.kd:Int)])) m.bd.vw (by first|omega|(simp only [lA,lC,lN,wd_length,hf_length,D32.len,prsB_length] at *;omega)) hm.bd.vw z) ?_)
    rintro l1 l2 ⟨c6,c7,rfl,u⟩
    refine Lz (Ls (Ls (Dz (Zaj (Hl 1 2 0 u Hz) (En (Lt (Lb (Lq (Dz (Zqc (t:=(m.bd.kd:Int) == 1) (fun a9=>?_) (fun a9=>?_)))))))))))
    ·have c8:=ieqT a9
     have c9:=hin.2.1
     rw [show mayB m.bd=askedB m.bd.rq from if_pos c8] at c9
     have hz:=askedB_sz c9
     have hrl:=rqB_length hz
     refine ZD (rds [0,1,2,4,5,6] (.ef 3 (.ef 7 (.rd 8 .done)))) u fun l3 d0 l4=>Zj (Hla 2 2 3 40 (TRq.cells m.bd.rq) d0 (Hg 6 (.as_ (zL b 11 ((m.bd.rq.tg.toList).length) 32) (.sub 0 32)) [.prop ((((none:Option Operand))=none→(0:Nat)=0)∧(((none:Option Operand))=none→(32:Nat)=32)∧(0:Nat)≤32∧(32:Nat)≤32),.prop (Value.slice (some (if 32=0 then Addr.mk b 11 none else (Addr.mk b 11 none).add (0*1))) (32-0) (32-0)=Value.slice (some ⟨b,11,none⟩) ((m.bd.rq.tg.toList).length) 32)] (okp ⟨(by first|(intro _;rfl)|(intro hc;cases hc)),(by first|(intro _;rfl)|(intro hc;cases hc)),(by omega),(by omega)⟩ (okp (by rw [D32.len];exact subArr0 _ _ _ _ _ (by decide)) ok0)) Hz)) (Zc (rrequest_spec (((dpI m 11)++([(m.bd.kd:Int)]))++wd m.bd.vw) m.bd.rq (by first|omega|(simp only [lA,lC,lN,wd_length,hf_length,D32.len,prsB_length] at *;omega)) hm.bd.rq hz d0) ?_)
     rintro l5 l6 ⟨f7,f8,rfl,d1⟩
     refine⟨(opl (n:=[.prop ((((none:Option Operand))=none→(0:Nat)=0)∧(((none:Option Operand))=none→(32:Nat)=32)∧(0:Nat)≤32∧(32:Nat)≤32),.prop (Value.slice (some (if 32=0 then Addr.mk b 11 none else (Addr.mk b 11 none).add (0*1))) (32-0) (32-0)=Value.slice (some ⟨b,11,none⟩) ((m.bd.rq.tg.toList).length) 32)]) (by kernel_rfl) (okp ⟨(by first|(intro _;rfl)|(intro hc;cases hc)),(by first|(intro _;rfl)|(intro hc;cases hc)),(by omega),(by omega)⟩ (okp (by rw [D32.len];exact subArr0 _ _ _ _ _ (by decide)) ok0))),(GoR.append rfl (by kernel_rfl) bytesOK byteF (ad:=f7) (c:=f8) (xs:=(((dpI m 11)++([(m.bd.kd:Int)]))++wd m.bd.vw)++rqB m.bd.rq) (ys:=m.bd.rq.tg.toList) (adx:=some ⟨b,11,none⟩) (cx:=32) (0:Int) (by kernel_rfl) d1 (D32.mid d1 2 11 m.bd.rq.tg rfl (by kernel_rfl)) (fun h=>nomatch h) (by first|omega|(simp only [lA,lC,lN,wd_length,hf_length,D32.len,prsB_length] at *;omega)) (by first|omega|(simp only [lA,lC,lN,wd_length,hf_length,D32.len,prsB_length] at *;omega)) fun d2 d3 l7 f9=>Lo (Lud (Lm (Lt (Lq (Le (Dz (Zq1 (v:=.slice d2 ((((((dpI m 11)++([(m.bd.kd:Int)]))++wd m.bd.vw)++rqB m.bd.rq)++m.bd.rq.tg.toList).length) d3) ?_))))))))⟩
     have g0:=((((f9.pl 0).pl 3).pl 3).pl 3)
     have e:((((dpI m 11)++([(m.bd.kd:Int)]))++wd m.bd.vw)++rqB m.bd.rq)++m.bd.rq.tg.toList=byB m:=by
      rw [show byB m=tgB m from if_pos hb]
      unfold tgB bdB
      rw [if_pos (by omega),bd1]
      all_goals simp only [List.append_assoc]
     exact⟨d2,d3,by rw [← e],by rw [← e];exact(g0.dr 3)⟩
    ·have c8:=ieqF a9
     refine En (Lq (Dz (Zqc (t:=(m.bd.kd:Int) == 2) (fun b0=>?_) (fun b0=>?_))))
     ·have g7:=ieqT b0
      refine Zgj [3] (Hl 2 2 2 u Hz) (Zc (rword_spec (((dpI m 11)++([(m.bd.kd:Int)]))++wd m.bd.vw) m.bd.k (by first|omega|(simp only [lA,lC,lN,wd_length,hf_length,D32.len,prsB_length] at *;omega)) hm.bd.k u) ?_)
      rintro l8 l9 ⟨d4,d5,rfl,g8⟩
      refine Lo (Lud (Lm (Lt (Lq (Le (Dz (Zq1 (v:=.slice d4 (((((dpI m 11)++([(m.bd.kd:Int)]))++wd m.bd.vw)++wd m.bd.k).length) d5) ?_)))))))
      have g9:=((((g8.pl 0).pl 3).pl 3).pl 3)
      have e:(((dpI m 11)++([(m.bd.kd:Int)]))++wd m.bd.vw)++wd m.bd.k=byB m:=by
       rw [show byB m=tgB m from if_pos hb]
       unfold tgB bdB
       rw [if_neg (by omega),if_pos (by omega),bd2]
       all_goals simp only [List.append_assoc]
      exact⟨d4,d5,by rw [← e],by rw [← e];exact(g9.dr 3)⟩
     ·have g7:=ieqF b0
      refine En (Lq (Dz (Zqc (t:=(m.bd.kd:Int) == 4) (fun b2=>?_) (fun b2=>?_))))
      ·have h1:=ieqT b2
       refine Zs (Zgj [5,6] (Hl 2 2 43 u Hz) (Zll bytesOK byteF [(IntKind.u8.wrap (m.bd.ql.length:Nat):Int)] u fun m0 m1 h2=>Lo (Dz (Zap bytesOK byteF (0:Int) (h2.pl 1) (by first|omega|(simp only [lA,lC,lN,wd_length,hf_length,D32.len,prsB_length] at *;omega)) fun a6 a7 h4 h5=>Lz (Lq (Lb (Dz ?_)))))))
       obtain⟨d6,d7⟩:∃ a,a=m.bd.qa:=⟨_,rfl⟩
       have h8:=(((((h5.pl 3).pl 1).pl 4).pl 4).pl 4)
       have i0:=h8.dr 3
       have i1:St w0 ((Sl a6 a7 5 1 byteC ((dpI m 11++([(m.bd.kd:Int)]++(wd m.bd.vw++[IntKind.u8.wrap (m.bd.ql.length:Nat)])))++(m.bd.ql.take 0).flatMap prB))::(Cel b (TBd.cells (⟨m.bd.kd,m.bd.vw,m.bd.k,m.bd.rq,d6,m.bd.qc,m.bd.ql,m.bd.dg⟩:TBd)) 37)::L) h4:=(by rw [d7,← (show(((dpI m 11)++([(m.bd.kd:Int)]))++wd m.bd.vw)++([(IntKind.u8.wrap (m.bd.ql.length:Nat):Int)])=(dpI m 11++([(m.bd.kd:Int)]++(wd m.bd.vw++[IntKind.u8.wrap (m.bd.ql.length:Nat)])))++(m.bd.ql.take 0).flatMap prB by simp only [List.append_assoc,List.take_zero,List.flatMap_nil,List.append_nil])];exact i0)
       refine Zn [(6,.int .i64 0),(3,.slice a6 (((((dpI m 11)++([(m.bd.kd:Int)]))++wd m.bd.vw)++([(IntKind.u8.wrap (m.bd.ql.length:Nat):Int)])).length) a7),(5,zP b 0),(2,.slice none 0 0)] (GoC.slots (S':=[(6,.int .i64 0),(3,.slice a6 (((dpI m 11++([(m.bd.kd:Int)]++(wd m.bd.vw++[IntKind.u8.wrap (m.bd.ql.length:Nat)])))++(m.bd.ql.take 0).flatMap prB).length) a7),(5,zP b 0),(2,.slice none 0 0)]) (by rw [(show(((dpI m 11)++([(m.bd.kd:Int)]))++wd m.bd.vw)++([(IntKind.u8.wrap (m.bd.ql.length:Nat):Int)])=(dpI m 11++([(m.bd.kd:Int)]++(wd m.bd.vw++[IntKind.u8.wrap (m.bd.ql.length:Nat)])))++(m.bd.ql.take 0).flatMap prB by simp only [List.append_assoc,List.take_zero,List.flatMap_nil,List.append_nil])]) (GoC.loop (T:=Nat×(Option Addr)×(Option Addr)×Nat) (fun gg=>[(2,.slice none 0 0),(3,.slice gg.2.2.1 (((dpI m 11++([(m.bd.kd:Int)]++(wd m.bd.vw++[IntKind.u8.wrap (m.bd.ql.length:Nat)])))++(m.bd.ql.take gg.1).flatMap prB).length) gg.2.2.2),(5,zP b 0),(6,.int .i64 (gg.1:Nat))]) (fun gg w=>(gg.1≤m.bd.ql.length∧∀ w,St w0 L w→RowsAt w gg.2.1 m.bd.ql.length 2 (fun q=>TPr.cells (m.bd.ql.getD q dPr)))∧St w0 ((Sl gg.2.2.1 gg.2.2.2 5 1 byteC ((dpI m 11++([(m.bd.kd:Int)]++(wd m.bd.vw++[IntKind.u8.wrap (m.bd.ql.length:Nat)])))++(m.bd.ql.take gg.1).flatMap prB))::(Cel b (TBd.cells (⟨m.bd.kd,m.bd.vw,m.bd.k,m.bd.rq,gg.2.1,m.bd.qc,m.bd.ql,m.bd.dg⟩:TBd)) 37)::L) w) (fun gg=>m.bd.ql.length-gg.1) (0,d6,a6,a7) [2,3,5,6] (by kernel_rfl) ⟨⟨Nat.zero_le _,by rw [d7];exact hr⟩,i1⟩ ?_))
       rintro⟨k,aq,d8,c1⟩ m2 ⟨hp,a1⟩
       dsimp only at hp a1
       have hw:=hp.2
       refine Zs (Zs (Zaj (Hl 2 1 43 a1 Hz) (Zt (Zi ((k:Int)<(m.bd.ql.length:Nat)) (fun i2=>?_) (fun i2=>?_)))))
       ·have hk:k<m.bd.ql.length:=by omega
        have hpk:=hm.bd.ql _ (getD_mem (d:=dPr) hk)
        have htk:(m.bd.ql.take k).length=k:=by rw [List.length_take];omega
        have hfk:=prsB_length (m.bd.ql.take k)
        obtain⟨f,i,rfl⟩:=RowsAt.isSome (hw _ (a1.drop 2)) (by omega)
        refine Zk (Zt (Zs (Zb (ZD (rds [0,1,2,3,4,5,6,7,10,11,12,13,14,15] (.ef 8 (.ef 9 (.ef 16 (.rd 17 .done))))) a1 fun m3 a2 m4=>Zj (Hl 2 1 43 a2 (Hx 4 (k:Int) (m.bd.ql.length:Int) f i 2 (Hg 6 (.gen [.int .i64 ((m.bd.ql.getD k dPr).rp)]) [.cell ⟨f,i+(k*2),none⟩ (.int .i64 ((m.bd.ql.getD k dPr).rp))] (okc (RowsAt.at0 (hw _ (a2.drop 2)) (k:=k) (by first|omega|(simp only [List.length_set];omega)|(simp only [List.length_set,lA,lC,lN];omega)) (j:=0) (by decide) (by kernel_rfl)) ok0) (Hl 11 1 43 a2 (Hx 13 (k:Int) (m.bd.ql.length:Int) f i 2 (Hg 15 (.gen [.int .u64 ((m.bd.ql.getD k dPr).nm)]) [.cell ⟨f,i+(k*2)+1,none⟩ (.int .u64 ((m.bd.ql.getD k dPr).nm))] (okc (RowsAt.at0 (hw _ (a2.drop 2)) (k:=k) (by first|omega|(simp only [List.length_set];omega)|(simp only [List.length_set,lA,lC,lN];omega)) (j:=1) (by decide) (by kernel_rfl)) ok0) Hz)))))) (Zll bytesOK byteF [(IntKind.u8.wrap ((m.bd.ql.getD k dPr).rp):Int)] a2 fun m5 m6 b3=>⟨(opl (n:=[.cell ⟨f,i+(k*2)+1,none⟩ (.int .u64 ((m.bd.ql.getD k dPr).nm)),.prop (0≤(k:Int)∧(k:Int)<(m.bd.ql.length:Int)),.prop (Value.pointer (some (Addr.add ⟨f,i,none⟩ (Int.toNat (k:Nat)*2)))=Value.pointer (some ⟨f,i+(k*2),none⟩)),.cell ⟨b,43,none⟩ (zL f i m.bd.ql.length m.bd.qc)]) (by kernel_rfl) (okc (RowsAt.at0 (hw _ (b3.drop 3)) (k:=k) (by first|omega|(simp only [List.length_set];omega)|(simp only [List.length_set,lA,lC,lN];omega)) (j:=1) (by decide) (by kernel_rfl)) (okp (by omega) (okp (ptrAdd _ _ _) (okc (b3.cell 2 rfl (by kernel_rfl)) ok0))))),(Zap bytesOK byteF (0:Int) (b3.pl 1) (by first|omega|(simp only [lA,lC,lN,wd_length,hf_length,D32.len,prsB_length] at *;omega)) fun m7 m8 m9 b4=>⟨(opl (n:=[.cell ⟨f,i+(k*2)+1,none⟩ (.int .u64 ((m.bd.ql.getD k dPr).nm)),.prop (0≤(k:Int)∧(k:Int)<(m.bd.ql.length:Int)),.prop (Value.pointer (some (Addr.add ⟨f,i,none⟩ (Int.toNat (k:Nat)*2)))=Value.pointer (some ⟨f,i+(k*2),none⟩)),.cell ⟨b,43,none⟩ (zL f i m.bd.ql.length m.bd.qc)]) (by kernel_rfl) (okc (RowsAt.at0 (hw _ (b4.drop 3)) (k:=k) (by first|omega|(simp only [List.length_set];omega)|(simp only [List.length_set,lA,lC,lN];omega)) (j:=1) (by decide) (by kernel_rfl)) (okp (by omega) (okp (ptrAdd _ _ _) (okc (b4.cell 2 rfl (by kernel_rfl)) ok0))))),(Zc (rword_spec (((dpI m 11++([(m.bd.kd:Int)]++(wd m.bd.vw++[IntKind.u8.wrap (m.bd.ql.length:Nat)])))++(m.bd.ql.take k).flatMap prB)++([(IntKind.u8.wrap ((m.bd.ql.getD k dPr).rp):Int)])) ((m.bd.ql.getD k dPr).nm) (by first|omega|(simp only [lA,lC,lN,wd_length,hf_length,D32.len,prsB_length] at *;omega)) hpk.2 b4) ?_)⟩)⟩)))))
        rintro n0 n1 ⟨b5,b6,rfl,i4⟩
        refine Lo (Lud (Lm (Lt (Dz (Zaj (Hwi 1 ((k:Nat)+1) Hz) ?_)))))
        have i5:=(((i4.pl 2).pl 1).pl 2)
        exact GoQ.pick [6,3,2,5] (S':=[(6,.int .i64 ((k:Nat)+1)),(3,.slice b5 (((((dpI m 11++([(m.bd.kd:Int)]++(wd m.bd.vw++[IntKind.u8.wrap (m.bd.ql.length:Nat)])))++(m.bd.ql.take k).flatMap prB)++([(IntKind.u8.wrap ((m.bd.ql.getD k dPr).rp):Int)]))++wd ((m.bd.ql.getD k dPr).nm)).length) b6),(2,.slice none 0 0),(5,zP b 0)]) (by kernel_rfl) (GoQ.slots (S':=[(6,.int .i64 ((k:Nat)+1)),(3,.slice b5 (((dpI m 11++([(m.bd.kd:Int)]++(wd m.bd.vw++[IntKind.u8.wrap (m.bd.ql.length:Nat)])))++(m.bd.ql.take (k+1)).flatMap prB).length) b6),(2,.slice none 0 0),(5,zP b 0)]) (by rw [(show(((dpI m 11++([(m.bd.kd:Int)]++(wd m.bd.vw++[IntKind.u8.wrap (m.bd.ql.length:Nat)])))++(m.bd.ql.take k).flatMap prB)++([(IntKind.u8.wrap ((m.bd.ql.getD k dPr).rp):Int)]))++wd ((m.bd.ql.getD k dPr).nm)=(dpI m 11++([(m.bd.kd:Int)]++(wd m.bd.vw++[IntKind.u8.wrap (m.bd.ql.length:Nat)])))++(m.bd.ql.take (k+1)).flatMap prB by rw [take_succ_getD (d:=dPr) hk,List.flatMap_append];simp only [List.append_assoc,List.flatMap_cons,List.flatMap_nil,List.append_nil,prB])]) (GoQ.back (k+1,some ⟨f,i,none⟩,b5,b6) [2,3,5,6] (by kernel_rfl) (by show m.bd.ql.length-(k+1)<m.bd.ql.length-k;omega) ⟨⟨by omega,hw⟩,(Zsr (i5.dr 1) (show(((dpI m 11++([(m.bd.kd:Int)]++(wd m.bd.vw++[IntKind.u8.wrap (m.bd.ql.length:Nat)])))++(m.bd.ql.take k).flatMap prB)++([(IntKind.u8.wrap ((m.bd.ql.getD k dPr).rp):Int)]))++wd ((m.bd.ql.getD k dPr).nm)=(dpI m 11++([(m.bd.kd:Int)]++(wd m.bd.vw++[IntKind.u8.wrap (m.bd.ql.length:Nat)])))++(m.bd.ql.take (k+1)).flatMap prB by rw [take_succ_getD (d:=dPr) hk,List.flatMap_append];simp only [List.append_assoc,List.flatMap_cons,List.flatMap_nil,List.append_nil,prB]))⟩))
       ·have hke:m.bd.ql.take k=m.bd.ql:=List.take_of_length_le (by omega)
        refine En (Lx (LsC (LsL (Lh (Lm (Lt (Lq (Le (Dz (Zq1 (v:=.slice d8 (((dpI m 11++([(m.bd.kd:Int)]++(wd m.bd.vw++[IntKind.u8.wrap (m.bd.ql.length:Nat)])))++(m.bd.ql.take k).flatMap prB).length) c1) ?_))))))))))
        have i8:=((a1.pl 0).pl 1)
        have e:(dpI m 11++([(m.bd.kd:Int)]++(wd m.bd.vw++[IntKind.u8.wrap (m.bd.ql.length:Nat)])))++(m.bd.ql.take k).flatMap prB=byB m:=by
         rw [show byB m=tgB m from if_pos hb]
         unfold tgB bdB
         rw [if_neg (by omega),if_neg (by omega),if_pos (by omega),bd4]
         rw [hke]
         all_goals simp only [List.append_assoc]
        exact⟨d8,c1,by rw [← e],by rw [← e];exact(i8.dr 1)⟩
      ·have h1:=ieqF b2
       refine En (Lq (Dz (Zqc (t:=(m.bd.kd:Int) == 6) (fun b7=>?_) (fun b7=>?_))))
       ·have j0:=ieqT b7
        exfalso;omega
       ·have j0:=ieqF b7
        refine En (Lk (Lm (Lt (Lq (Le (Dz (Zq1 (v:=.slice c6 ((((dpI m 11)++([(m.bd.kd:Int)]))++wd m.bd.vw).length) c7) ?_)))))))
        have j1:=((((u.pl 0).pl 3).pl 3).pl 3)
        have e:((dpI m 11)++([(m.bd.kd:Int)]))++wd m.bd.vw=byB m:=by
         rw [show byB m=tgB m from if_pos hb]
         unfold tgB bdB
         rw [if_neg (by omega),if_neg (by omega),if_neg (by omega),if_neg (by omega)]
         all_goals simp only [List.append_assoc]
        exact⟨c6,c7,by rw [← e],by rw [← e];exact(j1.dr 3)⟩
   ·have f6:=ineF a0
    have h6:m.bd.kd=6:=by simpa using a0
    refine Zk (Zt (Zs (Zs (Zaj (Hl 1 2 0 z Hz) (En (Lt (Lb (Lq (Dz (Zqc (t:=(m.bd.kd:Int) == 1) (fun b8=>?_) (fun b8=>?_)))))))))))
    ·have j3:=ieqT b8
     exfalso;omega
    ·have j3:=ieqF b8
     refine En (Lq (Dz (Zqc (t:=(m.bd.kd:Int) == 2) (fun b9=>?_) (fun b9=>?_))))
     ·have j4:=ieqT b9
      exfalso;omega
     ·have j4:=ieqF b9
      refine En (Lq (Dz (Zqc (t:=(m.bd.kd:Int) == 4) (fun c0=>?_) (fun c0=>?_))))
      ·have j5:=ieqT c0
       exfalso;omega
      ·have j5:=ieqF c0
       refine En (Lq (Dz (Zqc (t:=(m.bd.kd:Int) == 6) (fun c2=>?_) (fun c2=>?_))))
       ·have j6:=ieqT c2
        refine ZD (rds [0,1,2,4,5] (.ef 3 (.ef 6 (.rd 7 .done)))) z fun n2 d9 n3=>Zj (Hl 2 2 2 d9 (Hg 5 (.as_ (zL b 44 ((m.bd.dg.toList).length) 32) (.sub 0 32)) [.prop ((((none:Option Operand))=none→(0:Nat)=0)∧(((none:Option Operand))=none→(32:Nat)=32)∧(0:Nat)≤32∧(32:Nat)≤32),.prop (Value.slice (some (if 32=0 then Addr.mk b 44 none else (Addr.mk b 44 none).add (0*1))) (32-0) (32-0)=Value.slice (some ⟨b,44,none⟩) ((m.bd.dg.toList).length) 32)] (okp ⟨(by first|(intro _;rfl)|(intro hc;cases hc)),(by first|(intro _;rfl)|(intro hc;cases hc)),(by omega),(by omega)⟩ (okp (by rw [D32.len];exact subArr0 _ _ _ _ _ (by decide)) ok0)) Hz)) (Zc (rword_spec ((dpI m 11)++([(m.bd.kd:Int)])) m.bd.k (by first|omega|(simp only [lA,lC,lN,wd_length,hf_length,D32.len,prsB_length] at *;omega)) hm.bd.k d9) ?_)
        rintro n4 n5 ⟨j7,j8,rfl,e0⟩
        refine⟨(opl (n:=[.prop ((((none:Option Operand))=none→(0:Nat)=0)∧(((none:Option Operand))=none→(32:Nat)=32)∧(0:Nat)≤32∧(32:Nat)≤32),.prop (Value.slice (some (if 32=0 then Addr.mk b 44 none else (Addr.mk b 44 none).add (0*1))) (32-0) (32-0)=Value.slice (some ⟨b,44,none⟩) ((m.bd.dg.toList).length) 32)]) (by kernel_rfl) (okp ⟨(by first|(intro _;rfl)|(intro hc;cases hc)),(by first|(intro _;rfl)|(intro hc;cases hc)),(by omega),(by omega)⟩ (okp (by rw [D32.len];exact subArr0 _ _ _ _ _ (by decide)) ok0))),(GoR.append rfl (by kernel_rfl) bytesOK byteF (ad:=j7) (c:=j8) (xs:=((dpI m 11)++([(m.bd.kd:Int)]))++wd m.bd.k) (ys:=m.bd.dg.toList) (adx:=some ⟨b,44,none⟩) (cx:=32) (0:Int) (by kernel_rfl) e0 (D32.mid e0 2 44 m.bd.dg rfl (by kernel_rfl)) (fun h=>nomatch h) (by first|omega|(simp only [lA,lC,lN,wd_length,hf_length,D32.len,prsB_length] at *;omega)) (by first|omega|(simp only [lA,lC,lN,wd_length,hf_length,D32.len,prsB_length] at *;omega)) fun e1 e2 n6 j9=>Lo (Lud (Lm (Lt (Lq (Le (Dz (Zq1 (v:=.slice e1 (((((dpI m 11)++([(m.bd.kd:Int)]))++wd m.bd.k)++m.bd.dg.toList).length) e2) ?_))))))))⟩
        have k0:=((((j9.pl 0).pl 3).pl 3).pl 3)
        have e:(((dpI m 11)++([(m.bd.kd:Int)]))++wd m.bd.k)++m.bd.dg.toList=byB m:=by
         rw [show byB m=tgB m from if_pos hb]
         unfold tgB bdB
         rw [if_neg (by omega),if_neg (by omega),if_neg (by omega),if_pos (by omega),bd6]
         all_goals simp only [List.append_assoc]
        exact⟨e1,e2,by rw [← e],by rw [← e];exact(k0.dr 3)⟩
       ·have j6:=ieqF c2
        exfalso;omega
theorem rput_spec (m) (hm:MsOK m) (hr:Rw w0 L TPr.cells 2 dPr m.bd.qa m.bd.ql) (hs:St w0 (L) w):Cs Tryz.prog 39 #[.agg (TMs.cells m)] w fun rv w'=>∃ ao co,rv=.slice ao ((putM m).length) co∧St w0 ((Sl ao co 5 1 byteC (putM m))::L) w':=by
 refine Zen Tryz.func39 Tryz.ntmps39 (En (Ls (Lg [0] (Dz (Zbg (TMs.cells m) hs fun a w2 o=>Lz (Ls (Ls (Dz (Zgj [1] (Hla 0 0 0 121 (TMs.cells m) o Hz) (Zc1 (rmay_spec m hm (fun w h=>hr _ (h.drop 1)) o) fun w6 q=>Lz (Dz (Zqc (t:=!(mayM m)) (fun d=>?_) (fun d=>?_)))))))))))))
 ·have b:=notT d
  refine En (Lq (Le (Ly (Dz (Zq1 (v:=.slice none 0 0) ?_)))))
  have a1:=St.slNil q 5 1 byteC
  have a2:=((a1.pl 0).pl 1)
  exact⟨none,0,by rw [(show putM m=[] from if_neg (by rw [b];decide))];rfl,by rw [(show putM m=[] from if_neg (by rw [b];decide))];exact(a2.dr 1)⟩
 ·have b:=notF d
  have hb:mayM m=true:=b
  refine Zk (Zt (Zs (ZD (rds [0,1,3,6,7] (.ef 2 (.ef 4 (.ef 5 (.ef 8 (.rd 9 .done)))))) q fun b6 f b7=>Zj (Hl 1 0 1 f (Hla 3 0 0 121 (TMs.cells m) f (Hg 7 (.as_ (zL a 89 ((m.tg.toList).length) 32) (.sub 0 32)) [.prop ((((none:Option Operand))=none→(0:Nat)=0)∧(((none:Option Operand))=none→(32:Nat)=32)∧(0:Nat)≤32∧(32:Nat)≤32),.prop (Value.slice (some (if 32=0 then Addr.mk a 89 none else (Addr.mk a 89 none).add (0*1))) (32-0) (32-0)=Value.slice (some ⟨a,89,none⟩) ((m.tg.toList).length) 32)] (okp ⟨(by first|(intro _;rfl)|(intro hc;cases hc)),(by first|(intro _;rfl)|(intro hc;cases hc)),(by omega),(by omega)⟩ (okp (by rw [D32.len];exact subArr0 _ _ _ _ _ (by decide)) ok0)) Hz))) (Zc (rword_spec ([]:List Int) m.nr (by first|omega|(simp only [lA,lC,lN,wd_length,hf_length,D32.len,prsB_length] at *;omega)) hm.nr (St.slNil f 5 1 byteC)) ?_))))
  rintro b8 b9 ⟨a5,a6,rfl,u⟩
  refine⟨(opl (n:=[.prop ((((none:Option Operand))=none→(0:Nat)=0)∧(((none:Option Operand))=none→(32:Nat)=32)∧(0:Nat)≤32∧(32:Nat)≤32),.prop (Value.slice (some (if 32=0 then Addr.mk a 89 none else (Addr.mk a 89 none).add (0*1))) (32-0) (32-0)=Value.slice (some ⟨a,89,none⟩) ((m.tg.toList).length) 32),.prop (Array.size (TMs.cells m)=121),.cells ⟨a,0,none⟩ (TMs.cells m)]) (by kernel_rfl) (okp ⟨(by first|(intro _;rfl)|(intro hc;cases hc)),(by first|(intro _;rfl)|(intro hc;cases hc)),(by omega),(by omega)⟩ (okp (by rw [D32.len];exact subArr0 _ _ _ _ _ (by decide)) (okp (by kernel_rfl) (oka (u.cells 1 0 rfl (by kernel_rfl)) ok0))))),(Zc (rbytes_spec m hm (fun w h=>hr _ (h.drop 2)) u) ?_)⟩
  rintro c0 c1 ⟨a7,a8,rfl,a9⟩
  refine⟨(opl (n:=[.prop ((((none:Option Operand))=none→(0:Nat)=0)∧(((none:Option Operand))=none→(32:Nat)=32)∧(0:Nat)≤32∧(32:Nat)≤32),.prop (Value.slice (some (if 32=0 then Addr.mk a 89 none else (Addr.mk a 89 none).add (0*1))) (32-0) (32-0)=Value.slice (some ⟨a,89,none⟩) ((m.tg.toList).length) 32)]) (by kernel_rfl) (okp ⟨(by first|(intro _;rfl)|(intro hc;cases hc)),(by first|(intro _;rfl)|(intro hc;cases hc)),(by omega),(by omega)⟩ (okp (by rw [D32.len];exact subArr0 _ _ _ _ _ (by decide)) ok0))),?_⟩
  have i:=(a9.pl 1)
  refine GoR.append rfl (by kernel_rfl) bytesOK byteF (ad:=a5) (c:=a6) (xs:=([]:List Int)++wd m.nr) (ys:=byB m) (adx:=a7) (cx:=a8) (0:Int) (by kernel_rfl) i (i.rows 1 rfl (byteF).size (0:Int)) (i.slNone 1 rfl) (by have:=tgB_length hb;have e:byB m=tgB m:=if_pos hb;simp only [e,lA,lN,wd_length,D32.len];omega) (by have:=tgB_length hb;have e:byB m=tgB m:=if_pos hb;simp only [e,lA,lN,wd_length,D32.len];omega) fun b0 b2 c2 x=>⟨(opl (n:=[.prop ((((none:Option Operand))=none→(0:Nat)=0)∧(((none:Option Operand))=none→(32:Nat)=32)∧(0:Nat)≤32∧(32:Nat)≤32),.prop (Value.slice (some (if 32=0 then Addr.mk a 89 none else (Addr.mk a 89 none).add (0*1))) (32-0) (32-0)=Value.slice (some ⟨a,89,none⟩) ((m.tg.toList).length) 32)]) (by kernel_rfl) (okp ⟨(by first|(intro _;rfl)|(intro hc;cases hc)),(by first|(intro _;rfl)|(intro hc;cases hc)),(by omega),(by omega)⟩ (okp (by rw [D32.len];exact subArr0 _ _ _ _ _ (by decide)) ok0))),(GoR.append rfl (by kernel_rfl) bytesOK byteF (ad:=b0) (c:=b2) (xs:=(([]:List Int)++wd m.nr)++(byB m)) (ys:=m.tg.toList) (adx:=some ⟨a,89,none⟩) (cx:=32) (0:Int) (by kernel_rfl) x (D32.mid x 2 89 m.tg rfl (by kernel_rfl)) (fun h=>nomatch h) (by have:=tgB_length hb;have e:byB m=tgB m:=if_pos hb;simp only [e,lA,lN,wd_length,D32.len];omega) (by have:=tgB_length hb;have e:byB m=tgB m:=if_pos hb;simp only [e,lA,lN,wd_length,D32.len];omega) fun z a0 c3 b3=>Lz (Le (Dz (Zq1 (v:=.slice z ((((([]:List Int)++wd m.nr)++(byB m))++m.tg.toList).length) a0) ?_))))⟩
  have b4:=(((b3.pl 0).pl 2).pl 2)
  have h9:((([]:List Int)++wd m.nr)++(byB m))++m.tg.toList=putM m:=by rw [show byB m=tgB m from if_pos hb];exact(if_pos hb).symm
  exact⟨z,a0,by rw [← h9],by rw [← h9];exact(b4.dr 2)⟩
end
section
variable {w0 w : World} {L : List Asn} {ad : Option Addr} {cb : Nat}
def rqR (s:CS):TRq×CS :=
 let a:=byteP s
 let b:=byteP a.2
 let c:=wordP b.2
 let d:=wordP c.2
 let e:=textP 65535 d.2
 let f:=textP 65535 e.2
 let g:=textP 65535 f.2
 let h:=textP 65535 g.2
 let i:=hashP h.2
 (⟨a.1,c.1,⟨b.1,e.1,f.1,g.1,h.1,d.1⟩,i.1⟩,i.2)
def g1R (kd:Int) (s:CS):TBd×CS :=
 let a:=wordP s
 let b:=rqR a.2
 (⟨kd,a.1,0,b.1,none,0,[],dD32⟩,b.2)
def bdR (kd:Int) (s:CS):TBd×CS:=if kd=1 then g1R kd s else getB kd s
def guP (b:List Int):TMs×Bool :=
 let a:=byteP (b,false)
 let k:=byteP (stW a.2 11)
 let g:=bdR k.1 k.2
 (⟨a.1,0,vecF (valW a.2) 11,g.1,dD32⟩,!g.2.2 && decide (g.2.1.length=0))
theorem guP_eq {b r3:List Int}{a k:Int}{s1 s2:CS}{g:TBd}{p3:Bool}(h1:byteP (b,false)=(a,s1)) (h2:byteP (stW s1 11)=(k,s2)) (h3:bdR k s2=(g,(r3,p3))):guP b=(⟨a,0,vecF (valW s1) 11,g,dD32⟩,!p3 && decide (r3.length=0)):=by
 unfold guP
 simp only [h1,h2,h3]
theorem endT {p:Bool}{n:Nat}(h:(!p)=true):(!p && decide (n=0))=((n:Int) == 0):=by rw [h,ib,Bool.true_and];simp
theorem endF {p:Bool}{n:Nat}(h:(!p)=false):(!p && decide (n=0))=false:=by rw [h];rfl
theorem rqOK_of {a b c d:Int}{e f g h:ByteArray}{i:D32}(h1:0≤a∧a<256) (h2:0≤b∧b<256) (h3:0≤c∧c<18446744073709551616) (h4:0≤d∧d<18446744073709551616) (h5:∀ z∈i.toList,0≤z∧z<256):RqOK ⟨a,c,⟨b,e,f,g,h,d⟩,i⟩ :=
 ⟨(by dsimp only;omega),(by dsimp only;omega),(by dsimp only;omega),(by dsimp only;omega),h5⟩
theorem guess_spec (Q) (b) (hQ:∀ w,St w0 L w→Q.holds w) (hq:CutOK Q ad b cb) (hs:St w0 (L) w):Cs Tryz.prog 146 #[.slice ad b.length cb] w fun rv w'=>∃ mm2 bb2,rv=.tuple #[.agg (TMs.cells mm2),.bool bb2]∧guP b=(conM mm2,bb2)∧MsOK mm2∧St w0 ((Sl mm2.bd.qa mm2.bd.qc 143 2 TPr.cells mm2.bd.ql)::L) w':=by
 refine Zen Tryz.func146 Tryz.ntmps146 (En (Ls (Lg [0] (Dz (Zag (TMs.cells dMs) hs fun b1 w2 m7=>Lz (Ls (Lg [2] (Lw (Zbg #[.slice ad b.length cb,.bool false] m7 fun u w5 m8=>Lz (Ls (Lg [1,4,5] (Lw (Zc (rByte_spec Q b false (fun w h=>hQ w (h.drop 1)) hq m8) ?_)))))))))))))
 rintro bf bg ⟨q,d,i,i2,i3,rfl,c0,bh,m9,n0⟩
 refine Zoj (Hwi 2 q Hz) (Zag (TMs.cells dMs) n0 fun a1 bi n1=>Lo (Dz (Zu 0 0 (TMs.cells (⟨q,0,dVc,dBd,dD32⟩:TMs)) n1 fun n2 n3=>Lo (Ld (Lt (Ls (Lq (Lb (Dz ?_)))))))))
 have n4:=((n3.pl 0).pl 1)
 have n5:St w0 ((Cel u #[.slice i2 d.length i3,.bool i] 85)::(Cel a1 (TMs.cells (⟨q,0,(vecF (valW (d,i)) 0),dBd,dD32⟩:TMs)) 63)::(Cel b1 (TMs.cells dMs) 63)::L) n2:=(by rw [vec_z];exact n4)
 refine GoC.loop (T:=Nat×(List Int)×Bool×(Option Addr)×Nat) (fun gg=>[(2,zP b1 0),(3,.bool false),(4,zP u 0),(5,zP a1 0),(6,.int .i64 (gg.1:Nat))]) (fun gg w=>(gg.1≤11∧(gg.2.1,gg.2.2.1)=stW (d,i) gg.1∧CutOK Q gg.2.2.2.1 gg.2.1 gg.2.2.2.2)∧St w0 ((Cel u #[.slice gg.2.2.2.1 gg.2.1.length gg.2.2.2.2,.bool gg.2.2.1] 85)::(Cel a1 (TMs.cells (⟨q,0,(vecF (valW (d,i)) gg.1),dBd,dD32⟩:TMs)) 63)::(Cel b1 (TMs.cells dMs) 63)::L) w) (fun gg=>11-gg.1) (0,d,i,i2,i3) [2,3,4,5,6] (by kernel_rfl) ⟨⟨Nat.zero_le _,rfl,m9⟩,n5⟩ ?_
 rintro⟨kk,i4,i5,bj,bk⟩ bm ⟨hp,f2⟩
 dsimp only at hp f2
 refine En (Ls (Lq (Dz (Zi ((kk:Int)<11) (fun n6=>?_) (fun n6=>?_)))))
 ·have hk:kk<11:=by omega
  refine En (Lk (Lt (Ls (Lb (Lg [2,5] (Lw (Zc (rWord_spec Q i4 i5 (fun w h=>hQ w (h.drop 2)) hp.2.2 f2) ?_)))))))
  rintro bn bo ⟨i6,i7,i8,i9,j0,rfl,j1,bp,n7,n8⟩
  refine Zoj (Hx 4 (kk:Int) (11:Int) a1 2 1 Hz) ?_
  have hvk:valW (d,i) kk=i6:=by show(wordP (stW _ kk)).1=_;rw [← hp.2.1,j1]
  exact GoR.store rfl rfl (by kernel_rfl) (b:=a1) (off:=2+(kk*1)) (v:=.int .u64 i6) (by kernel_rfl) (by kernel_rfl) (ti:=Tryz.t29) (by kernel_rfl) n8 1 rfl (by kernel_rfl) (by kernel_rfl) (by show 2+(kk*1)+1≤121;omega) (cs':=TMs.cells (⟨q,0,(vecF (valW (d,i)) (kk+1)),dBd,dD32⟩:TMs)) (L':=(Cel u #[.slice i9 i7.length j0,.bool i8] 85)::(Cel a1 (TMs.cells (⟨q,0,(vecF (valW (d,i)) (kk+1)),dBd,dD32⟩:TMs)) 63)::(Cel b1 (TMs.cells dMs) 63)::L) (by rw [Nat.mul_one,← hvk];exact msSet _ hk) rfl fun bq n9=>Lo (Ld (Lm (Lt (Dz (Zaj (Hwi 1 ((kk:Nat)+1) Hz) (GoQ.back (kk+1,i7,i8,i9,j0) [2,3,4,5,6] (by kernel_rfl) (by show 11-(kk+1)<11-kk;omega) ⟨⟨by omega,by show _=(wordP (stW _ kk)).2;rw [← hp.2.1,j1],n7⟩,n9⟩))))))
 ·have hke:kk=11:=by omega
  subst hke
  have hst:=hp.2.1
  refine En (Lx (LsC (LsL (Lh (Lt (Ls (Lg [1,3,4] (Lw (Zc (rByte_spec Q i4 i5 (fun w h=>hQ w (h.drop 2)) hp.2.2 f2) ?_)))))))))
  rintro br bs ⟨a,b3,b5,bt,bu,rfl,c1,bv,j2,o0⟩
  refine Lo (Lw (Zag (TBd.cells dBd) o0 fun c5 bw o1=>Lo (Dz (Zu 0 0 (TBd.cells (⟨a,0,0,dRq,none,0,[],dD32⟩:TBd)) o1 fun bx f0=>Lo (Ld (Lt (Ls (Ls (Dz (Zaj (Hl 1 0 0 f0 Hz) (Zt (Zqc (t:=(a:Int) != 6) (fun d8=>?_) (fun d8=>?_)))))))))))))
  ·have o2:=ineT d8
   have h6:¬ a=6:=by simpa using d8
   refine En (Lg [1,3] (Lw (Zc (rWord_spec Q b3 b5 (fun w h=>hQ w (h.drop 3)) j2 (f0.pl 1)) ?_)))
   rintro bz ca ⟨o,c6,c2,o4,o5,rfl,c7,cc,f3,o6⟩
   refine Lo (Lw (Zu 1 1 (TBd.cells (⟨a,o,0,dRq,none,0,[],dD32⟩:TBd)) o6 fun cd d6=>Lo (Ld (Lt (Ls (Ls (Dz (Zaj (Hl 1 1 0 d6 Hz) (En (Lt (Lb (Lq (Dz (Zqc (t:=(a:Int) == 1) (fun f4=>?_) (fun f4=>?_)))))))))))))))
   ·have f5:=ieqT f4
    refine En (Ls (Lg [1,5] (Lw (Zc (rByte_spec Q c6 c2 (fun w h=>hQ w (h.drop 3)) f3 d6) ?_))))
    rintro ce cf ⟨x,o7,o8,ch,ci,rfl,j3,j4,o9,p0⟩
    refine Zoj (Hwi 2 x Hz) (Zu 1 3 (TBd.cells (⟨a,o,0,(⟨x,0,dOp,dD32⟩:TRq),none,0,[],dD32⟩:TBd)) p0 fun cj p1=>Lo (Ld (Lt (Ls (Lg [1,5] (Lw (Zc (rByte_spec Q o7 o8 (fun w h=>hQ w (h.drop 3)) o9 p1) ?_)))))))
    rintro ck cn ⟨a2,p2,p3,co,cq,rfl,j5,j6,p4,p5⟩
    refine Lo (Lw (Zu 1 5 (TBd.cells (⟨a,o,0,(⟨x,0,(⟨a2,(⟨#[]⟩:ByteArray),(⟨#[]⟩:ByteArray),(⟨#[]⟩:ByteArray),(⟨#[]⟩:ByteArray),0⟩:TOp),dD32⟩:TRq),none,0,[],dD32⟩:TBd)) p5 fun cr p6=>Lo (Ld (Lt (Ls (Lg [1,4] (Lw (Zc (rWord_spec Q p2 p3 (fun w h=>hQ w (h.drop 3)) p4 p6) ?_))))))))
    rintro ct cu ⟨a3,p7,p8,cv,cw,rfl,j7,j8,p9,q0⟩
    refine Lo (Lw (Zu 1 4 (TBd.cells (⟨a,o,0,(⟨x,a3,(⟨a2,(⟨#[]⟩:ByteArray),(⟨#[]⟩:ByteArray),(⟨#[]⟩:ByteArray),(⟨#[]⟩:ByteArray),0⟩:TOp),dD32⟩:TRq),none,0,[],dD32⟩:TBd)) q0 fun cx q1=>Lo (Ld (Lt (Ls (Lg [1,5] (Lw (Zc (rWord_spec Q p7 p8 (fun w h=>hQ w (h.drop 3)) p9 q1) ?_))))))))
    rintro cy cz ⟨a4,q2,q3,da,db,rfl,j9,k0,q4,q5⟩
    refine Lo (Lw (Zu 1 10 (TBd.cells (⟨a,o,0,(⟨x,a3,(⟨a2,(⟨#[]⟩:ByteArray),(⟨#[]⟩:ByteArray),(⟨#[]⟩:ByteArray),(⟨#[]⟩:ByteArray),a4⟩:TOp),dD32⟩:TRq),none,0,[],dD32⟩:TBd)) q5 fun dc q6=>Lo (Ld (Lt (Ls (Lg [1,5] (Lw (Zc (rText_spec Q q2 q3 65535 (fun w h=>hQ w (h.drop 3)) q4 q6) ?_))))))))
    rintro dd de ⟨a5,q7,q8,df,dh,rfl,k1,q9,r0⟩
    refine Lo (Lw (Zu 1 6 (TBd.cells (⟨a,o,0,(⟨x,a3,(⟨a2,a5,(⟨#[]⟩:ByteArray),(⟨#[]⟩:ByteArray),(⟨#[]⟩:ByteArray),a4⟩:TOp),dD32⟩:TRq),none,0,[],dD32⟩:TBd)) r0 fun di r4=>Lo (Ld (Lt (Ls (Lg [1,5] (Lw (Zc (rText_spec Q q7 q8 65535 (fun w h=>hQ w (h.drop 3)) q9 r4) ?_))))))))
    rintro dj dk ⟨a6,r5,r6,dl,dm,rfl,k2,r7,r8⟩
    refine Lo (Lw (Zu 1 7 (TBd.cells (⟨a,o,0,(⟨x,a3,(⟨a2,a5,a6,(⟨#[]⟩:ByteArray),(⟨#[]⟩:ByteArray),a4⟩:TOp),dD32⟩:TRq),none,0,[],dD32⟩:TBd)) r8 fun dn r9=>Lo (Ld (Lt (Ls (Lg [1,5] (Lw (Zc (rText_spec Q r5 r6 65535 (fun w h=>hQ w (h.drop 3)) r7 r9) ?_))))))))
    rintro dq ds ⟨a7,s0,s1,dt,du,rfl,k3,s3,s4⟩
    refine Lo (Lw (Zu 1 8 (TBd.cells (⟨a,o,0,(⟨x,a3,(⟨a2,a5,a6,a7,(⟨#[]⟩:ByteArray),a4⟩:TOp),dD32⟩:TRq),none,0,[],dD32⟩:TBd)) s4 fun dv s5=>Lo (Ld (Lt (Ls (Lg [1,5] (Lw (Zc (rText_spec Q s0 s1 65535 (fun w h=>hQ w (h.drop 3)) s3 s5) ?_))))))))
    rintro dx dy ⟨a8,s6,s7,dz,ea,rfl,k4,s8,s9⟩
    refine Lo (Lw (Zu 1 9 (TBd.cells (⟨a,o,0,(⟨x,a3,(⟨a2,a5,a6,a7,a8,a4⟩:TOp),dD32⟩:TRq),none,0,[],dD32⟩:TBd)) s9 fun eb t0=>Lo (Ld (Lt (Lg [1,4] (Lw (Zc (rhash_spec Q s6 s7 (fun w h=>hQ w (h.drop 3)) s8 t0) ?_)))))))
    rintro ec ed ⟨b6,d9,c8,t1,t2,rfl,k5,k6,ee,t3⟩
    refine Lo (Lw (Zu 1 11 (TBd.cells (⟨a,o,0,(⟨x,a3,(⟨a2,a5,a6,a7,a8,a4⟩:TOp),b6⟩:TRq),none,0,[],dD32⟩:TBd)) t3 fun eg k7=>Lo (Ld (Lm (Lt (Ls (Dz (Zgj [2] (Hla 0 1 0 76 (TBd.cells (⟨a,o,0,(⟨x,a3,(⟨a2,a5,a6,a7,a8,a4⟩:TOp),b6⟩:TRq),none,0,[],dD32⟩:TBd)) k7 Hz) (Zu 2 13 (TMs.cells (⟨q,0,(vecF (valW (d,i)) 11),(⟨a,o,0,(⟨x,a3,(⟨a2,a5,a6,a7,a8,a4⟩:TOp),b6⟩:TRq),none,0,[],dD32⟩:TBd),dD32⟩:TMs)) k7 fun eh t4=>Lo (Ld (Lt (Ls (Dz (ZD (rds [0,1,2,3,4,5,6,7,8,9,10,11,12,13] (.ef 14 (.rd 15 .done))) t4 fun ei e0 ej=>Zp 0 7 [(0,.agg (TMs.cells (⟨q,0,(vecF (valW (d,i)) 11),(⟨a,o,0,(⟨x,a3,(⟨a2,a5,a6,a7,a8,a4⟩:TOp),b6⟩:TRq),none,0,[],dD32⟩:TBd),dD32⟩:TMs))),(4,.gen [.bool c8])] [(0,[.prop (Array.size (TMs.cells (⟨q,0,(vecF (valW (d,i)) 11),(⟨a,o,0,(⟨x,a3,(⟨a2,a5,a6,a7,a8,a4⟩:TOp),b6⟩:TRq),none,0,[],dD32⟩:TBd),dD32⟩:TMs))=121),.cells ⟨a1,0,none⟩ (TMs.cells (⟨q,0,(vecF (valW (d,i)) 11),(⟨a,o,0,(⟨x,a3,(⟨a2,a5,a6,a7,a8,a4⟩:TOp),b6⟩:TRq),none,0,[],dD32⟩:TBd),dD32⟩:TMs))]),(4,[.cell ⟨u,1,none⟩ (.bool c8)])] (ak (okp (by kernel_rfl) (oka (e0.cells 2 0 rfl (by kernel_rfl)) ok0)) (ak (okc (e0.cell 0 rfl (by kernel_rfl)) ok0) ak0)) ?_))))))))))))))
    rcases Bool.eq_false_or_eq_true (!c8) with c9|c9
    ·refine Zqs 134 true c9 (Zj (Hl 10 0 0 e0 Hz) (Zu 3 0 (TMs.cells (⟨q,0,(vecF (valW (d,i)) 11),(⟨a,o,0,(⟨x,a3,(⟨a2,a5,a6,a7,a8,a4⟩:TOp),b6⟩:TRq),none,0,[],dD32⟩:TBd),dD32⟩:TMs)) e0 fun ek f6=>⟨(opl (n:=[.cell ⟨u,0,none⟩ (.slice t1 d9.length t2)]) (by kernel_rfl) (okc (f6.cell 0 rfl (by kernel_rfl)) ok0)),(En (Lud (Lt (Le (Dz (Zrv 3 (.bool ((d9.length:Int) == 0)) f6 ?_))))))⟩))
     have t6:=St.slNil f6 143 2 TPr.cells
     have h3:bdR a (b3,b5)=((⟨a,o,0,(⟨x,a3,(⟨a2,a5,a6,a7,a8,a4⟩:TOp),b6⟩:TRq),none,0,[],dD32⟩:TBd),(d9,c8)):=by unfold bdR;rw [if_pos f5];unfold g1R rqR;simp only [c7,j3,j5,j7,j9,k1,k2,k3,k4,k5]
     have t7:=(((((t6.pl 0).pl 4).pl 4).pl 4).pl 4)
     exact⟨(⟨q,0,(vecF (valW (d,i)) 11),(⟨a,o,0,(⟨x,a3,(⟨a2,a5,a6,a7,a8,a4⟩:TOp),b6⟩:TRq),none,0,[],dD32⟩:TBd),dD32⟩:TMs),((d9.length:Int) == 0),rfl,((guP_eq c0 ((congrArg byteP hst.symm).trans c1) h3).trans (congrArg (Prod.mk _) (endT c9))),⟨(by dsimp only;omega),(by dsimp only;omega),(vecF_all _ 0 (fun k hk=>by have:=wordP_rng (s:=stW (d,i) k) (v:=valW (d,i) k) (s2:=(wordP (stW (d,i) k)).2) rfl;omega)),⟨(by dsimp only;omega),(by dsimp only;omega),(by dsimp only;omega),(rqOK_of j4 j6 j8 k0 k6),(fun p hp=>by cases hp),dD32_ok,(Nat.zero_le _)⟩,dD32_ok⟩,(t7.dr 4)⟩
    ·refine Zqs 134 false c9 (En (Lw (Zu 3 0 (TMs.cells (⟨q,0,(vecF (valW (d,i)) 11),(⟨a,o,0,(⟨x,a3,(⟨a2,a5,a6,a7,a8,a4⟩:TOp),b6⟩:TRq),none,0,[],dD32⟩:TBd),dD32⟩:TMs)) e0 fun el k8=>Lz (Le (Dz (Zrv 3 (.bool false) k8 ?_))))))
     have t9:=St.slNil k8 143 2 TPr.cells
     have h3:bdR a (b3,b5)=((⟨a,o,0,(⟨x,a3,(⟨a2,a5,a6,a7,a8,a4⟩:TOp),b6⟩:TRq),none,0,[],dD32⟩:TBd),(d9,c8)):=by unfold bdR;rw [if_pos f5];unfold g1R rqR;simp only [c7,j3,j5,j7,j9,k1,k2,k3,k4,k5]
     have u0:=(((((t9.pl 0).pl 4).pl 4).pl 4).pl 4)
     exact⟨(⟨q,0,(vecF (valW (d,i)) 11),(⟨a,o,0,(⟨x,a3,(⟨a2,a5,a6,a7,a8,a4⟩:TOp),b6⟩:TRq),none,0,[],dD32⟩:TBd),dD32⟩:TMs),false,rfl,((guP_eq c0 ((congrArg byteP hst.symm).trans c1) h3).trans (congrArg (Prod.mk _) (endF c9))),⟨(by dsimp only;omega),(by dsimp only;omega),(vecF_all _ 0 (fun k hk=>by have:=wordP_rng (s:=stW (d,i) k) (v:=valW (d,i) k) (s2:=(wordP (stW (d,i) k)).2) rfl;omega)),⟨(by dsimp only;omega),(by dsimp only;omega),(by dsimp only;omega),(rqOK_of j4 j6 j8 k0 k6),(fun p hp=>by cases hp),dD32_ok,(Nat.zero_le _)⟩,dD32_ok⟩,(u0.dr 4)⟩
   ·have f5:=ieqF f4
    refine En (Lq (Dz (Zqc (t:=(a:Int) == 2) (fun f7=>?_) (fun f7=>?_))))
    ·have e1:=ieqT f7
     refine En (Lg [1,3] (Lw (Zc (rWord_spec Q c6 c2 (fun w h=>hQ w (h.drop 3)) f3 d6) ?_)))
     rintro em en ⟨b7,e2,d0,u2,u3,rfl,k9,eo,ep,u4⟩
     refine Lo (Lw (Zu 1 2 (TBd.cells (⟨a,o,b7,dRq,none,0,[],dD32⟩:TBd)) u4 fun es l0=>Lo (Ld (Lm (Lt (Ls (Dz (Zgj [2] (Hla 0 1 0 76 (TBd.cells (⟨a,o,b7,dRq,none,0,[],dD32⟩:TBd)) l0 Hz) (Zu 2 13 (TMs.cells (⟨q,0,(vecF (valW (d,i)) 11),(⟨a,o,b7,dRq,none,0,[],dD32⟩:TBd),dD32⟩:TMs)) l0 fun et u5=>Lo (Ld (Lt (Ls (Dz (ZD (rds [0,1,2,3,4,5,6,7,8,9,10,11,12,13] (.ef 14 (.rd 15 .done))) u5 fun eu e3 ev=>Zp 0 7 [(0,.agg (TMs.cells (⟨q,0,(vecF (valW (d,i)) 11),(⟨a,o,b7,dRq,none,0,[],dD32⟩:TBd),dD32⟩:TMs))),(4,.gen [.bool d0])] [(0,[.prop (Array.size (TMs.cells (⟨q,0,(vecF (valW (d,i)) 11),(⟨a,o,b7,dRq,none,0,[],dD32⟩:TBd),dD32⟩:TMs))=121),.cells ⟨a1,0,none⟩ (TMs.cells (⟨q,0,(vecF (valW (d,i)) 11),(⟨a,o,b7,dRq,none,0,[],dD32⟩:TBd),dD32⟩:TMs))]),(4,[.cell ⟨u,1,none⟩ (.bool d0)])] (ak (okp (by kernel_rfl) (oka (e3.cells 2 0 rfl (by kernel_rfl)) ok0)) (ak (okc (e3.cell 0 rfl (by kernel_rfl)) ok0) ak0)) ?_))))))))))))))
     rcases Bool.eq_false_or_eq_true (!d0) with d1|d1
     ·refine Zqs 134 true d1 (Zj (Hl 10 0 0 e3 Hz) (Zu 3 0 (TMs.cells (⟨q,0,(vecF (valW (d,i)) 11),(⟨a,o,b7,dRq,none,0,[],dD32⟩:TBd),dD32⟩:TMs)) e3 fun ew f8=>⟨(opl (n:=[.cell ⟨u,0,none⟩ (.slice u2 e2.length u3)]) (by kernel_rfl) (okc (f8.cell 0 rfl (by kernel_rfl)) ok0)),(En (Lud (Lt (Le (Dz (Zrv 3 (.bool ((e2.length:Int) == 0)) f8 ?_))))))⟩))
      have u7:=St.slNil f8 143 2 TPr.cells
      have h3:bdR a (b3,b5)=((⟨a,o,b7,dRq,none,0,[],dD32⟩:TBd),(e2,d0)):=by unfold bdR getB;rw [if_neg (by omega),if_neg (by omega),if_pos e1];unfold g2;simp only [c7,k9];rw [e1]
      have u8:=(((((u7.pl 0).pl 4).pl 4).pl 4).pl 4)
      exact⟨(⟨q,0,(vecF (valW (d,i)) 11),(⟨a,o,b7,dRq,none,0,[],dD32⟩:TBd),dD32⟩:TMs),((e2.length:Int) == 0),rfl,((guP_eq c0 ((congrArg byteP hst.symm).trans c1) h3).trans (congrArg (Prod.mk _) (endT d1))),⟨(by dsimp only;omega),(by dsimp only;omega),(vecF_all _ 0 (fun k hk=>by have:=wordP_rng (s:=stW (d,i) k) (v:=valW (d,i) k) (s2:=(wordP (stW (d,i) k)).2) rfl;omega)),⟨(by dsimp only;omega),(by dsimp only;omega),(by dsimp only;omega),dRq_ok,(fun p hp=>by cases hp),dD32_ok,(Nat.zero_le _)⟩,dD32_ok⟩,(u8.dr 4)⟩
     ·refine Zqs 134 false d1 (En (Lw (Zu 3 0 (TMs.cells (⟨q,0,(vecF (valW (d,i)) 11),(⟨a,o,b7,dRq,none,0,[],dD32⟩:TBd),dD32⟩:TMs)) e3 fun ex l1=>Lz (Le (Dz (Zrv 3 (.bool false) l1 ?_))))))
      have v0:=St.slNil l1 143 2 TPr.cells
      have h3:bdR a (b3,b5)=((⟨a,o,b7,dRq,none,0,[],dD32⟩:TBd),(e2,d0)):=by unfold bdR getB;rw [if_neg (by omega),if_neg (by omega),if_pos e1];unfold g2;simp only [c7,k9];rw [e1]
      have v1:=(((((v0.pl 0).pl 4).pl 4).pl 4).pl 4)
      exact⟨(⟨q,0,(vecF (valW (d,i)) 11),(⟨a,o,b7,dRq,none,0,[],dD32⟩:TBd),dD32⟩:TMs),false,rfl,((guP_eq c0 ((congrArg byteP hst.symm).trans c1) h3).trans (congrArg (Prod.mk _) (endF d1))),⟨(by dsimp only;omega),(by dsimp only;omega),(vecF_all _ 0 (fun k hk=>by have:=wordP_rng (s:=stW (d,i) k) (v:=valW (d,i) k) (s2:=(wordP (stW (d,i) k)).2) rfl;omega)),⟨(by dsimp only;omega),(by dsimp only;omega),(by dsimp only;omega),dRq_ok,(fun p hp=>by cases hp),dD32_ok,(Nat.zero_le _)⟩,dD32_ok⟩,(v1.dr 4)⟩
    ·have e1:=ieqF f7
     refine En (Lq (Dz (Zqc (t:=(a:Int) == 4) (fun f9=>?_) (fun f9=>?_))))
     ·have e4:=ieqT f9
      refine En (Ls (Lg [1] (Lw (Zc (rByte_spec Q c6 c2 (fun w h=>hQ w (h.drop 3)) f3 d6) ?_))))
      rintro ey v3 ⟨g0,g5,g7,l2,l3,rfl,g8,ez,v4,v5⟩
      refine Zojd (Hwi 2 g0 Hz) (En (Lt (Lq (Lb (Dz ?_)))))
      have hnr:=byteP_rng g8
      obtain⟨nb,rfl⟩:∃ m:Nat,g0=(m:Int):=⟨g0.toNat,by omega⟩
      have v6:=St.slNil v5 143 2 TPr.cells
      have v7:=(((v6.pl 1).pl 2).pl 2)
      have v8:St w0 ((Sl none 0 143 2 TPr.cells ([]:List TPr))::(Cel c5 (TBd.cells (⟨a,o,0,dRq,none,0,([]:List TPr),dD32⟩:TBd)) 37)::(Cel u #[.slice l2 g5.length l3,.bool g7] 85)::(Cel a1 (TMs.cells (⟨q,0,(vecF (valW (d,i)) 11),dBd,dD32⟩:TMs)) 63)::(Cel b1 (TMs.cells dMs) 63)::L) v3:=v7
      refine GoC.loop (T:=Nat×(List Int)×Bool×(Option Addr)×Nat×(Option Addr)×Nat×(List TPr)) (fun gg=>[(2,zP b1 0),(3,.bool false),(4,zP u 0),(5,zP a1 0),(7,zP c5 0),(8,.int .i64 (nb:Nat)),(9,.int .i64 (gg.1:Nat))]) (fun gg w=>(gg.1≤nb∧prsP nb (g5,g7) []=prsP (nb-gg.1) (gg.2.1,gg.2.2.1) gg.2.2.2.2.2.2.2∧CutOK Q gg.2.2.2.1 gg.2.1 gg.2.2.2.2.1∧(∀ p∈gg.2.2.2.2.2.2.2,(-9223372036854775808≤p.rp∧p.rp≤9223372036854775807)∧(0≤p.nm∧p.nm≤18446744073709551615))∧gg.2.2.2.2.2.2.2.length≤gg.1)∧St w0 ((Sl gg.2.2.2.2.2.1 gg.2.2.2.2.2.2.1 143 2 TPr.cells gg.2.2.2.2.2.2.2)::(Cel c5 (TBd.cells (⟨a,o,0,dRq,gg.2.2.2.2.2.1,gg.2.2.2.2.2.2.1,gg.2.2.2.2.2.2.2,dD32⟩:TBd)) 37)::(Cel u #[.slice gg.2.2.2.1 gg.2.1.length gg.2.2.2.2.1,.bool gg.2.2.1] 85)::(Cel a1 (TMs.cells (⟨q,0,(vecF (valW (d,i)) 11),dBd,dD32⟩:TMs)) 63)::(Cel b1 (TMs.cells dMs) 63)::L) w) (fun gg=>nb-gg.1) (0,g5,g7,l2,l3,none,0,([]:List TPr)) [2,3,4,5,7,8,9] (by kernel_rfl) ⟨⟨by omega,rfl,v4,fun p hp=>(by cases hp),by simp only [lN];omega⟩,v8⟩ ?_
      rintro⟨ii,rrq,spq,azq,czq,a9,b0,a0⟩ fa ⟨hp,f1⟩
      dsimp only at hp f1
      refine Zs (Zs (GoC.join (T:=Unit) (E:=fun _=>[(102,.bool ((decide ((ii:Int)<(nb:Nat))) && (!spq))),(2,zP b1 0),(3,.bool false),(4,zP u 0),(5,zP a1 0),(7,zP c5 0),(8,.int .i64 (nb:Nat)),(9,.int .i64 (ii:Nat))]) (F:=fun _ w=>St w0 ((Sl a9 b0 143 2 TPr.cells a0)::(Cel c5 (TBd.cells (⟨a,o,0,dRq,a9,b0,a0,dD32⟩:TBd)) 37)::(Cel u #[.slice azq rrq.length czq,.bool spq] 85)::(Cel a1 (TMs.cells (⟨q,0,(vecF (valW (d,i)) 11),dBd,dD32⟩:TMs)) 63)::(Cel b1 (TMs.cells dMs) 63)::L) w) ?_ ?_))
      ·refine Zg [] (Zr 0 4 [] ?_)
       rcases Bool.eq_false_or_eq_true (decide ((ii:Int)<(nb:Nat))) with c3|c3
       ·exact Zqs 96 true c3 (Zjd (Hl 7 2 1 f1 Hz) (GoQ.pick [102,2,3,4,5,7,8,9] (S':=[(102,.bool (!spq)),(2,zP b1 0),(3,.bool false),(4,zP u 0),(5,zP a1 0),(7,zP c5 0),(8,.int .i64 (nb:Nat)),(9,.int .i64 (ii:Nat))]) (by kernel_rfl) (GoQ.meet1 () (by first|rfl|(simp only [c3,Bool.not_true,Bool.not_false,Bool.true_or,Bool.false_or,Bool.true_and,Bool.false_and,Bool.or_true,Bool.or_false,Bool.and_true,Bool.and_false];done)|(simp [c3];done)) f1)))
       ·exact Zqs 96 false c3 (En (Lud (Dz (GoQ.pick [102,2,3,4,5,7,8,9] (S':=[(102,.bool false),(2,zP b1 0),(3,.bool false),(4,zP u 0),(5,zP a1 0),(7,zP c5 0),(8,.int .i64 (nb:Nat)),(9,.int .i64 (ii:Nat))]) (by kernel_rfl) (GoQ.meet1 () (by first|rfl|(simp only [c3,Bool.not_true,Bool.not_false,Bool.true_or,Bool.false_or,Bool.true_and,Bool.false_and,Bool.or_true,Bool.or_false,Bool.and_true,Bool.and_false];done)|(simp [c3];done)) f1)))))
      intro _ fb g9
      refine Zt (Zqc (t:=(decide ((ii:Int)<(nb:Nat))) && (!spq)) (fun d7=>?_) (fun d7=>?_))
      ·have w1:=(Bool.and_eq_true_iff.1 d7).1
       have w3:(!spq)=true:=(Bool.and_eq_true_iff.1 d7).2
       have hsf:spq=false:=by simpa using (Bool.and_eq_true_iff.1 d7).2
       have hii:ii<nb:=by have:=of_decide_eq_true (Bool.and_eq_true_iff.1 d7).1;omega
       refine En (Lk (Lt (Ls (Lb (Ls (Lg [1,4,5] (Lw (Zc (rByte_spec Q rrq spq (fun w h=>hQ w (h.drop 4)) hp.2.2.1 (g9.pl 2)) ?_))))))))
       rintro fe ff ⟨b9,w6,w7,fg,fh,rfl,w8,fi,w9,x0⟩
       refine Zoj (Hwi 2 b9 Hz) (Zag (TPr.cells dPr) x0 fun x1 fj x2=>Lo (Dz (Zu 0 0 (TPr.cells (⟨b9,0⟩:TPr)) x2 fun fk x3=>Lo (Ld (Lt (Ls (Lg [1,3] (Lw (Zc (rWord_spec Q w6 w7 (fun w h=>hQ w (h.drop 5)) w9 (x3.pl 1)) ?_)))))))))
       rintro fl fm ⟨c4,l4,l5,l6,l7,rfl,x5,fo,x6,x7⟩
       refine Lo (Lw (Zu 1 1 (TPr.cells (⟨b9,c4⟩:TPr)) x7 fun fp h0=>Lo (Ld (Lt (Dz (Zgj [3,4,6] (Hl 1 3 43 h0 (Hla 2 1 0 2 (TPr.cells (⟨b9,c4⟩:TPr)) h0 Hz)) (GoR.sliceLit rfl (by kernel_rfl) (t:=35) (e:=143) (n:=1) (ps:=[(0,.agg (TPr.cells (⟨b9,c4⟩:TPr)))]) (by kernel_rfl) (by kernel_rfl) (ti:=Tryz.t143) (z:=.agg (TPr.cells dPr)) (by kernel_rfl) (by kernel_rfl) (by decide) (by decide) (cs:=TPr.cells (⟨b9,c4⟩:TPr)) (by kernel_rfl) h0 fun x8 x9 y0 y1=>?_)))))))
       have y2:St w0 ((Sl (some ⟨x8,0,none⟩) 1 143 2 TPr.cells ([((⟨b9,c4⟩:TPr):TPr)]))::(Cel u #[.slice l6 l4.length l7,.bool l5] 85)::(Cel x1 (TPr.cells (⟨b9,c4⟩:TPr)) 143)::(Sl a9 b0 143 2 TPr.cells a0)::(Cel c5 (TBd.cells (⟨a,o,0,dRq,a9,b0,a0,dD32⟩:TBd)) 37)::(Cel a1 (TMs.cells (⟨q,0,(vecF (valW (d,i)) 11),dBd,dD32⟩:TMs)) 63)::(Cel b1 (TMs.cells dMs) 63)::L) x9:=St.slOf (l:=[((⟨b9,c4⟩:TPr):TPr)]) (f:=TPr.cells) y0 y1 (dPrF).size (by simp only [lC,lN,maxLen];omega) (by kernel_rfl)
       refine Lo (Dz (Zap prsOK dPrF dPr (y2.pl 3) (by simp only [lA,lC,lN,List.length_map] at *;omega) fun l8 l9 fq y4=>Lo (Lw (Zu 4 43 (TBd.cells (⟨a,o,0,dRq,l8,l9,(a0++([((⟨b9,c4⟩:TPr):TPr)])),dD32⟩:TBd)) y4 fun fs y5=>Lo (Ld (Lm (Lt (Dz (Zaj (Hwi 1 ((ii:Nat)+1) Hz) ?_)))))))))
       have y6:=(((((((y5.pl 6).pl 6).pl 4).pl 6).pl 4).pl 6).pl 6)
       exact GoQ.back (ii+1,l4,l5,l6,l7,l8,l9,(a0++[(⟨b9,c4⟩:TPr)])) [2,3,4,5,7,8,9] (by kernel_rfl) (by show nb-(ii+1)<nb-ii;omega) ⟨⟨by omega,by rw [hp.2.1,show nb-ii=(nb-(ii+1))+1 from by omega,prsP_step hsf w8 x5],x6,fun p y8=>(List.mem_append.1 y8).elim (hp.2.2.2.1 p) (fun h9=>by rw [List.mem_singleton.1 h9];exact⟨(by dsimp only;omega),(by dsimp only;omega)⟩),by show(a0++[_]).length≤ii+1;have:=hp.2.2.2.2;simp only [lA,lC,lN];omega⟩,(y6.dr 2)⟩
      ·have hend:nb-ii=0∨spq=true:=by
        rcases Bool.and_eq_false_iff.1 d7 with h9|h9
        ·have:=of_decide_eq_false h9;exact .inl (by omega)
        ·exact .inr (by simpa using h9)
       refine Zx (GoQ.skipC (GoQ.skipL (GoQ.hit (Zm (Zt (Zs (Zgj [2] (Hla 0 1 0 76 (TBd.cells (⟨a,o,0,dRq,a9,b0,a0,dD32⟩:TBd)) g9 Hz) (Zu 3 13 (TMs.cells (⟨q,0,(vecF (valW (d,i)) 11),(⟨a,o,0,dRq,a9,b0,a0,dD32⟩:TBd),dD32⟩:TMs)) g9 fun ft y9=>Lo (Ld (Lt (Ls (Dz (ZD (rds [0,1,2,3,4,5,6,7,8,9,10,11,12,13] (.ef 14 (.rd 15 .done))) y9 fun fu e5 fv=>Zp 0 7 [(0,.agg (TMs.cells (⟨q,0,(vecF (valW (d,i)) 11),(⟨a,o,0,dRq,a9,b0,a0,dD32⟩:TBd),dD32⟩:TMs))),(4,.gen [.bool spq])] [(0,[.prop (Array.size (TMs.cells (⟨q,0,(vecF (valW (d,i)) 11),(⟨a,o,0,dRq,a9,b0,a0,dD32⟩:TBd),dD32⟩:TMs))=121),.cells ⟨a1,0,none⟩ (TMs.cells (⟨q,0,(vecF (valW (d,i)) 11),(⟨a,o,0,dRq,a9,b0,a0,dD32⟩:TBd),dD32⟩:TMs))]),(4,[.cell ⟨u,1,none⟩ (.bool spq)])] (ak (okp (by kernel_rfl) (oka (e5.cells 3 0 rfl (by kernel_rfl)) ok0)) (ak (okc (e5.cell 2 rfl (by kernel_rfl)) ok0) ak0)) ?_)))))))))))))
       rcases Bool.eq_false_or_eq_true (!spq) with d2|d2
       ·refine Zqs 134 true d2 (Zj (Hl 10 2 0 e5 Hz) (Zu 4 0 (TMs.cells (⟨q,0,(vecF (valW (d,i)) 11),(⟨a,o,0,dRq,a9,b0,a0,dD32⟩:TBd),dD32⟩:TMs)) e5 fun fw h1=>⟨(opl (n:=[.cell ⟨u,0,none⟩ (.slice azq rrq.length czq)]) (by kernel_rfl) (okc (h1.cell 2 rfl (by kernel_rfl)) ok0)),(En (Lud (Lt (Le (Dz (Zrv 4 (.bool ((rrq.length:Int) == 0)) h1 ?_))))))⟩))
        have h3:bdR a (b3,b5)=((⟨a,o,0,dRq,none,0,a0,dD32⟩:TBd),(rrq,spq)):=by unfold bdR getB;rw [if_neg (by omega),if_neg (by omega),if_neg (by omega),if_pos e4];unfold g4;simp only [c7,g8,Int.toNat_natCast];rw [hp.2.1,prsP_end hend,e4]
        have z1:=(((((h1.pl 0).pl 4).pl 4).pl 4).pl 4)
        exact⟨(⟨q,0,(vecF (valW (d,i)) 11),(⟨a,o,0,dRq,a9,b0,a0,dD32⟩:TBd),dD32⟩:TMs),((rrq.length:Int) == 0),rfl,((guP_eq c0 ((congrArg byteP hst.symm).trans c1) h3).trans (congrArg (Prod.mk _) (endT d2))),⟨(by dsimp only;omega),(by dsimp only;omega),(vecF_all _ 0 (fun k hk=>by have:=wordP_rng (s:=stW (d,i) k) (v:=valW (d,i) k) (s2:=(wordP (stW (d,i) k)).2) rfl;omega)),⟨(by dsimp only;omega),(by dsimp only;omega),(by dsimp only;omega),dRq_ok,hp.2.2.2.1,dD32_ok,(by show a0.length≤_;have:=hp.2.2.2.2;omega)⟩,dD32_ok⟩,(z1.dr 4)⟩
       ·refine Zqs 134 false d2 (En (Lw (Zu 4 0 (TMs.cells (⟨q,0,(vecF (valW (d,i)) 11),(⟨a,o,0,dRq,a9,b0,a0,dD32⟩:TBd),dD32⟩:TMs)) e5 fun fx m0=>Lz (Le (Dz (Zrv 4 (.bool false) m0 ?_))))))
        have h3:bdR a (b3,b5)=((⟨a,o,0,dRq,none,0,a0,dD32⟩:TBd),(rrq,spq)):=by unfold bdR getB;rw [if_neg (by omega),if_neg (by omega),if_neg (by omega),if_pos e4];unfold g4;simp only [c7,g8,Int.toNat_natCast];rw [hp.2.1,prsP_end hend,e4]
        have z3:=(((((m0.pl 0).pl 4).pl 4).pl 4).pl 4)
        exact⟨(⟨q,0,(vecF (valW (d,i)) 11),(⟨a,o,0,dRq,a9,b0,a0,dD32⟩:TBd),dD32⟩:TMs),false,rfl,((guP_eq c0 ((congrArg byteP hst.symm).trans c1) h3).trans (congrArg (Prod.mk _) (endF d2))),⟨(by dsimp only;omega),(by dsimp only;omega),(vecF_all _ 0 (fun k hk=>by have:=wordP_rng (s:=stW (d,i) k) (v:=valW (d,i) k) (s2:=(wordP (stW (d,i) k)).2) rfl;omega)),⟨(by dsimp only;omega),(by dsimp only;omega),(by dsimp only;omega),dRq_ok,hp.2.2.2.1,dD32_ok,(by show a0.length≤_;have:=hp.2.2.2.2;omega)⟩,dD32_ok⟩,(z3.dr 4)⟩
     ·have e4:=ieqF f9
      refine En (Lq (Dz (Zqc (t:=(a:Int) == 6) (fun h2=>?_) (fun h2=>?_))))
      ·have z5:=ieqT h2
       exfalso;omega
      ·have z5:=ieqF h2
       refine Zk (Zm (Zt (Zs (Zgj [2] (Hla 0 1 0 76 (TBd.cells (⟨a,o,0,dRq,none,0,[],dD32⟩:TBd)) d6 Hz) (Zu 2 13 (TMs.cells (⟨q,0,(vecF (valW (d,i)) 11),(⟨a,o,0,dRq,none,0,[],dD32⟩:TBd),dD32⟩:TMs)) d6 fun fy z6=>Lo (Ld (Lt (Ls (Dz (ZD (rds [0,1,2,3,4,5,6,7,8,9,10,11,12,13] (.ef 14 (.rd 15 .done))) z6 fun fz e6 ga=>Zp 0 7 [(0,.agg (TMs.cells (⟨q,0,(vecF (valW (d,i)) 11),(⟨a,o,0,dRq,none,0,[],dD32⟩:TBd),dD32⟩:TMs))),(4,.gen [.bool c2])] [(0,[.prop (Array.size (TMs.cells (⟨q,0,(vecF (valW (d,i)) 11),(⟨a,o,0,dRq,none,0,[],dD32⟩:TBd),dD32⟩:TMs))=121),.cells ⟨a1,0,none⟩ (TMs.cells (⟨q,0,(vecF (valW (d,i)) 11),(⟨a,o,0,dRq,none,0,[],dD32⟩:TBd),dD32⟩:TMs))]),(4,[.cell ⟨u,1,none⟩ (.bool c2)])] (ak (okp (by kernel_rfl) (oka (e6.cells 2 0 rfl (by kernel_rfl)) ok0)) (ak (okc (e6.cell 0 rfl (by kernel_rfl)) ok0) ak0)) ?_))))))))))
       rcases Bool.eq_false_or_eq_true (!c2) with d3|d3
       ·refine Zqs 134 true d3 ?_
        have z7:=notT d3
        refine Zj (Hl 10 0 0 e6 Hz) (Zu 3 0 (TMs.cells (⟨q,0,(vecF (valW (d,i)) 11),(⟨a,o,0,dRq,none,0,[],dD32⟩:TBd),dD32⟩:TMs)) e6 fun gb h4=>⟨(opl (n:=[.cell ⟨u,0,none⟩ (.slice o4 c6.length o5)]) (by kernel_rfl) (okc (h4.cell 0 rfl (by kernel_rfl)) ok0)),(En (Lud (Lt (Le (Dz (Zrv 3 (.bool ((c6.length:Int) == 0)) h4 ?_))))))⟩)
        have z8:=St.slNil h4 143 2 TPr.cells
        have h3:bdR a (b3,b5)=((⟨a,o,0,dRq,none,0,[],dD32⟩:TBd),(c6,c2)):=by unfold bdR getB;rw [if_neg (by omega),if_neg (by omega),if_neg (by omega),if_neg (by omega),if_neg (by omega)];unfold g3;simp only [c7]
        have z9:=(((((z8.pl 0).pl 4).pl 4).pl 4).pl 4)
        exact⟨(⟨q,0,(vecF (valW (d,i)) 11),(⟨a,o,0,dRq,none,0,[],dD32⟩:TBd),dD32⟩:TMs),((c6.length:Int) == 0),rfl,((guP_eq c0 ((congrArg byteP hst.symm).trans c1) h3).trans (congrArg (Prod.mk _) (endT d3))),⟨(by dsimp only;omega),(by dsimp only;omega),(vecF_all _ 0 (fun k hk=>by have:=wordP_rng (s:=stW (d,i) k) (v:=valW (d,i) k) (s2:=(wordP (stW (d,i) k)).2) rfl;omega)),⟨(by dsimp only;omega),(by dsimp only;omega),(by dsimp only;omega),dRq_ok,(fun p hp=>by cases hp),dD32_ok,(Nat.zero_le _)⟩,dD32_ok⟩,(z9.dr 4)⟩
       ·refine Zqs 134 false d3 ?_
        have z7:=notF d3
        refine En (Lw (Zu 3 0 (TMs.cells (⟨q,0,(vecF (valW (d,i)) 11),(⟨a,o,0,dRq,none,0,[],dD32⟩:TBd),dD32⟩:TMs)) e6 fun gc m1=>Lz (Le (Dz (Zrv 3 (.bool false) m1 ?_)))))
        have ab:=St.slNil m1 143 2 TPr.cells
        have h3:bdR a (b3,b5)=((⟨a,o,0,dRq,none,0,[],dD32⟩:TBd),(c6,c2)):=by unfold bdR getB;rw [if_neg (by omega),if_neg (by omega),if_neg (by omega),if_neg (by omega),if_neg (by omega)];unfold g3;simp only [c7]
        have ae:=(((((ab.pl 0).pl 4).pl 4).pl 4).pl 4)
        exact⟨(⟨q,0,(vecF (valW (d,i)) 11),(⟨a,o,0,dRq,none,0,[],dD32⟩:TBd),dD32⟩:TMs),false,rfl,((guP_eq c0 ((congrArg byteP hst.symm).trans c1) h3).trans (congrArg (Prod.mk _) (endF d3))),⟨(by dsimp only;omega),(by dsimp only;omega),(vecF_all _ 0 (fun k hk=>by have:=wordP_rng (s:=stW (d,i) k) (v:=valW (d,i) k) (s2:=(wordP (stW (d,i) k)).2) rfl;omega)),⟨(by dsimp only;omega),(by dsimp only;omega),(by dsimp only;omega),dRq_ok,(fun p hp=>by cases hp),dD32_ok,(Nat.zero_le _)⟩,dD32_ok⟩,(ae.dr 4)⟩
  ·have o2:=ineF d8
   have h6:a=6:=by simpa using d8
   refine Zk (Zt (Zs (Zs (Zaj (Hl 1 0 0 f0 Hz) (En (Lt (Lb (Lq (Dz (Zqc (t:=(a:Int) == 1) (fun h5=>?_) (fun h5=>?_)))))))))))
   ·have ag:=ieqT h5
    exfalso;omega
   ·have ag:=ieqF h5
    refine En (Lq (Dz (Zqc (t:=(a:Int) == 2) (fun h7=>?_) (fun h7=>?_))))
    ·have ah:=ieqT h7
     exfalso;omega
    ·have ah:=ieqF h7
     refine En (Lq (Dz (Zqc (t:=(a:Int) == 4) (fun h8=>?_) (fun h8=>?_))))
     ·have ai:=ieqT h8
      exfalso;omega
     ·have ai:=ieqF h8
      refine En (Lq (Dz (Zqc (t:=(a:Int) == 6) (fun i0=>?_) (fun i0=>?_))))
      ·have e7:=ieqT i0
       refine En (Ls (Lg [1,3] (Lw (Zc (rWord_spec Q b3 b5 (fun w h=>hQ w (h.drop 3)) j2 (f0.pl 1)) ?_))))
       rintro gd ge ⟨b2,al,an,gf,gh,rfl,m2,gi,ao,ap⟩
       refine Lo (Lw (Zu 1 2 (TBd.cells (⟨a,0,b2,dRq,none,0,[],dD32⟩:TBd)) ap fun gj aq=>Lo (Ld (Lt (Lg [1,3] (Lw (Zc (rhash_spec Q al an (fun w h=>hQ w (h.drop 3)) ao aq) ?_)))))))
       rintro gk gl ⟨b8,e8,d4,ar,au,rfl,m3,m4,gm,av⟩
       refine Lo (Lw (Zu 1 44 (TBd.cells (⟨a,0,b2,dRq,none,0,[],b8⟩:TBd)) av fun gn m5=>Lo (Ld (Lm (Lt (Ls (Dz (Zgj [2] (Hla 0 1 0 76 (TBd.cells (⟨a,0,b2,dRq,none,0,[],b8⟩:TBd)) m5 Hz) (Zu 2 13 (TMs.cells (⟨q,0,(vecF (valW (d,i)) 11),(⟨a,0,b2,dRq,none,0,[],b8⟩:TBd),dD32⟩:TMs)) m5 fun go aw=>Lo (Ld (Lt (Ls (Dz (ZD (rds [0,1,2,3,4,5,6,7,8,9,10,11,12,13] (.ef 14 (.rd 15 .done))) aw fun gp e9 gq=>Zp 0 7 [(0,.agg (TMs.cells (⟨q,0,(vecF (valW (d,i)) 11),(⟨a,0,b2,dRq,none,0,[],b8⟩:TBd),dD32⟩:TMs))),(4,.gen [.bool d4])] [(0,[.prop (Array.size (TMs.cells (⟨q,0,(vecF (valW (d,i)) 11),(⟨a,0,b2,dRq,none,0,[],b8⟩:TBd),dD32⟩:TMs))=121),.cells ⟨a1,0,none⟩ (TMs.cells (⟨q,0,(vecF (valW (d,i)) 11),(⟨a,0,b2,dRq,none,0,[],b8⟩:TBd),dD32⟩:TMs))]),(4,[.cell ⟨u,1,none⟩ (.bool d4)])] (ak (okp (by kernel_rfl) (oka (e9.cells 2 0 rfl (by kernel_rfl)) ok0)) (ak (okc (e9.cell 0 rfl (by kernel_rfl)) ok0) ak0)) ?_))))))))))))))
       rcases Bool.eq_false_or_eq_true (!d4) with d5|d5
       ·refine Zqs 134 true d5 (Zj (Hl 10 0 0 e9 Hz) (Zu 3 0 (TMs.cells (⟨q,0,(vecF (valW (d,i)) 11),(⟨a,0,b2,dRq,none,0,[],b8⟩:TBd),dD32⟩:TMs)) e9 fun gr i1=>⟨(opl (n:=[.cell ⟨u,0,none⟩ (.slice ar e8.length au)]) (by kernel_rfl) (okc (i1.cell 0 rfl (by kernel_rfl)) ok0)),(En (Lud (Lt (Le (Dz (Zrv 3 (.bool ((e8.length:Int) == 0)) i1 ?_))))))⟩))
        have ay:=St.slNil i1 143 2 TPr.cells
        have h3:bdR a (b3,b5)=((⟨a,0,b2,dRq,none,0,[],b8⟩:TBd),(e8,d4)):=by unfold bdR getB;rw [if_neg (by omega),if_neg (by omega),if_neg (by omega),if_neg (by omega),if_pos e7];unfold g6;simp only [m2,m3];rw [e7]
        have az:=(((((ay.pl 0).pl 4).pl 4).pl 4).pl 4)
        exact⟨(⟨q,0,(vecF (valW (d,i)) 11),(⟨a,0,b2,dRq,none,0,[],b8⟩:TBd),dD32⟩:TMs),((e8.length:Int) == 0),rfl,((guP_eq c0 ((congrArg byteP hst.symm).trans c1) h3).trans (congrArg (Prod.mk _) (endT d5))),⟨(by dsimp only;omega),(by dsimp only;omega),(vecF_all _ 0 (fun k hk=>by have:=wordP_rng (s:=stW (d,i) k) (v:=valW (d,i) k) (s2:=(wordP (stW (d,i) k)).2) rfl;omega)),⟨(by dsimp only;omega),(by dsimp only;omega),(by dsimp only;omega),dRq_ok,(fun p hp=>by cases hp),m4,(Nat.zero_le _)⟩,dD32_ok⟩,(az.dr 4)⟩
       ·refine Zqs 134 false d5 (En (Lw (Zu 3 0 (TMs.cells (⟨q,0,(vecF (valW (d,i)) 11),(⟨a,0,b2,dRq,none,0,[],b8⟩:TBd),dD32⟩:TMs)) e9 fun gs m6=>Lz (Le (Dz (Zrv 3 (.bool false) m6 ?_))))))
        have bb:=St.slNil m6 143 2 TPr.cells
        have h3:bdR a (b3,b5)=((⟨a,0,b2,dRq,none,0,[],b8⟩:TBd),(e8,d4)):=by unfold bdR getB;rw [if_neg (by omega),if_neg (by omega),if_neg (by omega),if_neg (by omega),if_pos e7];unfold g6;simp only [m2,m3];rw [e7]
        have bc:=(((((bb.pl 0).pl 4).pl 4).pl 4).pl 4)
        exact⟨(⟨q,0,(vecF (valW (d,i)) 11),(⟨a,0,b2,dRq,none,0,[],b8⟩:TBd),dD32⟩:TMs),false,rfl,((guP_eq c0 ((congrArg byteP hst.symm).trans c1) h3).trans (congrArg (Prod.mk _) (endF d5))),⟨(by dsimp only;omega),(by dsimp only;omega),(vecF_all _ 0 (fun k hk=>by have:=wordP_rng (s:=stW (d,i) k) (v:=valW (d,i) k) (s2:=(wordP (stW (d,i) k)).2) rfl;omega)),⟨(by dsimp only;omega),(by dsimp only;omega),(by dsimp only;omega),dRq_ok,(fun p hp=>by cases hp),m4,(Nat.zero_le _)⟩,dD32_ok⟩,(bc.dr 4)⟩
      ·have e7:=ieqF i0
       exfalso;omega
end
theorem rqR_app {r:TRq}{e:List Int}(h:askedB r=true) (hr:RqOK r):rqR (rqB r++(r.tg.toList++e),false)=(r,(e,false)):=by
 have a:=hr.kd
 have b:=hr.am
 unfold askedB at h
 simp only [Bool.and_eq_true,decide_eq_true_eq] at h
 obtain⟨⟨⟨⟨⟨d,f⟩,i⟩,o⟩,q⟩,u⟩:=h
 unfold rqR rqB
 have ec:IntKind.u8.wrap r.cl=r.cl:=u8_id (by omega)
 simp only [List.append_assoc,List.cons_append,List.nil_append,ec]
 rw [byte_app (by omega)]
 simp only []
 rw [byte_app (by omega)]
 simp only []
 rw [word_app (by omega)]
 simp only []
 rw [word_app (by omega)]
 simp only []
 rw [text_app (by omega) (by omega)]
 simp only []
 rw [text_app (by omega) (by omega)]
 simp only []
 rw [text_app (by omega) (by omega)]
 simp only []
 rw [text_app (by omega) (by omega)]
 simp only []
 rw [hash_app]
theorem bdR_bdB {x:TBd}(h:bodyB x=true) (hx:BdOK x):bdR x.kd (bdB x,false)=(con x,([],false)):=by
 have a:=getB_bdB h hx
 unfold bdR
 by_cases b:x.kd=1
 ·obtain⟨hk,hm,hq⟩:=bodyB_in h
  have f:=hx.vw
  unfold mayB at hm
  rw [if_pos b] at hm
  have e:=rqR_app (e:=[]) hm hx.rq
  rw [List.append_nil] at e
  have d:=rq_app (e:=[]) hm hx.rq
  rw [List.append_nil] at d
  unfold getB bdB at a
  rw [if_pos b,if_pos b] at a
  unfold g1 bd1 at a
  simp only [] at a
  rw [word_app (by omega)] at a
  simp only [d] at a
  rw [if_pos b]
  unfold g1R bdB
  rw [if_pos b]
  unfold bd1
  simp only []
  rw [word_app (by omega)]
  simp only [e]
  rw [b]
  exact a
 ·rw [if_neg b];exact a
def ofR (i n:Int) (b:List Int) (t:D32):TMs×Int :=
 let m:TMs:=⟨(guP b).1.og,n,(guP b).1.dp,(guP b).1.bd,t⟩
 if (guP b).2=false then (dMs,5) else if m.og≠i then (dMs,5) else if mayM m=false then (dMs,5) else if byB m=b then (m,0) else (dMs,5)
theorem tag_eqs {m:TMs}(h:mayM m=true) (hm:MsOK m):byteP (tgB m,false)=(m.og,(m.dp.toList.flatMap wd++(m.bd.kd::bdB m.bd),false))∧byteP (stW (m.dp.toList.flatMap wd++(m.bd.kd::bdB m.bd),false) 11)=(m.bd.kd,(bdB m.bd,false)):=by
 obtain⟨a,b⟩:=mayM_tag h
 obtain⟨hk,hmb,hq⟩:=bodyB_in (mayM_body h)
 exact⟨by rw [tgB_eq h];exact byte_app (by omega),by rw [vec_end hm.dp];exact byte_app (by omega)⟩
theorem guP_tgB {m:TMs}(h:mayM m=true) (hm:MsOK m):guP (tgB m)=(⟨m.og,0,m.dp,con m.bd,dD32⟩,true):=by
 obtain⟨a,b⟩:=tag_eqs h hm
 rw [guP_eq a b (bdR_bdB (mayM_body h) hm.bd),vec_app hm.dp]
 rfl
theorem byB_may {m:TMs}(h:mayM m=true):byB m=tgB m:=if_pos h
theorem ofR_tgB {m:TMs}(h:mayM m=true) (hm:MsOK m):ofR m.og m.nr (tgB m) m.tg=(conM m,0):=by
 have e:(⟨m.og,m.nr,m.dp,con m.bd,m.tg⟩:TMs)=conM m:=rfl
 have hmc:mayM (conM m)=true:=h
 unfold ofR
 rw [guP_tgB h hm]
 simp only [e]
 rw [if_neg (by decide),if_neg (by exact fun h=>h rfl),if_neg (by rw [hmc];decide),if_pos (by rw [byB_con,byB_may h])]
theorem ofM_tgB {m:TMs}(h:mayM m=true) (hm:MsOK m):ofM m.og m.nr (tgB m) m.tg=(conM m,0):=by
 obtain⟨a,b⟩:=tag_eqs h hm
 obtain⟨hk,hmb,hq⟩:=bodyB_in (mayM_body h)
 rw [ofM_in a b hk rfl (getB_bdB (mayM_body h) hm.bd),vec_app hm.dp]
 simp only []
 rw [if_neg (by decide),if_neg (by decide),if_pos ?_]
 ·rfl
 ·show byB (conM m)=_
  rw [byB_con,byB_may h]
theorem ofR_in {i n:Int}{b:List Int}{t:D32}{m:TMs}(h:ofR i n b t=(m,0)):mayM m=true∧tgB m=b∧m.og=i∧m.nr=n∧m.tg=t:=by
 unfold ofR at h
 simp only [] at h
 split at h
 ·exact absurd (Prod.mk.inj h).2 (by decide)
 split at h
 ·exact absurd (Prod.mk.inj h).2 (by decide)
 split at h
 ·exact absurd (Prod.mk.inj h).2 (by decide)
 split at h
 ·rename_i f a d e
  obtain rfl:=(Prod.mk.inj h).1
  have hm:=(Bool.not_eq_false _).mp d
  exact⟨hm,by rw [← byB_may hm];exact e,by simpa using a,rfl,rfl⟩
 ·exact absurd (Prod.mk.inj h).2 (by decide)
theorem ofM_in0 {i n:Int}{b:List Int}{t:D32}{m:TMs}(h:ofM i n b t=(m,0)):mayM m=true∧tgB m=b∧m.og=i∧m.nr=n∧m.tg=t:=by
 cases b with
 | nil=>exact absurd (Prod.mk.inj ((show ofM i n [] t=(dMs,5) from by kernel_rfl).symm.trans h)).2 (by decide)
 | cons y b =>
  unfold ofM at h
  simp only [] at h
  split at h
  ·exact absurd (Prod.mk.inj h).2 (by decide)
  split at h
  ·exact absurd (Prod.mk.inj h).2 (by decide)
  split at h
  ·exact absurd (Prod.mk.inj h).2 (by decide)
  split at h
  ·exact absurd (Prod.mk.inj h).2 (by decide)
  split at h
  ·rename_i f d o q a
   obtain rfl:=(Prod.mk.inj h).1
   have hm:mayM ⟨_,n,_,_,t⟩=true:=Classical.byContradiction fun e=>by
    rw [show byB _=[] from if_neg e] at a
    cases a
   exact⟨hm,by rw [← byB_may hm];exact a,by simpa using d,rfl,rfl⟩
  ·exact absurd (Prod.mk.inj h).2 (by decide)
theorem ofR_two (i n:Int) (b:List Int) (t:D32):(ofR i n b t).2=0∨ofR i n b t=(dMs,5):=by
 unfold ofR
 simp only []
 repeat' split
 all_goals first|exact .inl rfl|exact .inr rfl
theorem ofM_two (i n:Int) (b:List Int) (t:D32):(ofM i n b t).2=0∨ofM i n b t=(dMs,5):=by
 unfold ofM
 simp only []
 repeat' split
 all_goals first|exact .inl rfl|exact .inr rfl
theorem tk_bb {n:Nat}{s:CS}(h:Byt s.1):Byt (tk n s).2.1:=by
 unfold tk
 split
 ·exact h
 ·exact fun z hz=>h z (List.mem_of_mem_drop hz)
theorem tx_bb {most:Int}{s:CS}(h:Byt s.1):Byt (textP most s).2.1:=by
 unfold textP
 simp only []
 split
 ·exact h
 ·exact tk_bb (s:=(_,_)) (tk_bb h)
theorem stW_bb {s:CS}(h:Byt s.1):∀ k,Byt (stW s k).1
 | 0=>h
 | k+1=>tk_bb (stW_bb h k)
theorem rqP_ok {s:CS}(h:Byt s.1):RqOK (rqP s).1:=by
 have b:Byt (byteP s).2.1:=tk_bb h
 have d:Byt (byteP (byteP s).2).2.1:=tk_bb b
 have r1:=byteP_rng (s:=s) rfl
 have r2:=byteP_rng (s:=(byteP s).2) rfl
 have r3:=wordP_rng (s:=(byteP (byteP s).2).2) rfl
 have a:=wordP_rng (s:=(wordP (byteP (byteP s).2).2).2) rfl
 exact⟨⟨Int.le_trans (by decide) r1.1,Int.le_trans (Int.le_of_lt r1.2) (by decide)⟩,⟨r3.1,Int.le_of_lt_add_one r3.2⟩,⟨r2.1,Int.le_of_lt_add_one r2.2⟩,⟨a.1,Int.le_of_lt_add_one a.2⟩,vecL_byt (tk_byt (tx_bb (tx_bb (tx_bb (tx_bb (tk_bb (tk_bb d)))))))⟩
theorem prsP_ok:∀ (n:Nat) (s:CS) (q:List TPr),(∀ p∈q,(-9223372036854775808≤p.rp∧p.rp≤9223372036854775807)∧(0≤p.nm∧p.nm≤18446744073709551615))→(∀ p∈(prsP n s q).1,(-9223372036854775808≤p.rp∧p.rp≤9223372036854775807)∧(0≤p.nm∧p.nm≤18446744073709551615))∧(prsP n s q).1.length≤q.length+n
 | 0,_,_,h=>⟨h,Nat.le_refl _⟩
 | n+1,s,q,h=>by
  unfold prsP
  split
  ·exact⟨h,Nat.le_add_right _ _⟩
  ·have r1:=byteP_rng (s:=s) rfl
   have r2:=wordP_rng (s:=(byteP s).2) rfl
   obtain⟨k1,k2⟩:=prsP_ok n (wordP (byteP s).2).2 (q++[⟨(byteP s).1,(wordP (byteP s).2).1⟩]) fun p hp=>(List.mem_append.1 hp).elim (h p) fun h9=>by
    rw [List.mem_singleton.1 h9]
    exact⟨⟨Int.le_trans (by decide) r1.1,Int.le_trans (Int.le_of_lt r1.2) (by decide)⟩,⟨r2.1,Int.le_of_lt_add_one r2.2⟩⟩
   exact⟨k1,by rw [lA,List.length_singleton] at k2;omega⟩
theorem getB_ok {kd:Int}{s:CS}(hk:0≤kd∧kd≤255) (h:Byt s.1):BdOK (getB kd s).1:=by
 have r1:=wordP_rng (s:=s) rfl
 have r2:=wordP_rng (s:=(wordP s).2) rfl
 have b:Byt (wordP s).2.1:=tk_bb h
 have a:(0:Int)≤0∧(0:Int)≤18446744073709551615:=by decide
 unfold getB
 split
 ·exact⟨(show(0:Int)≤1∧(1:Int)≤255 by decide),⟨r1.1,Int.le_of_lt_add_one r1.2⟩,a,rqP_ok b,(fun p hp=>by cases hp),dD32_ok,Nat.zero_le _⟩
 split
 ·exact⟨(show(0:Int)≤2∧(2:Int)≤255 by decide),⟨r1.1,Int.le_of_lt_add_one r1.2⟩,⟨r2.1,Int.le_of_lt_add_one r2.2⟩,dRq_ok,(fun p hp=>by cases hp),dD32_ok,Nat.zero_le _⟩
 split
 ·have r3:0≤(byteP (wordP s).2).1∧(byteP (wordP s).2).1<256:=byteP_rng rfl
  obtain⟨d,e⟩:=prsP_ok (byteP (wordP s).2).1.toNat (byteP (wordP s).2).2 [] fun p hp=>by cases hp
  exact⟨(show(0:Int)≤4∧(4:Int)≤255 by decide),⟨r1.1,Int.le_of_lt_add_one r1.2⟩,a,dRq_ok,d,dD32_ok,Nat.le_trans e (by show 0+(byteP (wordP s).2).1.toNat≤_;omega)⟩
 split
 ·exact⟨(show(0:Int)≤6∧(6:Int)≤255 by decide),a,⟨r1.1,Int.le_of_lt_add_one r1.2⟩,dRq_ok,(fun p hp=>by cases hp),vecL_byt (tk_byt b),Nat.zero_le _⟩
 ·exact⟨hk,⟨r1.1,Int.le_of_lt_add_one r1.2⟩,a,dRq_ok,(fun p hp=>by cases hp),dD32_ok,Nat.zero_le _⟩
theorem ofM_ok {i n:Int}{b:List Int}{t:D32}(hb:Byt b) (hn:0≤n∧n≤18446744073709551615) (ht:∀ z∈t.toList,0≤z∧z<256):MsOK (ofM i n b t).1:=by
 have a:Byt (byteP (b,false)).2.1:=tk_bb (s:=(b,false)) hb
 have r1:=byteP_rng (s:=(b,false)) rfl
 have r2:=byteP_rng (s:=stW (byteP (b,false)).2 11) rfl
 unfold ofM
 simp only []
 repeat' split
 all_goals first|exact dMs_ok|exact⟨⟨Int.le_trans (by decide) r1.1,Int.le_trans (Int.le_of_lt r1.2) (by decide)⟩,hn,vecF_all _ 0 (fun k hk=>by have:=wordP_rng (s:=stW (byteP (b,false)).2 k) rfl;exact⟨this.1,Int.le_of_lt_add_one this.2⟩),getB_ok ⟨r2.1,Int.le_of_lt_add_one r2.2⟩ (tk_bb (stW_bb a 11)),ht⟩
theorem conM_ok {m:TMs}(h:MsOK m):MsOK (conM m):=⟨h.og,h.nr,h.dp,⟨h.bd.kd,h.bd.vw,h.bd.k,h.bd.rq,h.bd.ql,h.bd.dg,h.bd.qn⟩,h.tg⟩
theorem ofR_eq {i n:Int}{b:List Int}{t:D32}(hR:MsOK (ofR i n b t).1) (hM:MsOK (ofM i n b t).1):ofR i n b t=ofM i n b t:=by
 rcases ofR_two i n b t with w|w
 ·obtain⟨a,d,e,f,o⟩:=ofR_in (show ofR i n b t=((ofR i n b t).1,0) by rw [← w])
  have q:=ofM_tgB a hR
  rw [d,e,f,o] at q
  have u:=ofR_tgB a hR
  rw [d,e,f,o] at u
  exact u.trans q.symm
 rcases ofM_two i n b t with x|x
 ·obtain⟨a,d,e,f,o⟩:=ofM_in0 (show ofM i n b t=((ofM i n b t).1,0) by rw [← x])
  have q:=ofM_tgB a hM
  rw [d,e,f,o] at q
  have u:=ofR_tgB a hM
  rw [d,e,f,o] at u
  exact u.trans q.symm
 ·rw [w,x]
section
variable {w0 w : World} {L : List Asn} {ad : Option Addr} {cb : Nat}
theorem ofR_eval {i n:Int}{b:List Int}{t:D32}{m7 m:TMs}{bb:Bool}(h:guP b=(conM m7,bb)) (hm:m=⟨m7.og,n,m7.dp,m7.bd,t⟩):ofR i n b t=if bb=false then (dMs,5) else if m.og≠i then (dMs,5) else if mayM m=false then (dMs,5) else if byB m=b then (conM m,0) else (dMs,5):=by
 subst hm
 unfold ofR
 rw [h]
 rfl
theorem rof_spec (i) (n) (Q) (b) (t) (hQ:∀ w,St w0 L w→Q.holds w) (hq:CutOK Q ad b cb) (hn:0≤n∧n≤18446744073709551615) (ht:∀ z∈t.toList,0≤z∧z<256) (hs:St w0 (L) w):Cs Tryz.prog 106 #[.int .i64 i,.int .u64 n,.slice ad b.length cb,.agg (D32.cells t)] w fun rv w'=>∃ mm2 ee2,rv=.tuple #[.agg (TMs.cells mm2),.int .i64 ee2]∧ofM i n b t=(conM mm2,ee2)∧MsOK mm2∧St w0 ((Sl mm2.bd.qa mm2.bd.qc 143 2 TPr.cells mm2.bd.ql)::L) w':=by
 refine Zen Tryz.func106 Tryz.ntmps106 (En (Ls (Lg [0,1] (Dz (Zbg (D32.cells t) hs fun b1 w2 b5=>Lo (Dz (Zag (TMs.cells dMs) b5 fun b4 w5 b6=>Lz (Ls (Lg [1,5,6] (Lw (Zc (guess_spec Q b (fun w h=>hQ w (h.drop 2)) hq b6) ?_)))))))))))
 rintro e2 e3 ⟨a,a3,rfl,x,a4,b7⟩
 refine Lo (Lw (Zag (TMs.cells dMs) b7 fun a6 e4 b8=>Lo (Dz (Zu 0 0 (TMs.cells a) b8 fun e5 b9=>Lz (Ls (Lg [2] (Lw (Zu 0 1 (TMs.cells (⟨a.og,n,a.dp,a.bd,a.tg⟩:TMs)) b9 fun e6 a7=>Lo (Ld (Lt (Ls (Dz (Zgj [2] (Hla 0 3 0 32 (D32.cells t) a7 Hz) (Zu 0 89 (TMs.cells (⟨a.og,n,a.dp,a.bd,t⟩:TMs)) a7 fun c0 c1=>Lo (Ld (Lt (Ls (Ls (Dz ?_)))))))))))))))))))
 obtain⟨mm,hmm⟩:∃ m:TMs,m=(⟨a.og,n,a.dp,a.bd,t⟩:TMs):=⟨_,rfl⟩
 have hmo:MsOK mm:=by rw [hmm];exact⟨a4.og,hn,a4.dp,a4.bd,ht⟩
 have c2:St w0 ((Cel a6 (TMs.cells mm) 63)::(Sl mm.bd.qa mm.bd.qc 143 2 TPr.cells mm.bd.ql)::(Cel b4 (TMs.cells dMs) 63)::(Cel b1 (D32.cells t) 32)::L) c0:=(by rw [hmm];exact c1)
 refine ZD (rds [0,1,2,3,4,5,6,7,8,9] (.ef 10 (rds [11,12,13,14,17,18] (.ef 15 (rds [16,19,20] .done))))) c2 fun e7 a0 e8=>Zr 0 3 [] ?_
 rcases Bool.eq_false_or_eq_true (!a3) with d|d
 ·refine Zqs 23 true d (En (Lw (Zsk (En (Lw (Zsk (En (Lud (Lt (LT (Ls (Lg [1] (Lw (Zu 2 0 (TMs.cells dMs) a0 fun e9 a8=>Lz (Le (Ly (Dz (Zrv 2 (.int .i64 5) a8 ?_))))))))))))))))))
  have hr:ofR i n b t=(conM dMs,5):=by
   rw [ofR_eval x hmm,if_pos (by simpa using d)]
   rfl
  have heq:=ofR_eq (i:=i) (n:=n) (b:=b) (t:=t) (by rw [hr];exact conM_ok dMs_ok) (ofM_ok hq.byt hn ht)
  have c4:=St.slNil a8 143 2 TPr.cells
  have c5:=(((((c4.pl 0).pl 4).pl 4).pl 4).pl 4)
  exact⟨dMs,5,rfl,(heq.symm.trans hr),dMs_ok,(c5.dr 4)⟩
 ·refine Zqs 23 false d (Zpj 3 6 (Hl 4 0 0 a0 Hz) (Zsq 29 ((mm.og:Int) != i) (fun o=>?_) (fun o=>?_)))
  ·refine En (Lw (Zsk (En (Lw (Zsk (En (Lud (Lt (LT (Ls (Lg [1] (Lw (Zu 2 0 (TMs.cells dMs) a0 fun f0 a9=>Lz (Le (Ly (Dz (Zrv 2 (.int .i64 5) a9 ?_)))))))))))))))))
   have hr:ofR i n b t=(conM dMs,5):=by
    rw [ofR_eval x hmm,if_neg (by simpa using d),if_pos (show mm.og≠i from by simpa using o)]
    rfl
   have heq:=ofR_eq (i:=i) (n:=n) (b:=b) (t:=t) (by rw [hr];exact conM_ok dMs_ok) (ofM_ok hq.byt hn ht)
   have c8:=St.slNil a9 143 2 TPr.cells
   have c9:=(((((c8.pl 0).pl 4).pl 4).pl 4).pl 4)
   exact⟨dMs,5,rfl,(heq.symm.trans hr),dMs_ok,(c9.dr 4)⟩
  ·refine Zj (Hla 9 0 0 121 (TMs.cells mm) a0 Hz) (Zc1 (rmay_spec mm hmo (fun w h=>h.rows 1 rfl (dPrF).size _) a0) fun f2 a2=>Lo (Dz (Zr 11 3 [] (Zsq 34 (!(mayM mm)) (fun q=>?_) (fun q=>?_)))))
   ·refine En (Lw (Zsk (En (Lud (Lt (LT (Ls (Lg [1] (Lw (Zu 2 0 (TMs.cells dMs) a2 fun f3 b0=>Lz (Le (Ly (Dz (Zrv 2 (.int .i64 5) b0 ?_))))))))))))))
    have hr:ofR i n b t=(conM dMs,5):=by
     rw [ofR_eval x hmm,if_neg (by simpa using d),if_neg (show ¬ mm.og≠i from by simpa using o),if_pos (show mayM mm=false from by simpa using q)]
     rfl
    have heq:=ofR_eq (i:=i) (n:=n) (b:=b) (t:=t) (by rw [hr];exact conM_ok dMs_ok) (ofM_ok hq.byt hn ht)
    have d2:=St.slNil b0 143 2 TPr.cells
    have d3:=(((((d2.pl 0).pl 4).pl 4).pl 4).pl 4)
    exact⟨dMs,5,rfl,(heq.symm.trans hr),dMs_ok,(d3.dr 4)⟩
   ·refine Zh [(14,.agg (TMs.cells mm)),(17,.gen [])] [(14,[.prop (Array.size (TMs.cells mm)=121),.cells ⟨a6,0,none⟩ (TMs.cells mm)])] (ak (okp (by kernel_rfl) (oka (a2.cells 0 0 rfl (by kernel_rfl)) ok0)) ak0) (GoR.bytesStrG rfl (by kernel_rfl) (src:=22) (dst:=9) (e:=5) (ad:=ad) (n:=b.length) (cap:=cb) (f:=byteC) rfl b rfl (by kernel_rfl) (by kernel_rfl) (by kernel_rfl) (by kernel_rfl) hq.byt (hq.row _ (hQ _ (a2.drop 4))) ?_)
    refine Zc (rbytes_spec mm hmo (fun w h=>h.rows 1 rfl (dPrF).size _) a2) ?_
    rintro f4 f5 ⟨d5,d6,rfl,a1⟩
    refine⟨(opl (n:=[.holds (fun w=>RowsAt w ad b.length 1 (fun k=>byteC (b.getD k 0)))]) (by kernel_rfl) (okh (hq.row _ (hQ _ (a1.drop 5))) ok0)),(GoR.bytesStrG rfl (by kernel_rfl) (src:=22) (dst:=9) (e:=5) (ad:=d5) (n:=((byB mm).length)) (cap:=d6) (f:=byteC) rfl (byB mm) rfl (by kernel_rfl) (by kernel_rfl) (by kernel_rfl) (by kernel_rfl) (byB_byt hmo) (a1.rows 0 rfl (byteF).size (0:Int)) (Zjd (Hg 19 (.as_ (.bool (!(decide ((strOf (byB mm))=(strOf b))))) (.gen [])) [.prop (Value.bool (!((strOf (byB mm)).toList == (strOf b).toList))=Value.bool (!(decide ((strOf (byB mm))=(strOf b)))))] (okp (sne _ _) ok0) Hz) (Zt (Zqc (t:=!(decide ((strOf (byB mm))=(strOf b)))) (fun u=>?_) (fun u=>?_)))))⟩
    ·have a5:=notT u
     refine En (Ls (Lg [1] (Lw (Zu 3 0 (TMs.cells dMs) a1 fun f6 b2=>Lz (Le (Ly (Dz (Zrv 3 (.int .i64 5) b2 ?_))))))))
     have hr:ofR i n b t=(conM dMs,5):=by
      rw [ofR_eval x hmm,if_neg (by simpa using d),if_neg (show ¬ mm.og≠i from by simpa using o),if_neg (show ¬ mayM mm=false from by simpa using q),if_neg (show ¬ byB mm=b from fun e=>by rw [e] at u;simp at u)]
      rfl
     have heq:=ofR_eq (i:=i) (n:=n) (b:=b) (t:=t) (by rw [hr];exact conM_ok dMs_ok) (ofM_ok hq.byt hn ht)
     have d7:=St.slNil b2 143 2 TPr.cells
     have d8:=((((((d7.pl 0).pl 5).pl 5).pl 5).pl 5).pl 5)
     exact⟨dMs,5,rfl,(heq.symm.trans hr),dMs_ok,(d8.dr 5)⟩
    ·have a5:=notF u
     refine Zk (Zt (Zs (Zgj [1] (Hla 0 1 0 121 (TMs.cells mm) a1 Hz) (Zu 3 0 (TMs.cells mm) a1 fun f7 b3=>Lz (Le (Dz (Zrv 3 (.int .i64 0) b3 ?_)))))))
     have hr:ofR i n b t=(conM mm,0):=by
      rw [ofR_eval x hmm,if_neg (by simpa using d),if_neg (show ¬ mm.og≠i from by simpa using o),if_neg (show ¬ mayM mm=false from by simpa using q),if_pos (show byB mm=b from strOf_inj (byB_byt hmo) hq.byt (by simpa using u))]
     have heq:=ofR_eq (i:=i) (n:=n) (b:=b) (t:=t) (by rw [hr];exact conM_ok hmo) (ofM_ok hq.byt hn ht)
     have e0:=(((((b3.pl 2).pl 4).pl 4).pl 4).pl 4)
     exact⟨mm,0,rfl,(heq.symm.trans hr),hmo,(e0.dr 4)⟩
theorem rget_spec (Q) (b) (hQ:∀ w,St w0 L w→Q.holds w) (hq:CutOK Q ad b cb) (hs:St w0 (L) w):Cs Tryz.prog 71 #[.slice ad b.length cb] w fun rv w'=>∃ mm2 ee2,rv=.tuple #[.agg (TMs.cells mm2),.int .i64 ee2]∧getM b=(conM mm2,ee2)∧MsOK mm2∧St w0 ((Sl mm2.bd.qa mm2.bd.qc 143 2 TPr.cells mm2.bd.ql)::L) w':=by
 refine Zen Tryz.func71 Tryz.ntmps71 (Zs ?_)
 have hbl:=hq.len
 refine Zg [0] (Zag (TMs.cells dMs) hs fun b1 w2 o=>Lz (Ls (Lq (Dz (Zi ((b.length:Int)<41) (fun a5=>?_) (fun a5=>?_))))))
 ·have hlen:b.length≤40:=by omega
  refine En (Ls (Lg [1] (Lw (Zu 0 0 (TMs.cells dMs) o fun w5 q=>Lz (Le (Ly (Dz (Zrv 0 (.int .i64 5) q ?_))))))))
  have a6:=St.slNil q 143 2 TPr.cells
  have a7:=((a6.pl 0).pl 1)
  exact⟨dMs,5,rfl,(if_pos hlen),dMs_ok,(a7.dr 1)⟩
 ·have hlen:40<b.length:=by omega
  refine En (Lk (Lt (Ls (Lg [2] (Lw (Zbg #[.slice ad b.length cb,.bool false] o fun d0 d1 a9=>Lz (Ls (Lg [1] (Lw (Zc (rWord_spec Q b false (fun w h=>hQ w (h.drop 1)) hq a9) ?_))))))))))
  rintro d2 d3 ⟨b0,b2,b3,d4,d5,rfl,f,d6,b4,b5⟩
  refine Lz (Ls (Dz (Zgj [4] (Hg 3 (.as_ (.int .i64 (b.length-40:Nat)) (.gen [])) [.prop (Value.int .i64 (IntKind.i64.wrap ((b.length:Nat)-40))=Value.int .i64 (b.length-40:Nat))] (okp (i64eq (by omega) (by omega) (by omega)) ok0) Hz) (Zc (rRaw_spec Q b2 b3 (b.length-40) (fun w h=>hQ w (h.drop 1)) b4 b5) ?_))))
  rintro d7 d8 ⟨d9,b6,a,b7,b8,e0,e1,rfl,u,b9,i⟩
  refine Lz (Ls (Dz ?_))
  have hown:=own_len hlen f u
  have x:∀ z∈a,0≤z∧z<256:=by rw [hown.2];exact fun z hz=>hq.byt z (List.mem_of_mem_drop (List.mem_of_mem_take hz))
  have e2:=x _ (getD_mem (d:=(0:Int)) (k:=0) (by omega))
  obtain⟨e,rfl⟩:=Sl.isSome (i.at_ 0 rfl) (by omega)
  refine ZD (rds [0,1,2,3,4,5,6] (.ef 7 (.ef 8 (rds [9,10] (.ef 11 (.rd 12 .done)))))) i fun e3 a0 e4=>Zj (Hx 1 (0:Int) (a.length:Int) e 0 1 (Hg 2 (.gen [.int .u8 (a.getD 0 (0:Int))]) [.cell ⟨e,0,none⟩ (.int .u8 (a.getD 0 (0:Int)))] (okc (RowsAt.at0 (a0.rows 0 rfl (byteF).size (0:Int)) (k:=0) (by first|omega|(simp only [List.length_set];omega)|(simp only [List.length_set,lA,lC,lN];omega)) (j:=0) (by decide) (by kernel_rfl)) ok0) (Hwi 3 (a.getD 0 (0:Int)) Hz))) (Zc (rhash_spec Q b7 b8 (fun w h=>hQ w (h.drop 2)) b9 (a0.pl 1)) ?_)
  rintro e5 e6 ⟨c2,e7,e8,e9,f0,rfl,c3,c4,f1,a1⟩
  refine⟨(opl (n:=[.prop (Value.int .i64 (IntKind.i64.wrap (a.getD 0 (0:Int)))=Value.int .i64 (a.getD 0 (0:Int))),.cell ⟨e,0,none⟩ (.int .u8 (a.getD 0 (0:Int))),.prop (0≤(0:Int)∧(0:Int)<(a.length:Int)),.prop (Value.pointer (some (Addr.add ⟨e,0,none⟩ (Int.toNat 0*1)))=Value.pointer (some ⟨e,0,none⟩))]) (by kernel_rfl) (okp (i64ok (by omega) (by omega)) (okc (RowsAt.at0 (a1.rows 1 rfl (byteF).size (0:Int)) (k:=0) (by first|omega|(simp only [List.length_set];omega)|(simp only [List.length_set,lA,lC,lN];omega)) (j:=0) (by decide) (by kernel_rfl)) (okp (by omega) (okp (ptrAdd _ _ _) ok0))))),(Zc (rof_spec (a.getD 0 (0:Int)) b0 (Sl (some ⟨e,0,none⟩) b6 5 1 byteC a) a c2 (fun w h=>h.at_ 1 rfl) (CutOK.new i (j:=0) rfl x (by have:=hq.len;omega)) (by have:=wordP_rng f;omega) c4 a1) ?_)⟩
  rintro f2 f3 ⟨a2,a3,rfl,c5,c6,c7⟩
  refine Lo (Lw (Zu 3 0 (TMs.cells a2) c7 fun f4 a4=>Lz (Le (Dz (Zrv 3 (.int .i64 a3) a4 ?_)))))
  have c8:=((((a4.pl 0).pl 3).pl 3).pl 3)
  exact⟨a2,a3,rfl,((getM_eq (by omega) f u c3).trans c5),c6,(c8.dr 3)⟩
end
section
variable {w0 w : World} {L : List Asn}
def same8M (m:TMs) (n:TMs):Bool :=
 if ((m.og:Int) == n.og)=true then
  if ((m.nr:Int) == n.nr)=true then
   if (decide (m.dp=n.dp))=true then
    if (same8B m.bd n.bd)=true then
     decide (m.tg=n.tg)
    else
     false
   else
    false
  else
   false
 else
  false
theorem same8_spec (m) (n) (hqn:m.bd.ql.length≤9223372036854775807) (hr1:Rw w0 L TPr.cells 2 dPr m.bd.qa m.bd.ql) (hr2:Rw w0 L TPr.cells 2 dPr n.bd.qa n.bd.ql) (hs:St w0 (L) w):Cs Tryz.prog 34 #[.agg (TMs.cells m),.agg (TMs.cells n)] w fun rv w'=>rv=.bool (same8M m n)∧St w0 (L) w':=by
 refine Zen Tryz.func34 Tryz.ntmps34 (En (Ls (Lg [0,1] (Dz (Zbg (TMs.cells m) hs fun q w2 a3=>Lo (Dz (Zbg (TMs.cells n) a3 fun u w5 a=>Lz (Ls (Lg [24] (Dz (Zpj 0 6 (Hl 1 1 0 a (Hl 3 0 0 a Hz)) (Zsq 10 ((m.og:Int) == n.og) (fun d=>?_) (fun d=>?_)))))))))))))
 ·refine Zpj 6 7 (Hl 7 1 1 a (Hl 9 0 1 a Hz)) (Zsq 17 ((m.nr:Int) == n.nr) (fun e=>?_) (fun e=>?_))
  ·refine Zp 13 4 [(14,.agg (VecD.cells m.dp)),(16,.agg (VecD.cells n.dp))] [(14,[.prop (Array.size (VecD.cells m.dp)=11),.cells ⟨q,2,none⟩ (VecD.cells m.dp)]),(16,[.prop (Array.size (VecD.cells n.dp)=11),.cells ⟨u,2,none⟩ (VecD.cells n.dp)])] (ak (okp (by kernel_rfl) (oka (a.cells 1 2 rfl (by kernel_rfl)) ok0)) (ak (okp (by kernel_rfl) (oka (a.cells 0 2 rfl (by kernel_rfl)) ok0)) ak0)) (GoR.eqAgg rfl (by kernel_rfl) (b:=true) (t:=39) (xs:=VecD.cells m.dp) (ys:=VecD.cells n.dp) (m:=2) (by kernel_rfl) (by kernel_rfl) (by decide) (by kernel_rfl) (r:=decide (m.dp=n.dp)) (aggEq  (vecEq m.dp n.dp)) (Zr 18 2 [] (Zsq 24 (decide (m.dp=n.dp)) (fun f=>?_) (fun f=>?_))))
   ·refine Zj (Hla 21 1 13 76 (TBd.cells m.bd) a (Hla 23 0 13 76 (TBd.cells n.bd) a Hz)) (Zc1 (sameBody8_spec m.bd n.bd (by first|assumption|omega) (fun w h=>hr1 _ (h.drop 2)) (fun w h=>hr2 _ (h.drop 2)) a) fun a8 i=>Lo (Dz (Zr 25 2 [] (Zsq 31 (same8B m.bd n.bd) (fun o=>?_) (fun o=>?_)))))
    ·exact Zp 27 4 [(28,.agg (D32.cells m.tg)),(30,.agg (D32.cells n.tg))] [(28,[.prop (Array.size (D32.cells m.tg)=32),.cells ⟨q,89,none⟩ (D32.cells m.tg)]),(30,[.prop (Array.size (D32.cells n.tg)=32),.cells ⟨u,89,none⟩ (D32.cells n.tg)])] (ak (okp (by kernel_rfl) (oka (i.cells 1 89 rfl (by kernel_rfl)) ok0)) (ak (okp (by kernel_rfl) (oka (i.cells 0 89 rfl (by kernel_rfl)) ok0)) ak0)) (GoR.eqAgg rfl (by kernel_rfl) (b:=true) (t:=32) (xs:=D32.cells m.tg) (ys:=D32.cells n.tg) (m:=2) (by kernel_rfl) (by kernel_rfl) (by decide) (by kernel_rfl) (r:=decide (m.tg=n.tg)) (aggEq  (digEq m.tg n.tg)) (En (Lud (Lt (Le (Dz (Zq1 (v:=.bool (decide (m.tg=n.tg))) (Zfb (by rw [same8M,if_pos d,if_pos e,if_pos f,if_pos o]) (i.dr 2)))))))))
    ·exact En (Lud (Lt (Le (Dz (Zq1 (v:=.bool false) (Zfb (by rw [same8M,if_pos d,if_pos e,if_pos f,nI o]) (i.dr 2)))))))
   ·exact En (Lw (Zsk (En (Lud (Lt (Le (Dz (Zq1 (v:=.bool false) (Zfb (by rw [same8M,if_pos d,if_pos e,nI f]) (a.dr 2))))))))))
  ·exact En (Lw (Zsk (En (Lud (Lt (Le (Dz (Zq1 (v:=.bool false) (Zfb (by rw [same8M,if_pos d,nI e]) (a.dr 2))))))))))
 ·exact En (Lw (Zsk (En (Lud (Lt (Le (Dz (Zq1 (v:=.bool false) (Zfb (by rw [same8M,nI d]) (a.dr 2))))))))))
def same3B (x:TBd) (y:TBd):Bool :=
 same8M (⟨0,0,dVc,x,dD32⟩:TMs) (⟨0,0,dVc,y,dD32⟩:TMs)
theorem sameBody3_spec (x) (y) (hqn:x.ql.length≤9223372036854775807) (hr1:Rw w0 L TPr.cells 2 dPr x.qa x.ql) (hr2:Rw w0 L TPr.cells 2 dPr y.qa y.ql) (hs:St w0 (L) w):Cs Tryz.prog 20 #[.agg (TBd.cells x),.agg (TBd.cells y)] w fun rv w'=>rv=.bool (same3B x y)∧St w0 (L) w':=by
 exact Zen Tryz.func20 Tryz.ntmps20 (En (Ls (Lg [0,1] (Dz (Zbg (TBd.cells x) hs fun f i d=>Lo (Dz (Zbg (TBd.cells y) d fun o q a=>Lz (Ls (Dz (Zgj [4] (Hla 0 1 0 76 (TBd.cells x) a (Hla 2 0 0 76 (TBd.cells y) a Hz)) (Zc1 (same8_spec (⟨0,0,dVc,x,dD32⟩:TMs) (⟨0,0,dVc,y,dD32⟩:TMs) (by first|assumption|omega) (fun w h=>hr1 _ (h.drop 2)) (fun w h=>hr2 _ (h.drop 2)) a) fun z e=>Lz (Le (Dz (Zq1 (v:=.bool (same8M (⟨0,0,dVc,x,dD32⟩:TMs) (⟨0,0,dVc,y,dD32⟩:TMs))) (Zfb (by rw [same3B]) (e.dr 2))))))))))))))))
theorem rcarrier_spec (x) (hs:St w0 (L) w):Cs Tryz.prog 19 #[.agg (TBd.cells x)] w fun rv w'=>rv=.agg (TMs.cells (⟨1,1,dVc,x,dD32⟩:TMs))∧St w0 (L) w':=by
 exact Zen Tryz.func19 Tryz.ntmps19 (En (Ls (Lg [0,1] (Dz (Zbg (TBd.cells x) hs fun f i d=>Lo (Dz (Zag (TMs.cells dMs) d fun o q a=>Lo (Ld (Lt (Ls (Dz (Zgj [2] (Hla 0 1 0 76 (TBd.cells x) a Hz) (Zu 0 0 (TMs.cells (⟨1,1,dVc,x,dD32⟩:TMs)) a fun u b=>Lo (Ld (Lt (Le (Dz (Zra 0 b ⟨rfl,(b.dr 2)⟩))))))))))))))))))
def emptyR (p:TPk):Bool :=
 if ((p.fr:Int) == 0)=true then
  if ((p.tw:Int) == 0)=true then
   if (decide (p.kn=dVc))=true then
    (p.ml.length:Int) == 0
   else
    false
  else
   false
 else
  false
theorem rempty_spec (p) (hs:St w0 (L) w):Cs Tryz.prog 21 #[.agg (TPk.cells p)] w fun rv w'=>rv=.bool (emptyR p)∧St w0 (L) w':=by
 refine Zen Tryz.func21 Tryz.ntmps21 (En (Ls (Lg [0] (Dz (Zbg (TPk.cells p) hs fun x w2 a=>Lz (Ls (Lg [] (Dz (Zpj 0 4 (Hl 1 0 0 a Hz) (Zsq 6 ((p.fr:Int) == 0) (fun d=>?_) (fun d=>?_)))))))))))
 ·refine Zpj 4 5 (Hl 5 0 1 a Hz) (Zsq 11 ((p.tw:Int) == 0) (fun e=>?_) (fun e=>?_))
  ·refine Zp 9 3 [(10,.agg (VecD.cells p.kn))] [(10,[.prop (Array.size (VecD.cells p.kn)=11),.cells ⟨x,2,none⟩ (VecD.cells p.kn)])] (ak (okp (by kernel_rfl) (oka (a.cells 0 2 rfl (by kernel_rfl)) ok0)) ak0) (GoR.eqAgg rfl (by kernel_rfl) (b:=true) (t:=39) (xs:=VecD.cells p.kn) (ys:=VecD.cells dVc) (m:=2) (by kernel_rfl) (by kernel_rfl) (by decide) (by kernel_rfl) (r:=decide (p.kn=dVc)) (aggEq  (vecEq p.kn dVc)) (Zr 13 2 [] (Zsq 17 (decide (p.kn=dVc)) (fun f=>?_) (fun f=>?_))))
   ·exact Zjd (Hl 16 0 13 a Hz) (Zt (Ze (Zq1 (v:=.bool ((p.ml.length:Int) == 0)) (Zfb (by rw [emptyR,if_pos d,if_pos e,if_pos f]) (a.dr 1)))))
   ·exact En (Lud (Lt (Le (Dz (Zq1 (v:=.bool false) (Zfb (by rw [emptyR,if_pos d,if_pos e,nI f]) (a.dr 1)))))))
  ·exact En (Lud (Lt (Le (Dz (Zq1 (v:=.bool false) (Zfb (by rw [emptyR,if_pos d,nI e]) (a.dr 1)))))))
 ·exact En (Lud (Lt (Le (Dz (Zq1 (v:=.bool false) (Zfb (by rw [emptyR,nI d]) (a.dr 1)))))))
theorem same8M_of {m n:TMs}(h:conM m=conM n):same8M m n=true:=by
 unfold conM at h
 simp only [TMs.mk.injEq] at h
 obtain⟨a,b,d,e,f⟩:=h
 unfold same8M
 simp [a,b,d,same8B_of e,f]
theorem same3B_of {x y:TBd}(h:con x=con y):same3B x y=true:=by
 unfold same3B
 exact same8M_of (by unfold conM;simp only [h])
theorem same3B_in {x:TBd}(h:same3B x dBd=true):noneB x=true:=by
 unfold same3B same8M at h
 obtain⟨u,h⟩:=peel2 h
 obtain⟨w,h⟩:=peel2 h
 obtain⟨z,h⟩:=peel2 h
 obtain⟨a,h⟩:=peel2 h
 have b:same8B x dBd=true:=a
 obtain⟨d,e,f,i,o,q⟩:x.kd=0∧x.vw=0∧x.k=0∧x.rq=dRq∧x.ql=[]∧x.dg=dD32:=con_inj (same8B_in b)
 unfold noneB
 simp [d,e,f,i,o,q]
theorem mayS_no {s:TSt}(h:MayS s→False):mayS s=false:=by
 cases a:mayS s with
 | false=>rfl
 | true=>exact(h (mayS_in a)).elim
theorem withinB_of {n a b:Int}(h:a≤n∧n≤b):withinB n a b=true:=by
 unfold withinB
 rw [Bool.and_eq_true]
 exact⟨decide_eq_true h.1,decide_eq_true h.2⟩
theorem packedB_of {p:TPk}(h:MayP p):packedB p=true:=by
 have d:=h.ml
 unfold packedB
 rw [if_pos (withinB_of h.fr),if_pos (withinB_of h.tw),if_pos (decide_eq_true (by omega)),Bool.not_eq_true',Bool.eq_false_iff]
 intro b
 obtain⟨m,hm,a⟩:=List.any_eq_true.1 b
 rw [h.ms m hm] at a
 cases a
theorem mayS_of {s:TSt}(h:MayS s):mayS s=true:=by
 obtain⟨f,i,o,q,u,q6,q7,q8,q9,a1,a2,w,a3,x,z,a0⟩:=h
 unfold mayS
 rw [if_neg (by rw [withinB_of f];decide),if_neg (by rw [withinB_of i];decide),if_neg (by rw [withinB_of o];decide),if_neg (by rw [withinB_of q];decide),if_neg (by rw [decide_eq_true_eq];omega),if_neg (by rw [decide_eq_true_eq];omega),if_neg (by rw [decide_eq_true_eq];omega),if_neg (by rw [decide_eq_true_eq];omega),if_neg (by rw [decide_eq_true_eq];omega),if_neg (by rw [decide_eq_true_eq];omega),if_neg (by rw [decide_eq_true_eq];omega),if_neg (by rw [withinB_of u];decide),if_neg (by rw [withinB_of w];decide),if_neg (by rw [decide_eq_true_eq];omega)]
 by_cases d:s.dw=14
 ·obtain⟨a,b⟩:=x d
  rw [if_pos (by rw [d];rfl),if_pos a]
  exact b
 rw [if_neg (by simpa using d)]
 by_cases e:s.dw=16
 ·obtain⟨a,b⟩:=z e
  rw [if_pos (by rw [e];rfl),if_pos a]
  exact b
 ·obtain⟨a,b⟩:=a0 d e
  rw [if_neg (by simpa using e),if_pos a]
  exact b
theorem mayS_emp {s:TSt}(hd:s.dw≠16) (h:emptyB s.pk=true→MayS s):emptyR s.pk=mayS s :=
 Bool.eq_iff_iff.2 ⟨fun a=>mayS_of (h a),fun a=>by
  by_cases c:s.dw=14
  ·exact((mayS_in a).lie c).2
  ·exact((mayS_in a).els c hd).2⟩
theorem ml_step {l:List TMs}{k:Nat}(hk:k<l.length) (h:∀ m∈l.take k,mayM m=true) (hm:mayM (l.getD k dMs)=true):∀ m∈l.take (k+1),mayM m=true:=by
 rw [take_succ_getD (d:=dMs) hk]
 intro m hx
 rcases List.mem_append.1 hx with hx|hx
 ·exact h m hx
 ·rw [List.mem_singleton.1 hx];exact hm
theorem rmayS_spec (s) (hs_:StOK s) (hms:∀ k,k<s.pk.ml.length→MsOK (s.pk.ml.getD k dMs)∧Rw w0 L TPr.cells 2 dPr (s.pk.ml.getD k dMs).bd.qa (s.pk.ml.getD k dMs).bd.ql) (hr1:Rw w0 L TPr.cells 2 dPr s.bd.qa s.bd.ql) (hr2:Rw w0 L TMs.cells 121 dMs s.pk.ma s.pk.ml) (hr3:Rw w0 L byteC 1 0 s.pa s.pl) (hs:St w0 (L) w):Cs Tryz.prog 6 #[.agg (TSt.cells s)] w fun rv w'=>rv=.bool (mayS s)∧St w0 (L) w':=by
 refine Zen Tryz.func6 Tryz.ntmps6 (En (Ls (Lg [0] (Dz (Zbg (TSt.cells s) hs fun f w2 c5=>Lz (Ls (Dz (Zgj [8] (Hl 1 0 1 c5 (Hl 3 0 2 c5 (Hl 5 0 3 c5 (Hl 7 0 4 c5 Hz)))) (GoR.sliceLit rfl (by kernel_rfl) (t:=75) (e:=3) (n:=4) (ps:=[(0,.int .i64 s.cl),(1,.int .i64 s.wh),(2,.int .i64 s.j),(3,.int .i64 s.k)]) (by kernel_rfl) (by kernel_rfl) (ti:=Tryz.t3) (z:=.int .i64 0) (by kernel_rfl) (by kernel_rfl) (by decide) (by decide) (cs:=#[.int .i64 s.cl,.int .i64 s.wh,.int .i64 s.j,.int .i64 s.k]) (by kernel_rfl) c5 fun b w5 e0 m2=>Lz (Ls (Lq (Lb (Dz (GoC.unroll 6 (En (Ls (Lq (LT (Lk (Lt (Ls (Lb (Ls (Dz (GoC.join (T:=Unit) (E:=fun _=>[(35,.bool ((decide ((s.cl:Int)<(-1))) || (decide ((s.cl:Int)>2147483647)))),(29,.bool (decide ((s.cl:Int)<(-1)))),(28,.bool (decide ((s.cl:Int)<(-1)))),(27,.int .i64 s.cl),(26,zP b 0),(25,.int .i64 0),(24,zL b 0 4 4),(21,.bool true),(20,.int .i64 4),(19,zL b 0 4 4),(18,.int .i64 0),(4,.int .i64 0),(3,zL b 0 4 4),(2,.bool false),(1,zP f 0)]) (F:=fun _ w=>St w0 ((Cel b #[.int .i64 s.cl,.int .i64 s.wh,.int .i64 s.j,.int .i64 s.k] 3)::(Cel f (TSt.cells s) 47)::L) w) ?_ ?_)))))))))))))))))))))))))
 ·refine Zg [] (Zp 0 6 [(2,.as_ (zP b 0) .at_),(3,.gen [.int .i64 s.cl])] [(2,[.prop (0≤(0:Int)∧(0:Int)<(4:Int)),.prop (Value.pointer (some (Addr.add ⟨b,0,none⟩ (Int.toNat 0*1)))=Value.pointer (some ⟨b,0,none⟩))]),(3,[.cell ⟨b,0,none⟩ (.int .i64 s.cl)])] (ak (okp (by omega) (okp (ptrAdd _ _ _) ok0)) (ak (okc (e0.cell 0 rfl (by kernel_rfl)) ok0) ak0)) (Zsq 29 (decide ((s.cl:Int)<(-1))) (fun h8=>?_) (fun h8=>?_)))
  ·exact En (Lud (Dz (GoQ.pick [35,29,28,27,26,25,24,21,20,19,18,4,3,2,1] (S':=[(35,.bool true),(29,.bool true),(28,.bool (decide ((s.cl:Int)<(-1)))),(27,.int .i64 s.cl),(26,zP b 0),(25,.int .i64 0),(24,zL b 0 4 4),(21,.bool true),(20,.int .i64 4),(19,zL b 0 4 4),(18,.int .i64 0),(4,.int .i64 0),(3,zL b 0 4 4),(2,.bool false),(1,zP f 0)]) (by kernel_rfl) (GoQ.meet1 () (by first|rfl|simp [h8]) e0))))
  ·exact Zjd (Hx 8 (0:Int) (4:Int) b 0 1 (Hl 9 0 0 e0 Hz)) (GoQ.pick [35,29,28,27,26,25,24,21,20,19,18,4,3,2,1] (S':=[(35,.bool (decide ((s.cl:Int)>2147483647))),(29,.bool false),(28,.bool (decide ((s.cl:Int)<(-1)))),(27,.int .i64 s.cl),(26,zP b 0),(25,.int .i64 0),(24,zL b 0 4 4),(21,.bool true),(20,.int .i64 4),(19,zL b 0 4 4),(18,.int .i64 0),(4,.int .i64 0),(3,zL b 0 4 4),(2,.bool false),(1,zP f 0)]) (by kernel_rfl) (GoQ.meet1 () (by first|rfl|simp [h8]) e0))
 intro _ w9 c6
 refine Zt (Zqc (t:=(decide ((s.cl:Int)<(-1))) || (decide ((s.cl:Int)>2147483647))) (fun e1=>?_) (fun e1=>?_))
 ·exact En (Lq (Le (Ll (Ly (LsR (Ll (Ly (Dz (Zq1 (v:=.bool false) ⟨(by rw [mayS_no (fun q=>by obtain⟨q1,q2,q3,q4,q5,q6,q7,q8,q9,a0,a1,a2,a3,a4,a5,a6⟩:=q;simp only [Bool.or_eq_true,decide_eq_true_eq] at e1;omega)]),(c6.dr 2)⟩)))))))))
 ·have f8:=(Bool.or_eq_false_iff.1 e1).1
  have m3:=of_decide_eq_false f8
  have f9:=(Bool.or_eq_false_iff.1 e1).2
  have m4:=of_decide_eq_false f9
  refine En (Lk (Lm (Lt (La (Dz (GoQ.again (En (Ls (Lq (LT (Lk (Lt (Ls (Lb (Ls (Dz (GoC.join (T:=Unit) (E:=fun _=>[(35,.bool ((decide ((s.wh:Int)<(-1))) || (decide ((s.wh:Int)>2147483647)))),(29,.bool (decide ((s.wh:Int)<(-1)))),(28,.bool (decide ((s.wh:Int)<(-1)))),(27,.int .i64 s.wh),(26,zP b 1),(25,.int .i64 1),(24,zL b 0 4 4),(21,.bool true),(20,.int .i64 4),(19,zL b 0 4 4),(18,.int .i64 1),(4,.int .i64 1),(23,.int .i64 1),(22,.int .i64 0),(3,zL b 0 4 4),(2,.bool false),(1,zP f 0)]) (F:=fun _ w=>St w0 ((Cel b #[.int .i64 s.cl,.int .i64 s.wh,.int .i64 s.j,.int .i64 s.k] 3)::(Cel f (TSt.cells s) 47)::L) w) ?_ ?_)))))))))))))))))
  ·refine Zg [] (Zp 0 6 [(2,.as_ (zP b 1) .at_),(3,.gen [.int .i64 s.wh])] [(2,[.prop (0≤(1:Int)∧(1:Int)<(4:Int)),.prop (Value.pointer (some (Addr.add ⟨b,0,none⟩ (Int.toNat 1*1)))=Value.pointer (some ⟨b,1,none⟩))]),(3,[.cell ⟨b,1,none⟩ (.int .i64 s.wh)])] (ak (okp (by omega) (okp (ptrAdd _ _ _) ok0)) (ak (okc (c6.cell 0 rfl (by kernel_rfl)) ok0) ak0)) (Zsq 29 (decide ((s.wh:Int)<(-1))) (fun c7=>?_) (fun c7=>?_)))
   ·exact En (Lud (Dz (GoQ.pick [35,29,28,27,26,25,24,21,20,19,18,4,23,22,3,2,1] (S':=[(35,.bool true),(29,.bool true),(28,.bool (decide ((s.wh:Int)<(-1)))),(27,.int .i64 s.wh),(26,zP b 1),(25,.int .i64 1),(24,zL b 0 4 4),(21,.bool true),(20,.int .i64 4),(19,zL b 0 4 4),(18,.int .i64 1),(4,.int .i64 1),(23,.int .i64 1),(22,.int .i64 0),(3,zL b 0 4 4),(2,.bool false),(1,zP f 0)]) (by kernel_rfl) (GoQ.meet1 () (by first|rfl|simp [c7]) c6))))
   ·exact Zjd (Hx 8 (1:Int) (4:Int) b 0 1 (Hl 9 0 1 c6 Hz)) (GoQ.pick [35,29,28,27,26,25,24,21,20,19,18,4,23,22,3,2,1] (S':=[(35,.bool (decide ((s.wh:Int)>2147483647))),(29,.bool false),(28,.bool (decide ((s.wh:Int)<(-1)))),(27,.int .i64 s.wh),(26,zP b 1),(25,.int .i64 1),(24,zL b 0 4 4),(21,.bool true),(20,.int .i64 4),(19,zL b 0 4 4),(18,.int .i64 1),(4,.int .i64 1),(23,.int .i64 1),(22,.int .i64 0),(3,zL b 0 4 4),(2,.bool false),(1,zP f 0)]) (by kernel_rfl) (GoQ.meet1 () (by first|rfl|simp [c7]) c6))
  intro _ m5 c8
  refine Zt (Zqc (t:=(decide ((s.wh:Int)<(-1))) || (decide ((s.wh:Int)>2147483647))) (fun e2=>?_) (fun e2=>?_))
  ·exact En (Lq (Le (Ll (Ly (LsR (Ll (Ly (Dz (Zq1 (v:=.bool false) ⟨(by rw [mayS_no (fun q=>by obtain⟨q1,q2,q3,q4,q5,q6,q7,q8,q9,a0,a1,a2,a3,a4,a5,a6⟩:=q;simp only [Bool.or_eq_true,decide_eq_true_eq] at e2;omega)]),(c8.dr 2)⟩)))))))))
  ·have g7:=(Bool.or_eq_false_iff.1 e2).1
   have m6:=of_decide_eq_false g7
   have g8:=(Bool.or_eq_false_iff.1 e2).2
   have m7:=of_decide_eq_false g8
   refine En (Lk (Lm (Lt (La (Dz (GoQ.again (En (Ls (Lq (LT (Lk (Lt (Ls (Lb (Ls (Dz (GoC.join (T:=Unit) (E:=fun _=>[(35,.bool ((decide ((s.j:Int)<(-1))) || (decide ((s.j:Int)>2147483647)))),(29,.bool (decide ((s.j:Int)<(-1)))),(28,.bool (decide ((s.j:Int)<(-1)))),(27,.int .i64 s.j),(26,zP b 2),(25,.int .i64 2),(24,zL b 0 4 4),(21,.bool true),(20,.int .i64 4),(19,zL b 0 4 4),(18,.int .i64 2),(4,.int .i64 2),(23,.int .i64 2),(22,.int .i64 1),(3,zL b 0 4 4),(2,.bool false),(1,zP f 0)]) (F:=fun _ w=>St w0 ((Cel b #[.int .i64 s.cl,.int .i64 s.wh,.int .i64 s.j,.int .i64 s.k] 3)::(Cel f (TSt.cells s) 47)::L) w) ?_ ?_)))))))))))))))))
   ·refine Zg [] (Zp 0 6 [(2,.as_ (zP b 2) .at_),(3,.gen [.int .i64 s.j])] [(2,[.prop (0≤(2:Int)∧(2:Int)<(4:Int)),.prop (Value.pointer (some (Addr.add ⟨b,0,none⟩ (Int.toNat 2*1)))=Value.pointer (some ⟨b,2,none⟩))]),(3,[.cell ⟨b,2,none⟩ (.int .i64 s.j)])] (ak (okp (by omega) (okp (ptrAdd _ _ _) ok0)) (ak (okc (c8.cell 0 rfl (by kernel_rfl)) ok0) ak0)) (Zsq 29 (decide ((s.j:Int)<(-1))) (fun c9=>?_) (fun c9=>?_)))
    ·exact En (Lud (Dz (GoQ.pick [35,29,28,27,26,25,24,21,20,19,18,4,23,22,3,2,1] (S':=[(35,.bool true),(29,.bool true),(28,.bool (decide ((s.j:Int)<(-1)))),(27,.int .i64 s.j),(26,zP b 2),(25,.int .i64 2),(24,zL b 0 4 4),(21,.bool true),(20,.int .i64 4),(19,zL b 0 4 4),(18,.int .i64 2),(4,.int .i64 2),(23,.int .i64 2),(22,.int .i64 1),(3,zL b 0 4 4),(2,.bool false),(1,zP f 0)]) (by kernel_rfl) (GoQ.meet1 () (by first|rfl|simp [c9]) c8))))
    ·exact Zjd (Hx 8 (2:Int) (4:Int) b 0 1 (Hl 9 0 2 c8 Hz)) (GoQ.pick [35,29,28,27,26,25,24,21,20,19,18,4,23,22,3,2,1] (S':=[(35,.bool (decide ((s.j:Int)>2147483647))),(29,.bool false),(28,.bool (decide ((s.j:Int)<(-1)))),(27,.int .i64 s.j),(26,zP b 2),(25,.int .i64 2),(24,zL b 0 4 4),(21,.bool true),(20,.int .i64 4),(19,zL b 0 4 4),(18,.int .i64 2),(4,.int .i64 2),(23,.int .i64 2),(22,.int .i64 1),(3,zL b 0 4 4),(2,.bool false),(1,zP f 0)]) (by kernel_rfl) (GoQ.meet1 () (by first|rfl|simp [c9]) c8))
   intro _ m8 d0
   refine Zt (Zqc (t:=(decide ((s.j:Int)<(-1))) || (decide ((s.j:Int)>2147483647))) (fun e3=>?_) (fun e3=>?_))
   ·exact En (Lq (Le (Ll (Ly (LsR (Ll (Ly (Dz (Zq1 (v:=.bool false) ⟨(by rw [mayS_no (fun q=>by obtain⟨q1,q2,q3,q4,q5,q6,q7,q8,q9,a0,a1,a2,a3,a4,a5,a6⟩:=q;simp only [Bool.or_eq_true,decide_eq_true_eq] at e3;omega)]),(d0.dr 2)⟩)))))))))
   ·have h1:=(Bool.or_eq_false_iff.1 e3).1
    have m9:=of_decide_eq_false h1
    have h2:=(Bool.or_eq_false_iff.1 e3).2
    have n0:=of_decide_eq_false h2
    refine En (Lk (Lm (Lt (La (Dz (GoQ.again (En (Ls (Lq (LT (Lk (Lt (Ls (Lb (Ls (Dz (GoC.join (T:=Unit) (E:=fun _=>[(35,.bool ((decide ((s.k:Int)<(-1))) || (decide ((s.k:Int)>2147483647)))),(29,.bool (decide ((s.k:Int)<(-1)))),(28,.bool (decide ((s.k:Int)<(-1)))),(27,.int .i64 s.k),(26,zP b 3),(25,.int .i64 3),(24,zL b 0 4 4),(21,.bool true),(20,.int .i64 4),(19,zL b 0 4 4),(18,.int .i64 3),(4,.int .i64 3),(23,.int .i64 3),(22,.int .i64 2),(3,zL b 0 4 4),(2,.bool false),(1,zP f 0)]) (F:=fun _ w=>St w0 ((Cel b #[.int .i64 s.cl,.int .i64 s.wh,.int .i64 s.j,.int .i64 s.k] 3)::(Cel f (TSt.cells s) 47)::L) w) ?_ ?_)))))))))))))))))
    ·refine Zg [] (Zp 0 6 [(2,.as_ (zP b 3) .at_),(3,.gen [.int .i64 s.k])] [(2,[.prop (0≤(3:Int)∧(3:Int)<(4:Int)),.prop (Value.pointer (some (Addr.add ⟨b,0,none⟩ (Int.toNat 3*1)))=Value.pointer (some ⟨b,3,none⟩))]),(3,[.cell ⟨b,3,none⟩ (.int .i64 s.k)])] (ak (okp (by omega) (okp (ptrAdd _ _ _) ok0)) (ak (okc (d0.cell 0 rfl (by kernel_rfl)) ok0) ak0)) (Zsq 29 (decide ((s.k:Int)<(-1))) (fun d1=>?_) (fun d1=>?_)))
     ·exact En (Lud (Dz (GoQ.pick [35,29,28,27,26,25,24,21,20,19,18,4,23,22,3,2,1] (S':=[(35,.bool true),(29,.bool true),(28,.bool (decide ((s.k:Int)<(-1)))),(27,.int .i64 s.k),(26,zP b 3),(25,.int .i64 3),(24,zL b 0 4 4),(21,.bool true),(20,.int .i64 4),(19,zL b 0 4 4),(18,.int .i64 3),(4,.int .i64 3),(23,.int .i64 3),(22,.int .i64 2),(3,zL b 0 4 4),(2,.bool false),(1,zP f 0)]) (by kernel_rfl) (GoQ.meet1 () (by first|rfl|simp [d1]) d0))))
     ·exact Zjd (Hx 8 (3:Int) (4:Int) b 0 1 (Hl 9 0 3 d0 Hz)) (GoQ.pick [35,29,28,27,26,25,24,21,20,19,18,4,23,22,3,2,1] (S':=[(35,.bool (decide ((s.k:Int)>2147483647))),(29,.bool false),(28,.bool (decide ((s.k:Int)<(-1)))),(27,.int .i64 s.k),(26,zP b 3),(25,.int .i64 3),(24,zL b 0 4 4),(21,.bool true),(20,.int .i64 4),(19,zL b 0 4 4),(18,.int .i64 3),(4,.int .i64 3),(23,.int .i64 3),(22,.int .i64 2),(3,zL b 0 4 4),(2,.bool false),(1,zP f 0)]) (by kernel_rfl) (GoQ.meet1 () (by first|rfl|simp [d1]) d0))
    intro _ n1 o
    refine Zt (Zqc (t:=(decide ((s.k:Int)<(-1))) || (decide ((s.k:Int)>2147483647))) (fun e4=>?_) (fun e4=>?_))
    ·exact En (Lq (Le (Ll (Ly (LsR (Ll (Ly (Dz (Zq1 (v:=.bool false) ⟨(by rw [mayS_no (fun q=>by obtain⟨q1,q2,q3,q4,q5,q6,q7,q8,q9,a0,a1,a2,a3,a4,a5,a6⟩:=q;simp only [Bool.or_eq_true,decide_eq_true_eq] at e4;omega)]),(o.dr 2)⟩)))))))))
    ·have h5:=(Bool.or_eq_false_iff.1 e4).1
     have n2:=of_decide_eq_false h5
     have h6:=(Bool.or_eq_false_iff.1 e4).2
     have n3:=of_decide_eq_false h6
     refine En (Lk (Lm (Lt (La (Dz (GoQ.again (En (Ls (Lq (LF (Lx (LsC (LsL (Lh (Lt (Ls (Ls (Dz (GoC.join (T:=Unit) (E:=fun _=>[(71,.bool (((((((decide ((s.dw:Int)<1)) || (decide ((s.dw:Int)>16))) || (decide ((s.n:Int)<(-1)))) || (decide ((s.n:Int)>1099511627776))) || (decide ((s.re.er:Int)<0))) || (decide ((s.re.er:Int)>255))) || (decide ((s.pl.length:Int)>255)))),(2,.bool false),(1,zP f 0)]) (F:=fun _ w=>St w0 ((Cel b #[.int .i64 s.cl,.int .i64 s.wh,.int .i64 s.j,.int .i64 s.k] 3)::(Cel f (TSt.cells s) 47)::L) w) ?_ ?_)))))))))))))))))))
     ·refine Zg [] (Zpj 0 4 (Hl 1 1 0 o Hz) (Zsq 39 (decide ((s.dw:Int)<1)) (fun u=>?_) (fun u=>?_)))
      ·exact En (Lud (Dz (Zmb [71,2,1] () true (by first|rfl|simp [Hb,u]) o)))
      ·refine Zpj 4 5 (Hl 5 1 0 o Hz) (Zsq 44 (decide ((s.dw:Int)>16)) (fun a7=>?_) (fun a7=>?_))
       ·exact En (Lud (Dz (Zmb [71,2,1] () true (by first|rfl|simp [Hb,u,a7]) o)))
       ·refine Zpj 9 5 (Hl 10 1 5 o Hz) (Zsq 49 (decide ((s.n:Int)<(-1))) (fun b0=>?_) (fun b0=>?_))
        ·exact En (Lud (Dz (Zmb [71,2,1] () true (by first|rfl|simp [Hb,u,a7,b0]) o)))
        ·refine Zpj 14 5 (Hl 15 1 5 o Hz) (Zsq 54 (decide ((s.n:Int)>1099511627776)) (fun b6=>?_) (fun b6=>?_))
         ·exact En (Lud (Dz (Zmb [71,2,1] () true (by first|rfl|simp [Hb,u,a7,b0,b6]) o)))
         ·refine Zpj 19 6 (Hl 21 1 103 o Hz) (Zsq 60 (decide ((s.re.er:Int)<0)) (fun c1=>?_) (fun c1=>?_))
          ·exact En (Lud (Dz (Zmb [71,2,1] () true (by first|rfl|simp [Hb,u,a7,b0,b6,c1]) o)))
          ·refine Zpj 25 6 (Hl 27 1 103 o Hz) (Zsq 66 (decide ((s.re.er:Int)>255)) (fun d2=>?_) (fun d2=>?_))
           ·exact En (Lud (Dz (Zmb [71,2,1] () true (by first|rfl|simp [Hb,u,a7,b0,b6,c1,d2]) o)))
           ·exact Zjd (Hl 32 1 106 o Hz) (Zmb [71,2,1] () (decide ((s.pl.length:Int)>255)) (by first|rfl|simp [Hb,u,a7,b0,b6,c1,d2]) o)
     intro _ n4 b7
     refine Zt (Zqc (t:=((((((decide ((s.dw:Int)<1)) || (decide ((s.dw:Int)>16))) || (decide ((s.n:Int)<(-1)))) || (decide ((s.n:Int)>1099511627776))) || (decide ((s.re.er:Int)<0))) || (decide ((s.re.er:Int)>255))) || (decide ((s.pl.length:Int)>255))) (fun e5=>?_) (fun e5=>?_))
     ·exact En (Lq (Le (Ly (Dz (Zq1 (v:=.bool false) ⟨(by rw [mayS_no (fun q=>by obtain⟨q1,q2,q3,q4,q5,q6,q7,q8,q9,a0,a1,a2,a3,a4,a5,a6⟩:=q;simp only [Bool.or_eq_true,decide_eq_true_eq] at e5;omega)]),(b7.dr 2)⟩)))))
     ·have f0:=(Bool.or_eq_false_iff.1 e5).1
      have h36aa:=(Bool.or_eq_false_iff.1 f0).1
      have h36aaa:=(Bool.or_eq_false_iff.1 h36aa).1
      have h36aaaa:=(Bool.or_eq_false_iff.1 h36aaa).1
      have h36aaaaa:=(Bool.or_eq_false_iff.1 h36aaaa).1
      have h36aaaaaa:=(Bool.or_eq_false_iff.1 h36aaaaa).1
      have h36aaaaaa':=of_decide_eq_false h36aaaaaa
      have h36aaaaab:=(Bool.or_eq_false_iff.1 h36aaaaa).2
      have h36aaaaab':=of_decide_eq_false h36aaaaab
      have h36aaaab:=(Bool.or_eq_false_iff.1 h36aaaa).2
      have h36aaaab':=of_decide_eq_false h36aaaab
      have h36aaab:=(Bool.or_eq_false_iff.1 h36aaa).2
      have h36aaab':=of_decide_eq_false h36aaab
      have h36aab:=(Bool.or_eq_false_iff.1 h36aa).2
      have h36aab':=of_decide_eq_false h36aab
      have h36ab:=(Bool.or_eq_false_iff.1 f0).2
      have h36ab':=of_decide_eq_false h36ab
      have i5:=(Bool.or_eq_false_iff.1 e5).2
      have n5:=of_decide_eq_false i5
      refine Zk (Zt (Zs (Zgj [15] (Hl 2 1 7 b7 (Hl 5 1 8 b7 (Hl 8 1 9 b7 (Hl 11 1 10 b7 (Hl 14 1 104 b7 Hz))))) (GoR.sliceLit rfl (by kernel_rfl) (t:=76) (e:=9) (n:=5) (ps:=[(0,.string s.op.ky),(1,.string s.op.va),(2,.string s.op.ol),(3,.string s.op.tx),(4,.string s.re.vl)]) (by kernel_rfl) (by kernel_rfl) (ti:=Tryz.t9) (z:=.string (⟨#[]⟩:ByteArray)) (by kernel_rfl) (by kernel_rfl) (by decide) (by decide) (cs:=#[.string s.op.ky,.string s.op.va,.string s.op.ol,.string s.op.tx,.string s.re.vl]) (by kernel_rfl) b7 fun b2 n6 i n7=>Lz (Ls (Lq (Lb (Dz (GoC.unroll 6 (En (Ls (Lq (LT (Lk (Lt (Ls (Lb (Ls (Dz (Zaj (Hx 2 (0:Int) (5:Int) b2 0 1 (Hl 3 0 0 i Hz)) (Zt (Zi ((s.op.ky.size:Int)>255) (fun i6=>?_) (fun i6=>?_)))))))))))))))))))))))
      ·exact En (Lq (Le (Ll (Ly (LsR (Ll (Ly (Dz (Zq1 (v:=.bool false) ⟨(by rw [mayS_no (fun q=>by obtain⟨q1,q2,q3,q4,q5,q6,q7,q8,q9,a0,a1,a2,a3,a4,a5,a6⟩:=q;omega)]),(i.dr 3)⟩)))))))))
      ·refine En (Lk (Lm (Lt (La (Dz (GoQ.again (En (Ls (Lq (LT (Lk (Lt (Ls (Lb (Ls (Dz (Zaj (Hx 2 (1:Int) (5:Int) b2 0 1 (Hl 3 0 1 i Hz)) (Zt (Zi ((s.op.va.size:Int)>255) (fun i8=>?_) (fun i8=>?_))))))))))))))))))))
       ·exact En (Lq (Le (Ll (Ly (LsR (Ll (Ly (Dz (Zq1 (v:=.bool false) ⟨(by rw [mayS_no (fun q=>by obtain⟨q1,q2,q3,q4,q5,q6,q7,q8,q9,a0,a1,a2,a3,a4,a5,a6⟩:=q;omega)]),(i.dr 3)⟩)))))))))
       ·refine En (Lk (Lm (Lt (La (Dz (GoQ.again (En (Ls (Lq (LT (Lk (Lt (Ls (Lb (Ls (Dz (Zaj (Hx 2 (2:Int) (5:Int) b2 0 1 (Hl 3 0 2 i Hz)) (Zt (Zi ((s.op.ol.size:Int)>255) (fun j0=>?_) (fun j0=>?_))))))))))))))))))))
        ·exact En (Lq (Le (Ll (Ly (LsR (Ll (Ly (Dz (Zq1 (v:=.bool false) ⟨(by rw [mayS_no (fun q=>by obtain⟨q1,q2,q3,q4,q5,q6,q7,q8,q9,a0,a1,a2,a3,a4,a5,a6⟩:=q;omega)]),(i.dr 3)⟩)))))))))
        ·refine En (Lk (Lm (Lt (La (Dz (GoQ.again (En (Ls (Lq (LT (Lk (Lt (Ls (Lb (Ls (Dz (Zaj (Hx 2 (3:Int) (5:Int) b2 0 1 (Hl 3 0 3 i Hz)) (Zt (Zi ((s.op.tx.size:Int)>255) (fun j2=>?_) (fun j2=>?_))))))))))))))))))))
         ·exact En (Lq (Le (Ll (Ly (LsR (Ll (Ly (Dz (Zq1 (v:=.bool false) ⟨(by rw [mayS_no (fun q=>by obtain⟨q1,q2,q3,q4,q5,q6,q7,q8,q9,a0,a1,a2,a3,a4,a5,a6⟩:=q;omega)]),(i.dr 3)⟩)))))))))
         ·refine En (Lk (Lm (Lt (La (Dz (GoQ.again (En (Ls (Lq (LT (Lk (Lt (Ls (Lb (Ls (Dz (Zaj (Hx 2 (4:Int) (5:Int) b2 0 1 (Hl 3 0 4 i Hz)) (Zt (Zi ((s.re.vl.size:Int)>255) (fun j4=>?_) (fun j4=>?_))))))))))))))))))))
          ·exact En (Lq (Le (Ll (Ly (LsR (Ll (Ly (Dz (Zq1 (v:=.bool false) ⟨(by rw [mayS_no (fun q=>by obtain⟨q1,q2,q3,q4,q5,q6,q7,q8,q9,a0,a1,a2,a3,a4,a5,a6⟩:=q;omega)]),(i.dr 3)⟩)))))))))
          ·refine En (Lk (Lm (Lt (La (Dz (GoQ.again (En (Ls (Lq (LF (Lx (LsC (LsL (Lh (Lt (Ls (Ls (Lg [6,7,18] (Dz (Zpj 0 4 (Hl 1 2 0 i Hz) (Zsq 103 ((s.dw:Int) == 14) (fun b3=>?_) (fun b3=>?_))))))))))))))))))))))
           ·have a8:=ieqT b3
            refine Zj (Hla 5 2 12 76 (TBd.cells s.bd) i Hz) (Zc1 (rcarrier_spec s.bd i) fun n9 j6=>Lo (Dz (Zc1 (rmay_spec (⟨1,1,dVc,s.bd,dD32⟩:TMs) (car_ok hs_.bd) (fun w h=>hr1 _ (h.drop 3)) j6) fun o1 d3=>Lo (Dz (Zr 8 3 [] (Zsq 110 (!(mayM (⟨1,1,dVc,s.bd,dD32⟩:TMs))) (fun d4=>?_) (fun d4=>?_)))))))
            ·have j7:=notT d4
             exact En (Lw (Zsk (En (Lud (Lt (LT (Lq (Le (Ly (Dz (Zq1 (v:=.bool false) ⟨(by rw [mayS_no (fun q=>absurd (q.lie a8).1 (by simpa using d4))]),(d3.dr 3)⟩)))))))))))
            ·have j7:=notF d4
             refine Zpj 11 4 (Hl 12 2 0 d3 Hz) (Zsq 114 ((s.dw:Int) != 14) (fun e6=>?_) (fun e6=>?_))
             ·have j9:=ineT e6
              exact absurd e6 (by simp [a8])
             ·have j9:=ineF e6
              refine En (Lw (Zsk (En (Lud (Lt (LF (Lk (Lt (Ls (Ls (Dz (Zaj (Hl 1 2 0 d3 Hz) (Zt (Zqc (t:=(s.dw:Int) != 16) (fun d5=>?_) (fun d5=>?_)))))))))))))))
              ·have k0:=ineT d5
               refine Zs (Zgj [2] (Hla 1 2 88 14 (TPk.cells s.pk) d3 Hz) (Zc1 (rempty_spec s.pk d3) fun o3 k1=>Lz (Le (Ly (Dz (Zq1 (v:=.bool (emptyR s.pk)) ?_))))))
               have d6:s.dw≠16:=by simpa using d5
               exact⟨(by rw [mayS_emp d6 (fun he=>⟨(by omega),(by omega),(by omega),(by omega),(by omega),(by omega),(by omega),(by omega),(by omega),(by omega),(by omega),(by omega),(by omega),(fun _=>⟨by simpa using d4,he⟩),(fun c=>absurd c d6),(fun c=>absurd a8 c)⟩)]),(k1.dr 3)⟩
              ·exact absurd d5 (by simp [a8])
           ·have a8:=ieqF b3
            refine En (Lw (Zsk (Zsk (Zpj 8 7 (Hl 12 2 0 i Hz) (Zsq 114 ((s.dw:Int) != 14) (fun a9=>?_) (fun a9=>?_))))))
            ·have k3:=ineT a9
             refine Zj (Hla 16 2 12 76 (TBd.cells s.bd) i Hz) (Zc1 (sameBody3_spec s.bd dBd hs_.bd.qn (fun w h=>hr1 _ (h.drop 3)) (fun _ _=>RowsAt.nil _ _ _) i) fun o5 c2=>Lz (Dz (Zqc (t:=!(same3B s.bd dBd)) (fun c3=>?_) (fun c3=>?_))))
             ·have k4:=notT c3
              exact En (Lq (Le (Ly (Dz (Zq1 (v:=.bool false) ⟨(by rw [mayS_no (fun q=>absurd (same3B_of (noneB_in (by by_cases c:s.dw=16;exact(q.fake c).1;exact(q.els a8 c).1):con s.bd=con dBd)) (by simpa using c3))]),(c2.dr 3)⟩)))))
             ·have k4:=notF c3
              refine Zk (Zt (Zs (Zs (Zaj (Hl 1 2 0 c2 Hz) (Zt (Zqc (t:=(s.dw:Int) != 16) (fun b8=>?_) (fun b8=>?_)))))))
              ·have k6:=ineT b8
               refine Zs (Zgj [2] (Hla 1 2 88 14 (TPk.cells s.pk) c2 Hz) (Zc1 (rempty_spec s.pk c2) fun o7 k7=>Lz (Le (Ly (Dz (Zq1 (v:=.bool (emptyR s.pk)) ?_))))))
               have d6:s.dw≠16:=by simpa using b8
               exact⟨(by rw [mayS_emp d6 (fun he=>⟨(by omega),(by omega),(by omega),(by omega),(by omega),(by omega),(by omega),(by omega),(by omega),(by omega),(by omega),(by omega),(by omega),(fun c=>absurd c a8),(fun c=>absurd c d6),(fun _ _=>⟨(same3B_in (by simpa using c3)),he⟩)⟩)]),(k7.dr 3)⟩
              ·have k6:=ineF b8
               refine Zk (Zt (Zs (Zgj [2,3] (Hla 1 2 88 14 (TPk.cells s.pk) c2 Hz) (Zag (TPk.cells dPk) c2 fun d7 o8 k9=>Lo (Dz (Zu 0 0 (TPk.cells s.pk) k9 fun o9 x=>Lo (Ld (Lt (Ls (Ls (Dz (GoC.join (T:=Unit) (E:=fun _=>[(153,.bool (((((decide ((s.pk.fr:Int)<0)) || (decide ((s.pk.fr:Int)>255))) || (decide ((s.pk.tw:Int)<0))) || (decide ((s.pk.tw:Int)>255))) || (decide ((s.pk.ml.length:Int)>8)))),(7,zP d7 0),(2,.bool false)]) (F:=fun _ w=>St w0 ((Cel d7 (TPk.cells s.pk) 42)::(Cel b2 #[.string s.op.ky,.string s.op.va,.string s.op.ol,.string s.op.tx,.string s.re.vl] 9)::(Cel b #[.int .i64 s.cl,.int .i64 s.wh,.int .i64 s.j,.int .i64 s.k] 3)::(Cel f (TSt.cells s) 47)::L) w) ?_ ?_))))))))))))
               ·refine Zg [] (Zpj 0 4 (Hl 1 0 0 x Hz) (Zsq 133 (decide ((s.pk.fr:Int)<0)) (fun b5=>?_) (fun b5=>?_)))
                ·exact En (Lud (Dz (Zmb [153,7,2] () true (by first|rfl|simp [Hb,b3,a9,b5]) x)))
                ·refine Zpj 4 5 (Hl 5 0 0 x Hz) (Zsq 138 (decide ((s.pk.fr:Int)>255)) (fun b9=>?_) (fun b9=>?_))
                 ·exact En (Lud (Dz (Zmb [153,7,2] () true (by first|rfl|simp [Hb,b3,a9,b5,b9]) x)))
                 ·refine Zpj 9 5 (Hl 10 0 1 x Hz) (Zsq 143 (decide ((s.pk.tw:Int)<0)) (fun c4=>?_) (fun c4=>?_))
                  ·exact En (Lud (Dz (Zmb [153,7,2] () true (by first|rfl|simp [Hb,b3,a9,b5,b9,c4]) x)))
                  ·refine Zpj 14 5 (Hl 15 0 1 x Hz) (Zsq 148 (decide ((s.pk.tw:Int)>255)) (fun d8=>?_) (fun d8=>?_))
                   ·exact En (Lud (Dz (Zmb [153,7,2] () true (by first|rfl|simp [Hb,b3,a9,b5,b9,c4,d8]) x)))
                   ·exact Zjd (Hl 20 0 13 x Hz) (Zmb [153,7,2] () (decide ((s.pk.ml.length:Int)>8)) (by first|rfl|simp [Hb,b3,a9,b5,b9,c4,d8]) x)
               intro _ l4 f1
               refine Zt (Zqc (t:=((((decide ((s.pk.fr:Int)<0)) || (decide ((s.pk.fr:Int)>255))) || (decide ((s.pk.tw:Int)<0))) || (decide ((s.pk.tw:Int)>255))) || (decide ((s.pk.ml.length:Int)>8))) (fun e7=>?_) (fun e7=>?_))
               ·exact En (Lq (Le (Ly (Dz (Zq1 (v:=.bool false) ⟨(by rw [mayS_no (fun q=>by have g:=packedB_in (q.fake (show s.dw=16 by simpa using b8)).2;have g1:=g.fr;have g2:=g.tw;have g3:=g.ml;simp only [Bool.or_eq_true,decide_eq_true_eq] at e7;omega)]),(f1.dr 4)⟩)))))
               ·have f2:=(Bool.or_eq_false_iff.1 e7).1
                have h89aa:=(Bool.or_eq_false_iff.1 f2).1
                have h89aaa:=(Bool.or_eq_false_iff.1 h89aa).1
                have h89aaaa:=(Bool.or_eq_false_iff.1 h89aaa).1
                have h89aaaa':=of_decide_eq_false h89aaaa
                have h89aaab:=(Bool.or_eq_false_iff.1 h89aaa).2
                have h89aaab':=of_decide_eq_false h89aaab
                have h89aab:=(Bool.or_eq_false_iff.1 h89aa).2
                have h89aab':=of_decide_eq_false h89aab
                have h89ab:=(Bool.or_eq_false_iff.1 f2).2
                have h89ab':=of_decide_eq_false h89ab
                have l6:=(Bool.or_eq_false_iff.1 e7).2
                have p0:=of_decide_eq_false l6
                refine En (Lk (Lt (Ls (Lq (Lb (Dz ?_))))))
                obtain⟨f3,f4⟩:∃ a,a=s.pk.ma:=⟨_,rfl⟩
                have l7:St w0 ((Cel d7 (TPk.cells (⟨s.pk.fr,s.pk.tw,s.pk.kn,f3,s.pk.mc,s.pk.ml⟩:TPk)) 42)::(Cel b2 #[.string s.op.ky,.string s.op.va,.string s.op.ol,.string s.op.tx,.string s.re.vl] 9)::(Cel b #[.int .i64 s.cl,.int .i64 s.wh,.int .i64 s.j,.int .i64 s.k] 3)::(Cel f (TSt.cells s) 47)::L) l4:=(by rw [f4];exact f1)
                refine GoC.loop (T:=Nat×(Option Addr)) (fun gg=>[(7,zP d7 0),(8,.int .i64 (gg.1:Nat))]) (fun gg w=>(gg.1≤s.pk.ml.length∧(∀ m∈s.pk.ml.take gg.1,mayM m=true)∧∀ w,St w0 L w→RowsAt w gg.2 s.pk.ml.length 121 (fun q=>TMs.cells (s.pk.ml.getD q dMs)))∧St w0 ((Cel d7 (TPk.cells (⟨s.pk.fr,s.pk.tw,s.pk.kn,gg.2,s.pk.mc,s.pk.ml⟩:TPk)) 42)::(Cel b2 #[.string s.op.ky,.string s.op.va,.string s.op.ol,.string s.op.tx,.string s.re.vl] 9)::(Cel b #[.int .i64 s.cl,.int .i64 s.wh,.int .i64 s.j,.int .i64 s.k] 3)::(Cel f (TSt.cells s) 47)::L) w) (fun gg=>s.pk.ml.length-gg.1) (0,f3) [7,8] (by kernel_rfl) ⟨⟨Nat.zero_le _,(fun m hm=>by cases hm),by rw [f4];exact hr2⟩,l7⟩ ?_
                rintro⟨k,aq⟩ p1 ⟨hp,c0⟩
                dsimp only at hp c0
                have hw:=hp.2.2
                refine Zs (Zs (Zaj (Hl 2 0 13 c0 Hz) (Zt (Zi ((k:Int)<(s.pk.ml.length:Nat)) (fun l8=>?_) (fun l8=>?_)))))
                ·have hk:k<s.pk.ml.length:=by omega
                 obtain⟨e8,e9,rfl⟩:=RowsAt.isSome (hw _ (c0.drop 4)) (by omega)
                 refine Zk (Zt (Zs (Zb (Zs (Zgj [5] (Hl 1 0 13 c0 (Hx 3 (k:Int) (s.pk.ml.length:Int) e8 e9 121 (Hg 4 (.agg (TMs.cells (s.pk.ml.getD k dMs))) [.prop (Array.size (TMs.cells (s.pk.ml.getD k dMs))=121),.cells ⟨e8,e9+(k*121),none⟩ (TMs.cells (s.pk.ml.getD k dMs))] (okp (by kernel_rfl) (oka (RowsAt.all0 (hw _ (c0.drop 4)) (by first|omega|(simp only [List.length_set];omega)|(simp only [List.length_set,lA,lC,lN];omega)) (Nat.le_of_ble_eq_true (by kernel_rfl)) (by kernel_rfl)) ok0)) Hz))) (Zc1 (rmay_spec (s.pk.ml.getD k dMs) (hms k hk).1 (fun w h=>(hms k hk).2 w (h.drop 4)) c0) fun p3 f5=>Lz (Dz (Zqc (t:=!(mayM (s.pk.ml.getD k dMs))) (fun d9=>?_) (fun d9=>?_)))))))))
                 ·have l9:=notT d9
                  exact En (Lq (Le (Ll (Ly (LsR (Ll (Ly (Dz (Zq1 (v:=.bool false) ⟨(by rw [mayS_no (fun q=>absurd ((packedB_in (q.fake (show s.dw=16 by simpa using b8)).2).ms _ (getD_mem (d:=dMs) hk)) (by simpa using d9))]),(f5.dr 4)⟩)))))))))
                 ·have l9:=notF d9
                  refine Zk (Zm (Zt ?_))
                  exact Zaj (Hwi 1 ((k:Nat)+1) Hz) (GoQ.back (k+1,some ⟨e8,e9,none⟩) [7,8] (by kernel_rfl) (by show s.pk.ml.length-(k+1)<s.pk.ml.length-k;omega) ⟨⟨by omega,ml_step hk hp.2.1 (by simpa using d9),hw⟩,f5⟩)
                ·have hke:s.pk.ml.take k=s.pk.ml:=List.take_of_length_le (by omega)
                 refine En (Lx (LsC (LsL (Lh (Lt (Lq (Le (Dz (Zq1 (v:=.bool true) ?_)))))))))
                 have hpk:MayP s.pk:=⟨by omega,by omega,by omega,by rw [← hke];exact hp.2.1⟩
                 exact⟨(by rw [mayS_of ⟨(by omega),(by omega),(by omega),(by omega),(by omega),(by omega),(by omega),(by omega),(by omega),(by omega),(by omega),(by omega),(by omega),(fun c=>absurd c a8),(fun _=>⟨(same3B_in (by simpa using c3)),packedB_of hpk⟩),(fun _ c=>absurd (show s.dw=16 by simpa using b8) c)⟩]),(c0.dr 4)⟩
            ·exact absurd a9 (by simp [a8])
end
section
variable {w0 w : World} {L : List Asn} {ad : Option Addr} {c : Nat} {ay : Option Addr} {cy : Nat}
theorem rlong_spec (l) (y) (hl:l.length≤800000) (hy:y.length<65536) (hn:ay=none→cy=0) (hr:Rw w0 L byteC 1 0 ay y) (hs:St w0 ((Sl ad c 5 1 byteC l)::L) w):Cs Tryz.prog 22 #[.slice ad l.length c,.slice ay y.length cy] w fun rv w'=>∃ ao co,rv=.slice ao ((l++loS y).length) co∧St w0 ((Sl ao co 5 1 byteC (l++loS y))::L) w':=by
 refine Zen Tryz.func22 Tryz.ntmps22 (En (Lq (Ls (Dz (Zgj [4,6] (Hg 3 (.as_ (.int .u16 (y.length:Nat)) (.gen [])) [.prop (Value.int .u16 (IntKind.u16.wrap (y.length:Nat))=Value.int .u16 (y.length:Nat))] (okp (u16ok (by omega) (by omega)) ok0) Hz) (Zc (rhalf_spec l (y.length:Nat) (by omega) (by omega) hs) ?_))))))
 rintro q u ⟨f,i,rfl,a⟩
 refine Lo (Lw (GoR.append rfl (by kernel_rfl) bytesOK byteF (ad:=f) (c:=i) (xs:=l++hf (y.length:Nat)) (ys:=y) (adx:=ay) (cx:=cy) (0:Int) (by kernel_rfl) a (hr _ (a.drop 1)) hn (by simp only [lA,hf_length];omega) (by simp only [lA,hf_length];omega) fun b d x o=>Lz (Le (Dz (Zq1 (v:=.slice b (((l++hf (y.length:Nat))++y).length) d) ?_)))))
 have e:(l++hf (y.length:Nat))++y=l++loS y:=by simp only [loS,List.append_assoc]
 exact⟨b,d,by rw [e],by rw [← e];exact o⟩
theorem rputS_spec (s) (hs_:StOK s) (hms:∀ k,k<s.pk.ml.length→MsOK (s.pk.ml.getD k dMs)∧Rw w0 L TPr.cells 2 dPr (s.pk.ml.getD k dMs).bd.qa (s.pk.ml.getD k dMs).bd.ql) (hr1:Rw w0 L TPr.cells 2 dPr s.bd.qa s.bd.ql) (hr2:Rw w0 L TMs.cells 121 dMs s.pk.ma s.pk.ml) (hr3:Rw w0 L byteC 1 0 s.pa s.pl) (hs:St w0 (L) w):Cs Tryz.prog 23 #[.agg (TSt.cells s)] w fun rv w'=>∃ ao co,rv=.slice ao ((putS s).length) co∧St w0 ((Sl ao co 5 1 byteC (putS s))::L) w':=by
 refine Zen Tryz.func23 Tryz.ntmps23 (En (Ls (Lg [0] (Dz (Zbg (TSt.cells s) hs fun b w2 d2=>Lz (Ls (Ls (Dz (Zgj [1] (Hla 0 0 0 107 (TSt.cells s) d2 Hz) (Zc1 (rmayS_spec s hs_ (fun k hk=>⟨(hms k hk).1,fun w h=>(hms k hk).2 w (h.drop 1)⟩) (fun w h=>hr1 _ (h.drop 1)) (fun w h=>hr2 _ (h.drop 1)) (fun w h=>hr3 _ (h.drop 1)) d2) fun w6 b4=>Lz (Dz (Zqc (t:=!(mayS s)) (fun h7=>?_) (fun h7=>?_)))))))))))))
 ·have a9:=notT h7
  refine En (Lq (Le (Ly (Dz (Zq1 (v:=.slice none 0 0) ?_)))))
  have g9:=St.slNil b4 5 1 byteC
  have h0:=((g9.pl 0).pl 1)
  exact⟨none,0,by rw [(show putS s=[] from if_neg (by rw [a9];decide))];rfl,by rw [(show putS s=[] from if_neg (by rw [a9];decide))];exact(h0.dr 1)⟩
 ·have a9:=notF h7
  have hb:mayS s=true:=a9
  obtain⟨q1,q2,q3,q4,q5,q6,q7,q8,q9,m6,m7,m8,m9,h2,h3,n0⟩:=mayS_in hb
  have e1:=hs_.am
  have e2:=hs_.tm
  have e3:=hs_.at_
  refine Zk (Zt (Zs (Zgj [2] (Hl 1 0 0 b4 Hz) (Zll bytesOK byteF [(s.dw:Int)] b4 fun n1 n2 a1=>Lz (Ls (Dz (Zgj [10] (Hl 1 1 1 a1 (Hl 3 1 2 a1 (Hl 5 1 3 a1 (Hl 7 1 4 a1 (Hl 9 1 5 a1 Hz))))) (GoR.sliceLit rfl (by kernel_rfl) (t:=75) (e:=3) (n:=5) (ps:=[(0,.int .i64 s.cl),(1,.int .i64 s.wh),(2,.int .i64 s.j),(3,.int .i64 s.k),(4,.int .i64 s.n)]) (by kernel_rfl) (by kernel_rfl) (ti:=Tryz.t3) (z:=.int .i64 0) (by kernel_rfl) (by kernel_rfl) (by decide) (by decide) (cs:=#[.int .i64 s.cl,.int .i64 s.wh,.int .i64 s.j,.int .i64 s.k,.int .i64 s.n]) (by kernel_rfl) a1 fun f n3 d3 n4=>Lz (Ls (Lq (Lb (Dz (GoC.unroll 6 (En (Ls (Lq (LT (Lk (Lt (Ls (Lb (Dz (Zgj [7] (Hx 3 (0:Int) (5:Int) f 0 1 (Hl 4 0 0 d3 (Hwi 5 (s.cl+1) (Hwu 6 (s.cl+1) Hz)))) (Zc (rword_spec ([(s.dw:Int)]) (s.cl+1) (by first|omega|(simp only [lA,lC,lN,wd_length,hf_length,tx_length,strB_length,loS_length] at *;omega)) (by omega) (d3.pl 1)) ?_))))))))))))))))))))))))
  rintro n5 n6 ⟨n7,n8,rfl,d4⟩
  refine Lo (Lud (Lm (Lt (La (Dz (GoQ.again (En (Ls (Lq (LT (Lk (Lt (Ls (Lb (Dz (Zgj [7] (Hx 3 (1:Int) (5:Int) f 0 1 (Hl 4 1 1 d4 (Hwi 5 (s.wh+1) (Hwu 6 (s.wh+1) Hz)))) (Zc (rword_spec (([(s.dw:Int)])++wd (s.cl+1)) (s.wh+1) (by first|omega|(simp only [lA,lC,lN,wd_length,hf_length,tx_length,strB_length,loS_length] at *;omega)) (by omega) d4) ?_)))))))))))))))))
  rintro n9 o0 ⟨o1,o2,rfl,d5⟩
  refine Lo (Lud (Lm (Lt (La (Dz (GoQ.again (En (Ls (Lq (LT (Lk (Lt (Ls (Lb (Dz (Zgj [7] (Hx 3 (2:Int) (5:Int) f 0 1 (Hl 4 1 2 d5 (Hwi 5 (s.j+1) (Hwu 6 (s.j+1) Hz)))) (Zc (rword_spec ((([(s.dw:Int)])++wd (s.cl+1))++wd (s.wh+1)) (s.j+1) (by first|omega|(simp only [lA,lC,lN,wd_length,hf_length,tx_length,strB_length,loS_length] at *;omega)) (by omega) d5) ?_)))))))))))))))))
  rintro o3 o4 ⟨o5,o6,rfl,d6⟩
  refine Lo (Lud (Lm (Lt (La (Dz (GoQ.again (En (Ls (Lq (LT (Lk (Lt (Ls (Lb (Dz (Zgj [7] (Hx 3 (3:Int) (5:Int) f 0 1 (Hl 4 1 3 d6 (Hwi 5 (s.k+1) (Hwu 6 (s.k+1) Hz)))) (Zc (rword_spec (((([(s.dw:Int)])++wd (s.cl+1))++wd (s.wh+1))++wd (s.j+1)) (s.k+1) (by first|omega|(simp only [lA,lC,lN,wd_length,hf_length,tx_length,strB_length,loS_length] at *;omega)) (by omega) d6) ?_)))))))))))))))))
  rintro o7 o8 ⟨d7,d8,rfl,d9⟩
  refine Lo (Lud (Lm (Lt (La (Dz (GoQ.again (En (Ls (Lq (LT (Lk (Lt (Ls (Lb (Dz (Zgj [7] (Hx 3 (4:Int) (5:Int) f 0 1 (Hl 4 1 4 d9 (Hwi 5 (s.n+1) (Hwu 6 (s.n+1) Hz)))) (Zc (rword_spec ((((([(s.dw:Int)])++wd (s.cl+1))++wd (s.wh+1))++wd (s.j+1))++wd (s.k+1)) (s.n+1) (by first|omega|(simp only [lA,lC,lN,wd_length,hf_length,tx_length,strB_length,loS_length] at *;omega)) (by omega) d9) ?_)))))))))))))))))
  rintro o9 h5 ⟨a2,a3,rfl,h6⟩
  refine Lo (Lud (Lm (Lt (La (Dz (GoQ.again (En (Ls (Lq (LF (Lx (LsC (LsL (Lh (Lt (Ls (Dz (Zn [(30,.bool false),(29,.int .i64 5),(28,zL f 0 5 5),(27,.int .i64 5),(5,.int .i64 5),(32,.int .i64 5),(31,.int .i64 4),(3,.slice a2 ((((((([(s.dw:Int)])++wd (s.cl+1))++wd (s.wh+1))++wd (s.j+1))++wd (s.k+1))++wd (s.n+1)).length) a3),(40,.slice a2 ((((((([(s.dw:Int)])++wd (s.cl+1))++wd (s.wh+1))++wd (s.j+1))++wd (s.k+1))++wd (s.n+1)).length) a3),(39,.int .u64 (s.n+1)),(38,.int .i64 (s.n+1)),(37,.int .i64 s.n),(36,zP f 4),(35,.int .i64 4),(34,zL f 0 5 5),(33,.slice d7 (((((([(s.dw:Int)])++wd (s.cl+1))++wd (s.wh+1))++wd (s.j+1))++wd (s.k+1)).length) d8),(4,zL f 0 5 5),(2,.slice none 0 0),(1,zP b 0)] ?_))))))))))))))))))
  have h8:St w0 ((Sl a2 a3 5 1 byteC (h1S s))::(Cel f #[.int .i64 s.cl,.int .i64 s.wh,.int .i64 s.j,.int .i64 s.k,.int .i64 s.n] 3)::(Cel b (TSt.cells s) 47)::L) h5:=h6
  refine Zn [(30,.bool false),(29,.int .i64 5),(28,zL f 0 5 5),(27,.int .i64 5),(5,.int .i64 5),(32,.int .i64 5),(31,.int .i64 4),(3,.slice a2 ((h1S s).length) a3),(40,.slice a2 ((((((([(s.dw:Int)])++wd (s.cl+1))++wd (s.wh+1))++wd (s.j+1))++wd (s.k+1))++wd (s.n+1)).length) a3),(39,.int .u64 (s.n+1)),(38,.int .i64 (s.n+1)),(37,.int .i64 s.n),(36,zP f 4),(35,.int .i64 4),(34,zL f 0 5 5),(33,.slice d7 (((((([(s.dw:Int)])++wd (s.cl+1))++wd (s.wh+1))++wd (s.j+1))++wd (s.k+1)).length) d8),(4,zL f 0 5 5),(2,.slice none 0 0),(1,zP b 0)] ?_
  have hl_h1S:=h1S_len hb
  refine ZD (rds [0,1,2,3,6,7,8] (.ef 4 (.ef 5 (.ef 9 (.rd 10 .done))))) h8 fun p0 b5 p5=>Zj (Hl 3 2 6 b5 (Hl 8 2 11 b5 Hz)) (Zll bytesOK byteF [(s.op.kd:Int)] b5 fun e0 p6 e4=>⟨(opl (n:=[.cell ⟨b,11,none⟩ (.int .u64 s.op.am)]) (by kernel_rfl) (okc (e4.cell 3 rfl (by kernel_rfl)) ok0)),(Zap bytesOK byteF (0:Int) (e4.pl 1) (by first|omega|(simp only [lA,lC,lN,wd_length,hf_length,tx_length,strB_length,loS_length] at *;omega)) fun p7 p8 p9 e5=>⟨(opl (n:=[.cell ⟨b,11,none⟩ (.int .u64 s.op.am)]) (by kernel_rfl) (okc (e5.cell 3 rfl (by kernel_rfl)) ok0)),(Zc (rword_spec ((h1S s)++([(s.op.kd:Int)])) s.op.am (by first|omega|(simp only [lA,lC,lN,wd_length,hf_length,tx_length,strB_length,loS_length] at *;omega)) hs_.am e5) ?_)⟩)⟩)
  rintro q0 r0 ⟨r4,r5,rfl,a4⟩
  refine Lz (Ls (Dz (Zgj [12] (Hl 2 3 7 a4 (Hl 5 3 8 a4 (Hl 8 3 9 a4 (Hl 11 3 10 a4 Hz)))) (GoR.sliceLit rfl (by kernel_rfl) (t:=76) (e:=9) (n:=4) (ps:=[(0,.string s.op.ky),(1,.string s.op.va),(2,.string s.op.ol),(3,.string s.op.tx)]) (by kernel_rfl) (by kernel_rfl) (ti:=Tryz.t9) (z:=.string (⟨#[]⟩:ByteArray)) (by kernel_rfl) (by kernel_rfl) (by decide) (by decide) (cs:=#[.string s.op.ky,.string s.op.va,.string s.op.ol,.string s.op.tx]) (by kernel_rfl) a4 fun i r6 e6 r7=>Lz (Ls (Lq (Lb (Dz (GoC.unroll 6 (En (Ls (Lq (LT (Lk (Lt (Ls (Lb (Dz (Zgj [5] (Hx 3 (0:Int) (4:Int) i 0 1 (Hl 4 0 0 e6 Hz)) (Zc (rtext_spec (((h1S s)++([(s.op.kd:Int)]))++wd s.op.am) s.op.ky (by first|omega|(simp only [lA,lC,lN,wd_length,hf_length,tx_length,strB_length,loS_length] at *;omega)) (by omega) (e6.pl 1)) ?_))))))))))))))))))))
  rintro r8 r9 ⟨s0,s1,rfl,e7⟩
  refine Lo (Lud (Lm (Lt (La (Dz (GoQ.again (En (Ls (Lq (LT (Lk (Lt (Ls (Lb (Dz (Zgj [5] (Hx 3 (1:Int) (4:Int) i 0 1 (Hl 4 1 1 e7 Hz)) (Zc (rtext_spec ((((h1S s)++([(s.op.kd:Int)]))++wd s.op.am)++tx s.op.ky) s.op.va (by first|omega|(simp only [lA,lC,lN,wd_length,hf_length,tx_length,strB_length,loS_length] at *;omega)) (by omega) e7) ?_)))))))))))))))))
  rintro s2 s3 ⟨s4,s5,rfl,e8⟩
  refine Lo (Lud (Lm (Lt (La (Dz (GoQ.again (En (Ls (Lq (LT (Lk (Lt (Ls (Lb (Dz (Zgj [5] (Hx 3 (2:Int) (4:Int) i 0 1 (Hl 4 1 2 e8 Hz)) (Zc (rtext_spec (((((h1S s)++([(s.op.kd:Int)]))++wd s.op.am)++tx s.op.ky)++tx s.op.va) s.op.ol (by first|omega|(simp only [lA,lC,lN,wd_length,hf_length,tx_length,strB_length,loS_length] at *;omega)) (by omega) e8) ?_)))))))))))))))))
  rintro s6 s7 ⟨e9,f0,rfl,f1⟩
  refine Lo (Lud (Lm (Lt (La (Dz (GoQ.again (En (Ls (Lq (LT (Lk (Lt (Ls (Lb (Dz (Zgj [5] (Hx 3 (3:Int) (4:Int) i 0 1 (Hl 4 1 3 f1 Hz)) (Zc (rtext_spec ((((((h1S s)++([(s.op.kd:Int)]))++wd s.op.am)++tx s.op.ky)++tx s.op.va)++tx s.op.ol) s.op.tx (by first|omega|(simp only [lA,lC,lN,wd_length,hf_length,tx_length,strB_length,loS_length] at *;omega)) (by omega) f1) ?_)))))))))))))))))
  rintro s8 i2 ⟨o,u,rfl,i3⟩
  refine Lo (Lud (Lm (Lt (La (Dz (GoQ.again (En (Ls (Lq (LF (Lx (LsC (LsL (Lh (Lt (Ls (Dz (Zn [(67,.bool false),(66,.int .i64 4),(65,zL i 0 4 4),(64,.int .i64 4),(7,.int .i64 4),(69,.int .i64 4),(68,.int .i64 3),(3,.slice o ((((((((h1S s)++([(s.op.kd:Int)]))++wd s.op.am)++tx s.op.ky)++tx s.op.va)++tx s.op.ol)++tx s.op.tx).length) u),(77,.slice o ((((((((h1S s)++([(s.op.kd:Int)]))++wd s.op.am)++tx s.op.ky)++tx s.op.va)++tx s.op.ol)++tx s.op.tx).length) u),(70,.tuple #[.slice o ((((((((h1S s)++([(s.op.kd:Int)]))++wd s.op.am)++tx s.op.ky)++tx s.op.va)++tx s.op.ol)++tx s.op.tx).length) u,.int .i64 0]),(76,.tuple #[.slice o ((((((((h1S s)++([(s.op.kd:Int)]))++wd s.op.am)++tx s.op.ky)++tx s.op.va)++tx s.op.ol)++tx s.op.tx).length) u,.int .i64 0]),(75,.string s.op.tx),(74,zP i 3),(73,.int .i64 3),(72,zL i 0 4 4),(71,.slice e9 (((((((h1S s)++([(s.op.kd:Int)]))++wd s.op.am)++tx s.op.ky)++tx s.op.va)++tx s.op.ol).length) f0),(6,zL i 0 4 4),(2,.slice none 0 0),(1,zP b 0)] ?_))))))))))))))))))
  have i4:St w0 ((Sl o u 5 1 byteC (h2S s))::(Cel i #[.string s.op.ky,.string s.op.va,.string s.op.ol,.string s.op.tx] 9)::(Sl (some ⟨e0,0,none⟩) 1 5 1 byteC ([(s.op.kd:Int)]))::(Cel f #[.int .i64 s.cl,.int .i64 s.wh,.int .i64 s.j,.int .i64 s.k,.int .i64 s.n] 3)::(Cel b (TSt.cells s) 47)::L) i2:=i3
  refine Zn [(67,.bool false),(66,.int .i64 4),(65,zL i 0 4 4),(64,.int .i64 4),(7,.int .i64 4),(69,.int .i64 4),(68,.int .i64 3),(3,.slice o ((h2S s).length) u),(77,.slice o ((((((((h1S s)++([(s.op.kd:Int)]))++wd s.op.am)++tx s.op.ky)++tx s.op.va)++tx s.op.ol)++tx s.op.tx).length) u),(70,.tuple #[.slice o ((((((((h1S s)++([(s.op.kd:Int)]))++wd s.op.am)++tx s.op.ky)++tx s.op.va)++tx s.op.ol)++tx s.op.tx).length) u,.int .i64 0]),(76,.tuple #[.slice o ((((((((h1S s)++([(s.op.kd:Int)]))++wd s.op.am)++tx s.op.ky)++tx s.op.va)++tx s.op.ol)++tx s.op.tx).length) u,.int .i64 0]),(75,.string s.op.tx),(74,zP i 3),(73,.int .i64 3),(72,zL i 0 4 4),(71,.slice e9 (((((((h1S s)++([(s.op.kd:Int)]))++wd s.op.am)++tx s.op.ky)++tx s.op.va)++tx s.op.ol).length) f0),(6,zL i 0 4 4),(2,.slice none 0 0),(1,zP b 0)] ?_
  have hl_h2S:=h2S_len hb
  refine ZD (rds [0,1,2,4,5] (.ef 3 (.ef 6 (.rd 7 .done)))) i4 fun s9 b6 t0=>Zj (Hl 2 4 102 b6 (Hl 5 4 105 b6 Hz)) (Zc (rword_spec (h2S s) s.tm (by first|omega|(simp only [lA,lC,lN,wd_length,hf_length,tx_length,strB_length,loS_length] at *;omega)) hs_.tm b6) ?_)
  rintro t1 t2 ⟨t4,t5,rfl,f2⟩
  refine⟨(opl (n:=[.cell ⟨b,105,none⟩ (.int .u64 s.at_)]) (by kernel_rfl) (okc (f2.cell 4 rfl (by kernel_rfl)) ok0)),(Zc (rword_spec ((h2S s)++wd s.tm) s.at_ (by first|omega|(simp only [lA,lC,lN,wd_length,hf_length,tx_length,strB_length,loS_length] at *;omega)) hs_.at_ f2) ?_)⟩
  rintro t6 t7 ⟨t8,u0,rfl,i5⟩
  refine Lz (Ls (Dz (ZD (rds [0,1,2,3,4,7,8,9] (.ef 5 (.ef 6 (.ef 10 (rds [11,12,13,14] .done))))) i5 fun u1 b7 u2=>Zj (Hl 3 4 103 b7 (Hw8 4 s.re.er (Hl 9 4 104 b7 Hz))) (Zll bytesOK byteF [(s.re.er:Int)] b7 fun i6 u3 f3=>⟨(opl (n:=[.cell ⟨b,104,none⟩ (.string s.re.vl)]) (by kernel_rfl) (okc (f3.cell 5 rfl (by kernel_rfl)) ok0)),(Zap bytesOK byteF (0:Int) (f3.pl 1) (by first|omega|(simp only [lA,lC,lN,wd_length,hf_length,tx_length,strB_length,loS_length] at *;omega)) fun u4 u5 u6 f4=>⟨(opl (n:=[.cell ⟨b,104,none⟩ (.string s.re.vl)]) (by kernel_rfl) (okc (f4.cell 5 rfl (by kernel_rfl)) ok0)),(Zc (rtext_spec ((((h2S s)++wd s.tm)++wd s.at_)++([(s.re.er:Int)])) s.re.vl (by first|omega|(simp only [lA,lC,lN,wd_length,hf_length,tx_length,strB_length,loS_length] at *;omega)) (by omega) f4) ?_)⟩)⟩))))
  rintro u7 u8 ⟨u9,v0,rfl,i8⟩
  refine Lz (Ls (Dz (ZD (rds [0,1,2,3,4,7,8] (.ef 5 (.ef 6 (.ef 9 (.rd 10 .done))))) i8 fun v1 b8 v2=>Zj (Hl 2 5 106 b8 (Hw8 4 (s.pl.length:Nat) (Hl 8 5 106 b8 Hz))) (Zll bytesOK byteF [(s.pl.length:Int)] b8 fun i9 v3 f5=>⟨(opl (n:=[.cell ⟨b,106,none⟩ (.slice s.pa s.pl.length s.pc)]) (by kernel_rfl) (okc (f5.cell 6 rfl (by kernel_rfl)) ok0)),(Zap bytesOK byteF (0:Int) (f5.pl 1) (by first|omega|(simp only [lA,lC,lN,wd_length,hf_length,tx_length,strB_length,loS_length] at *;omega)) fun j1 j2 v4 b9=>⟨(opl (n:=[.cell ⟨b,106,none⟩ (.slice s.pa s.pl.length s.pc)]) (by kernel_rfl) (okc (b9.cell 6 rfl (by kernel_rfl)) ok0)),(GoR.append rfl (by kernel_rfl) bytesOK byteF (ad:=j1) (c:=j2) (xs:=(((((h2S s)++wd s.tm)++wd s.at_)++([(s.re.er:Int)]))++tx s.re.vl)++([(s.pl.length:Int)])) (ys:=s.pl) (adx:=s.pa) (cx:=s.pc) (0:Int) (by kernel_rfl) b9 (hr3 _ (b9.drop 7)) hs_.pn (by first|omega|(simp only [lA,lC,lN,wd_length,hf_length,tx_length,strB_length,loS_length] at *;omega)) (by first|omega|(simp only [lA,lC,lN,wd_length,hf_length,tx_length,strB_length,loS_length] at *;omega)) fun a5 a6 j3 j4=>Lz (Ls (Ls (Dz (Zn [(3,.slice a5 ((((((((h2S s)++wd s.tm)++wd s.at_)++([(s.re.er:Int)]))++tx s.re.vl)++([(s.pl.length:Int)]))++s.pl).length) a6),(2,.slice none 0 0),(1,zP b 0)] ?_)))))⟩)⟩))))
  have x:St w0 ((Sl a5 a6 5 1 byteC (hdS s))::(Sl (some ⟨i9,0,none⟩) 1 5 1 byteC ([(s.pl.length:Int)]))::(Sl (some ⟨i6,0,none⟩) 1 5 1 byteC ([(s.re.er:Int)]))::(Cel i #[.string s.op.ky,.string s.op.va,.string s.op.ol,.string s.op.tx] 9)::(Sl (some ⟨e0,0,none⟩) 1 5 1 byteC ([(s.op.kd:Int)]))::(Cel f #[.int .i64 s.cl,.int .i64 s.wh,.int .i64 s.j,.int .i64 s.k,.int .i64 s.n] 3)::(Cel b (TSt.cells s) 47)::L) j3:=j4
  refine Zn [(3,.slice a5 ((hdS s).length) a6),(2,.slice none 0 0),(1,zP b 0)] ?_
  have hl_hdS:=hdS_len hb
  refine Zaj (Hl 1 6 0 x Hz) (Zt (Zqc (t:=(s.dw:Int) == 14) (fun c0=>?_) (fun c0=>?_)))
  ·have a7:=ieqT c0
   have hlie:=h2 a7
   refine Zgj [3,4,5] (Hla 2 6 12 76 (TBd.cells s.bd) x Hz) (Zc1 (rcarrier_spec s.bd x) fun v7 j5=>Lo (Dz (Zc (rput_spec (⟨1,1,dVc,s.bd,dD32⟩:TMs) (car_ok hs_.bd) (fun w h=>hr1 _ (h.drop 7)) j5) ?_)))
   rintro v8 v9 ⟨w1,w3,rfl,j6⟩
   refine Lo (Dz ?_)
   have f6:=(j6.pl 1)
   refine Zc (rlong_spec (hdS s) (putM (⟨1,1,dVc,s.bd,dD32⟩:TMs)) (by first|omega|(simp only [lA,lC,lN,wd_length,hf_length,tx_length,strB_length,loS_length] at *;omega)) (by have:=putM_len hlie.1;omega) (f6.slNone 1 rfl) (fun w h=>h.rows 0 rfl (byteF).size _) f6) ?_
   rintro w4 w5 ⟨f7,f8,rfl,f9⟩
   refine Lz (Ls (Ls (Dz (Zaj (Hl 1 7 0 f9 Hz) (Zt (Zqc (t:=(s.dw:Int) == 16) (fun c2=>?_) (fun c2=>?_)))))))
   ·have j7:=ieqT c2
    exfalso;omega
   ·refine En (Lk (Lt (Lq (Le (Dz (Zq1 (v:=.slice f7 (((hdS s)++loS (putM (⟨1,1,dVc,s.bd,dD32⟩:TMs))).length) f8) ?_))))))
    have j8:=((((((((f9.pl 0).pl 7).pl 7).pl 7).pl 7).pl 7).pl 7).pl 7)
    have h9:(hdS s)++loS (putM (⟨1,1,dVc,s.bd,dD32⟩:TMs))=putS s:=by
     rw [show putS s=hdS s++tlS s from if_pos hb,show tlS s=loS (putM ⟨1,1,dVc,s.bd,dD32⟩) from if_pos a7]
    exact⟨f7,f8,by rw [← h9],by rw [← h9];exact(j8.dr 7)⟩
  ·have a7:=ieqF c0
   refine Zk (Zt (Zs (Zs (Zaj (Hl 1 6 0 x Hz) (Zt (Zqc (t:=(s.dw:Int) == 16) (fun c3=>?_) (fun c3=>?_)))))))
   ·have b0:=ieqT c3
    obtain⟨p1,p2,p3,p4⟩:=packedB_in (h3 b0).2
    refine Zs (Zgj [9,10] (Hl 3 6 88 x (Hw8 4 s.pk.fr (Hl 7 6 89 x (Hw8 8 s.pk.tw Hz)))) (Zll bytesOK byteF [(s.pk.fr:Int),(s.pk.tw:Int)] x fun w7 w8 k0=>Lo (Dz (Zap bytesOK byteF (0:Int) (k0.pl 1) (by first|omega|(simp only [lA,lC,lN,wd_length,hf_length,tx_length,strB_length,loS_length] at *;omega)) fun c4 c5 w9 k2=>Lz (Ls (Lq (Lb (Dz ?_))))))))
    have k3:=((((((((k2.pl 7).pl 1).pl 7).pl 7).pl 7).pl 7).pl 7).pl 7)
    refine Zn [(8,.int .i64 0),(3,.slice c4 (((hdS s)++([(s.pk.fr:Int),(s.pk.tw:Int)])).length) c5),(2,.slice none 0 0),(1,zP b 0)] (GoC.slots (S':=[(8,.int .i64 0),(3,.slice c4 (((hdS s++[s.pk.fr,s.pk.tw])++(s.pk.kn.toList.take 0).flatMap wd).length) c5),(2,.slice none 0 0),(1,zP b 0)]) (by simp only [List.take_zero,List.flatMap_nil,List.append_nil]) (GoC.loop (T:=Nat×(Option Addr)×Nat) (fun gg=>[(1,zP b 0),(2,.slice none 0 0),(3,.slice gg.2.1 (((hdS s++[s.pk.fr,s.pk.tw])++(s.pk.kn.toList.take gg.1).flatMap wd).length) gg.2.2),(8,.int .i64 (gg.1:Nat))]) (fun gg w=>(gg.1≤11)∧St w0 ((Sl gg.2.1 gg.2.2 5 1 byteC ((hdS s++[s.pk.fr,s.pk.tw])++(s.pk.kn.toList.take gg.1).flatMap wd))::(Cel b (TSt.cells s) 47)::L) w) (fun gg=>11-gg.1) (0,c4,c5) [1,2,3,8] (by kernel_rfl) ⟨Nat.zero_le _,(Zsr (k3.dr 6) (show(hdS s)++([(s.pk.fr:Int),(s.pk.tw:Int)])=(hdS s++[s.pk.fr,s.pk.tw])++(s.pk.kn.toList.take 0).flatMap wd by simp only [List.take_zero,List.flatMap_nil,List.append_nil]))⟩ ?_))
    rintro⟨k,ad,c⟩ x0 ⟨hp,a8⟩
    dsimp only at hp a8
    refine En (Ls (Lq (Dz (Zi ((k:Int)<11) (fun k6=>?_) (fun k6=>?_)))))
    ·have hk:k<11:=by omega
     have htk:=kn_len (s:=s) (k:=k) (by omega)
     refine Zk (Zt (Zs (Zb (Zgj [6] (Hx 4 (k:Int) (11:Int) b 90 1 (Hg 5 (.gen [.int .u64 (s.pk.kn.toList.getD k 0)]) [.cell ⟨b,90+(k*1),none⟩ (.int .u64 (s.pk.kn.toList.getD k 0))] (okc (a8.cell 1 rfl (VecD.midc (off:=90) (d:=s.pk.kn) (by kernel_rfl) (by omega))) ok0) Hz)) (Zc (rword_spec ((hdS s++[s.pk.fr,s.pk.tw])++(s.pk.kn.toList.take k).flatMap wd) (s.pk.kn.toList.getD k 0) (by first|omega|(simp only [lA,lC,lN,wd_length,hf_length,tx_length,strB_length,loS_length] at *;omega)) (hs_.kn (s.pk.kn.toList.getD k 0) (getD_mem (d:=(0:Int)) (by rw [VecD.len];exact hk))) a8) ?_)))))
     rintro x1 x2 ⟨c6,c7,rfl,k7⟩
     exact Lo (Lud (Lm (Lt (Dz (Zaj (Hwi 1 ((k:Nat)+1) Hz) (GoQ.pick [8,3,1,2] (S':=[(8,.int .i64 ((k:Nat)+1)),(3,.slice c6 ((((hdS s++[s.pk.fr,s.pk.tw])++(s.pk.kn.toList.take k).flatMap wd)++wd (s.pk.kn.toList.getD k 0)).length) c7),(1,zP b 0),(2,.slice none 0 0)]) (by kernel_rfl) (GoQ.slots (S':=[(8,.int .i64 ((k:Nat)+1)),(3,.slice c6 (((hdS s++[s.pk.fr,s.pk.tw])++(s.pk.kn.toList.take (k+1)).flatMap wd).length) c7),(1,zP b 0),(2,.slice none 0 0)]) (by rw [(show((hdS s++[s.pk.fr,s.pk.tw])++(s.pk.kn.toList.take k).flatMap wd)++wd (s.pk.kn.toList.getD k 0)=(hdS s++[s.pk.fr,s.pk.tw])++(s.pk.kn.toList.take (k+1)).flatMap wd by simp only [kn_succ hk,List.append_assoc])]) (GoQ.back (k+1,c6,c7) [1,2,3,8] (by kernel_rfl) (by show 11-(k+1)<11-k;omega) ⟨(by omega),(Zsr k7 (show((hdS s++[s.pk.fr,s.pk.tw])++(s.pk.kn.toList.take k).flatMap wd)++wd (s.pk.kn.toList.getD k 0)=(hdS s++[s.pk.fr,s.pk.tw])++(s.pk.kn.toList.take (k+1)).flatMap wd by simp only [kn_succ hk,List.append_assoc]))⟩))))))))
    ·have hke:k=11:=by omega
     subst hke
     have htk:=kn_len (s:=s) (k:=11) (by omega)
     refine Zx (GoQ.skipC (GoQ.skipL (GoQ.hit (Zt (Zs (Zgj [6,7] (Hl 3 1 101 a8 (Hw8 5 (s.pk.ml.length:Nat) Hz)) (Zll bytesOK byteF [(s.pk.ml.length:Int)] a8 fun x3 x4 k9=>Lo (Dz (Zap bytesOK byteF (0:Int) (k9.pl 1) (by first|omega|(simp only [lA,lC,lN,wd_length,hf_length,tx_length,strB_length,loS_length] at *;omega)) fun b2 b3 l1 l2=>Lz (Lq (Lb (Dz ?_))))))))))))
     have l3:=(((l2.pl 2).pl 1).pl 2)
     have l4:=l3.dr 1
     obtain⟨g0,g5⟩:∃ a,a=s.pk.ma:=⟨_,rfl⟩
     have l5:St w0 ((Sl b2 b3 5 1 byteC (((hdS s++[s.pk.fr,s.pk.tw])++(s.pk.kn.toList.take 11).flatMap wd++[(s.pk.ml.length:Int)])++(s.pk.ml.take 0).flatMap (fun m=>loS (putM m))))::(Cel b (TSt.cells (⟨s.dw,s.cl,s.wh,s.j,s.k,s.n,s.op,s.bd,(⟨s.pk.fr,s.pk.tw,s.pk.kn,g0,s.pk.mc,s.pk.ml⟩:TPk),s.tm,s.re,s.at_,s.pa,s.pc,s.pl⟩:TSt)) 47)::L) l1:=(by rw [g5,← (show((hdS s++[s.pk.fr,s.pk.tw])++(s.pk.kn.toList.take 11).flatMap wd)++([(s.pk.ml.length:Int)])=((hdS s++[s.pk.fr,s.pk.tw])++(s.pk.kn.toList.take 11).flatMap wd++[(s.pk.ml.length:Int)])++(s.pk.ml.take 0).flatMap (fun m=>loS (putM m)) by simp only [List.take_zero,List.flatMap_nil,List.append_nil])];exact l4)
     refine Zn [(9,.int .i64 0),(3,.slice b2 ((((hdS s++[s.pk.fr,s.pk.tw])++(s.pk.kn.toList.take 11).flatMap wd)++([(s.pk.ml.length:Int)])).length) b3),(1,zP b 0),(2,.slice none 0 0)] (GoC.slots (S':=[(9,.int .i64 0),(3,.slice b2 ((((hdS s++[s.pk.fr,s.pk.tw])++(s.pk.kn.toList.take 11).flatMap wd++[(s.pk.ml.length:Int)])++(s.pk.ml.take 0).flatMap (fun m=>loS (putM m))).length) b3),(1,zP b 0),(2,.slice none 0 0)]) (by simp only [List.take_zero,List.flatMap_nil,List.append_nil]) (GoC.loop (T:=Nat×(Option Addr)×(Option Addr)×Nat) (fun gg=>[(1,zP b 0),(2,.slice none 0 0),(3,.slice gg.2.2.1 ((((hdS s++[s.pk.fr,s.pk.tw])++(s.pk.kn.toList.take 11).flatMap wd++[(s.pk.ml.length:Int)])++(s.pk.ml.take gg.1).flatMap (fun m=>loS (putM m))).length) gg.2.2.2),(9,.int .i64 (gg.1:Nat))]) (fun gg w=>(gg.1≤s.pk.ml.length∧∀ w,St w0 L w→RowsAt w gg.2.1 s.pk.ml.length 121 (fun q=>TMs.cells (s.pk.ml.getD q dMs)))∧St w0 ((Sl gg.2.2.1 gg.2.2.2 5 1 byteC (((hdS s++[s.pk.fr,s.pk.tw])++(s.pk.kn.toList.take 11).flatMap wd++[(s.pk.ml.length:Int)])++(s.pk.ml.take gg.1).flatMap (fun m=>loS (putM m))))::(Cel b (TSt.cells (⟨s.dw,s.cl,s.wh,s.j,s.k,s.n,s.op,s.bd,(⟨s.pk.fr,s.pk.tw,s.pk.kn,gg.2.1,s.pk.mc,s.pk.ml⟩:TPk),s.tm,s.re,s.at_,s.pa,s.pc,s.pl⟩:TSt)) 47)::L) w) (fun gg=>s.pk.ml.length-gg.1) (0,g0,b2,b3) [1,2,3,9] (by kernel_rfl) ⟨⟨Nat.zero_le _,by rw [g5];exact hr2⟩,l5⟩ ?_))
     rintro⟨k,aq,g7,c1⟩ x5 ⟨hp,a0⟩
     dsimp only at hp a0
     have hw:=hp.2
     refine Zs (Zs (Zaj (Hl 3 1 101 a0 Hz) (Zt (Zi ((k:Int)<(s.pk.ml.length:Nat)) (fun l6=>?_) (fun l6=>?_)))))
     ·have hk:k<s.pk.ml.length:=by omega
      have hmk:=p4 _ (getD_mem (d:=dMs) hk)
      have hml:=putM_len hmk
      have hmt:=ml_len p4 p3 k
      obtain⟨c8,c9,rfl⟩:=RowsAt.isSome (hw _ (a0.drop 2)) (by omega)
      refine Zk (Zt (Zs (Zb (Zgj [7,8] (Hl 3 1 101 a0 (Hx 5 (k:Int) (s.pk.ml.length:Int) c8 c9 121 (Hg 6 (.agg (TMs.cells (s.pk.ml.getD k dMs))) [.prop (Array.size (TMs.cells (s.pk.ml.getD k dMs))=121),.cells ⟨c8,c9+(k*121),none⟩ (TMs.cells (s.pk.ml.getD k dMs))] (okp (by kernel_rfl) (oka (RowsAt.all0 (hw _ (a0.drop 2)) (by first|omega|(simp only [List.length_set];omega)|(simp only [List.length_set,lA,lC,lN];omega)) (Nat.le_of_ble_eq_true (by kernel_rfl)) (by kernel_rfl)) ok0)) Hz))) (Zc (rput_spec (s.pk.ml.getD k dMs) (hms k hk).1 (fun w h=>(hms k hk).2 w (h.drop 2)) a0) ?_)))))
      rintro x6 x7 ⟨x8,x9,rfl,l7⟩
      refine Lo (Dz ?_)
      have g8:=(l7.pl 1)
      refine Zc (rlong_spec (((hdS s++[s.pk.fr,s.pk.tw])++(s.pk.kn.toList.take 11).flatMap wd++[(s.pk.ml.length:Int)])++(s.pk.ml.take k).flatMap (fun m=>loS (putM m))) (putM (s.pk.ml.getD k dMs)) (by first|omega|(simp only [lA,lC,lN,wd_length,hf_length,tx_length,strB_length,loS_length] at *;omega)) (by have:=putM_len hmk;omega) (g8.slNone 1 rfl) (fun w h=>h.rows 0 rfl (byteF).size _) g8) ?_
      rintro y0 y1 ⟨d0,d1,rfl,l8⟩
      refine Lo (Lud (Lm (Lt (Dz (Zaj (Hwi 1 ((k:Nat)+1) Hz) ?_)))))
      have l9:=(((l8.pl 2).pl 1).pl 2)
      exact GoQ.pick [9,3,1,2] (S':=[(9,.int .i64 ((k:Nat)+1)),(3,.slice d0 (((((hdS s++[s.pk.fr,s.pk.tw])++(s.pk.kn.toList.take 11).flatMap wd++[(s.pk.ml.length:Int)])++(s.pk.ml.take k).flatMap (fun m=>loS (putM m)))++loS (putM (s.pk.ml.getD k dMs))).length) d1),(1,zP b 0),(2,.slice none 0 0)]) (by kernel_rfl) (GoQ.slots (S':=[(9,.int .i64 ((k:Nat)+1)),(3,.slice d0 ((((hdS s++[s.pk.fr,s.pk.tw])++(s.pk.kn.toList.take 11).flatMap wd++[(s.pk.ml.length:Int)])++(s.pk.ml.take (k+1)).flatMap (fun m=>loS (putM m))).length) d1),(1,zP b 0),(2,.slice none 0 0)]) (by rw [(show(((hdS s++[s.pk.fr,s.pk.tw])++(s.pk.kn.toList.take 11).flatMap wd++[(s.pk.ml.length:Int)])++(s.pk.ml.take k).flatMap (fun m=>loS (putM m)))++loS (putM (s.pk.ml.getD k dMs))=((hdS s++[s.pk.fr,s.pk.tw])++(s.pk.kn.toList.take 11).flatMap wd++[(s.pk.ml.length:Int)])++(s.pk.ml.take (k+1)).flatMap (fun m=>loS (putM m)) by simp only [ml_succ hk,List.append_assoc])]) (GoQ.back (k+1,some ⟨c8,c9,none⟩,d0,d1) [1,2,3,9] (by kernel_rfl) (by show s.pk.ml.length-(k+1)<s.pk.ml.length-k;omega) ⟨⟨by omega,hw⟩,(Zsr (l9.dr 1) (show(((hdS s++[s.pk.fr,s.pk.tw])++(s.pk.kn.toList.take 11).flatMap wd++[(s.pk.ml.length:Int)])++(s.pk.ml.take k).flatMap (fun m=>loS (putM m)))++loS (putM (s.pk.ml.getD k dMs))=((hdS s++[s.pk.fr,s.pk.tw])++(s.pk.kn.toList.take 11).flatMap wd++[(s.pk.ml.length:Int)])++(s.pk.ml.take (k+1)).flatMap (fun m=>loS (putM m)) by simp only [ml_succ hk,List.append_assoc]))⟩))
     ·have hke:s.pk.ml.take k=s.pk.ml:=List.take_of_length_le (by omega)
      refine En (Lx (LsC (LsL (Lh (Lt (Lq (Le (Dz (Zq1 (v:=.slice g7 ((((hdS s++[s.pk.fr,s.pk.tw])++(s.pk.kn.toList.take 11).flatMap wd++[(s.pk.ml.length:Int)])++(s.pk.ml.take k).flatMap (fun m=>loS (putM m))).length) c1) ?_)))))))))
      have m2:=((a0.pl 0).pl 1)
      have h9:((hdS s++[s.pk.fr,s.pk.tw])++(s.pk.kn.toList.take 11).flatMap wd++[(s.pk.ml.length:Int)])++(s.pk.ml.take k).flatMap (fun m=>loS (putM m))=putS s:=by
       rw [show putS s=hdS s++tlS s from if_pos hb,show tlS s=pkB s.pk from(if_neg a7).trans (if_pos b0)]
       rw [hke];unfold pkB;rw [List.take_of_length_le (by rw [VecD.len];exact Nat.le_refl _)];simp only [List.append_assoc]
      exact⟨g7,c1,by rw [← h9],by rw [← h9];exact(m2.dr 1)⟩
   ·have b0:=ieqF c3
    refine En (Lk (Lt (Lq (Le (Dz (Zq1 (v:=.slice a5 ((hdS s).length) a6) ?_))))))
    have m4:=(((((((x.pl 0).pl 6).pl 6).pl 6).pl 6).pl 6).pl 6)
    have h9:hdS s=putS s:=by
     rw [show putS s=hdS s++tlS s from if_pos hb,show tlS s=[] from(if_neg a7).trans (if_neg b0)]
     rw [List.append_nil]
    exact⟨a5,a6,by rw [← h9],by rw [← h9];exact(m4.dr 6)⟩
end
section
variable {w0 w : World} {L : List Asn} {c : Nat} {az : Option Addr} {cz : Nat}
theorem tk_len2 {n:Nat}{s:CS}{m:Nat}(h:s.1.length≤m):(tk n s).1.length≤m:=by
 unfold tk
 split
 ·exact Nat.zero_le _
 ·rw [List.length_take];omega
theorem rmessage_spec (Q) (r) (sp) (hQ:∀ w,St w0 L w→Q.holds w) (hq:CutOK Q az r cz) (hs:St w0 ((Cel c #[.slice az r.length cz,.bool sp] 85)::L) w):Cs Tryz.prog 43 #[zP c 0] w fun rv w'=>∃ mm2 bb2 rr2 sp2 az2 cz2,rv=.tuple #[.agg (TMs.cells mm2),.bool bb2]∧carP (r,sp)=(conM mm2,bb2,(rr2,sp2))∧MsOK mm2∧CutOK Q az2 rr2 cz2∧St w0 ((Sl mm2.bd.qa mm2.bd.qc 143 2 TPr.cells mm2.bd.ql)::(Cel c #[.slice az2 rr2.length cz2,.bool sp2] 85)::L) w':=by
 refine Zen Tryz.func43 Tryz.ntmps43 (En (Ls (Lg [0] (Dz (Zag (TMs.cells dMs) hs fun b1 w2 a2=>Lz (Ls (Lg [1] (Lw (Zc (rHalf_spec Q r sp (fun w h=>hQ w (h.drop 1)) hq (a2.pl 1)) ?_)))))))))
 rintro c3 c4 ⟨b,f,i,c5,c6,rfl,a4,c7,o,a5⟩
 refine Zojd (Hwi 2 (b:Nat) Hz) (En (Lt (Ls (Lg [2,3,7,8] (Lw (Zc (rRaw_spec Q f i b (fun w h=>hQ w (h.drop 1)) o a5) ?_))))))
 rintro c8 c9 ⟨a6,a7,d,a8,a9,b0,b2,rfl,q,b3,u⟩
 have b4:∀ z∈d,0≤z∧z<256:=by have a:=tk_byt (n:=b) (s:=(f,i)) o.byt;rw [q] at a;exact a
 have b5:d.length≤1000000:=by have a:=tk_len2 (n:=b) (s:=(f,i)) (m:=1000000) o.len;rw [q] at a;exact a
 refine Lo (Dz (Zc (rget_spec (Sl a6 a7 5 1 byteC d) d (fun w h=>h.at_ 0 rfl) (CutOK.new u (j:=0) rfl b4 b5) u) ?_))
 rintro d0 d1 ⟨e,x,rfl,b7,b8,b9⟩
 refine Lo (Lw (Zag (TMs.cells dMs) b9 fun d2 d3 c0=>Lo (Dz (Zu 0 0 (TMs.cells e) c0 fun d4 a0=>Lz (Ls (Dz (Zgj [3] (Hla 0 0 0 121 (TMs.cells e) a0 Hz) (Zu 4 0 (TMs.cells e) a0 fun d5 a1=>Lz (Le (Dz (Zrv 4 (.bool ((x:Int) == 0)) a1 ?_)))))))))))
 have c1:=(((((a1.pl 3).pl 2).pl 4).pl 4).pl 4)
 exact⟨e,(decide (x=0)),a8,a9,b0,b2,(by rw [ib]),(carP_eq a4 q b7),b8,b3,(c1.dr 3)⟩
end
end Go.Proofs.YtlomlmbbiopaaaaGreatDoor
