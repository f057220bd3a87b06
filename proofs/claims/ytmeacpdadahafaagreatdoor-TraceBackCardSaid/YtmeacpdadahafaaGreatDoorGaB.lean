/-
  Several texts in one: TbG, TbH, TbI, TbJ, TbK, TbL.
-/
import Derived.Test.YtmeacpdadahafaaGreatDoorSxT
import Derived.Test.YtmeacpdadahafaaGreatDoorGaA
namespace Go.Proofs.YtmeacpdadahafaaGreatDoor
open Go.RowKit Go.Sx
set_option linter.unusedVariables false
set_option linter.unusedSimpArgs false
set_option linter.unnecessarySimpa false
set_option maxRecDepth 100000
structure BdOK (x:TBd):Prop where
 kd:0≤x.kd∧x.kd≤255
 vw:0≤x.vw∧x.vw≤18446744073709551615
 k:0≤x.k∧x.k≤18446744073709551615
 rq:RqOK x.rq
 ql:∀ p∈x.ql,(-9223372036854775808≤p.rp∧p.rp≤9223372036854775807)∧(0≤p.nm∧p.nm≤18446744073709551615)
 dg:∀ z∈x.dg.toList,0≤z∧z<256
 qn:x.ql.length≤9223372036854775807
def mayB (x:TBd):Bool :=
 if x.kd=1 then askedB x.rq else if x.kd=2∨x.kd=6 then kB x else if x.kd=4 then decide (x.vw ≥ 1) && quorB x.ql else decide (x.vw ≥ 1)
def prB (p:TPr):List Int:=[IntKind.u8.wrap p.rp]++wd p.nm
theorem prB_length (p:TPr):(prB p).length=9:=by rw [prB,lA,wd_length];rfl
theorem prsB_length:∀ l:List TPr,(l.flatMap prB).length=9*l.length
 | []=>rfl
 | p::l=>by rw [List.flatMap_cons,lA,prB_length,prsB_length l,lC];omega
def bd1 (x:TBd):List Int:=wd x.vw++(rqB x.rq++x.rq.tg.toList)
def bd2 (x:TBd):List Int:=wd x.vw++wd x.k
def bd4 (x:TBd):List Int:=wd x.vw++([IntKind.u8.wrap (x.ql.length:Nat)]++x.ql.flatMap prB)
def bd6 (x:TBd):List Int:=wd x.k++x.dg.toList
def bdB (x:TBd):List Int:=if x.kd=1 then bd1 x else if x.kd=2 then bd2 x else if x.kd=4 then bd4 x else if x.kd=6 then bd6 x else wd x.vw
theorem askedB_sz {r:TRq}(h:askedB r=true):RqSz r:=by
 unfold askedB at h
 repeat' split at h
 all_goals first|(cases h;done)|skip
 all_goals simp only [decide_eq_true_eq,Bool.and_eq_true] at *
 all_goals exact⟨by omega,by omega,by omega,by omega⟩
theorem may1_spec {w0 w:World}{L:List Asn}(x:TBd) (hs:St w0 (L) w):Calls Tryz.prog 91 #[.agg (TBd.cells x)] w (Ret fun rv w'=>rv=.bool (askedB x.rq)∧St w0 (L) w'):=by
 refine Zen (args:=[.agg (TBd.cells x)]) Tryz.func91 Tryz.ntmps91 ?_
 refine Zn [(0,.agg (TBd.cells x))] ?_
 refine Zs ?_
 refine Zqt (.ef 0 (.rd 1 .done)) ?_
 refine GoR.box rfl rfl (by kernel_rfl) (v:=.agg (TBd.cells x)) (by kernel_rfl) hs (cs:=TBd.cells x) (by kernel_rfl) ?_
 intro b1 w2 hs3
 refine⟨Zqo,?_⟩
 refine Zr 1 1 [] ?_
 refine Zd (Zt (Zs ?_))
 refine Zqt (.rd 0 (.rd 1 (.ef 2 (.rd 3 .done)))) ?_
 refine Zp 0 2 [(1,.agg (TRq.cells x.rq))] [(1,[.prop (Array.size (TRq.cells x.rq)=40),.cells ⟨b1,3,none⟩ (TRq.cells x.rq)])] (ak (okp (by kernel_rfl) (oka (hs3.cells 0 3 rfl (by kernel_rfl)) ok0)) ak0) ?_
 refine Zqa (f:=92) (args:=#[.agg (TRq.cells x.rq)]) Tryz.call92 (asked_spec x.rq hs3) ?_
 rintro v5 w6 ⟨rfl,hs4⟩
 refine⟨Zqo,?_⟩
 refine Zr 3 1 [] ?_
 refine Zd (Zt (Ze ?_))
 refine Zq1 (v:=.bool (askedB x.rq)) ?_
 have hs7:St w0 (L) w6:=hs4.drop 1
 exact⟨rfl,hs7⟩
theorem may3_spec {w0 w:World}{L:List Asn}(x:TBd) (hs:St w0 (L) w):Calls Tryz.prog 139 #[.agg (TBd.cells x)] w (Ret fun rv w'=>rv=.bool (decide ((x.vw:Int) ≥ 1))∧St w0 (L) w'):=by
 refine Zen (args:=[.agg (TBd.cells x)]) Tryz.func139 Tryz.ntmps139 ?_
 refine Zn [(0,.agg (TBd.cells x))] ?_
 refine Zs ?_
 refine Zqt (.ef 0 (.rd 1 .done)) ?_
 refine GoR.box rfl rfl (by kernel_rfl) (v:=.agg (TBd.cells x)) (by kernel_rfl) hs (cs:=TBd.cells x) (by kernel_rfl) ?_
 intro b1 w2 hs3
 refine⟨Zqo,?_⟩
 refine Zr 1 1 [] ?_
 refine Zd (Zt (Zs ?_))
 refine Zqt (.rd 0 (.rd 1 (.rd 2 (.rd 3 .done)))) ?_
 refine Zp 0 4 [(1,.gen [.int .u64 x.vw])] [(1,[.cell ⟨b1,1,none⟩ (.int .u64 x.vw)])] (ak (okc (hs3.cell 0 rfl (by kernel_rfl)) ok0) ak0) ?_
 refine Zd (Zt (Ze ?_))
 refine Zq1 (v:=.bool (decide ((x.vw:Int) ≥ 1))) ?_
 have hs4:St w0 (L) w2:=hs3.drop 1
 exact⟨rfl,hs4⟩
theorem may4_spec {w0 w:World}{L:List Asn}(x:TBd) (hqn:x.ql.length≤9223372036854775807) (hr:∀ w,St w0 L w→RowsAt w x.qa x.ql.length 2 (fun k=>TPr.cells (x.ql.getD k dPr))) (hs:St w0 (L) w):Calls Tryz.prog 99 #[.agg (TBd.cells x)] w (Ret fun rv w'=>rv=.bool (decide ((x.vw:Int) ≥ 1) && quorB x.ql)∧St w0 (L) w'):=by
 refine Zen (args:=[.agg (TBd.cells x)]) Tryz.func99 Tryz.ntmps99 ?_
 refine Zn [(0,.agg (TBd.cells x))] ?_
 refine Zs ?_
 refine Zqt (.ef 0 (.rd 1 .done)) ?_
 refine GoR.box rfl rfl (by kernel_rfl) (v:=.agg (TBd.cells x)) (by kernel_rfl) hs (cs:=TBd.cells x) (by kernel_rfl) ?_
 intro b1 w2 hs3
 refine⟨Zqo,?_⟩
 refine Zr 1 1 [] ?_
 refine Zd (Zt (Zs ?_))
 refine Zqt (.rd 0 (.rd 1 (.rd 2 (.rd 3 (.rd 4 (.rd 5 (.ef 6 (.rd 7 (.rd 8 .done))))))))) ?_
 refine Zp 0 4 [(1,.gen [.int .u64 x.vw])] [(1,[.cell ⟨b1,1,none⟩ (.int .u64 x.vw)])] (ak (okc (hs3.cell 0 rfl (by kernel_rfl)) ok0) ak0) ?_
 rcases Bool.eq_false_or_eq_true (decide ((x.vw:Int) ≥ 1)) with h4|h4
 ·refine Zqs 6 true h4 ?_
  have h4':(x.vw:Int) ≥ 1:=of_decide_eq_true h4
  refine Zp 4 2 [(5,.gen [.slice x.qa x.ql.length x.qc])] [(5,[.cell ⟨b1,43,none⟩ (.slice x.qa x.ql.length x.qc)])] (ak (okc (hs3.cell 0 rfl (by kernel_rfl)) ok0) ak0) ?_
  refine Zqa (f:=100) (args:=#[.slice x.qa x.ql.length x.qc]) Tryz.call100 (quorum_spec x.ql (by first|assumption|omega) (fun w h=>hr _ (h.drop 1)) hs3) ?_
  rintro v6 w7 ⟨rfl,hs5⟩
  refine⟨Zqo,?_⟩
  refine Zr 7 2 [] ?_
  refine Zd (Zt (Ze ?_))
  refine Zq1 (v:=.bool (quorB x.ql)) ?_
  have hs8:St w0 (L) w7:=hs5.drop 1
  exact⟨(by rw [h4];rfl),hs8⟩
 ·refine Zqs 6 false h4 ?_
  have h4':¬ ((x.vw:Int) ≥ 1):=of_decide_eq_false h4
  refine Zr 4 2 [] ?_
  refine GoR.skip rfl (by kernel_rfl) Zqo ?_
  refine Zr 7 2 [] ?_
  refine Zd (Zt (Ze ?_))
  refine Zq1 (v:=.bool false) ?_
  have hs9:St w0 (L) w2:=hs3.drop 1
  exact⟨(by rw [h4];rfl),hs9⟩
theorem put1_spec {w0 w:World}{L:List Asn}{ad:Option Addr}{c:Nat}(l:List Int) (x:TBd) (hl:l.length≤90000) (hx:BdOK x) (hz:RqSz x.rq) (hs:St w0 ((Sl ad c 5 1 byteC l)::L) w):Calls Tryz.prog 87 #[.slice ad l.length c,.agg (TBd.cells x)] w (Ret fun rv w'=>∃ (ao:Option Addr) (co:Nat),rv=.slice ao ((l++bd1 x).length) co∧St w0 ((Sl ao co 5 1 byteC (l++bd1 x))::L) w'):=by
 refine Zen (args:=[.slice ad l.length c,.agg (TBd.cells x)]) Tryz.func87 Tryz.ntmps87 ?_
 refine Zn [(0,.slice ad l.length c),(1,.agg (TBd.cells x))] ?_
 refine Zs ?_
 have hx1:=hx.vw
 have hrl:=rqB_length hz
 refine Zqt (.ef 0 (.rd 1 .done)) ?_
 refine GoR.box rfl rfl (by kernel_rfl) (v:=.agg (TBd.cells x)) (by kernel_rfl) hs (cs:=TBd.cells x) (by kernel_rfl) ?_
 intro b1 w2 hs3
 refine⟨Zqo,?_⟩
 refine Zr 1 1 [] ?_
 refine Zd (Zt (Zs ?_))
 refine GoC.regD [0,0,2,7,0,16,63,0,128,384,1023,2047] (.rd 0 (.rd 1 (.rd 2 (.rd 4 (.rd 5 (.rd 7 (.rd 8 (.rd 9 (.ef 3 (.ef 6 (.ef 10 (.rd 11 .done)))))))))))) (by kernel_rfl) (by kernel_rfl) noPan_body (by kernel_rfl) hs3 ?_
 intro w4 hs5 hw6
 refine Zh [(0,.gen []),(1,.gen []),(2,.gen [.int .u64 x.vw]),(4,.gen []),(5,.agg (TRq.cells x.rq)),(7,.gen []),(8,.gen []),(9,.as_ (zL b1 11 ((x.rq.tg.toList).length) 32) (.sub 0 32))] [(2,[.cell ⟨b1,1,none⟩ (.int .u64 x.vw)]),(5,[.prop (Array.size (TRq.cells x.rq)=40),.cells ⟨b1,3,none⟩ (TRq.cells x.rq)]),(9,[.prop ((((none:Option Operand))=none→(0:Nat)=0)∧(((none:Option Operand))=none→(32:Nat)=32)∧(0:Nat)≤32∧(32:Nat)≤32),.prop (Value.slice (some (if 32=0 then Addr.mk b1 11 none else (Addr.mk b1 11 none).add (0*1))) (32-0) (32-0)=Value.slice (some ⟨b1,11,none⟩) ((x.rq.tg.toList).length) 32)])] (ak (okc (hs5.cell 0 rfl (by kernel_rfl)) ok0) (ak (okp (by kernel_rfl) (oka (hs5.cells 0 3 rfl (by kernel_rfl)) ok0)) (ak (okp ⟨(by first|(intro _;rfl)|(intro hc;cases hc)),(by first|(intro _;rfl)|(intro hc;cases hc)),(by omega),(by omega)⟩ (okp (by rw [D32.len];exact subArr0 _ _ _ _ _ (by decide)) ok0)) ak0))) ?_
 have hs7:St w0 ((Sl ad c 5 1 byteC l)::(Cel b1 (TBd.cells x) 30)::L) w4:=(hs5.pull 1 rfl)
 refine Zqa (f:=18) (args:=#[.slice ad l.length c,.int .u64 x.vw]) Tryz.call18 (word_spec l x.vw (by first|omega|(simp only [lA,lC,lN,wd_length] at *;omega)) (by omega) hs7) ?_
 rintro v11 w12 ⟨ao8,co9,rfl,hs10⟩
 refine⟨(opl (n:=[.prop ((((none:Option Operand))=none→(0:Nat)=0)∧(((none:Option Operand))=none→(32:Nat)=32)∧(0:Nat)≤32∧(32:Nat)≤32),.prop (Value.slice (some (if 32=0 then Addr.mk b1 11 none else (Addr.mk b1 11 none).add (0*1))) (32-0) (32-0)=Value.slice (some ⟨b1,11,none⟩) ((x.rq.tg.toList).length) 32),.prop (Array.size (TRq.cells x.rq)=40),.cells ⟨b1,3,none⟩ (TRq.cells x.rq)]) (by kernel_rfl) (okp ⟨(by first|(intro _;rfl)|(intro hc;cases hc)),(by first|(intro _;rfl)|(intro hc;cases hc)),(by omega),(by omega)⟩ (okp (by rw [D32.len];exact subArr0 _ _ _ _ _ (by decide)) (okp (by kernel_rfl) (oka (hs10.cells 1 3 rfl (by kernel_rfl)) ok0))))),?_⟩
 refine Zqa (f:=88) (args:=#[.slice ao8 ((l++wd x.vw).length) co9,.agg (TRq.cells x.rq)]) Tryz.call88 (request_spec (l++wd x.vw) x.rq (by simp only [lA,lC,lN,wd_length,hf_length,D32.len,prsB_length] at *;omega) hx.rq hz hs10) ?_
 rintro v16 w17 ⟨ao13,co14,rfl,hs15⟩
 refine⟨(opl (n:=[.prop ((((none:Option Operand))=none→(0:Nat)=0)∧(((none:Option Operand))=none→(32:Nat)=32)∧(0:Nat)≤32∧(32:Nat)≤32),.prop (Value.slice (some (if 32=0 then Addr.mk b1 11 none else (Addr.mk b1 11 none).add (0*1))) (32-0) (32-0)=Value.slice (some ⟨b1,11,none⟩) ((x.rq.tg.toList).length) 32)]) (by kernel_rfl) (okp ⟨(by first|(intro _;rfl)|(intro hc;cases hc)),(by first|(intro _;rfl)|(intro hc;cases hc)),(by omega),(by omega)⟩ (okp (by rw [D32.len];exact subArr0 _ _ _ _ _ (by decide)) ok0))),?_⟩
 refine GoR.append rfl (by kernel_rfl) bytesOK byteF (ad:=ao13) (c:=co14) (xs:=(l++wd x.vw)++rqB x.rq) (ys:=x.rq.tg.toList) (adx:=some ⟨b1,11,none⟩) (cx:=32) (0:Int) (by kernel_rfl) hs15 (D32.mid hs15 1 11 x.rq.tg rfl (by kernel_rfl)) (fun h=>nomatch h) (by simp only [lA,lC,lN,wd_length,hf_length,D32.len,prsB_length] at *;omega) (by simp only [lA,lC,lN,wd_length,hf_length,D32.len,prsB_length] at *;omega) ?_
 intro ad20 c21 w18 hs19
 refine⟨Zqo,?_⟩
 refine Zr 11 1 [] ?_
 refine Zd (Zt (Ze ?_))
 refine Zq1 (v:=.slice ad20 ((((l++wd x.vw)++rqB x.rq)++x.rq.tg.toList).length) c21) ?_
 have hs22:St w0 ((Cel b1 (TBd.cells x) 30)::(Sl ad20 c21 5 1 byteC (((l++wd x.vw)++rqB x.rq)++x.rq.tg.toList))::L) w18:=((hs19.pull 0 rfl).pull 1 rfl)
 have hs23:St w0 ((Sl ad20 c21 5 1 byteC (((l++wd x.vw)++rqB x.rq)++x.rq.tg.toList))::L) w18:=hs22.drop 1
 have h9:((l++wd x.vw)++rqB x.rq)++x.rq.tg.toList=l++bd1 x:=by simp only [bd1,bd2,bd4,bd6,List.append_assoc]
 exact⟨ad20,c21,by rw [h9],by rw [← h9];exact hs23⟩
theorem put2_spec {w0 w:World}{L:List Asn}{ad:Option Addr}{c:Nat}(l:List Int) (x:TBd) (hl:l.length≤90000) (hx:BdOK x) (hs:St w0 ((Sl ad c 5 1 byteC l)::L) w):Calls Tryz.prog 93 #[.slice ad l.length c,.agg (TBd.cells x)] w (Ret fun rv w'=>∃ (ao:Option Addr) (co:Nat),rv=.slice ao ((l++bd2 x).length) co∧St w0 ((Sl ao co 5 1 byteC (l++bd2 x))::L) w'):=by
 refine Zen (args:=[.slice ad l.length c,.agg (TBd.cells x)]) Tryz.func93 Tryz.ntmps93 ?_
 refine Zn [(0,.slice ad l.length c),(1,.agg (TBd.cells x))] ?_
 refine Zs ?_
 have hx1:=hx.vw
 have hx2:=hx.k
 refine Zqt (.ef 0 (.rd 1 .done)) ?_
 refine GoR.box rfl rfl (by kernel_rfl) (v:=.agg (TBd.cells x)) (by kernel_rfl) hs (cs:=TBd.cells x) (by kernel_rfl) ?_
 intro b1 w2 hs3
 refine⟨Zqo,?_⟩
 refine Zr 1 1 [] ?_
 refine Zd (Zt (Zs ?_))
 refine GoC.regD [0,0,2,7,0,16,63,127] (.rd 0 (.rd 1 (.rd 2 (.rd 4 (.rd 5 (.ef 3 (.ef 6 (.rd 7 .done)))))))) (by kernel_rfl) (by kernel_rfl) noPan_body (by kernel_rfl) hs3 ?_
 intro w4 hs5 hw6
 refine Zh [(0,.gen []),(1,.gen []),(2,.gen [.int .u64 x.vw]),(4,.gen []),(5,.gen [.int .u64 x.k])] [(2,[.cell ⟨b1,1,none⟩ (.int .u64 x.vw)]),(5,[.cell ⟨b1,2,none⟩ (.int .u64 x.k)])] (ak (okc (hs5.cell 0 rfl (by kernel_rfl)) ok0) (ak (okc (hs5.cell 0 rfl (by kernel_rfl)) ok0) ak0)) ?_
 have hs7:St w0 ((Sl ad c 5 1 byteC l)::(Cel b1 (TBd.cells x) 30)::L) w4:=(hs5.pull 1 rfl)
 refine Zqa (f:=18) (args:=#[.slice ad l.length c,.int .u64 x.vw]) Tryz.call18 (word_spec l x.vw (by first|omega|(simp only [lA,lC,lN,wd_length] at *;omega)) (by omega) hs7) ?_
 rintro v11 w12 ⟨ao8,co9,rfl,hs10⟩
 refine⟨(opl (n:=[.cell ⟨b1,2,none⟩ (.int .u64 x.k)]) (by kernel_rfl) (okc (hs10.cell 1 rfl (by kernel_rfl)) ok0)),?_⟩
 refine Zqa (f:=18) (args:=#[.slice ao8 ((l++wd x.vw).length) co9,.int .u64 x.k]) Tryz.call18 (word_spec (l++wd x.vw) x.k (by first|omega|(simp only [lA,lC,lN,wd_length] at *;omega)) (by omega) hs10) ?_
 rintro v16 w17 ⟨ao13,co14,rfl,hs15⟩
 refine⟨Zqo,?_⟩
 refine Zr 7 1 [] ?_
 refine Zd (Zt (Ze ?_))
 refine Zq1 (v:=.slice ao13 ((l++wd x.vw++wd x.k).length) co14) ?_
 have hs18:St w0 ((Cel b1 (TBd.cells x) 30)::(Sl ao13 co14 5 1 byteC (l++wd x.vw++wd x.k))::L) w17:=((hs15.pull 0 rfl).pull 1 rfl)
 have hs19:St w0 ((Sl ao13 co14 5 1 byteC (l++wd x.vw++wd x.k))::L) w17:=hs18.drop 1
 have h9:l++wd x.vw++wd x.k=l++bd2 x:=by simp only [bd1,bd2,bd4,bd6,List.append_assoc]
 exact⟨ao13,co14,by rw [h9],by rw [← h9];exact hs19⟩
theorem put3_spec {w0 w:World}{L:List Asn}{ad:Option Addr}{c:Nat}(l:List Int) (x:TBd) (hl:l.length≤90000) (hx:BdOK x) (hs:St w0 ((Sl ad c 5 1 byteC l)::L) w):Calls Tryz.prog 137 #[.slice ad l.length c,.agg (TBd.cells x)] w (Ret fun rv w'=>∃ (ao:Option Addr) (co:Nat),rv=.slice ao ((l++wd x.vw).length) co∧St w0 ((Sl ao co 5 1 byteC (l++wd x.vw))::L) w'):=by
 refine Zen (args:=[.slice ad l.length c,.agg (TBd.cells x)]) Tryz.func137 Tryz.ntmps137 ?_
 refine Zn [(0,.slice ad l.length c),(1,.agg (TBd.cells x))] ?_
 refine Zs ?_
 have hx1:=hx.vw
 have hx2:=hx.k
 refine Zqt (.ef 0 (.rd 1 .done)) ?_
 refine GoR.box rfl rfl (by kernel_rfl) (v:=.agg (TBd.cells x)) (by kernel_rfl) hs (cs:=TBd.cells x) (by kernel_rfl) ?_
 intro b1 w2 hs3
 refine⟨Zqo,?_⟩
 refine Zr 1 1 [] ?_
 refine Zd (Zt (Zs ?_))
 refine Zqt (.rd 0 (.rd 1 (.rd 2 (.ef 3 (.rd 4 .done))))) ?_
 refine Zp 0 3 [(2,.gen [.int .u64 x.vw])] [(2,[.cell ⟨b1,1,none⟩ (.int .u64 x.vw)])] (ak (okc (hs3.cell 0 rfl (by kernel_rfl)) ok0) ak0) ?_
 have hs4:St w0 ((Sl ad c 5 1 byteC l)::(Cel b1 (TBd.cells x) 30)::L) w2:=(hs3.pull 1 rfl)
 refine Zqa (f:=18) (args:=#[.slice ad l.length c,.int .u64 x.vw]) Tryz.call18 (word_spec l x.vw (by first|omega|(simp only [lA,lC,lN,wd_length] at *;omega)) (by omega) hs4) ?_
 rintro v8 w9 ⟨ao5,co6,rfl,hs7⟩
 refine⟨Zqo,?_⟩
 refine Zr 4 1 [] ?_
 refine Zd (Zt (Ze ?_))
 refine Zq1 (v:=.slice ao5 ((l++wd x.vw).length) co6) ?_
 have hs10:St w0 ((Cel b1 (TBd.cells x) 30)::(Sl ao5 co6 5 1 byteC (l++wd x.vw))::L) w9:=((hs7.pull 0 rfl).pull 1 rfl)
 have hs11:St w0 ((Sl ao5 co6 5 1 byteC (l++wd x.vw))::L) w9:=hs10.drop 1
 have h9:l++wd x.vw=l++wd x.vw:=by simp only [bd1,bd2,bd4,bd6,List.append_assoc]
 exact⟨ao5,co6,by rw [h9],by rw [← h9];exact hs11⟩
theorem put6_spec {w0 w:World}{L:List Asn}{ad:Option Addr}{c:Nat}(l:List Int) (x:TBd) (hl:l.length≤90000) (hx:BdOK x) (hs:St w0 ((Sl ad c 5 1 byteC l)::L) w):Calls Tryz.prog 101 #[.slice ad l.length c,.agg (TBd.cells x)] w (Ret fun rv w'=>∃ (ao:Option Addr) (co:Nat),rv=.slice ao ((l++bd6 x).length) co∧St w0 ((Sl ao co 5 1 byteC (l++bd6 x))::L) w'):=by
 refine Zen (args:=[.slice ad l.length c,.agg (TBd.cells x)]) Tryz.func101 Tryz.ntmps101 ?_
 refine Zn [(0,.slice ad l.length c),(1,.agg (TBd.cells x))] ?_
 refine Zs ?_
 have hx1:=hx.vw
 have hx2:=hx.k
 refine Zqt (.ef 0 (.rd 1 .done)) ?_
 refine GoR.box rfl rfl (by kernel_rfl) (v:=.agg (TBd.cells x)) (by kernel_rfl) hs (cs:=TBd.cells x) (by kernel_rfl) ?_
 intro b1 w2 hs3
 refine⟨Zqo,?_⟩
 refine Zr 1 1 [] ?_
 refine Zd (Zt (Zs ?_))
 refine GoC.regD [0,0,2,7,0,16,63,127] (.rd 0 (.rd 1 (.rd 2 (.rd 4 (.rd 5 (.ef 3 (.ef 6 (.rd 7 .done)))))))) (by kernel_rfl) (by kernel_rfl) noPan_body (by kernel_rfl) hs3 ?_
 intro w4 hs5 hw6
 refine Zh [(0,.gen []),(1,.gen []),(2,.gen [.int .u64 x.k]),(4,.gen []),(5,.as_ (zL b1 44 ((x.dg.toList).length) 32) (.sub 0 32))] [(2,[.cell ⟨b1,2,none⟩ (.int .u64 x.k)]),(5,[.prop ((((none:Option Operand))=none→(0:Nat)=0)∧(((none:Option Operand))=none→(32:Nat)=32)∧(0:Nat)≤32∧(32:Nat)≤32),.prop (Value.slice (some (if 32=0 then Addr.mk b1 44 none else (Addr.mk b1 44 none).add (0*1))) (32-0) (32-0)=Value.slice (some ⟨b1,44,none⟩) ((x.dg.toList).length) 32)])] (ak (okc (hs5.cell 0 rfl (by kernel_rfl)) ok0) (ak (okp ⟨(by first|(intro _;rfl)|(intro hc;cases hc)),(by first|(intro _;rfl)|(intro hc;cases hc)),(by omega),(by omega)⟩ (okp (by rw [D32.len];exact subArr0 _ _ _ _ _ (by decide)) ok0)) ak0)) ?_
 have hs7:St w0 ((Sl ad c 5 1 byteC l)::(Cel b1 (TBd.cells x) 30)::L) w4:=(hs5.pull 1 rfl)
 refine Zqa (f:=18) (args:=#[.slice ad l.length c,.int .u64 x.k]) Tryz.call18 (word_spec l x.k (by first|omega|(simp only [lA,lC,lN,wd_length] at *;omega)) (by omega) hs7) ?_
 rintro v11 w12 ⟨ao8,co9,rfl,hs10⟩
 refine⟨(opl (n:=[.prop ((((none:Option Operand))=none→(0:Nat)=0)∧(((none:Option Operand))=none→(32:Nat)=32)∧(0:Nat)≤32∧(32:Nat)≤32),.prop (Value.slice (some (if 32=0 then Addr.mk b1 44 none else (Addr.mk b1 44 none).add (0*1))) (32-0) (32-0)=Value.slice (some ⟨b1,44,none⟩) ((x.dg.toList).length) 32)]) (by kernel_rfl) (okp ⟨(by first|(intro _;rfl)|(intro hc;cases hc)),(by first|(intro _;rfl)|(intro hc;cases hc)),(by omega),(by omega)⟩ (okp (by rw [D32.len];exact subArr0 _ _ _ _ _ (by decide)) ok0))),?_⟩
 refine GoR.append rfl (by kernel_rfl) bytesOK byteF (ad:=ao8) (c:=co9) (xs:=l++wd x.k) (ys:=x.dg.toList) (adx:=some ⟨b1,44,none⟩) (cx:=32) (0:Int) (by kernel_rfl) hs10 (D32.mid hs10 1 44 x.dg rfl (by kernel_rfl)) (fun h=>nomatch h) (by simp only [lA,lC,lN,wd_length,hf_length,D32.len,prsB_length] at *;omega) (by simp only [lA,lC,lN,wd_length,hf_length,D32.len,prsB_length] at *;omega) ?_
 intro ad15 c16 w13 hs14
 refine⟨Zqo,?_⟩
 refine Zr 7 1 [] ?_
 refine Zd (Zt (Ze ?_))
 refine Zq1 (v:=.slice ad15 (((l++wd x.k)++x.dg.toList).length) c16) ?_
 have hs17:St w0 ((Cel b1 (TBd.cells x) 30)::(Sl ad15 c16 5 1 byteC ((l++wd x.k)++x.dg.toList))::L) w13:=((hs14.pull 0 rfl).pull 1 rfl)
 have hs18:St w0 ((Sl ad15 c16 5 1 byteC ((l++wd x.k)++x.dg.toList))::L) w13:=hs17.drop 1
 have h9:(l++wd x.k)++x.dg.toList=l++bd6 x:=by simp only [bd1,bd2,bd4,bd6,List.append_assoc]
 exact⟨ad15,c16,by rw [h9],by rw [← h9];exact hs18⟩
theorem put4_spec {w0 w:World}{L:List Asn}{ad:Option Addr}{c:Nat}(l:List Int) (x:TBd) (hl:l.length≤90000) (hx:BdOK x) (hlq:x.ql.length≤1000) (hr:∀ w,St w0 L w→RowsAt w x.qa x.ql.length 2 (fun k=>TPr.cells (x.ql.getD k dPr))) (hs:St w0 ((Sl ad c 5 1 byteC l)::L) w):Calls Tryz.prog 97 #[.slice ad l.length c,.agg (TBd.cells x)] w (Ret fun rv w'=>∃ (ao:Option Addr) (co:Nat),rv=.slice ao ((l++bd4 x).length) co∧St w0 ((Sl ao co 5 1 byteC (l++bd4 x))::L) w'):=by
 refine Zen (args:=[.slice ad l.length c,.agg (TBd.cells x)]) Tryz.func97 Tryz.ntmps97 ?_
 refine Zn [(0,.slice ad l.length c),(1,.agg (TBd.cells x))] ?_
 refine Zs ?_
 have hx1:=hx.vw
 have hx2:=hx.k
 refine Zqt (.ef 0 (.rd 1 .done)) ?_
 refine GoR.box rfl rfl (by kernel_rfl) (v:=.agg (TBd.cells x)) (by kernel_rfl) hs (cs:=TBd.cells x) (by kernel_rfl) ?_
 intro b1 w2 hs3
 refine⟨Zqo,?_⟩
 refine Zr 1 1 [] ?_
 refine Zd (Zt (Zs ?_))
 refine GoC.join (T:=Option Addr×Nat×Nat) (E:=fun jx=>[(0,.slice jx.1 (((l++wd x.vw)++([(IntKind.u8.wrap (x.ql.length:Nat):Int)])).length) jx.2.1),(3,zP b1 0),(4,.slice none 0 0)]) (F:=fun jx w=>St w0 ((Sl jx.1 jx.2.1 5 1 byteC ((l++wd x.vw)++([(IntKind.u8.wrap (x.ql.length:Nat):Int)])))::(Sl (some ⟨jx.2.2,0,none⟩) 1 5 1 byteC ([(IntKind.u8.wrap (x.ql.length:Nat):Int)]))::(Cel b1 (TBd.cells x) 30)::L) w) ?_ ?_
 ·refine GoC.regD [0,0,2,7,0,16,48,112,240,511,1023] (.rd 0 (.rd 1 (.rd 2 (.rd 4 (.rd 5 (.rd 6 (.rd 7 (.alt (.ef 3 (.ef 8 (.ef 9 (.rd 10 .done)))) (.ef 8 (.ef 3 (.ef 9 (.rd 10 .done)))))))))))) (by kernel_rfl) (by kernel_rfl) noPan_body (by kernel_rfl) hs3 ?_
  intro w4 hs5 hw6
  refine Zh [(0,.gen []),(1,.gen []),(2,.gen [.int .u64 x.vw]),(4,.gen []),(5,.gen [.slice x.qa x.ql.length x.qc]),(6,.gen []),(7,.gen [])] [(2,[.cell ⟨b1,1,none⟩ (.int .u64 x.vw)]),(5,[.cell ⟨b1,43,none⟩ (.slice x.qa x.ql.length x.qc)])] (ak (okc (hs5.cell 0 rfl (by kernel_rfl)) ok0) (ak (okc (hs5.cell 0 rfl (by kernel_rfl)) ok0) ak0)) ?_
  refine GoR.alt ?_ ?_
  ·have hs7:St w0 ((Sl ad c 5 1 byteC l)::(Cel b1 (TBd.cells x) 30)::L) w4:=(hs5.pull 1 rfl)
   refine Zqa (f:=18) (args:=#[.slice ad l.length c,.int .u64 x.vw]) Tryz.call18 (word_spec l x.vw (by first|omega|(simp only [lA,lC,lN,wd_length] at *;omega)) (by omega) hs7) ?_
   rintro v11 w12 ⟨ao8,co9,rfl,hs10⟩
   refine⟨(opl (n:=[.cell ⟨b1,43,none⟩ (.slice x.qa x.ql.length x.qc)]) (by kernel_rfl) (okc (hs10.cell 1 rfl (by kernel_rfl)) ok0)),?_⟩
   refine GoR.sliceLit rfl (by kernel_rfl) (t:=39) (e:=5) (n:=1) (ps:=[(0,.int .u8 (IntKind.u8.wrap (x.ql.length:Nat)))]) (by kernel_rfl) (by kernel_rfl) (ti:=Tryz.t5) (z:=.int .u8 0) (by kernel_rfl) (by kernel_rfl) (by decide) (by decide) (cs:=#[.int .u8 (IntKind.u8.wrap (x.ql.length:Nat))]) (by kernel_rfl) hs10 ?_
   intro b13 w14 hs15 hz16
   have hs17:St w0 ((Sl (some ⟨b13,0,none⟩) 1 5 1 byteC ([(IntKind.u8.wrap (x.ql.length:Nat):Int)]))::(Sl ao8 co9 5 1 byteC (l++wd x.vw))::(Cel b1 (TBd.cells x) 30)::L) w14:=St.slOf (l:=[(IntKind.u8.wrap (x.ql.length:Nat):Int)]) (f:=byteC) hs15 hz16 (byteF).size (by simp only [lC,lN,maxLen];omega) (by kernel_rfl)
   refine⟨(opl (n:=[.cell ⟨b1,1,none⟩ (.int .u64 x.vw)]) (by kernel_rfl) (okc (hs17.cell 2 rfl (by kernel_rfl)) ok0)),?_⟩
   have hs20:St w0 ((Sl ao8 co9 5 1 byteC (l++wd x.vw))::(Sl (some ⟨b13,0,none⟩) 1 5 1 byteC ([(IntKind.u8.wrap (x.ql.length:Nat):Int)]))::(Cel b1 (TBd.cells x) 30)::L) w14:=(hs17.pull 1 rfl)
   refine GoR.append rfl (by kernel_rfl) bytesOK byteF (ad:=ao8) (c:=co9) (xs:=l++wd x.vw) (ys:=[(IntKind.u8.wrap (x.ql.length:Nat):Int)]) (adx:=some ⟨b13,0,none⟩) (cx:=1) (0:Int) (by kernel_rfl) hs20 (hs20.rows 1 rfl (byteF).size (0:Int)) (fun h=>nomatch h) (by simp only [lA,lC,lN,wd_length,hf_length,D32.len,prsB_length] at *;omega) (by simp only [lA,lC,lN,wd_length,hf_length,D32.len,prsB_length] at *;omega) ?_
   intro ad21 c22 w18 hs19
   refine⟨Zqo,?_⟩
   refine Zr 10 1 [] ?_
   refine Zd ?_
   refine GoQ.pick [0,3,4] (S':=[(0,.slice ad21 (((l++wd x.vw)++([(IntKind.u8.wrap (x.ql.length:Nat):Int)])).length) c22),(3,zP b1 0),(4,.slice none 0 0)]) (by kernel_rfl) ?_
   exact GoQ.meet1 (ad21,c22,b13) rfl hs19
  refine GoR.sliceLit rfl (by kernel_rfl) (t:=39) (e:=5) (n:=1) (ps:=[(0,.int .u8 (IntKind.u8.wrap (x.ql.length:Nat)))]) (by kernel_rfl) (by kernel_rfl) (ti:=Tryz.t5) (z:=.int .u8 0) (by kernel_rfl) (by kernel_rfl) (by decide) (by decide) (cs:=#[.int .u8 (IntKind.u8.wrap (x.ql.length:Nat))]) (by kernel_rfl) hs5 ?_
  intro b23 w24 hs25 hz26
  have hs27:St w0 ((Sl (some ⟨b23,0,none⟩) 1 5 1 byteC ([(IntKind.u8.wrap (x.ql.length:Nat):Int)]))::(Cel b1 (TBd.cells x) 30)::(Sl ad c 5 1 byteC l)::L) w24:=St.slOf (l:=[(IntKind.u8.wrap (x.ql.length:Nat):Int)]) (f:=byteC) hs25 hz26 (byteF).size (by simp only [lC,lN,maxLen];omega) (by kernel_rfl)
  refine⟨(opl (n:=[.cell ⟨b1,1,none⟩ (.int .u64 x.vw)]) (by kernel_rfl) (okc (hs27.cell 1 rfl (by kernel_rfl)) ok0)),?_⟩
  have hs28:St w0 ((Sl ad c 5 1 byteC l)::(Sl (some ⟨b23,0,none⟩) 1 5 1 byteC ([(IntKind.u8.wrap (x.ql.length:Nat):Int)]))::(Cel b1 (TBd.cells x) 30)::L) w24:=(hs27.pull 2 rfl)
  refine Zqa (f:=18) (args:=#[.slice ad l.length c,.int .u64 x.vw]) Tryz.call18 (word_spec l x.vw (by first|omega|(simp only [lA,lC,lN,wd_length] at *;omega)) (by omega) hs28) ?_
  rintro v32 w33 ⟨ao29,co30,rfl,hs31⟩
  refine⟨(opl (n:=[.cell ⟨b1,43,none⟩ (.slice x.qa x.ql.length x.qc)]) (by kernel_rfl) (okc (hs31.cell 2 rfl (by kernel_rfl)) ok0)),?_⟩
  refine GoR.append rfl (by kernel_rfl) bytesOK byteF (ad:=ao29) (c:=co30) (xs:=l++wd x.vw) (ys:=[(IntKind.u8.wrap (x.ql.length:Nat):Int)]) (adx:=some ⟨b23,0,none⟩) (cx:=1) (0:Int) (by kernel_rfl) hs31 (hs31.rows 1 rfl (byteF).size (0:Int)) (fun h=>nomatch h) (by simp only [lA,lC,lN,wd_length,hf_length,D32.len,prsB_length] at *;omega) (by simp only [lA,lC,lN,wd_length,hf_length,D32.len,prsB_length] at *;omega) ?_
  intro ad36 c37 w34 hs35
  refine⟨Zqo,?_⟩
  refine Zr 10 1 [] ?_
  refine Zd ?_
  refine GoQ.pick [0,3,4] (S':=[(0,.slice ad36 (((l++wd x.vw)++([(IntKind.u8.wrap (x.ql.length:Nat):Int)])).length) c37),(3,zP b1 0),(4,.slice none 0 0)]) (by kernel_rfl) ?_
  exact GoQ.meet1 (ad36,c37,b23) rfl hs35
 rintro⟨ad38,c39,b40⟩ w41 hs42
 have hs43:St w0 ((Sl ad38 c39 5 1 byteC ((l++wd x.vw)++([(IntKind.u8.wrap (x.ql.length:Nat):Int)])))::(Sl (some ⟨b40,0,none⟩) 1 5 1 byteC ([(IntKind.u8.wrap (x.ql.length:Nat):Int)]))::(Cel b1 (TBd.cells x) 30)::L) w41:=hs42
 refine GoQ.slots (S':=[(0,.slice ad38 (((l++wd x.vw)++([(IntKind.u8.wrap (x.ql.length:Nat):Int)])).length) c39),(3,zP b1 0),(4,.slice none 0 0)]) rfl ?_
 refine Zt (Zs (Zs ?_))
 refine Zqt (.rd 0 (.rd 1 (.rd 2 (.rd 3 .done)))) ?_
 refine Zp 0 4 [(1,.gen [.slice x.qa x.ql.length x.qc])] [(1,[.cell ⟨b1,43,none⟩ (.slice x.qa x.ql.length x.qc)])] (ak (okc (hs43.cell 2 rfl (by kernel_rfl)) ok0) ak0) ?_
 refine Zd (Zt (Zb ?_))
 have hs44:St w0 ((Sl (some ⟨b40,0,none⟩) 1 5 1 byteC ([(IntKind.u8.wrap (x.ql.length:Nat):Int)]))::(Cel b1 (TBd.cells x) 30)::(Sl ad38 c39 5 1 byteC ((l++wd x.vw)++([(IntKind.u8.wrap (x.ql.length:Nat):Int)])))::L) w41:=(((hs43.pull 0 rfl).pull 2 rfl).pull 2 rfl)
 have hs45:St w0 ((Sl ad38 c39 5 1 byteC ((l++wd x.vw)++([(IntKind.u8.wrap (x.ql.length:Nat):Int)])))::L) w41:=hs44.drop 2
 have hs46:St w0 ((Sl ad38 c39 5 1 byteC ((l++(wd x.vw++[IntKind.u8.wrap (x.ql.length:Nat)]))++(x.ql.take 0).flatMap prB))::L) w41:=(show(l++wd x.vw)++([(IntKind.u8.wrap (x.ql.length:Nat):Int)])=(l++(wd x.vw++[IntKind.u8.wrap (x.ql.length:Nat)]))++(x.ql.take 0).flatMap prB by simp only [List.append_assoc,List.take_zero,List.flatMap_nil,List.append_nil])▸hs45
 refine Zn [(20,.int .i64 0),(19,.int .i64 (x.ql.length:Nat)),(18,.slice x.qa x.ql.length x.qc),(0,.slice ad38 (((l++wd x.vw)++([(IntKind.u8.wrap (x.ql.length:Nat):Int)])).length) c39),(4,.slice none 0 0)] ?_
 refine GoC.slots (S':=[(20,.int .i64 0),(19,.int .i64 (x.ql.length:Nat)),(18,.slice x.qa x.ql.length x.qc),(0,.slice ad38 (((l++(wd x.vw++[IntKind.u8.wrap (x.ql.length:Nat)]))++(x.ql.take 0).flatMap prB).length) c39),(4,.slice none 0 0)]) (by rw [(show(l++wd x.vw)++([(IntKind.u8.wrap (x.ql.length:Nat):Int)])=(l++(wd x.vw++[IntKind.u8.wrap (x.ql.length:Nat)]))++(x.ql.take 0).flatMap prB by simp only [List.append_assoc,List.take_zero,List.flatMap_nil,List.append_nil])]) ?_
 refine GoC.loop (T:=Nat×(Option Addr)×(Option Addr)×Nat) (fun gg=>[(0,.slice gg.2.2.1 (((l++(wd x.vw++[IntKind.u8.wrap (x.ql.length:Nat)]))++(x.ql.take gg.1).flatMap prB).length) gg.2.2.2),(4,.slice none 0 0),(18,.slice gg.2.1 x.ql.length x.qc),(19,.int .i64 (x.ql.length:Nat)),(20,.int .i64 (gg.1:Nat))]) (fun gg w=>(gg.1≤x.ql.length∧∀ w,St w0 L w→RowsAt w gg.2.1 x.ql.length 2 (fun q=>TPr.cells (x.ql.getD q dPr)))∧St w0 ((Sl gg.2.2.1 gg.2.2.2 5 1 byteC ((l++(wd x.vw++[IntKind.u8.wrap (x.ql.length:Nat)]))++(x.ql.take gg.1).flatMap prB))::L) w) (fun gg=>x.ql.length-gg.1) (0,x.qa,ad38,c39) [0,4,18,19,20] (by kernel_rfl) ⟨⟨Nat.zero_le _,hr⟩,hs46⟩ ?_
 rintro⟨k,aq,ad1,c1⟩ w47 ⟨hp0,hs48⟩
 have hp:k≤x.ql.length∧∀ w,St w0 L w→RowsAt w aq x.ql.length 2 (fun q=>TPr.cells (x.ql.getD q dPr)):=hp0
 have hs49:St w0 ((Sl ad1 c1 5 1 byteC ((l++(wd x.vw++[IntKind.u8.wrap (x.ql.length:Nat)]))++(x.ql.take k).flatMap prB))::L) w47:=hs48
 refine Zn [(0,.slice ad1 (((l++(wd x.vw++[IntKind.u8.wrap (x.ql.length:Nat)]))++(x.ql.take k).flatMap prB).length) c1),(4,.slice none 0 0),(18,.slice aq x.ql.length x.qc),(19,.int .i64 (x.ql.length:Nat)),(20,.int .i64 (k:Nat))] ?_
 have hw:=hp.2
 refine Zs ?_
 refine Zqt (.rd 0 .done) ?_
 refine Zr 0 1 [] ?_
 refine Zd (Zt (Zs ?_))
 refine Zqc (t:=decide (((k:Nat):Int)<(x.ql.length:Nat))) (fun h50=>?_) (fun h50=>?_)
 ·have h50':((k:Nat):Int)<(x.ql.length:Nat):=of_decide_eq_true h50
  have hk:k<x.ql.length:=by omega
  have hpk:=hx.ql _ (getD_mem (d:=dPr) hk)
  have htk:(x.ql.take k).length=k:=by rw [List.length_take];omega
  have hfk:=prsB_length (x.ql.take k)
  obtain⟨ab51,ao52,rfl⟩:=RowsAt.isSome (hw _ (hs49.drop 1)) (by omega)
  refine Zk (Zt (Zs (Zb (Zs ?_))))
  refine Zqt (.rd 0 (.rd 1 (.ef 2 (.ef 3 .done)))) ?_
  refine Zp 0 2 [(0,.as_ (zP ab51 (ao52+(k*2))) .at_),(1,.agg (TPr.cells (x.ql.getD k dPr)))] [(0,[.prop (0≤((k:Nat):Int)∧((k:Nat):Int)<((x.ql.length:Nat):Int)),.prop (Value.pointer (some (Addr.add ⟨ab51,ao52,none⟩ (Int.toNat (k:Nat)*2)))=Value.pointer (some ⟨ab51,ao52+(k*2),none⟩))]),(1,[.prop (Array.size (TPr.cells (x.ql.getD k dPr))=2),.cells ⟨ab51,ao52+(k*2),none⟩ (TPr.cells (x.ql.getD k dPr))])] (ak (okp (by omega) (okp (ptrAdd _ _ _) ok0)) (ak (okp (by kernel_rfl) (oka (RowsAt.all0 (hw _ (hs49.drop 1)) (by first|omega|(simp only [List.length_set];omega)|(simp only [List.length_set,lA,lC,lN];omega)) (Nat.le_of_ble_eq_true (by kernel_rfl)) (by kernel_rfl)) ok0)) ak0)) ?_
  refine GoR.alloc rfl rfl (by kernel_rfl) (z:=.agg (TPr.cells dPr)) (by kernel_rfl) hs49 (cs:=TPr.cells dPr) (by kernel_rfl) ?_
  intro b53 w54 hs55
  refine⟨Zqo,?_⟩
  refine Zw (b:=b53) (off:=0) (v:=.agg (TPr.cells (x.ql.getD k dPr))) (ti:=Tryz.t205) (by kernel_rfl) hs55 0 (L':=(Cel b53 (TPr.cells (x.ql.getD k dPr)) 205)::(Sl ad1 c1 5 1 byteC ((l++(wd x.vw++[IntKind.u8.wrap (x.ql.length:Nat)]))++(x.ql.take k).flatMap prB))::L) ?_
  intro w56 hs57
  refine⟨Zqo,?_⟩
  refine Zd (Zt ?_)
  refine GoC.regD [0,0,2,6,14,31,0,64,255,511] (.rd 0 (.rd 1 (.rd 2 (.rd 3 (.rd 6 (.rd 7 (.ef 4 (.ef 5 (.ef 8 (.rd 9 .done)))))))))) (by kernel_rfl) (by kernel_rfl) noPan_body (by kernel_rfl) hs57 ?_
  intro w58 hs59 hw60
  refine Zh [(0,.gen []),(1,.gen []),(2,.gen [.int .i64 ((x.ql.getD k dPr).rp)]),(3,.gen []),(6,.gen []),(7,.gen [.int .u64 ((x.ql.getD k dPr).nm)])] [(2,[.cell ⟨b53,0,none⟩ (.int .i64 ((x.ql.getD k dPr).rp))]),(7,[.cell ⟨b53,1,none⟩ (.int .u64 ((x.ql.getD k dPr).nm))])] (ak (okc (hs59.cell 0 rfl (by kernel_rfl)) ok0) (ak (okc (hs59.cell 0 rfl (by kernel_rfl)) ok0) ak0)) ?_
  refine GoR.sliceLit rfl (by kernel_rfl) (t:=39) (e:=5) (n:=1) (ps:=[(0,.int .u8 (IntKind.u8.wrap ((x.ql.getD k dPr).rp)))]) (by kernel_rfl) (by kernel_rfl) (ti:=Tryz.t5) (z:=.int .u8 0) (by kernel_rfl) (by kernel_rfl) (by decide) (by decide) (cs:=#[.int .u8 (IntKind.u8.wrap ((x.ql.getD k dPr).rp))]) (by kernel_rfl) hs59 ?_
  intro b61 w62 hs63 hz64
  have hs65:St w0 ((Sl (some ⟨b61,0,none⟩) 1 5 1 byteC ([(IntKind.u8.wrap ((x.ql.getD k dPr).rp):Int)]))::(Cel b53 (TPr.cells (x.ql.getD k dPr)) 205)::(Sl ad1 c1 5 1 byteC ((l++(wd x.vw++[IntKind.u8.wrap (x.ql.length:Nat)]))++(x.ql.take k).flatMap prB))::L) w62:=St.slOf (l:=[(IntKind.u8.wrap ((x.ql.getD k dPr).rp):Int)]) (f:=byteC) hs63 hz64 (byteF).size (by simp only [lC,lN,maxLen];omega) (by kernel_rfl)
  refine⟨(opl (n:=[.cell ⟨b53,1,none⟩ (.int .u64 ((x.ql.getD k dPr).nm))]) (by kernel_rfl) (okc (hs65.cell 1 rfl (by kernel_rfl)) ok0)),?_⟩
  have hs68:St w0 ((Sl ad1 c1 5 1 byteC ((l++(wd x.vw++[IntKind.u8.wrap (x.ql.length:Nat)]))++(x.ql.take k).flatMap prB))::(Sl (some ⟨b61,0,none⟩) 1 5 1 byteC ([(IntKind.u8.wrap ((x.ql.getD k dPr).rp):Int)]))::(Cel b53 (TPr.cells (x.ql.getD k dPr)) 205)::L) w62:=(hs65.pull 2 rfl)
  refine GoR.append rfl (by kernel_rfl) bytesOK byteF (ad:=ad1) (c:=c1) (xs:=(l++(wd x.vw++[IntKind.u8.wrap (x.ql.length:Nat)]))++(x.ql.take k).flatMap prB) (ys:=[(IntKind.u8.wrap ((x.ql.getD k dPr).rp):Int)]) (adx:=some ⟨b61,0,none⟩) (cx:=1) (0:Int) (by kernel_rfl) hs68 (hs68.rows 1 rfl (byteF).size (0:Int)) (fun h=>nomatch h) (by simp only [lA,lC,lN,wd_length,hf_length,D32.len,prsB_length] at *;omega) (by simp only [lA,lC,lN,wd_length,hf_length,D32.len,prsB_length] at *;omega) ?_
  intro ad69 c70 w66 hs67
  refine⟨(opl (n:=[.cell ⟨b53,1,none⟩ (.int .u64 ((x.ql.getD k dPr).nm))]) (by kernel_rfl) (okc (hs67.cell 2 rfl (by kernel_rfl)) ok0)),?_⟩
  refine Zqa (f:=18) (args:=#[.slice ad69 ((((l++(wd x.vw++[IntKind.u8.wrap (x.ql.length:Nat)]))++(x.ql.take k).flatMap prB)++([(IntKind.u8.wrap ((x.ql.getD k dPr).rp):Int)])).length) c70,.int .u64 ((x.ql.getD k dPr).nm)]) Tryz.call18 (word_spec (((l++(wd x.vw++[IntKind.u8.wrap (x.ql.length:Nat)]))++(x.ql.take k).flatMap prB)++([(IntKind.u8.wrap ((x.ql.getD k dPr).rp):Int)])) ((x.ql.getD k dPr).nm) (by first|omega|(simp only [lA,lC,lN,wd_length] at *;omega)) (by omega) hs67) ?_
  rintro v74 w75 ⟨ao71,co72,rfl,hs73⟩
  refine⟨Zqo,?_⟩
  refine Zr 9 1 [] ?_
  refine Zd (Zm (Zt ?_))
  refine Zqt (.rd 0 (.rd 1 .done)) ?_
  refine Zp 0 2 [(0,.as_ (.int .i64 ((k:Nat)+1)) (.gen []))] [(0,[.prop (Value.int .i64 (IntKind.i64.wrap ((k:Nat)+1))=Value.int .i64 ((k:Nat)+1))])] (ak (okp (i64ok (by omega) (by omega)) ok0) ak0) ?_
  refine Zd ?_
  have hs76:St w0 ((Sl (some ⟨b61,0,none⟩) 1 5 1 byteC ([(IntKind.u8.wrap ((x.ql.getD k dPr).rp):Int)]))::(Cel b53 (TPr.cells (x.ql.getD k dPr)) 205)::(Sl ao71 co72 5 1 byteC (((l++(wd x.vw++[IntKind.u8.wrap (x.ql.length:Nat)]))++(x.ql.take k).flatMap prB)++([(IntKind.u8.wrap ((x.ql.getD k dPr).rp):Int)])++wd ((x.ql.getD k dPr).nm)))::L) w75:=(((hs73.pull 0 rfl).pull 2 rfl).pull 2 rfl)
  have hs77:St w0 ((Sl ao71 co72 5 1 byteC (((l++(wd x.vw++[IntKind.u8.wrap (x.ql.length:Nat)]))++(x.ql.take k).flatMap prB)++([(IntKind.u8.wrap ((x.ql.getD k dPr).rp):Int)])++wd ((x.ql.getD k dPr).nm)))::L) w75:=hs76.drop 2
  have hs78:St w0 ((Sl ao71 co72 5 1 byteC ((l++(wd x.vw++[IntKind.u8.wrap (x.ql.length:Nat)]))++(x.ql.take (k+1)).flatMap prB))::L) w75:=(show((l++(wd x.vw++[IntKind.u8.wrap (x.ql.length:Nat)]))++(x.ql.take k).flatMap prB)++([(IntKind.u8.wrap ((x.ql.getD k dPr).rp):Int)])++wd ((x.ql.getD k dPr).nm)=(l++(wd x.vw++[IntKind.u8.wrap (x.ql.length:Nat)]))++(x.ql.take (k+1)).flatMap prB by rw [take_succ_getD (d:=dPr) hk,List.flatMap_append];simp only [List.append_assoc,List.flatMap_cons,List.flatMap_nil,List.append_nil,prB])▸hs77
  refine GoQ.pick [20,0,4,18,19] (S':=[(20,.int .i64 ((k:Nat)+1)),(0,.slice ao71 ((((l++(wd x.vw++[IntKind.u8.wrap (x.ql.length:Nat)]))++(x.ql.take k).flatMap prB)++([(IntKind.u8.wrap ((x.ql.getD k dPr).rp):Int)])++wd ((x.ql.getD k dPr).nm)).length) co72),(4,.slice none 0 0),(18,zL ab51 ao52 x.ql.length x.qc),(19,.int .i64 (x.ql.length:Nat))]) (by kernel_rfl) ?_
  refine GoQ.slots (S':=[(20,.int .i64 ((k:Nat)+1)),(0,.slice ao71 (((l++(wd x.vw++[IntKind.u8.wrap (x.ql.length:Nat)]))++(x.ql.take (k+1)).flatMap prB).length) co72),(4,.slice none 0 0),(18,zL ab51 ao52 x.ql.length x.qc),(19,.int .i64 (x.ql.length:Nat))]) (by rw [(show((l++(wd x.vw++[IntKind.u8.wrap (x.ql.length:Nat)]))++(x.ql.take k).flatMap prB)++([(IntKind.u8.wrap ((x.ql.getD k dPr).rp):Int)])++wd ((x.ql.getD k dPr).nm)=(l++(wd x.vw++[IntKind.u8.wrap (x.ql.length:Nat)]))++(x.ql.take (k+1)).flatMap prB by rw [take_succ_getD (d:=dPr) hk,List.flatMap_append];simp only [List.append_assoc,List.flatMap_cons,List.flatMap_nil,List.append_nil,prB])]) ?_
  exact GoQ.back (k+1,some ⟨ab51,ao52,none⟩,ao71,co72) [0,4,18,19,20] (by kernel_rfl) (by show x.ql.length-(k+1)<x.ql.length-k;omega) ⟨⟨by omega,hw⟩,hs78⟩
 ·have h50':¬ (((k:Nat):Int)<(x.ql.length:Nat)):=of_decide_eq_false h50
  have hke:x.ql.take k=x.ql:=List.take_of_length_le (by omega)
  refine Zx (GoQ.skipC (GoQ.skipL (GoQ.hit (Zt (Zs ?_)))))
  refine Zqt (.rd 0 (.rd 1 .done)) ?_
  refine Zr 0 2 [] ?_
  refine Zd (Zt (Ze ?_))
  refine Zq1 (v:=.slice ad1 (((l++(wd x.vw++[IntKind.u8.wrap (x.ql.length:Nat)]))++(x.ql.take k).flatMap prB).length) c1) ?_
  have h9:(l++(wd x.vw++[IntKind.u8.wrap (x.ql.length:Nat)]))++(x.ql.take k).flatMap prB=l++bd4 x:=by rw [hke];simp only [bd4,List.append_assoc]
  exact⟨ad1,c1,by rw [h9],by rw [← h9];exact hs49⟩
def g1 (s:CS):TBd×CS :=
 let a:=wordP s
 let b:=rqP a.2
 (⟨1,a.1,0,b.1,none,0,[],dD32⟩,b.2)
def g2 (s:CS):TBd×CS :=
 let a:=wordP s
 let b:=wordP a.2
 (⟨2,a.1,b.1,dRq,none,0,[],dD32⟩,b.2)
def g3 (kd:Int) (s:CS):TBd×CS :=
 let a:=wordP s
 (⟨kd,a.1,0,dRq,none,0,[],dD32⟩,a.2)
def prsP:Nat→CS→List TPr→List TPr×CS
 | 0,s,q=>(q,s)
 | n+1,s,q=>if s.2=true then (q,s) else prsP n (wordP (byteP s).2).2 (q++[⟨(byteP s).1,(wordP (byteP s).2).1⟩])
def g4 (s:CS):TBd×CS :=
 let a:=wordP s
 let n:=byteP a.2
 let q:=prsP n.1.toNat n.2 []
 (⟨4,a.1,0,dRq,none,0,q.1,dD32⟩,q.2)
def g6 (s:CS):TBd×CS :=
 let a:=wordP s
 let b:=hashP a.2
 (⟨6,0,a.1,dRq,none,0,[],b.1⟩,b.2)
def getB (kd:Int) (s:CS):TBd×CS:=if kd=1 then g1 s else if kd=2 then g2 s else if kd=4 then g4 s else if kd=6 then g6 s else g3 kd s
def con (x:TBd):TBd:=⟨x.kd,x.vw,x.k,x.rq,none,0,x.ql,x.dg⟩
theorem dD32_ok:∀ z∈dD32.toList,0≤z∧z<256:=by decide
theorem dRq_ok:RqOK dRq:=⟨by decide,by decide,by decide,by decide,dD32_ok⟩
theorem get1Y_spec {w0 w:World}{L:List Asn}{c:Nat}{az:Option Addr}{cz:Nat}{y:Nat}(Q:Asn) (r:List Int) (sp:Bool) (kd:Int) (hQ:∀ w,St w0 L w→Q.holds w) (hq:CutOK Q az r cz) (hkr:0≤kd∧kd≤255) (hkd:kd=1) (hs:St w0 ((Cel c #[.slice az r.length cz,.bool sp] 124)::(Cel y (TBd.cells (⟨kd,0,0,dRq,none,0,[],dD32⟩:TBd)) 30)::L) w):Calls Tryz.prog 89 #[zP c 0,zP y 0] w (Ret fun rv w'=>∃ (yy2:TBd) (rr2:List Int) (sp2:Bool) (az2:Option Addr) (cz2:Nat),rv=.tuple #[]∧getB kd (r,sp)=(con yy2,(rr2,sp2))∧BdOK yy2∧CutOK Q az2 rr2 cz2∧St w0 ((Cel y (TBd.cells yy2) 30)::(Sl yy2.qa yy2.qc 205 2 TPr.cells yy2.ql)::(Cel c #[.slice az2 rr2.length cz2,.bool sp2] 124)::L) w'):=by
 refine Zen (args:=[zP c 0,zP y 0]) Tryz.func89 Tryz.ntmps89 ?_
 refine Zn [(0,zP c 0),(1,zP y 0)] ?_
 refine Zqt (.rd 0 (.rd 1 (.rd 2 (.ef 3 (.rd 4 (.ef 5 (.rd 6 (.rd 7 (.ef 8 (.rd 9 (.rd 10 (.ef 11 .done)))))))))))) ?_
 refine Zr 0 3 [] ?_
 refine Zqa (f:=31) (args:=#[zP c 0]) Tryz.call31 (cutWord_spec Q r sp (fun w h=>hQ w (h.drop 1)) hq hs) ?_
 rintro v10 w11 ⟨vv1,rr2,sp3,az4,cz5,rfl,he6,hwr7,hq28,hs9⟩
 refine⟨Zqo,?_⟩
 refine Zr 4 1 [] ?_
 refine Zqa (f:=90) (args:=#[zP c 0]) Tryz.call90 (getRequest_spec Q rr2 sp3 (fun w h=>hQ w (h.drop 1)) hq28 hs9) ?_
 rintro v21 w22 ⟨xq12,rr13,sp14,az15,cz16,rfl,he17,hok18,hq219,hs20⟩
 refine⟨Zqo,?_⟩
 refine Zr 6 2 [] ?_
 refine Zw (b:=y) (off:=1) (v:=.int .u64 vv1) (ti:=Tryz.t22) (by kernel_rfl) hs20 1 (L':=(Cel c #[.slice az15 rr13.length cz16,.bool sp14] 124)::(Cel y (TBd.cells (⟨kd,vv1,0,dRq,none,0,[],dD32⟩:TBd)) 30)::L) ?_
 intro w23 hs24
 refine⟨Zqo,?_⟩
 refine Zr 9 2 [] ?_
 refine Zw (b:=y) (off:=3) (v:=.agg (TRq.cells xq12)) (ti:=Tryz.t27) (by kernel_rfl) hs24 1 (L':=(Cel c #[.slice az15 rr13.length cz16,.bool sp14] 124)::(Cel y (TBd.cells (⟨kd,vv1,0,xq12,none,0,[],dD32⟩:TBd)) 30)::L) ?_
 intro w25 hs26
 refine⟨Zqo,?_⟩
 refine Zd ?_
 refine GoQ.done (.inr rfl) (fun a hf=>results0 rfl a hf) ?_
 have hs27:St w0 ((Sl none 0 205 2 TPr.cells ([]:List TPr))::(Cel c #[.slice az15 rr13.length cz16,.bool sp14] 124)::(Cel y (TBd.cells (⟨kd,vv1,0,xq12,none,0,[],dD32⟩:TBd)) 30)::L) w25:=St.slNil hs26 205 2 TPr.cells
 have hs28:St w0 ((Cel y (TBd.cells (⟨kd,vv1,0,xq12,none,0,[],dD32⟩:TBd)) 30)::(Sl none 0 205 2 TPr.cells ([]:List TPr))::(Cel c #[.slice az15 rr13.length cz16,.bool sp14] 124)::L) w25:=(((hs27.pull 1 rfl).pull 1 rfl).pull 2 rfl)
 exact⟨(⟨kd,vv1,0,xq12,none,0,[],dD32⟩:TBd),rr13,sp14,az15,cz16,rfl,((if_pos hkd:getB kd (r,sp)=g1 (r,sp)).trans (by unfold g1;simp only [he6,he17];rw [hkd];rfl)),⟨hkr,(by first|omega|(dsimp only;omega)),(by dsimp only;omega),hok18,(fun p hp=>by cases hp),dD32_ok,Nat.zero_le _⟩,hq219,hs28⟩
theorem get2Y_spec {w0 w:World}{L:List Asn}{c:Nat}{az:Option Addr}{cz:Nat}{y:Nat}(Q:Asn) (r:List Int) (sp:Bool) (kd:Int) (hQ:∀ w,St w0 L w→Q.holds w) (hq:CutOK Q az r cz) (hkr:0≤kd∧kd≤255) (hkd:kd=2) (hs:St w0 ((Cel c #[.slice az r.length cz,.bool sp] 124)::(Cel y (TBd.cells (⟨kd,0,0,dRq,none,0,[],dD32⟩:TBd)) 30)::L) w):Calls Tryz.prog 94 #[zP c 0,zP y 0] w (Ret fun rv w'=>∃ (yy2:TBd) (rr2:List Int) (sp2:Bool) (az2:Option Addr) (cz2:Nat),rv=.tuple #[]∧getB kd (r,sp)=(con yy2,(rr2,sp2))∧BdOK yy2∧CutOK Q az2 rr2 cz2∧St w0 ((Cel y (TBd.cells yy2) 30)::(Sl yy2.qa yy2.qc 205 2 TPr.cells yy2.ql)::(Cel c #[.slice az2 rr2.length cz2,.bool sp2] 124)::L) w'):=by
 refine Zen (args:=[zP c 0,zP y 0]) Tryz.func94 Tryz.ntmps94 ?_
 refine Zn [(0,zP c 0),(1,zP y 0)] ?_
 refine Zqt (.rd 0 (.rd 1 (.rd 2 (.ef 3 (.rd 4 (.ef 5 (.rd 6 (.rd 7 (.ef 8 (.rd 9 (.rd 10 (.ef 11 .done)))))))))))) ?_
 refine Zr 0 3 [] ?_
 refine Zqa (f:=31) (args:=#[zP c 0]) Tryz.call31 (cutWord_spec Q r sp (fun w h=>hQ w (h.drop 1)) hq hs) ?_
 rintro v10 w11 ⟨vv1,rr2,sp3,az4,cz5,rfl,he6,hwr7,hq28,hs9⟩
 refine⟨Zqo,?_⟩
 refine Zr 4 1 [] ?_
 refine Zqa (f:=31) (args:=#[zP c 0]) Tryz.call31 (cutWord_spec Q rr2 sp3 (fun w h=>hQ w (h.drop 1)) hq28 hs9) ?_
 rintro v21 w22 ⟨vv12,rr13,sp14,az15,cz16,rfl,he17,hwr18,hq219,hs20⟩
 refine⟨Zqo,?_⟩
 refine Zr 6 2 [] ?_
 refine Zw (b:=y) (off:=1) (v:=.int .u64 vv1) (ti:=Tryz.t22) (by kernel_rfl) hs20 1 (L':=(Cel c #[.slice az15 rr13.length cz16,.bool sp14] 124)::(Cel y (TBd.cells (⟨kd,vv1,0,dRq,none,0,[],dD32⟩:TBd)) 30)::L) ?_
 intro w23 hs24
 refine⟨Zqo,?_⟩
 refine Zr 9 2 [] ?_
 refine Zw (b:=y) (off:=2) (v:=.int .u64 vv12) (ti:=Tryz.t22) (by kernel_rfl) hs24 1 (L':=(Cel c #[.slice az15 rr13.length cz16,.bool sp14] 124)::(Cel y (TBd.cells (⟨kd,vv1,vv12,dRq,none,0,[],dD32⟩:TBd)) 30)::L) ?_
 intro w25 hs26
 refine⟨Zqo,?_⟩
 refine Zd ?_
 refine GoQ.done (.inr rfl) (fun a hf=>results0 rfl a hf) ?_
 have hs27:St w0 ((Sl none 0 205 2 TPr.cells ([]:List TPr))::(Cel c #[.slice az15 rr13.length cz16,.bool sp14] 124)::(Cel y (TBd.cells (⟨kd,vv1,vv12,dRq,none,0,[],dD32⟩:TBd)) 30)::L) w25:=St.slNil hs26 205 2 TPr.cells
 have hs28:St w0 ((Cel y (TBd.cells (⟨kd,vv1,vv12,dRq,none,0,[],dD32⟩:TBd)) 30)::(Sl none 0 205 2 TPr.cells ([]:List TPr))::(Cel c #[.slice az15 rr13.length cz16,.bool sp14] 124)::L) w25:=(((hs27.pull 1 rfl).pull 1 rfl).pull 2 rfl)
 exact⟨(⟨kd,vv1,vv12,dRq,none,0,[],dD32⟩:TBd),rr13,sp14,az15,cz16,rfl,(((if_neg (by omega)).trans (if_pos hkd):getB kd (r,sp)=g2 (r,sp)).trans (by unfold g2;simp only [he6,he17];rw [hkd];rfl)),⟨hkr,(by first|omega|(dsimp only;omega)),(by first|omega|(dsimp only;omega)),dRq_ok,(fun p hp=>by cases hp),dD32_ok,Nat.zero_le _⟩,hq219,hs28⟩
theorem get3Y_spec {w0 w:World}{L:List Asn}{c:Nat}{az:Option Addr}{cz:Nat}{y:Nat}(Q:Asn) (r:List Int) (sp:Bool) (kd:Int) (hQ:∀ w,St w0 L w→Q.holds w) (hq:CutOK Q az r cz) (hkr:0≤kd∧kd≤255) (hkd:kd=3∨kd=5) (hs:St w0 ((Cel c #[.slice az r.length cz,.bool sp] 124)::(Cel y (TBd.cells (⟨kd,0,0,dRq,none,0,[],dD32⟩:TBd)) 30)::L) w):Calls Tryz.prog 138 #[zP c 0,zP y 0] w (Ret fun rv w'=>∃ (yy2:TBd) (rr2:List Int) (sp2:Bool) (az2:Option Addr) (cz2:Nat),rv=.tuple #[]∧getB kd (r,sp)=(con yy2,(rr2,sp2))∧BdOK yy2∧CutOK Q az2 rr2 cz2∧St w0 ((Cel y (TBd.cells yy2) 30)::(Sl yy2.qa yy2.qc 205 2 TPr.cells yy2.ql)::(Cel c #[.slice az2 rr2.length cz2,.bool sp2] 124)::L) w'):=by
 refine Zen (args:=[zP c 0,zP y 0]) Tryz.func138 Tryz.ntmps138 ?_
 refine Zn [(0,zP c 0),(1,zP y 0)] ?_
 refine Zqt (.rd 0 (.rd 1 (.ef 2 (.rd 3 (.rd 4 (.ef 5 .done)))))) ?_
 refine Zr 0 2 [] ?_
 refine Zqa (f:=31) (args:=#[zP c 0]) Tryz.call31 (cutWord_spec Q r sp (fun w h=>hQ w (h.drop 1)) hq hs) ?_
 rintro v10 w11 ⟨vv1,rr2,sp3,az4,cz5,rfl,he6,hwr7,hq28,hs9⟩
 refine⟨Zqo,?_⟩
 refine Zr 3 2 [] ?_
 refine Zw (b:=y) (off:=1) (v:=.int .u64 vv1) (ti:=Tryz.t22) (by kernel_rfl) hs9 1 (L':=(Cel c #[.slice az4 rr2.length cz5,.bool sp3] 124)::(Cel y (TBd.cells (⟨kd,vv1,0,dRq,none,0,[],dD32⟩:TBd)) 30)::L) ?_
 intro w12 hs13
 refine⟨Zqo,?_⟩
 refine Zd ?_
 refine GoQ.done (.inr rfl) (fun a hf=>results0 rfl a hf) ?_
 have hs14:St w0 ((Sl none 0 205 2 TPr.cells ([]:List TPr))::(Cel c #[.slice az4 rr2.length cz5,.bool sp3] 124)::(Cel y (TBd.cells (⟨kd,vv1,0,dRq,none,0,[],dD32⟩:TBd)) 30)::L) w12:=St.slNil hs13 205 2 TPr.cells
 have hs15:St w0 ((Cel y (TBd.cells (⟨kd,vv1,0,dRq,none,0,[],dD32⟩:TBd)) 30)::(Sl none 0 205 2 TPr.cells ([]:List TPr))::(Cel c #[.slice az4 rr2.length cz5,.bool sp3] 124)::L) w12:=(((hs14.pull 1 rfl).pull 1 rfl).pull 2 rfl)
 exact⟨(⟨kd,vv1,0,dRq,none,0,[],dD32⟩:TBd),rr2,sp3,az4,cz5,rfl,(((if_neg (by omega)).trans ((if_neg (by omega)).trans ((if_neg (by omega)).trans (if_neg (by omega)))):getB kd (r,sp)=g3 kd (r,sp)).trans (by unfold g3;simp only [he6];rfl)),⟨hkr,(by first|omega|(dsimp only;omega)),(by dsimp only;omega),dRq_ok,(fun p hp=>by cases hp),dD32_ok,Nat.zero_le _⟩,hq28,hs15⟩
theorem get6Y_spec {w0 w:World}{L:List Asn}{c:Nat}{az:Option Addr}{cz:Nat}{y:Nat}(Q:Asn) (r:List Int) (sp:Bool) (kd:Int) (hQ:∀ w,St w0 L w→Q.holds w) (hq:CutOK Q az r cz) (hkr:0≤kd∧kd≤255) (hkd:kd=6) (hs:St w0 ((Cel c #[.slice az r.length cz,.bool sp] 124)::(Cel y (TBd.cells (⟨kd,0,0,dRq,none,0,[],dD32⟩:TBd)) 30)::L) w):Calls Tryz.prog 102 #[zP c 0,zP y 0] w (Ret fun rv w'=>∃ (yy2:TBd) (rr2:List Int) (sp2:Bool) (az2:Option Addr) (cz2:Nat),rv=.tuple #[]∧getB kd (r,sp)=(con yy2,(rr2,sp2))∧BdOK yy2∧CutOK Q az2 rr2 cz2∧St w0 ((Cel y (TBd.cells yy2) 30)::(Sl yy2.qa yy2.qc 205 2 TPr.cells yy2.ql)::(Cel c #[.slice az2 rr2.length cz2,.bool sp2] 124)::L) w'):=by
 refine Zen (args:=[zP c 0,zP y 0]) Tryz.func102 Tryz.ntmps102 ?_
 refine Zn [(0,zP c 0),(1,zP y 0)] ?_
 refine Zqt (.rd 0 (.rd 1 (.rd 2 (.ef 3 (.rd 4 (.ef 5 (.rd 6 (.rd 7 (.ef 8 (.rd 9 (.rd 10 (.ef 11 .done)))))))))))) ?_
 refine Zr 0 3 [] ?_
 refine Zqa (f:=31) (args:=#[zP c 0]) Tryz.call31 (cutWord_spec Q r sp (fun w h=>hQ w (h.drop 1)) hq hs) ?_
 rintro v10 w11 ⟨vv1,rr2,sp3,az4,cz5,rfl,he6,hwr7,hq28,hs9⟩
 refine⟨Zqo,?_⟩
 refine Zr 4 1 [] ?_
 refine Zqa (f:=72) (args:=#[zP c 0]) Tryz.call72 (hash_spec Q rr2 sp3 (fun w h=>hQ w (h.drop 1)) hq28 hs9) ?_
 rintro v21 w22 ⟨dd12,rr13,sp14,az15,cz16,rfl,he17,hdb18,hq219,hs20⟩
 refine⟨Zqo,?_⟩
 refine Zr 6 2 [] ?_
 refine Zw (b:=y) (off:=2) (v:=.int .u64 vv1) (ti:=Tryz.t22) (by kernel_rfl) hs20 1 (L':=(Cel c #[.slice az15 rr13.length cz16,.bool sp14] 124)::(Cel y (TBd.cells (⟨kd,0,vv1,dRq,none,0,[],dD32⟩:TBd)) 30)::L) ?_
 intro w23 hs24
 refine⟨Zqo,?_⟩
 refine Zr 9 2 [] ?_
 refine Zw (b:=y) (off:=44) (v:=.agg (D32.cells dd12)) (ti:=Tryz.t25) (by kernel_rfl) hs24 1 (L':=(Cel c #[.slice az15 rr13.length cz16,.bool sp14] 124)::(Cel y (TBd.cells (⟨kd,0,vv1,dRq,none,0,[],dd12⟩:TBd)) 30)::L) ?_
 intro w25 hs26
 refine⟨Zqo,?_⟩
 refine Zd ?_
 refine GoQ.done (.inr rfl) (fun a hf=>results0 rfl a hf) ?_
 have hs27:St w0 ((Sl none 0 205 2 TPr.cells ([]:List TPr))::(Cel c #[.slice az15 rr13.length cz16,.bool sp14] 124)::(Cel y (TBd.cells (⟨kd,0,vv1,dRq,none,0,[],dd12⟩:TBd)) 30)::L) w25:=St.slNil hs26 205 2 TPr.cells
 have hs28:St w0 ((Cel y (TBd.cells (⟨kd,0,vv1,dRq,none,0,[],dd12⟩:TBd)) 30)::(Sl none 0 205 2 TPr.cells ([]:List TPr))::(Cel c #[.slice az15 rr13.length cz16,.bool sp14] 124)::L) w25:=(((hs27.pull 1 rfl).pull 1 rfl).pull 2 rfl)
 exact⟨(⟨kd,0,vv1,dRq,none,0,[],dd12⟩:TBd),rr13,sp14,az15,cz16,rfl,(((if_neg (by omega)).trans ((if_neg (by omega)).trans ((if_neg (by omega)).trans (if_pos hkd))):getB kd (r,sp)=g6 (r,sp)).trans (by unfold g6;simp only [he6,he17];rw [hkd];rfl)),⟨hkr,(by dsimp only;omega),(by first|omega|(dsimp only;omega)),dRq_ok,(fun p hp=>by cases hp),hdb18,Nat.zero_le _⟩,hq219,hs28⟩
theorem get1M_spec {w0 w:World}{L:List Asn}{c:Nat}{az:Option Addr}{cz:Nat}{y:Nat}{og:Int}{nr:Int}{dp:VecD}{tg:D32}(Q:Asn) (r:List Int) (sp:Bool) (kd:Int) (hQ:∀ w,St w0 L w→Q.holds w) (hq:CutOK Q az r cz) (hkr:0≤kd∧kd≤255) (hkd:kd=1) (hs:St w0 ((Cel c #[.slice az r.length cz,.bool sp] 124)::(Cel y (TMs.cells (⟨og,nr,dp,(⟨kd,0,0,dRq,none,0,[],dD32⟩:TBd),tg⟩:TMs)) 58)::L) w):Calls Tryz.prog 89 #[zP c 0,zP y 13] w (Ret fun rv w'=>∃ (yy2:TBd) (rr2:List Int) (sp2:Bool) (az2:Option Addr) (cz2:Nat),rv=.tuple #[]∧getB kd (r,sp)=(con yy2,(rr2,sp2))∧BdOK yy2∧CutOK Q az2 rr2 cz2∧St w0 ((Cel y (TMs.cells (⟨og,nr,dp,yy2,tg⟩:TMs)) 58)::(Sl yy2.qa yy2.qc 205 2 TPr.cells yy2.ql)::(Cel c #[.slice az2 rr2.length cz2,.bool sp2] 124)::L) w'):=by
 refine Zen (args:=[zP c 0,zP y 13]) Tryz.func89 Tryz.ntmps89 ?_
 refine Zn [(0,zP c 0),(1,zP y 13)] ?_
 refine Zqt (.rd 0 (.rd 1 (.rd 2 (.ef 3 (.rd 4 (.ef 5 (.rd 6 (.rd 7 (.ef 8 (.rd 9 (.rd 10 (.ef 11 .done)))))))))))) ?_
 refine Zr 0 3 [] ?_
 refine Zqa (f:=31) (args:=#[zP c 0]) Tryz.call31 (cutWord_spec Q r sp (fun w h=>hQ w (h.drop 1)) hq hs) ?_
 rintro v10 w11 ⟨vv1,rr2,sp3,az4,cz5,rfl,he6,hwr7,hq28,hs9⟩
 refine⟨Zqo,?_⟩
 refine Zr 4 1 [] ?_
 refine Zqa (f:=90) (args:=#[zP c 0]) Tryz.call90 (getRequest_spec Q rr2 sp3 (fun w h=>hQ w (h.drop 1)) hq28 hs9) ?_
 rintro v21 w22 ⟨xq12,rr13,sp14,az15,cz16,rfl,he17,hok18,hq219,hs20⟩
 refine⟨Zqo,?_⟩
 refine Zr 6 2 [] ?_
 refine Zw (b:=y) (off:=14) (v:=.int .u64 vv1) (ti:=Tryz.t22) (by kernel_rfl) hs20 1 (L':=(Cel c #[.slice az15 rr13.length cz16,.bool sp14] 124)::(Cel y (TMs.cells (⟨og,nr,dp,(⟨kd,vv1,0,dRq,none,0,[],dD32⟩:TBd),tg⟩:TMs)) 58)::L) ?_
 intro w23 hs24
 refine⟨Zqo,?_⟩
 refine Zr 9 2 [] ?_
 refine Zw (b:=y) (off:=16) (v:=.agg (TRq.cells xq12)) (ti:=Tryz.t27) (by kernel_rfl) hs24 1 (L':=(Cel c #[.slice az15 rr13.length cz16,.bool sp14] 124)::(Cel y (TMs.cells (⟨og,nr,dp,(⟨kd,vv1,0,xq12,none,0,[],dD32⟩:TBd),tg⟩:TMs)) 58)::L) ?_
 intro w25 hs26
 refine⟨Zqo,?_⟩
 refine Zd ?_
 refine GoQ.done (.inr rfl) (fun a hf=>results0 rfl a hf) ?_
 have hs27:St w0 ((Sl none 0 205 2 TPr.cells ([]:List TPr))::(Cel c #[.slice az15 rr13.length cz16,.bool sp14] 124)::(Cel y (TMs.cells (⟨og,nr,dp,(⟨kd,vv1,0,xq12,none,0,[],dD32⟩:TBd),tg⟩:TMs)) 58)::L) w25:=St.slNil hs26 205 2 TPr.cells
 have hs28:St w0 ((Cel y (TMs.cells (⟨og,nr,dp,(⟨kd,vv1,0,xq12,none,0,[],dD32⟩:TBd),tg⟩:TMs)) 58)::(Sl none 0 205 2 TPr.cells ([]:List TPr))::(Cel c #[.slice az15 rr13.length cz16,.bool sp14] 124)::L) w25:=(((hs27.pull 1 rfl).pull 1 rfl).pull 2 rfl)
 exact⟨(⟨kd,vv1,0,xq12,none,0,[],dD32⟩:TBd),rr13,sp14,az15,cz16,rfl,((if_pos hkd:getB kd (r,sp)=g1 (r,sp)).trans (by unfold g1;simp only [he6,he17];rw [hkd];rfl)),⟨hkr,(by first|omega|(dsimp only;omega)),(by dsimp only;omega),hok18,(fun p hp=>by cases hp),dD32_ok,Nat.zero_le _⟩,hq219,hs28⟩
theorem get2M_spec {w0 w:World}{L:List Asn}{c:Nat}{az:Option Addr}{cz:Nat}{y:Nat}{og:Int}{nr:Int}{dp:VecD}{tg:D32}(Q:Asn) (r:List Int) (sp:Bool) (kd:Int) (hQ:∀ w,St w0 L w→Q.holds w) (hq:CutOK Q az r cz) (hkr:0≤kd∧kd≤255) (hkd:kd=2) (hs:St w0 ((Cel c #[.slice az r.length cz,.bool sp] 124)::(Cel y (TMs.cells (⟨og,nr,dp,(⟨kd,0,0,dRq,none,0,[],dD32⟩:TBd),tg⟩:TMs)) 58)::L) w):Calls Tryz.prog 94 #[zP c 0,zP y 13] w (Ret fun rv w'=>∃ (yy2:TBd) (rr2:List Int) (sp2:Bool) (az2:Option Addr) (cz2:Nat),rv=.tuple #[]∧getB kd (r,sp)=(con yy2,(rr2,sp2))∧BdOK yy2∧CutOK Q az2 rr2 cz2∧St w0 ((Cel y (TMs.cells (⟨og,nr,dp,yy2,tg⟩:TMs)) 58)::(Sl yy2.qa yy2.qc 205 2 TPr.cells yy2.ql)::(Cel c #[.slice az2 rr2.length cz2,.bool sp2] 124)::L) w'):=by
 refine Zen (args:=[zP c 0,zP y 13]) Tryz.func94 Tryz.ntmps94 ?_
 refine Zn [(0,zP c 0),(1,zP y 13)] ?_
 refine Zqt (.rd 0 (.rd 1 (.rd 2 (.ef 3 (.rd 4 (.ef 5 (.rd 6 (.rd 7 (.ef 8 (.rd 9 (.rd 10 (.ef 11 .done)))))))))))) ?_
 refine Zr 0 3 [] ?_
 refine Zqa (f:=31) (args:=#[zP c 0]) Tryz.call31 (cutWord_spec Q r sp (fun w h=>hQ w (h.drop 1)) hq hs) ?_
 rintro v10 w11 ⟨vv1,rr2,sp3,az4,cz5,rfl,he6,hwr7,hq28,hs9⟩
 refine⟨Zqo,?_⟩
 refine Zr 4 1 [] ?_
 refine Zqa (f:=31) (args:=#[zP c 0]) Tryz.call31 (cutWord_spec Q rr2 sp3 (fun w h=>hQ w (h.drop 1)) hq28 hs9) ?_
 rintro v21 w22 ⟨vv12,rr13,sp14,az15,cz16,rfl,he17,hwr18,hq219,hs20⟩
 refine⟨Zqo,?_⟩
 refine Zr 6 2 [] ?_
 refine Zw (b:=y) (off:=14) (v:=.int .u64 vv1) (ti:=Tryz.t22) (by kernel_rfl) hs20 1 (L':=(Cel c #[.slice az15 rr13.length cz16,.bool sp14] 124)::(Cel y (TMs.cells (⟨og,nr,dp,(⟨kd,vv1,0,dRq,none,0,[],dD32⟩:TBd),tg⟩:TMs)) 58)::L) ?_
 intro w23 hs24
 refine⟨Zqo,?_⟩
 refine Zr 9 2 [] ?_
 refine Zw (b:=y) (off:=15) (v:=.int .u64 vv12) (ti:=Tryz.t22) (by kernel_rfl) hs24 1 (L':=(Cel c #[.slice az15 rr13.length cz16,.bool sp14] 124)::(Cel y (TMs.cells (⟨og,nr,dp,(⟨kd,vv1,vv12,dRq,none,0,[],dD32⟩:TBd),tg⟩:TMs)) 58)::L) ?_
 intro w25 hs26
 refine⟨Zqo,?_⟩
 refine Zd ?_
 refine GoQ.done (.inr rfl) (fun a hf=>results0 rfl a hf) ?_
 have hs27:St w0 ((Sl none 0 205 2 TPr.cells ([]:List TPr))::(Cel c #[.slice az15 rr13.length cz16,.bool sp14] 124)::(Cel y (TMs.cells (⟨og,nr,dp,(⟨kd,vv1,vv12,dRq,none,0,[],dD32⟩:TBd),tg⟩:TMs)) 58)::L) w25:=St.slNil hs26 205 2 TPr.cells
 have hs28:St w0 ((Cel y (TMs.cells (⟨og,nr,dp,(⟨kd,vv1,vv12,dRq,none,0,[],dD32⟩:TBd),tg⟩:TMs)) 58)::(Sl none 0 205 2 TPr.cells ([]:List TPr))::(Cel c #[.slice az15 rr13.length cz16,.bool sp14] 124)::L) w25:=(((hs27.pull 1 rfl).pull 1 rfl).pull 2 rfl)
 exact⟨(⟨kd,vv1,vv12,dRq,none,0,[],dD32⟩:TBd),rr13,sp14,az15,cz16,rfl,(((if_neg (by omega)).trans (if_pos hkd):getB kd (r,sp)=g2 (r,sp)).trans (by unfold g2;simp only [he6,he17];rw [hkd];rfl)),⟨hkr,(by first|omega|(dsimp only;omega)),(by first|omega|(dsimp only;omega)),dRq_ok,(fun p hp=>by cases hp),dD32_ok,Nat.zero_le _⟩,hq219,hs28⟩
theorem get3M_spec {w0 w:World}{L:List Asn}{c:Nat}{az:Option Addr}{cz:Nat}{y:Nat}{og:Int}{nr:Int}{dp:VecD}{tg:D32}(Q:Asn) (r:List Int) (sp:Bool) (kd:Int) (hQ:∀ w,St w0 L w→Q.holds w) (hq:CutOK Q az r cz) (hkr:0≤kd∧kd≤255) (hkd:kd=3∨kd=5) (hs:St w0 ((Cel c #[.slice az r.length cz,.bool sp] 124)::(Cel y (TMs.cells (⟨og,nr,dp,(⟨kd,0,0,dRq,none,0,[],dD32⟩:TBd),tg⟩:TMs)) 58)::L) w):Calls Tryz.prog 138 #[zP c 0,zP y 13] w (Ret fun rv w'=>∃ (yy2:TBd) (rr2:List Int) (sp2:Bool) (az2:Option Addr) (cz2:Nat),rv=.tuple #[]∧getB kd (r,sp)=(con yy2,(rr2,sp2))∧BdOK yy2∧CutOK Q az2 rr2 cz2∧St w0 ((Cel y (TMs.cells (⟨og,nr,dp,yy2,tg⟩:TMs)) 58)::(Sl yy2.qa yy2.qc 205 2 TPr.cells yy2.ql)::(Cel c #[.slice az2 rr2.length cz2,.bool sp2] 124)::L) w'):=by
 refine Zen (args:=[zP c 0,zP y 13]) Tryz.func138 Tryz.ntmps138 ?_
 refine Zn [(0,zP c 0),(1,zP y 13)] ?_
 refine Zqt (.rd 0 (.rd 1 (.ef 2 (.rd 3 (.rd 4 (.ef 5 .done)))))) ?_
 refine Zr 0 2 [] ?_
 refine Zqa (f:=31) (args:=#[zP c 0]) Tryz.call31 (cutWord_spec Q r sp (fun w h=>hQ w (h.drop 1)) hq hs) ?_
 rintro v10 w11 ⟨vv1,rr2,sp3,az4,cz5,rfl,he6,hwr7,hq28,hs9⟩
 refine⟨Zqo,?_⟩
 refine Zr 3 2 [] ?_
 refine Zw (b:=y) (off:=14) (v:=.int .u64 vv1) (ti:=Tryz.t22) (by kernel_rfl) hs9 1 (L':=(Cel c #[.slice az4 rr2.length cz5,.bool sp3] 124)::(Cel y (TMs.cells (⟨og,nr,dp,(⟨kd,vv1,0,dRq,none,0,[],dD32⟩:TBd),tg⟩:TMs)) 58)::L) ?_
 intro w12 hs13
 refine⟨Zqo,?_⟩
 refine Zd ?_
 refine GoQ.done (.inr rfl) (fun a hf=>results0 rfl a hf) ?_
 have hs14:St w0 ((Sl none 0 205 2 TPr.cells ([]:List TPr))::(Cel c #[.slice az4 rr2.length cz5,.bool sp3] 124)::(Cel y (TMs.cells (⟨og,nr,dp,(⟨kd,vv1,0,dRq,none,0,[],dD32⟩:TBd),tg⟩:TMs)) 58)::L) w12:=St.slNil hs13 205 2 TPr.cells
 have hs15:St w0 ((Cel y (TMs.cells (⟨og,nr,dp,(⟨kd,vv1,0,dRq,none,0,[],dD32⟩:TBd),tg⟩:TMs)) 58)::(Sl none 0 205 2 TPr.cells ([]:List TPr))::(Cel c #[.slice az4 rr2.length cz5,.bool sp3] 124)::L) w12:=(((hs14.pull 1 rfl).pull 1 rfl).pull 2 rfl)
 exact⟨(⟨kd,vv1,0,dRq,none,0,[],dD32⟩:TBd),rr2,sp3,az4,cz5,rfl,(((if_neg (by omega)).trans ((if_neg (by omega)).trans ((if_neg (by omega)).trans (if_neg (by omega)))):getB kd (r,sp)=g3 kd (r,sp)).trans (by unfold g3;simp only [he6];rfl)),⟨hkr,(by first|omega|(dsimp only;omega)),(by dsimp only;omega),dRq_ok,(fun p hp=>by cases hp),dD32_ok,Nat.zero_le _⟩,hq28,hs15⟩
theorem get6M_spec {w0 w:World}{L:List Asn}{c:Nat}{az:Option Addr}{cz:Nat}{y:Nat}{og:Int}{nr:Int}{dp:VecD}{tg:D32}(Q:Asn) (r:List Int) (sp:Bool) (kd:Int) (hQ:∀ w,St w0 L w→Q.holds w) (hq:CutOK Q az r cz) (hkr:0≤kd∧kd≤255) (hkd:kd=6) (hs:St w0 ((Cel c #[.slice az r.length cz,.bool sp] 124)::(Cel y (TMs.cells (⟨og,nr,dp,(⟨kd,0,0,dRq,none,0,[],dD32⟩:TBd),tg⟩:TMs)) 58)::L) w):Calls Tryz.prog 102 #[zP c 0,zP y 13] w (Ret fun rv w'=>∃ (yy2:TBd) (rr2:List Int) (sp2:Bool) (az2:Option Addr) (cz2:Nat),rv=.tuple #[]∧getB kd (r,sp)=(con yy2,(rr2,sp2))∧BdOK yy2∧CutOK Q az2 rr2 cz2∧St w0 ((Cel y (TMs.cells (⟨og,nr,dp,yy2,tg⟩:TMs)) 58)::(Sl yy2.qa yy2.qc 205 2 TPr.cells yy2.ql)::(Cel c #[.slice az2 rr2.length cz2,.bool sp2] 124)::L) w'):=by
 refine Zen (args:=[zP c 0,zP y 13]) Tryz.func102 Tryz.ntmps102 ?_
 refine Zn [(0,zP c 0),(1,zP y 13)] ?_
 refine Zqt (.rd 0 (.rd 1 (.rd 2 (.ef 3 (.rd 4 (.ef 5 (.rd 6 (.rd 7 (.ef 8 (.rd 9 (.rd 10 (.ef 11 .done)))))))))))) ?_
 refine Zr 0 3 [] ?_
 refine Zqa (f:=31) (args:=#[zP c 0]) Tryz.call31 (cutWord_spec Q r sp (fun w h=>hQ w (h.drop 1)) hq hs) ?_
 rintro v10 w11 ⟨vv1,rr2,sp3,az4,cz5,rfl,he6,hwr7,hq28,hs9⟩
 refine⟨Zqo,?_⟩
 refine Zr 4 1 [] ?_
 refine Zqa (f:=72) (args:=#[zP c 0]) Tryz.call72 (hash_spec Q rr2 sp3 (fun w h=>hQ w (h.drop 1)) hq28 hs9) ?_
 rintro v21 w22 ⟨dd12,rr13,sp14,az15,cz16,rfl,he17,hdb18,hq219,hs20⟩
 refine⟨Zqo,?_⟩
 refine Zr 6 2 [] ?_
 refine Zw (b:=y) (off:=15) (v:=.int .u64 vv1) (ti:=Tryz.t22) (by kernel_rfl) hs20 1 (L':=(Cel c #[.slice az15 rr13.length cz16,.bool sp14] 124)::(Cel y (TMs.cells (⟨og,nr,dp,(⟨kd,0,vv1,dRq,none,0,[],dD32⟩:TBd),tg⟩:TMs)) 58)::L) ?_
 intro w23 hs24
 refine⟨Zqo,?_⟩
 refine Zr 9 2 [] ?_
 refine Zw (b:=y) (off:=57) (v:=.agg (D32.cells dd12)) (ti:=Tryz.t25) (by kernel_rfl) hs24 1 (L':=(Cel c #[.slice az15 rr13.length cz16,.bool sp14] 124)::(Cel y (TMs.cells (⟨og,nr,dp,(⟨kd,0,vv1,dRq,none,0,[],dd12⟩:TBd),tg⟩:TMs)) 58)::L) ?_
 intro w25 hs26
 refine⟨Zqo,?_⟩
 refine Zd ?_
 refine GoQ.done (.inr rfl) (fun a hf=>results0 rfl a hf) ?_
 have hs27:St w0 ((Sl none 0 205 2 TPr.cells ([]:List TPr))::(Cel c #[.slice az15 rr13.length cz16,.bool sp14] 124)::(Cel y (TMs.cells (⟨og,nr,dp,(⟨kd,0,vv1,dRq,none,0,[],dd12⟩:TBd),tg⟩:TMs)) 58)::L) w25:=St.slNil hs26 205 2 TPr.cells
 have hs28:St w0 ((Cel y (TMs.cells (⟨og,nr,dp,(⟨kd,0,vv1,dRq,none,0,[],dd12⟩:TBd),tg⟩:TMs)) 58)::(Sl none 0 205 2 TPr.cells ([]:List TPr))::(Cel c #[.slice az15 rr13.length cz16,.bool sp14] 124)::L) w25:=(((hs27.pull 1 rfl).pull 1 rfl).pull 2 rfl)
 exact⟨(⟨kd,0,vv1,dRq,none,0,[],dd12⟩:TBd),rr13,sp14,az15,cz16,rfl,(((if_neg (by omega)).trans ((if_neg (by omega)).trans ((if_neg (by omega)).trans (if_pos hkd))):getB kd (r,sp)=g6 (r,sp)).trans (by unfold g6;simp only [he6,he17];rw [hkd];rfl)),⟨hkr,(by dsimp only;omega),(by first|omega|(dsimp only;omega)),dRq_ok,(fun p hp=>by cases hp),hdb18,Nat.zero_le _⟩,hq219,hs28⟩
theorem u8dec {n:Nat}(h:n+1≤255):Value.int .u8 (IntKind.u8.wrap ((n+1:Nat)-1))=.int .u8 (n:Nat):=by
 congr 1
 show(((n+1:Nat):Int)-1) % 256=_
 omega
theorem prsP_step {n:Nat}{r r1 r2:List Int}{sp p1 p2:Bool}{q:List TPr}{a b:Int}(h0:sp=false) (h1:byteP (r,sp)=(a,(r1,p1))) (h2:wordP (r1,p1)=(b,(r2,p2))):prsP (n+1) (r,sp) q=prsP n (r2,p2) (q++[⟨a,b⟩]):=by
 show(if sp=true then (q,(r,sp)) else _)=_
 rw [if_neg (by rw [h0];decide)]
 simp only [h1,h2]
theorem prsP_end {n:Nat}{r:List Int}{sp:Bool}{q:List TPr}(h:n=0∨sp=true):prsP n (r,sp) q=(q,(r,sp)):=by
 cases n with
 | zero=>rfl
 | succ n =>
  obtain h|h:=h
  ·cases h
  ·show(if sp=true then (q,(r,sp)) else _)=_
   rw [if_pos h]
theorem get4Y_spec {w0 w:World}{L:List Asn}{c:Nat}{az:Option Addr}{cz:Nat}{y:Nat}(Q:Asn) (r:List Int) (sp:Bool) (kd:Int) (hQ:∀ w,St w0 L w→Q.holds w) (hq:CutOK Q az r cz) (hkr:0≤kd∧kd≤255) (hkd:kd=4) (hs:St w0 ((Cel c #[.slice az r.length cz,.bool sp] 124)::(Cel y (TBd.cells (⟨kd,0,0,dRq,none,0,[],dD32⟩:TBd)) 30)::L) w):Calls Tryz.prog 98 #[zP c 0,zP y 0] w (Ret fun rv w'=>∃ (yy2:TBd) (rr2:List Int) (sp2:Bool) (az2:Option Addr) (cz2:Nat),rv=.tuple #[]∧getB kd (r,sp)=(con yy2,(rr2,sp2))∧BdOK yy2∧CutOK Q az2 rr2 cz2∧St w0 ((Cel y (TBd.cells yy2) 30)::(Sl yy2.qa yy2.qc 205 2 TPr.cells yy2.ql)::(Cel c #[.slice az2 rr2.length cz2,.bool sp2] 124)::L) w'):=by
 refine Zen (args:=[zP c 0,zP y 0]) Tryz.func98 Tryz.ntmps98 ?_
 refine Zn [(0,zP c 0),(1,zP y 0)] ?_
 refine Zs ?_
 refine Zqt (.rd 0 (.rd 1 (.ef 2 (.rd 3 (.rd 4 (.ef 5 .done)))))) ?_
 refine Zr 0 2 [] ?_
 refine Zqa (f:=31) (args:=#[zP c 0]) Tryz.call31 (cutWord_spec Q r sp (fun w h=>hQ w (h.drop 1)) hq hs) ?_
 rintro v10 w11 ⟨vv1,rr2,sp3,az4,cz5,rfl,he6,hwr7,hq28,hs9⟩
 refine⟨Zqo,?_⟩
 refine Zr 3 2 [] ?_
 refine Zw (b:=y) (off:=1) (v:=.int .u64 vv1) (ti:=Tryz.t22) (by kernel_rfl) hs9 1 (L':=(Cel c #[.slice az4 rr2.length cz5,.bool sp3] 124)::(Cel y (TBd.cells (⟨kd,vv1,0,dRq,none,0,[],dD32⟩:TBd)) 30)::L) ?_
 intro w12 hs13
 refine⟨Zqo,?_⟩
 refine Zd (Zt (Zs ?_))
 refine Zqt (.rd 0 (.ef 1 (.rd 2 .done))) ?_
 refine Zr 0 1 [] ?_
 refine Zqa (f:=30) (args:=#[zP c 0]) Tryz.call30 (cutByte_spec Q rr2 sp3 (fun w h=>hQ w (h.drop 1)) hq28 hs13) ?_
 rintro v23 w24 ⟨vv14,rr15,sp16,az17,cz18,rfl,he19,hby20,hq221,hs22⟩
 refine⟨Zqo,?_⟩
 refine Zr 2 1 [] ?_
 refine Zd (Zt (Zb ?_))
 have hnr:=byteP_rng he19
 obtain⟨nb,rfl⟩:∃ m:Nat,vv14=(m:Int):=⟨vv14.toNat,by omega⟩
 have hs25:St w0 ((Sl none 0 205 2 TPr.cells ([]:List TPr))::(Cel c #[.slice az17 rr15.length cz18,.bool sp16] 124)::(Cel y (TBd.cells (⟨kd,vv1,0,dRq,none,0,[],dD32⟩:TBd)) 30)::L) w24:=St.slNil hs22 205 2 TPr.cells
 have hs26:St w0 ((Sl none 0 205 2 TPr.cells ([]:List TPr))::(Cel y (TBd.cells (⟨kd,vv1,0,dRq,none,0,[],dD32⟩:TBd)) 30)::(Cel c #[.slice az17 rr15.length cz18,.bool sp16] 124)::L) w24:=(((hs25.pull 1 rfl).pull 2 rfl).pull 2 rfl)
 have hs27:St w0 ((Sl none 0 205 2 TPr.cells ([]:List TPr))::(Cel y (TBd.cells (⟨kd,vv1,0,dRq,none,0,([]:List TPr),dD32⟩:TBd)) 30)::(Cel c #[.slice az17 rr15.length cz18,.bool sp16] 124)::L) w24:=hs26
 refine GoC.loop (T:=Nat×(List Int)×Bool×(Option Addr)×Nat×(Option Addr)×Nat×(List TPr)) (fun gg=>[(0,zP c 0),(1,zP y 0),(4,.int .u8 (gg.1:Nat))]) (fun gg w=>(gg.1≤255∧prsP nb (rr15,sp16) []=prsP gg.1 (gg.2.1,gg.2.2.1) gg.2.2.2.2.2.2.2∧CutOK Q gg.2.2.2.1 gg.2.1 gg.2.2.2.2.1∧(∀ p∈gg.2.2.2.2.2.2.2,(-9223372036854775808≤p.rp∧p.rp≤9223372036854775807)∧(0≤p.nm∧p.nm≤18446744073709551615))∧gg.2.2.2.2.2.2.2.length+gg.1≤255)∧St w0 ((Sl gg.2.2.2.2.2.1 gg.2.2.2.2.2.2.1 205 2 TPr.cells gg.2.2.2.2.2.2.2)::(Cel y (TBd.cells (⟨kd,vv1,0,dRq,gg.2.2.2.2.2.1,gg.2.2.2.2.2.2.1,gg.2.2.2.2.2.2.2,dD32⟩:TBd)) 30)::(Cel c #[.slice gg.2.2.2.1 gg.2.1.length gg.2.2.2.2.1,.bool gg.2.2.1] 124)::L) w) (fun gg=>gg.1) (nb,rr15,sp16,az17,cz18,none,0,([]:List TPr)) [0,1,4] (by kernel_rfl) ⟨⟨by omega,rfl,hq221,fun p hp=>(by cases hp),by simp only [lN];omega⟩,hs27⟩ ?_
 rintro⟨n2,rr1,sp1,az1,cz1,qa1,qc1,ql1⟩ w28 ⟨hp0,hs29⟩
 have hp:n2≤255∧prsP nb (rr15,sp16) []=prsP n2 (rr1,sp1) ql1∧CutOK Q az1 rr1 cz1∧(∀ p∈ql1,(-9223372036854775808≤p.rp∧p.rp≤9223372036854775807)∧(0≤p.nm∧p.nm≤18446744073709551615))∧ql1.length+n2≤255:=hp0
 have hs30:St w0 ((Sl qa1 qc1 205 2 TPr.cells ql1)::(Cel y (TBd.cells (⟨kd,vv1,0,dRq,qa1,qc1,ql1,dD32⟩:TBd)) 30)::(Cel c #[.slice az1 rr1.length cz1,.bool sp1] 124)::L) w28:=hs29
 refine Zn [(0,zP c 0),(1,zP y 0),(4,.int .u8 (n2:Nat))] ?_
 refine Zs (Zs ?_)
 refine Zqt (.rd 0 (.rd 1 (.rd 2 (.rd 3 (.ef 4 (.rd 5 .done)))))) ?_
 refine Zr 0 3 [] ?_
 rcases Bool.eq_false_or_eq_true (decide (((n2:Nat):Int)>0)) with h31|h31
 ·refine Zqs 14 true h31 ?_
  have h31':((n2:Nat):Int)>0:=of_decide_eq_true h31
  have hn0:0<n2:=by omega
  refine Zr 3 1 [] ?_
  have hs32:St w0 ((Cel c #[.slice az1 rr1.length cz1,.bool sp1] 124)::(Sl qa1 qc1 205 2 TPr.cells ql1)::(Cel y (TBd.cells (⟨kd,vv1,0,dRq,qa1,qc1,ql1,dD32⟩:TBd)) 30)::L) w28:=(hs30.pull 2 rfl)
  refine Zqa (f:=36) (args:=#[zP c 0]) Tryz.call36 (cutOk_spec rr1 sp1 hs32) ?_
  rintro v34 w35 ⟨rfl,hs33⟩
  refine⟨Zqo,?_⟩
  refine Zr 5 1 [] ?_
  refine Zd (Zt ?_)
  refine Zqc (t:=!sp1) (fun h36=>?_) (fun h36=>?_)
  ·have hsf:sp1=false:=by simpa using h36
   obtain⟨n1,rfl⟩:∃ m,n2=m+1:=⟨n2-1,by omega⟩
   refine Zk (Zt (Zs (Zb ?_)))
   refine GoC.regD [0,0,2,6,14,0,32,96,0,352,992,2016,4094,8191,16383,32767] (.rd 0 (.rd 1 (.rd 2 (.rd 3 (.rd 4 (.rd 5 (.rd 8 (.ef 6 (.rd 7 (.ef 9 (.rd 10 (.ef 11 (.ef 12 (.rd 13 (.rd 14 (.ef 15 .done)))))))))))))))) (by kernel_rfl) (by kernel_rfl) noPan_body (by kernel_rfl) hs33 ?_
   intro w37 hs38 hw39
   refine Zh [(0,.gen []),(1,.gen []),(2,.gen []),(3,.gen []),(4,.gen [.slice qa1 ql1.length qc1]),(5,.gen []),(8,.gen [])] [(4,[.cell ⟨y,43,none⟩ (.slice qa1 ql1.length qc1)])] (ak (okc (hs38.cell 2 rfl (by kernel_rfl)) ok0) ak0) ?_
   refine Zqa (f:=30) (args:=#[zP c 0]) Tryz.call30 (cutByte_spec Q rr1 sp1 (fun w h=>hQ w (h.drop 2)) hp.2.2.1 hs38) ?_
   rintro v49 w50 ⟨vv40,rr41,sp42,az43,cz44,rfl,he45,hby46,hq247,hs48⟩
   refine⟨(opl (n:=[.cell ⟨y,43,none⟩ (.slice qa1 ql1.length qc1)]) (by kernel_rfl) (okc (hs48.cell 2 rfl (by kernel_rfl)) ok0)),?_⟩
   refine Zp 7 1 [(7,.as_ (.int .i64 vv40) (.gen []))] [(7,[.prop (Value.int .i64 (IntKind.i64.wrap vv40)=Value.int .i64 vv40)])] (ak (okp (i64ok (by omega) (by omega)) ok0) ak0) ?_
   refine Zqa (f:=31) (args:=#[zP c 0]) Tryz.call31 (cutWord_spec Q rr41 sp42 (fun w h=>hQ w (h.drop 2)) hq247 hs48) ?_
   rintro v60 w61 ⟨vv51,rr52,sp53,az54,cz55,rfl,he56,hwr57,hq258,hs59⟩
   refine⟨(opl (n:=[.prop (Value.int .i64 (IntKind.i64.wrap vv40)=Value.int .i64 vv40),.cell ⟨y,43,none⟩ (.slice qa1 ql1.length qc1)]) (by kernel_rfl) (okp (i64ok (by omega) (by omega)) (okc (hs59.cell 2 rfl (by kernel_rfl)) ok0))),?_⟩
   refine Zr 10 1 [] ?_
   refine GoR.sliceLit rfl (by kernel_rfl) (t:=28) (e:=205) (n:=1) (ps:=[(0,.agg (TPr.cells (⟨vv40,vv51⟩:TPr)))]) (by kernel_rfl) (by kernel_rfl) (ti:=Tryz.t205) (z:=.agg (TPr.cells dPr)) (by kernel_rfl) (by kernel_rfl) (by decide) (by decide) (cs:=TPr.cells (⟨vv40,vv51⟩:TPr)) (by kernel_rfl) hs59 ?_
   intro b62 w63 hs64 hz65
   have hs66:St w0 ((Sl (some ⟨b62,0,none⟩) 1 205 2 TPr.cells ([((⟨vv40,vv51⟩:TPr):TPr)]))::(Cel c #[.slice az54 rr52.length cz55,.bool sp53] 124)::(Sl qa1 qc1 205 2 TPr.cells ql1)::(Cel y (TBd.cells (⟨kd,vv1,0,dRq,qa1,qc1,ql1,dD32⟩:TBd)) 30)::L) w63:=St.slOf (l:=[((⟨vv40,vv51⟩:TPr):TPr)]) (f:=TPr.cells) hs64 hz65 (dPrF).size (by simp only [lC,lN,maxLen];omega) (by kernel_rfl)
   refine⟨(opl (n:=[.cell ⟨y,43,none⟩ (.slice qa1 ql1.length qc1)]) (by kernel_rfl) (okc (hs66.cell 3 rfl (by kernel_rfl)) ok0)),?_⟩
   have hs69:St w0 ((Sl qa1 qc1 205 2 TPr.cells ql1)::(Sl (some ⟨b62,0,none⟩) 1 205 2 TPr.cells ([((⟨vv40,vv51⟩:TPr):TPr)]))::(Cel c #[.slice az54 rr52.length cz55,.bool sp53] 124)::(Cel y (TBd.cells (⟨kd,vv1,0,dRq,qa1,qc1,ql1,dD32⟩:TBd)) 30)::L) w63:=(hs66.pull 2 rfl)
   refine GoR.append rfl (by kernel_rfl) prsOK dPrF (ad:=qa1) (c:=qc1) (xs:=ql1) (ys:=[((⟨vv40,vv51⟩:TPr):TPr)]) (adx:=some ⟨b62,0,none⟩) (cx:=1) dPr (by kernel_rfl) hs69 (hs69.rows 1 rfl (dPrF).size dPr) (fun h=>nomatch h) (by simp only [lA,lC,lN,List.length_map] at *;omega) (by simp only [lA,lC,lN,List.length_map] at *;omega) ?_
   intro ad70 c71 w67 hs68
   refine⟨Zqo,?_⟩
   refine Zr 13 2 [] ?_
   refine Zw (b:=y) (off:=43) (v:=.slice ad70 ((ql1++([((⟨vv40,vv51⟩:TPr):TPr)])).length) c71) (ti:=Tryz.t28) (by kernel_rfl) hs68 3 (L':=(Sl ad70 c71 205 2 TPr.cells (ql1++([((⟨vv40,vv51⟩:TPr):TPr)])))::(Sl (some ⟨b62,0,none⟩) 1 205 2 TPr.cells ([((⟨vv40,vv51⟩:TPr):TPr)]))::(Cel c #[.slice az54 rr52.length cz55,.bool sp53] 124)::(Cel y (TBd.cells (⟨kd,vv1,0,dRq,ad70,c71,(ql1++([((⟨vv40,vv51⟩:TPr):TPr)])),dD32⟩:TBd)) 30)::L) ?_
   intro w72 hs73
   refine⟨Zqo,?_⟩
   refine Zd (Zm (Zt ?_))
   refine Zqt (.rd 0 (.rd 1 (.rd 2 .done))) ?_
   refine Zp 0 3 [(1,.as_ (.int .u8 (n1:Nat)) (.gen []))] [(1,[.prop (Value.int .u8 (IntKind.u8.wrap (((n1+1):Nat)-1))=Value.int .u8 (n1:Nat))])] (ak (okp (u8dec (by omega)) ok0) ak0) ?_
   refine Zd ?_
   have hs74:St w0 ((Sl (some ⟨b62,0,none⟩) 1 205 2 TPr.cells ([((⟨vv40,vv51⟩:TPr):TPr)]))::(Sl ad70 c71 205 2 TPr.cells (ql1++([((⟨vv40,vv51⟩:TPr):TPr)])))::(Cel y (TBd.cells (⟨kd,vv1,0,dRq,ad70,c71,(ql1++([((⟨vv40,vv51⟩:TPr):TPr)])),dD32⟩:TBd)) 30)::(Cel c #[.slice az54 rr52.length cz55,.bool sp53] 124)::L) w72:=((((hs73.pull 2 rfl).pull 3 rfl).pull 2 rfl).pull 3 rfl)
   have hs75:St w0 ((Sl ad70 c71 205 2 TPr.cells (ql1++([((⟨vv40,vv51⟩:TPr):TPr)])))::(Cel y (TBd.cells (⟨kd,vv1,0,dRq,ad70,c71,(ql1++([((⟨vv40,vv51⟩:TPr):TPr)])),dD32⟩:TBd)) 30)::(Cel c #[.slice az54 rr52.length cz55,.bool sp53] 124)::L) w72:=hs74.drop 1
   exact GoQ.back (n1,rr52,sp53,az54,cz55,ad70,c71,(ql1++[(⟨vv40,vv51⟩:TPr)])) [0,1,4] (by kernel_rfl) (by show n1<(n1+1);omega) ⟨⟨by omega,by rw [hp.2.1,prsP_step hsf he45 he56],hq258,fun p hp9=>(List.mem_append.1 hp9).elim (hp.2.2.2.1 p) (fun h9=>by rw [List.mem_singleton.1 h9];exact⟨(by dsimp only;omega),(by dsimp only;omega)⟩),by show(ql1++[_]).length+n1≤255;have:=hp.2.2.2.2;simp only [lA,lC,lN];omega⟩,hs75⟩
  ·have hend:n2=0∨sp1=true:=.inr (by simpa using h36)
   refine Zx (GoQ.skipC (GoQ.skipL (GoQ.hit ?_)))
   refine GoQ.done (.inr rfl) (fun a hf=>results0 rfl a hf) ?_
   have hs76:St w0 ((Cel y (TBd.cells (⟨kd,vv1,0,dRq,qa1,qc1,ql1,dD32⟩:TBd)) 30)::(Sl qa1 qc1 205 2 TPr.cells ql1)::(Cel c #[.slice az1 rr1.length cz1,.bool sp1] 124)::L) w35:=(((hs33.pull 0 rfl).pull 1 rfl).pull 2 rfl)
   exact⟨(⟨kd,vv1,0,dRq,qa1,qc1,ql1,dD32⟩:TBd),rr1,sp1,az1,cz1,rfl,(((if_neg (by omega)).trans ((if_neg (by omega)).trans (if_pos hkd)):getB kd (r,sp)=g4 (r,sp)).trans (by unfold g4;simp only [he6,he19,Int.toNat_natCast];rw [hp.2.1,prsP_end hend,hkd];rfl)),⟨hkr,(by first|omega|(dsimp only;omega)),(by dsimp only;omega),dRq_ok,hp.2.2.2.1,dD32_ok,(by have:=hp.2.2.2.2;dsimp only;omega)⟩,hp.2.2.1,hs76⟩
 ·refine Zqs 14 false h31 ?_
  have h31':¬ (((n2:Nat):Int)>0):=of_decide_eq_false h31
  have hend:n2=0∨sp1=true:=.inl (by omega)
  refine Zr 3 1 [] ?_
  refine GoR.skip rfl (by kernel_rfl) Zqo ?_
  refine Zr 5 1 [] ?_
  refine Zd (Zt (ZqF (Zx (GoQ.skipC (GoQ.skipL (GoQ.hit ?_))))))
  refine GoQ.done (.inr rfl) (fun a hf=>results0 rfl a hf) ?_
  have hs77:St w0 ((Cel y (TBd.cells (⟨kd,vv1,0,dRq,qa1,qc1,ql1,dD32⟩:TBd)) 30)::(Sl qa1 qc1 205 2 TPr.cells ql1)::(Cel c #[.slice az1 rr1.length cz1,.bool sp1] 124)::L) w28:=(((hs30.pull 2 rfl).pull 1 rfl).pull 2 rfl)
  exact⟨(⟨kd,vv1,0,dRq,qa1,qc1,ql1,dD32⟩:TBd),rr1,sp1,az1,cz1,rfl,(((if_neg (by omega)).trans ((if_neg (by omega)).trans (if_pos hkd)):getB kd (r,sp)=g4 (r,sp)).trans (by unfold g4;simp only [he6,he19,Int.toNat_natCast];rw [hp.2.1,prsP_end hend,hkd];rfl)),⟨hkr,(by first|omega|(dsimp only;omega)),(by dsimp only;omega),dRq_ok,hp.2.2.2.1,dD32_ok,(by have:=hp.2.2.2.2;dsimp only;omega)⟩,hp.2.2.1,hs77⟩
theorem get4M_spec {w0 w:World}{L:List Asn}{c:Nat}{az:Option Addr}{cz:Nat}{y:Nat}{og:Int}{nr:Int}{dp:VecD}{tg:D32}(Q:Asn) (r:List Int) (sp:Bool) (kd:Int) (hQ:∀ w,St w0 L w→Q.holds w) (hq:CutOK Q az r cz) (hkr:0≤kd∧kd≤255) (hkd:kd=4) (hs:St w0 ((Cel c #[.slice az r.length cz,.bool sp] 124)::(Cel y (TMs.cells (⟨og,nr,dp,(⟨kd,0,0,dRq,none,0,[],dD32⟩:TBd),tg⟩:TMs)) 58)::L) w):Calls Tryz.prog 98 #[zP c 0,zP y 13] w (Ret fun rv w'=>∃ (yy2:TBd) (rr2:List Int) (sp2:Bool) (az2:Option Addr) (cz2:Nat),rv=.tuple #[]∧getB kd (r,sp)=(con yy2,(rr2,sp2))∧BdOK yy2∧CutOK Q az2 rr2 cz2∧St w0 ((Cel y (TMs.cells (⟨og,nr,dp,yy2,tg⟩:TMs)) 58)::(Sl yy2.qa yy2.qc 205 2 TPr.cells yy2.ql)::(Cel c #[.slice az2 rr2.length cz2,.bool sp2] 124)::L) w'):=by
 refine Zen (args:=[zP c 0,zP y 13]) Tryz.func98 Tryz.ntmps98 ?_
 refine Zn [(0,zP c 0),(1,zP y 13)] ?_
 refine Zs ?_
 refine Zqt (.rd 0 (.rd 1 (.ef 2 (.rd 3 (.rd 4 (.ef 5 .done)))))) ?_
 refine Zr 0 2 [] ?_
 refine Zqa (f:=31) (args:=#[zP c 0]) Tryz.call31 (cutWord_spec Q r sp (fun w h=>hQ w (h.drop 1)) hq hs) ?_
 rintro v10 w11 ⟨vv1,rr2,sp3,az4,cz5,rfl,he6,hwr7,hq28,hs9⟩
 refine⟨Zqo,?_⟩
 refine Zr 3 2 [] ?_
 refine Zw (b:=y) (off:=14) (v:=.int .u64 vv1) (ti:=Tryz.t22) (by kernel_rfl) hs9 1 (L':=(Cel c #[.slice az4 rr2.length cz5,.bool sp3] 124)::(Cel y (TMs.cells (⟨og,nr,dp,(⟨kd,vv1,0,dRq,none,0,[],dD32⟩:TBd),tg⟩:TMs)) 58)::L) ?_
 intro w12 hs13
 refine⟨Zqo,?_⟩
 refine Zd (Zt (Zs ?_))
 refine Zqt (.rd 0 (.ef 1 (.rd 2 .done))) ?_
 refine Zr 0 1 [] ?_
 refine Zqa (f:=30) (args:=#[zP c 0]) Tryz.call30 (cutByte_spec Q rr2 sp3 (fun w h=>hQ w (h.drop 1)) hq28 hs13) ?_
 rintro v23 w24 ⟨vv14,rr15,sp16,az17,cz18,rfl,he19,hby20,hq221,hs22⟩
 refine⟨Zqo,?_⟩
 refine Zr 2 1 [] ?_
 refine Zd (Zt (Zb ?_))
 have hnr:=byteP_rng he19
 obtain⟨nb,rfl⟩:∃ m:Nat,vv14=(m:Int):=⟨vv14.toNat,by omega⟩
 have hs25:St w0 ((Sl none 0 205 2 TPr.cells ([]:List TPr))::(Cel c #[.slice az17 rr15.length cz18,.bool sp16] 124)::(Cel y (TMs.cells (⟨og,nr,dp,(⟨kd,vv1,0,dRq,none,0,[],dD32⟩:TBd),tg⟩:TMs)) 58)::L) w24:=St.slNil hs22 205 2 TPr.cells
 have hs26:St w0 ((Sl none 0 205 2 TPr.cells ([]:List TPr))::(Cel y (TMs.cells (⟨og,nr,dp,(⟨kd,vv1,0,dRq,none,0,[],dD32⟩:TBd),tg⟩:TMs)) 58)::(Cel c #[.slice az17 rr15.length cz18,.bool sp16] 124)::L) w24:=(((hs25.pull 1 rfl).pull 2 rfl).pull 2 rfl)
 have hs27:St w0 ((Sl none 0 205 2 TPr.cells ([]:List TPr))::(Cel y (TMs.cells (⟨og,nr,dp,(⟨kd,vv1,0,dRq,none,0,([]:List TPr),dD32⟩:TBd),tg⟩:TMs)) 58)::(Cel c #[.slice az17 rr15.length cz18,.bool sp16] 124)::L) w24:=hs26
 refine GoC.loop (T:=Nat×(List Int)×Bool×(Option Addr)×Nat×(Option Addr)×Nat×(List TPr)) (fun gg=>[(0,zP c 0),(1,zP y 13),(4,.int .u8 (gg.1:Nat))]) (fun gg w=>(gg.1≤255∧prsP nb (rr15,sp16) []=prsP gg.1 (gg.2.1,gg.2.2.1) gg.2.2.2.2.2.2.2∧CutOK Q gg.2.2.2.1 gg.2.1 gg.2.2.2.2.1∧(∀ p∈gg.2.2.2.2.2.2.2,(-9223372036854775808≤p.rp∧p.rp≤9223372036854775807)∧(0≤p.nm∧p.nm≤18446744073709551615))∧gg.2.2.2.2.2.2.2.length+gg.1≤255)∧St w0 ((Sl gg.2.2.2.2.2.1 gg.2.2.2.2.2.2.1 205 2 TPr.cells gg.2.2.2.2.2.2.2)::(Cel y (TMs.cells (⟨og,nr,dp,(⟨kd,vv1,0,dRq,gg.2.2.2.2.2.1,gg.2.2.2.2.2.2.1,gg.2.2.2.2.2.2.2,dD32⟩:TBd),tg⟩:TMs)) 58)::(Cel c #[.slice gg.2.2.2.1 gg.2.1.length gg.2.2.2.2.1,.bool gg.2.2.1] 124)::L) w) (fun gg=>gg.1) (nb,rr15,sp16,az17,cz18,none,0,([]:List TPr)) [0,1,4] (by kernel_rfl) ⟨⟨by omega,rfl,hq221,fun p hp=>(by cases hp),by simp only [lN];omega⟩,hs27⟩ ?_
 rintro⟨n2,rr1,sp1,az1,cz1,qa1,qc1,ql1⟩ w28 ⟨hp0,hs29⟩
 have hp:n2≤255∧prsP nb (rr15,sp16) []=prsP n2 (rr1,sp1) ql1∧CutOK Q az1 rr1 cz1∧(∀ p∈ql1,(-9223372036854775808≤p.rp∧p.rp≤9223372036854775807)∧(0≤p.nm∧p.nm≤18446744073709551615))∧ql1.length+n2≤255:=hp0
 have hs30:St w0 ((Sl qa1 qc1 205 2 TPr.cells ql1)::(Cel y (TMs.cells (⟨og,nr,dp,(⟨kd,vv1,0,dRq,qa1,qc1,ql1,dD32⟩:TBd),tg⟩:TMs)) 58)::(Cel c #[.slice az1 rr1.length cz1,.bool sp1] 124)::L) w28:=hs29
 refine Zn [(0,zP c 0),(1,zP y 13),(4,.int .u8 (n2:Nat))] ?_
 refine Zs (Zs ?_)
 refine Zqt (.rd 0 (.rd 1 (.rd 2 (.rd 3 (.ef 4 (.rd 5 .done)))))) ?_
 refine Zr 0 3 [] ?_
 rcases Bool.eq_false_or_eq_true (decide (((n2:Nat):Int)>0)) with h31|h31
 ·refine Zqs 14 true h31 ?_
  have h31':((n2:Nat):Int)>0:=of_decide_eq_true h31
  have hn0:0<n2:=by omega
  refine Zr 3 1 [] ?_
  have hs32:St w0 ((Cel c #[.slice az1 rr1.length cz1,.bool sp1] 124)::(Sl qa1 qc1 205 2 TPr.cells ql1)::(Cel y (TMs.cells (⟨og,nr,dp,(⟨kd,vv1,0,dRq,qa1,qc1,ql1,dD32⟩:TBd),tg⟩:TMs)) 58)::L) w28:=(hs30.pull 2 rfl)
  refine Zqa (f:=36) (args:=#[zP c 0]) Tryz.call36 (cutOk_spec rr1 sp1 hs32) ?_
  rintro v34 w35 ⟨rfl,hs33⟩
  refine⟨Zqo,?_⟩
  refine Zr 5 1 [] ?_
  refine Zd (Zt ?_)
  refine Zqc (t:=!sp1) (fun h36=>?_) (fun h36=>?_)
  ·have hsf:sp1=false:=by simpa using h36
   obtain⟨n1,rfl⟩:∃ m,n2=m+1:=⟨n2-1,by omega⟩
   refine Zk (Zt (Zs (Zb ?_)))
   refine GoC.regD [0,0,2,6,14,0,32,96,0,352,992,2016,4094,8191,16383,32767] (.rd 0 (.rd 1 (.rd 2 (.rd 3 (.rd 4 (.rd 5 (.rd 8 (.ef 6 (.rd 7 (.ef 9 (.rd 10 (.ef 11 (.ef 12 (.rd 13 (.rd 14 (.ef 15 .done)))))))))))))))) (by kernel_rfl) (by kernel_rfl) noPan_body (by kernel_rfl) hs33 ?_
   intro w37 hs38 hw39
   refine Zh [(0,.gen []),(1,.gen []),(2,.gen []),(3,.gen []),(4,.gen [.slice qa1 ql1.length qc1]),(5,.gen []),(8,.gen [])] [(4,[.cell ⟨y,56,none⟩ (.slice qa1 ql1.length qc1)])] (ak (okc (hs38.cell 2 rfl (by kernel_rfl)) ok0) ak0) ?_
   refine Zqa (f:=30) (args:=#[zP c 0]) Tryz.call30 (cutByte_spec Q rr1 sp1 (fun w h=>hQ w (h.drop 2)) hp.2.2.1 hs38) ?_
   rintro v49 w50 ⟨vv40,rr41,sp42,az43,cz44,rfl,he45,hby46,hq247,hs48⟩
   refine⟨(opl (n:=[.cell ⟨y,56,none⟩ (.slice qa1 ql1.length qc1)]) (by kernel_rfl) (okc (hs48.cell 2 rfl (by kernel_rfl)) ok0)),?_⟩
   refine Zp 7 1 [(7,.as_ (.int .i64 vv40) (.gen []))] [(7,[.prop (Value.int .i64 (IntKind.i64.wrap vv40)=Value.int .i64 vv40)])] (ak (okp (i64ok (by omega) (by omega)) ok0) ak0) ?_
   refine Zqa (f:=31) (args:=#[zP c 0]) Tryz.call31 (cutWord_spec Q rr41 sp42 (fun w h=>hQ w (h.drop 2)) hq247 hs48) ?_
   rintro v60 w61 ⟨vv51,rr52,sp53,az54,cz55,rfl,he56,hwr57,hq258,hs59⟩
   refine⟨(opl (n:=[.prop (Value.int .i64 (IntKind.i64.wrap vv40)=Value.int .i64 vv40),.cell ⟨y,56,none⟩ (.slice qa1 ql1.length qc1)]) (by kernel_rfl) (okp (i64ok (by omega) (by omega)) (okc (hs59.cell 2 rfl (by kernel_rfl)) ok0))),?_⟩
   refine Zr 10 1 [] ?_
   refine GoR.sliceLit rfl (by kernel_rfl) (t:=28) (e:=205) (n:=1) (ps:=[(0,.agg (TPr.cells (⟨vv40,vv51⟩:TPr)))]) (by kernel_rfl) (by kernel_rfl) (ti:=Tryz.t205) (z:=.agg (TPr.cells dPr)) (by kernel_rfl) (by kernel_rfl) (by decide) (by decide) (cs:=TPr.cells (⟨vv40,vv51⟩:TPr)) (by kernel_rfl) hs59 ?_
   intro b62 w63 hs64 hz65
   have hs66:St w0 ((Sl (some ⟨b62,0,none⟩) 1 205 2 TPr.cells ([((⟨vv40,vv51⟩:TPr):TPr)]))::(Cel c #[.slice az54 rr52.length cz55,.bool sp53] 124)::(Sl qa1 qc1 205 2 TPr.cells ql1)::(Cel y (TMs.cells (⟨og,nr,dp,(⟨kd,vv1,0,dRq,qa1,qc1,ql1,dD32⟩:TBd),tg⟩:TMs)) 58)::L) w63:=St.slOf (l:=[((⟨vv40,vv51⟩:TPr):TPr)]) (f:=TPr.cells) hs64 hz65 (dPrF).size (by simp only [lC,lN,maxLen];omega) (by kernel_rfl)
   refine⟨(opl (n:=[.cell ⟨y,56,none⟩ (.slice qa1 ql1.length qc1)]) (by kernel_rfl) (okc (hs66.cell 3 rfl (by kernel_rfl)) ok0)),?_⟩
   have hs69:St w0 ((Sl qa1 qc1 205 2 TPr.cells ql1)::(Sl (some ⟨b62,0,none⟩) 1 205 2 TPr.cells ([((⟨vv40,vv51⟩:TPr):TPr)]))::(Cel c #[.slice az54 rr52.length cz55,.bool sp53] 124)::(Cel y (TMs.cells (⟨og,nr,dp,(⟨kd,vv1,0,dRq,qa1,qc1,ql1,dD32⟩:TBd),tg⟩:TMs)) 58)::L) w63:=(hs66.pull 2 rfl)
   refine GoR.append rfl (by kernel_rfl) prsOK dPrF (ad:=qa1) (c:=qc1) (xs:=ql1) (ys:=[((⟨vv40,vv51⟩:TPr):TPr)]) (adx:=some ⟨b62,0,none⟩) (cx:=1) dPr (by kernel_rfl) hs69 (hs69.rows 1 rfl (dPrF).size dPr) (fun h=>nomatch h) (by simp only [lA,lC,lN,List.length_map] at *;omega) (by simp only [lA,lC,lN,List.length_map] at *;omega) ?_
   intro ad70 c71 w67 hs68
   refine⟨Zqo,?_⟩
   refine Zr 13 2 [] ?_
   refine Zw (b:=y) (off:=56) (v:=.slice ad70 ((ql1++([((⟨vv40,vv51⟩:TPr):TPr)])).length) c71) (ti:=Tryz.t28) (by kernel_rfl) hs68 3 (L':=(Sl ad70 c71 205 2 TPr.cells (ql1++([((⟨vv40,vv51⟩:TPr):TPr)])))::(Sl (some ⟨b62,0,none⟩) 1 205 2 TPr.cells ([((⟨vv40,vv51⟩:TPr):TPr)]))::(Cel c #[.slice az54 rr52.length cz55,.bool sp53] 124)::(Cel y (TMs.cells (⟨og,nr,dp,(⟨kd,vv1,0,dRq,ad70,c71,(ql1++([((⟨vv40,vv51⟩:TPr):TPr)])),dD32⟩:TBd),tg⟩:TMs)) 58)::L) ?_
   intro w72 hs73
   refine⟨Zqo,?_⟩
   refine Zd (Zm (Zt ?_))
   refine Zqt (.rd 0 (.rd 1 (.rd 2 .done))) ?_
   refine Zp 0 3 [(1,.as_ (.int .u8 (n1:Nat)) (.gen []))] [(1,[.prop (Value.int .u8 (IntKind.u8.wrap (((n1+1):Nat)-1))=Value.int .u8 (n1:Nat))])] (ak (okp (u8dec (by omega)) ok0) ak0) ?_
   refine Zd ?_
   have hs74:St w0 ((Sl (some ⟨b62,0,none⟩) 1 205 2 TPr.cells ([((⟨vv40,vv51⟩:TPr):TPr)]))::(Sl ad70 c71 205 2 TPr.cells (ql1++([((⟨vv40,vv51⟩:TPr):TPr)])))::(Cel y (TMs.cells (⟨og,nr,dp,(⟨kd,vv1,0,dRq,ad70,c71,(ql1++([((⟨vv40,vv51⟩:TPr):TPr)])),dD32⟩:TBd),tg⟩:TMs)) 58)::(Cel c #[.slice az54 rr52.length cz55,.bool sp53] 124)::L) w72:=((((hs73.pull 2 rfl).pull 3 rfl).pull 2 rfl).pull 3 rfl)
   have hs75:St w0 ((Sl ad70 c71 205 2 TPr.cells (ql1++([((⟨vv40,vv51⟩:TPr):TPr)])))::(Cel y (TMs.cells (⟨og,nr,dp,(⟨kd,vv1,0,dRq,ad70,c71,(ql1++([((⟨vv40,vv51⟩:TPr):TPr)])),dD32⟩:TBd),tg⟩:TMs)) 58)::(Cel c #[.slice az54 rr52.length cz55,.bool sp53] 124)::L) w72:=hs74.drop 1
   exact GoQ.back (n1,rr52,sp53,az54,cz55,ad70,c71,(ql1++[(⟨vv40,vv51⟩:TPr)])) [0,1,4] (by kernel_rfl) (by show n1<(n1+1);omega) ⟨⟨by omega,by rw [hp.2.1,prsP_step hsf he45 he56],hq258,fun p hp9=>(List.mem_append.1 hp9).elim (hp.2.2.2.1 p) (fun h9=>by rw [List.mem_singleton.1 h9];exact⟨(by dsimp only;omega),(by dsimp only;omega)⟩),by show(ql1++[_]).length+n1≤255;have:=hp.2.2.2.2;simp only [lA,lC,lN];omega⟩,hs75⟩
  ·have hend:n2=0∨sp1=true:=.inr (by simpa using h36)
   refine Zx (GoQ.skipC (GoQ.skipL (GoQ.hit ?_)))
   refine GoQ.done (.inr rfl) (fun a hf=>results0 rfl a hf) ?_
   have hs76:St w0 ((Cel y (TMs.cells (⟨og,nr,dp,(⟨kd,vv1,0,dRq,qa1,qc1,ql1,dD32⟩:TBd),tg⟩:TMs)) 58)::(Sl qa1 qc1 205 2 TPr.cells ql1)::(Cel c #[.slice az1 rr1.length cz1,.bool sp1] 124)::L) w35:=(((hs33.pull 0 rfl).pull 1 rfl).pull 2 rfl)
   exact⟨(⟨kd,vv1,0,dRq,qa1,qc1,ql1,dD32⟩:TBd),rr1,sp1,az1,cz1,rfl,(((if_neg (by omega)).trans ((if_neg (by omega)).trans (if_pos hkd)):getB kd (r,sp)=g4 (r,sp)).trans (by unfold g4;simp only [he6,he19,Int.toNat_natCast];rw [hp.2.1,prsP_end hend,hkd];rfl)),⟨hkr,(by first|omega|(dsimp only;omega)),(by dsimp only;omega),dRq_ok,hp.2.2.2.1,dD32_ok,(by have:=hp.2.2.2.2;dsimp only;omega)⟩,hp.2.2.1,hs76⟩
 ·refine Zqs 14 false h31 ?_
  have h31':¬ (((n2:Nat):Int)>0):=of_decide_eq_false h31
  have hend:n2=0∨sp1=true:=.inl (by omega)
  refine Zr 3 1 [] ?_
  refine GoR.skip rfl (by kernel_rfl) Zqo ?_
  refine Zr 5 1 [] ?_
  refine Zd (Zt (ZqF (Zx (GoQ.skipC (GoQ.skipL (GoQ.hit ?_))))))
  refine GoQ.done (.inr rfl) (fun a hf=>results0 rfl a hf) ?_
  have hs77:St w0 ((Cel y (TMs.cells (⟨og,nr,dp,(⟨kd,vv1,0,dRq,qa1,qc1,ql1,dD32⟩:TBd),tg⟩:TMs)) 58)::(Sl qa1 qc1 205 2 TPr.cells ql1)::(Cel c #[.slice az1 rr1.length cz1,.bool sp1] 124)::L) w28:=(((hs30.pull 2 rfl).pull 1 rfl).pull 2 rfl)
  exact⟨(⟨kd,vv1,0,dRq,qa1,qc1,ql1,dD32⟩:TBd),rr1,sp1,az1,cz1,rfl,(((if_neg (by omega)).trans ((if_neg (by omega)).trans (if_pos hkd)):getB kd (r,sp)=g4 (r,sp)).trans (by unfold g4;simp only [he6,he19,Int.toNat_natCast];rw [hp.2.1,prsP_end hend,hkd];rfl)),⟨hkr,(by first|omega|(dsimp only;omega)),(by dsimp only;omega),dRq_ok,hp.2.2.2.1,dD32_ok,(by have:=hp.2.2.2.2;dsimp only;omega)⟩,hp.2.2.1,hs77⟩
theorem eqPair_spec {w0 w:World}{L:List Asn}{ax:Option Addr}{cx:Nat}{ay:Option Addr}{cy:Nat}(x:List TPr) (y:List TPr) (hll:x.length≤9223372036854775807) (hr1:∀ w,St w0 L w→RowsAt w ax x.length 2 (fun k=>TPr.cells (x.getD k dPr))) (hr2:∀ w,St w0 L w→RowsAt w ay y.length 2 (fun k=>TPr.cells (y.getD k dPr))) (hs:St w0 (L) w):Calls Tryz.prog 103 #[.slice ax x.length cx,.slice ay y.length cy] w (Ret fun rv w'=>rv=.bool (decide (x=y))∧St w0 (L) w'):=by
 refine Zen (args:=[.slice ax x.length cx,.slice ay y.length cy]) Tryz.func103 Tryz.ntmps103 ?_
 refine Zn [(0,.slice ax x.length cx),(1,.slice ay y.length cy)] ?_
 refine Zs ?_
 refine Zqt (.rd 0 .done) ?_
 refine Zr 0 1 [] ?_
 refine Zd (Zt (Zs (Zs ?_)))
 refine Zqt (.rd 0 (.rd 1 (.rd 2 (.rd 3 (.rd 4 .done))))) ?_
 refine Zr 0 5 [] ?_
 refine Zd (Zt ?_)
 refine Zqc (t:=((x.length:Nat):Int) != (y.length:Nat)) (fun h1=>?_) (fun h1=>?_)
 ·have h1':¬ (((x.length:Nat):Int)=(y.length:Nat)):=ineT h1
  refine Zs ?_
  refine Zqt (.rd 0 .done) ?_
  refine Zr 0 1 [] ?_
  refine Zd (Zt (Ze (Zy ?_)))
  refine Zq1 (v:=.bool false) ?_
  exact⟨(by rw [decide_eq_false fun h9=>absurd (congrArg List.length h9) (by omega)]),hs⟩
 ·have h1':((x.length:Nat):Int)=(y.length:Nat):=ineF h1
  have hln:x.length=y.length:=by omega
  refine Zk (Zt (Zs (Zs ?_)))
  refine Zqt (.rd 0 (.rd 1 (.rd 2 .done))) ?_
  refine Zr 0 3 [] ?_
  refine Zd (Zt (Zb ?_))
  refine GoC.loop (T:=Nat×(Option Addr)×(Option Addr)) (fun gg=>[(0,.slice gg.2.1 x.length cx),(1,.slice gg.2.2 y.length cy),(12,.int .i64 (x.length:Nat)),(13,.int .i64 (gg.1:Nat))]) (fun gg w=>(gg.1≤x.length∧x.take gg.1=y.take gg.1∧(∀ w,St w0 L w→RowsAt w gg.2.1 x.length 2 (fun q=>TPr.cells (x.getD q dPr)))∧(∀ w,St w0 L w→RowsAt w gg.2.2 y.length 2 (fun q=>TPr.cells (y.getD q dPr))))∧St w0 (L) w) (fun gg=>x.length-gg.1) (0,ax,ay) [0,1,12,13] (by kernel_rfl) ⟨⟨Nat.zero_le _,rfl,hr1,hr2⟩,hs⟩ ?_
  rintro⟨k,aq,bq⟩ w2 ⟨hp0,hs3⟩
  have hp:k≤x.length∧x.take k=y.take k∧(∀ w,St w0 L w→RowsAt w aq x.length 2 (fun q=>TPr.cells (x.getD q dPr)))∧(∀ w,St w0 L w→RowsAt w bq y.length 2 (fun q=>TPr.cells (y.getD q dPr))):=hp0
  have hs4:St w0 (L) w2:=hs3
  refine Zn [(0,.slice aq x.length cx),(1,.slice bq y.length cy),(12,.int .i64 (x.length:Nat)),(13,.int .i64 (k:Nat))] ?_
  have hw1:=hp.2.2.1
  have hw2:=hp.2.2.2
  refine Zs ?_
  refine Zqt (.rd 0 .done) ?_
  refine Zr 0 1 [] ?_
  refine Zd (Zt (Zs ?_))
  refine Zqc (t:=decide (((k:Nat):Int)<(x.length:Nat))) (fun h5=>?_) (fun h5=>?_)
  ·have h5':((k:Nat):Int)<(x.length:Nat):=of_decide_eq_true h5
   have hkx:k<x.length:=by omega
   have hky:k<y.length:=by omega
   obtain⟨ab6,ao7,rfl⟩:=RowsAt.isSome (hw1 _ (hs4.drop 0)) (by omega)
   obtain⟨ab8,ao9,rfl⟩:=RowsAt.isSome (hw2 _ (hs4.drop 0)) (by omega)
   refine Zk (Zt (Zs (Zb (Zs ?_))))
   refine Zqt (.rd 0 (.rd 1 .done)) ?_
   refine Zr 0 2 [] ?_
   refine Zd (Zt (Zs ?_))
   refine GoC.regD [0,0,3,7,0,0,48,112,255] (.rd 0 (.rd 1 (.rd 2 (.rd 3 (.rd 4 (.rd 5 (.rd 6 (.rd 7 (.rd 8 .done))))))))) (by kernel_rfl) (by kernel_rfl) noPan_body (by kernel_rfl) hs4 ?_
   intro w10 hs11 hw12
   refine Zp 0 8 [(2,.as_ (zP ab6 (ao7+(k*2))) .at_),(3,.agg (TPr.cells (x.getD k dPr))),(6,.as_ (zP ab8 (ao9+(k*2))) .at_),(7,.agg (TPr.cells (y.getD k dPr)))] [(2,[.prop (0≤((k:Nat):Int)∧((k:Nat):Int)<((x.length:Nat):Int)),.prop (Value.pointer (some (Addr.add ⟨ab6,ao7,none⟩ (Int.toNat (k:Nat)*2)))=Value.pointer (some ⟨ab6,ao7+(k*2),none⟩))]),(3,[.prop (Array.size (TPr.cells (x.getD k dPr))=2),.cells ⟨ab6,ao7+(k*2),none⟩ (TPr.cells (x.getD k dPr))]),(6,[.prop (0≤((k:Nat):Int)∧((k:Nat):Int)<((y.length:Nat):Int)),.prop (Value.pointer (some (Addr.add ⟨ab8,ao9,none⟩ (Int.toNat (k:Nat)*2)))=Value.pointer (some ⟨ab8,ao9+(k*2),none⟩))]),(7,[.prop (Array.size (TPr.cells (y.getD k dPr))=2),.cells ⟨ab8,ao9+(k*2),none⟩ (TPr.cells (y.getD k dPr))])] (ak (okp (by omega) (okp (ptrAdd _ _ _) ok0)) (ak (okp (by kernel_rfl) (oka (RowsAt.all0 (hw1 _ (hs11.drop 0)) (by first|omega|(simp only [List.length_set];omega)|(simp only [List.length_set,lA,lC,lN];omega)) (Nat.le_of_ble_eq_true (by kernel_rfl)) (by kernel_rfl)) ok0)) (ak (okp (by omega) (okp (ptrAdd _ _ _) ok0)) (ak (okp (by kernel_rfl) (oka (RowsAt.all0 (hw2 _ (hs11.drop 0)) (by first|omega|(simp only [List.length_set];omega)|(simp only [List.length_set,lA,lC,lN];omega)) (Nat.le_of_ble_eq_true (by kernel_rfl)) (by kernel_rfl)) ok0)) ak0)))) ?_
   refine GoR.eqAgg rfl (by kernel_rfl) (b:=false) (t:=205) (xs:=TPr.cells (x.getD k dPr)) (ys:=TPr.cells (y.getD k dPr)) (m:=2) (by kernel_rfl) (by kernel_rfl) (by decide) (by kernel_rfl) (r:=!(decide ((x.getD k dPr)=(y.getD k dPr)))) (aggNe  (prEq (x.getD k dPr) (y.getD k dPr))) ?_
   refine Zd (Zt ?_)
   refine Zqc (t:=!(decide ((x.getD k dPr)=(y.getD k dPr)))) (fun h13=>?_) (fun h13=>?_)
   ·have h13n:(decide ((x.getD k dPr)=(y.getD k dPr)))=false:=notT h13
    have h13n':¬ ((x.getD k dPr)=(y.getD k dPr)):=of_decide_eq_false h13n
    have hne:¬ (x.getD k dPr=y.getD k dPr):=by simpa using h13
    refine Zs ?_
    refine Zqt (.rd 0 .done) ?_
    refine Zr 0 1 [] ?_
    refine Zd (Zt (Ze (Zl (Zy (GoQ.skipLR (Zl (Zy ?_)))))))
    refine Zq1 (v:=.bool false) ?_
    exact⟨(by rw [decide_eq_false fun h9=>hne (by rw [h9])]),hs11⟩
   ·have h13n:(decide ((x.getD k dPr)=(y.getD k dPr)))=true:=notF h13
    have h13n':(x.getD k dPr)=(y.getD k dPr):=of_decide_eq_true h13n
    have heq:x.getD k dPr=y.getD k dPr:=by simpa using h13
    refine Zk (Zm (Zt ?_))
    refine Zqt (.rd 0 (.rd 1 .done)) ?_
    refine Zp 0 2 [(0,.as_ (.int .i64 ((k:Nat)+1)) (.gen []))] [(0,[.prop (Value.int .i64 (IntKind.i64.wrap ((k:Nat)+1))=Value.int .i64 ((k:Nat)+1))])] (ak (okp (i64ok (by omega) (by omega)) ok0) ak0) ?_
    refine Zd ?_
    exact GoQ.back (k+1,some ⟨ab6,ao7,none⟩,some ⟨ab8,ao9,none⟩) [0,1,12,13] (by kernel_rfl) (by show x.length-(k+1)<x.length-k;omega) ⟨⟨by omega,by rw [take_succ_getD (d:=dPr) hkx,take_succ_getD (d:=dPr) hky,hp.2.1,heq],hw1,hw2⟩,hs11⟩
  ·have h5':¬ (((k:Nat):Int)<(x.length:Nat)):=of_decide_eq_false h5
   have hxy:x=y:=by rw [← List.take_of_length_le (i:=k) (l:=x) (by omega),← List.take_of_length_le (i:=k) (l:=y) (by omega)];exact hp.2.1
   refine Zx (GoQ.skipC (GoQ.skipL (GoQ.hit (Zt (Zs ?_)))))
   refine Zqt (.rd 0 .done) ?_
   refine Zr 0 1 [] ?_
   refine Zd (Zt (Ze ?_))
   refine Zq1 (v:=.bool true) ?_
   exact⟨(by rw [decide_eq_true hxy]),hs4⟩
def sameB (x:TBd) (y:TBd):Bool :=
 if ((x.kd:Int) == y.kd)=true then
  if ((x.vw:Int) == y.vw)=true then
   if ((x.k:Int) == y.k)=true then
    if (decide (x.rq=y.rq))=true then
     if (decide (x.ql=y.ql))=true then
      decide (x.dg=y.dg)
     else
      false
    else
     false
   else
    false
  else
   false
 else
  false
theorem same_spec {w0 w:World}{L:List Asn}(x:TBd) (y:TBd) (hqn:x.ql.length≤9223372036854775807) (hr1:∀ w,St w0 L w→RowsAt w x.qa x.ql.length 2 (fun k=>TPr.cells (x.ql.getD k dPr))) (hr2:∀ w,St w0 L w→RowsAt w y.qa y.ql.length 2 (fun k=>TPr.cells (y.ql.getD k dPr))) (hs:St w0 (L) w):Calls Tryz.prog 69 #[.agg (TBd.cells x),.agg (TBd.cells y)] w (Ret fun rv w'=>rv=.bool (sameB x y)∧St w0 (L) w'):=by
 refine Zen (args:=[.agg (TBd.cells x),.agg (TBd.cells y)]) Tryz.func69 Tryz.ntmps69 ?_
 refine Zn [(0,.agg (TBd.cells x)),(1,.agg (TBd.cells y))] ?_
 refine Zs ?_
 refine Zqt (.ef 0 (.ef 1 (.rd 2 .done))) ?_
 refine GoR.box rfl rfl (by kernel_rfl) (v:=.agg (TBd.cells x)) (by kernel_rfl) hs (cs:=TBd.cells x) (by kernel_rfl) ?_
 intro b1 w2 hs3
 refine⟨Zqo,?_⟩
 refine GoR.box rfl rfl (by kernel_rfl) (v:=.agg (TBd.cells y)) (by kernel_rfl) hs3 (cs:=TBd.cells y) (by kernel_rfl) ?_
 intro b4 w5 hs6
 refine⟨Zqo,?_⟩
 refine Zr 2 1 [] ?_
 refine Zd (Zt (Zs ?_))
 refine Zqt (.rd 0 (.rd 1 (.rd 2 (.rd 3 (.rd 4 (.rd 5 (.rd 6 (.rd 7 (.rd 8 (.rd 9 (.rd 10 (.rd 11 (.rd 12 (.rd 13 (.rd 14 (.rd 15 (.rd 16 (.rd 17 (.rd 18 (.rd 19 (.rd 20 (.rd 21 (.rd 22 (.rd 23 (.rd 24 (.rd 25 (.rd 26 (.rd 27 (.rd 28 (.rd 29 (.rd 30 (.ef 31 (.rd 32 (.rd 33 (.rd 34 (.rd 35 (.rd 36 (.rd 37 (.rd 38 (.rd 39 (.rd 40 .done))))))))))))))))))))))))))))))))))))))))) ?_
 refine Zp 0 6 [(1,.gen [.int .u8 x.kd]),(3,.gen [.int .u8 y.kd])] [(1,[.cell ⟨b1,0,none⟩ (.int .u8 x.kd)]),(3,[.cell ⟨b4,0,none⟩ (.int .u8 y.kd)])] (ak (okc (hs6.cell 1 rfl (by kernel_rfl)) ok0) (ak (okc (hs6.cell 0 rfl (by kernel_rfl)) ok0) ak0)) ?_
 rcases Bool.eq_false_or_eq_true ((x.kd:Int) == y.kd) with h7|h7
 ·refine Zqs 10 true h7 ?_
  have h7':(x.kd:Int)=y.kd:=ieqT h7
  refine Zp 6 7 [(7,.gen [.int .u64 x.vw]),(9,.gen [.int .u64 y.vw])] [(7,[.cell ⟨b1,1,none⟩ (.int .u64 x.vw)]),(9,[.cell ⟨b4,1,none⟩ (.int .u64 y.vw)])] (ak (okc (hs6.cell 1 rfl (by kernel_rfl)) ok0) (ak (okc (hs6.cell 0 rfl (by kernel_rfl)) ok0) ak0)) ?_
  rcases Bool.eq_false_or_eq_true ((x.vw:Int) == y.vw) with h8|h8
  ·refine Zqs 17 true h8 ?_
   have h8':(x.vw:Int)=y.vw:=ieqT h8
   refine Zp 13 7 [(14,.gen [.int .u64 x.k]),(16,.gen [.int .u64 y.k])] [(14,[.cell ⟨b1,2,none⟩ (.int .u64 x.k)]),(16,[.cell ⟨b4,2,none⟩ (.int .u64 y.k)])] (ak (okc (hs6.cell 1 rfl (by kernel_rfl)) ok0) (ak (okc (hs6.cell 0 rfl (by kernel_rfl)) ok0) ak0)) ?_
   rcases Bool.eq_false_or_eq_true ((x.k:Int) == y.k) with h9|h9
   ·refine Zqs 24 true h9 ?_
    have h9':(x.k:Int)=y.k:=ieqT h9
    refine Zp 20 4 [(21,.agg (TRq.cells x.rq)),(23,.agg (TRq.cells y.rq))] [(21,[.prop (Array.size (TRq.cells x.rq)=40),.cells ⟨b1,3,none⟩ (TRq.cells x.rq)]),(23,[.prop (Array.size (TRq.cells y.rq)=40),.cells ⟨b4,3,none⟩ (TRq.cells y.rq)])] (ak (okp (by kernel_rfl) (oka (hs6.cells 1 3 rfl (by kernel_rfl)) ok0)) (ak (okp (by kernel_rfl) (oka (hs6.cells 0 3 rfl (by kernel_rfl)) ok0)) ak0)) ?_
    refine GoR.eqAgg rfl (by kernel_rfl) (b:=true) (t:=27) (xs:=TRq.cells x.rq) (ys:=TRq.cells y.rq) (m:=3) (by kernel_rfl) (by kernel_rfl) (by decide) (by kernel_rfl) (r:=decide (x.rq=y.rq)) (aggEq  (rqEq x.rq y.rq)) ?_
    refine Zr 25 2 [] ?_
    rcases Bool.eq_false_or_eq_true (decide (x.rq=y.rq)) with h10|h10
    ·refine Zqs 31 true h10 ?_
     have h10':x.rq=y.rq:=of_decide_eq_true h10
     refine Zp 27 4 [(28,.gen [.slice x.qa x.ql.length x.qc]),(30,.gen [.slice y.qa y.ql.length y.qc])] [(28,[.cell ⟨b1,43,none⟩ (.slice x.qa x.ql.length x.qc)]),(30,[.cell ⟨b4,43,none⟩ (.slice y.qa y.ql.length y.qc)])] (ak (okc (hs6.cell 1 rfl (by kernel_rfl)) ok0) (ak (okc (hs6.cell 0 rfl (by kernel_rfl)) ok0) ak0)) ?_
     refine Zqa (f:=103) (args:=#[.slice x.qa x.ql.length x.qc,.slice y.qa y.ql.length y.qc]) Tryz.call103 (eqPair_spec x.ql y.ql (by first|assumption|omega) (fun w h=>hr1 _ (h.drop 2)) (fun w h=>hr2 _ (h.drop 2)) hs6) ?_
     rintro v12 w13 ⟨rfl,hs11⟩
     refine⟨Zqo,?_⟩
     refine Zr 32 2 [] ?_
     rcases Bool.eq_false_or_eq_true (decide (x.ql=y.ql)) with h14|h14
     ·refine Zqs 38 true h14 ?_
      refine Zp 34 4 [(35,.agg (D32.cells x.dg)),(37,.agg (D32.cells y.dg))] [(35,[.prop (Array.size (D32.cells x.dg)=32),.cells ⟨b1,44,none⟩ (D32.cells x.dg)]),(37,[.prop (Array.size (D32.cells y.dg)=32),.cells ⟨b4,44,none⟩ (D32.cells y.dg)])] (ak (okp (by kernel_rfl) (oka (hs11.cells 1 44 rfl (by kernel_rfl)) ok0)) (ak (okp (by kernel_rfl) (oka (hs11.cells 0 44 rfl (by kernel_rfl)) ok0)) ak0)) ?_
      refine GoR.eqAgg rfl (by kernel_rfl) (b:=true) (t:=25) (xs:=D32.cells x.dg) (ys:=D32.cells y.dg) (m:=2) (by kernel_rfl) (by kernel_rfl) (by decide) (by kernel_rfl) (r:=decide (x.dg=y.dg)) (aggEq  (digEq x.dg y.dg)) ?_
      refine Zr 39 2 [] ?_
      refine Zd (Zt (Ze ?_))
      refine Zq1 (v:=.bool (decide (x.dg=y.dg))) ?_
      have hr:sameB x y=decide (x.dg=y.dg):=by rw [sameB,if_pos h7,if_pos h8,if_pos h9,if_pos h10,if_pos h14]
      have hs15:St w0 (L) w13:=hs11.drop 2
      exact⟨(by first|rfl|(rw [hr];done)|(rw [hr];rfl)),(by first|exact hs15|(rw [hr];exact hs15))⟩
     ·refine Zqs 38 false h14 ?_
      refine Zr 34 7 [] ?_
      refine Zd (Zt (Ze ?_))
      refine Zq1 (v:=.bool false) ?_
      have hr:sameB x y=false:=by rw [sameB,if_pos h7,if_pos h8,if_pos h9,if_pos h10,if_neg (nF h14)]
      have hs16:St w0 (L) w13:=hs11.drop 2
      exact⟨(by first|rfl|(rw [hr];done)|(rw [hr];rfl)),(by first|exact hs16|(rw [hr];exact hs16))⟩
    ·refine Zqs 31 false h10 ?_
     have h10':¬ (x.rq=y.rq):=of_decide_eq_false h10
     refine Zr 27 4 [] ?_
     refine GoR.skip rfl (by kernel_rfl) Zqo ?_
     refine Zr 32 9 [] ?_
     refine Zd (Zt (Ze ?_))
     refine Zq1 (v:=.bool false) ?_
     have hr:sameB x y=false:=by rw [sameB,if_pos h7,if_pos h8,if_pos h9,if_neg (nF h10)]
     have hs17:St w0 (L) w5:=hs6.drop 2
     exact⟨(by first|rfl|(rw [hr];done)|(rw [hr];rfl)),(by first|exact hs17|(rw [hr];exact hs17))⟩
   ·refine Zqs 24 false h9 ?_
    have h9':¬ ((x.k:Int)=y.k):=ieqF h9
    refine Zr 20 11 [] ?_
    refine GoR.skip rfl (by kernel_rfl) Zqo ?_
    refine Zr 32 9 [] ?_
    refine Zd (Zt (Ze ?_))
    refine Zq1 (v:=.bool false) ?_
    have hr:sameB x y=false:=by rw [sameB,if_pos h7,if_pos h8,if_neg (nF h9)]
    have hs18:St w0 (L) w5:=hs6.drop 2
    exact⟨(by first|rfl|(rw [hr];done)|(rw [hr];rfl)),(by first|exact hs18|(rw [hr];exact hs18))⟩
  ·refine Zqs 17 false h8 ?_
   have h8':¬ ((x.vw:Int)=y.vw):=ieqF h8
   refine Zr 13 18 [] ?_
   refine GoR.skip rfl (by kernel_rfl) Zqo ?_
   refine Zr 32 9 [] ?_
   refine Zd (Zt (Ze ?_))
   refine Zq1 (v:=.bool false) ?_
   have hr:sameB x y=false:=by rw [sameB,if_pos h7,if_neg (nF h8)]
   have hs19:St w0 (L) w5:=hs6.drop 2
   exact⟨(by first|rfl|(rw [hr];done)|(rw [hr];rfl)),(by first|exact hs19|(rw [hr];exact hs19))⟩
 ·refine Zqs 10 false h7 ?_
  have h7':¬ ((x.kd:Int)=y.kd):=ieqF h7
  refine Zr 6 25 [] ?_
  refine GoR.skip rfl (by kernel_rfl) Zqo ?_
  refine Zr 32 9 [] ?_
  refine Zd (Zt (Ze ?_))
  refine Zq1 (v:=.bool false) ?_
  have hr:sameB x y=false:=by rw [sameB,if_neg (nF h7)]
  have hs20:St w0 (L) w5:=hs6.drop 2
  exact⟨(by first|rfl|(rw [hr];done)|(rw [hr];rfl)),(by first|exact hs20|(rw [hr];exact hs20))⟩
structure CoV where
 p:Value
 g:Value
 m:Value
def CoV.cells (x:CoV):Array Value:=#[x.p,x.g,x.m]
abbrev cvZ:CoV:=⟨.nilFunc,.nilFunc,.nilFunc⟩
abbrev cvF (a b c:Nat):CoV:=⟨.func (.func a) #[] #[],.func (.func b) #[] #[],.func (.func c) #[] #[]⟩
abbrev ekU:Int→Value:=Value.int .u8
abbrev evC:CoV→Value:=fun v=>.agg (CoV.cells v)
theorem cdLaw:MapLaw Tryz.prog 150 ekU evC 5 149 :=
 MapLaw.now (by kernel_rfl) ⟨.int .u8,by kernel_rfl,fun a b=>by simp [Instr.sameNow,ekU,ib],.inl ⟨_,rfl⟩⟩ (fun a=>by simp [Instr.sameBits,ekU]) (fun em a w=>rfl)
theorem view_spec {w0 w:World}{L:List Asn}(hs:St w0 (L) w):Calls Tryz.prog 96 #[] w (Ret fun rv w'=>rv=.agg #[.func (.func 137) #[] #[],.func (.func 138) #[] #[],.func (.func 139) #[] #[]]∧St w0 (L) w'):=by
 refine Zen (args:=[]) Tryz.func96 Tryz.ntmps96 ?_
 refine Zn [] ?_
 refine Zs ?_
 refine Zqt (.ef 0 .done) ?_
 refine GoR.alloc rfl rfl (by kernel_rfl) (z:=.agg (CoV.cells cvZ)) (by kernel_rfl) hs (cs:=CoV.cells cvZ) (by kernel_rfl) ?_
 intro b1 w2 hs3
 refine⟨Zqo,?_⟩
 refine Zd (Zt (Zs ?_))
 refine Zqt (.rd 0 (.ef 1 .done)) ?_
 refine Zr 0 1 [] ?_
 refine Zw (b:=b1) (off:=0) (v:=.agg #[.func (.func 137) #[] #[],.func (.func 138) #[] #[],.func (.func 139) #[] #[]]) (ti:=Tryz.t149) (by kernel_rfl) hs3 0 (L':=(Cel b1 #[.func (.func 137) #[] #[],.func (.func 138) #[] #[],.func (.func 139) #[] #[]] 149)::L) ?_
 intro w4 hs5
 refine⟨Zqo,?_⟩
 refine Zd (Zt (Ze ?_))
 refine GoQ.done (.inl rfl) (v:=.agg #[.func (.func 137) #[] #[],.func (.func 138) #[] #[],.func (.func 139) #[] #[]]) (fun a hf=>resultsA rfl (by kernel_rfl) (ti:=Tryz.t149) (by kernel_rfl) (by kernel_rfl) (vs:=#[.func (.func 137) #[] #[],.func (.func 138) #[] #[],.func (.func 139) #[] #[]]) (by kernel_rfl) (hs5.cells 0 0 rfl (by kernel_rfl)) a hf) ?_
 have hs6:St w0 (L) w4:=hs5.drop 1
 exact⟨rfl,hs6⟩
def cdL:List (Int×CoV):=aset (aset (aset (aset (aset (aset ([]) 1 (⟨(.func (.func 87) #[] #[]),(.func (.func 89) #[] #[]),(.func (.func 91) #[] #[])⟩:CoV)) 2 (⟨(.func (.func 93) #[] #[]),(.func (.func 94) #[] #[]),(.func (.func 95) #[] #[])⟩:CoV)) 3 (⟨(.func (.func 137) #[] #[]),(.func (.func 138) #[] #[]),(.func (.func 139) #[] #[])⟩:CoV)) 5 (⟨(.func (.func 137) #[] #[]),(.func (.func 138) #[] #[]),(.func (.func 139) #[] #[])⟩:CoV)) 4 (⟨(.func (.func 97) #[] #[]),(.func (.func 98) #[] #[]),(.func (.func 99) #[] #[])⟩:CoV)) 6 (⟨(.func (.func 101) #[] #[]),(.func (.func 102) #[] #[]),(.func (.func 95) #[] #[])⟩:CoV)
theorem codecs_spec {w0 w:World}{L:List Asn}(hs:St w0 (L) w):Calls Tryz.prog 68 #[] w (Ret fun rv w'=>∃ (r:Nat),rv=.map (some r)∧St w0 ((MapA ekU evC r cdL)::L) w'):=by
 refine Zen (args:=[]) Tryz.func68 Tryz.ntmps68 ?_
 refine Zn [] ?_
 refine Zs ?_
 refine Zqt (.rd 0 .done) ?_
 refine Zr 0 1 [] ?_
 refine Zd (Zt (Zs ?_))
 refine Zqt (.ef 0 (.rd 1 (.ef 2 (.rd 3 (.ef 4 (.ef 5 (.ef 6 (.ef 7 (.ef 8 (.rd 9 (.ef 10 (.rd 11 (.ef 12 (.rd 13 (.rd 14 .done))))))))))))))) ?_
 refine GoR.makeMap (α:=Int) (β:=CoV) rfl rfl (by kernel_rfl) ekU evC hs ?_
 intro r1 w2 hs3
 refine⟨Zqo,?_⟩
 refine Zr 1 1 [] ?_
 refine GoR.insert rfl (by kernel_rfl) cdLaw (r:=r1) (k:=1) (v:=(⟨(.func (.func 87) #[] #[]),(.func (.func 89) #[] #[]),(.func (.func 91) #[] #[])⟩:CoV)) (by kernel_rfl) hs3 0 rfl ?_
 intro w4 hs5
 refine⟨Zqo,?_⟩
 refine Zr 3 1 [] ?_
 refine GoR.insert rfl (by kernel_rfl) cdLaw (r:=r1) (k:=2) (v:=(⟨(.func (.func 93) #[] #[]),(.func (.func 94) #[] #[]),(.func (.func 95) #[] #[])⟩:CoV)) (by kernel_rfl) hs5 0 rfl ?_
 intro w6 hs7
 refine⟨Zqo,?_⟩
 refine Zqa (f:=96) (args:=#[]) Tryz.call96 (view_spec hs7) ?_
 rintro v9 w10 ⟨rfl,hs8⟩
 refine⟨Zqo,?_⟩
 refine GoR.insert rfl (by kernel_rfl) cdLaw (r:=r1) (k:=3) (v:=(⟨(.func (.func 137) #[] #[]),(.func (.func 138) #[] #[]),(.func (.func 139) #[] #[])⟩:CoV)) (by kernel_rfl) hs8 0 rfl ?_
 intro w11 hs12
 refine⟨Zqo,?_⟩
 refine Zqa (f:=96) (args:=#[]) Tryz.call96 (view_spec hs12) ?_
 rintro v14 w15 ⟨rfl,hs13⟩
 refine⟨Zqo,?_⟩
 refine GoR.insert rfl (by kernel_rfl) cdLaw (r:=r1) (k:=5) (v:=(⟨(.func (.func 137) #[] #[]),(.func (.func 138) #[] #[]),(.func (.func 139) #[] #[])⟩:CoV)) (by kernel_rfl) hs13 0 rfl ?_
 intro w16 hs17
 refine⟨Zqo,?_⟩
 refine Zr 9 1 [] ?_
 refine GoR.insert rfl (by kernel_rfl) cdLaw (r:=r1) (k:=4) (v:=(⟨(.func (.func 97) #[] #[]),(.func (.func 98) #[] #[]),(.func (.func 99) #[] #[])⟩:CoV)) (by kernel_rfl) hs17 0 rfl ?_
 intro w18 hs19
 refine⟨Zqo,?_⟩
 refine Zr 11 1 [] ?_
 refine GoR.insert rfl (by kernel_rfl) cdLaw (r:=r1) (k:=6) (v:=(⟨(.func (.func 101) #[] #[]),(.func (.func 102) #[] #[]),(.func (.func 95) #[] #[])⟩:CoV)) (by kernel_rfl) hs19 0 rfl ?_
 intro w20 hs21
 refine⟨Zqo,?_⟩
 refine Zr 13 2 [] ?_
 refine Zd (Zt (Ze ?_))
 refine Zq1 (v:=.map (some r1)) ?_
 exact⟨r1,rfl,hs21⟩
structure Codec (kd:Int) (fp fg fm:Nat):Prop where
 cp:∀ (args:Array Value) (w:World),(callFunc fp args).run Tryz.prog w=.ok (.enter fp args) w
 cg:∀ (args:Array Value) (w:World),(callFunc fg args).run Tryz.prog w=.ok (.enter fg args) w
 cm:∀ (args:Array Value) (w:World),(callFunc fm args).run Tryz.prog w=.ok (.enter fm args) w
 may:∀ {w0 w:World}{L:List Asn}(x:TBd) (hkd:x.kd=kd) (hqn:x.ql.length≤9223372036854775807) (hr:∀ w,St w0 L w→RowsAt w x.qa x.ql.length 2 (fun k=>TPr.cells (x.ql.getD k dPr))) (hs:St w0 (L) w),Calls Tryz.prog fm #[.agg (TBd.cells x)] w (Ret fun rv w'=>rv=.bool (mayB x)∧St w0 (L) w')
 put:∀ {w0 w:World}{L:List Asn}{ad:Option Addr}{c:Nat}(l:List Int) (x:TBd) (hkd:x.kd=kd) (hl:l.length≤90000) (hx:BdOK x) (hm:mayB x=true) (hlq:x.ql.length≤1000) (hr:∀ w,St w0 L w→RowsAt w x.qa x.ql.length 2 (fun k=>TPr.cells (x.ql.getD k dPr))) (hs:St w0 ((Sl ad c 5 1 byteC l)::L) w),Calls Tryz.prog fp #[.slice ad l.length c,.agg (TBd.cells x)] w (Ret fun rv w'=>∃ (ao:Option Addr) (co:Nat),rv=.slice ao ((l++bdB x).length) co∧St w0 ((Sl ao co 5 1 byteC (l++bdB x))::L) w')
 getY:∀ {w0 w:World}{L:List Asn}{c:Nat}{az:Option Addr}{cz:Nat}{y:Nat}(Q:Asn) (r:List Int) (sp:Bool) (hQ:∀ w,St w0 L w→Q.holds w) (hq:CutOK Q az r cz) (hkr:0≤kd∧kd≤255) (hs:St w0 ((Cel c #[.slice az r.length cz,.bool sp] 124)::(Cel y (TBd.cells (⟨kd,0,0,dRq,none,0,[],dD32⟩:TBd)) 30)::L) w),Calls Tryz.prog fg #[zP c 0,zP y 0] w (Ret fun rv w'=>∃ (yy2:TBd) (rr2:List Int) (sp2:Bool) (az2:Option Addr) (cz2:Nat),rv=.tuple #[]∧getB kd (r,sp)=(con yy2,(rr2,sp2))∧BdOK yy2∧CutOK Q az2 rr2 cz2∧St w0 ((Cel y (TBd.cells yy2) 30)::(Sl yy2.qa yy2.qc 205 2 TPr.cells yy2.ql)::(Cel c #[.slice az2 rr2.length cz2,.bool sp2] 124)::L) w')
 getM:∀ {w0 w:World}{L:List Asn}{c:Nat}{az:Option Addr}{cz:Nat}{y:Nat}{og:Int}{nr:Int}{dp:VecD}{tg:D32}(Q:Asn) (r:List Int) (sp:Bool) (hQ:∀ w,St w0 L w→Q.holds w) (hq:CutOK Q az r cz) (hkr:0≤kd∧kd≤255) (hs:St w0 ((Cel c #[.slice az r.length cz,.bool sp] 124)::(Cel y (TMs.cells (⟨og,nr,dp,(⟨kd,0,0,dRq,none,0,[],dD32⟩:TBd),tg⟩:TMs)) 58)::L) w),Calls Tryz.prog fg #[zP c 0,zP y 13] w (Ret fun rv w'=>∃ (yy2:TBd) (rr2:List Int) (sp2:Bool) (az2:Option Addr) (cz2:Nat),rv=.tuple #[]∧getB kd (r,sp)=(con yy2,(rr2,sp2))∧BdOK yy2∧CutOK Q az2 rr2 cz2∧St w0 ((Cel y (TMs.cells (⟨og,nr,dp,yy2,tg⟩:TMs)) 58)::(Sl yy2.qa yy2.qc 205 2 TPr.cells yy2.ql)::(Cel c #[.slice az2 rr2.length cz2,.bool sp2] 124)::L) w')
theorem codec1:Codec 1 87 89 91 where
 cp:=Tryz.call87
 cg:=Tryz.call89
 cm:=Tryz.call91
 may:=fun x hkd hqn hr hs=>by
  rw [show mayB x=askedB x.rq from if_pos (by omega)]
  exact may1_spec x hs
 put:=fun l x hkd hl hx hm hlq hr hs=>by
  rw [show bdB x=bd1 x from if_pos (by omega)]
  exact put1_spec l x hl hx (askedB_sz (by rw [show mayB x=askedB x.rq from if_pos (by omega)] at hm;exact hm)) hs
 getY:=fun Q r sp hQ hq hkr hs=>get1Y_spec Q r sp 1 hQ hq hkr rfl hs
 getM:=fun Q r sp hQ hq hkr hs=>get1M_spec Q r sp 1 hQ hq hkr rfl hs
theorem codec2:Codec 2 93 94 95 where
 cp:=Tryz.call93
 cg:=Tryz.call94
 cm:=Tryz.call95
 may:=fun x hkd hqn hr hs=>by
  rw [show mayB x=kB x from(if_neg (by omega)).trans (if_pos (by omega))]
  exact k_spec x hs
 put:=fun l x hkd hl hx hm hlq hr hs=>by
  rw [show bdB x=bd2 x from(if_neg (by omega)).trans (if_pos (by omega))]
  exact put2_spec l x hl hx hs
 getY:=fun Q r sp hQ hq hkr hs=>get2Y_spec Q r sp 2 hQ hq hkr rfl hs
 getM:=fun Q r sp hQ hq hkr hs=>get2M_spec Q r sp 2 hQ hq hkr rfl hs
theorem codec3:Codec 3 137 138 139 where
 cp:=Tryz.call137
 cg:=Tryz.call138
 cm:=Tryz.call139
 may:=fun x hkd hqn hr hs=>by
  rw [show mayB x=decide ((x.vw:Int) ≥ 1) from(if_neg (by omega)).trans ((if_neg (by omega)).trans (if_neg (by omega)))]
  exact may3_spec x hs
 put:=fun l x hkd hl hx hm hlq hr hs=>by
  rw [show bdB x=wd x.vw from(if_neg (by omega)).trans ((if_neg (by omega)).trans ((if_neg (by omega)).trans (if_neg (by omega))))]
  exact put3_spec l x hl hx hs
 getY:=fun Q r sp hQ hq hkr hs=>get3Y_spec Q r sp 3 hQ hq hkr (by decide) hs
 getM:=fun Q r sp hQ hq hkr hs=>get3M_spec Q r sp 3 hQ hq hkr (by decide) hs
theorem codec4:Codec 4 97 98 99 where
 cp:=Tryz.call97
 cg:=Tryz.call98
 cm:=Tryz.call99
 may:=fun x hkd hqn hr hs=>by
  rw [show mayB x=(decide ((x.vw:Int) ≥ 1) && quorB x.ql) from(if_neg (by omega)).trans ((if_neg (by omega)).trans (if_pos (by omega)))]
  exact may4_spec x hqn hr hs
 put:=fun l x hkd hl hx hm hlq hr hs=>by
  rw [show bdB x=bd4 x from(if_neg (by omega)).trans ((if_neg (by omega)).trans (if_pos (by omega)))]
  exact put4_spec l x hl hx hlq hr hs
 getY:=fun Q r sp hQ hq hkr hs=>get4Y_spec Q r sp 4 hQ hq hkr rfl hs
 getM:=fun Q r sp hQ hq hkr hs=>get4M_spec Q r sp 4 hQ hq hkr rfl hs
theorem codec5:Codec 5 137 138 139 where
 cp:=Tryz.call137
 cg:=Tryz.call138
 cm:=Tryz.call139
 may:=fun x hkd hqn hr hs=>by
  rw [show mayB x=decide ((x.vw:Int) ≥ 1) from(if_neg (by omega)).trans ((if_neg (by omega)).trans (if_neg (by omega)))]
  exact may3_spec x hs
 put:=fun l x hkd hl hx hm hlq hr hs=>by
  rw [show bdB x=wd x.vw from(if_neg (by omega)).trans ((if_neg (by omega)).trans ((if_neg (by omega)).trans (if_neg (by omega))))]
  exact put3_spec l x hl hx hs
 getY:=fun Q r sp hQ hq hkr hs=>get3Y_spec Q r sp 5 hQ hq hkr (by decide) hs
 getM:=fun Q r sp hQ hq hkr hs=>get3M_spec Q r sp 5 hQ hq hkr (by decide) hs
theorem codec6:Codec 6 101 102 95 where
 cp:=Tryz.call101
 cg:=Tryz.call102
 cm:=Tryz.call95
 may:=fun x hkd hqn hr hs=>by
  rw [show mayB x=kB x from(if_neg (by omega)).trans (if_pos (by omega))]
  exact k_spec x hs
 put:=fun l x hkd hl hx hm hlq hr hs=>by
  rw [show bdB x=bd6 x from(if_neg (by omega)).trans ((if_neg (by omega)).trans ((if_neg (by omega)).trans (if_pos (by omega))))]
  exact put6_spec l x hl hx hs
 getY:=fun Q r sp hQ hq hkr hs=>get6Y_spec Q r sp 6 hQ hq hkr rfl hs
 getM:=fun Q r sp hQ hq hkr hs=>get6M_spec Q r sp 6 hQ hq hkr rfl hs
theorem codec_of {kd:Int}(h:1≤kd∧kd≤6):∃ fp fg fm,aget cdL kd=some (cvF fp fg fm)∧Codec kd fp fg fm:=by
 obtain rfl|rfl|rfl|rfl|rfl|rfl:kd=1∨kd=2∨kd=3∨kd=4∨kd=5∨kd=6:=by omega
 ·exact⟨87,89,91,rfl,codec1⟩
 ·exact⟨93,94,95,rfl,codec2⟩
 ·exact⟨137,138,139,rfl,codec3⟩
 ·exact⟨97,98,99,rfl,codec4⟩
 ·exact⟨137,138,139,rfl,codec5⟩
 ·exact⟨101,102,95,rfl,codec6⟩
theorem codec_no {kd:Int}(h:¬ (1≤kd∧kd≤6)):aget cdL kd=none:=by
 have hn:cdL.find? (fun x=>decide (x.1=kd))=none:=by
  refine List.find?_eq_none.2 fun x hx h2=>h ?_
  have hk:∀ x∈cdL,1≤x.1∧x.1≤6:=fun x hx=>by
   have e:cdL.map (fun x=>x.1)=[1,2,3,5,4,6]:=rfl
   have h3:=e▸List.mem_map_of_mem (f:=fun x:Int×CoV=>x.1) hx
   simp only [List.mem_cons,List.not_mem_nil,or_false] at h3
   omega
  rw [← of_decide_eq_true h2]
  exact hk x hx
 show(cdL.find? fun x=>decide (x.1=kd)).map (·.2)=none
 rw [hn]
 rfl
theorem aget_isSome (kd:Int):(aget cdL kd).isSome=decide (1≤kd∧kd≤6):=by
 by_cases h:1≤kd∧kd≤6
 ·obtain⟨fp,fg,fm,hc,-⟩:=codec_of h
  rw [hc,decide_eq_true h]
  rfl
 ·rw [codec_no h,decide_eq_false h]
  rfl
theorem wd_byt (n:Int):∀ z∈wd n,0≤z∧z<256:=by
 intro x hx
 obtain⟨k,-,rfl⟩:=List.mem_map.1 hx
 exact u8wrap_b _
def Byt (l:List Int):Prop:=∀ z∈l,0≤z∧z<256
theorem Byt.app {l m:List Int}(h:Byt l) (h2:Byt m):Byt (l++m):=fun x hx=>(List.mem_append.1 hx).elim (h x) (h2 x)
theorem Byt.one {v:Int}(h:0≤v∧v<256):Byt [v]:=fun z hz=>by rw [List.mem_singleton.1 hz];exact h
theorem Byt.nil:Byt []:=fun z hz=>by cases hz
theorem tx_byt (s:ByteArray):Byt (tx s):=Byt.app (fun z hz=>by
 rcases List.mem_cons.1 hz with rfl|hz
 ·exact u8wrap_b _
 ·rw [List.mem_singleton.1 hz];exact u8wrap_b _) (fun x hx=>by
 obtain⟨b,-,rfl⟩:=List.mem_map.1 hx
 have:=b.toNat_lt
 omega)
theorem rqB_byt {r:TRq}(h:RqOK r):Byt (rqB r):=by
 have:=h.kd
 refine Byt.app (fun z hz=>?_) (Byt.app (wd_byt _) (Byt.app (wd_byt _) (Byt.app (tx_byt _) (Byt.app (tx_byt _) (Byt.app (tx_byt _) (tx_byt _))))))
 rcases List.mem_cons.1 hz with rfl|hz
 ·exact u8wrap_b _
 ·rw [List.mem_singleton.1 hz];omega
theorem bdB_byt {x:TBd}(h:BdOK x):Byt (bdB x):=by
 unfold bdB
 split
 ·exact Byt.app (wd_byt _) (Byt.app (rqB_byt h.rq) h.rq.tg)
 ·split
  ·exact Byt.app (wd_byt _) (wd_byt _)
  ·split
   ·refine Byt.app (wd_byt _) (Byt.app (Byt.one (u8wrap_b _)) fun z hz=>?_)
    obtain⟨p,-,hp⟩:=List.mem_flatMap.1 hz
    exact Byt.app (Byt.one (u8wrap_b _)) (wd_byt _) z hp
   ·split
    ·exact Byt.app (wd_byt _) h.dg
    ·exact wd_byt _
theorem bdB_len {x:TBd}(hm:mayB x=true) (hq:x.ql.length≤11):8≤(bdB x).length∧(bdB x).length≤600:=by
 unfold bdB
 split
 ·rename_i h1
  have hz:=rqB_length (askedB_sz (by rw [show mayB x=askedB x.rq from if_pos h1] at hm;exact hm))
  simp only [bd1,lA,wd_length,D32.len]
  omega
 ·repeat' split
  all_goals simp only [bd2,bd4,bd6,lA,lC,lN,wd_length,D32.len,prsB_length]
  all_goals omega
def bodyB (x:TBd):Bool:=if 1≤x.kd∧x.kd≤6 then (if x.vw ≥ 1073741824 then false else if mayB x=false then false else if x.ql.length>11 then false else sameB x (getB x.kd (bdB x,false)).1) else false
theorem kd_in {kd:Int}{v:CoV}(h:aget cdL kd=some v):1≤kd∧kd≤6:=by
 have h1:=aget_isSome kd
 rw [h] at h1
 exact of_decide_eq_true h1.symm
theorem kd_no {kd:Int}(h:aget cdL kd=none):¬ (1≤kd∧kd≤6):=by
 have h1:=aget_isSome kd
 rw [h] at h1
 exact of_decide_eq_false h1.symm
theorem body_in {w0 w:World}{L:List Asn}(x:TBd) (fp:Nat) (fg:Nat) (fm:Nat) (hc:aget cdL x.kd=some (cvF fp fg fm)) (C:Codec x.kd fp fg fm) (hx:BdOK x) (hr:∀ w,St w0 L w→RowsAt w x.qa x.ql.length 2 (fun k=>TPr.cells (x.ql.getD k dPr))) (hs:St w0 (L) w):Calls Tryz.prog 51 #[.agg (TBd.cells x)] w (Ret fun rv w'=>rv=.bool (bodyB x)∧St w0 (L) w'):=by
 refine Zen (args:=[.agg (TBd.cells x)]) Tryz.func51 Tryz.ntmps51 ?_
 refine Zn [(0,.agg (TBd.cells x))] ?_
 refine Zs ?_
 refine Zqt (.ef 0 (.rd 1 .done)) ?_
 refine GoR.box rfl rfl (by kernel_rfl) (v:=.agg (TBd.cells x)) (by kernel_rfl) hs (cs:=TBd.cells x) (by kernel_rfl) ?_
 intro b1 w2 hs3
 refine⟨Zqo,?_⟩
 refine Zr 1 1 [] ?_
 refine Zd (Zt (Zs ?_))
 refine GoC.join (T:=Nat×Nat) (E:=fun jx=>[(1,zP b1 0),(2,.bool false),(3,zP jx.1 0),(4,.bool true)]) (F:=fun jx w=>St w0 ((Cel jx.1 (CoV.cells (⟨(.func (.func fp) #[] #[]),(.func (.func fg) #[] #[]),(.func (.func fm) #[] #[])⟩:CoV)) 149)::(MapA ekU evC jx.2 cdL)::(Cel b1 (TBd.cells x) 30)::L) w) ?_ ?_
 ·refine GoC.regD [0,0,2,7,15,31,31,0,191,511] (.rd 1 (.rd 2 (.alt (.ef 0 (.rd 3 (.rd 4 (.rd 5 (.rd 6 (.ef 7 (.ef 8 (.rd 9 .done)))))))) (.ef 7 (.ef 0 (.rd 3 (.rd 4 (.rd 5 (.rd 6 (.ef 8 (.rd 9 .done))))))))))) (by kernel_rfl) (by kernel_rfl) noPan_body (by kernel_rfl) hs3 ?_
  intro w4 hs5 hw6
  refine Zp 1 2 [(2,.gen [.int .u8 x.kd])] [(2,[.cell ⟨b1,0,none⟩ (.int .u8 x.kd)])] (ak (okc (hs5.cell 0 rfl (by kernel_rfl)) ok0) ak0) ?_
  refine GoR.alt ?_ ?_
  ·refine Zqa (f:=68) (args:=#[]) Tryz.call68 (codecs_spec hs5) ?_
   rintro v9 w10 ⟨r7,rfl,hs8⟩
   refine⟨(opl (n:=[.cell ⟨b1,0,none⟩ (.int .u8 x.kd)]) (by kernel_rfl) (okc (hs8.cell 1 rfl (by kernel_rfl)) ok0)),?_⟩
   refine GoR.lookup rfl (by kernel_rfl) cdLaw (r:=r7) (k:=x.kd) (ok:=true) (by kernel_rfl) hs8 0 rfl (z:=evC cvZ) (by kernel_rfl) (v:=.tuple #[.agg #[.func (.func fp) #[] #[],.func (.func fg) #[] #[],.func (.func fm) #[] #[]],.bool true]) (by rw [hc];rfl) ?_
   refine Zr 4 3 [] ?_
   refine GoR.alloc rfl rfl (by kernel_rfl) (z:=.agg (CoV.cells cvZ)) (by kernel_rfl) hs8 (cs:=CoV.cells cvZ) (by kernel_rfl) ?_
   intro b11 w12 hs13
   refine⟨(opl (n:=[.holds (MapA ekU evC r7 cdL).holds,.cell ⟨b1,0,none⟩ (.int .u8 x.kd)]) (by kernel_rfl) (okh (hs13.at_ 1 rfl) (okc (hs13.cell 2 rfl (by kernel_rfl)) ok0))),?_⟩
   refine Zw (b:=b11) (off:=0) (v:=.agg #[.func (.func fp) #[] #[],.func (.func fg) #[] #[],.func (.func fm) #[] #[]]) (ti:=Tryz.t149) (by kernel_rfl) hs13 0 (L':=(Cel b11 (CoV.cells (⟨(.func (.func fp) #[] #[]),(.func (.func fg) #[] #[]),(.func (.func fm) #[] #[])⟩:CoV)) 149)::(MapA ekU evC r7 cdL)::(Cel b1 (TBd.cells x) 30)::L) ?_
   intro w14 hs15
   refine⟨Zqo,?_⟩
   refine Zr 9 1 [] ?_
   refine Zd ?_
   refine GoQ.pick [1,2,3,4] (S':=[(1,zP b1 0),(2,.bool false),(3,zP b11 0),(4,.bool true)]) (by kernel_rfl) ?_
   exact GoQ.meet1 (b11,r7) rfl hs15
  refine GoR.alloc rfl rfl (by kernel_rfl) (z:=.agg (CoV.cells cvZ)) (by kernel_rfl) hs5 (cs:=CoV.cells cvZ) (by kernel_rfl) ?_
  intro b16 w17 hs18
  refine⟨(opl (n:=[.cell ⟨b1,0,none⟩ (.int .u8 x.kd)]) (by kernel_rfl) (okc (hs18.cell 1 rfl (by kernel_rfl)) ok0)),?_⟩
  refine Zqa (f:=68) (args:=#[]) Tryz.call68 (codecs_spec hs18) ?_
  rintro v21 w22 ⟨r19,rfl,hs20⟩
  refine⟨(opl (n:=[.cell ⟨b1,0,none⟩ (.int .u8 x.kd)]) (by kernel_rfl) (okc (hs20.cell 2 rfl (by kernel_rfl)) ok0)),?_⟩
  refine GoR.lookup rfl (by kernel_rfl) cdLaw (r:=r19) (k:=x.kd) (ok:=true) (by kernel_rfl) hs20 0 rfl (z:=evC cvZ) (by kernel_rfl) (v:=.tuple #[.agg #[.func (.func fp) #[] #[],.func (.func fg) #[] #[],.func (.func fm) #[] #[]],.bool true]) (by rw [hc];rfl) ?_
  refine Zr 4 3 [] ?_
  refine Zw (b:=b16) (off:=0) (v:=.agg #[.func (.func fp) #[] #[],.func (.func fg) #[] #[],.func (.func fm) #[] #[]]) (ti:=Tryz.t149) (by kernel_rfl) hs20 1 (L':=(MapA ekU evC r19 cdL)::(Cel b16 (CoV.cells (⟨(.func (.func fp) #[] #[]),(.func (.func fg) #[] #[]),(.func (.func fm) #[] #[])⟩:CoV)) 149)::(Cel b1 (TBd.cells x) 30)::L) ?_
  intro w23 hs24
  refine⟨Zqo,?_⟩
  refine Zr 9 1 [] ?_
  refine Zd ?_
  have hs25:St w0 ((Cel b16 (CoV.cells (⟨(.func (.func fp) #[] #[]),(.func (.func fg) #[] #[]),(.func (.func fm) #[] #[])⟩:CoV)) 149)::(MapA ekU evC r19 cdL)::(Cel b1 (TBd.cells x) 30)::L) w23:=(((hs24.pull 2 rfl).pull 1 rfl).pull 2 rfl)
  refine GoQ.pick [1,2,3,4] (S':=[(1,zP b1 0),(2,.bool false),(3,zP b16 0),(4,.bool true)]) (by kernel_rfl) ?_
  exact GoQ.meet1 (b16,r19) rfl hs25
 rintro⟨b26,r27⟩ w28 hs29
 have hs30:St w0 ((Cel b26 (CoV.cells (⟨(.func (.func fp) #[] #[]),(.func (.func fg) #[] #[]),(.func (.func fm) #[] #[])⟩:CoV)) 149)::(MapA ekU evC r27 cdL)::(Cel b1 (TBd.cells x) 30)::L) w28:=hs29
 refine GoQ.slots (S':=[(1,zP b1 0),(2,.bool false),(3,zP b26 0),(4,.bool true)]) rfl ?_
 refine Zt (Zs (Zs ?_))
 refine Zqt (.rd 0 (.rd 1 (.rd 2 (.rd 3 (.rd 4 (.rd 5 (.rd 6 (.rd 7 (.rd 8 (.rd 9 (.rd 10 (.ef 11 (.rd 12 (.rd 13 (.rd 14 (.rd 15 (.rd 16 (.rd 17 (.rd 18 (.rd 19 .done)))))))))))))))))))) ?_
 refine Zp 0 8 [(4,.gen [.int .u64 x.vw])] [(4,[.cell ⟨b1,1,none⟩ (.int .u64 x.vw)])] (ak (okc (hs30.cell 2 rfl (by kernel_rfl)) ok0) ak0) ?_
 rcases Bool.eq_false_or_eq_true (decide ((x.vw:Int) ≥ 1073741824)) with h31|h31
 ·refine Zqs 20 true h31 ?_
  have h31':(x.vw:Int) ≥ 1073741824:=of_decide_eq_true h31
  refine Zr 8 3 [] ?_
  refine GoR.skip rfl (by kernel_rfl) Zqo ?_
  refine Zr 12 8 [] ?_
  refine Zd (Zt (ZqT (Zs ?_)))
  refine Zqt (.rd 0 .done) ?_
  refine Zr 0 1 [] ?_
  refine Zd (Zt (Ze (Zy ?_)))
  refine Zq1 (v:=.bool false) ?_
  have hs32:St w0 (L) w28:=hs30.drop 3
  exact⟨(by unfold bodyB;rw [if_pos (kd_in hc),if_pos h31']),hs32⟩
 ·refine Zqs 20 false h31 ?_
  have h31':¬ ((x.vw:Int) ≥ 1073741824):=of_decide_eq_false h31
  refine Zp 8 3 [(9,.gen [.func (.func fm) #[] #[]]),(10,.agg (TBd.cells x))] [(9,[.cell ⟨b26,2,none⟩ (.func (.func fm) #[] #[])]),(10,[.prop (Array.size (TBd.cells x)=76),.cells ⟨b1,0,none⟩ (TBd.cells x)])] (ak (okc (hs30.cell 0 rfl (by kernel_rfl)) ok0) (ak (okp (by kernel_rfl) (oka (hs30.cells 2 0 rfl (by kernel_rfl)) ok0)) ak0)) ?_
  refine Zqa (f:=fm) (args:=#[.agg (TBd.cells x)]) C.cm (C.may x rfl hx.qn (fun w h=>hr _ (h.drop 3)) hs30) ?_
  rintro v34 w35 ⟨rfl,hs33⟩
  refine⟨Zqo,?_⟩
  refine Zr 12 3 [] ?_
  rcases Bool.eq_false_or_eq_true (!(mayB x)) with h36|h36
  ·refine Zqs 27 true h36 ?_
   have h36n:(mayB x)=false:=notT h36
   refine Zr 15 5 [] ?_
   refine Zd (Zt (ZqT (Zs ?_)))
   refine Zqt (.rd 0 .done) ?_
   refine Zr 0 1 [] ?_
   refine Zd (Zt (Ze (Zy ?_)))
   refine Zq1 (v:=.bool false) ?_
   have hs37:St w0 (L) w35:=hs33.drop 3
   exact⟨(by unfold bodyB;rw [if_pos (kd_in hc),if_neg h31',if_pos (by simpa using h36)]),hs37⟩
  ·refine Zqs 27 false h36 ?_
   have h36n:(mayB x)=true:=notF h36
   have hm:mayB x=true:=h36n
   refine Zp 15 5 [(16,.gen [.slice x.qa x.ql.length x.qc])] [(16,[.cell ⟨b1,43,none⟩ (.slice x.qa x.ql.length x.qc)])] (ak (okc (hs33.cell 2 rfl (by kernel_rfl)) ok0) ak0) ?_
   refine Zd (Zt ?_)
   refine Zqc (t:=decide (((x.ql.length:Nat):Int)>11)) (fun h38=>?_) (fun h38=>?_)
   ·have h38':((x.ql.length:Nat):Int)>11:=of_decide_eq_true h38
    refine Zs ?_
    refine Zqt (.rd 0 .done) ?_
    refine Zr 0 1 [] ?_
    refine Zd (Zt (Ze (Zy ?_)))
    refine Zq1 (v:=.bool false) ?_
    have hs39:St w0 (L) w35:=hs33.drop 3
    exact⟨(by unfold bodyB;rw [if_pos (kd_in hc),if_neg h31',if_neg (by rw [hm];decide),if_pos (by omega)]),hs39⟩
   ·have h38':¬ (((x.ql.length:Nat):Int)>11):=of_decide_eq_false h38
    refine Zk (Zt (Zs ?_))
    refine Zqt (.rd 0 (.rd 1 (.rd 2 (.ef 3 (.ef 4 .done))))) ?_
    refine Zp 0 3 [(1,.gen [.int .u8 x.kd])] [(1,[.cell ⟨b1,0,none⟩ (.int .u8 x.kd)])] (ak (okc (hs33.cell 2 rfl (by kernel_rfl)) ok0) ak0) ?_
    refine GoR.alloc rfl rfl (by kernel_rfl) (z:=.agg (TBd.cells dBd)) (by kernel_rfl) hs33 (cs:=TBd.cells dBd) (by kernel_rfl) ?_
    intro b40 w41 hs42
    refine⟨Zqo,?_⟩
    refine Zw (b:=b40) (off:=0) (v:=.agg (TBd.cells (⟨x.kd,0,0,dRq,none,0,[],dD32⟩:TBd))) (ti:=Tryz.t30) (by kernel_rfl) hs42 0 (L':=(Cel b40 (TBd.cells (⟨x.kd,0,0,dRq,none,0,[],dD32⟩:TBd)) 30)::(Cel b26 (CoV.cells (⟨(.func (.func fp) #[] #[]),(.func (.func fg) #[] #[]),(.func (.func fm) #[] #[])⟩:CoV)) 149)::(MapA ekU evC r27 cdL)::(Cel b1 (TBd.cells x) 30)::L) ?_
    intro w43 hs44
    refine⟨Zqo,?_⟩
    refine Zd (Zt (Zs ?_))
    refine GoC.regD [0,1,0,4,0,28,60,127] (.rd 0 (.rd 1 (.rd 2 (.rd 3 (.rd 4 (.ef 5 (.ef 6 (.ef 7 .done)))))))) (by kernel_rfl) (by kernel_rfl) noPan_body (by kernel_rfl) hs44 ?_
    intro w45 hs46 hw47
    refine Zp 0 5 [(1,.gen [.func (.func fg) #[] #[]]),(3,.gen [.func (.func fp) #[] #[]]),(4,.agg (TBd.cells x))] [(1,[.cell ⟨b26,1,none⟩ (.func (.func fg) #[] #[])]),(3,[.cell ⟨b26,0,none⟩ (.func (.func fp) #[] #[])]),(4,[.prop (Array.size (TBd.cells x)=76),.cells ⟨b1,0,none⟩ (TBd.cells x)])] (ak (okc (hs46.cell 1 rfl (by kernel_rfl)) ok0) (ak (okc (hs46.cell 1 rfl (by kernel_rfl)) ok0) (ak (okp (by kernel_rfl) (oka (hs46.cells 3 0 rfl (by kernel_rfl)) ok0)) ak0))) ?_
    have hs48:St w0 ((Sl none 0 5 1 byteC ([]:List Int))::(Cel b40 (TBd.cells (⟨x.kd,0,0,dRq,none,0,[],dD32⟩:TBd)) 30)::(Cel b26 (CoV.cells (⟨(.func (.func fp) #[] #[]),(.func (.func fg) #[] #[]),(.func (.func fm) #[] #[])⟩:CoV)) 149)::(MapA ekU evC r27 cdL)::(Cel b1 (TBd.cells x) 30)::L) w45:=St.slNil hs46 5 1 byteC
    refine Zqa (f:=fp) (args:=#[.slice none (([]:List Int).length) 0,.agg (TBd.cells x)]) C.cp (C.put ([]:List Int) x rfl (by first|omega|(exact Nat.zero_le _)) hx hm (by first|omega|(exact Nat.zero_le _)) (fun w h=>hr _ (h.drop 4)) hs48) ?_
    rintro v52 w53 ⟨ao49,co50,rfl,hs51⟩
    refine⟨(opl (n:=[.cell ⟨b26,1,none⟩ (.func (.func fg) #[] #[])]) (by kernel_rfl) (okc (hs51.cell 2 rfl (by kernel_rfl)) ok0)),?_⟩
    refine Zqa (f:=29) (args:=#[.slice ao49 ((([]:List Int)++bdB x).length) co50]) Tryz.call29 (cutNew_spec (([]:List Int)++bdB x) (by have:=bdB_len hm (by omega);rw [List.nil_append];omega) (own_som hs51 0 rfl) (fun w h=>h.rows 0 rfl (byteF).size _) hs51) ?_
    rintro v58 w59 ⟨cc54,ao55,co56,rfl,hs57⟩
    have hq60:CutOK (Sl ao55 co56 5 1 byteC (([]:List Int)++bdB x)) ao55 (([]:List Int)++bdB x) co56:=CutOK.new hs57 (j:=1) rfl (Byt.app Byt.nil (bdB_byt hx)) (by have:=bdB_len hm (by omega);rw [List.nil_append];omega)
    refine⟨(opl (n:=[.cell ⟨b26,1,none⟩ (.func (.func fg) #[] #[])]) (by kernel_rfl) (okc (hs57.cell 4 rfl (by kernel_rfl)) ok0)),?_⟩
    have hs61:St w0 ((Cel cc54 #[.slice ao55 ((([]:List Int)++bdB x).length) co56,.bool false] 124)::(Cel b40 (TBd.cells (⟨x.kd,0,0,dRq,none,0,[],dD32⟩:TBd)) 30)::(Sl ao55 co56 5 1 byteC (([]:List Int)++bdB x))::(Sl ao49 co50 5 1 byteC (([]:List Int)++bdB x))::(Cel b26 (CoV.cells (⟨(.func (.func fp) #[] #[]),(.func (.func fg) #[] #[]),(.func (.func fm) #[] #[])⟩:CoV)) 149)::(MapA ekU evC r27 cdL)::(Cel b1 (TBd.cells x) 30)::L) w59:=((hs57.pull 3 rfl).pull 1 rfl)
    refine Zqa (f:=fg) (args:=#[zP cc54 0,zP b40 0]) C.cg (C.getY (Sl ao55 co56 5 1 byteC (([]:List Int)++bdB x)) (([]:List Int)++bdB x) false (fun w h=>h.at_ 0 rfl) hq60 hx.kd hs61) ?_
    rintro v71 w72 ⟨yy62,rr63,sp64,az65,cz66,rfl,he67,hok68,hq269,hs70⟩
    refine⟨Zqo,?_⟩
    refine Zd (Zt (Zs ?_))
    refine Zqt (.rd 0 (.rd 1 (.ef 2 (.rd 3 .done)))) ?_
    refine Zp 0 2 [(0,.agg (TBd.cells x)),(1,.agg (TBd.cells yy62))] [(0,[.prop (Array.size (TBd.cells x)=76),.cells ⟨b1,0,none⟩ (TBd.cells x)]),(1,[.prop (Array.size (TBd.cells yy62)=76),.cells ⟨b40,0,none⟩ (TBd.cells yy62)])] (ak (okp (by kernel_rfl) (oka (hs70.cells 7 0 rfl (by kernel_rfl)) ok0)) (ak (okp (by kernel_rfl) (oka (hs70.cells 0 0 rfl (by kernel_rfl)) ok0)) ak0)) ?_
    refine Zqa (f:=69) (args:=#[.agg (TBd.cells x),.agg (TBd.cells yy62)]) Tryz.call69 (same_spec x yy62 hx.qn (fun w h=>hr _ (h.drop 8)) (fun w h=>h.rows 1 rfl (dPrF).size _) hs70) ?_
    rintro v74 w75 ⟨rfl,hs73⟩
    refine⟨Zqo,?_⟩
    refine Zr 3 1 [] ?_
    refine Zd (Zt (Ze ?_))
    refine Zq1 (v:=.bool (sameB x yy62)) ?_
    have hs76:St w0 (L) w75:=hs73.drop 8
    exact⟨(by unfold bodyB;rw [if_pos (kd_in hc),if_neg h31',if_neg (by rw [hm];decide),if_neg (by omega),show getB x.kd (bdB x,false)=_ from he67];rfl),hs76⟩
theorem body_no {w0 w:World}{L:List Asn}(x:TBd) (hc:aget cdL x.kd=none) (hx:BdOK x) (hr:∀ w,St w0 L w→RowsAt w x.qa x.ql.length 2 (fun k=>TPr.cells (x.ql.getD k dPr))) (hs:St w0 (L) w):Calls Tryz.prog 51 #[.agg (TBd.cells x)] w (Ret fun rv w'=>rv=.bool (bodyB x)∧St w0 (L) w'):=by
 refine Zen (args:=[.agg (TBd.cells x)]) Tryz.func51 Tryz.ntmps51 ?_
 refine Zn [(0,.agg (TBd.cells x))] ?_
 refine Zs ?_
 refine Zqt (.ef 0 (.rd 1 .done)) ?_
 refine GoR.box rfl rfl (by kernel_rfl) (v:=.agg (TBd.cells x)) (by kernel_rfl) hs (cs:=TBd.cells x) (by kernel_rfl) ?_
 intro b1 w2 hs3
 refine⟨Zqo,?_⟩
 refine Zr 1 1 [] ?_
 refine Zd (Zt (Zs ?_))
 refine GoC.join (T:=Nat×Nat) (E:=fun jx=>[(1,zP b1 0),(2,.bool false),(3,zP jx.1 0),(4,.bool false)]) (F:=fun jx w=>St w0 ((Cel jx.1 (CoV.cells cvZ) 149)::(MapA ekU evC jx.2 cdL)::(Cel b1 (TBd.cells x) 30)::L) w) ?_ ?_
 ·refine GoC.regD [0,0,2,7,15,31,31,0,191,511] (.rd 1 (.rd 2 (.alt (.ef 0 (.rd 3 (.rd 4 (.rd 5 (.rd 6 (.ef 7 (.ef 8 (.rd 9 .done)))))))) (.ef 7 (.ef 0 (.rd 3 (.rd 4 (.rd 5 (.rd 6 (.ef 8 (.rd 9 .done))))))))))) (by kernel_rfl) (by kernel_rfl) noPan_body (by kernel_rfl) hs3 ?_
  intro w4 hs5 hw6
  refine Zp 1 2 [(2,.gen [.int .u8 x.kd])] [(2,[.cell ⟨b1,0,none⟩ (.int .u8 x.kd)])] (ak (okc (hs5.cell 0 rfl (by kernel_rfl)) ok0) ak0) ?_
  refine GoR.alt ?_ ?_
  ·refine Zqa (f:=68) (args:=#[]) Tryz.call68 (codecs_spec hs5) ?_
   rintro v9 w10 ⟨r7,rfl,hs8⟩
   refine⟨(opl (n:=[.cell ⟨b1,0,none⟩ (.int .u8 x.kd)]) (by kernel_rfl) (okc (hs8.cell 1 rfl (by kernel_rfl)) ok0)),?_⟩
   refine GoR.lookup rfl (by kernel_rfl) cdLaw (r:=r7) (k:=x.kd) (ok:=true) (by kernel_rfl) hs8 0 rfl (z:=evC cvZ) (by kernel_rfl) (v:=.tuple #[.agg (CoV.cells cvZ),.bool false]) (by rw [hc];rfl) ?_
   refine Zr 4 3 [] ?_
   refine GoR.alloc rfl rfl (by kernel_rfl) (z:=.agg (CoV.cells cvZ)) (by kernel_rfl) hs8 (cs:=CoV.cells cvZ) (by kernel_rfl) ?_
   intro b11 w12 hs13
   refine⟨(opl (n:=[.holds (MapA ekU evC r7 cdL).holds,.cell ⟨b1,0,none⟩ (.int .u8 x.kd)]) (by kernel_rfl) (okh (hs13.at_ 1 rfl) (okc (hs13.cell 2 rfl (by kernel_rfl)) ok0))),?_⟩
   refine Zw (b:=b11) (off:=0) (v:=.agg (CoV.cells cvZ)) (ti:=Tryz.t149) (by kernel_rfl) hs13 0 (L':=(Cel b11 (CoV.cells cvZ) 149)::(MapA ekU evC r7 cdL)::(Cel b1 (TBd.cells x) 30)::L) ?_
   intro w14 hs15
   refine⟨Zqo,?_⟩
   refine Zr 9 1 [] ?_
   refine Zd ?_
   refine GoQ.pick [1,2,3,4] (S':=[(1,zP b1 0),(2,.bool false),(3,zP b11 0),(4,.bool false)]) (by kernel_rfl) ?_
   exact GoQ.meet1 (b11,r7) rfl hs15
  refine GoR.alloc rfl rfl (by kernel_rfl) (z:=.agg (CoV.cells cvZ)) (by kernel_rfl) hs5 (cs:=CoV.cells cvZ) (by kernel_rfl) ?_
  intro b16 w17 hs18
  refine⟨(opl (n:=[.cell ⟨b1,0,none⟩ (.int .u8 x.kd)]) (by kernel_rfl) (okc (hs18.cell 1 rfl (by kernel_rfl)) ok0)),?_⟩
  refine Zqa (f:=68) (args:=#[]) Tryz.call68 (codecs_spec hs18) ?_
  rintro v21 w22 ⟨r19,rfl,hs20⟩
  refine⟨(opl (n:=[.cell ⟨b1,0,none⟩ (.int .u8 x.kd)]) (by kernel_rfl) (okc (hs20.cell 2 rfl (by kernel_rfl)) ok0)),?_⟩
  refine GoR.lookup rfl (by kernel_rfl) cdLaw (r:=r19) (k:=x.kd) (ok:=true) (by kernel_rfl) hs20 0 rfl (z:=evC cvZ) (by kernel_rfl) (v:=.tuple #[.agg (CoV.cells cvZ),.bool false]) (by rw [hc];rfl) ?_
  refine Zr 4 3 [] ?_
  refine Zw (b:=b16) (off:=0) (v:=.agg (CoV.cells cvZ)) (ti:=Tryz.t149) (by kernel_rfl) hs20 1 (L':=(MapA ekU evC r19 cdL)::(Cel b16 (CoV.cells cvZ) 149)::(Cel b1 (TBd.cells x) 30)::L) ?_
  intro w23 hs24
  refine⟨Zqo,?_⟩
  refine Zr 9 1 [] ?_
  refine Zd ?_
  have hs25:St w0 ((Cel b16 (CoV.cells cvZ) 149)::(MapA ekU evC r19 cdL)::(Cel b1 (TBd.cells x) 30)::L) w23:=(((hs24.pull 2 rfl).pull 1 rfl).pull 2 rfl)
  refine GoQ.pick [1,2,3,4] (S':=[(1,zP b1 0),(2,.bool false),(3,zP b16 0),(4,.bool false)]) (by kernel_rfl) ?_
  exact GoQ.meet1 (b16,r19) rfl hs25
 rintro⟨b26,r27⟩ w28 hs29
 have hs30:St w0 ((Cel b26 (CoV.cells cvZ) 149)::(MapA ekU evC r27 cdL)::(Cel b1 (TBd.cells x) 30)::L) w28:=hs29
 refine GoQ.slots (S':=[(1,zP b1 0),(2,.bool false),(3,zP b26 0),(4,.bool false)]) rfl ?_
 refine Zt (Zs (Zs ?_))
 refine Zqt (.rd 0 (.rd 1 (.rd 2 (.rd 3 (.rd 4 (.rd 5 (.rd 6 (.rd 7 (.rd 8 (.rd 9 (.rd 10 (.ef 11 (.rd 12 (.rd 13 (.rd 14 (.rd 15 (.rd 16 (.rd 17 (.rd 18 (.rd 19 .done)))))))))))))))))))) ?_
 refine Zr 0 11 [] ?_
 refine GoR.skip rfl (by kernel_rfl) Zqo ?_
 refine Zr 12 8 [] ?_
 refine Zd (Zt (ZqT (Zs ?_)))
 refine Zqt (.rd 0 .done) ?_
 refine Zr 0 1 [] ?_
 refine Zd (Zt (Ze (Zy ?_)))
 refine Zq1 (v:=.bool false) ?_
 have hs31:St w0 (L) w28:=hs30.drop 3
 exact⟨(by unfold bodyB;rw [if_neg (kd_no hc)]),hs31⟩
theorem body_spec {w0 w:World}{L:List Asn}(x:TBd) (hx:BdOK x) (hr:∀ w,St w0 L w→RowsAt w x.qa x.ql.length 2 (fun k=>TPr.cells (x.ql.getD k dPr))) (hs:St w0 (L) w):Calls Tryz.prog 51 #[.agg (TBd.cells x)] w (Ret fun rv w'=>rv=.bool (bodyB x)∧St w0 (L) w'):=by
 by_cases h:1≤x.kd∧x.kd≤6
 ·obtain⟨fp,fg,fm,hc,C⟩:=codec_of h
  exact body_in x fp fg fm hc C hx hr hs
 ·exact body_no x (codec_no h) hx hr hs
theorem max_one {l:List Int}(h:0<l.length):l.getD 0 (0:Int)≤65536↔∀ x∈l.take 1,x≤65536:=by
 cases l with
 | nil=>cases h
 | cons a l=>simp
theorem max_step {l:List Int}{k:Nat}{v:Int}(hk:k<l.length) (h:v≤65536↔∀ x∈l.take k,x≤65536):max v (l.getD k (0:Int))≤65536↔∀ x∈l.take (k+1),x≤65536:=by
 rw [take_succ_getD (d:=(0:Int)) hk]
 simp only [List.mem_append,List.mem_singleton]
 constructor
 ·intro h9 z hz
  rcases hz with hz|rfl
  ·exact h.1 (by omega) z hz
  ·omega
 ·intro h9
  have h8:=h.2 fun z hz=>h9 z (.inl hz)
  have h7:=h9 _ (.inr rfl)
  omega
theorem max_spec {w0 w:World}{L:List Asn}{ad:Option Addr}{c:Nat}(l:List Int) (hl:0<l.length) (hll:l.length≤1000) (hr:∀ w,St w0 L w→RowsAt w ad l.length 1 (fun k=>wordC (l.getD k (0:Int)))) (hs:St w0 (L) w):Calls Tryz.prog 50 #[.slice ad l.length c] w (Ret fun rv w'=>∃ (v:Int),rv=.int .u64 v∧(v≤65536↔∀ x∈l,x≤65536)∧St w0 (L) w'):=by
 refine Zen (args:=[.slice ad l.length c]) Tryz.func50 Tryz.ntmps50 ?_
 refine Zn [(0,.slice ad l.length c)] ?_
 refine Zs ?_
 refine Zqt (.rd 0 .done) ?_
 refine Zr 0 1 [] ?_
 refine Zd (Zt (Zs (Zs ?_)))
 refine Zqt (.rd 0 (.rd 1 (.rd 2 .done))) ?_
 refine Zr 0 3 [] ?_
 refine Zd (Zt ?_)
 refine Zqc (t:=decide (((l.length:Nat):Int)<1)) (fun h1=>?_) (fun h1=>?_)
 ·have h1':((l.length:Nat):Int)<1:=of_decide_eq_true h1
  exfalso;omega
 ·have h1':¬ (((l.length:Nat):Int)<1):=of_decide_eq_false h1
  obtain⟨ab2,ao3,rfl⟩:=RowsAt.isSome (hr _ (hs.drop 0)) (by omega)
  refine Zk (Zt (Zs ?_))
  refine Zqt (.rd 0 (.rd 1 (.rd 2 (.rd 3 .done)))) ?_
  refine Zp 0 4 [(1,.as_ (zP ab2 (ao3+(0*1))) .at_),(2,.gen [.int .u64 (l.getD 0 (0:Int))])] [(1,[.prop (0≤(0:Int)∧(0:Int)<((l.length:Nat):Int)),.prop (Value.pointer (some (Addr.add ⟨ab2,ao3,none⟩ (Int.toNat 0*1)))=Value.pointer (some ⟨ab2,ao3+(0*1),none⟩))]),(2,[.cell ⟨ab2,ao3+(0*1),none⟩ (.int .u64 (l.getD 0 (0:Int)))])] (ak (okp (by omega) (okp (ptrAdd _ _ _) ok0)) (ak (okc (RowsAt.at0 (hr _ (hs.drop 0)) (k:=0) (by first|omega|(simp only [List.length_set];omega)|(simp only [List.length_set,lA,lC,lN];omega)) (j:=0) (by decide) (by kernel_rfl)) ok0) ak0)) ?_
  refine Zd (Zt (Zs (Zs ?_)))
  refine Zqt (.rd 0 .done) ?_
  refine Zr 0 1 [] ?_
  refine Zd (Zt (Zb ?_))
  refine GoC.loop (T:=Nat×Int) (fun gg=>[(0,zL ab2 ao3 l.length c),(2,.int .u64 0),(3,.int .u64 gg.2),(4,.int .i64 (gg.1:Nat))]) (fun gg w=>(1≤gg.1∧gg.1≤l.length∧(gg.2≤65536↔∀ x∈l.take gg.1,x≤65536))∧St w0 (L) w) (fun gg=>l.length-gg.1) (1,(l.getD 0 (0:Int))) [0,2,3,4] (by kernel_rfl) ⟨⟨Nat.le_refl _,hl,max_one hl⟩,hs⟩ ?_
  rintro⟨k,v⟩ w4 ⟨hp0,hs5⟩
  have hp:1≤k∧k≤l.length∧(v≤65536↔∀ x∈l.take k,x≤65536):=hp0
  have hs6:St w0 (L) w4:=hs5
  refine Zn [(0,zL ab2 ao3 l.length c),(2,.int .u64 0),(3,.int .u64 v),(4,.int .i64 (k:Nat))] ?_
  refine Zs (Zs ?_)
  refine Zqt (.rd 0 (.rd 1 (.rd 2 (.rd 3 .done)))) ?_
  refine Zr 0 4 [] ?_
  refine Zd (Zt ?_)
  refine Zqc (t:=decide (((k:Nat):Int)<(l.length:Nat))) (fun h7=>?_) (fun h7=>?_)
  ·have h7':((k:Nat):Int)<(l.length:Nat):=of_decide_eq_true h7
   have hk:k<l.length:=by omega
   refine Zk (Zt (Zs (Zb ?_)))
   refine Zqt (.rd 0 (.rd 1 (.rd 2 (.rd 3 (.rd 4 (.rd 5 (.rd 6 .done))))))) ?_
   refine Zp 0 7 [(3,.as_ (zP ab2 (ao3+(k*1))) .at_),(4,.gen [.int .u64 (l.getD k (0:Int))]),(5,.as_ (.int .u64 (max v (l.getD k (0:Int)))) (.gen []))] [(3,[.prop (0≤((k:Nat):Int)∧((k:Nat):Int)<((l.length:Nat):Int)),.prop (Value.pointer (some (Addr.add ⟨ab2,ao3,none⟩ (Int.toNat (k:Nat)*1)))=Value.pointer (some ⟨ab2,ao3+(k*1),none⟩))]),(4,[.cell ⟨ab2,ao3+(k*1),none⟩ (.int .u64 (l.getD k (0:Int)))]),(5,[.prop (Value.int .u64 (if (l.getD k (0:Int))>v then (l.getD k (0:Int)) else v)=Value.int .u64 (max v (l.getD k (0:Int))))])] (ak (okp (by omega) (okp (ptrAdd _ _ _) ok0)) (ak (okc (RowsAt.at0 (hr _ (hs6.drop 0)) (k:=k) (by first|omega|(simp only [List.length_set];omega)|(simp only [List.length_set,lA,lC,lN];omega)) (j:=0) (by decide) (by kernel_rfl)) ok0) (ak (okp maxok ok0) ak0))) ?_
   refine Zd (Zm (Zt ?_))
   refine Zqt (.rd 0 (.rd 1 (.rd 2 .done))) ?_
   refine Zp 0 3 [(1,.as_ (.int .i64 ((k:Nat)+1)) (.gen []))] [(1,[.prop (Value.int .i64 (IntKind.i64.wrap ((k:Nat)+1))=Value.int .i64 ((k:Nat)+1))])] (ak (okp (i64ok (by omega) (by omega)) ok0) ak0) ?_
   refine Zd ?_
   exact GoQ.back (k+1,max v (l.getD k (0:Int))) [0,2,3,4] (by kernel_rfl) (by show l.length-(k+1)<l.length-k;omega) ⟨⟨by omega,by omega,max_step hk hp.2.2⟩,hs6⟩
  ·have h7':¬ (((k:Nat):Int)<(l.length:Nat)):=of_decide_eq_false h7
   have hke:l.take k=l:=List.take_of_length_le (by omega)
   refine Zx (GoQ.skipC (GoQ.skipL (GoQ.hit (Zt (Zs ?_)))))
   refine Zqt (.rd 0 (.rd 1 .done)) ?_
   refine Zr 0 2 [] ?_
   refine Zd (Zt (Ze ?_))
   refine Zq1 (v:=.int .u64 v) ?_
   exact⟨v,rfl,(hke▸hp.2.2),hs6⟩
structure MsOK (m:TMs):Prop where
 og:-9223372036854775808≤m.og∧m.og≤9223372036854775807
 nr:0≤m.nr∧m.nr≤18446744073709551615
 dp:∀ x∈m.dp.toList,0≤x∧x≤18446744073709551615
 bd:BdOK m.bd
 tg:∀ z∈m.tg.toList,0≤z∧z<256
instance:DecidablePred fun d:VecD=>∀ x∈d.toList,x≤65536:=fun d=>inferInstance
def mayT (m:TMs):Bool:=((((decide ((m.og:Int)<1)) || (decide ((m.og:Int)>11))) || (decide ((m.nr:Int)<1))) || (decide ((m.nr:Int)>65536))) || (((m.dp.toList.getD (Int.toNat (m.og-1)) 0):Int) != (m.nr-1))
def mayM (m:TMs):Bool:=if mayT m=true then false else if ∀ x∈m.dp.toList,x≤65536 then bodyB m.bd else false
theorem may_spec {w0 w:World}{L:List Asn}(m:TMs) (hm:MsOK m) (hr:∀ w,St w0 L w→RowsAt w m.bd.qa m.bd.ql.length 2 (fun k=>TPr.cells (m.bd.ql.getD k dPr))) (hs:St w0 (L) w):Calls Tryz.prog 25 #[.agg (TMs.cells m)] w (Ret fun rv w'=>rv=.bool (mayM m)∧St w0 (L) w'):=by
 refine Zen (args:=[.agg (TMs.cells m)]) Tryz.func25 Tryz.ntmps25 ?_
 refine Zn [(0,.agg (TMs.cells m))] ?_
 refine Zs ?_
 have g1:=hm.og
 have g2:=hm.nr
 refine Zqt (.ef 0 (.rd 1 .done)) ?_
 refine GoR.box rfl rfl (by kernel_rfl) (v:=.agg (TMs.cells m)) (by kernel_rfl) hs (cs:=TMs.cells m) (by kernel_rfl) ?_
 intro b1 w2 hs3
 refine⟨Zqo,?_⟩
 refine Zr 1 1 [] ?_
 refine Zd (Zt (Zs (Zs ?_)))
 refine GoC.join (T:=Unit) (E:=fun _=>[(32,.bool (((((decide ((m.og:Int)<1)) || (decide ((m.og:Int)>11))) || (decide ((m.nr:Int)<1))) || (decide ((m.nr:Int)>65536))) || (((m.dp.toList.getD (Int.toNat (m.og-1)) 0):Int) != (m.nr-1)))),(2,.bool false),(1,zP b1 0)]) (F:=fun _ w=>St w0 ((Cel b1 (TMs.cells m) 58)::L) w) ?_ ?_
 ·refine GoC.regD [0,1,3,7,15,31,63,127,255,511,1023,2047,4095,8191,16383,32767,65535,131071,262143,524287,1048575,2097151,524287,8388607,16777215,524287,34078719,101187583,268435455,536870911] (.rd 0 (.rd 1 (.rd 2 (.rd 3 (.rd 4 (.rd 5 (.rd 6 (.rd 7 (.rd 8 (.rd 9 (.rd 10 (.rd 11 (.rd 12 (.rd 13 (.rd 14 (.rd 15 (.rd 16 (.rd 17 (.rd 18 (.rd 19 (.rd 20 (.rd 21 (.rd 22 (.rd 23 (.rd 24 (.rd 25 (.rd 26 (.rd 27 (.rd 28 (.rd 29 .done)))))))))))))))))))))))))))))) (by kernel_rfl) (by kernel_rfl) noPan_body (by kernel_rfl) hs3 ?_
  intro w4 hs5 hw6
  refine Zp 0 4 [(1,.gen [.int .i64 m.og])] [(1,[.cell ⟨b1,0,none⟩ (.int .i64 m.og)])] (ak (okc (hs5.cell 0 rfl (by kernel_rfl)) ok0) ak0) ?_
  rcases Bool.eq_false_or_eq_true (decide ((m.og:Int)<1)) with h7|h7
  ·refine Zqs 6 true h7 ?_
   have h7':(m.og:Int)<1:=of_decide_eq_true h7
   refine Zr 4 26 [] ?_
   refine Zd ?_
   refine GoQ.pick [32,2,1] (S':=[(32,.bool true),(2,.bool false),(1,zP b1 0)]) (by kernel_rfl) ?_
   exact GoQ.meet1 () (by first|rfl|(simp only [h7,Bool.not_true,Bool.not_false,Bool.true_or,Bool.false_or,Bool.true_and,Bool.false_and,Bool.or_true,Bool.or_false,Bool.and_true,Bool.and_false];done)|(simp [h7];done)) hs5
  ·refine Zqs 6 false h7 ?_
   have h7':¬ ((m.og:Int)<1):=of_decide_eq_false h7
   refine Zp 4 5 [(5,.gen [.int .i64 m.og])] [(5,[.cell ⟨b1,0,none⟩ (.int .i64 m.og)])] (ak (okc (hs5.cell 0 rfl (by kernel_rfl)) ok0) ak0) ?_
   rcases Bool.eq_false_or_eq_true (decide ((m.og:Int)>11)) with h8|h8
   ·refine Zqs 11 true h8 ?_
    have h8':(m.og:Int)>11:=of_decide_eq_true h8
    refine Zr 9 21 [] ?_
    refine Zd ?_
    refine GoQ.pick [32,2,1] (S':=[(32,.bool true),(2,.bool false),(1,zP b1 0)]) (by kernel_rfl) ?_
    exact GoQ.meet1 () (by first|rfl|(simp only [h7,h8,Bool.not_true,Bool.not_false,Bool.true_or,Bool.false_or,Bool.true_and,Bool.false_and,Bool.or_true,Bool.or_false,Bool.and_true,Bool.and_false];done)|(simp [h7,h8];done)) hs5
   ·refine Zqs 11 false h8 ?_
    have h8':¬ ((m.og:Int)>11):=of_decide_eq_false h8
    refine Zp 9 5 [(10,.gen [.int .u64 m.nr])] [(10,[.cell ⟨b1,1,none⟩ (.int .u64 m.nr)])] (ak (okc (hs5.cell 0 rfl (by kernel_rfl)) ok0) ak0) ?_
    rcases Bool.eq_false_or_eq_true (decide ((m.nr:Int)<1)) with h9|h9
    ·refine Zqs 16 true h9 ?_
     have h9':(m.nr:Int)<1:=of_decide_eq_true h9
     refine Zr 14 16 [] ?_
     refine Zd ?_
     refine GoQ.pick [32,2,1] (S':=[(32,.bool true),(2,.bool false),(1,zP b1 0)]) (by kernel_rfl) ?_
     exact GoQ.meet1 () (by first|rfl|(simp only [h7,h8,h9,Bool.not_true,Bool.not_false,Bool.true_or,Bool.false_or,Bool.true_and,Bool.false_and,Bool.or_true,Bool.or_false,Bool.and_true,Bool.and_false];done)|(simp [h7,h8,h9];done)) hs5
    ·refine Zqs 16 false h9 ?_
     have h9':¬ ((m.nr:Int)<1):=of_decide_eq_false h9
     refine Zp 14 5 [(15,.gen [.int .u64 m.nr])] [(15,[.cell ⟨b1,1,none⟩ (.int .u64 m.nr)])] (ak (okc (hs5.cell 0 rfl (by kernel_rfl)) ok0) ak0) ?_
     rcases Bool.eq_false_or_eq_true (decide ((m.nr:Int)>65536)) with h10|h10
     ·refine Zqs 21 true h10 ?_
      have h10':(m.nr:Int)>65536:=of_decide_eq_true h10
      refine Zr 19 11 [] ?_
      refine Zd ?_
      refine GoQ.pick [32,2,1] (S':=[(32,.bool true),(2,.bool false),(1,zP b1 0)]) (by kernel_rfl) ?_
      exact GoQ.meet1 () (by first|rfl|(simp only [h7,h8,h9,h10,Bool.not_true,Bool.not_false,Bool.true_or,Bool.false_or,Bool.true_and,Bool.false_and,Bool.or_true,Bool.or_false,Bool.and_true,Bool.and_false];done)|(simp [h7,h8,h9,h10];done)) hs5
     ·refine Zqs 21 false h10 ?_
      have h10':¬ ((m.nr:Int)>65536):=of_decide_eq_false h10
      refine Zp 19 11 [(20,.gen [.int .i64 m.og]),(21,.as_ (.int .i64 (m.og-1)) (.gen [])),(23,.as_ (zP b1 (2+((Int.toNat (m.og-1))*1))) .at_),(24,.gen [.int .u64 (m.dp.toList.getD (Int.toNat (m.og-1)) 0)]),(26,.gen [.int .u64 m.nr]),(27,.as_ (.int .u64 (m.nr-1)) (.gen []))] [(20,[.cell ⟨b1,0,none⟩ (.int .i64 m.og)]),(21,[.prop (Value.int .i64 (IntKind.i64.wrap (m.og-1))=Value.int .i64 (m.og-1))]),(23,[.prop (0≤((m.og-1):Int)∧((m.og-1):Int)<(11:Int)),.prop (Value.pointer (some (Addr.add ⟨b1,2,none⟩ (Int.toNat (m.og-1)*1)))=Value.pointer (some ⟨b1,2+((Int.toNat (m.og-1))*1),none⟩))]),(24,[.cell ⟨b1,2+((Int.toNat (m.og-1))*1),none⟩ (.int .u64 (m.dp.toList.getD (Int.toNat (m.og-1)) 0))]),(26,[.cell ⟨b1,1,none⟩ (.int .u64 m.nr)]),(27,[.prop (Value.int .u64 (IntKind.u64.wrap (m.nr-1))=Value.int .u64 (m.nr-1))])] (ak (okc (hs5.cell 0 rfl (by kernel_rfl)) ok0) (ak (okp (i64ok (by omega) (by omega)) ok0) (ak (okp (by omega) (okp (ptrAdd _ _ _) ok0)) (ak (okc (hs5.cell 0 rfl (VecD.midc (off:=2) (d:=m.dp) (by kernel_rfl) (by omega))) ok0) (ak (okc (hs5.cell 0 rfl (by kernel_rfl)) ok0) (ak (okp (u64ok (by omega) (by omega)) ok0) ak0)))))) ?_
      refine Zd ?_
      refine GoQ.pick [32,2,1] (S':=[(32,.bool (((m.dp.toList.getD (Int.toNat (m.og-1)) 0):Int) != (m.nr-1))),(2,.bool false),(1,zP b1 0)]) (by kernel_rfl) ?_
      exact GoQ.meet1 () (by first|rfl|(simp only [h7,h8,h9,h10,Bool.not_true,Bool.not_false,Bool.true_or,Bool.false_or,Bool.true_and,Bool.false_and,Bool.or_true,Bool.or_false,Bool.and_true,Bool.and_false];done)|(simp [h7,h8,h9,h10];done)) hs5
 intro _ w11 hs12
 refine Zt ?_
 refine Zqc (t:=((((decide ((m.og:Int)<1)) || (decide ((m.og:Int)>11))) || (decide ((m.nr:Int)<1))) || (decide ((m.nr:Int)>65536))) || (((m.dp.toList.getD (Int.toNat (m.og-1)) 0):Int) != (m.nr-1))) (fun h13=>?_) (fun h13=>?_)
 ·refine Zs ?_
  refine Zqt (.rd 0 .done) ?_
  refine Zr 0 1 [] ?_
  refine Zd (Zt (Ze (Zy ?_)))
  refine Zq1 (v:=.bool false) ?_
  have hs14:St w0 (L) w11:=hs12.drop 1
  exact⟨(by unfold mayM;rw [if_pos (show mayT m=true from h13)]),hs14⟩
 ·have h13a:((((decide ((m.og:Int)<1)) || (decide ((m.og:Int)>11))) || (decide ((m.nr:Int)<1))) || (decide ((m.nr:Int)>65536)))=false:=(Bool.or_eq_false_iff.1 h13).1
  have h13aa:(((decide ((m.og:Int)<1)) || (decide ((m.og:Int)>11))) || (decide ((m.nr:Int)<1)))=false:=(Bool.or_eq_false_iff.1 h13a).1
  have h13aaa:((decide ((m.og:Int)<1)) || (decide ((m.og:Int)>11)))=false:=(Bool.or_eq_false_iff.1 h13aa).1
  have h13aaaa:(decide ((m.og:Int)<1))=false:=(Bool.or_eq_false_iff.1 h13aaa).1
  have h13aaaa':¬ ((m.og:Int)<1):=of_decide_eq_false h13aaaa
  have h13aaab:(decide ((m.og:Int)>11))=false:=(Bool.or_eq_false_iff.1 h13aaa).2
  have h13aaab':¬ ((m.og:Int)>11):=of_decide_eq_false h13aaab
  have h13aab:(decide ((m.nr:Int)<1))=false:=(Bool.or_eq_false_iff.1 h13aa).2
  have h13aab':¬ ((m.nr:Int)<1):=of_decide_eq_false h13aab
  have h13ab:(decide ((m.nr:Int)>65536))=false:=(Bool.or_eq_false_iff.1 h13a).2
  have h13ab':¬ ((m.nr:Int)>65536):=of_decide_eq_false h13ab
  have h13b:(((m.dp.toList.getD (Int.toNat (m.og-1)) 0):Int) != (m.nr-1))=false:=(Bool.or_eq_false_iff.1 h13).2
  have h13b':((m.dp.toList.getD (Int.toNat (m.og-1)) 0):Int)=(m.nr-1):=ineF h13b
  refine Zk (Zt (Zs ?_))
  refine Zqt (.rd 0 (.rd 1 (.ef 2 (.rd 3 (.rd 4 (.rd 5 (.rd 6 (.ef 7 (.rd 8 (.rd 9 .done)))))))))) ?_
  refine Zp 0 2 [(1,.as_ (zL b1 2 ((m.dp.toList).length) 11) (.sub 0 11))] [(1,[.prop ((((none:Option Operand))=none→(0:Nat)=0)∧(((none:Option Operand))=none→(11:Nat)=11)∧(0:Nat)≤11∧(11:Nat)≤11),.prop (Value.slice (some (if 11=0 then Addr.mk b1 2 none else (Addr.mk b1 2 none).add (0*1))) (11-0) (11-0)=Value.slice (some ⟨b1,2,none⟩) ((m.dp.toList).length) 11)])] (ak (okp ⟨(by first|(intro _;rfl)|(intro hc;cases hc)),(by first|(intro _;rfl)|(intro hc;cases hc)),(by omega),(by omega)⟩ (okp (by rw [VecD.len];exact subArr0 _ _ _ _ _ (by decide)) ok0)) ak0) ?_
  refine Zqa (f:=50) (args:=#[zL b1 2 m.dp.toList.length 11]) Tryz.call50 (max_spec m.dp.toList (by rw [VecD.len];decide) (by rw [VecD.len];decide) (fun w h=>VecD.mid h 0 2 m.dp rfl (by kernel_rfl)) hs12) ?_
  rintro v18 w19 ⟨v15,rfl,hv16,hs17⟩
  refine⟨Zqo,?_⟩
  refine Zr 3 2 [] ?_
  rcases Bool.eq_false_or_eq_true (decide ((v15:Int)≤65536)) with h20|h20
  ·refine Zqs 37 true h20 ?_
   have h20':(v15:Int)≤65536:=of_decide_eq_true h20
   refine Zp 5 2 [(6,.agg (TBd.cells m.bd))] [(6,[.prop (Array.size (TBd.cells m.bd)=76),.cells ⟨b1,13,none⟩ (TBd.cells m.bd)])] (ak (okp (by kernel_rfl) (oka (hs17.cells 0 13 rfl (by kernel_rfl)) ok0)) ak0) ?_
   refine Zqa (f:=51) (args:=#[.agg (TBd.cells m.bd)]) Tryz.call51 (body_spec m.bd hm.bd (fun w h=>hr _ (h.drop 1)) hs17) ?_
   rintro v22 w23 ⟨rfl,hs21⟩
   refine⟨Zqo,?_⟩
   refine Zr 8 2 [] ?_
   refine Zd (Zt (Ze ?_))
   refine Zq1 (v:=.bool (bodyB m.bd)) ?_
   have hs24:St w0 (L) w23:=hs21.drop 1
   exact⟨(by unfold mayM;rw [if_neg (nF (show mayT m=false from h13)),if_pos (hv16.1 h20')]),hs24⟩
  ·refine Zqs 37 false h20 ?_
   have h20':¬ ((v15:Int)≤65536):=of_decide_eq_false h20
   refine Zr 5 2 [] ?_
   refine GoR.skip rfl (by kernel_rfl) Zqo ?_
   refine Zr 8 2 [] ?_
   refine Zd (Zt (Ze ?_))
   refine Zq1 (v:=.bool false) ?_
   have hs25:St w0 (L) w19:=hs17.drop 1
   exact⟨(by unfold mayM;rw [if_neg (nF (show mayT m=false from h13)),if_neg (fun h9=>h20' (hv16.2 h9))]),hs25⟩
end Go.Proofs.YtmeacpdadahafaaGreatDoor
