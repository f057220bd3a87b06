/-
  Several texts in one: TbM, TbN, TbO.
-/
import Derived.Test.YtmeacpdadahafaaGreatDoorSxT
import Derived.Test.YtmeacpdadahafaaGreatDoorGaB
namespace Go.Proofs.YtmeacpdadahafaaGreatDoor
open Go.RowKit Go.Sx
set_option linter.unusedVariables false
set_option linter.unusedSimpArgs false
set_option linter.unnecessarySimpa false
set_option maxRecDepth 100000
def dpI (m:TMs) (k:Nat):List Int:=[IntKind.u8.wrap m.og]++(m.dp.toList.take k).flatMap wd
theorem dpI_succ (m:TMs){k:Nat}(hk:k<11):dpI m (k+1)=dpI m k++wd (m.dp.toList.getD k 0):=by
 rw [dpI,dpI,take_succ_getD (d:=(0:Int)) (by rw [VecD.len];exact hk),List.flatMap_append,List.append_assoc]
 simp
theorem dpI_length (m:TMs):∀ k,k≤11→(dpI m k).length=1+8*k
 | 0,_=>rfl
 | k+1,h=>by rw [dpI_succ m (by omega),lA,wd_length,dpI_length m k (by omega)];omega
def tgB (m:TMs):List Int:=(dpI m 11++[m.bd.kd])++bdB m.bd
def byB (m:TMs):List Int:=if mayM m=true then tgB m else []
def putM (m:TMs):List Int:=if mayM m=true then ((([]:List Int)++wd m.nr)++tgB m)++m.tg.toList else []
theorem mayM_body {m:TMs}(h:mayM m=true):bodyB m.bd=true:=by
 unfold mayM at h
 split at h
 ·cases h
 ·split at h
  ·exact h
  ·cases h
theorem bodyB_in {x:TBd}(h:bodyB x=true):(1≤x.kd∧x.kd≤6)∧mayB x=true∧x.ql.length≤11:=by
 unfold bodyB at h
 split at h
 ·rename_i h1
  split at h
  ·cases h
  ·split at h
   ·cases h
   ·rename_i h2
    split at h
    ·cases h
    ·exact⟨h1,by simpa using h2,by omega⟩
 ·cases h
theorem tgB_length {m:TMs}(h:mayM m=true):98≤(tgB m).length∧(tgB m).length≤700:=by
 obtain⟨h1,h2,h3⟩:=bodyB_in (mayM_body h)
 have:=bdB_len h2 h3
 rw [tgB,lA,lA,dpI_length m _ (Nat.le_refl _),lC,lN]
 omega
theorem tgB_byt {m:TMs}(hm:MsOK m):Byt (tgB m):=by
 have:=hm.bd.kd
 refine Byt.app (Byt.app (Byt.app (Byt.one (u8wrap_b _)) fun z hz=>?_) (Byt.one (by omega))) (bdB_byt hm.bd)
 obtain⟨y,-,hy⟩:=List.mem_flatMap.1 hz
 exact wd_byt _ z hy
theorem byB_byt {m:TMs}(hm:MsOK m):Byt (byB m):=by
 unfold byB
 split
 ·exact tgB_byt hm
 ·exact Byt.nil
theorem tagged_spec {w0 w:World}{L:List Asn}(m:TMs) (hm:MsOK m) (hb:mayM m=true) (hr:∀ w,St w0 L w→RowsAt w m.bd.qa m.bd.ql.length 2 (fun k=>TPr.cells (m.bd.ql.getD k dPr))) (hs:St w0 (L) w):Calls Tryz.prog 49 #[.agg (TMs.cells m)] w (Ret fun rv w'=>∃ (ao:Option Addr) (co:Nat),rv=.slice ao ((tgB m).length) co∧St w0 ((Sl ao co 5 1 byteC (tgB m))::L) w'):=by
 refine Zen (args:=[.agg (TMs.cells m)]) Tryz.func49 Tryz.ntmps49 ?_
 refine Zn [(0,.agg (TMs.cells m))] ?_
 refine Zs ?_
 have hin:=bodyB_in (mayM_body hb)
 obtain⟨fp,fg,fm,hc,C⟩:=codec_of hin.1
 refine Zqt (.ef 0 (.rd 1 .done)) ?_
 refine GoR.box rfl rfl (by kernel_rfl) (v:=.agg (TMs.cells m)) (by kernel_rfl) hs (cs:=TMs.cells m) (by kernel_rfl) ?_
 intro b1 w2 hs3
 refine⟨Zqo,?_⟩
 refine Zr 1 1 [] ?_
 refine Zd (Zt (Zs ?_))
 refine Zqt (.rd 0 (.rd 1 (.rd 2 (.ef 3 (.rd 4 .done))))) ?_
 refine Zp 0 3 [(1,.gen [.int .i64 m.og])] [(1,[.cell ⟨b1,0,none⟩ (.int .i64 m.og)])] (ak (okc (hs3.cell 0 rfl (by kernel_rfl)) ok0) ak0) ?_
 refine GoR.sliceLit rfl (by kernel_rfl) (t:=39) (e:=5) (n:=1) (ps:=[(0,.int .u8 (IntKind.u8.wrap m.og))]) (by kernel_rfl) (by kernel_rfl) (ti:=Tryz.t5) (z:=.int .u8 0) (by kernel_rfl) (by kernel_rfl) (by decide) (by decide) (cs:=#[.int .u8 (IntKind.u8.wrap m.og)]) (by kernel_rfl) hs3 ?_
 intro b4 w5 hs6 hz7
 have hs8:St w0 ((Sl (some ⟨b4,0,none⟩) 1 5 1 byteC ([(IntKind.u8.wrap m.og:Int)]))::(Cel b1 (TMs.cells m) 58)::L) w5:=St.slOf (l:=[(IntKind.u8.wrap m.og:Int)]) (f:=byteC) hs6 hz7 (byteF).size (by simp only [lC,lN,maxLen];omega) (by kernel_rfl)
 refine⟨Zqo,?_⟩
 refine Zr 4 1 [] ?_
 refine Zd (Zt (Zs (Zs ?_)))
 refine Zqt (.rd 0 (.rd 1 (.rd 2 .done))) ?_
 refine Zp 0 3 [(1,.agg (VecD.cells m.dp))] [(1,[.prop (Array.size (VecD.cells m.dp)=11),.cells ⟨b1,2,none⟩ (VecD.cells m.dp)])] (ak (okp (by kernel_rfl) (oka (hs8.cells 1 2 rfl (by kernel_rfl)) ok0)) ak0) ?_
 refine Zd (Zt (Zb ?_))
 have hs9:St w0 ((Sl (some ⟨b4,0,none⟩) 1 5 1 byteC (dpI m 0))::(Cel b1 (TMs.cells m) 58)::L) w5:=hs8
 refine GoC.loop (T:=Nat×(Option Addr)×Nat) (fun gg=>[(1,zP b1 0),(2,.slice none 0 0),(3,.slice gg.2.1 ((dpI m gg.1).length) gg.2.2),(11,.agg (VecD.cells m.dp)),(12,.int .i64 (gg.1:Nat))]) (fun gg w=>(gg.1≤11)∧St w0 ((Sl gg.2.1 gg.2.2 5 1 byteC (dpI m gg.1))::(Cel b1 (TMs.cells m) 58)::L) w) (fun gg=>11-gg.1) (0,(some ⟨b4,0,none⟩),1) [1,2,3,11,12] (by kernel_rfl) ⟨Nat.zero_le _,hs9⟩ ?_
 rintro⟨k,ad,c⟩ w10 ⟨hp0,hs11⟩
 have hp:k≤11:=hp0
 have hs12:St w0 ((Sl ad c 5 1 byteC (dpI m k))::(Cel b1 (TMs.cells m) 58)::L) w10:=hs11
 refine Zn [(1,zP b1 0),(2,.slice none 0 0),(3,.slice ad ((dpI m k).length) c),(11,.agg (VecD.cells m.dp)),(12,.int .i64 (k:Nat))] ?_
 refine Zs ?_
 refine Zqt (.rd 0 .done) ?_
 refine Zr 0 1 [] ?_
 refine Zd (Zt (Zs ?_))
 refine Zqc (t:=decide (((k:Nat):Int)<11)) (fun h13=>?_) (fun h13=>?_)
 ·have h13':((k:Nat):Int)<11:=of_decide_eq_true h13
  have hk:k<11:=by omega
  have hkl:=dpI_length m k (by omega)
  have hdk:=hm.dp (m.dp.toList.getD k 0) (getD_mem (d:=(0:Int)) (by rw [VecD.len];exact hk))
  refine Zk (Zt (Zs (Zb (Zs ?_))))
  refine Zqt (.rd 0 (.rd 1 .done)) ?_
  refine Zp 0 2 [(0,.elem (.int .u64 (m.dp.toList.getD k 0)))] [(0,[.prop (0≤((k:Nat):Int)∧((k:Nat):Int)<(11:Int)),.prop ((VecD.cells m.dp)[Int.toNat ((k:Nat))*1]?=some (.int .u64 (m.dp.toList.getD k 0)))])] (ak (okp (by omega) (okp (by rw [Nat.mul_one];exact VecD.at_ _ k (by omega)) ok0)) ak0) ?_
  refine Zd (Zt ?_)
  refine Zqt (.rd 0 (.rd 1 (.ef 2 (.rd 3 .done)))) ?_
  refine Zr 0 2 [] ?_
  refine Zqa (f:=18) (args:=#[.slice ad ((dpI m k).length) c,.int .u64 (m.dp.toList.getD k 0)]) Tryz.call18 (word_spec (dpI m k) (m.dp.toList.getD k 0) (by first|omega|(simp only [lA,lC,lN,wd_length] at *;omega)) (by omega) hs12) ?_
  rintro v17 w18 ⟨ao14,co15,rfl,hs16⟩
  refine⟨Zqo,?_⟩
  refine Zr 3 1 [] ?_
  refine Zd (Zm (Zt ?_))
  refine Zqt (.rd 0 (.rd 1 .done)) ?_
  refine Zp 0 2 [(0,.as_ (.int .i64 ((k:Nat)+1)) (.gen []))] [(0,[.prop (Value.int .i64 (IntKind.i64.wrap ((k:Nat)+1))=Value.int .i64 ((k:Nat)+1))])] (ak (okp (i64ok (by omega) (by omega)) ok0) ak0) ?_
  refine Zd ?_
  have hs19:St w0 ((Sl ao14 co15 5 1 byteC (dpI m (k+1)))::(Cel b1 (TMs.cells m) 58)::L) w18:=(by rw [dpI_succ m hk];exact hs16)
  refine GoQ.pick [12,3,1,2,11] (S':=[(12,.int .i64 ((k:Nat)+1)),(3,.slice ao14 ((dpI m k++wd (m.dp.toList.getD k 0)).length) co15),(1,zP b1 0),(2,.slice none 0 0),(11,.agg (VecD.cells m.dp))]) (by kernel_rfl) ?_
  refine GoQ.slots (S':=[(12,.int .i64 ((k:Nat)+1)),(3,.slice ao14 ((dpI m (k+1)).length) co15),(1,zP b1 0),(2,.slice none 0 0),(11,.agg (VecD.cells m.dp))]) (by rw [dpI_succ m hk]) ?_
  exact GoQ.back (k+1,ao14,co15) [1,2,3,11,12] (by kernel_rfl) (by show 11-(k+1)<11-k;omega) ⟨(by omega),hs19⟩
 ·have h13':¬ (((k:Nat):Int)<11):=of_decide_eq_false h13
  have hke:k=11:=by omega
  subst hke
  have hkl:=dpI_length m 11 (by omega)
  refine Zx (GoQ.skipC (GoQ.skipL (GoQ.hit (Zt (Zs ?_)))))
  refine GoC.join (T:=Option Addr×Nat×Nat×Nat) (E:=fun jx=>[(2,.slice jx.1 ((((dpI m 11)++([(m.bd.kd:Int)]))++bdB m.bd).length) jx.2.1)]) (F:=fun jx w=>St w0 ((Sl jx.1 jx.2.1 5 1 byteC (((dpI m 11)++([(m.bd.kd:Int)]))++bdB m.bd))::(Sl (some ⟨jx.2.2.1,0,none⟩) 1 5 1 byteC ([(m.bd.kd:Int)]))::(MapA ekU evC jx.2.2.2 cdL)::(Cel b1 (TMs.cells m) 58)::L) w) ?_ ?_
  ·refine GoC.regD [0,0,2,6,15,31,0,0,128,384,896,1985,0,4096,16383,32767] (.rd 1 (.rd 2 (.rd 3 (.rd 6 (.rd 7 (.rd 8 (.rd 9 (.rd 12 (.rd 13 (.alt (.ef 0 (.rd 4 (.rd 5 (.ef 10 (.ef 11 (.ef 14 (.rd 15 .done))))))) (.ef 10 (.ef 0 (.rd 4 (.rd 5 (.ef 11 (.ef 14 (.rd 15 .done))))))))))))))))) (by kernel_rfl) (by kernel_rfl) noPan_body (by kernel_rfl) hs12 ?_
   intro w20 hs21 hw22
   refine Zh [(1,.gen []),(2,.gen []),(3,.gen [.int .u8 m.bd.kd]),(6,.gen []),(7,.gen []),(8,.gen []),(9,.gen [.int .u8 m.bd.kd]),(12,.gen []),(13,.agg (TBd.cells m.bd))] [(3,[.cell ⟨b1,13,none⟩ (.int .u8 m.bd.kd)]),(9,[.cell ⟨b1,13,none⟩ (.int .u8 m.bd.kd)]),(13,[.prop (Array.size (TBd.cells m.bd)=76),.cells ⟨b1,13,none⟩ (TBd.cells m.bd)])] (ak (okc (hs21.cell 1 rfl (by kernel_rfl)) ok0) (ak (okc (hs21.cell 1 rfl (by kernel_rfl)) ok0) (ak (okp (by kernel_rfl) (oka (hs21.cells 1 13 rfl (by kernel_rfl)) ok0)) ak0))) ?_
   refine GoR.alt ?_ ?_
   ·refine Zqa (f:=68) (args:=#[]) Tryz.call68 (codecs_spec hs21) ?_
    rintro v25 w26 ⟨r23,rfl,hs24⟩
    refine⟨(opl (n:=[.prop (Array.size (TBd.cells m.bd)=76),.cells ⟨b1,13,none⟩ (TBd.cells m.bd),.cell ⟨b1,13,none⟩ (.int .u8 m.bd.kd),.cell ⟨b1,13,none⟩ (.int .u8 m.bd.kd)]) (by kernel_rfl) (okp (by kernel_rfl) (oka (hs24.cells 2 13 rfl (by kernel_rfl)) (okc (hs24.cell 2 rfl (by kernel_rfl)) (okc (hs24.cell 2 rfl (by kernel_rfl)) ok0))))),?_⟩
    refine GoR.lookup rfl (by kernel_rfl) cdLaw (r:=r23) (k:=m.bd.kd) (ok:=false) (by kernel_rfl) hs24 0 rfl (z:=evC cvZ) (by kernel_rfl) (v:=.agg #[.func (.func fp) #[] #[],.func (.func fg) #[] #[],.func (.func fm) #[] #[]]) (by rw [hc];rfl) ?_
    refine Zr 5 1 [] ?_
    refine GoR.sliceLit rfl (by kernel_rfl) (t:=39) (e:=5) (n:=1) (ps:=[(0,.int .u8 m.bd.kd)]) (by kernel_rfl) (by kernel_rfl) (ti:=Tryz.t5) (z:=.int .u8 0) (by kernel_rfl) (by kernel_rfl) (by decide) (by decide) (cs:=#[.int .u8 m.bd.kd]) (by kernel_rfl) hs24 ?_
    intro b27 w28 hs29 hz30
    have hs31:St w0 ((Sl (some ⟨b27,0,none⟩) 1 5 1 byteC ([(m.bd.kd:Int)]))::(MapA ekU evC r23 cdL)::(Sl ad c 5 1 byteC (dpI m 11))::(Cel b1 (TMs.cells m) 58)::L) w28:=St.slOf (l:=[(m.bd.kd:Int)]) (f:=byteC) hs29 hz30 (byteF).size (by simp only [lC,lN,maxLen];omega) (by kernel_rfl)
    refine⟨(opl (n:=[.holds (MapA ekU evC r23 cdL).holds,.prop (Array.size (TBd.cells m.bd)=76),.cells ⟨b1,13,none⟩ (TBd.cells m.bd),.cell ⟨b1,13,none⟩ (.int .u8 m.bd.kd)]) (by kernel_rfl) (okh (hs31.at_ 1 rfl) (okp (by kernel_rfl) (oka (hs31.cells 3 13 rfl (by kernel_rfl)) (okc (hs31.cell 3 rfl (by kernel_rfl)) ok0))))),?_⟩
    have hs34:St w0 ((Sl ad c 5 1 byteC (dpI m 11))::(Sl (some ⟨b27,0,none⟩) 1 5 1 byteC ([(m.bd.kd:Int)]))::(MapA ekU evC r23 cdL)::(Cel b1 (TMs.cells m) 58)::L) w28:=(hs31.pull 2 rfl)
    refine GoR.append rfl (by kernel_rfl) bytesOK byteF (ad:=ad) (c:=c) (xs:=dpI m 11) (ys:=[(m.bd.kd:Int)]) (adx:=some ⟨b27,0,none⟩) (cx:=1) (0:Int) (by kernel_rfl) hs34 (hs34.rows 1 rfl (byteF).size (0:Int)) (fun h=>nomatch h) (by first|omega|(simp only [lA,lC,lN];omega)) (by first|omega|(simp only [lA,lC,lN];omega)) ?_
    intro ad35 c36 w32 hs33
    refine⟨(opl (n:=[.holds (MapA ekU evC r23 cdL).holds,.prop (Array.size (TBd.cells m.bd)=76),.cells ⟨b1,13,none⟩ (TBd.cells m.bd),.cell ⟨b1,13,none⟩ (.int .u8 m.bd.kd)]) (by kernel_rfl) (okh (hs33.at_ 2 rfl) (okp (by kernel_rfl) (oka (hs33.cells 3 13 rfl (by kernel_rfl)) (okc (hs33.cell 3 rfl (by kernel_rfl)) ok0))))),?_⟩
    refine Zqa (f:=fp) (args:=#[.slice ad35 (((dpI m 11)++([(m.bd.kd:Int)])).length) c36,.agg (TBd.cells m.bd)]) C.cp (C.put ((dpI m 11)++([(m.bd.kd:Int)])) m.bd rfl (by first|omega|(simp only [lA,lC,lN];omega)) hm.bd hin.2.1 (by have:=hin.2.2;omega) (fun w h=>hr _ (h.drop 3)) hs33) ?_
    rintro v40 w41 ⟨ao37,co38,rfl,hs39⟩
    refine⟨Zqo,?_⟩
    refine Zr 15 1 [] ?_
    refine Zd ?_
    refine GoQ.pick [2] (S':=[(2,.slice ao37 ((((dpI m 11)++([(m.bd.kd:Int)]))++bdB m.bd).length) co38)]) (by kernel_rfl) ?_
    exact GoQ.meet1 (ao37,co38,b27,r23) rfl hs39
   refine GoR.sliceLit rfl (by kernel_rfl) (t:=39) (e:=5) (n:=1) (ps:=[(0,.int .u8 m.bd.kd)]) (by kernel_rfl) (by kernel_rfl) (ti:=Tryz.t5) (z:=.int .u8 0) (by kernel_rfl) (by kernel_rfl) (by decide) (by decide) (cs:=#[.int .u8 m.bd.kd]) (by kernel_rfl) hs21 ?_
   intro b42 w43 hs44 hz45
   have hs46:St w0 ((Sl (some ⟨b42,0,none⟩) 1 5 1 byteC ([(m.bd.kd:Int)]))::(Sl ad c 5 1 byteC (dpI m 11))::(Cel b1 (TMs.cells m) 58)::L) w43:=St.slOf (l:=[(m.bd.kd:Int)]) (f:=byteC) hs44 hz45 (byteF).size (by simp only [lC,lN,maxLen];omega) (by kernel_rfl)
   refine⟨(opl (n:=[.prop (Array.size (TBd.cells m.bd)=76),.cells ⟨b1,13,none⟩ (TBd.cells m.bd),.cell ⟨b1,13,none⟩ (.int .u8 m.bd.kd)]) (by kernel_rfl) (okp (by kernel_rfl) (oka (hs46.cells 2 13 rfl (by kernel_rfl)) (okc (hs46.cell 2 rfl (by kernel_rfl)) ok0)))),?_⟩
   refine Zqa (f:=68) (args:=#[]) Tryz.call68 (codecs_spec hs46) ?_
   rintro v49 w50 ⟨r47,rfl,hs48⟩
   refine⟨(opl (n:=[.prop (Array.size (TBd.cells m.bd)=76),.cells ⟨b1,13,none⟩ (TBd.cells m.bd),.cell ⟨b1,13,none⟩ (.int .u8 m.bd.kd),.cell ⟨b1,13,none⟩ (.int .u8 m.bd.kd)]) (by kernel_rfl) (okp (by kernel_rfl) (oka (hs48.cells 3 13 rfl (by kernel_rfl)) (okc (hs48.cell 3 rfl (by kernel_rfl)) (okc (hs48.cell 3 rfl (by kernel_rfl)) ok0))))),?_⟩
   refine GoR.lookup rfl (by kernel_rfl) cdLaw (r:=r47) (k:=m.bd.kd) (ok:=false) (by kernel_rfl) hs48 0 rfl (z:=evC cvZ) (by kernel_rfl) (v:=.agg #[.func (.func fp) #[] #[],.func (.func fg) #[] #[],.func (.func fm) #[] #[]]) (by rw [hc];rfl) ?_
   refine Zr 5 1 [] ?_
   have hs53:St w0 ((Sl ad c 5 1 byteC (dpI m 11))::(MapA ekU evC r47 cdL)::(Sl (some ⟨b42,0,none⟩) 1 5 1 byteC ([(m.bd.kd:Int)]))::(Cel b1 (TMs.cells m) 58)::L) w50:=(hs48.pull 2 rfl)
   refine GoR.append rfl (by kernel_rfl) bytesOK byteF (ad:=ad) (c:=c) (xs:=dpI m 11) (ys:=[(m.bd.kd:Int)]) (adx:=some ⟨b42,0,none⟩) (cx:=1) (0:Int) (by kernel_rfl) hs53 (hs53.rows 2 rfl (byteF).size (0:Int)) (fun h=>nomatch h) (by first|omega|(simp only [lA,lC,lN];omega)) (by first|omega|(simp only [lA,lC,lN];omega)) ?_
   intro ad54 c55 w51 hs52
   refine⟨(opl (n:=[.holds (MapA ekU evC r47 cdL).holds,.prop (Array.size (TBd.cells m.bd)=76),.cells ⟨b1,13,none⟩ (TBd.cells m.bd),.cell ⟨b1,13,none⟩ (.int .u8 m.bd.kd)]) (by kernel_rfl) (okh (hs52.at_ 1 rfl) (okp (by kernel_rfl) (oka (hs52.cells 3 13 rfl (by kernel_rfl)) (okc (hs52.cell 3 rfl (by kernel_rfl)) ok0))))),?_⟩
   refine Zqa (f:=fp) (args:=#[.slice ad54 (((dpI m 11)++([(m.bd.kd:Int)])).length) c55,.agg (TBd.cells m.bd)]) C.cp (C.put ((dpI m 11)++([(m.bd.kd:Int)])) m.bd rfl (by first|omega|(simp only [lA,lC,lN];omega)) hm.bd hin.2.1 (by have:=hin.2.2;omega) (fun w h=>hr _ (h.drop 3)) hs52) ?_
   rintro v59 w60 ⟨ao56,co57,rfl,hs58⟩
   refine⟨Zqo,?_⟩
   refine Zr 15 1 [] ?_
   refine Zd ?_
   have hs61:St w0 ((Sl ao56 co57 5 1 byteC (((dpI m 11)++([(m.bd.kd:Int)]))++bdB m.bd))::(Sl (some ⟨b42,0,none⟩) 1 5 1 byteC ([(m.bd.kd:Int)]))::(MapA ekU evC r47 cdL)::(Cel b1 (TMs.cells m) 58)::L) w60:=((((hs58.pull 3 rfl).pull 2 rfl).pull 3 rfl).pull 3 rfl)
   refine GoQ.pick [2] (S':=[(2,.slice ao56 ((((dpI m 11)++([(m.bd.kd:Int)]))++bdB m.bd).length) co57)]) (by kernel_rfl) ?_
   exact GoQ.meet1 (ao56,co57,b42,r47) rfl hs61
  rintro⟨ao62,co63,b64,r65⟩ w66 hs67
  have hs68:St w0 ((Sl ao62 co63 5 1 byteC (((dpI m 11)++([(m.bd.kd:Int)]))++bdB m.bd))::(Sl (some ⟨b64,0,none⟩) 1 5 1 byteC ([(m.bd.kd:Int)]))::(MapA ekU evC r65 cdL)::(Cel b1 (TMs.cells m) 58)::L) w66:=hs67
  refine GoQ.slots (S':=[(2,.slice ao62 ((((dpI m 11)++([(m.bd.kd:Int)]))++bdB m.bd).length) co63)]) rfl ?_
  refine Zt (Ze ?_)
  refine Zq1 (v:=.slice ao62 ((((dpI m 11)++([(m.bd.kd:Int)]))++bdB m.bd).length) co63) ?_
  have hs69:St w0 ((Sl (some ⟨b64,0,none⟩) 1 5 1 byteC ([(m.bd.kd:Int)]))::(MapA ekU evC r65 cdL)::(Cel b1 (TMs.cells m) 58)::(Sl ao62 co63 5 1 byteC (((dpI m 11)++([(m.bd.kd:Int)]))++bdB m.bd))::L) w66:=((((hs68.pull 0 rfl).pull 3 rfl).pull 3 rfl).pull 3 rfl)
  have hs70:St w0 ((Sl ao62 co63 5 1 byteC (((dpI m 11)++([(m.bd.kd:Int)]))++bdB m.bd))::L) w66:=hs69.drop 3
  exact⟨ao62,co63,rfl,hs70⟩
theorem mbytes_spec {w0 w:World}{L:List Asn}(m:TMs) (hm:MsOK m) (hr:∀ w,St w0 L w→RowsAt w m.bd.qa m.bd.ql.length 2 (fun k=>TPr.cells (m.bd.ql.getD k dPr))) (hs:St w0 (L) w):Calls Tryz.prog 104 #[.agg (TMs.cells m)] w (Ret fun rv w'=>∃ (ao:Option Addr) (co:Nat),rv=.slice ao ((byB m).length) co∧St w0 ((Sl ao co 5 1 byteC (byB m))::L) w'):=by
 refine Zen (args:=[.agg (TMs.cells m)]) Tryz.func104 Tryz.ntmps104 ?_
 refine Zn [(0,.agg (TMs.cells m))] ?_
 refine Zs ?_
 refine Zqt (.ef 0 (.rd 1 .done)) ?_
 refine GoR.box rfl rfl (by kernel_rfl) (v:=.agg (TMs.cells m)) (by kernel_rfl) hs (cs:=TMs.cells m) (by kernel_rfl) ?_
 intro b1 w2 hs3
 refine⟨Zqo,?_⟩
 refine Zr 1 1 [] ?_
 refine Zd (Zt (Zs (Zs ?_)))
 refine Zqt (.rd 0 (.ef 1 (.rd 2 .done))) ?_
 refine Zp 0 1 [(0,.agg (TMs.cells m))] [(0,[.prop (Array.size (TMs.cells m)=121),.cells ⟨b1,0,none⟩ (TMs.cells m)])] (ak (okp (by kernel_rfl) (oka (hs3.cells 0 0 rfl (by kernel_rfl)) ok0)) ak0) ?_
 refine Zqa (f:=25) (args:=#[.agg (TMs.cells m)]) Tryz.call25 (may_spec m hm (fun w h=>hr _ (h.drop 1)) hs3) ?_
 rintro v5 w6 ⟨rfl,hs4⟩
 refine⟨Zqo,?_⟩
 refine Zr 2 1 [] ?_
 refine Zd (Zt ?_)
 refine Zqc (t:=!(mayM m)) (fun h7=>?_) (fun h7=>?_)
 ·have h7n:(mayM m)=false:=notT h7
  refine Zs ?_
  refine Zqt (.rd 0 .done) ?_
  refine Zr 0 1 [] ?_
  refine Zd (Zt (Ze (Zy ?_)))
  refine Zq1 (v:=.slice none 0 0) ?_
  have hs8:St w0 ((Sl none 0 5 1 byteC ([]:List Int))::(Cel b1 (TMs.cells m) 58)::L) w6:=St.slNil hs4 5 1 byteC
  have hs9:St w0 ((Cel b1 (TMs.cells m) 58)::(Sl none 0 5 1 byteC ([]:List Int))::L) w6:=((hs8.pull 0 rfl).pull 1 rfl)
  have hs10:St w0 ((Sl none 0 5 1 byteC ([]:List Int))::L) w6:=hs9.drop 1
  exact⟨none,0,by rw [(show byB m=([]:List Int) from if_neg (by rw [h7n];decide))];rfl,by rw [(show byB m=([]:List Int) from if_neg (by rw [h7n];decide))];exact hs10⟩
 ·have h7n:(mayM m)=true:=notF h7
  refine Zk (Zt (Zs ?_))
  refine Zqt (.rd 0 (.ef 1 (.rd 2 .done))) ?_
  refine Zp 0 1 [(0,.agg (TMs.cells m))] [(0,[.prop (Array.size (TMs.cells m)=121),.cells ⟨b1,0,none⟩ (TMs.cells m)])] (ak (okp (by kernel_rfl) (oka (hs4.cells 0 0 rfl (by kernel_rfl)) ok0)) ak0) ?_
  refine Zqa (f:=49) (args:=#[.agg (TMs.cells m)]) Tryz.call49 (tagged_spec m hm h7n (fun w h=>hr _ (h.drop 1)) hs4) ?_
  rintro v14 w15 ⟨ao11,co12,rfl,hs13⟩
  refine⟨Zqo,?_⟩
  refine Zr 2 1 [] ?_
  refine Zd (Zt (Ze ?_))
  refine Zq1 (v:=.slice ao11 ((tgB m).length) co12) ?_
  have hs16:St w0 ((Cel b1 (TMs.cells m) 58)::(Sl ao11 co12 5 1 byteC (tgB m))::L) w15:=((hs13.pull 0 rfl).pull 1 rfl)
  have hs17:St w0 ((Sl ao11 co12 5 1 byteC (tgB m))::L) w15:=hs16.drop 1
  exact⟨ao11,co12,by rw [(show byB m=tgB m from if_pos h7n)],by rw [(show byB m=tgB m from if_pos h7n)];exact hs17⟩
def cat3 (l1 l2 l3:List Int):Nat→List Int
 | 0=>[]
 | 1=>l1
 | 2=>l1++l2
 | _=>l1++l2++l3
theorem cat3_spec {w0 w:World}{L:List Asn}{bs:Nat}{a1:Option Addr}{n1:Nat}{c1:Nat}{a2:Option Addr}{n2:Nat}{c2:Nat}{a3:Option Addr}{n3:Nat}{c3:Nat}(l1:List Int) (l2:List Int) (l3:List Int) (e1:l1.length=n1) (e2:l2.length=n2) (e3:l3.length=n3) (g1:l1.length≤100000) (g2:l2.length≤100000) (g3:l3.length≤100000) (hn1:a1=none→c1=0) (hn2:a2=none→c2=0) (hn3:a3=none→c3=0) (hr1:∀ w,St w0 L w→RowsAt w a1 l1.length 1 (fun k=>byteC (l1.getD k (0:Int)))) (hr2:∀ w,St w0 L w→RowsAt w a2 l2.length 1 (fun k=>byteC (l2.getD k (0:Int)))) (hr3:∀ w,St w0 L w→RowsAt w a3 l3.length 1 (fun k=>byteC (l3.getD k (0:Int)))) (hs:St w0 ((Cel bs #[.slice a1 n1 c1,.slice a2 n2 c2,.slice a3 n3 c3] 39)::L) w):Calls Tryz.prog 48 #[zL bs 0 3 3] w (Ret fun rv w'=>∃ (ao:Option Addr) (co:Nat),rv=.slice ao ((l1++l2++l3).length) co∧St w0 ((Cel bs #[.slice a1 n1 c1,.slice a2 n2 c2,.slice a3 n3 c3] 39)::(Sl ao co 5 1 byteC (l1++l2++l3))::L) w'):=by
 refine Zen (args:=[zL bs 0 3 3]) Tryz.func48 Tryz.ntmps48 ?_
 refine Zn [(0,zL bs 0 3 3)] ?_
 refine Zs ?_
 subst e1
 subst e2
 subst e3
 refine Zqt (.rd 0 .done) ?_
 refine Zr 0 1 [] ?_
 refine Zd (Zt (Zs ?_))
 refine Zqt (.rd 0 .done) ?_
 refine Zr 0 1 [] ?_
 refine Zd (Zt (Zs (Zs ?_)))
 refine Zqt (.rd 0 (.rd 1 (.rd 2 .done))) ?_
 refine Zr 0 3 [] ?_
 refine Zd (Zt (Zb ?_))
 refine GoC.loop (T:=Nat×Int) (fun gg=>[(0,zL bs 0 3 3),(2,.slice none 0 0),(3,.int .i64 gg.2),(9,zL bs 0 3 3),(10,.int .i64 3),(11,.int .i64 (gg.1:Nat))]) (fun gg w=>(gg.1≤3∧(gg.1=0→gg.2=(0:Int))∧(gg.1=1→gg.2=(0:Int)+(l1.length:Nat))∧(gg.1=2→gg.2=(0:Int)+(l1.length:Nat)+(l2.length:Nat))∧(gg.1=3→gg.2=(0:Int)+(l1.length:Nat)+(l2.length:Nat)+(l3.length:Nat)))∧St w0 ((Cel bs #[.slice a1 l1.length c1,.slice a2 l2.length c2,.slice a3 l3.length c3] 39)::L) w) (fun gg=>3-gg.1) (0,0) [0,2,3,9,10,11] (by kernel_rfl) ⟨⟨Nat.zero_le _,fun _=>rfl,fun h=>by omega,fun h=>by omega,fun h=>by omega⟩,hs⟩ ?_
 rintro⟨k,z⟩ w1 ⟨hp0,hs2⟩
 have hp:k≤3∧(k=0→z=(0:Int))∧(k=1→z=(0:Int)+(l1.length:Nat))∧(k=2→z=(0:Int)+(l1.length:Nat)+(l2.length:Nat))∧(k=3→z=(0:Int)+(l1.length:Nat)+(l2.length:Nat)+(l3.length:Nat)):=hp0
 have hs3:St w0 ((Cel bs #[.slice a1 l1.length c1,.slice a2 l2.length c2,.slice a3 l3.length c3] 39)::L) w1:=hs2
 refine Zn [(0,zL bs 0 3 3),(2,.slice none 0 0),(3,.int .i64 z),(9,zL bs 0 3 3),(10,.int .i64 3),(11,.int .i64 (k:Nat))] ?_
 refine Zs ?_
 refine Zqt (.rd 0 .done) ?_
 refine Zr 0 1 [] ?_
 refine Zd (Zt (Zs ?_))
 refine Zn [(12,.bool (decide (((k:Nat):Int)<3))),(0,zL bs 0 3 3),(2,.slice none 0 0),(3,.int .i64 z),(9,zL bs 0 3 3),(10,.int .i64 3),(11,.int .i64 (k:Nat))] ?_
 refine Zqc (t:=decide (((k:Nat):Int)<3)) (fun h4=>?_) (fun h4=>?_)
 ·have h4':((k:Nat):Int)<3:=of_decide_eq_true h4
  have hcs:k=0∨k=1∨k=2:=by omega
  rcases hcs with rfl|rfl|rfl
  ·have hz:z=(0:Int):=hp.2.1 rfl
   refine Zn [(12,.bool (decide (((0:Nat):Int)<3))),(0,zL bs 0 3 3),(2,.slice none 0 0),(3,.int .i64 z),(9,zL bs 0 3 3),(10,.int .i64 3),(11,.int .i64 0)] ?_
   refine Zk (Zt (Zs (Zb (Zs ?_))))
   refine Zqt (.rd 0 (.rd 1 (.rd 2 .done))) ?_
   refine Zp 0 3 [(0,.as_ (zP bs 0) .at_),(1,.gen [.slice a1 l1.length c1])] [(0,[.prop (0≤(0:Int)∧(0:Int)<(3:Int)),.prop (Value.pointer (some (Addr.add ⟨bs,0,none⟩ (Int.toNat 0*1)))=Value.pointer (some ⟨bs,0,none⟩))]),(1,[.cell ⟨bs,0,none⟩ (.slice a1 l1.length c1)])] (ak (okp (by omega) (okp (ptrAdd _ _ _) ok0)) (ak (okc (hs3.cell 0 rfl (by kernel_rfl)) ok0) ak0)) ?_
   refine Zd (Zt (Zs ?_))
   refine Zqt (.rd 0 (.rd 1 (.rd 2 (.rd 3 (.rd 4 .done))))) ?_
   refine Zp 0 5 [(3,.as_ (.int .i64 (z+(l1.length:Nat))) (.gen []))] [(3,[.prop (Value.int .i64 (IntKind.i64.wrap (z+(l1.length:Nat)))=Value.int .i64 (z+(l1.length:Nat)))])] (ak (okp (i64ok (by omega) (by omega)) ok0) ak0) ?_
   refine Zd (Zt (Zs ?_))
   refine Zqt (.rd 0 (.rd 1 .done)) ?_
   refine Zr 0 2 [] ?_
   refine Zd (Zt ?_)
   refine Zqc (t:=decide ((z+(l1.length:Nat):Int)<0)) (fun h5=>?_) (fun h5=>?_)
   ·have h5':(z+(l1.length:Nat):Int)<0:=of_decide_eq_true h5
    exfalso;omega
   ·have h5':¬ ((z+(l1.length:Nat):Int)<0):=of_decide_eq_false h5
    refine Zk (Zm (Zt ?_))
    refine Zqt (.rd 0 (.rd 1 .done)) ?_
    refine Zr 0 2 [] ?_
    refine Zd ?_
    exact GoQ.back (1,z+(l1.length:Nat)) [0,2,3,9,10,11] (by kernel_rfl) (by show 3-1<3-0;omega) ⟨⟨by omega,by omega,by omega,by omega,by omega⟩,hs3⟩
  ·have hz:z=(0:Int)+(l1.length:Nat):=hp.2.2.1 rfl
   refine Zn [(12,.bool (decide (((1:Nat):Int)<3))),(0,zL bs 0 3 3),(2,.slice none 0 0),(3,.int .i64 z),(9,zL bs 0 3 3),(10,.int .i64 3),(11,.int .i64 1)] ?_
   refine Zk (Zt (Zs (Zb (Zs ?_))))
   refine Zqt (.rd 0 (.rd 1 (.rd 2 .done))) ?_
   refine Zp 0 3 [(0,.as_ (zP bs 1) .at_),(1,.gen [.slice a2 l2.length c2])] [(0,[.prop (0≤(1:Int)∧(1:Int)<(3:Int)),.prop (Value.pointer (some (Addr.add ⟨bs,0,none⟩ (Int.toNat 1*1)))=Value.pointer (some ⟨bs,1,none⟩))]),(1,[.cell ⟨bs,1,none⟩ (.slice a2 l2.length c2)])] (ak (okp (by omega) (okp (ptrAdd _ _ _) ok0)) (ak (okc (hs3.cell 0 rfl (by kernel_rfl)) ok0) ak0)) ?_
   refine Zd (Zt (Zs ?_))
   refine Zqt (.rd 0 (.rd 1 (.rd 2 (.rd 3 (.rd 4 .done))))) ?_
   refine Zp 0 5 [(3,.as_ (.int .i64 (z+(l2.length:Nat))) (.gen []))] [(3,[.prop (Value.int .i64 (IntKind.i64.wrap (z+(l2.length:Nat)))=Value.int .i64 (z+(l2.length:Nat)))])] (ak (okp (i64ok (by omega) (by omega)) ok0) ak0) ?_
   refine Zd (Zt (Zs ?_))
   refine Zqt (.rd 0 (.rd 1 .done)) ?_
   refine Zr 0 2 [] ?_
   refine Zd (Zt ?_)
   refine Zqc (t:=decide ((z+(l2.length:Nat):Int)<0)) (fun h6=>?_) (fun h6=>?_)
   ·have h6':(z+(l2.length:Nat):Int)<0:=of_decide_eq_true h6
    exfalso;omega
   ·have h6':¬ ((z+(l2.length:Nat):Int)<0):=of_decide_eq_false h6
    refine Zk (Zm (Zt ?_))
    refine Zqt (.rd 0 (.rd 1 .done)) ?_
    refine Zr 0 2 [] ?_
    refine Zd ?_
    exact GoQ.back (2,z+(l2.length:Nat)) [0,2,3,9,10,11] (by kernel_rfl) (by show 3-2<3-1;omega) ⟨⟨by omega,by omega,by omega,by omega,by omega⟩,hs3⟩
  ·have hz:z=(0:Int)+(l1.length:Nat)+(l2.length:Nat):=hp.2.2.2.1 rfl
   refine Zn [(12,.bool (decide (((2:Nat):Int)<3))),(0,zL bs 0 3 3),(2,.slice none 0 0),(3,.int .i64 z),(9,zL bs 0 3 3),(10,.int .i64 3),(11,.int .i64 2)] ?_
   refine Zk (Zt (Zs (Zb (Zs ?_))))
   refine Zqt (.rd 0 (.rd 1 (.rd 2 .done))) ?_
   refine Zp 0 3 [(0,.as_ (zP bs 2) .at_),(1,.gen [.slice a3 l3.length c3])] [(0,[.prop (0≤(2:Int)∧(2:Int)<(3:Int)),.prop (Value.pointer (some (Addr.add ⟨bs,0,none⟩ (Int.toNat 2*1)))=Value.pointer (some ⟨bs,2,none⟩))]),(1,[.cell ⟨bs,2,none⟩ (.slice a3 l3.length c3)])] (ak (okp (by omega) (okp (ptrAdd _ _ _) ok0)) (ak (okc (hs3.cell 0 rfl (by kernel_rfl)) ok0) ak0)) ?_
   refine Zd (Zt (Zs ?_))
   refine Zqt (.rd 0 (.rd 1 (.rd 2 (.rd 3 (.rd 4 .done))))) ?_
   refine Zp 0 5 [(3,.as_ (.int .i64 (z+(l3.length:Nat))) (.gen []))] [(3,[.prop (Value.int .i64 (IntKind.i64.wrap (z+(l3.length:Nat)))=Value.int .i64 (z+(l3.length:Nat)))])] (ak (okp (i64ok (by omega) (by omega)) ok0) ak0) ?_
   refine Zd (Zt (Zs ?_))
   refine Zqt (.rd 0 (.rd 1 .done)) ?_
   refine Zr 0 2 [] ?_
   refine Zd (Zt ?_)
   refine Zqc (t:=decide ((z+(l3.length:Nat):Int)<0)) (fun h7=>?_) (fun h7=>?_)
   ·have h7':(z+(l3.length:Nat):Int)<0:=of_decide_eq_true h7
    exfalso;omega
   ·have h7':¬ ((z+(l3.length:Nat):Int)<0):=of_decide_eq_false h7
    refine Zk (Zm (Zt ?_))
    refine Zqt (.rd 0 (.rd 1 .done)) ?_
    refine Zr 0 2 [] ?_
    refine Zd ?_
    exact GoQ.back (3,z+(l3.length:Nat)) [0,2,3,9,10,11] (by kernel_rfl) (by show 3-3<3-2;omega) ⟨⟨by omega,by omega,by omega,by omega,by omega⟩,hs3⟩
 ·have h4':¬ (((k:Nat):Int)<3):=of_decide_eq_false h4
  have hkn:k=3:=by omega
  subst hkn
  have hz:z=(0:Int)+(l1.length:Nat)+(l2.length:Nat)+(l3.length:Nat):=hp.2.2.2.2 rfl
  have hzn:z=((l1.length+l2.length+l3.length:Nat):Int):=by omega
  refine Zn [(12,.bool (decide (((3:Nat):Int)<3))),(0,zL bs 0 3 3),(2,.slice none 0 0),(3,.int .i64 z),(9,zL bs 0 3 3),(10,.int .i64 3),(11,.int .i64 (3:Nat))] ?_
  refine GoC.slots (S':=[(12,.bool (decide (((3:Nat):Int)<3))),(0,zL bs 0 3 3),(2,.slice none 0 0),(3,.int .i64 (l1.length+l2.length+l3.length:Nat)),(9,zL bs 0 3 3),(10,.int .i64 3),(11,.int .i64 (3:Nat))]) (by rw [hzn]) ?_
  refine Zn [(12,.bool (decide (((3:Nat):Int)<3))),(0,zL bs 0 3 3),(2,.slice none 0 0),(3,.int .i64 (l1.length+l2.length+l3.length:Nat)),(9,zL bs 0 3 3),(10,.int .i64 3),(11,.int .i64 (3:Nat))] ?_
  refine Zx (GoQ.skipC (GoQ.skipL (GoQ.hit (Zt (Zs ?_)))))
  refine Zqt (.rd 0 (.ef 1 (.rd 2 .done))) ?_
  refine Zr 0 1 [] ?_
  have hs8:St w0 ((Sl none 0 5 1 byteC ([]:List Int))::(Cel bs #[.slice a1 l1.length c1,.slice a2 l2.length c2,.slice a3 l3.length c3] 39)::L) w1:=St.slNil hs3 5 1 byteC
  refine Zqa (f:=66) (args:=#[.slice none 0 0,.int .i64 (l1.length+l2.length+l3.length:Nat)]) Tryz.call66 (grow_spec2 ([]:List Int) (l1.length+l2.length+l3.length:Nat) (by first|omega|(simp only [lA,lC,lN,wd_length] at *;omega)) (by omega) hs8) ?_
  rintro v12 w13 ⟨ao9,co10,rfl,hs11⟩
  refine⟨Zqo,?_⟩
  refine Zr 2 1 [] ?_
  refine Zd (Zt (Zs (Zs ?_)))
  refine Zqt (.rd 0 (.rd 1 (.rd 2 .done))) ?_
  refine Zr 0 3 [] ?_
  refine Zd (Zt (Zb ?_))
  refine GoC.loop (T:=Nat×(Option Addr)×Nat) (fun gg=>[(2,.slice none 0 0),(6,.slice gg.2.1 ((cat3 l1 l2 l3 gg.1).length) gg.2.2),(25,zL bs 0 3 3),(26,.int .i64 3),(27,.int .i64 (gg.1:Nat))]) (fun gg w=>(gg.1≤3)∧St w0 ((Sl gg.2.1 gg.2.2 5 1 byteC (cat3 l1 l2 l3 gg.1))::(Cel bs #[.slice a1 l1.length c1,.slice a2 l2.length c2,.slice a3 l3.length c3] 39)::L) w) (fun gg=>3-gg.1) (0,ao9,co10) [2,6,25,26,27] (by kernel_rfl) ⟨Nat.zero_le _,hs11⟩ ?_
  rintro⟨k,ad,c⟩ w14 ⟨hq0,hs15⟩
  have hq:k≤3:=hq0
  have hs16:St w0 ((Sl ad c 5 1 byteC (cat3 l1 l2 l3 k))::(Cel bs #[.slice a1 l1.length c1,.slice a2 l2.length c2,.slice a3 l3.length c3] 39)::L) w14:=hs15
  refine Zn [(2,.slice none 0 0),(6,.slice ad ((cat3 l1 l2 l3 k).length) c),(25,zL bs 0 3 3),(26,.int .i64 3),(27,.int .i64 (k:Nat))] ?_
  refine Zs ?_
  refine Zqt (.rd 0 .done) ?_
  refine Zr 0 1 [] ?_
  refine Zd (Zt (Zs ?_))
  refine Zn [(28,.bool (decide (((k:Nat):Int)<3))),(2,.slice none 0 0),(6,.slice ad ((cat3 l1 l2 l3 k).length) c),(25,zL bs 0 3 3),(26,.int .i64 3),(27,.int .i64 (k:Nat))] ?_
  refine Zqc (t:=decide (((k:Nat):Int)<3)) (fun h17=>?_) (fun h17=>?_)
  ·have h17':((k:Nat):Int)<3:=of_decide_eq_true h17
   have hcs:k=0∨k=1∨k=2:=by omega
   rcases hcs with rfl|rfl|rfl
   ·have hs18:St w0 ((Sl ad c 5 1 byteC ([]:List Int))::(Cel bs #[.slice a1 l1.length c1,.slice a2 l2.length c2,.slice a3 l3.length c3] 39)::L) w14:=hs16
    refine Zn [(28,.bool (decide (((0:Nat):Int)<3))),(2,.slice none 0 0),(6,.slice ad ((([]:List Int)).length) c),(25,zL bs 0 3 3),(26,.int .i64 3),(27,.int .i64 0)] ?_
    refine Zk (Zt (Zs (Zb (Zs ?_))))
    refine Zqt (.rd 0 (.rd 1 (.rd 2 .done))) ?_
    refine Zp 0 3 [(0,.as_ (zP bs 0) .at_),(1,.gen [.slice a1 l1.length c1])] [(0,[.prop (0≤(0:Int)∧(0:Int)<(3:Int)),.prop (Value.pointer (some (Addr.add ⟨bs,0,none⟩ (Int.toNat 0*1)))=Value.pointer (some ⟨bs,0,none⟩))]),(1,[.cell ⟨bs,0,none⟩ (.slice a1 l1.length c1)])] (ak (okp (by omega) (okp (ptrAdd _ _ _) ok0)) (ak (okc (hs18.cell 1 rfl (by kernel_rfl)) ok0) ak0)) ?_
    refine Zd (Zt ?_)
    refine Zqt (.rd 0 (.rd 1 (.ef 2 (.rd 3 .done)))) ?_
    refine Zr 0 2 [] ?_
    refine GoR.append rfl (by kernel_rfl) bytesOK byteF (ad:=ad) (c:=c) (xs:=([]:List Int)) (ys:=l1) (adx:=a1) (cx:=c1) (0:Int) (by kernel_rfl) hs18 (hr1 _ (hs18.drop 2)) hn1 (by first|omega|(simp only [lA,lN];omega)) (by first|omega|(simp only [lA,lN];omega)) ?_
    intro ad21 c22 w19 hs20
    refine⟨Zqo,?_⟩
    refine Zr 3 1 [] ?_
    refine Zd (Zm (Zt ?_))
    refine Zqt (.rd 0 (.rd 1 .done)) ?_
    refine Zr 0 2 [] ?_
    refine Zd ?_
    have hs23:St w0 ((Sl ad21 c22 5 1 byteC (cat3 l1 l2 l3 1))::(Cel bs #[.slice a1 l1.length c1,.slice a2 l2.length c2,.slice a3 l3.length c3] 39)::L) w19:=hs20
    refine GoQ.pick [27,6,2,25,26] (S':=[(27,.int .i64 1),(6,.slice ad21 ((l1).length) c22),(2,.slice none 0 0),(25,zL bs 0 3 3),(26,.int .i64 3)]) (by kernel_rfl) ?_
    refine GoQ.slots (S':=[(27,.int .i64 1),(6,.slice ad21 ((cat3 l1 l2 l3 1).length) c22),(2,.slice none 0 0),(25,zL bs 0 3 3),(26,.int .i64 3)]) (by rfl) ?_
    exact GoQ.back (1,ad21,c22) [2,6,25,26,27] (by kernel_rfl) (by show 3-1<3-0;omega) ⟨(by omega),hs23⟩
   ·have hs24:St w0 ((Sl ad c 5 1 byteC l1)::(Cel bs #[.slice a1 l1.length c1,.slice a2 l2.length c2,.slice a3 l3.length c3] 39)::L) w14:=hs16
    refine Zn [(28,.bool (decide (((1:Nat):Int)<3))),(2,.slice none 0 0),(6,.slice ad ((l1).length) c),(25,zL bs 0 3 3),(26,.int .i64 3),(27,.int .i64 1)] ?_
    refine Zk (Zt (Zs (Zb (Zs ?_))))
    refine Zqt (.rd 0 (.rd 1 (.rd 2 .done))) ?_
    refine Zp 0 3 [(0,.as_ (zP bs 1) .at_),(1,.gen [.slice a2 l2.length c2])] [(0,[.prop (0≤(1:Int)∧(1:Int)<(3:Int)),.prop (Value.pointer (some (Addr.add ⟨bs,0,none⟩ (Int.toNat 1*1)))=Value.pointer (some ⟨bs,1,none⟩))]),(1,[.cell ⟨bs,1,none⟩ (.slice a2 l2.length c2)])] (ak (okp (by omega) (okp (ptrAdd _ _ _) ok0)) (ak (okc (hs24.cell 1 rfl (by kernel_rfl)) ok0) ak0)) ?_
    refine Zd (Zt ?_)
    refine Zqt (.rd 0 (.rd 1 (.ef 2 (.rd 3 .done)))) ?_
    refine Zr 0 2 [] ?_
    refine GoR.append rfl (by kernel_rfl) bytesOK byteF (ad:=ad) (c:=c) (xs:=l1) (ys:=l2) (adx:=a2) (cx:=c2) (0:Int) (by kernel_rfl) hs24 (hr2 _ (hs24.drop 2)) hn2 (by first|omega|(simp only [lA,lN];omega)) (by first|omega|(simp only [lA,lN];omega)) ?_
    intro ad27 c28 w25 hs26
    refine⟨Zqo,?_⟩
    refine Zr 3 1 [] ?_
    refine Zd (Zm (Zt ?_))
    refine Zqt (.rd 0 (.rd 1 .done)) ?_
    refine Zr 0 2 [] ?_
    refine Zd ?_
    have hs29:St w0 ((Sl ad27 c28 5 1 byteC (cat3 l1 l2 l3 2))::(Cel bs #[.slice a1 l1.length c1,.slice a2 l2.length c2,.slice a3 l3.length c3] 39)::L) w25:=hs26
    refine GoQ.pick [27,6,2,25,26] (S':=[(27,.int .i64 2),(6,.slice ad27 ((l1++l2).length) c28),(2,.slice none 0 0),(25,zL bs 0 3 3),(26,.int .i64 3)]) (by kernel_rfl) ?_
    refine GoQ.slots (S':=[(27,.int .i64 2),(6,.slice ad27 ((cat3 l1 l2 l3 2).length) c28),(2,.slice none 0 0),(25,zL bs 0 3 3),(26,.int .i64 3)]) (by rfl) ?_
    exact GoQ.back (2,ad27,c28) [2,6,25,26,27] (by kernel_rfl) (by show 3-2<3-1;omega) ⟨(by omega),hs29⟩
   ·have hs30:St w0 ((Sl ad c 5 1 byteC (l1++l2))::(Cel bs #[.slice a1 l1.length c1,.slice a2 l2.length c2,.slice a3 l3.length c3] 39)::L) w14:=hs16
    refine Zn [(28,.bool (decide (((2:Nat):Int)<3))),(2,.slice none 0 0),(6,.slice ad ((l1++l2).length) c),(25,zL bs 0 3 3),(26,.int .i64 3),(27,.int .i64 2)] ?_
    refine Zk (Zt (Zs (Zb (Zs ?_))))
    refine Zqt (.rd 0 (.rd 1 (.rd 2 .done))) ?_
    refine Zp 0 3 [(0,.as_ (zP bs 2) .at_),(1,.gen [.slice a3 l3.length c3])] [(0,[.prop (0≤(2:Int)∧(2:Int)<(3:Int)),.prop (Value.pointer (some (Addr.add ⟨bs,0,none⟩ (Int.toNat 2*1)))=Value.pointer (some ⟨bs,2,none⟩))]),(1,[.cell ⟨bs,2,none⟩ (.slice a3 l3.length c3)])] (ak (okp (by omega) (okp (ptrAdd _ _ _) ok0)) (ak (okc (hs30.cell 1 rfl (by kernel_rfl)) ok0) ak0)) ?_
    refine Zd (Zt ?_)
    refine Zqt (.rd 0 (.rd 1 (.ef 2 (.rd 3 .done)))) ?_
    refine Zr 0 2 [] ?_
    refine GoR.append rfl (by kernel_rfl) bytesOK byteF (ad:=ad) (c:=c) (xs:=l1++l2) (ys:=l3) (adx:=a3) (cx:=c3) (0:Int) (by kernel_rfl) hs30 (hr3 _ (hs30.drop 2)) hn3 (by first|omega|(simp only [lA,lN];omega)) (by first|omega|(simp only [lA,lN];omega)) ?_
    intro ad33 c34 w31 hs32
    refine⟨Zqo,?_⟩
    refine Zr 3 1 [] ?_
    refine Zd (Zm (Zt ?_))
    refine Zqt (.rd 0 (.rd 1 .done)) ?_
    refine Zr 0 2 [] ?_
    refine Zd ?_
    have hs35:St w0 ((Sl ad33 c34 5 1 byteC (cat3 l1 l2 l3 3))::(Cel bs #[.slice a1 l1.length c1,.slice a2 l2.length c2,.slice a3 l3.length c3] 39)::L) w31:=hs32
    refine GoQ.pick [27,6,2,25,26] (S':=[(27,.int .i64 3),(6,.slice ad33 (((l1++l2)++l3).length) c34),(2,.slice none 0 0),(25,zL bs 0 3 3),(26,.int .i64 3)]) (by kernel_rfl) ?_
    refine GoQ.slots (S':=[(27,.int .i64 3),(6,.slice ad33 ((cat3 l1 l2 l3 3).length) c34),(2,.slice none 0 0),(25,zL bs 0 3 3),(26,.int .i64 3)]) (by rfl) ?_
    exact GoQ.back (3,ad33,c34) [2,6,25,26,27] (by kernel_rfl) (by show 3-3<3-2;omega) ⟨(by omega),hs35⟩
  ·have h17':¬ (((k:Nat):Int)<3):=of_decide_eq_false h17
   have hkn:k=3:=by omega
   subst hkn
   have hs36:St w0 ((Sl ad c 5 1 byteC (l1++l2++l3))::(Cel bs #[.slice a1 l1.length c1,.slice a2 l2.length c2,.slice a3 l3.length c3] 39)::L) w14:=hs16
   refine Zn [(28,.bool (decide (((3:Nat):Int)<3))),(2,.slice none 0 0),(6,.slice ad ((l1++l2++l3).length) c),(25,zL bs 0 3 3),(26,.int .i64 3),(27,.int .i64 (3:Nat))] ?_
   refine Zx (GoQ.skipC (GoQ.skipL (GoQ.hit (Zt (Zs ?_)))))
   refine Zqt (.rd 0 (.rd 1 .done)) ?_
   refine Zr 0 2 [] ?_
   refine Zd (Zt (Ze ?_))
   refine Zq1 (v:=.slice ad ((l1++l2++l3).length) c) ?_
   have hs37:St w0 ((Cel bs #[.slice a1 l1.length c1,.slice a2 l2.length c2,.slice a3 l3.length c3] 39)::(Sl ad c 5 1 byteC (l1++l2++l3))::L) w14:=((hs36.pull 0 rfl).pull 1 rfl)
   exact⟨ad,c,rfl,hs37⟩
theorem mput_spec {w0 w:World}{L:List Asn}(m:TMs) (hm:MsOK m) (hr:∀ w,St w0 L w→RowsAt w m.bd.qa m.bd.ql.length 2 (fun k=>TPr.cells (m.bd.ql.getD k dPr))) (hs:St w0 (L) w):Calls Tryz.prog 22 #[.agg (TMs.cells m)] w (Ret fun rv w'=>∃ (ao:Option Addr) (co:Nat),rv=.slice ao ((putM m).length) co∧St w0 ((Sl ao co 5 1 byteC (putM m))::L) w'):=by
 refine Zen (args:=[.agg (TMs.cells m)]) Tryz.func22 Tryz.ntmps22 ?_
 refine Zn [(0,.agg (TMs.cells m))] ?_
 refine Zs ?_
 have g2:=hm.nr
 refine Zqt (.ef 0 (.rd 1 .done)) ?_
 refine GoR.box rfl rfl (by kernel_rfl) (v:=.agg (TMs.cells m)) (by kernel_rfl) hs (cs:=TMs.cells m) (by kernel_rfl) ?_
 intro b1 w2 hs3
 refine⟨Zqo,?_⟩
 refine Zr 1 1 [] ?_
 refine Zd (Zt (Zs (Zs ?_)))
 refine Zqt (.rd 0 (.ef 1 (.rd 2 .done))) ?_
 refine Zp 0 1 [(0,.agg (TMs.cells m))] [(0,[.prop (Array.size (TMs.cells m)=121),.cells ⟨b1,0,none⟩ (TMs.cells m)])] (ak (okp (by kernel_rfl) (oka (hs3.cells 0 0 rfl (by kernel_rfl)) ok0)) ak0) ?_
 refine Zqa (f:=25) (args:=#[.agg (TMs.cells m)]) Tryz.call25 (may_spec m hm (fun w h=>hr _ (h.drop 1)) hs3) ?_
 rintro v5 w6 ⟨rfl,hs4⟩
 refine⟨Zqo,?_⟩
 refine Zr 2 1 [] ?_
 refine Zd (Zt ?_)
 refine Zqc (t:=!(mayM m)) (fun h7=>?_) (fun h7=>?_)
 ·have h7n:(mayM m)=false:=notT h7
  refine Zs ?_
  refine Zqt (.rd 0 .done) ?_
  refine Zr 0 1 [] ?_
  refine Zd (Zt (Ze (Zy ?_)))
  refine Zq1 (v:=.slice none 0 0) ?_
  have hs8:St w0 ((Sl none 0 5 1 byteC ([]:List Int))::(Cel b1 (TMs.cells m) 58)::L) w6:=St.slNil hs4 5 1 byteC
  have hs9:St w0 ((Cel b1 (TMs.cells m) 58)::(Sl none 0 5 1 byteC ([]:List Int))::L) w6:=((hs8.pull 0 rfl).pull 1 rfl)
  have hs10:St w0 ((Sl none 0 5 1 byteC ([]:List Int))::L) w6:=hs9.drop 1
  exact⟨none,0,by rw [(show putM m=([]:List Int) from if_neg (by rw [h7n];decide))];rfl,by rw [(show putM m=([]:List Int) from if_neg (by rw [h7n];decide))];exact hs10⟩
 ·have h7n:(mayM m)=true:=notF h7
  have hb:mayM m=true:=h7n
  refine Zk (Zt (Zs ?_))
  refine GoC.regD [0,1,3,0,15,0,32,127,255,511] (.rd 0 (.rd 1 (.rd 3 (.rd 5 (.rd 6 (.ef 2 (.ef 4 (.ef 7 (.ef 8 (.rd 9 .done)))))))))) (by kernel_rfl) (by kernel_rfl) noPan_body (by kernel_rfl) hs4 ?_
  intro w11 hs12 hw13
  refine Zh [(0,.gen []),(1,.gen [.int .u64 m.nr]),(3,.agg (TMs.cells m)),(5,.gen []),(6,.as_ (zL b1 89 ((m.tg.toList).length) 32) (.sub 0 32))] [(1,[.cell ⟨b1,1,none⟩ (.int .u64 m.nr)]),(3,[.prop (Array.size (TMs.cells m)=121),.cells ⟨b1,0,none⟩ (TMs.cells m)]),(6,[.prop ((((none:Option Operand))=none→(0:Nat)=0)∧(((none:Option Operand))=none→(32:Nat)=32)∧(0:Nat)≤32∧(32:Nat)≤32),.prop (Value.slice (some (if 32=0 then Addr.mk b1 89 none else (Addr.mk b1 89 none).add (0*1))) (32-0) (32-0)=Value.slice (some ⟨b1,89,none⟩) ((m.tg.toList).length) 32)])] (ak (okc (hs12.cell 0 rfl (by kernel_rfl)) ok0) (ak (okp (by kernel_rfl) (oka (hs12.cells 0 0 rfl (by kernel_rfl)) ok0)) (ak (okp ⟨(by first|(intro _;rfl)|(intro hc;cases hc)),(by first|(intro _;rfl)|(intro hc;cases hc)),(by omega),(by omega)⟩ (okp (by rw [D32.len];exact subArr0 _ _ _ _ _ (by decide)) ok0)) ak0))) ?_
  have hs14:St w0 ((Sl none 0 5 1 byteC ([]:List Int))::(Cel b1 (TMs.cells m) 58)::L) w11:=St.slNil hs12 5 1 byteC
  refine Zqa (f:=18) (args:=#[.slice none 0 0,.int .u64 m.nr]) Tryz.call18 (word_spec ([]:List Int) m.nr (by first|omega|(simp only [lA,lC,lN,wd_length] at *;omega)) (by omega) hs14) ?_
  rintro v18 w19 ⟨ao15,co16,rfl,hs17⟩
  refine⟨(opl (n:=[.prop ((((none:Option Operand))=none→(0:Nat)=0)∧(((none:Option Operand))=none→(32:Nat)=32)∧(0:Nat)≤32∧(32:Nat)≤32),.prop (Value.slice (some (if 32=0 then Addr.mk b1 89 none else (Addr.mk b1 89 none).add (0*1))) (32-0) (32-0)=Value.slice (some ⟨b1,89,none⟩) ((m.tg.toList).length) 32),.prop (Array.size (TMs.cells m)=121),.cells ⟨b1,0,none⟩ (TMs.cells m)]) (by kernel_rfl) (okp ⟨(by first|(intro _;rfl)|(intro hc;cases hc)),(by first|(intro _;rfl)|(intro hc;cases hc)),(by omega),(by omega)⟩ (okp (by rw [D32.len];exact subArr0 _ _ _ _ _ (by decide)) (okp (by kernel_rfl) (oka (hs17.cells 1 0 rfl (by kernel_rfl)) ok0))))),?_⟩
  refine Zqa (f:=49) (args:=#[.agg (TMs.cells m)]) Tryz.call49 (tagged_spec m hm h7n (fun w h=>hr _ (h.drop 2)) hs17) ?_
  rintro v23 w24 ⟨ao20,co21,rfl,hs22⟩
  refine⟨(opl (n:=[.prop ((((none:Option Operand))=none→(0:Nat)=0)∧(((none:Option Operand))=none→(32:Nat)=32)∧(0:Nat)≤32∧(32:Nat)≤32),.prop (Value.slice (some (if 32=0 then Addr.mk b1 89 none else (Addr.mk b1 89 none).add (0*1))) (32-0) (32-0)=Value.slice (some ⟨b1,89,none⟩) ((m.tg.toList).length) 32)]) (by kernel_rfl) (okp ⟨(by first|(intro _;rfl)|(intro hc;cases hc)),(by first|(intro _;rfl)|(intro hc;cases hc)),(by omega),(by omega)⟩ (okp (by rw [D32.len];exact subArr0 _ _ _ _ _ (by decide)) ok0))),?_⟩
  refine GoR.sliceLit rfl (by kernel_rfl) (t:=106) (e:=39) (n:=3) (ps:=[(0,.slice ao15 ((([]:List Int)++wd m.nr).length) co16),(1,.slice ao20 ((tgB m).length) co21),(2,zL b1 89 ((m.tg.toList).length) 32)]) (by kernel_rfl) (by kernel_rfl) (ti:=Tryz.t39) (z:=.slice none 0 0) (by kernel_rfl) (by kernel_rfl) (by decide) (by decide) (cs:=#[.slice ao15 ((([]:List Int)++wd m.nr).length) co16,.slice ao20 ((tgB m).length) co21,zL b1 89 ((m.tg.toList).length) 32]) (by kernel_rfl) hs22 ?_
  intro b25 w26 hs27 hz28
  refine⟨Zqo,?_⟩
  refine Zqa (f:=48) (args:=#[zL b25 0 3 3]) Tryz.call48 (cat3_spec (([]:List Int)++wd m.nr) (tgB m) m.tg.toList rfl rfl rfl (by have:=tgB_length hb;first|omega|(simp only [lA,lN,wd_length,D32.len];omega)) (by have:=tgB_length hb;first|omega|(simp only [lA,lN,wd_length,D32.len];omega)) (by have:=tgB_length hb;first|omega|(simp only [lA,lN,wd_length,D32.len];omega)) (hs27.slNone 2 rfl) (hs27.slNone 1 rfl) (by intro h;cases h) (fun w h=>h.rows 1 rfl (byteF).size _) (fun w h=>h.rows 0 rfl (byteF).size _) (fun w h=>D32.mid h 2 89 m.tg rfl (by kernel_rfl)) hs27) ?_
  rintro v32 w33 ⟨ao29,co30,rfl,hs31⟩
  refine⟨Zqo,?_⟩
  refine Zr 9 1 [] ?_
  refine Zd (Zt (Ze ?_))
  refine Zq1 (v:=.slice ao29 (((([]:List Int)++wd m.nr)++(tgB m)++m.tg.toList).length) co30) ?_
  have hs34:St w0 ((Cel b25 #[.slice ao15 ((([]:List Int)++wd m.nr).length) co16,.slice ao20 ((tgB m).length) co21,zL b1 89 ((m.tg.toList).length) 32] 39)::(Sl ao20 co21 5 1 byteC (tgB m))::(Sl ao15 co16 5 1 byteC (([]:List Int)++wd m.nr))::(Cel b1 (TMs.cells m) 58)::(Sl ao29 co30 5 1 byteC ((([]:List Int)++wd m.nr)++(tgB m)++m.tg.toList))::L) w33:=(((((hs31.pull 1 rfl).pull 4 rfl).pull 4 rfl).pull 4 rfl).pull 4 rfl)
  have hs35:St w0 ((Sl ao29 co30 5 1 byteC ((([]:List Int)++wd m.nr)++(tgB m)++m.tg.toList))::L) w33:=hs34.drop 4
  exact⟨ao29,co30,by rw [(show putM m=(([]:List Int)++wd m.nr)++(tgB m)++m.tg.toList from if_pos h7n)],by rw [(show putM m=(([]:List Int)++wd m.nr)++(tgB m)++m.tg.toList from if_pos h7n)];exact hs35⟩
def stW (s:CS):Nat→CS
 | 0=>s
 | k+1=>(wordP (stW s k)).2
def valW (s:CS) (k:Nat):Int:=(wordP (stW s k)).1
def vecF (f:Nat→Int) (k:Nat):VecD:=Vector.ofFn fun i=>if i.val<k then f i.val else 0
def conM (m:TMs):TMs:=⟨m.og,m.nr,m.dp,con m.bd,m.tg⟩
def ofM (i n:Int) (b:List Int) (t:D32):TMs×Int :=
 let a:=byteP (b,false)
 let k:=byteP (stW a.2 11)
 if ¬ (1≤k.1∧k.1≤6) then (dMs,5) else if a.1≠i then (dMs,5) else
 let g:=getB k.1 k.2
 let m:TMs:=⟨a.1,n,vecF (valW a.2) 11,g.1,t⟩
 if g.2.2=true then (dMs,5) else if g.2.1.length>0 then (dMs,5) else if byB m=b then (m,0) else (dMs,5)
theorem vec_z (f:Nat→Int):vecF f 0=dVc:=by kernel_rfl
theorem vecF_all (f:Nat→Int) (x:Int) (h:∀ k,k<11→0≤f k∧f k≤18446744073709551615):∀ x∈(vecF f 11).toList,0≤x∧x≤18446744073709551615:=by
 intro x hx
 have e:(vecF f 11).toList=[f 0,f 1,f 2,f 3,f 4,f 5,f 6,f 7,f 8,f 9,f 10]:=by kernel_rfl
 rw [e] at hx
 simp only [List.mem_cons,List.not_mem_nil,or_false] at hx
 rcases hx with rfl|rfl|rfl|rfl|rfl|rfl|rfl|rfl|rfl|rfl|rfl
 all_goals exact h _ (by decide)
theorem msSet {og nr:Int}{bd:TBd}{tg:D32}(f:Nat→Int){k:Nat}(hk:k<11):splice (TMs.cells ⟨og,nr,vecF f k,bd,tg⟩) (2+k) [.int .u64 (f k)]=TMs.cells ⟨og,nr,vecF f (k+1),bd,tg⟩ :=
 match k,hk with
 | 0,_=>by kernel_rfl
 | 1,_=>by kernel_rfl
 | 2,_=>by kernel_rfl
 | 3,_=>by kernel_rfl
 | 4,_=>by kernel_rfl
 | 5,_=>by kernel_rfl
 | 6,_=>by kernel_rfl
 | 7,_=>by kernel_rfl
 | 8,_=>by kernel_rfl
 | 9,_=>by kernel_rfl
 | 10,_=>by kernel_rfl
 | n+11,h=>by omega
theorem byB_con (m:TMs):byB (conM m)=byB m:=rfl
theorem dMs_ok:MsOK dMs:=⟨by decide,by decide,by decide,⟨by decide,by decide,by decide,dRq_ok,(fun p hp=>by cases hp),dD32_ok,Nat.zero_le _⟩,dD32_ok⟩
theorem ofM_err {i n a k:Int}{b:List Int}{t:D32}{s1 s2:CS}(h1:byteP (b,false)=(a,s1)) (h2:byteP (stW s1 11)=(k,s2)) (h:¬ (1≤k∧k≤6)∨a≠i):ofM i n b t=(dMs,5):=by
 unfold ofM
 simp only [h1,h2]
 by_cases hk:1≤k∧k≤6
 ·rw [if_neg (fun h9=>h9 hk),if_pos (h.resolve_left fun h9=>h9 hk)]
 ·rw [if_pos hk]
theorem ofM_in {i n a k:Int}{b:List Int}{t:D32}{s1 s2 s3:CS}{g:TBd}(h1:byteP (b,false)=(a,s1)) (h2:byteP (stW s1 11)=(k,s2)) (hin:1≤k∧k≤6) (hi:a=i) (hg:getB k s2=(g,s3)) :
 ofM i n b t=if s3.2=true then (dMs,5) else if s3.1.length>0 then (dMs,5) else if byB ⟨a,n,vecF (valW s1) 11,g,t⟩=b then (⟨a,n,vecF (valW s1) 11,g,t⟩,0) else (dMs,5):=by
 unfold ofM
 simp only [h1,h2,hg]
 rw [if_neg (fun h9=>h9 hin),if_neg (fun h9=>h9 hi)]
theorem of_spec {w0 w:World}{L:List Asn}{ad:Option Addr}{cb:Nat}(i:Int) (n:Int) (b:List Int) (t:D32) (hpos:0<b.length) (hbl:b.length≤100000) (hbb:∀ z∈b,0≤z∧z<256) (hn:0≤n∧n≤18446744073709551615) (ht:∀ z∈t.toList,0≤z∧z<256) (hr:∀ w,St w0 L w→RowsAt w ad b.length 1 (fun k=>byteC (b.getD k (0:Int)))) (hs:St w0 (L) w):Calls Tryz.prog 71 #[.int .i64 i,.int .u64 n,.slice ad b.length cb,.agg (D32.cells t)] w (Ret fun rv w'=>∃ (mm2:TMs) (ee2:Int),rv=.tuple #[.agg (TMs.cells mm2),.int .i64 ee2]∧ofM i n b t=(conM mm2,ee2)∧MsOK mm2∧St w0 ((Sl mm2.bd.qa mm2.bd.qc 205 2 TPr.cells mm2.bd.ql)::L) w'):=by
 refine Zen (args:=[.int .i64 i,.int .u64 n,.slice ad b.length cb,.agg (D32.cells t)]) Tryz.func71 Tryz.ntmps71 ?_
 refine Zn [(0,.int .i64 i),(1,.int .u64 n),(2,.slice ad b.length cb),(3,.agg (D32.cells t))] ?_
 refine Zs ?_
 have hsome:Som ad cb:=by obtain⟨b,off,rfl⟩:=RowsAt.isSome (hr _ hs) hpos;exact .inl ⟨b,off,rfl⟩
 refine Zqt (.ef 0 (.ef 1 (.rd 2 .done))) ?_
 refine GoR.box rfl rfl (by kernel_rfl) (v:=.agg (D32.cells t)) (by kernel_rfl) hs (cs:=D32.cells t) (by kernel_rfl) ?_
 intro b1 w2 hs3
 refine⟨Zqo,?_⟩
 refine GoR.alloc rfl rfl (by kernel_rfl) (z:=.agg (TMs.cells dMs)) (by kernel_rfl) hs3 (cs:=TMs.cells dMs) (by kernel_rfl) ?_
 intro b4 w5 hs6
 refine⟨Zqo,?_⟩
 refine Zr 2 1 [] ?_
 refine Zd (Zt (Zs ?_))
 refine Zqt (.rd 0 (.ef 1 (.rd 2 .done))) ?_
 refine Zr 0 1 [] ?_
 refine Zqa (f:=29) (args:=#[.slice ad b.length cb]) Tryz.call29 (cutNew_spec b (by omega) (by first|assumption|omega) (fun w h=>hr _ (h.drop 2)) hs6) ?_
 rintro v11 w12 ⟨cc7,ao8,co9,rfl,hs10⟩
 have hq13:CutOK (Sl ao8 co9 5 1 byteC b) ao8 b co9:=CutOK.new hs10 (j:=1) rfl hbb (by omega)
 refine⟨Zqo,?_⟩
 refine Zr 2 1 [] ?_
 refine Zd (Zt (Zs ?_))
 refine GoC.join (T:=Nat×Int×Option Addr×List Int×Nat×Bool) (E:=fun jx=>[(0,.int .i64 i),(2,.slice ad b.length cb),(8,zP b4 0),(9,.int .i64 0),(10,zP cc7 0),(11,zP jx.1 0)]) (F:=fun jx w=>(byteP (b,false)=(jx.2.1,(jx.2.2.2.1,jx.2.2.2.2.2)))∧((0≤jx.2.1∧jx.2.1<256))∧(CutOK (Sl ao8 co9 5 1 byteC b) jx.2.2.1 jx.2.2.2.1 jx.2.2.2.2.1)∧St w0 ((Cel jx.1 (TMs.cells (⟨jx.2.1,n,dVc,dBd,t⟩:TMs)) 58)::(Cel cc7 #[.slice jx.2.2.1 jx.2.2.2.1.length jx.2.2.2.2.1,.bool jx.2.2.2.2.2] 124)::(Sl ao8 co9 5 1 byteC b)::(Cel b4 (TMs.cells dMs) 58)::(Cel b1 (D32.cells t) 25)::L) w) ?_ ?_
 ·refine GoC.regD [0,1,3,0,0,31,0,127] (.rd 0 (.rd 3 (.rd 4 (.alt (.ef 1 (.rd 2 (.rd 5 (.ef 6 (.ef 7 .done))))) (.ef 6 (.ef 1 (.rd 2 (.rd 5 (.ef 7 .done))))))))) (by kernel_rfl) (by kernel_rfl) noPan_body (by kernel_rfl) hs10 ?_
  intro w14 hs15 hw16
  refine Zh [(0,.gen []),(3,.gen []),(4,.agg (D32.cells t))] [(4,[.prop (Array.size (D32.cells t)=32),.cells ⟨b1,0,none⟩ (D32.cells t)])] (ak (okp (by kernel_rfl) (oka (hs15.cells 3 0 rfl (by kernel_rfl)) ok0)) ak0) ?_
  refine GoR.alt ?_ ?_
  ·refine Zqa (f:=30) (args:=#[zP cc7 0]) Tryz.call30 (cutByte_spec (Sl ao8 co9 5 1 byteC b) b false (fun w h=>h.at_ 0 rfl) hq13 hs15) ?_
   rintro v26 w27 ⟨vv17,rr18,sp19,az20,cz21,rfl,he22,hby23,hq224,hs25⟩
   refine⟨(opl (n:=[.prop (Array.size (D32.cells t)=32),.cells ⟨b1,0,none⟩ (D32.cells t)]) (by kernel_rfl) (okp (by kernel_rfl) (oka (hs25.cells 3 0 rfl (by kernel_rfl)) ok0))),?_⟩
   refine Zh [(2,.as_ (.int .i64 vv17) (.gen [])),(5,.gen [])] [(2,[.prop (Value.int .i64 (IntKind.i64.wrap vv17)=Value.int .i64 vv17)])] (ak (okp (i64ok (by omega) (by omega)) ok0) ak0) ?_
   refine GoR.alloc rfl rfl (by kernel_rfl) (z:=.agg (TMs.cells dMs)) (by kernel_rfl) hs25 (cs:=TMs.cells dMs) (by kernel_rfl) ?_
   intro b28 w29 hs30
   refine⟨(opl (n:=[.prop (Value.int .i64 (IntKind.i64.wrap vv17)=Value.int .i64 vv17),.prop (Array.size (D32.cells t)=32),.cells ⟨b1,0,none⟩ (D32.cells t)]) (by kernel_rfl) (okp (i64ok (by omega) (by omega)) (okp (by kernel_rfl) (oka (hs30.cells 4 0 rfl (by kernel_rfl)) ok0)))),?_⟩
   refine Zw (b:=b28) (off:=0) (v:=.agg (TMs.cells (⟨vv17,n,dVc,dBd,t⟩:TMs))) (ti:=Tryz.t58) (by kernel_rfl) hs30 0 (L':=(Cel b28 (TMs.cells (⟨vv17,n,dVc,dBd,t⟩:TMs)) 58)::(Cel cc7 #[.slice az20 rr18.length cz21,.bool sp19] 124)::(Sl ao8 co9 5 1 byteC b)::(Cel b4 (TMs.cells dMs) 58)::(Cel b1 (D32.cells t) 25)::L) ?_
   intro w31 hs32
   refine⟨Zqo,?_⟩
   refine Zd ?_
   refine GoQ.pick [0,2,8,9,10,11] (S':=[(0,.int .i64 i),(2,.slice ad b.length cb),(8,zP b4 0),(9,.int .i64 0),(10,zP cc7 0),(11,zP b28 0)]) (by kernel_rfl) ?_
   exact GoQ.meet1 (b28,vv17,az20,rr18,cz21,sp19) rfl ⟨he22,hby23,hq224,hs32⟩
  refine GoR.alloc rfl rfl (by kernel_rfl) (z:=.agg (TMs.cells dMs)) (by kernel_rfl) hs15 (cs:=TMs.cells dMs) (by kernel_rfl) ?_
  intro b33 w34 hs35
  refine⟨(opl (n:=[.prop (Array.size (D32.cells t)=32),.cells ⟨b1,0,none⟩ (D32.cells t)]) (by kernel_rfl) (okp (by kernel_rfl) (oka (hs35.cells 4 0 rfl (by kernel_rfl)) ok0))),?_⟩
  have hs36:St w0 ((Cel cc7 #[.slice ao8 b.length co9,.bool false] 124)::(Cel b33 (TMs.cells dMs) 58)::(Sl ao8 co9 5 1 byteC b)::(Cel b4 (TMs.cells dMs) 58)::(Cel b1 (D32.cells t) 25)::L) w34:=(hs35.pull 1 rfl)
  refine Zqa (f:=30) (args:=#[zP cc7 0]) Tryz.call30 (cutByte_spec (Sl ao8 co9 5 1 byteC b) b false (fun w h=>h.at_ 1 rfl) hq13 hs36) ?_
  rintro v46 w47 ⟨vv37,rr38,sp39,az40,cz41,rfl,he42,hby43,hq244,hs45⟩
  refine⟨(opl (n:=[.prop (Array.size (D32.cells t)=32),.cells ⟨b1,0,none⟩ (D32.cells t)]) (by kernel_rfl) (okp (by kernel_rfl) (oka (hs45.cells 4 0 rfl (by kernel_rfl)) ok0))),?_⟩
  refine Zh [(2,.as_ (.int .i64 vv37) (.gen [])),(5,.gen [])] [(2,[.prop (Value.int .i64 (IntKind.i64.wrap vv37)=Value.int .i64 vv37)])] (ak (okp (i64ok (by omega) (by omega)) ok0) ak0) ?_
  refine Zw (b:=b33) (off:=0) (v:=.agg (TMs.cells (⟨vv37,n,dVc,dBd,t⟩:TMs))) (ti:=Tryz.t58) (by kernel_rfl) hs45 1 (L':=(Cel cc7 #[.slice az40 rr38.length cz41,.bool sp39] 124)::(Cel b33 (TMs.cells (⟨vv37,n,dVc,dBd,t⟩:TMs)) 58)::(Sl ao8 co9 5 1 byteC b)::(Cel b4 (TMs.cells dMs) 58)::(Cel b1 (D32.cells t) 25)::L) ?_
  intro w48 hs49
  refine⟨Zqo,?_⟩
  refine Zd ?_
  have hs50:St w0 ((Cel b33 (TMs.cells (⟨vv37,n,dVc,dBd,t⟩:TMs)) 58)::(Cel cc7 #[.slice az40 rr38.length cz41,.bool sp39] 124)::(Sl ao8 co9 5 1 byteC b)::(Cel b4 (TMs.cells dMs) 58)::(Cel b1 (D32.cells t) 25)::L) w48:=(((((hs49.pull 4 rfl).pull 4 rfl).pull 4 rfl).pull 3 rfl).pull 4 rfl)
  refine GoQ.pick [0,2,8,9,10,11] (S':=[(0,.int .i64 i),(2,.slice ad b.length cb),(8,zP b4 0),(9,.int .i64 0),(10,zP cc7 0),(11,zP b33 0)]) (by kernel_rfl) ?_
  exact GoQ.meet1 (b33,vv37,az40,rr38,cz41,sp39) rfl ⟨he42,hby43,hq244,hs50⟩
 rintro⟨b51,vv52,az53,rr54,cz55,sp56⟩ w57 ⟨he60,hby61,hq62,hs58⟩
 have he60:byteP (b,false)=(vv52,(rr54,sp56)):=he60
 have hby61:(0≤vv52∧vv52<256):=hby61
 have hq62:CutOK (Sl ao8 co9 5 1 byteC b) az53 rr54 cz55:=hq62
 have hs59:St w0 ((Cel b51 (TMs.cells (⟨vv52,n,dVc,dBd,t⟩:TMs)) 58)::(Cel cc7 #[.slice az53 rr54.length cz55,.bool sp56] 124)::(Sl ao8 co9 5 1 byteC b)::(Cel b4 (TMs.cells dMs) 58)::(Cel b1 (D32.cells t) 25)::L) w57:=hs58
 refine GoQ.slots (S':=[(0,.int .i64 i),(2,.slice ad b.length cb),(8,zP b4 0),(9,.int .i64 0),(10,zP cc7 0),(11,zP b51 0)]) rfl ?_
 refine Zt (Zs (Zs ?_))
 refine Zqt (.rd 0 .done) ?_
 refine Zr 0 1 [] ?_
 refine Zd (Zt (Zb ?_))
 have hs63:St w0 ((Cel cc7 #[.slice az53 rr54.length cz55,.bool sp56] 124)::(Cel b51 (TMs.cells (⟨vv52,n,dVc,dBd,t⟩:TMs)) 58)::(Sl ao8 co9 5 1 byteC b)::(Cel b4 (TMs.cells dMs) 58)::(Cel b1 (D32.cells t) 25)::L) w57:=((hs59.pull 0 rfl).pull 1 rfl)
 have hs64:St w0 ((Cel cc7 #[.slice az53 rr54.length cz55,.bool sp56] 124)::(Cel b51 (TMs.cells (⟨vv52,n,(vecF (valW (rr54,sp56)) 0),dBd,t⟩:TMs)) 58)::(Sl ao8 co9 5 1 byteC b)::(Cel b4 (TMs.cells dMs) 58)::(Cel b1 (D32.cells t) 25)::L) w57:=(by rw [vec_z];exact hs63)
 refine GoC.loop (T:=Nat×(List Int)×Bool×(Option Addr)×Nat) (fun gg=>[(0,.int .i64 i),(2,.slice ad b.length cb),(8,zP b4 0),(9,.int .i64 0),(10,zP cc7 0),(11,zP b51 0),(23,.int .i64 (gg.1:Nat))]) (fun gg w=>(gg.1≤11∧(gg.2.1,gg.2.2.1)=stW (rr54,sp56) gg.1∧CutOK (Sl ao8 co9 5 1 byteC b) gg.2.2.2.1 gg.2.1 gg.2.2.2.2)∧St w0 ((Cel cc7 #[.slice gg.2.2.2.1 gg.2.1.length gg.2.2.2.2,.bool gg.2.2.1] 124)::(Cel b51 (TMs.cells (⟨vv52,n,(vecF (valW (rr54,sp56)) gg.1),dBd,t⟩:TMs)) 58)::(Sl ao8 co9 5 1 byteC b)::(Cel b4 (TMs.cells dMs) 58)::(Cel b1 (D32.cells t) 25)::L) w) (fun gg=>11-gg.1) (0,rr54,sp56,az53,cz55) [0,2,8,9,10,11,23] (by kernel_rfl) ⟨⟨Nat.zero_le _,rfl,hq62⟩,hs64⟩ ?_
 rintro⟨kk,rr1,sp1,az1,cz1⟩ w65 ⟨hp0,hs66⟩
 have hp:kk≤11∧(rr1,sp1)=stW (rr54,sp56) kk∧CutOK (Sl ao8 co9 5 1 byteC b) az1 rr1 cz1:=hp0
 have hs67:St w0 ((Cel cc7 #[.slice az1 rr1.length cz1,.bool sp1] 124)::(Cel b51 (TMs.cells (⟨vv52,n,(vecF (valW (rr54,sp56)) kk),dBd,t⟩:TMs)) 58)::(Sl ao8 co9 5 1 byteC b)::(Cel b4 (TMs.cells dMs) 58)::(Cel b1 (D32.cells t) 25)::L) w65:=hs66
 refine Zn [(0,.int .i64 i),(2,.slice ad b.length cb),(8,zP b4 0),(9,.int .i64 0),(10,zP cc7 0),(11,zP b51 0),(23,.int .i64 (kk:Nat))] ?_
 refine Zs ?_
 refine Zqt (.rd 0 .done) ?_
 refine Zr 0 1 [] ?_
 refine Zd (Zt (Zs ?_))
 refine Zqc (t:=decide (((kk:Nat):Int)<11)) (fun h68=>?_) (fun h68=>?_)
 ·have h68':((kk:Nat):Int)<11:=of_decide_eq_true h68
  have hk:kk<11:=by omega
  refine Zk (Zt (Zs (Zb (Zs ?_))))
  refine Zqt (.rd 0 (.rd 1 .done)) ?_
  refine Zr 0 2 [] ?_
  refine Zd (Zt ?_)
  refine Zqt (.rd 0 (.rd 1 (.ef 2 (.rd 3 (.rd 4 (.ef 5 .done)))))) ?_
  refine Zr 0 2 [] ?_
  refine Zqa (f:=31) (args:=#[zP cc7 0]) Tryz.call31 (cutWord_spec (Sl ao8 co9 5 1 byteC b) rr1 sp1 (fun w h=>h.at_ 1 rfl) hp.2.2 hs67) ?_
  rintro v78 w79 ⟨vv69,rr70,sp71,az72,cz73,rfl,he74,hwr75,hq276,hs77⟩
  refine⟨Zqo,?_⟩
  refine Zp 3 2 [(4,.as_ (zP b51 (2+(kk*1))) .at_)] [(4,[.prop (0≤((kk:Nat):Int)∧((kk:Nat):Int)<(11:Int)),.prop (Value.pointer (some (Addr.add ⟨b51,2,none⟩ (Int.toNat (kk:Nat)*1)))=Value.pointer (some ⟨b51,2+(kk*1),none⟩))])] (ak (okp (by omega) (okp (ptrAdd _ _ _) ok0)) ak0) ?_
  have hvk:valW (rr54,sp56) kk=vv69:=by show(wordP (stW _ kk)).1=_;rw [← hp.2.1,he74]
  refine GoR.store rfl rfl (by kernel_rfl) (b:=b51) (off:=2+(kk*1)) (v:=.int .u64 vv69) (by kernel_rfl) (by kernel_rfl) (ti:=Tryz.t22) (by kernel_rfl) hs77 1 rfl (by kernel_rfl) (by kernel_rfl) (by show 2+(kk*1)+1≤121;omega) (cs':=TMs.cells (⟨vv52,n,(vecF (valW (rr54,sp56)) (kk+1)),dBd,t⟩:TMs)) (L':=(Cel cc7 #[.slice az72 rr70.length cz73,.bool sp71] 124)::(Cel b51 (TMs.cells (⟨vv52,n,(vecF (valW (rr54,sp56)) (kk+1)),dBd,t⟩:TMs)) 58)::(Sl ao8 co9 5 1 byteC b)::(Cel b4 (TMs.cells dMs) 58)::(Cel b1 (D32.cells t) 25)::L) (by rw [Nat.mul_one,← hvk];exact msSet _ hk) rfl ?_
  intro w80 hs81
  refine⟨Zqo,?_⟩
  refine Zd (Zm (Zt ?_))
  refine Zqt (.rd 0 (.rd 1 .done)) ?_
  refine Zp 0 2 [(0,.as_ (.int .i64 ((kk:Nat)+1)) (.gen []))] [(0,[.prop (Value.int .i64 (IntKind.i64.wrap ((kk:Nat)+1))=Value.int .i64 ((kk:Nat)+1))])] (ak (okp (i64ok (by omega) (by omega)) ok0) ak0) ?_
  refine Zd ?_
  exact GoQ.back (kk+1,rr70,sp71,az72,cz73) [0,2,8,9,10,11,23] (by kernel_rfl) (by show 11-(kk+1)<11-kk;omega) ⟨⟨by omega,by show _=(wordP (stW _ kk)).2;rw [← hp.2.1,he74],hq276⟩,hs81⟩
 ·have h68':¬ (((kk:Nat):Int)<11):=of_decide_eq_false h68
  have hke:kk=11:=by omega
  subst hke
  refine Zx (GoQ.skipC (GoQ.skipL (GoQ.hit (Zt (Zs ?_)))))
  refine Zqt (.rd 0 (.ef 1 (.rd 2 (.rd 3 (.ef 4 .done))))) ?_
  refine Zr 0 1 [] ?_
  refine Zqa (f:=30) (args:=#[zP cc7 0]) Tryz.call30 (cutByte_spec (Sl ao8 co9 5 1 byteC b) rr1 sp1 (fun w h=>h.at_ 1 rfl) hp.2.2 hs67) ?_
  rintro v91 w92 ⟨vv82,rr83,sp84,az85,cz86,rfl,he87,hby88,hq289,hs90⟩
  refine⟨Zqo,?_⟩
  refine Zr 2 2 [] ?_
  refine Zw (b:=b51) (off:=13) (v:=.int .u8 vv82) (ti:=Tryz.t5) (by kernel_rfl) hs90 1 (L':=(Cel cc7 #[.slice az85 rr83.length cz86,.bool sp84] 124)::(Cel b51 (TMs.cells (⟨vv52,n,(vecF (valW (rr54,sp56)) 11),(⟨vv82,0,0,dRq,none,0,[],dD32⟩:TBd),t⟩:TMs)) 58)::(Sl ao8 co9 5 1 byteC b)::(Cel b4 (TMs.cells dMs) 58)::(Cel b1 (D32.cells t) 25)::L) ?_
  intro w93 hs94
  refine⟨Zqo,?_⟩
  refine Zd (Zt (Zs ?_))
  rcases Classical.em (1≤vv82∧vv82≤6) with hin|hno
  ·obtain⟨fp,fg,fm,hc,C⟩:=codec_of hin
   refine GoC.join (T:=Nat×Nat) (E:=fun jx=>[(0,.int .i64 i),(2,.slice ad b.length cb),(8,zP b4 0),(9,.int .i64 0),(10,zP cc7 0),(11,zP b51 0),(13,zP jx.1 0),(14,.bool true)]) (F:=fun jx w=>St w0 ((Cel jx.1 (CoV.cells (⟨(.func (.func fp) #[] #[]),(.func (.func fg) #[] #[]),(.func (.func fm) #[] #[])⟩:CoV)) 149)::(MapA ekU evC jx.2 cdL)::(Cel cc7 #[.slice az85 rr83.length cz86,.bool sp84] 124)::(Cel b51 (TMs.cells (⟨vv52,n,(vecF (valW (rr54,sp56)) 11),(⟨vv82,0,0,dRq,none,0,[],dD32⟩:TBd),t⟩:TMs)) 58)::(Sl ao8 co9 5 1 byteC b)::(Cel b4 (TMs.cells dMs) 58)::(Cel b1 (D32.cells t) 25)::L) w) ?_ ?_
   ·refine GoC.regD [0,0,2,6,15,31,63,63,0,383,1023] (.rd 1 (.rd 2 (.rd 3 (.alt (.ef 0 (.rd 4 (.rd 5 (.rd 6 (.rd 7 (.ef 8 (.ef 9 (.rd 10 .done)))))))) (.ef 8 (.ef 0 (.rd 4 (.rd 5 (.rd 6 (.rd 7 (.ef 9 (.rd 10 .done)))))))))))) (by kernel_rfl) (by kernel_rfl) noPan_body (by kernel_rfl) hs94 ?_
    intro w95 hs96 hw97
    refine Zp 1 3 [(3,.gen [.int .u8 vv82])] [(3,[.cell ⟨b51,13,none⟩ (.int .u8 vv82)])] (ak (okc (hs96.cell 1 rfl (by kernel_rfl)) ok0) ak0) ?_
    refine GoR.alt ?_ ?_
    ·refine Zqa (f:=68) (args:=#[]) Tryz.call68 (codecs_spec hs96) ?_
     rintro v100 w101 ⟨r98,rfl,hs99⟩
     refine⟨(opl (n:=[.cell ⟨b51,13,none⟩ (.int .u8 vv82)]) (by kernel_rfl) (okc (hs99.cell 2 rfl (by kernel_rfl)) ok0)),?_⟩
     refine GoR.lookup rfl (by kernel_rfl) cdLaw (r:=r98) (k:=vv82) (ok:=true) (by kernel_rfl) hs99 0 rfl (z:=evC cvZ) (by kernel_rfl) (v:=.tuple #[.agg #[.func (.func fp) #[] #[],.func (.func fg) #[] #[],.func (.func fm) #[] #[]],.bool true]) (by rw [hc];rfl) ?_
     refine Zr 5 3 [] ?_
     refine GoR.alloc rfl rfl (by kernel_rfl) (z:=.agg (CoV.cells cvZ)) (by kernel_rfl) hs99 (cs:=CoV.cells cvZ) (by kernel_rfl) ?_
     intro b102 w103 hs104
     refine⟨(opl (n:=[.holds (MapA ekU evC r98 cdL).holds,.cell ⟨b51,13,none⟩ (.int .u8 vv82)]) (by kernel_rfl) (okh (hs104.at_ 1 rfl) (okc (hs104.cell 3 rfl (by kernel_rfl)) ok0))),?_⟩
     refine Zw (b:=b102) (off:=0) (v:=.agg #[.func (.func fp) #[] #[],.func (.func fg) #[] #[],.func (.func fm) #[] #[]]) (ti:=Tryz.t149) (by kernel_rfl) hs104 0 (L':=(Cel b102 (CoV.cells (⟨(.func (.func fp) #[] #[]),(.func (.func fg) #[] #[]),(.func (.func fm) #[] #[])⟩:CoV)) 149)::(MapA ekU evC r98 cdL)::(Cel cc7 #[.slice az85 rr83.length cz86,.bool sp84] 124)::(Cel b51 (TMs.cells (⟨vv52,n,(vecF (valW (rr54,sp56)) 11),(⟨vv82,0,0,dRq,none,0,[],dD32⟩:TBd),t⟩:TMs)) 58)::(Sl ao8 co9 5 1 byteC b)::(Cel b4 (TMs.cells dMs) 58)::(Cel b1 (D32.cells t) 25)::L) ?_
     intro w105 hs106
     refine⟨Zqo,?_⟩
     refine Zr 10 1 [] ?_
     refine Zd ?_
     refine GoQ.pick [0,2,8,9,10,11,13,14] (S':=[(0,.int .i64 i),(2,.slice ad b.length cb),(8,zP b4 0),(9,.int .i64 0),(10,zP cc7 0),(11,zP b51 0),(13,zP b102 0),(14,.bool true)]) (by kernel_rfl) ?_
     exact GoQ.meet1 (b102,r98) rfl hs106
    refine GoR.alloc rfl rfl (by kernel_rfl) (z:=.agg (CoV.cells cvZ)) (by kernel_rfl) hs96 (cs:=CoV.cells cvZ) (by kernel_rfl) ?_
    intro b107 w108 hs109
    refine⟨(opl (n:=[.cell ⟨b51,13,none⟩ (.int .u8 vv82)]) (by kernel_rfl) (okc (hs109.cell 2 rfl (by kernel_rfl)) ok0)),?_⟩
    refine Zqa (f:=68) (args:=#[]) Tryz.call68 (codecs_spec hs109) ?_
    rintro v112 w113 ⟨r110,rfl,hs111⟩
    refine⟨(opl (n:=[.cell ⟨b51,13,none⟩ (.int .u8 vv82)]) (by kernel_rfl) (okc (hs111.cell 3 rfl (by kernel_rfl)) ok0)),?_⟩
    refine GoR.lookup rfl (by kernel_rfl) cdLaw (r:=r110) (k:=vv82) (ok:=true) (by kernel_rfl) hs111 0 rfl (z:=evC cvZ) (by kernel_rfl) (v:=.tuple #[.agg #[.func (.func fp) #[] #[],.func (.func fg) #[] #[],.func (.func fm) #[] #[]],.bool true]) (by rw [hc];rfl) ?_
    refine Zr 5 3 [] ?_
    refine Zw (b:=b107) (off:=0) (v:=.agg #[.func (.func fp) #[] #[],.func (.func fg) #[] #[],.func (.func fm) #[] #[]]) (ti:=Tryz.t149) (by kernel_rfl) hs111 1 (L':=(MapA ekU evC r110 cdL)::(Cel b107 (CoV.cells (⟨(.func (.func fp) #[] #[]),(.func (.func fg) #[] #[]),(.func (.func fm) #[] #[])⟩:CoV)) 149)::(Cel cc7 #[.slice az85 rr83.length cz86,.bool sp84] 124)::(Cel b51 (TMs.cells (⟨vv52,n,(vecF (valW (rr54,sp56)) 11),(⟨vv82,0,0,dRq,none,0,[],dD32⟩:TBd),t⟩:TMs)) 58)::(Sl ao8 co9 5 1 byteC b)::(Cel b4 (TMs.cells dMs) 58)::(Cel b1 (D32.cells t) 25)::L) ?_
    intro w114 hs115
    refine⟨Zqo,?_⟩
    refine Zr 10 1 [] ?_
    refine Zd ?_
    have hs116:St w0 ((Cel b107 (CoV.cells (⟨(.func (.func fp) #[] #[]),(.func (.func fg) #[] #[]),(.func (.func fm) #[] #[])⟩:CoV)) 149)::(MapA ekU evC r110 cdL)::(Cel cc7 #[.slice az85 rr83.length cz86,.bool sp84] 124)::(Cel b51 (TMs.cells (⟨vv52,n,(vecF (valW (rr54,sp56)) 11),(⟨vv82,0,0,dRq,none,0,[],dD32⟩:TBd),t⟩:TMs)) 58)::(Sl ao8 co9 5 1 byteC b)::(Cel b4 (TMs.cells dMs) 58)::(Cel b1 (D32.cells t) 25)::L) w114:=(((((((hs115.pull 6 rfl).pull 6 rfl).pull 6 rfl).pull 6 rfl).pull 6 rfl).pull 5 rfl).pull 6 rfl)
    refine GoQ.pick [0,2,8,9,10,11,13,14] (S':=[(0,.int .i64 i),(2,.slice ad b.length cb),(8,zP b4 0),(9,.int .i64 0),(10,zP cc7 0),(11,zP b51 0),(13,zP b107 0),(14,.bool true)]) (by kernel_rfl) ?_
    exact GoQ.meet1 (b107,r110) rfl hs116
   rintro⟨b117,r118⟩ w119 hs120
   have hs121:St w0 ((Cel b117 (CoV.cells (⟨(.func (.func fp) #[] #[]),(.func (.func fg) #[] #[]),(.func (.func fm) #[] #[])⟩:CoV)) 149)::(MapA ekU evC r118 cdL)::(Cel cc7 #[.slice az85 rr83.length cz86,.bool sp84] 124)::(Cel b51 (TMs.cells (⟨vv52,n,(vecF (valW (rr54,sp56)) 11),(⟨vv82,0,0,dRq,none,0,[],dD32⟩:TBd),t⟩:TMs)) 58)::(Sl ao8 co9 5 1 byteC b)::(Cel b4 (TMs.cells dMs) 58)::(Cel b1 (D32.cells t) 25)::L) w119:=hs120
   refine GoQ.slots (S':=[(0,.int .i64 i),(2,.slice ad b.length cb),(8,zP b4 0),(9,.int .i64 0),(10,zP cc7 0),(11,zP b51 0),(13,zP b117 0),(14,.bool true)]) rfl ?_
   refine Zt (Zs (Zs ?_))
   refine Zqt (.rd 0 (.rd 1 (.rd 2 (.rd 3 (.rd 4 (.rd 5 (.rd 6 (.rd 7 .done)))))))) ?_
   refine Zp 0 8 [(4,.gen [.int .i64 vv52])] [(4,[.cell ⟨b51,0,none⟩ (.int .i64 vv52)])] (ak (okc (hs121.cell 3 rfl (by kernel_rfl)) ok0) ak0) ?_
   refine Zd (Zt ?_)
   refine Zqc (t:=(vv52:Int) != i) (fun h122=>?_) (fun h122=>?_)
   ·have h122':¬ ((vv52:Int)=i):=ineT h122
    refine Zs ?_
    refine Zqt (.rd 0 (.ef 1 (.rd 2 .done))) ?_
    refine Zr 0 1 [] ?_
    refine Zw (b:=b4) (off:=0) (v:=.agg (TMs.cells dMs)) (ti:=Tryz.t58) (by kernel_rfl) hs121 5 (L':=(Cel b117 (CoV.cells (⟨(.func (.func fp) #[] #[]),(.func (.func fg) #[] #[]),(.func (.func fm) #[] #[])⟩:CoV)) 149)::(MapA ekU evC r118 cdL)::(Cel cc7 #[.slice az85 rr83.length cz86,.bool sp84] 124)::(Cel b51 (TMs.cells (⟨vv52,n,(vecF (valW (rr54,sp56)) 11),(⟨vv82,0,0,dRq,none,0,[],dD32⟩:TBd),t⟩:TMs)) 58)::(Sl ao8 co9 5 1 byteC b)::(Cel b4 (TMs.cells dMs) 58)::(Cel b1 (D32.cells t) 25)::L) ?_
    intro w123 hs124
    refine⟨Zqo,?_⟩
    refine Zr 2 1 [] ?_
    refine Zd (Zt (Ze (Zy ?_)))
    refine GoQ.done (.inl rfl) (v:=.tuple #[.agg (TMs.cells dMs),.int .i64 5]) (fun a hf=>resultsAV rfl (by kernel_rfl) (by kernel_rfl) (ti:=Tryz.t58) (by kernel_rfl) (by kernel_rfl) (vs:=(TMs.cells dMs)) (by kernel_rfl) (hs124.cells 5 0 rfl (by kernel_rfl)) a hf) ?_
    have hs125:St w0 ((Sl none 0 205 2 TPr.cells ([]:List TPr))::(Cel b117 (CoV.cells (⟨(.func (.func fp) #[] #[]),(.func (.func fg) #[] #[]),(.func (.func fm) #[] #[])⟩:CoV)) 149)::(MapA ekU evC r118 cdL)::(Cel cc7 #[.slice az85 rr83.length cz86,.bool sp84] 124)::(Cel b51 (TMs.cells (⟨vv52,n,(vecF (valW (rr54,sp56)) 11),(⟨vv82,0,0,dRq,none,0,[],dD32⟩:TBd),t⟩:TMs)) 58)::(Sl ao8 co9 5 1 byteC b)::(Cel b4 (TMs.cells dMs) 58)::(Cel b1 (D32.cells t) 25)::L) w123:=St.slNil hs124 205 2 TPr.cells
    have hs126:St w0 ((Cel b117 (CoV.cells (⟨(.func (.func fp) #[] #[]),(.func (.func fg) #[] #[]),(.func (.func fm) #[] #[])⟩:CoV)) 149)::(MapA ekU evC r118 cdL)::(Cel cc7 #[.slice az85 rr83.length cz86,.bool sp84] 124)::(Cel b51 (TMs.cells (⟨vv52,n,(vecF (valW (rr54,sp56)) 11),(⟨vv82,0,0,dRq,none,0,[],dD32⟩:TBd),t⟩:TMs)) 58)::(Sl ao8 co9 5 1 byteC b)::(Cel b4 (TMs.cells dMs) 58)::(Cel b1 (D32.cells t) 25)::(Sl none 0 205 2 TPr.cells ([]:List TPr))::L) w123:=((((((((hs125.pull 0 rfl).pull 7 rfl).pull 7 rfl).pull 7 rfl).pull 7 rfl).pull 7 rfl).pull 7 rfl).pull 7 rfl)
    have hs127:St w0 ((Sl none 0 205 2 TPr.cells ([]:List TPr))::L) w123:=hs126.drop 7
    exact⟨dMs,5,rfl,(ofM_err he60 ((congrArg byteP hp.2.1.symm).trans he87) (.inr h122')),dMs_ok,hs127⟩
   ·have h122':(vv52:Int)=i:=ineF h122
    refine Zk (Zt (Zs ?_))
    refine Zqt (.rd 0 (.rd 1 (.rd 2 (.rd 3 (.ef 4 .done))))) ?_
    refine Zp 0 4 [(1,.gen [.func (.func fg) #[] #[]])] [(1,[.cell ⟨b117,1,none⟩ (.func (.func fg) #[] #[])])] (ak (okc (hs121.cell 0 rfl (by kernel_rfl)) ok0) ak0) ?_
    have hs128:St w0 ((Cel cc7 #[.slice az85 rr83.length cz86,.bool sp84] 124)::(Cel b51 (TMs.cells (⟨vv52,n,(vecF (valW (rr54,sp56)) 11),(⟨vv82,0,0,dRq,none,0,[],dD32⟩:TBd),t⟩:TMs)) 58)::(Cel b117 (CoV.cells (⟨(.func (.func fp) #[] #[]),(.func (.func fg) #[] #[]),(.func (.func fm) #[] #[])⟩:CoV)) 149)::(MapA ekU evC r118 cdL)::(Sl ao8 co9 5 1 byteC b)::(Cel b4 (TMs.cells dMs) 58)::(Cel b1 (D32.cells t) 25)::L) w119:=((hs121.pull 3 rfl).pull 3 rfl)
    refine Zqa (f:=fg) (args:=#[zP cc7 0,zP b51 13]) C.cg (C.getM (Sl ao8 co9 5 1 byteC b) rr83 sp84 (fun w h=>h.at_ 2 rfl) hq289 (by have:=byteP_rng he87;omega) hs128) ?_
    rintro v138 w139 ⟨yy129,rr130,sp131,az132,cz133,rfl,he134,hok135,hq2136,hs137⟩
    refine⟨Zqo,?_⟩
    refine Zd (Zt (Zs (Zs ?_)))
    obtain⟨mm,hmm⟩:∃ m:TMs,m=(⟨vv52,n,(vecF (valW (rr54,sp56)) 11),yy129,t⟩:TMs):=⟨_,rfl⟩
    have hs140:St w0 ((Cel b51 (TMs.cells mm) 58)::(Sl mm.bd.qa mm.bd.qc 205 2 TPr.cells mm.bd.ql)::(Cel cc7 #[.slice az132 rr130.length cz133,.bool sp131] 124)::(Cel b117 (CoV.cells (⟨(.func (.func fp) #[] #[]),(.func (.func fg) #[] #[]),(.func (.func fm) #[] #[])⟩:CoV)) 149)::(MapA ekU evC r118 cdL)::(Sl ao8 co9 5 1 byteC b)::(Cel b4 (TMs.cells dMs) 58)::(Cel b1 (D32.cells t) 25)::L) w139:=(by rw [hmm];exact hs137)
    have hmo:MsOK mm:=by rw [hmm];exact⟨(by dsimp only;omega),hn,vecF_all _ 0 (fun k hk=>by have:=wordP_rng (s:=stW (rr54,sp56) k) (v:=valW (rr54,sp56) k) (s2:=(wordP (stW (rr54,sp56) k)).2) rfl;omega),hok135,ht⟩
    refine Zqt (.rd 0 (.ef 1 (.rd 2 (.rd 3 (.rd 4 (.ef 5 (.rd 6 (.rd 7 (.rd 8 (.rd 9 (.ef 10 (.rd 11 (.ef 12 (.rd 13 (.rd 14 .done))))))))))))))) ?_
    refine Zr 0 1 [] ?_
    have hs141:St w0 ((Cel cc7 #[.slice az132 rr130.length cz133,.bool sp131] 124)::(Cel b51 (TMs.cells mm) 58)::(Sl mm.bd.qa mm.bd.qc 205 2 TPr.cells mm.bd.ql)::(Cel b117 (CoV.cells (⟨(.func (.func fp) #[] #[]),(.func (.func fg) #[] #[]),(.func (.func fm) #[] #[])⟩:CoV)) 149)::(MapA ekU evC r118 cdL)::(Sl ao8 co9 5 1 byteC b)::(Cel b4 (TMs.cells dMs) 58)::(Cel b1 (D32.cells t) 25)::L) w139:=(hs140.pull 2 rfl)
    refine Zqa (f:=36) (args:=#[zP cc7 0]) Tryz.call36 (cutOk_spec rr130 sp131 hs141) ?_
    rintro v143 w144 ⟨rfl,hs142⟩
    refine⟨Zqo,?_⟩
    refine Zr 2 2 [] ?_
    rcases Bool.eq_false_or_eq_true (!(!sp131)) with h145|h145
    ·refine Zqs 61 true h145 ?_
     have h145n:(!sp131)=false:=notT h145
     refine Zr 4 1 [] ?_
     refine GoR.skip rfl (by kernel_rfl) Zqo ?_
     refine Zr 6 4 [] ?_
     refine GoR.skip rfl (by kernel_rfl) Zqo ?_
     refine Zr 11 1 [] ?_
     refine GoR.skip rfl (by kernel_rfl) Zqo ?_
     refine Zr 13 2 [] ?_
     refine Zd (Zt (ZqT (Zs ?_)))
     refine Zqt (.rd 0 (.ef 1 (.rd 2 .done))) ?_
     refine Zr 0 1 [] ?_
     refine Zw (b:=b4) (off:=0) (v:=.agg (TMs.cells dMs)) (ti:=Tryz.t58) (by kernel_rfl) hs142 6 (L':=(Cel cc7 #[.slice az132 rr130.length cz133,.bool sp131] 124)::(Cel b51 (TMs.cells mm) 58)::(Sl mm.bd.qa mm.bd.qc 205 2 TPr.cells mm.bd.ql)::(Cel b117 (CoV.cells (⟨(.func (.func fp) #[] #[]),(.func (.func fg) #[] #[]),(.func (.func fm) #[] #[])⟩:CoV)) 149)::(MapA ekU evC r118 cdL)::(Sl ao8 co9 5 1 byteC b)::(Cel b4 (TMs.cells dMs) 58)::(Cel b1 (D32.cells t) 25)::L) ?_
     intro w146 hs147
     refine⟨Zqo,?_⟩
     refine Zr 2 1 [] ?_
     refine Zd (Zt (Ze (Zy ?_)))
     refine GoQ.done (.inl rfl) (v:=.tuple #[.agg (TMs.cells dMs),.int .i64 5]) (fun a hf=>resultsAV rfl (by kernel_rfl) (by kernel_rfl) (ti:=Tryz.t58) (by kernel_rfl) (by kernel_rfl) (vs:=(TMs.cells dMs)) (by kernel_rfl) (hs147.cells 6 0 rfl (by kernel_rfl)) a hf) ?_
     have hs148:St w0 ((Sl none 0 205 2 TPr.cells ([]:List TPr))::(Cel cc7 #[.slice az132 rr130.length cz133,.bool sp131] 124)::(Cel b51 (TMs.cells mm) 58)::(Sl mm.bd.qa mm.bd.qc 205 2 TPr.cells mm.bd.ql)::(Cel b117 (CoV.cells (⟨(.func (.func fp) #[] #[]),(.func (.func fg) #[] #[]),(.func (.func fm) #[] #[])⟩:CoV)) 149)::(MapA ekU evC r118 cdL)::(Sl ao8 co9 5 1 byteC b)::(Cel b4 (TMs.cells dMs) 58)::(Cel b1 (D32.cells t) 25)::L) w146:=St.slNil hs147 205 2 TPr.cells
     have hs149:St w0 ((Cel cc7 #[.slice az132 rr130.length cz133,.bool sp131] 124)::(Cel b51 (TMs.cells mm) 58)::(Sl mm.bd.qa mm.bd.qc 205 2 TPr.cells mm.bd.ql)::(Cel b117 (CoV.cells (⟨(.func (.func fp) #[] #[]),(.func (.func fg) #[] #[]),(.func (.func fm) #[] #[])⟩:CoV)) 149)::(MapA ekU evC r118 cdL)::(Sl ao8 co9 5 1 byteC b)::(Cel b4 (TMs.cells dMs) 58)::(Cel b1 (D32.cells t) 25)::(Sl none 0 205 2 TPr.cells ([]:List TPr))::L) w146:=(((((((((hs148.pull 0 rfl).pull 8 rfl).pull 8 rfl).pull 8 rfl).pull 8 rfl).pull 8 rfl).pull 8 rfl).pull 8 rfl).pull 8 rfl)
     have hs150:St w0 ((Sl none 0 205 2 TPr.cells ([]:List TPr))::L) w146:=hs149.drop 8
     exact⟨dMs,5,rfl,((ofM_in he60 ((congrArg byteP hp.2.1.symm).trans he87) hin h122' he134).trans (by simp only [];rw [if_pos (by simpa using h145)];rfl)),dMs_ok,hs150⟩
    ·refine Zqs 61 false h145 ?_
     have h145n:(!sp131)=true:=notF h145
     refine Zr 4 1 [] ?_
     refine Zqa (f:=37) (args:=#[zP cc7 0]) Tryz.call37 (cutLeft_spec rr130 sp131 hs142) ?_
     rintro v152 w153 ⟨rfl,hs151⟩
     refine⟨Zqo,?_⟩
     refine Zr 6 3 [] ?_
     rcases Bool.eq_false_or_eq_true (decide (((rr130.length:Nat):Int)>0)) with h154|h154
     ·refine Zqs 66 true h154 ?_
      have h154':((rr130.length:Nat):Int)>0:=of_decide_eq_true h154
      refine Zr 9 1 [] ?_
      refine GoR.skip rfl (by kernel_rfl) Zqo ?_
      refine Zr 11 1 [] ?_
      refine GoR.skip rfl (by kernel_rfl) Zqo ?_
      refine Zr 13 2 [] ?_
      refine Zd (Zt (ZqT (Zs ?_)))
      refine Zqt (.rd 0 (.ef 1 (.rd 2 .done))) ?_
      refine Zr 0 1 [] ?_
      refine Zw (b:=b4) (off:=0) (v:=.agg (TMs.cells dMs)) (ti:=Tryz.t58) (by kernel_rfl) hs151 6 (L':=(Cel cc7 #[.slice az132 rr130.length cz133,.bool sp131] 124)::(Cel b51 (TMs.cells mm) 58)::(Sl mm.bd.qa mm.bd.qc 205 2 TPr.cells mm.bd.ql)::(Cel b117 (CoV.cells (⟨(.func (.func fp) #[] #[]),(.func (.func fg) #[] #[]),(.func (.func fm) #[] #[])⟩:CoV)) 149)::(MapA ekU evC r118 cdL)::(Sl ao8 co9 5 1 byteC b)::(Cel b4 (TMs.cells dMs) 58)::(Cel b1 (D32.cells t) 25)::L) ?_
      intro w155 hs156
      refine⟨Zqo,?_⟩
      refine Zr 2 1 [] ?_
      refine Zd (Zt (Ze (Zy ?_)))
      refine GoQ.done (.inl rfl) (v:=.tuple #[.agg (TMs.cells dMs),.int .i64 5]) (fun a hf=>resultsAV rfl (by kernel_rfl) (by kernel_rfl) (ti:=Tryz.t58) (by kernel_rfl) (by kernel_rfl) (vs:=(TMs.cells dMs)) (by kernel_rfl) (hs156.cells 6 0 rfl (by kernel_rfl)) a hf) ?_
      have hs157:St w0 ((Sl none 0 205 2 TPr.cells ([]:List TPr))::(Cel cc7 #[.slice az132 rr130.length cz133,.bool sp131] 124)::(Cel b51 (TMs.cells mm) 58)::(Sl mm.bd.qa mm.bd.qc 205 2 TPr.cells mm.bd.ql)::(Cel b117 (CoV.cells (⟨(.func (.func fp) #[] #[]),(.func (.func fg) #[] #[]),(.func (.func fm) #[] #[])⟩:CoV)) 149)::(MapA ekU evC r118 cdL)::(Sl ao8 co9 5 1 byteC b)::(Cel b4 (TMs.cells dMs) 58)::(Cel b1 (D32.cells t) 25)::L) w155:=St.slNil hs156 205 2 TPr.cells
      have hs158:St w0 ((Cel cc7 #[.slice az132 rr130.length cz133,.bool sp131] 124)::(Cel b51 (TMs.cells mm) 58)::(Sl mm.bd.qa mm.bd.qc 205 2 TPr.cells mm.bd.ql)::(Cel b117 (CoV.cells (⟨(.func (.func fp) #[] #[]),(.func (.func fg) #[] #[]),(.func (.func fm) #[] #[])⟩:CoV)) 149)::(MapA ekU evC r118 cdL)::(Sl ao8 co9 5 1 byteC b)::(Cel b4 (TMs.cells dMs) 58)::(Cel b1 (D32.cells t) 25)::(Sl none 0 205 2 TPr.cells ([]:List TPr))::L) w155:=(((((((((hs157.pull 0 rfl).pull 8 rfl).pull 8 rfl).pull 8 rfl).pull 8 rfl).pull 8 rfl).pull 8 rfl).pull 8 rfl).pull 8 rfl)
      have hs159:St w0 ((Sl none 0 205 2 TPr.cells ([]:List TPr))::L) w155:=hs158.drop 8
      exact⟨dMs,5,rfl,((ofM_in he60 ((congrArg byteP hp.2.1.symm).trans he87) hin h122' he134).trans (by simp only [];rw [if_neg (by simpa using h145),if_pos (by omega)];rfl)),dMs_ok,hs159⟩
     ·refine Zqs 66 false h154 ?_
      have h154':¬ (((rr130.length:Nat):Int)>0):=of_decide_eq_false h154
      refine Zp 9 1 [(9,.agg (TMs.cells mm))] [(9,[.prop (Array.size (TMs.cells mm)=121),.cells ⟨b51,0,none⟩ (TMs.cells mm)])] (ak (okp (by kernel_rfl) (oka (hs151.cells 1 0 rfl (by kernel_rfl)) ok0)) ak0) ?_
      refine Zqa (f:=104) (args:=#[.agg (TMs.cells mm)]) Tryz.call104 (mbytes_spec mm hmo (fun w h=>h.rows 2 rfl (dPrF).size _) hs151) ?_
      rintro v163 w164 ⟨ao160,co161,rfl,hs162⟩
      refine⟨Zqo,?_⟩
      refine Zr 11 1 [] ?_
      refine Zqa (f:=38) (args:=#[.slice ao160 ((byB mm).length) co161,.slice ad b.length cb]) Tryz.call38 (bytesEq_spec (byB mm) b (byB_byt hmo) hbb (fun w h=>h.rows 0 rfl (byteF).size _) (fun w h=>hr _ (h.drop 9)) hs162) ?_
      rintro v166 w167 ⟨rfl,hs165⟩
      refine⟨Zqo,?_⟩
      refine Zr 13 2 [] ?_
      refine Zd (Zt ?_)
      refine Zqc (t:=!(decide ((byB mm)=b))) (fun h168=>?_) (fun h168=>?_)
      ·have h168n:(decide ((byB mm)=b))=false:=notT h168
       refine Zs ?_
       refine Zqt (.rd 0 (.ef 1 (.rd 2 .done))) ?_
       refine Zr 0 1 [] ?_
       refine Zw (b:=b4) (off:=0) (v:=.agg (TMs.cells dMs)) (ti:=Tryz.t58) (by kernel_rfl) hs165 7 (L':=(Sl ao160 co161 5 1 byteC (byB mm))::(Cel cc7 #[.slice az132 rr130.length cz133,.bool sp131] 124)::(Cel b51 (TMs.cells mm) 58)::(Sl mm.bd.qa mm.bd.qc 205 2 TPr.cells mm.bd.ql)::(Cel b117 (CoV.cells (⟨(.func (.func fp) #[] #[]),(.func (.func fg) #[] #[]),(.func (.func fm) #[] #[])⟩:CoV)) 149)::(MapA ekU evC r118 cdL)::(Sl ao8 co9 5 1 byteC b)::(Cel b4 (TMs.cells dMs) 58)::(Cel b1 (D32.cells t) 25)::L) ?_
       intro w169 hs170
       refine⟨Zqo,?_⟩
       refine Zr 2 1 [] ?_
       refine Zd (Zt (Ze (Zy ?_)))
       refine GoQ.done (.inl rfl) (v:=.tuple #[.agg (TMs.cells dMs),.int .i64 5]) (fun a hf=>resultsAV rfl (by kernel_rfl) (by kernel_rfl) (ti:=Tryz.t58) (by kernel_rfl) (by kernel_rfl) (vs:=(TMs.cells dMs)) (by kernel_rfl) (hs170.cells 7 0 rfl (by kernel_rfl)) a hf) ?_
       have hs171:St w0 ((Sl none 0 205 2 TPr.cells ([]:List TPr))::(Sl ao160 co161 5 1 byteC (byB mm))::(Cel cc7 #[.slice az132 rr130.length cz133,.bool sp131] 124)::(Cel b51 (TMs.cells mm) 58)::(Sl mm.bd.qa mm.bd.qc 205 2 TPr.cells mm.bd.ql)::(Cel b117 (CoV.cells (⟨(.func (.func fp) #[] #[]),(.func (.func fg) #[] #[]),(.func (.func fm) #[] #[])⟩:CoV)) 149)::(MapA ekU evC r118 cdL)::(Sl ao8 co9 5 1 byteC b)::(Cel b4 (TMs.cells dMs) 58)::(Cel b1 (D32.cells t) 25)::L) w169:=St.slNil hs170 205 2 TPr.cells
       have hbm:byB ⟨vv52,n,vecF (valW (rr54,sp56)) 11,con yy129,t⟩=byB mm:=by rw [hmm];rfl
       have hs172:St w0 ((Sl ao160 co161 5 1 byteC (byB mm))::(Cel cc7 #[.slice az132 rr130.length cz133,.bool sp131] 124)::(Cel b51 (TMs.cells mm) 58)::(Sl mm.bd.qa mm.bd.qc 205 2 TPr.cells mm.bd.ql)::(Cel b117 (CoV.cells (⟨(.func (.func fp) #[] #[]),(.func (.func fg) #[] #[]),(.func (.func fm) #[] #[])⟩:CoV)) 149)::(MapA ekU evC r118 cdL)::(Sl ao8 co9 5 1 byteC b)::(Cel b4 (TMs.cells dMs) 58)::(Cel b1 (D32.cells t) 25)::(Sl none 0 205 2 TPr.cells ([]:List TPr))::L) w169:=((((((((((hs171.pull 0 rfl).pull 9 rfl).pull 9 rfl).pull 9 rfl).pull 9 rfl).pull 9 rfl).pull 9 rfl).pull 9 rfl).pull 9 rfl).pull 9 rfl)
       have hs173:St w0 ((Sl none 0 205 2 TPr.cells ([]:List TPr))::L) w169:=hs172.drop 9
       exact⟨dMs,5,rfl,((ofM_in he60 ((congrArg byteP hp.2.1.symm).trans he87) hin h122' he134).trans (by simp only [];rw [if_neg (by simpa using h145),if_neg (by omega),hbm,if_neg (of_decide_eq_false h168n)];rfl)),dMs_ok,hs173⟩
      ·have h168n:(decide ((byB mm)=b))=true:=notF h168
       refine Zk (Zt (Zs ?_))
       refine Zqt (.rd 0 (.ef 1 (.rd 2 .done))) ?_
       refine Zp 0 1 [(0,.agg (TMs.cells mm))] [(0,[.prop (Array.size (TMs.cells mm)=121),.cells ⟨b51,0,none⟩ (TMs.cells mm)])] (ak (okp (by kernel_rfl) (oka (hs165.cells 2 0 rfl (by kernel_rfl)) ok0)) ak0) ?_
       refine Zw (b:=b4) (off:=0) (v:=.agg (TMs.cells mm)) (ti:=Tryz.t58) (by kernel_rfl) hs165 7 (L':=(Sl ao160 co161 5 1 byteC (byB mm))::(Cel cc7 #[.slice az132 rr130.length cz133,.bool sp131] 124)::(Cel b51 (TMs.cells mm) 58)::(Sl mm.bd.qa mm.bd.qc 205 2 TPr.cells mm.bd.ql)::(Cel b117 (CoV.cells (⟨(.func (.func fp) #[] #[]),(.func (.func fg) #[] #[]),(.func (.func fm) #[] #[])⟩:CoV)) 149)::(MapA ekU evC r118 cdL)::(Sl ao8 co9 5 1 byteC b)::(Cel b4 (TMs.cells mm) 58)::(Cel b1 (D32.cells t) 25)::L) ?_
       intro w174 hs175
       refine⟨Zqo,?_⟩
       refine Zr 2 1 [] ?_
       refine Zd (Zt (Ze ?_))
       refine GoQ.done (.inl rfl) (v:=.tuple #[.agg (TMs.cells mm),.int .i64 0]) (fun a hf=>resultsAV rfl (by kernel_rfl) (by kernel_rfl) (ti:=Tryz.t58) (by kernel_rfl) (by kernel_rfl) (vs:=(TMs.cells mm)) (by kernel_rfl) (hs175.cells 7 0 rfl (by kernel_rfl)) a hf) ?_
       have hbm:byB ⟨vv52,n,vecF (valW (rr54,sp56)) 11,con yy129,t⟩=byB mm:=by rw [hmm];rfl
       have hs176:St w0 ((Sl ao160 co161 5 1 byteC (byB mm))::(Cel cc7 #[.slice az132 rr130.length cz133,.bool sp131] 124)::(Cel b51 (TMs.cells mm) 58)::(Cel b117 (CoV.cells (⟨(.func (.func fp) #[] #[]),(.func (.func fg) #[] #[]),(.func (.func fm) #[] #[])⟩:CoV)) 149)::(MapA ekU evC r118 cdL)::(Sl ao8 co9 5 1 byteC b)::(Cel b4 (TMs.cells mm) 58)::(Cel b1 (D32.cells t) 25)::(Sl mm.bd.qa mm.bd.qc 205 2 TPr.cells mm.bd.ql)::L) w174:=(((((((((hs175.pull 3 rfl).pull 8 rfl).pull 8 rfl).pull 8 rfl).pull 8 rfl).pull 8 rfl).pull 8 rfl).pull 8 rfl).pull 8 rfl)
       have hs177:St w0 ((Sl mm.bd.qa mm.bd.qc 205 2 TPr.cells mm.bd.ql)::L) w174:=hs176.drop 8
       exact⟨mm,0,rfl,((ofM_in he60 ((congrArg byteP hp.2.1.symm).trans he87) hin h122' he134).trans (by simp only [];rw [if_neg (by simpa using h145),if_neg (by omega),hbm,if_pos (of_decide_eq_true h168n)];rw [hmm];rfl)),hmo,hs177⟩
  ·have hc:=codec_no hno
   refine GoC.join (T:=Nat×Nat) (E:=fun jx=>[(0,.int .i64 i),(2,.slice ad b.length cb),(8,zP b4 0),(9,.int .i64 0),(10,zP cc7 0),(11,zP b51 0),(13,zP jx.1 0),(14,.bool false)]) (F:=fun jx w=>St w0 ((Cel jx.1 (CoV.cells cvZ) 149)::(MapA ekU evC jx.2 cdL)::(Cel cc7 #[.slice az85 rr83.length cz86,.bool sp84] 124)::(Cel b51 (TMs.cells (⟨vv52,n,(vecF (valW (rr54,sp56)) 11),(⟨vv82,0,0,dRq,none,0,[],dD32⟩:TBd),t⟩:TMs)) 58)::(Sl ao8 co9 5 1 byteC b)::(Cel b4 (TMs.cells dMs) 58)::(Cel b1 (D32.cells t) 25)::L) w) ?_ ?_
   ·refine GoC.regD [0,0,2,6,15,31,63,63,0,383,1023] (.rd 1 (.rd 2 (.rd 3 (.alt (.ef 0 (.rd 4 (.rd 5 (.rd 6 (.rd 7 (.ef 8 (.ef 9 (.rd 10 .done)))))))) (.ef 8 (.ef 0 (.rd 4 (.rd 5 (.rd 6 (.rd 7 (.ef 9 (.rd 10 .done)))))))))))) (by kernel_rfl) (by kernel_rfl) noPan_body (by kernel_rfl) hs94 ?_
    intro w178 hs179 hw180
    refine Zp 1 3 [(3,.gen [.int .u8 vv82])] [(3,[.cell ⟨b51,13,none⟩ (.int .u8 vv82)])] (ak (okc (hs179.cell 1 rfl (by kernel_rfl)) ok0) ak0) ?_
    refine GoR.alt ?_ ?_
    ·refine Zqa (f:=68) (args:=#[]) Tryz.call68 (codecs_spec hs179) ?_
     rintro v183 w184 ⟨r181,rfl,hs182⟩
     refine⟨(opl (n:=[.cell ⟨b51,13,none⟩ (.int .u8 vv82)]) (by kernel_rfl) (okc (hs182.cell 2 rfl (by kernel_rfl)) ok0)),?_⟩
     refine GoR.lookup rfl (by kernel_rfl) cdLaw (r:=r181) (k:=vv82) (ok:=true) (by kernel_rfl) hs182 0 rfl (z:=evC cvZ) (by kernel_rfl) (v:=.tuple #[.agg (CoV.cells cvZ),.bool false]) (by rw [hc];rfl) ?_
     refine Zr 5 3 [] ?_
     refine GoR.alloc rfl rfl (by kernel_rfl) (z:=.agg (CoV.cells cvZ)) (by kernel_rfl) hs182 (cs:=CoV.cells cvZ) (by kernel_rfl) ?_
     intro b185 w186 hs187
     refine⟨(opl (n:=[.holds (MapA ekU evC r181 cdL).holds,.cell ⟨b51,13,none⟩ (.int .u8 vv82)]) (by kernel_rfl) (okh (hs187.at_ 1 rfl) (okc (hs187.cell 3 rfl (by kernel_rfl)) ok0))),?_⟩
     refine Zw (b:=b185) (off:=0) (v:=.agg (CoV.cells cvZ)) (ti:=Tryz.t149) (by kernel_rfl) hs187 0 (L':=(Cel b185 (CoV.cells cvZ) 149)::(MapA ekU evC r181 cdL)::(Cel cc7 #[.slice az85 rr83.length cz86,.bool sp84] 124)::(Cel b51 (TMs.cells (⟨vv52,n,(vecF (valW (rr54,sp56)) 11),(⟨vv82,0,0,dRq,none,0,[],dD32⟩:TBd),t⟩:TMs)) 58)::(Sl ao8 co9 5 1 byteC b)::(Cel b4 (TMs.cells dMs) 58)::(Cel b1 (D32.cells t) 25)::L) ?_
     intro w188 hs189
     refine⟨Zqo,?_⟩
     refine Zr 10 1 [] ?_
     refine Zd ?_
     refine GoQ.pick [0,2,8,9,10,11,13,14] (S':=[(0,.int .i64 i),(2,.slice ad b.length cb),(8,zP b4 0),(9,.int .i64 0),(10,zP cc7 0),(11,zP b51 0),(13,zP b185 0),(14,.bool false)]) (by kernel_rfl) ?_
     exact GoQ.meet1 (b185,r181) rfl hs189
    refine GoR.alloc rfl rfl (by kernel_rfl) (z:=.agg (CoV.cells cvZ)) (by kernel_rfl) hs179 (cs:=CoV.cells cvZ) (by kernel_rfl) ?_
    intro b190 w191 hs192
    refine⟨(opl (n:=[.cell ⟨b51,13,none⟩ (.int .u8 vv82)]) (by kernel_rfl) (okc (hs192.cell 2 rfl (by kernel_rfl)) ok0)),?_⟩
    refine Zqa (f:=68) (args:=#[]) Tryz.call68 (codecs_spec hs192) ?_
    rintro v195 w196 ⟨r193,rfl,hs194⟩
    refine⟨(opl (n:=[.cell ⟨b51,13,none⟩ (.int .u8 vv82)]) (by kernel_rfl) (okc (hs194.cell 3 rfl (by kernel_rfl)) ok0)),?_⟩
    refine GoR.lookup rfl (by kernel_rfl) cdLaw (r:=r193) (k:=vv82) (ok:=true) (by kernel_rfl) hs194 0 rfl (z:=evC cvZ) (by kernel_rfl) (v:=.tuple #[.agg (CoV.cells cvZ),.bool false]) (by rw [hc];rfl) ?_
    refine Zr 5 3 [] ?_
    refine Zw (b:=b190) (off:=0) (v:=.agg (CoV.cells cvZ)) (ti:=Tryz.t149) (by kernel_rfl) hs194 1 (L':=(MapA ekU evC r193 cdL)::(Cel b190 (CoV.cells cvZ) 149)::(Cel cc7 #[.slice az85 rr83.length cz86,.bool sp84] 124)::(Cel b51 (TMs.cells (⟨vv52,n,(vecF (valW (rr54,sp56)) 11),(⟨vv82,0,0,dRq,none,0,[],dD32⟩:TBd),t⟩:TMs)) 58)::(Sl ao8 co9 5 1 byteC b)::(Cel b4 (TMs.cells dMs) 58)::(Cel b1 (D32.cells t) 25)::L) ?_
    intro w197 hs198
    refine⟨Zqo,?_⟩
    refine Zr 10 1 [] ?_
    refine Zd ?_
    have hs199:St w0 ((Cel b190 (CoV.cells cvZ) 149)::(MapA ekU evC r193 cdL)::(Cel cc7 #[.slice az85 rr83.length cz86,.bool sp84] 124)::(Cel b51 (TMs.cells (⟨vv52,n,(vecF (valW (rr54,sp56)) 11),(⟨vv82,0,0,dRq,none,0,[],dD32⟩:TBd),t⟩:TMs)) 58)::(Sl ao8 co9 5 1 byteC b)::(Cel b4 (TMs.cells dMs) 58)::(Cel b1 (D32.cells t) 25)::L) w197:=(((((((hs198.pull 6 rfl).pull 6 rfl).pull 6 rfl).pull 6 rfl).pull 6 rfl).pull 5 rfl).pull 6 rfl)
    refine GoQ.pick [0,2,8,9,10,11,13,14] (S':=[(0,.int .i64 i),(2,.slice ad b.length cb),(8,zP b4 0),(9,.int .i64 0),(10,zP cc7 0),(11,zP b51 0),(13,zP b190 0),(14,.bool false)]) (by kernel_rfl) ?_
    exact GoQ.meet1 (b190,r193) rfl hs199
   rintro⟨b200,r201⟩ w202 hs203
   have hs204:St w0 ((Cel b200 (CoV.cells cvZ) 149)::(MapA ekU evC r201 cdL)::(Cel cc7 #[.slice az85 rr83.length cz86,.bool sp84] 124)::(Cel b51 (TMs.cells (⟨vv52,n,(vecF (valW (rr54,sp56)) 11),(⟨vv82,0,0,dRq,none,0,[],dD32⟩:TBd),t⟩:TMs)) 58)::(Sl ao8 co9 5 1 byteC b)::(Cel b4 (TMs.cells dMs) 58)::(Cel b1 (D32.cells t) 25)::L) w202:=hs203
   refine GoQ.slots (S':=[(0,.int .i64 i),(2,.slice ad b.length cb),(8,zP b4 0),(9,.int .i64 0),(10,zP cc7 0),(11,zP b51 0),(13,zP b200 0),(14,.bool false)]) rfl ?_
   refine Zt (Zs (Zs ?_))
   refine Zqt (.rd 0 (.rd 1 (.rd 2 (.rd 3 (.rd 4 (.rd 5 (.rd 6 (.rd 7 .done)))))))) ?_
   refine Zr 0 8 [] ?_
   refine Zd (Zt (ZqT (Zs ?_)))
   refine Zqt (.rd 0 (.ef 1 (.rd 2 .done))) ?_
   refine Zr 0 1 [] ?_
   refine Zw (b:=b4) (off:=0) (v:=.agg (TMs.cells dMs)) (ti:=Tryz.t58) (by kernel_rfl) hs204 5 (L':=(Cel b200 (CoV.cells cvZ) 149)::(MapA ekU evC r201 cdL)::(Cel cc7 #[.slice az85 rr83.length cz86,.bool sp84] 124)::(Cel b51 (TMs.cells (⟨vv52,n,(vecF (valW (rr54,sp56)) 11),(⟨vv82,0,0,dRq,none,0,[],dD32⟩:TBd),t⟩:TMs)) 58)::(Sl ao8 co9 5 1 byteC b)::(Cel b4 (TMs.cells dMs) 58)::(Cel b1 (D32.cells t) 25)::L) ?_
   intro w205 hs206
   refine⟨Zqo,?_⟩
   refine Zr 2 1 [] ?_
   refine Zd (Zt (Ze (Zy ?_)))
   refine GoQ.done (.inl rfl) (v:=.tuple #[.agg (TMs.cells dMs),.int .i64 5]) (fun a hf=>resultsAV rfl (by kernel_rfl) (by kernel_rfl) (ti:=Tryz.t58) (by kernel_rfl) (by kernel_rfl) (vs:=(TMs.cells dMs)) (by kernel_rfl) (hs206.cells 5 0 rfl (by kernel_rfl)) a hf) ?_
   have hs207:St w0 ((Sl none 0 205 2 TPr.cells ([]:List TPr))::(Cel b200 (CoV.cells cvZ) 149)::(MapA ekU evC r201 cdL)::(Cel cc7 #[.slice az85 rr83.length cz86,.bool sp84] 124)::(Cel b51 (TMs.cells (⟨vv52,n,(vecF (valW (rr54,sp56)) 11),(⟨vv82,0,0,dRq,none,0,[],dD32⟩:TBd),t⟩:TMs)) 58)::(Sl ao8 co9 5 1 byteC b)::(Cel b4 (TMs.cells dMs) 58)::(Cel b1 (D32.cells t) 25)::L) w205:=St.slNil hs206 205 2 TPr.cells
   have hs208:St w0 ((Cel b200 (CoV.cells cvZ) 149)::(MapA ekU evC r201 cdL)::(Cel cc7 #[.slice az85 rr83.length cz86,.bool sp84] 124)::(Cel b51 (TMs.cells (⟨vv52,n,(vecF (valW (rr54,sp56)) 11),(⟨vv82,0,0,dRq,none,0,[],dD32⟩:TBd),t⟩:TMs)) 58)::(Sl ao8 co9 5 1 byteC b)::(Cel b4 (TMs.cells dMs) 58)::(Cel b1 (D32.cells t) 25)::(Sl none 0 205 2 TPr.cells ([]:List TPr))::L) w205:=((((((((hs207.pull 0 rfl).pull 7 rfl).pull 7 rfl).pull 7 rfl).pull 7 rfl).pull 7 rfl).pull 7 rfl).pull 7 rfl)
   have hs209:St w0 ((Sl none 0 205 2 TPr.cells ([]:List TPr))::L) w205:=hs208.drop 7
   exact⟨dMs,5,rfl,(ofM_err he60 ((congrArg byteP hp.2.1.symm).trans he87) (.inl hno)),dMs_ok,hs209⟩
def getM (l:List Int):TMs×Int :=
 if l.length≤40 then (dMs,5) else
 let w:=wordP (l,false)
 let o:=tk (l.length-40) w.2
 let h:=hashP o.2
 ofM (o.1.getD 0 0) w.1 o.1 h.1
theorem wordP_ok {r:List Int}(h:8≤r.length):wordP (r,false)=(numB (r.take 8),(r.drop 8,false)):=by
 unfold wordP numP
 rw [tk_ok rfl h]
theorem getM_eq {l r1 o r2 r3:List Int}{n:Int}{p1 p2 p3:Bool}{d:D32}(hl:¬ l.length≤40) (h1:wordP (l,false)=(n,(r1,p1))) (h2:tk (l.length-40) (r1,p1)=(o,(r2,p2))) (h3:hashP (r2,p2)=(d,(r3,p3))):getM l=ofM (o.getD 0 0) n o d:=by
 unfold getM
 simp only [if_neg hl,h1,h2,h3]
theorem own_len {l r1 o r2:List Int}{n:Int}{p1 p2:Bool}(hl:40<l.length) (h1:wordP (l,false)=(n,(r1,p1))) (h2:tk (l.length-40) (r1,p1)=(o,(r2,p2))):o.length=l.length-40∧o=(l.drop 8).take (l.length-40):=by
 rw [wordP_ok (by omega)] at h1
 simp only [Prod.mk.injEq] at h1
 obtain⟨-,rfl,rfl⟩:=h1
 rw [tk_ok rfl (by rw [List.length_drop];omega)] at h2
 simp only [Prod.mk.injEq] at h2
 obtain⟨rfl,-⟩:=h2
 exact⟨by rw [List.length_take,List.length_drop];omega,rfl⟩
theorem mget_spec {w0 w:World}{L:List Asn}{ad:Option Addr}{cb:Nat}(l:List Int) (hbl:l.length≤100000) (hlb:∀ z∈l,0≤z∧z<256) (hr:∀ w,St w0 L w→RowsAt w ad l.length 1 (fun k=>byteC (l.getD k (0:Int)))) (hs:St w0 (L) w):Calls Tryz.prog 58 #[.slice ad l.length cb] w (Ret fun rv w'=>∃ (mm2:TMs) (ee2:Int),rv=.tuple #[.agg (TMs.cells mm2),.int .i64 ee2]∧getM l=(conM mm2,ee2)∧MsOK mm2∧St w0 ((Sl mm2.bd.qa mm2.bd.qc 205 2 TPr.cells mm2.bd.ql)::L) w'):=by
 refine Zen (args:=[.slice ad l.length cb]) Tryz.func58 Tryz.ntmps58 ?_
 refine Zn [(0,.slice ad l.length cb)] ?_
 refine Zs ?_
 refine Zqt (.ef 0 (.rd 1 .done)) ?_
 refine GoR.alloc rfl rfl (by kernel_rfl) (z:=.agg (TMs.cells dMs)) (by kernel_rfl) hs (cs:=TMs.cells dMs) (by kernel_rfl) ?_
 intro b1 w2 hs3
 refine⟨Zqo,?_⟩
 refine Zr 1 1 [] ?_
 refine Zd (Zt (Zs ?_))
 refine Zqt (.rd 0 (.rd 1 (.rd 2 (.rd 3 .done)))) ?_
 refine Zp 0 4 [(2,.as_ (.int .i64 ((l.length:Nat)-32)) (.gen []))] [(2,[.prop (Value.int .i64 (IntKind.i64.wrap ((l.length:Nat)-32))=Value.int .i64 ((l.length:Nat)-32))])] (ak (okp (i64ok (by omega) (by omega)) ok0) ak0) ?_
 refine Zd (Zt (Zs (Zs ?_)))
 refine Zqt (.rd 0 (.rd 1 .done)) ?_
 refine Zr 0 2 [] ?_
 refine Zd (Zt ?_)
 refine Zqc (t:=decide (((l.length:Nat)-32:Int)≤8)) (fun h4=>?_) (fun h4=>?_)
 ·have h4':((l.length:Nat)-32:Int)≤8:=of_decide_eq_true h4
  have hlen:l.length≤40:=by omega
  refine Zs ?_
  refine Zqt (.rd 0 (.ef 1 (.rd 2 .done))) ?_
  refine Zr 0 1 [] ?_
  refine Zw (b:=b1) (off:=0) (v:=.agg (TMs.cells dMs)) (ti:=Tryz.t58) (by kernel_rfl) hs3 0 (L':=(Cel b1 (TMs.cells dMs) 58)::L) ?_
  intro w5 hs6
  refine⟨Zqo,?_⟩
  refine Zr 2 1 [] ?_
  refine Zd (Zt (Ze (Zy ?_)))
  refine GoQ.done (.inl rfl) (v:=.tuple #[.agg (TMs.cells dMs),.int .i64 5]) (fun a hf=>resultsAV rfl (by kernel_rfl) (by kernel_rfl) (ti:=Tryz.t58) (by kernel_rfl) (by kernel_rfl) (vs:=(TMs.cells dMs)) (by kernel_rfl) (hs6.cells 0 0 rfl (by kernel_rfl)) a hf) ?_
  have hs7:St w0 ((Sl none 0 205 2 TPr.cells ([]:List TPr))::(Cel b1 (TMs.cells dMs) 58)::L) w5:=St.slNil hs6 205 2 TPr.cells
  have hs8:St w0 ((Cel b1 (TMs.cells dMs) 58)::(Sl none 0 205 2 TPr.cells ([]:List TPr))::L) w5:=((hs7.pull 0 rfl).pull 1 rfl)
  have hs9:St w0 ((Sl none 0 205 2 TPr.cells ([]:List TPr))::L) w5:=hs8.drop 1
  exact⟨dMs,5,rfl,(if_pos hlen),dMs_ok,hs9⟩
 ·have h4':¬ (((l.length:Nat)-32:Int)≤8):=of_decide_eq_false h4
  have hlen:40<l.length:=by omega
  have hsome:Som ad cb:=by obtain⟨b,off,rfl⟩:=RowsAt.isSome (hr _ hs) (by omega);exact .inl ⟨b,off,rfl⟩
  refine Zk (Zt (Zs ?_))
  refine Zqt (.rd 0 (.ef 1 (.rd 2 .done))) ?_
  refine Zr 0 1 [] ?_
  refine Zqa (f:=29) (args:=#[.slice ad l.length cb]) Tryz.call29 (cutNew_spec l (by omega) hsome (fun w h=>hr _ (h.drop 1)) hs3) ?_
  rintro v14 w15 ⟨cc10,ao11,co12,rfl,hs13⟩
  have hq16:CutOK (Sl ao11 co12 5 1 byteC l) ao11 l co12:=CutOK.new hs13 (j:=1) rfl hlb (by omega)
  refine⟨Zqo,?_⟩
  refine Zr 2 1 [] ?_
  refine Zd (Zt (Zs ?_))
  refine Zqt (.rd 0 (.ef 1 (.rd 2 .done))) ?_
  refine Zr 0 1 [] ?_
  refine Zqa (f:=31) (args:=#[zP cc10 0]) Tryz.call31 (cutWord_spec (Sl ao11 co12 5 1 byteC l) l false (fun w h=>h.at_ 0 rfl) hq16 hs13) ?_
  rintro v26 w27 ⟨vv17,rr18,sp19,az20,cz21,rfl,he22,hwr23,hq224,hs25⟩
  refine⟨Zqo,?_⟩
  refine Zr 2 1 [] ?_
  refine Zd (Zt (Zs ?_))
  refine Zqt (.rd 0 (.rd 1 (.rd 2 (.ef 3 (.rd 4 .done))))) ?_
  refine Zp 0 3 [(2,.as_ (.int .i64 (l.length-40:Nat)) (.gen []))] [(2,[.prop (Value.int .i64 (IntKind.i64.wrap (((l.length:Nat)-32)-8))=Value.int .i64 (l.length-40:Nat))])] (ak (okp (i64eq (by omega) (by omega) (by omega)) ok0) ak0) ?_
  refine Zqa (f:=33) (args:=#[zP cc10 0,.int .i64 ((l.length-40):Nat)]) Tryz.call33 (cutRaw_spec (Sl ao11 co12 5 1 byteC l) rr18 sp19 (l.length-40) (fun w h=>h.at_ 0 rfl) hq224 hs25) ?_
  rintro v38 w39 ⟨ao28,co29,ll30,rr31,sp32,az33,cz34,rfl,he35,hq236,hs37⟩
  refine⟨Zqo,?_⟩
  refine Zr 4 1 [] ?_
  refine Zd (Zt (Zs ?_))
  have hown:=own_len hlen he22 he35
  have hb9:∀ z∈ll30,0≤z∧z<256:=by rw [hown.2];exact fun z hz=>hlb z (List.mem_of_mem_drop (List.mem_of_mem_take hz))
  have hb0:=hb9 _ (getD_mem (d:=(0:Int)) (k:=0) (by omega))
  obtain⟨ab40,rfl⟩:=Sl.isSome (hs37.at_ 0 rfl) (by omega)
  refine GoC.regD [0,1,3,7,0,0,0,64,255,511,511,2047,4095] (.rd 0 (.rd 1 (.rd 2 (.rd 3 (.rd 4 (.rd 5 (.rd 6 (.ef 7 (.ef 8 (.rd 9 (.rd 10 (.ef 11 (.rd 12 .done))))))))))))) (by kernel_rfl) (by kernel_rfl) noPan_body (by kernel_rfl) hs37 ?_
  intro w42 hs43 hw44
  refine Zp 0 7 [(1,.as_ (zP ab40 0) .at_),(2,.gen [.int .u8 (ll30.getD 0 (0:Int))]),(3,.as_ (.int .i64 (ll30.getD 0 (0:Int))) (.gen []))] [(1,[.prop (0≤(0:Int)∧(0:Int)<((ll30.length:Nat):Int)),.prop (Value.pointer (some (Addr.add ⟨ab40,0,none⟩ (Int.toNat 0*1)))=Value.pointer (some ⟨ab40,0,none⟩))]),(2,[.cell ⟨ab40,0,none⟩ (.int .u8 (ll30.getD 0 (0:Int)))]),(3,[.prop (Value.int .i64 (IntKind.i64.wrap (ll30.getD 0 (0:Int)))=Value.int .i64 (ll30.getD 0 (0:Int)))])] (ak (okp (by omega) (okp (ptrAdd _ _ _) ok0)) (ak (okc (RowsAt.at0 (hs43.rows 0 rfl (byteF).size (0:Int)) (k:=0) (by first|omega|(simp only [List.length_set];omega)|(simp only [List.length_set,lA,lC,lN];omega)) (j:=0) (by decide) (by kernel_rfl)) ok0) (ak (okp (i64ok (by omega) (by omega)) ok0) ak0))) ?_
  have hs45:St w0 ((Cel cc10 #[.slice az33 rr31.length cz34,.bool sp32] 124)::(Sl (some ⟨ab40,0,none⟩) co29 5 1 byteC ll30)::(Sl ao11 co12 5 1 byteC l)::(Cel b1 (TMs.cells dMs) 58)::L) w42:=(hs43.pull 1 rfl)
  refine Zqa (f:=72) (args:=#[zP cc10 0]) Tryz.call72 (hash_spec (Sl ao11 co12 5 1 byteC l) rr31 sp32 (fun w h=>h.at_ 1 rfl) hq236 hs45) ?_
  rintro v55 w56 ⟨dd46,rr47,sp48,az49,cz50,rfl,he51,hdb52,hq253,hs54⟩
  refine⟨(opl (n:=[.prop (Value.int .i64 (IntKind.i64.wrap (ll30.getD 0 (0:Int)))=Value.int .i64 (ll30.getD 0 (0:Int))),.cell ⟨ab40,0,none⟩ (.int .u8 (ll30.getD 0 (0:Int))),.prop (0≤(0:Int)∧(0:Int)<((ll30.length:Nat):Int)),.prop (Value.pointer (some (Addr.add ⟨ab40,0,none⟩ (Int.toNat 0*1)))=Value.pointer (some ⟨ab40,0,none⟩))]) (by kernel_rfl) (okp (i64ok (by omega) (by omega)) (okc (RowsAt.at0 (hs54.rows 1 rfl (byteF).size (0:Int)) (k:=0) (by first|omega|(simp only [List.length_set];omega)|(simp only [List.length_set,lA,lC,lN];omega)) (j:=0) (by decide) (by kernel_rfl)) (okp (by omega) (okp (ptrAdd _ _ _) ok0))))),?_⟩
  refine Zqa (f:=71) (args:=#[.int .i64 (ll30.getD 0 (0:Int)),.int .u64 vv17,zL ab40 0 ll30.length co29,.agg (D32.cells dd46)]) Tryz.call71 (of_spec (ll30.getD 0 (0:Int)) vv17 ll30 dd46 (by omega) (by omega) hb9 (by have:=wordP_rng he22;omega) hdb52 (fun w h=>h.rows 1 rfl (byteF).size _) hs54) ?_
  rintro v62 w63 ⟨mm57,ee58,rfl,he59,hok60,hs61⟩
  refine⟨Zqo,?_⟩
  refine Zr 9 2 [] ?_
  refine Zw (b:=b1) (off:=0) (v:=.agg (TMs.cells mm57)) (ti:=Tryz.t58) (by kernel_rfl) hs61 4 (L':=(Sl mm57.bd.qa mm57.bd.qc 205 2 TPr.cells mm57.bd.ql)::(Cel cc10 #[.slice az49 rr47.length cz50,.bool sp48] 124)::(Sl (some ⟨ab40,0,none⟩) co29 5 1 byteC ll30)::(Sl ao11 co12 5 1 byteC l)::(Cel b1 (TMs.cells mm57) 58)::L) ?_
  intro w64 hs65
  refine⟨Zqo,?_⟩
  refine Zr 12 1 [] ?_
  refine Zd (Zt (Ze ?_))
  refine GoQ.done (.inl rfl) (v:=.tuple #[.agg (TMs.cells mm57),.int .i64 ee58]) (fun a hf=>resultsAV rfl (by kernel_rfl) (by kernel_rfl) (ti:=Tryz.t58) (by kernel_rfl) (by kernel_rfl) (vs:=(TMs.cells mm57)) (by kernel_rfl) (hs65.cells 4 0 rfl (by kernel_rfl)) a hf) ?_
  have hs66:St w0 ((Cel cc10 #[.slice az49 rr47.length cz50,.bool sp48] 124)::(Sl (some ⟨ab40,0,none⟩) co29 5 1 byteC ll30)::(Sl ao11 co12 5 1 byteC l)::(Cel b1 (TMs.cells mm57) 58)::(Sl mm57.bd.qa mm57.bd.qc 205 2 TPr.cells mm57.bd.ql)::L) w64:=(((((hs65.pull 0 rfl).pull 4 rfl).pull 4 rfl).pull 4 rfl).pull 4 rfl)
  have hs67:St w0 ((Sl mm57.bd.qa mm57.bd.qc 205 2 TPr.cells mm57.bd.ql)::L) w64:=hs66.drop 4
  exact⟨mm57,ee58,rfl,((getM_eq (by omega) he22 he35 he51).trans he59),hok60,hs67⟩
theorem numbers_spec {w0 w:World}{L:List Asn}{p:Nat}(hs:St w0 (L) w):Calls Tryz.prog 17 #[zP p 0] w (Ret fun rv w'=>∃ (b:Nat),rv=zL b 0 5 5∧St w0 ((Cel b #[zP p 1,zP p 2,zP p 3,zP p 4,zP p 5] 73)::L) w'):=by
 refine Zen (args:=[zP p 0]) Tryz.func17 Tryz.ntmps17 ?_
 refine Zn [(0,zP p 0)] ?_
 refine Zs ?_
 refine Zqt (.rd 0 .done) ?_
 refine Zr 0 1 [] ?_
 refine Zd (Zt (Zs ?_))
 refine GoC.regD [0,1,3,0,8,24,0,64,192,0,512,1536,0,4096,12288,32767,65535] (.rd 0 (.rd 1 (.rd 2 (.rd 3 (.rd 4 (.rd 5 (.rd 6 (.rd 7 (.rd 8 (.rd 9 (.rd 10 (.rd 11 (.rd 12 (.rd 13 (.rd 14 (.ef 15 (.rd 16 .done))))))))))))))))) (by kernel_rfl) (by kernel_rfl) noPan_body (by kernel_rfl) hs ?_
 intro w1 hs2 hw3
 refine Zr 0 15 [] ?_
 refine GoR.sliceLit rfl (by kernel_rfl) (t:=70) (e:=73) (n:=5) (ps:=[(0,zP p 1),(1,zP p 2),(2,zP p 3),(3,zP p 4),(4,zP p 5)]) (by kernel_rfl) (by kernel_rfl) (ti:=Tryz.t73) (z:=.pointer none) (by kernel_rfl) (by kernel_rfl) (by decide) (by decide) (cs:=#[zP p 1,zP p 2,zP p 3,zP p 4,zP p 5]) (by kernel_rfl) hs2 ?_
 intro b4 w5 hs6 hz7
 refine⟨Zqo,?_⟩
 refine Zr 16 1 [] ?_
 refine Zd (Zt (Ze ?_))
 refine Zq1 (v:=zL b4 0 5 5) ?_
 exact⟨b4,rfl,hs6⟩
def ptC (x:Nat×Nat):Array Value:=#[zP x.1 x.2]
theorem ptF:CellF ptC 1:=⟨fun _=>rfl,fun _=>rfl⟩
theorem ptsOK:ElemOK Tryz.prog 75 78 1 8:=⟨by kernel_rfl,⟨Tryz.t78,.pointer none,by kernel_rfl,by kernel_rfl,by kernel_rfl,by kernel_rfl,by kernel_rfl⟩,by decide⟩
theorem texts_spec {w0 w:World}{L:List Asn}{p:Nat}(hs:St w0 (L) w):Calls Tryz.prog 19 #[zP p 6] w (Ret fun rv w'=>∃ (b:Nat),rv=zL b 0 4 4∧St w0 ((Sl (some ⟨b,0,none⟩) 4 78 1 ptC ([((p,7):Nat×Nat),((p,8):Nat×Nat),((p,9):Nat×Nat),((p,10):Nat×Nat)]))::L) w'):=by
 refine Zen (args:=[zP p 6]) Tryz.func19 Tryz.ntmps19 ?_
 refine Zn [(0,zP p 6)] ?_
 refine Zs ?_
 refine Zqt (.rd 0 .done) ?_
 refine Zr 0 1 [] ?_
 refine Zd (Zt (Zs ?_))
 refine GoC.regD [0,1,3,0,8,24,0,64,192,0,512,1536,4095,8191] (.rd 0 (.rd 1 (.rd 2 (.rd 3 (.rd 4 (.rd 5 (.rd 6 (.rd 7 (.rd 8 (.rd 9 (.rd 10 (.rd 11 (.ef 12 (.rd 13 .done)))))))))))))) (by kernel_rfl) (by kernel_rfl) noPan_body (by kernel_rfl) hs ?_
 intro w1 hs2 hw3
 refine Zr 0 12 [] ?_
 refine GoR.sliceLit rfl (by kernel_rfl) (t:=75) (e:=78) (n:=4) (ps:=[(0,zP p 7),(1,zP p 8),(2,zP p 9),(3,zP p 10)]) (by kernel_rfl) (by kernel_rfl) (ti:=Tryz.t78) (z:=.pointer none) (by kernel_rfl) (by kernel_rfl) (by decide) (by decide) (cs:=#[zP p 7,zP p 8,zP p 9,zP p 10]) (by kernel_rfl) hs2 ?_
 intro b4 w5 hs6 hz7
 have hs8:St w0 ((Sl (some ⟨b4,0,none⟩) 4 78 1 ptC ([((p,7):Nat×Nat),((p,8):Nat×Nat),((p,9):Nat×Nat),((p,10):Nat×Nat)]))::L) w5:=St.slOf (l:=[((p,7):Nat×Nat),((p,8):Nat×Nat),((p,9):Nat×Nat),((p,10):Nat×Nat)]) (f:=ptC) hs6 hz7 (ptF).size (by simp only [lC,lN,maxLen];omega) (by kernel_rfl)
 refine⟨Zqo,?_⟩
 refine Zr 13 1 [] ?_
 refine Zd (Zt (Ze ?_))
 refine Zq1 (v:=zL b4 0 4 4) ?_
 exact⟨b4,rfl,hs8⟩
def withinB (n:Int) (a:Int) (b:Int):Bool :=
 (decide ((n:Int) ≥ a)) && (decide ((n:Int)≤b))
theorem within_spec {w0 w:World}{L:List Asn}(n:Int) (a:Int) (b:Int) (hs:St w0 (L) w):Calls Tryz.prog 24 #[.int .i64 n,.int .i64 a,.int .i64 b] w (Ret fun rv w'=>rv=.bool (withinB n a b)∧St w0 (L) w'):=by
 refine Zen (args:=[.int .i64 n,.int .i64 a,.int .i64 b]) Tryz.func24 Tryz.ntmps24 ?_
 refine Zn [(0,.int .i64 n),(1,.int .i64 a),(2,.int .i64 b)] ?_
 refine Zs ?_
 refine Zqt (.rd 0 .done) ?_
 refine Zr 0 1 [] ?_
 refine Zd (Zt (Zs ?_))
 refine GoC.join (T:=Unit) (E:=fun _=>[(6,.bool ((decide ((n:Int) ≥ a)) && (decide ((n:Int)≤b))))]) (F:=fun _ w=>St w0 (L) w) ?_ ?_
 ·refine Zqt (.rd 0 (.rd 1 (.rd 2 (.rd 3 (.rd 4 (.rd 5 (.rd 6 (.rd 7 (.rd 8 .done))))))))) ?_
  refine Zr 0 4 [] ?_
  rcases Bool.eq_false_or_eq_true (decide ((n:Int) ≥ a)) with h1|h1
  ·refine Zqs 10 true h1 ?_
   have h1':(n:Int) ≥ a:=of_decide_eq_true h1
   refine Zr 4 5 [] ?_
   refine Zd ?_
   refine GoQ.pick [6] (S':=[(6,.bool (decide ((n:Int)≤b)))]) (by kernel_rfl) ?_
   exact GoQ.meet1 () (by first|rfl|(simp only [h1,Bool.not_true,Bool.not_false,Bool.true_or,Bool.false_or,Bool.true_and,Bool.false_and,Bool.or_true,Bool.or_false,Bool.and_true,Bool.and_false];done)|(simp [h1];done)) hs
  ·refine Zqs 10 false h1 ?_
   have h1':¬ ((n:Int) ≥ a):=of_decide_eq_false h1
   refine Zr 4 5 [] ?_
   refine Zd ?_
   refine GoQ.pick [6] (S':=[(6,.bool false)]) (by kernel_rfl) ?_
   exact GoQ.meet1 () (by first|rfl|(simp only [h1,Bool.not_true,Bool.not_false,Bool.true_or,Bool.false_or,Bool.true_and,Bool.false_and,Bool.or_true,Bool.or_false,Bool.and_true,Bool.and_false];done)|(simp [h1];done)) hs
 intro _ w2 hs3
 refine Zt (Ze ?_)
 refine Zq1 (v:=.bool ((decide ((n:Int) ≥ a)) && (decide ((n:Int)≤b)))) ?_
 have hr:withinB n a b=((decide ((n:Int) ≥ a)) && (decide ((n:Int)≤b))):=by rw [withinB]
 exact⟨(by first|rfl|(rw [hr];done)|(rw [hr];rfl)),(by first|exact hs3|(rw [hr];exact hs3))⟩
def emptyB (p:TPk):Bool :=
 if ((p.fr:Int) == 0)=true then
  if ((p.tw:Int) == 0)=true then
   if (decide (p.kn=dVc))=true then
    ((p.ml.length:Nat):Int) == 0
   else
    false
  else
   false
 else
  false
theorem empty_spec {w0 w:World}{L:List Asn}(p:TPk) (hs:St w0 (L) w):Calls Tryz.prog 26 #[.agg (TPk.cells p)] w (Ret fun rv w'=>rv=.bool (emptyB p)∧St w0 (L) w'):=by
 refine Zen (args:=[.agg (TPk.cells p)]) Tryz.func26 Tryz.ntmps26 ?_
 refine Zn [(0,.agg (TPk.cells p))] ?_
 refine Zs ?_
 refine Zqt (.ef 0 (.rd 1 .done)) ?_
 refine GoR.box rfl rfl (by kernel_rfl) (v:=.agg (TPk.cells p)) (by kernel_rfl) hs (cs:=TPk.cells p) (by kernel_rfl) ?_
 intro b1 w2 hs3
 refine⟨Zqo,?_⟩
 refine Zr 1 1 [] ?_
 refine Zd (Zt (Zs ?_))
 refine Zqt (.rd 0 (.rd 1 (.rd 2 (.rd 3 (.rd 4 (.rd 5 (.rd 6 (.rd 7 (.rd 8 (.rd 9 (.rd 10 (.rd 11 (.rd 12 (.rd 13 (.rd 14 (.rd 15 (.rd 16 (.rd 17 (.rd 18 (.rd 19 (.rd 20 .done))))))))))))))))))))) ?_
 refine Zp 0 4 [(1,.gen [.int .i64 p.fr])] [(1,[.cell ⟨b1,0,none⟩ (.int .i64 p.fr)])] (ak (okc (hs3.cell 0 rfl (by kernel_rfl)) ok0) ak0) ?_
 rcases Bool.eq_false_or_eq_true ((p.fr:Int) == 0) with h4|h4
 ·refine Zqs 6 true h4 ?_
  have h4':(p.fr:Int)=0:=ieqT h4
  refine Zp 4 5 [(5,.gen [.int .i64 p.tw])] [(5,[.cell ⟨b1,1,none⟩ (.int .i64 p.tw)])] (ak (okc (hs3.cell 0 rfl (by kernel_rfl)) ok0) ak0) ?_
  rcases Bool.eq_false_or_eq_true ((p.tw:Int) == 0) with h5|h5
  ·refine Zqs 11 true h5 ?_
   have h5':(p.tw:Int)=0:=ieqT h5
   refine Zp 9 3 [(10,.agg (VecD.cells p.kn))] [(10,[.prop (Array.size (VecD.cells p.kn)=11),.cells ⟨b1,2,none⟩ (VecD.cells p.kn)])] (ak (okp (by kernel_rfl) (oka (hs3.cells 0 2 rfl (by kernel_rfl)) ok0)) ak0) ?_
   refine GoR.eqAgg rfl (by kernel_rfl) (b:=true) (t:=32) (xs:=VecD.cells p.kn) (ys:=VecD.cells dVc) (m:=2) (by kernel_rfl) (by kernel_rfl) (by decide) (by kernel_rfl) (r:=decide (p.kn=dVc)) (aggEq  (vecEq p.kn dVc)) ?_
   refine Zr 13 2 [] ?_
   rcases Bool.eq_false_or_eq_true (decide (p.kn=dVc)) with h6|h6
   ·refine Zqs 17 true h6 ?_
    have h6':p.kn=dVc:=of_decide_eq_true h6
    refine Zp 15 6 [(16,.gen [.slice p.ma p.ml.length p.mc])] [(16,[.cell ⟨b1,13,none⟩ (.slice p.ma p.ml.length p.mc)])] (ak (okc (hs3.cell 0 rfl (by kernel_rfl)) ok0) ak0) ?_
    refine Zd (Zt (Ze ?_))
    refine Zq1 (v:=.bool (((p.ml.length:Nat):Int) == 0)) ?_
    have hr:emptyB p=(((p.ml.length:Nat):Int) == 0):=by rw [emptyB,if_pos h4,if_pos h5,if_pos h6]
    have hs7:St w0 (L) w2:=hs3.drop 1
    exact⟨(by first|rfl|(rw [hr];done)|(rw [hr];rfl)),(by first|exact hs7|(rw [hr];exact hs7))⟩
   ·refine Zqs 17 false h6 ?_
    have h6':¬ (p.kn=dVc):=of_decide_eq_false h6
    refine Zr 15 6 [] ?_
    refine Zd (Zt (Ze ?_))
    refine Zq1 (v:=.bool false) ?_
    have hr:emptyB p=false:=by rw [emptyB,if_pos h4,if_pos h5,if_neg (nF h6)]
    have hs8:St w0 (L) w2:=hs3.drop 1
    exact⟨(by first|rfl|(rw [hr];done)|(rw [hr];rfl)),(by first|exact hs8|(rw [hr];exact hs8))⟩
  ·refine Zqs 11 false h5 ?_
   have h5':¬ ((p.tw:Int)=0):=ieqF h5
   refine Zr 9 12 [] ?_
   refine Zd (Zt (Ze ?_))
   refine Zq1 (v:=.bool false) ?_
   have hr:emptyB p=false:=by rw [emptyB,if_pos h4,if_neg (nF h5)]
   have hs9:St w0 (L) w2:=hs3.drop 1
   exact⟨(by first|rfl|(rw [hr];done)|(rw [hr];rfl)),(by first|exact hs9|(rw [hr];exact hs9))⟩
 ·refine Zqs 6 false h4 ?_
  have h4':¬ ((p.fr:Int)=0):=ieqF h4
  refine Zr 4 17 [] ?_
  refine Zd (Zt (Ze ?_))
  refine Zq1 (v:=.bool false) ?_
  have hr:emptyB p=false:=by rw [emptyB,if_neg (nF h4)]
  have hs10:St w0 (L) w2:=hs3.drop 1
  exact⟨(by first|rfl|(rw [hr];done)|(rw [hr];rfl)),(by first|exact hs10|(rw [hr];exact hs10))⟩
def noneB (x:TBd):Bool :=
 if ((x.kd:Int) == 0)=true then
  if ((x.vw:Int) == 0)=true then
   if ((x.k:Int) == 0)=true then
    if (decide (x.rq=dRq))=true then
     if (((x.ql.length:Nat):Int) == 0)=true then
      decide (x.dg=dD32)
     else
      false
    else
     false
   else
    false
  else
   false
 else
  false
theorem none_spec {w0 w:World}{L:List Asn}(x:TBd) (hs:St w0 (L) w):Calls Tryz.prog 27 #[.agg (TBd.cells x)] w (Ret fun rv w'=>rv=.bool (noneB x)∧St w0 (L) w'):=by
 refine Zen (args:=[.agg (TBd.cells x)]) Tryz.func27 Tryz.ntmps27 ?_
 refine Zn [(0,.agg (TBd.cells x))] ?_
 refine Zs ?_
 refine Zqt (.ef 0 (.rd 1 .done)) ?_
 refine GoR.box rfl rfl (by kernel_rfl) (v:=.agg (TBd.cells x)) (by kernel_rfl) hs (cs:=TBd.cells x) (by kernel_rfl) ?_
 intro b1 w2 hs3
 refine⟨Zqo,?_⟩
 refine Zr 1 1 [] ?_
 refine Zd (Zt (Zs ?_))
 refine Zqt (.rd 0 (.rd 1 (.rd 2 (.rd 3 (.rd 4 (.rd 5 (.rd 6 (.rd 7 (.rd 8 (.rd 9 (.rd 10 (.rd 11 (.rd 12 (.rd 13 (.rd 14 (.rd 15 (.rd 16 (.rd 17 (.rd 18 (.rd 19 (.rd 20 (.rd 21 (.rd 22 (.rd 23 (.rd 24 (.rd 25 (.rd 26 (.rd 27 (.rd 28 (.rd 29 (.rd 30 (.rd 31 .done)))))))))))))))))))))))))))))))) ?_
 refine Zp 0 4 [(1,.gen [.int .u8 x.kd])] [(1,[.cell ⟨b1,0,none⟩ (.int .u8 x.kd)])] (ak (okc (hs3.cell 0 rfl (by kernel_rfl)) ok0) ak0) ?_
 rcases Bool.eq_false_or_eq_true ((x.kd:Int) == 0) with h4|h4
 ·refine Zqs 6 true h4 ?_
  have h4':(x.kd:Int)=0:=ieqT h4
  refine Zp 4 5 [(5,.gen [.int .u64 x.vw])] [(5,[.cell ⟨b1,1,none⟩ (.int .u64 x.vw)])] (ak (okc (hs3.cell 0 rfl (by kernel_rfl)) ok0) ak0) ?_
  rcases Bool.eq_false_or_eq_true ((x.vw:Int) == 0) with h5|h5
  ·refine Zqs 11 true h5 ?_
   have h5':(x.vw:Int)=0:=ieqT h5
   refine Zp 9 5 [(10,.gen [.int .u64 x.k])] [(10,[.cell ⟨b1,2,none⟩ (.int .u64 x.k)])] (ak (okc (hs3.cell 0 rfl (by kernel_rfl)) ok0) ak0) ?_
   rcases Bool.eq_false_or_eq_true ((x.k:Int) == 0) with h6|h6
   ·refine Zqs 16 true h6 ?_
    have h6':(x.k:Int)=0:=ieqT h6
    refine Zp 14 3 [(15,.agg (TRq.cells x.rq))] [(15,[.prop (Array.size (TRq.cells x.rq)=40),.cells ⟨b1,3,none⟩ (TRq.cells x.rq)])] (ak (okp (by kernel_rfl) (oka (hs3.cells 0 3 rfl (by kernel_rfl)) ok0)) ak0) ?_
    refine GoR.eqAgg rfl (by kernel_rfl) (b:=true) (t:=27) (xs:=TRq.cells x.rq) (ys:=TRq.cells dRq) (m:=3) (by kernel_rfl) (by kernel_rfl) (by decide) (by kernel_rfl) (r:=decide (x.rq=dRq)) (aggEq  (rqEq x.rq dRq)) ?_
    refine Zr 18 2 [] ?_
    rcases Bool.eq_false_or_eq_true (decide (x.rq=dRq)) with h7|h7
    ·refine Zqs 22 true h7 ?_
     have h7':x.rq=dRq:=of_decide_eq_true h7
     refine Zp 20 6 [(21,.gen [.slice x.qa x.ql.length x.qc])] [(21,[.cell ⟨b1,43,none⟩ (.slice x.qa x.ql.length x.qc)])] (ak (okc (hs3.cell 0 rfl (by kernel_rfl)) ok0) ak0) ?_
     rcases Bool.eq_false_or_eq_true (((x.ql.length:Nat):Int) == 0) with h8|h8
     ·refine Zqs 28 true h8 ?_
      have h8':((x.ql.length:Nat):Int)=0:=ieqT h8
      refine Zp 26 3 [(27,.agg (D32.cells x.dg))] [(27,[.prop (Array.size (D32.cells x.dg)=32),.cells ⟨b1,44,none⟩ (D32.cells x.dg)])] (ak (okp (by kernel_rfl) (oka (hs3.cells 0 44 rfl (by kernel_rfl)) ok0)) ak0) ?_
      refine GoR.eqAgg rfl (by kernel_rfl) (b:=true) (t:=25) (xs:=D32.cells x.dg) (ys:=D32.cells dD32) (m:=2) (by kernel_rfl) (by kernel_rfl) (by decide) (by kernel_rfl) (r:=decide (x.dg=dD32)) (aggEq  (digEq x.dg dD32)) ?_
      refine Zr 30 2 [] ?_
      refine Zd (Zt (Ze ?_))
      refine Zq1 (v:=.bool (decide (x.dg=dD32))) ?_
      have hr:noneB x=decide (x.dg=dD32):=by rw [noneB,if_pos h4,if_pos h5,if_pos h6,if_pos h7,if_pos h8]
      have hs9:St w0 (L) w2:=hs3.drop 1
      exact⟨(by first|rfl|(rw [hr];done)|(rw [hr];rfl)),(by first|exact hs9|(rw [hr];exact hs9))⟩
     ·refine Zqs 28 false h8 ?_
      have h8':¬ (((x.ql.length:Nat):Int)=0):=ieqF h8
      refine Zr 26 6 [] ?_
      refine Zd (Zt (Ze ?_))
      refine Zq1 (v:=.bool false) ?_
      have hr:noneB x=false:=by rw [noneB,if_pos h4,if_pos h5,if_pos h6,if_pos h7,if_neg (nF h8)]
      have hs10:St w0 (L) w2:=hs3.drop 1
      exact⟨(by first|rfl|(rw [hr];done)|(rw [hr];rfl)),(by first|exact hs10|(rw [hr];exact hs10))⟩
    ·refine Zqs 22 false h7 ?_
     have h7':¬ (x.rq=dRq):=of_decide_eq_false h7
     refine Zr 20 12 [] ?_
     refine Zd (Zt (Ze ?_))
     refine Zq1 (v:=.bool false) ?_
     have hr:noneB x=false:=by rw [noneB,if_pos h4,if_pos h5,if_pos h6,if_neg (nF h7)]
     have hs11:St w0 (L) w2:=hs3.drop 1
     exact⟨(by first|rfl|(rw [hr];done)|(rw [hr];rfl)),(by first|exact hs11|(rw [hr];exact hs11))⟩
   ·refine Zqs 16 false h6 ?_
    have h6':¬ ((x.k:Int)=0):=ieqF h6
    refine Zr 14 18 [] ?_
    refine Zd (Zt (Ze ?_))
    refine Zq1 (v:=.bool false) ?_
    have hr:noneB x=false:=by rw [noneB,if_pos h4,if_pos h5,if_neg (nF h6)]
    have hs12:St w0 (L) w2:=hs3.drop 1
    exact⟨(by first|rfl|(rw [hr];done)|(rw [hr];rfl)),(by first|exact hs12|(rw [hr];exact hs12))⟩
  ·refine Zqs 11 false h5 ?_
   have h5':¬ ((x.vw:Int)=0):=ieqF h5
   refine Zr 9 23 [] ?_
   refine Zd (Zt (Ze ?_))
   refine Zq1 (v:=.bool false) ?_
   have hr:noneB x=false:=by rw [noneB,if_pos h4,if_neg (nF h5)]
   have hs13:St w0 (L) w2:=hs3.drop 1
   exact⟨(by first|rfl|(rw [hr];done)|(rw [hr];rfl)),(by first|exact hs13|(rw [hr];exact hs13))⟩
 ·refine Zqs 6 false h4 ?_
  have h4':¬ ((x.kd:Int)=0):=ieqF h4
  refine Zr 4 28 [] ?_
  refine Zd (Zt (Ze ?_))
  refine Zq1 (v:=.bool false) ?_
  have hr:noneB x=false:=by rw [noneB,if_neg (nF h4)]
  have hs14:St w0 (L) w2:=hs3.drop 1
  exact⟨(by first|rfl|(rw [hr];done)|(rw [hr];rfl)),(by first|exact hs14|(rw [hr];exact hs14))⟩
theorem carrier_spec {w0 w:World}{L:List Asn}(x:TBd) (hs:St w0 (L) w):Calls Tryz.prog 23 #[.agg (TBd.cells x)] w (Ret fun rv w'=>rv=.agg (TMs.cells (⟨1,1,dVc,x,dD32⟩:TMs))∧St w0 (L) w'):=by
 refine Zen (args:=[.agg (TBd.cells x)]) Tryz.func23 Tryz.ntmps23 ?_
 refine Zn [(0,.agg (TBd.cells x))] ?_
 refine Zs ?_
 refine Zqt (.ef 0 (.ef 1 .done)) ?_
 refine GoR.box rfl rfl (by kernel_rfl) (v:=.agg (TBd.cells x)) (by kernel_rfl) hs (cs:=TBd.cells x) (by kernel_rfl) ?_
 intro b1 w2 hs3
 refine⟨Zqo,?_⟩
 refine GoR.alloc rfl rfl (by kernel_rfl) (z:=.agg (TMs.cells dMs)) (by kernel_rfl) hs3 (cs:=TMs.cells dMs) (by kernel_rfl) ?_
 intro b4 w5 hs6
 refine⟨Zqo,?_⟩
 refine Zd (Zt (Zs ?_))
 refine Zqt (.rd 0 (.rd 1 (.ef 2 .done))) ?_
 refine Zp 0 2 [(0,.agg (TBd.cells x))] [(0,[.prop (Array.size (TBd.cells x)=76),.cells ⟨b1,0,none⟩ (TBd.cells x)])] (ak (okp (by kernel_rfl) (oka (hs6.cells 1 0 rfl (by kernel_rfl)) ok0)) ak0) ?_
 refine Zw (b:=b4) (off:=0) (v:=.agg (TMs.cells (⟨1,1,dVc,x,dD32⟩:TMs))) (ti:=Tryz.t58) (by kernel_rfl) hs6 0 (L':=(Cel b4 (TMs.cells (⟨1,1,dVc,x,dD32⟩:TMs)) 58)::(Cel b1 (TBd.cells x) 30)::L) ?_
 intro w7 hs8
 refine⟨Zqo,?_⟩
 refine Zd (Zt (Ze ?_))
 refine GoQ.done (.inl rfl) (v:=.agg (TMs.cells (⟨1,1,dVc,x,dD32⟩:TMs))) (fun a hf=>resultsA rfl (by kernel_rfl) (ti:=Tryz.t58) (by kernel_rfl) (by kernel_rfl) (vs:=(TMs.cells (⟨1,1,dVc,x,dD32⟩:TMs))) (by kernel_rfl) (hs8.cells 0 0 rfl (by kernel_rfl)) a hf) ?_
 have hs9:St w0 (L) w7:=hs8.drop 2
 exact⟨rfl,hs9⟩
theorem packed1_spec {w0 w:World}{L:List Asn}(m:TMs) (hm:MsOK m) (hr:∀ w,St w0 L w→RowsAt w m.bd.qa m.bd.ql.length 2 (fun k=>TPr.cells (m.bd.ql.getD k dPr))) (hs:St w0 (L) w):Calls Tryz.prog 53 #[.agg (TMs.cells m)] w (Ret fun rv w'=>rv=.bool (!mayM m)∧St w0 (L) w'):=by
 refine Zen (args:=[.agg (TMs.cells m)]) Tryz.func53 Tryz.ntmps53 ?_
 refine Zn [(0,.agg (TMs.cells m))] ?_
 refine Zs ?_
 refine Zqt (.ef 0 (.rd 1 .done)) ?_
 refine GoR.box rfl rfl (by kernel_rfl) (v:=.agg (TMs.cells m)) (by kernel_rfl) hs (cs:=TMs.cells m) (by kernel_rfl) ?_
 intro b1 w2 hs3
 refine⟨Zqo,?_⟩
 refine Zr 1 1 [] ?_
 refine Zd (Zt (Zs ?_))
 refine Zqt (.rd 0 (.ef 1 (.rd 2 (.rd 3 .done)))) ?_
 refine Zp 0 1 [(0,.agg (TMs.cells m))] [(0,[.prop (Array.size (TMs.cells m)=121),.cells ⟨b1,0,none⟩ (TMs.cells m)])] (ak (okp (by kernel_rfl) (oka (hs3.cells 0 0 rfl (by kernel_rfl)) ok0)) ak0) ?_
 refine Zqa (f:=25) (args:=#[.agg (TMs.cells m)]) Tryz.call25 (may_spec m hm (fun w h=>hr _ (h.drop 1)) hs3) ?_
 rintro v5 w6 ⟨rfl,hs4⟩
 refine⟨Zqo,?_⟩
 refine Zr 2 2 [] ?_
 refine Zd (Zt (Ze ?_))
 refine Zq1 (v:=.bool (!(mayM m))) ?_
 have hs7:St w0 (L) w6:=hs4.drop 1
 exact⟨rfl,hs7⟩
theorem index_spec {w0 w:World}{L:List Asn}{ad:Option Addr}{c:Nat}(l:List TMs) (hms:∀ k,k<l.length→MsOK (l.getD k dMs)∧∀ w,St w0 L w→RowsAt w (l.getD k dMs).bd.qa (l.getD k dMs).bd.ql.length 2 (fun j=>TPr.cells ((l.getD k dMs).bd.ql.getD j dPr))) (hll:l.length≤1000) (hr:∀ w,St w0 L w→RowsAt w ad l.length 121 (fun k=>TMs.cells (l.getD k dMs))) (hs:St w0 (L) w):Calls Tryz.prog 70 #[.slice ad l.length c,.func (.func 53) #[] #[]] w (Ret fun rv w'=>∃ (v:Int),rv=.int .i64 v∧decide (v ≥ 0)=(l.any fun m=>!mayM m)∧St w0 (L) w'):=by
 refine Zen (args:=[.slice ad l.length c,.func (.func 53) #[] #[]]) Tryz.func70 Tryz.ntmps70 ?_
 refine Zn [(0,.slice ad l.length c),(1,.func (.func 53) #[] #[])] ?_
 refine Zs ?_
 refine Zqt (.rd 0 .done) ?_
 refine Zr 0 1 [] ?_
 refine Zd (Zt (Zs (Zs ?_)))
 refine Zqt (.rd 0 (.rd 1 (.rd 2 .done))) ?_
 refine Zr 0 3 [] ?_
 refine Zd (Zt (Zb ?_))
 refine GoC.loop (T:=Nat×(Option Addr)) (fun gg=>[(0,.slice gg.2 l.length c),(1,.func (.func 53) #[] #[]),(7,.int .i64 (l.length:Nat)),(8,.int .i64 (gg.1:Nat))]) (fun gg w=>(gg.1≤l.length∧((l.take gg.1).any fun m=>!mayM m)=false∧∀ w,St w0 L w→RowsAt w gg.2 l.length 121 (fun q=>TMs.cells (l.getD q dMs)))∧St w0 (L) w) (fun gg=>l.length-gg.1) (0,ad) [0,1,7,8] (by kernel_rfl) ⟨⟨Nat.zero_le _,rfl,hr⟩,hs⟩ ?_
 rintro⟨k,aq⟩ w1 ⟨hp0,hs2⟩
 have hp:k≤l.length∧((l.take k).any fun m=>!mayM m)=false∧∀ w,St w0 L w→RowsAt w aq l.length 121 (fun q=>TMs.cells (l.getD q dMs)):=hp0
 have hs3:St w0 (L) w1:=hs2
 refine Zn [(0,.slice aq l.length c),(1,.func (.func 53) #[] #[]),(7,.int .i64 (l.length:Nat)),(8,.int .i64 (k:Nat))] ?_
 have hw:=hp.2.2
 refine Zs ?_
 refine Zqt (.rd 0 .done) ?_
 refine Zr 0 1 [] ?_
 refine Zd (Zt (Zs ?_))
 refine Zqc (t:=decide (((k:Nat):Int)<(l.length:Nat))) (fun h4=>?_) (fun h4=>?_)
 ·have h4':((k:Nat):Int)<(l.length:Nat):=of_decide_eq_true h4
  have hk:k<l.length:=by omega
  obtain⟨ab5,ao6,rfl⟩:=RowsAt.isSome (hw _ (hs3.drop 0)) (by omega)
  refine Zk (Zt (Zs (Zb (Zs ?_))))
  refine Zqt (.rd 0 (.rd 1 .done)) ?_
  refine Zr 0 2 [] ?_
  refine Zd (Zt (Zs ?_))
  refine Zqt (.rd 0 (.rd 1 (.rd 2 (.rd 3 (.rd 4 (.ef 5 .done)))))) ?_
  refine Zp 0 5 [(3,.as_ (zP ab5 (ao6+(k*121))) .at_),(4,.agg (TMs.cells (l.getD k dMs)))] [(3,[.prop (0≤((k:Nat):Int)∧((k:Nat):Int)<((l.length:Nat):Int)),.prop (Value.pointer (some (Addr.add ⟨ab5,ao6,none⟩ (Int.toNat (k:Nat)*121)))=Value.pointer (some ⟨ab5,ao6+(k*121),none⟩))]),(4,[.prop (Array.size (TMs.cells (l.getD k dMs))=121),.cells ⟨ab5,ao6+(k*121),none⟩ (TMs.cells (l.getD k dMs))])] (ak (okp (by omega) (okp (ptrAdd _ _ _) ok0)) (ak (okp (by kernel_rfl) (oka (RowsAt.all0 (hw _ (hs3.drop 0)) (by first|omega|(simp only [List.length_set];omega)|(simp only [List.length_set,lA,lC,lN];omega)) (Nat.le_of_ble_eq_true (by kernel_rfl)) (by kernel_rfl)) ok0)) ak0)) ?_
  refine Zqa (f:=53) (args:=#[.agg (TMs.cells (l.getD k dMs))]) Tryz.call53 (packed1_spec (l.getD k dMs) (hms k hk).1 (fun w h=>(hms k hk).2 w (h.drop 0)) hs3) ?_
  rintro v8 w9 ⟨rfl,hs7⟩
  refine⟨Zqo,?_⟩
  refine Zd (Zt ?_)
  refine Zqc (t:=!mayM (l.getD k dMs)) (fun h10=>?_) (fun h10=>?_)
  ·refine Zs ?_
   refine Zqt (.rd 0 (.rd 1 .done)) ?_
   refine Zr 0 2 [] ?_
   refine Zd (Zt (Ze (Zl (Zy (GoQ.skipLR (Zl (Zy ?_)))))))
   refine Zq1 (v:=.int .i64 (k:Nat)) ?_
   exact⟨(k:Nat),rfl,(by rw [show(l.any fun m=>!mayM m)=true from List.any_eq_true.2 ⟨_,getD_mem (d:=dMs) hk,h10⟩];exact decide_eq_true (by omega)),hs7⟩
  ·refine Zk (Zm (Zt ?_))
   refine Zqt (.rd 0 (.rd 1 .done)) ?_
   refine Zp 0 2 [(0,.as_ (.int .i64 ((k:Nat)+1)) (.gen []))] [(0,[.prop (Value.int .i64 (IntKind.i64.wrap ((k:Nat)+1))=Value.int .i64 ((k:Nat)+1))])] (ak (okp (i64ok (by omega) (by omega)) ok0) ak0) ?_
   refine Zd ?_
   exact GoQ.back (k+1,some ⟨ab5,ao6,none⟩) [0,1,7,8] (by kernel_rfl) (by show l.length-(k+1)<l.length-k;omega) ⟨⟨by omega,by rw [take_succ_getD (d:=dMs) hk,List.any_append,hp.2.1];simp only [List.any_cons,List.any_nil,Bool.or_false,Bool.false_or];exact h10,hw⟩,hs7⟩
 ·have h4':¬ (((k:Nat):Int)<(l.length:Nat)):=of_decide_eq_false h4
  have hke:l.take k=l:=List.take_of_length_le (by omega)
  refine Zx (GoQ.skipC (GoQ.skipL (GoQ.hit (Zt (Zs ?_)))))
  refine Zqt (.rd 0 .done) ?_
  refine Zr 0 1 [] ?_
  refine Zd (Zt (Ze ?_))
  refine Zq1 (v:=.int .i64 (-1)) ?_
  exact⟨(-1),rfl,(by rw [← hke,hp.2.1];rfl),hs3⟩
theorem contains_spec {w0 w:World}{L:List Asn}{ad:Option Addr}{c:Nat}(l:List TMs) (hms:∀ k,k<l.length→MsOK (l.getD k dMs)∧∀ w,St w0 L w→RowsAt w (l.getD k dMs).bd.qa (l.getD k dMs).bd.ql.length 2 (fun j=>TPr.cells ((l.getD k dMs).bd.ql.getD j dPr))) (hll:l.length≤1000) (hr:∀ w,St w0 L w→RowsAt w ad l.length 121 (fun k=>TMs.cells (l.getD k dMs))) (hs:St w0 (L) w):Calls Tryz.prog 52 #[.slice ad l.length c,.func (.func 53) #[] #[]] w (Ret fun rv w'=>rv=.bool (l.any fun m=>!mayM m)∧St w0 (L) w'):=by
 refine Zen (args:=[.slice ad l.length c,.func (.func 53) #[] #[]]) Tryz.func52 Tryz.ntmps52 ?_
 refine Zn [(0,.slice ad l.length c),(1,.func (.func 53) #[] #[])] ?_
 refine Zs ?_
 refine Zqt (.rd 0 .done) ?_
 refine Zr 0 1 [] ?_
 refine Zd (Zt (Zs ?_))
 refine Zqt (.rd 0 (.rd 1 (.ef 2 (.rd 3 (.rd 4 .done))))) ?_
 refine Zr 0 2 [] ?_
 refine Zqa (f:=70) (args:=#[.slice ad l.length c,.func (.func 53) #[] #[]]) Tryz.call70 (index_spec l (fun k hk=>⟨(hms k hk).1,fun w h=>(hms k hk).2 w (h.drop 0)⟩) (by first|assumption|omega) (fun w h=>hr _ (h.drop 0)) hs) ?_
 rintro v4 w5 ⟨v1,rfl,hv2,hs3⟩
 refine⟨Zqo,?_⟩
 refine Zr 3 2 [] ?_
 refine Zd (Zt (Ze ?_))
 refine Zq1 (v:=.bool (decide ((v1:Int) ≥ 0))) ?_
 exact⟨(congrArg Value.bool hv2),hs3⟩
def packedB (p:TPk):Bool :=
 if (withinB p.fr 0 255)=true then
  if (withinB p.tw 0 255)=true then
   if (decide (((p.ml.length:Nat):Int)≤8))=true then
    !(p.ml.any fun m=>!mayM m)
   else
    false
  else
   false
 else
  false
theorem packed_spec {w0 w:World}{L:List Asn}(p:TPk) (hms:∀ k,k<p.ml.length→MsOK (p.ml.getD k dMs)∧∀ w,St w0 L w→RowsAt w (p.ml.getD k dMs).bd.qa (p.ml.getD k dMs).bd.ql.length 2 (fun j=>TPr.cells ((p.ml.getD k dMs).bd.ql.getD j dPr))) (hr:∀ w,St w0 L w→RowsAt w p.ma p.ml.length 121 (fun k=>TMs.cells (p.ml.getD k dMs))) (hs:St w0 (L) w):Calls Tryz.prog 28 #[.agg (TPk.cells p)] w (Ret fun rv w'=>rv=.bool (packedB p)∧St w0 (L) w'):=by
 refine Zen (args:=[.agg (TPk.cells p)]) Tryz.func28 Tryz.ntmps28 ?_
 refine Zn [(0,.agg (TPk.cells p))] ?_
 refine Zs ?_
 refine Zqt (.ef 0 (.rd 1 .done)) ?_
 refine GoR.box rfl rfl (by kernel_rfl) (v:=.agg (TPk.cells p)) (by kernel_rfl) hs (cs:=TPk.cells p) (by kernel_rfl) ?_
 intro b1 w2 hs3
 refine⟨Zqo,?_⟩
 refine Zr 1 1 [] ?_
 refine Zd (Zt (Zs ?_))
 refine Zqt (.rd 0 (.rd 1 (.ef 2 (.rd 3 (.rd 4 (.rd 5 (.ef 6 (.rd 7 (.rd 8 (.rd 9 (.rd 10 (.rd 11 (.rd 12 (.rd 13 (.rd 14 (.rd 15 (.rd 16 (.ef 17 (.rd 18 (.rd 19 (.rd 20 .done))))))))))))))))))))) ?_
 refine Zp 0 2 [(1,.gen [.int .i64 p.fr])] [(1,[.cell ⟨b1,0,none⟩ (.int .i64 p.fr)])] (ak (okc (hs3.cell 0 rfl (by kernel_rfl)) ok0) ak0) ?_
 refine Zqa (f:=24) (args:=#[.int .i64 p.fr,.int .i64 0,.int .i64 255]) Tryz.call24 (within_spec p.fr 0 255 hs3) ?_
 rintro v5 w6 ⟨rfl,hs4⟩
 refine⟨Zqo,?_⟩
 refine Zr 3 1 [] ?_
 rcases Bool.eq_false_or_eq_true (withinB p.fr 0 255) with h7|h7
 ·refine Zqs 6 true h7 ?_
  refine Zp 4 2 [(5,.gen [.int .i64 p.tw])] [(5,[.cell ⟨b1,1,none⟩ (.int .i64 p.tw)])] (ak (okc (hs4.cell 0 rfl (by kernel_rfl)) ok0) ak0) ?_
  refine Zqa (f:=24) (args:=#[.int .i64 p.tw,.int .i64 0,.int .i64 255]) Tryz.call24 (within_spec p.tw 0 255 hs4) ?_
  rintro v9 w10 ⟨rfl,hs8⟩
  refine⟨Zqo,?_⟩
  refine Zr 7 2 [] ?_
  rcases Bool.eq_false_or_eq_true (withinB p.tw 0 255) with h11|h11
  ·refine Zqs 11 true h11 ?_
   refine Zp 9 6 [(10,.gen [.slice p.ma p.ml.length p.mc])] [(10,[.cell ⟨b1,13,none⟩ (.slice p.ma p.ml.length p.mc)])] (ak (okc (hs8.cell 0 rfl (by kernel_rfl)) ok0) ak0) ?_
   rcases Bool.eq_false_or_eq_true (decide (((p.ml.length:Nat):Int)≤8)) with h12|h12
   ·refine Zqs 17 true h12 ?_
    have h12':((p.ml.length:Nat):Int)≤8:=of_decide_eq_true h12
    refine Zp 15 2 [(16,.gen [.slice p.ma p.ml.length p.mc])] [(16,[.cell ⟨b1,13,none⟩ (.slice p.ma p.ml.length p.mc)])] (ak (okc (hs8.cell 0 rfl (by kernel_rfl)) ok0) ak0) ?_
    refine Zqa (f:=52) (args:=#[.slice p.ma p.ml.length p.mc,.func (.func 53) #[] #[]]) Tryz.call52 (contains_spec p.ml (fun k hk=>⟨(hms k hk).1,fun w h=>(hms k hk).2 w (h.drop 1)⟩) (by first|assumption|omega) (fun w h=>hr _ (h.drop 1)) hs8) ?_
    rintro v14 w15 ⟨rfl,hs13⟩
    refine⟨Zqo,?_⟩
    refine Zr 18 3 [] ?_
    refine Zd (Zt (Ze ?_))
    refine Zq1 (v:=.bool (!(p.ml.any fun m=>!mayM m))) ?_
    have hr:packedB p=!(p.ml.any fun m=>!mayM m):=by rw [packedB,if_pos h7,if_pos h11,if_pos h12]
    have hs16:St w0 (L) w15:=hs13.drop 1
    exact⟨(by first|rfl|(rw [hr];done)|(rw [hr];rfl)),(by first|exact hs16|(rw [hr];exact hs16))⟩
   ·refine Zqs 17 false h12 ?_
    have h12':¬ (((p.ml.length:Nat):Int)≤8):=of_decide_eq_false h12
    refine Zr 15 2 [] ?_
    refine GoR.skip rfl (by kernel_rfl) Zqo ?_
    refine Zr 18 3 [] ?_
    refine Zd (Zt (Ze ?_))
    refine Zq1 (v:=.bool false) ?_
    have hr:packedB p=false:=by rw [packedB,if_pos h7,if_pos h11,if_neg (nF h12)]
    have hs17:St w0 (L) w10:=hs8.drop 1
    exact⟨(by first|rfl|(rw [hr];done)|(rw [hr];rfl)),(by first|exact hs17|(rw [hr];exact hs17))⟩
  ·refine Zqs 11 false h11 ?_
   refine Zr 9 8 [] ?_
   refine GoR.skip rfl (by kernel_rfl) Zqo ?_
   refine Zr 18 3 [] ?_
   refine Zd (Zt (Ze ?_))
   refine Zq1 (v:=.bool false) ?_
   have hr:packedB p=false:=by rw [packedB,if_pos h7,if_neg (nF h11)]
   have hs18:St w0 (L) w10:=hs8.drop 1
   exact⟨(by first|rfl|(rw [hr];done)|(rw [hr];rfl)),(by first|exact hs18|(rw [hr];exact hs18))⟩
 ·refine Zqs 6 false h7 ?_
  refine Zr 4 2 [] ?_
  refine GoR.skip rfl (by kernel_rfl) Zqo ?_
  refine Zr 7 10 [] ?_
  refine GoR.skip rfl (by kernel_rfl) Zqo ?_
  refine Zr 18 3 [] ?_
  refine Zd (Zt (Ze ?_))
  refine Zq1 (v:=.bool false) ?_
  have hr:packedB p=false:=by rw [packedB,if_neg (nF h7)]
  have hs19:St w0 (L) w6:=hs4.drop 1
  exact⟨(by first|rfl|(rw [hr];done)|(rw [hr];rfl)),(by first|exact hs19|(rw [hr];exact hs19))⟩
structure StOK (s:TSt):Prop where
 dw:0≤s.dw∧s.dw≤255
 cl:-9223372036854775808≤s.cl∧s.cl≤9223372036854775807
 wh:-9223372036854775808≤s.wh∧s.wh≤9223372036854775807
 j:-9223372036854775808≤s.j∧s.j≤9223372036854775807
 k:-9223372036854775808≤s.k∧s.k≤9223372036854775807
 n:-9223372036854775808≤s.n∧s.n≤9223372036854775807
 kd:0≤s.op.kd∧s.op.kd≤255
 am:0≤s.op.am∧s.op.am≤18446744073709551615
 bd:BdOK s.bd
 kn:∀ x∈s.pk.kn.toList,0≤x∧x≤18446744073709551615
 tm:0≤s.tm∧s.tm≤18446744073709551615
 at_:0≤s.at_∧s.at_≤18446744073709551615
 pl:∀ z∈s.pl,0≤z∧z<256
 pn:s.pa=none→s.pc=0
theorem car_ok {x:TBd}(h:BdOK x):MsOK ⟨1,1,dVc,x,dD32⟩:=⟨(by dsimp only;decide),(by dsimp only;decide),(fun x hx=>(by decide:∀ x∈dVc.toList,0≤x∧x≤18446744073709551615) x hx),h,dD32_ok⟩
def mayS (s:TSt):Bool :=
 if (!(withinB s.cl (-1) 2147483647))=true then
  false
 else
  if (!(withinB s.wh (-1) 2147483647))=true then
   false
  else
   if (!(withinB s.j (-1) 2147483647))=true then
    false
   else
    if (!(withinB s.k (-1) 2147483647))=true then
     false
    else
     if (decide (((s.op.ky.size:Nat):Int)>255))=true then
      false
     else
      if (decide (((s.op.va.size:Nat):Int)>255))=true then
       false
      else
       if (decide (((s.op.ol.size:Nat):Int)>255))=true then
        false
       else
        if (decide (((s.op.tx.size:Nat):Int)>255))=true then
         false
        else
         if (decide (((s.re.vl.size:Nat):Int)>255))=true then
          false
         else
          if (decide ((s.dw:Int)<1))=true then
           false
          else
           if (decide ((s.dw:Int)>16))=true then
            false
           else
            if (!(withinB s.n (-1) 1099511627776))=true then
             false
            else
             if (!(withinB s.re.er 0 255))=true then
              false
             else
              if (decide (((s.pl.length:Nat):Int)>255))=true then
               false
              else
               if ((s.dw:Int) == 14)=true then
                if (mayM (⟨1,1,dVc,s.bd,dD32⟩:TMs))=true then
                 emptyB s.pk
                else
                 false
               else
                if ((s.dw:Int) == 16)=true then
                 if (noneB s.bd)=true then
                  packedB s.pk
                 else
                  false
                else
                 if (noneB s.bd)=true then
                  emptyB s.pk
                 else
                  false
theorem mayS_spec {w0 w:World}{L:List Asn}(s:TSt) (hs_:StOK s) (hms:∀ k,k<s.pk.ml.length→MsOK (s.pk.ml.getD k dMs)∧∀ w,St w0 L w→RowsAt w (s.pk.ml.getD k dMs).bd.qa (s.pk.ml.getD k dMs).bd.ql.length 2 (fun j=>TPr.cells ((s.pk.ml.getD k dMs).bd.ql.getD j dPr))) (hr1:∀ w,St w0 L w→RowsAt w s.bd.qa s.bd.ql.length 2 (fun k=>TPr.cells (s.bd.ql.getD k dPr))) (hr2:∀ w,St w0 L w→RowsAt w s.pk.ma s.pk.ml.length 121 (fun k=>TMs.cells (s.pk.ml.getD k dMs))) (hr3:∀ w,St w0 L w→RowsAt w s.pa s.pl.length 1 (fun k=>byteC (s.pl.getD k (0:Int)))) (hs:St w0 (L) w):Calls Tryz.prog 7 #[.agg (TSt.cells s)] w (Ret fun rv w'=>rv=.bool (mayS s)∧St w0 (L) w'):=by
 refine Zen (args:=[.agg (TSt.cells s)]) Tryz.func7 Tryz.ntmps7 ?_
 refine Zn [(0,.agg (TSt.cells s))] ?_
 refine Zs ?_
 refine Zqt (.ef 0 (.rd 1 .done)) ?_
 refine GoR.box rfl rfl (by kernel_rfl) (v:=.agg (TSt.cells s)) (by kernel_rfl) hs (cs:=TSt.cells s) (by kernel_rfl) ?_
 intro b1 w2 hs3
 refine⟨Zqo,?_⟩
 refine Zqk [(1,.gen [])] [] [(2,.bool false),(1,zP b1 0)] ak0 ?_
 refine Zd (Zt (Zs (Zs ?_)))
 refine Zqt (.ef 0 (.rd 1 (.rd 2 (.rd 3 .done)))) ?_
 refine Zqa (f:=17) (args:=#[zP b1 0]) Tryz.call17 (numbers_spec hs3) ?_
 rintro v6 w7 ⟨b4,rfl,hs5⟩
 refine⟨Zqo,?_⟩
 refine Zqk [(1,.as_ (zL b4 0 4 5) (.sub 0 4)),(2,.gen []),(3,.gen [])] [(1,[.prop ((4:Int)=((4:Nat):Int)),.prop (((none:Option Operand)=none→(0:Nat)=0)∧(some (Operand.const (.int .i64 4))=none→(4:Nat)=5)∧(0:Nat)≤4∧(4:Nat)≤5),.prop (Value.slice (if 5=0 then (some ⟨b4,0,none⟩) else ((some ⟨b4,0,none⟩):Option Addr).map (fun a=>a.add (0*1))) (4-0) (5-0)=Value.slice (some ⟨b4,0,none⟩) 4 5)])] [(10,.int .i64 0),(9,.int .i64 4),(8,zL b4 0 4 5),(2,.bool false),(1,zP b1 0)] (ak (okp (by omega) (okp ⟨(by first|(intro _;rfl)|(intro hc;cases hc)),(by first|(intro _;rfl)|(intro hc;cases hc)),(by omega),(by omega)⟩ (okp (subSl0 rfl) ok0))) ak0) ?_
 refine Zd (Zt (Zb ?_))
 refine GoC.unroll 12 ?_
 refine Zs ?_
 refine Zqt (.rd 0 .done) ?_
 refine Zqk [(0,.gen [])] [] [(11,.bool true),(10,.int .i64 0),(9,.int .i64 4),(8,zL b4 0 4 5),(2,.bool false),(1,zP b1 0)] ak0 ?_
 refine Zd (Zt (Zs (ZqT (Zk (Zt (Zs (Zb (Zs ?_))))))))
 refine Zqt (.rd 0 (.rd 1 (.rd 2 .done))) ?_
 refine Zqk [(0,.as_ (zP b4 0) .at_),(1,.gen [zP b1 1]),(2,.gen [])] [(0,[.prop (0≤(0:Int)∧(0:Int)<(4:Int)),.prop (Value.pointer (some (Addr.add ⟨b4,0,none⟩ (Int.toNat 0*1)))=Value.pointer (some ⟨b4,0,none⟩))]),(1,[.cell ⟨b4,0,none⟩ (zP b1 1)])] [(4,zP b1 1),(13,zP b1 1),(12,zP b4 0),(11,.bool true),(10,.int .i64 0),(9,.int .i64 4),(8,zL b4 0 4 5),(2,.bool false),(1,zP b1 0)] (ak (okp (by omega) (okp (ptrAdd _ _ _) ok0)) (ak (okc (hs5.cell 0 rfl (by kernel_rfl)) ok0) ak0)) ?_
 refine Zd (Zt (Zs ?_))
 refine Zqt (.rd 0 (.rd 1 (.rd 2 (.ef 3 (.rd 4 .done))))) ?_
 refine Zqk [(0,.gen []),(1,.gen []),(2,.gen [.int .i64 s.cl])] [(2,[.cell ⟨b1,1,none⟩ (.int .i64 s.cl)])] [(16,.int .i64 s.cl),(15,zP b1 1),(14,zP b1 1),(4,zP b1 1),(13,zP b1 1),(12,zP b4 0),(11,.bool true),(10,.int .i64 0),(9,.int .i64 4),(8,zL b4 0 4 5),(2,.bool false),(1,zP b1 0)] (ak (okc (hs5.cell 1 rfl (by kernel_rfl)) ok0) ak0) ?_
 refine Zqa (f:=24) (args:=#[.int .i64 s.cl,.int .i64 (-1),.int .i64 2147483647]) Tryz.call24 (within_spec s.cl (-1) 2147483647 hs5) ?_
 rintro v9 w10 ⟨rfl,hs8⟩
 refine⟨Zqo,?_⟩
 refine Zqk [(4,.gen [])] [] [(18,.bool (!(withinB s.cl (-1) 2147483647))),(17,.bool (withinB s.cl (-1) 2147483647)),(16,.int .i64 s.cl),(15,zP b1 1),(14,zP b1 1),(4,zP b1 1),(13,zP b1 1),(12,zP b4 0),(11,.bool true),(10,.int .i64 0),(9,.int .i64 4),(8,zL b4 0 4 5),(2,.bool false),(1,zP b1 0)] ak0 ?_
 refine Zd (Zt ?_)
 refine Zqc (t:=!(withinB s.cl (-1) 2147483647)) (fun h11=>?_) (fun h11=>?_)
 ·have h11n:(withinB s.cl (-1) 2147483647)=false:=notT h11
  refine Zs ?_
  refine Zqt (.rd 0 .done) ?_
  refine Zqk [(0,.gen [])] [] [(2,.bool false),(18,.bool (!(withinB s.cl (-1) 2147483647))),(17,.bool (withinB s.cl (-1) 2147483647)),(16,.int .i64 s.cl),(15,zP b1 1),(14,zP b1 1),(4,zP b1 1),(13,zP b1 1),(12,zP b4 0),(11,.bool true),(10,.int .i64 0),(9,.int .i64 4),(8,zL b4 0 4 5),(1,zP b1 0)] ak0 ?_
  refine Zd (Zt (Ze (Zl (Zy (GoQ.skipLR (Zl (Zy ?_)))))))
  refine Zq1 (v:=.bool false) ?_
  have hr:mayS s=false:=by rw [mayS,if_pos h11]
  have hs12:St w0 (L) w10:=hs8.drop 2
  exact⟨(by first|rfl|(rw [hr];done)|(rw [hr];rfl)),(by first|exact hs12|(rw [hr];exact hs12))⟩
 ·have h11n:(withinB s.cl (-1) 2147483647)=true:=notF h11
  refine Zk (Zm (Zt ?_))
  refine Zqt (.rd 0 (.rd 1 .done)) ?_
  refine Zqk [(0,.gen []),(1,.gen [])] [] [(10,.int .i64 1),(19,.int .i64 1),(18,.bool (!(withinB s.cl (-1) 2147483647))),(17,.bool (withinB s.cl (-1) 2147483647)),(16,.int .i64 s.cl),(15,zP b1 1),(14,zP b1 1),(4,zP b1 1),(13,zP b1 1),(12,zP b4 0),(11,.bool true),(9,.int .i64 4),(8,zL b4 0 4 5),(2,.bool false),(1,zP b1 0)] ak0 ?_
  refine Zd ?_
  refine GoQ.again ?_
  refine Zs ?_
  refine Zqt (.rd 0 .done) ?_
  refine Zqk [(0,.gen [])] [] [(11,.bool true),(10,.int .i64 1),(19,.int .i64 1),(18,.bool (!(withinB s.cl (-1) 2147483647))),(17,.bool (withinB s.cl (-1) 2147483647)),(16,.int .i64 s.cl),(15,zP b1 1),(14,zP b1 1),(4,zP b1 1),(13,zP b1 1),(12,zP b4 0),(9,.int .i64 4),(8,zL b4 0 4 5),(2,.bool false),(1,zP b1 0)] ak0 ?_
  refine Zd (Zt (Zs (ZqT (Zk (Zt (Zs (Zb (Zs ?_))))))))
  refine Zqt (.rd 0 (.rd 1 (.rd 2 .done))) ?_
  refine Zqk [(0,.as_ (zP b4 1) .at_),(1,.gen [zP b1 2]),(2,.gen [])] [(0,[.prop (0≤(1:Int)∧(1:Int)<(4:Int)),.prop (Value.pointer (some (Addr.add ⟨b4,0,none⟩ (Int.toNat 1*1)))=Value.pointer (some ⟨b4,1,none⟩))]),(1,[.cell ⟨b4,1,none⟩ (zP b1 2)])] [(4,zP b1 2),(13,zP b1 2),(12,zP b4 1),(11,.bool true),(10,.int .i64 1),(19,.int .i64 1),(18,.bool (!(withinB s.cl (-1) 2147483647))),(17,.bool (withinB s.cl (-1) 2147483647)),(16,.int .i64 s.cl),(15,zP b1 1),(14,zP b1 1),(9,.int .i64 4),(8,zL b4 0 4 5),(2,.bool false),(1,zP b1 0)] (ak (okp (by omega) (okp (ptrAdd _ _ _) ok0)) (ak (okc (hs8.cell 0 rfl (by kernel_rfl)) ok0) ak0)) ?_
  refine Zd (Zt (Zs ?_))
  refine Zqt (.rd 0 (.rd 1 (.rd 2 (.ef 3 (.rd 4 .done))))) ?_
  refine Zqk [(0,.gen []),(1,.gen []),(2,.gen [.int .i64 s.wh])] [(2,[.cell ⟨b1,2,none⟩ (.int .i64 s.wh)])] [(16,.int .i64 s.wh),(15,zP b1 2),(14,zP b1 2),(4,zP b1 2),(13,zP b1 2),(12,zP b4 1),(11,.bool true),(10,.int .i64 1),(19,.int .i64 1),(18,.bool (!(withinB s.cl (-1) 2147483647))),(17,.bool (withinB s.cl (-1) 2147483647)),(9,.int .i64 4),(8,zL b4 0 4 5),(2,.bool false),(1,zP b1 0)] (ak (okc (hs8.cell 1 rfl (by kernel_rfl)) ok0) ak0) ?_
  refine Zqa (f:=24) (args:=#[.int .i64 s.wh,.int .i64 (-1),.int .i64 2147483647]) Tryz.call24 (within_spec s.wh (-1) 2147483647 hs8) ?_
  rintro v14 w15 ⟨rfl,hs13⟩
  refine⟨Zqo,?_⟩
  refine Zqk [(4,.gen [])] [] [(18,.bool (!(withinB s.wh (-1) 2147483647))),(17,.bool (withinB s.wh (-1) 2147483647)),(16,.int .i64 s.wh),(15,zP b1 2),(14,zP b1 2),(4,zP b1 2),(13,zP b1 2),(12,zP b4 1),(11,.bool true),(10,.int .i64 1),(19,.int .i64 1),(9,.int .i64 4),(8,zL b4 0 4 5),(2,.bool false),(1,zP b1 0)] ak0 ?_
  refine Zd (Zt ?_)
  refine Zqc (t:=!(withinB s.wh (-1) 2147483647)) (fun h16=>?_) (fun h16=>?_)
  ·have h16n:(withinB s.wh (-1) 2147483647)=false:=notT h16
   refine Zs ?_
   refine Zqt (.rd 0 .done) ?_
   refine Zqk [(0,.gen [])] [] [(2,.bool false),(18,.bool (!(withinB s.wh (-1) 2147483647))),(17,.bool (withinB s.wh (-1) 2147483647)),(16,.int .i64 s.wh),(15,zP b1 2),(14,zP b1 2),(4,zP b1 2),(13,zP b1 2),(12,zP b4 1),(11,.bool true),(10,.int .i64 1),(19,.int .i64 1),(9,.int .i64 4),(8,zL b4 0 4 5),(1,zP b1 0)] ak0 ?_
   refine Zd (Zt (Ze (Zl (Zy (GoQ.skipLR (Zl (Zy ?_)))))))
   refine Zq1 (v:=.bool false) ?_
   have hr:mayS s=false:=by rw [mayS,if_neg (nF h11),if_pos h16]
   have hs17:St w0 (L) w15:=hs13.drop 2
   exact⟨(by first|rfl|(rw [hr];done)|(rw [hr];rfl)),(by first|exact hs17|(rw [hr];exact hs17))⟩
  ·have h16n:(withinB s.wh (-1) 2147483647)=true:=notF h16
   refine Zk (Zm (Zt ?_))
   refine Zqt (.rd 0 (.rd 1 .done)) ?_
   refine Zqk [(0,.gen []),(1,.gen [])] [] [(10,.int .i64 2),(19,.int .i64 2),(18,.bool (!(withinB s.wh (-1) 2147483647))),(17,.bool (withinB s.wh (-1) 2147483647)),(16,.int .i64 s.wh),(15,zP b1 2),(14,zP b1 2),(4,zP b1 2),(13,zP b1 2),(12,zP b4 1),(11,.bool true),(9,.int .i64 4),(8,zL b4 0 4 5),(2,.bool false),(1,zP b1 0)] ak0 ?_
   refine Zd ?_
   refine GoQ.again ?_
   refine Zs ?_
   refine Zqt (.rd 0 .done) ?_
   refine Zqk [(0,.gen [])] [] [(11,.bool true),(10,.int .i64 2),(19,.int .i64 2),(18,.bool (!(withinB s.wh (-1) 2147483647))),(17,.bool (withinB s.wh (-1) 2147483647)),(16,.int .i64 s.wh),(15,zP b1 2),(14,zP b1 2),(4,zP b1 2),(13,zP b1 2),(12,zP b4 1),(9,.int .i64 4),(8,zL b4 0 4 5),(2,.bool false),(1,zP b1 0)] ak0 ?_
   refine Zd (Zt (Zs (ZqT (Zk (Zt (Zs (Zb (Zs ?_))))))))
   refine Zqt (.rd 0 (.rd 1 (.rd 2 .done))) ?_
   refine Zqk [(0,.as_ (zP b4 2) .at_),(1,.gen [zP b1 3]),(2,.gen [])] [(0,[.prop (0≤(2:Int)∧(2:Int)<(4:Int)),.prop (Value.pointer (some (Addr.add ⟨b4,0,none⟩ (Int.toNat 2*1)))=Value.pointer (some ⟨b4,2,none⟩))]),(1,[.cell ⟨b4,2,none⟩ (zP b1 3)])] [(4,zP b1 3),(13,zP b1 3),(12,zP b4 2),(11,.bool true),(10,.int .i64 2),(19,.int .i64 2),(18,.bool (!(withinB s.wh (-1) 2147483647))),(17,.bool (withinB s.wh (-1) 2147483647)),(16,.int .i64 s.wh),(15,zP b1 2),(14,zP b1 2),(9,.int .i64 4),(8,zL b4 0 4 5),(2,.bool false),(1,zP b1 0)] (ak (okp (by omega) (okp (ptrAdd _ _ _) ok0)) (ak (okc (hs13.cell 0 rfl (by kernel_rfl)) ok0) ak0)) ?_
   refine Zd (Zt (Zs ?_))
   refine Zqt (.rd 0 (.rd 1 (.rd 2 (.ef 3 (.rd 4 .done))))) ?_
   refine Zqk [(0,.gen []),(1,.gen []),(2,.gen [.int .i64 s.j])] [(2,[.cell ⟨b1,3,none⟩ (.int .i64 s.j)])] [(16,.int .i64 s.j),(15,zP b1 3),(14,zP b1 3),(4,zP b1 3),(13,zP b1 3),(12,zP b4 2),(11,.bool true),(10,.int .i64 2),(19,.int .i64 2),(18,.bool (!(withinB s.wh (-1) 2147483647))),(17,.bool (withinB s.wh (-1) 2147483647)),(9,.int .i64 4),(8,zL b4 0 4 5),(2,.bool false),(1,zP b1 0)] (ak (okc (hs13.cell 1 rfl (by kernel_rfl)) ok0) ak0) ?_
   refine Zqa (f:=24) (args:=#[.int .i64 s.j,.int .i64 (-1),.int .i64 2147483647]) Tryz.call24 (within_spec s.j (-1) 2147483647 hs13) ?_
   rintro v19 w20 ⟨rfl,hs18⟩
   refine⟨Zqo,?_⟩
   refine Zqk [(4,.gen [])] [] [(18,.bool (!(withinB s.j (-1) 2147483647))),(17,.bool (withinB s.j (-1) 2147483647)),(16,.int .i64 s.j),(15,zP b1 3),(14,zP b1 3),(4,zP b1 3),(13,zP b1 3),(12,zP b4 2),(11,.bool true),(10,.int .i64 2),(19,.int .i64 2),(9,.int .i64 4),(8,zL b4 0 4 5),(2,.bool false),(1,zP b1 0)] ak0 ?_
   refine Zd (Zt ?_)
   refine Zqc (t:=!(withinB s.j (-1) 2147483647)) (fun h21=>?_) (fun h21=>?_)
   ·have h21n:(withinB s.j (-1) 2147483647)=false:=notT h21
    refine Zs ?_
    refine Zqt (.rd 0 .done) ?_
    refine Zqk [(0,.gen [])] [] [(2,.bool false),(18,.bool (!(withinB s.j (-1) 2147483647))),(17,.bool (withinB s.j (-1) 2147483647)),(16,.int .i64 s.j),(15,zP b1 3),(14,zP b1 3),(4,zP b1 3),(13,zP b1 3),(12,zP b4 2),(11,.bool true),(10,.int .i64 2),(19,.int .i64 2),(9,.int .i64 4),(8,zL b4 0 4 5),(1,zP b1 0)] ak0 ?_
    refine Zd (Zt (Ze (Zl (Zy (GoQ.skipLR (Zl (Zy ?_)))))))
    refine Zq1 (v:=.bool false) ?_
    have hr:mayS s=false:=by rw [mayS,if_neg (nF h11),if_neg (nF h16),if_pos h21]
    have hs22:St w0 (L) w20:=hs18.drop 2
    exact⟨(by first|rfl|(rw [hr];done)|(rw [hr];rfl)),(by first|exact hs22|(rw [hr];exact hs22))⟩
   ·have h21n:(withinB s.j (-1) 2147483647)=true:=notF h21
    refine Zk (Zm (Zt ?_))
    refine Zqt (.rd 0 (.rd 1 .done)) ?_
    refine Zqk [(0,.gen []),(1,.gen [])] [] [(10,.int .i64 3),(19,.int .i64 3),(18,.bool (!(withinB s.j (-1) 2147483647))),(17,.bool (withinB s.j (-1) 2147483647)),(16,.int .i64 s.j),(15,zP b1 3),(14,zP b1 3),(4,zP b1 3),(13,zP b1 3),(12,zP b4 2),(11,.bool true),(9,.int .i64 4),(8,zL b4 0 4 5),(2,.bool false),(1,zP b1 0)] ak0 ?_
    refine Zd ?_
    refine GoQ.again ?_
    refine Zs ?_
    refine Zqt (.rd 0 .done) ?_
    refine Zqk [(0,.gen [])] [] [(11,.bool true),(10,.int .i64 3),(19,.int .i64 3),(18,.bool (!(withinB s.j (-1) 2147483647))),(17,.bool (withinB s.j (-1) 2147483647)),(16,.int .i64 s.j),(15,zP b1 3),(14,zP b1 3),(4,zP b1 3),(13,zP b1 3),(12,zP b4 2),(9,.int .i64 4),(8,zL b4 0 4 5),(2,.bool false),(1,zP b1 0)] ak0 ?_
    refine Zd (Zt (Zs (ZqT (Zk (Zt (Zs (Zb (Zs ?_))))))))
    refine Zqt (.rd 0 (.rd 1 (.rd 2 .done))) ?_
    refine Zqk [(0,.as_ (zP b4 3) .at_),(1,.gen [zP b1 4]),(2,.gen [])] [(0,[.prop (0≤(3:Int)∧(3:Int)<(4:Int)),.prop (Value.pointer (some (Addr.add ⟨b4,0,none⟩ (Int.toNat 3*1)))=Value.pointer (some ⟨b4,3,none⟩))]),(1,[.cell ⟨b4,3,none⟩ (zP b1 4)])] [(4,zP b1 4),(13,zP b1 4),(12,zP b4 3),(11,.bool true),(10,.int .i64 3),(19,.int .i64 3),(18,.bool (!(withinB s.j (-1) 2147483647))),(17,.bool (withinB s.j (-1) 2147483647)),(16,.int .i64 s.j),(15,zP b1 3),(14,zP b1 3),(9,.int .i64 4),(8,zL b4 0 4 5),(2,.bool false),(1,zP b1 0)] (ak (okp (by omega) (okp (ptrAdd _ _ _) ok0)) (ak (okc (hs18.cell 0 rfl (by kernel_rfl)) ok0) ak0)) ?_
    refine Zd (Zt (Zs ?_))
    refine Zqt (.rd 0 (.rd 1 (.rd 2 (.ef 3 (.rd 4 .done))))) ?_
    refine Zqk [(0,.gen []),(1,.gen []),(2,.gen [.int .i64 s.k])] [(2,[.cell ⟨b1,4,none⟩ (.int .i64 s.k)])] [(16,.int .i64 s.k),(15,zP b1 4),(14,zP b1 4),(4,zP b1 4),(13,zP b1 4),(12,zP b4 3),(11,.bool true),(10,.int .i64 3),(19,.int .i64 3),(18,.bool (!(withinB s.j (-1) 2147483647))),(17,.bool (withinB s.j (-1) 2147483647)),(9,.int .i64 4),(8,zL b4 0 4 5),(2,.bool false),(1,zP b1 0)] (ak (okc (hs18.cell 1 rfl (by kernel_rfl)) ok0) ak0) ?_
    refine Zqa (f:=24) (args:=#[.int .i64 s.k,.int .i64 (-1),.int .i64 2147483647]) Tryz.call24 (within_spec s.k (-1) 2147483647 hs18) ?_
    rintro v24 w25 ⟨rfl,hs23⟩
    refine⟨Zqo,?_⟩
    refine Zqk [(4,.gen [])] [] [(18,.bool (!(withinB s.k (-1) 2147483647))),(17,.bool (withinB s.k (-1) 2147483647)),(16,.int .i64 s.k),(15,zP b1 4),(14,zP b1 4),(4,zP b1 4),(13,zP b1 4),(12,zP b4 3),(11,.bool true),(10,.int .i64 3),(19,.int .i64 3),(9,.int .i64 4),(8,zL b4 0 4 5),(2,.bool false),(1,zP b1 0)] ak0 ?_
    refine Zd (Zt ?_)
    refine Zqc (t:=!(withinB s.k (-1) 2147483647)) (fun h26=>?_) (fun h26=>?_)
    ·have h26n:(withinB s.k (-1) 2147483647)=false:=notT h26
     refine Zs ?_
     refine Zqt (.rd 0 .done) ?_
     refine Zqk [(0,.gen [])] [] [(2,.bool false),(18,.bool (!(withinB s.k (-1) 2147483647))),(17,.bool (withinB s.k (-1) 2147483647)),(16,.int .i64 s.k),(15,zP b1 4),(14,zP b1 4),(4,zP b1 4),(13,zP b1 4),(12,zP b4 3),(11,.bool true),(10,.int .i64 3),(19,.int .i64 3),(9,.int .i64 4),(8,zL b4 0 4 5),(1,zP b1 0)] ak0 ?_
     refine Zd (Zt (Ze (Zl (Zy (GoQ.skipLR (Zl (Zy ?_)))))))
     refine Zq1 (v:=.bool false) ?_
     have hr:mayS s=false:=by rw [mayS,if_neg (nF h11),if_neg (nF h16),if_neg (nF h21),if_pos h26]
     have hs27:St w0 (L) w25:=hs23.drop 2
     exact⟨(by first|rfl|(rw [hr];done)|(rw [hr];rfl)),(by first|exact hs27|(rw [hr];exact hs27))⟩
    ·have h26n:(withinB s.k (-1) 2147483647)=true:=notF h26
     refine Zk (Zm (Zt ?_))
     refine Zqt (.rd 0 (.rd 1 .done)) ?_
     refine Zqk [(0,.gen []),(1,.gen [])] [] [(10,.int .i64 4),(19,.int .i64 4),(18,.bool (!(withinB s.k (-1) 2147483647))),(17,.bool (withinB s.k (-1) 2147483647)),(16,.int .i64 s.k),(15,zP b1 4),(14,zP b1 4),(4,zP b1 4),(13,zP b1 4),(12,zP b4 3),(11,.bool true),(9,.int .i64 4),(8,zL b4 0 4 5),(2,.bool false),(1,zP b1 0)] ak0 ?_
     refine Zd ?_
     refine GoQ.again ?_
     refine Zs ?_
     refine Zqt (.rd 0 .done) ?_
     refine Zqk [(0,.gen [])] [] [(11,.bool false),(10,.int .i64 4),(19,.int .i64 4),(18,.bool (!(withinB s.k (-1) 2147483647))),(17,.bool (withinB s.k (-1) 2147483647)),(16,.int .i64 s.k),(15,zP b1 4),(14,zP b1 4),(4,zP b1 4),(13,zP b1 4),(12,zP b4 3),(9,.int .i64 4),(8,zL b4 0 4 5),(2,.bool false),(1,zP b1 0)] ak0 ?_
     refine Zd (Zt (Zs (ZqF (Zx (GoQ.skipC (GoQ.skipL (GoQ.hit (Zt (Zs (Zs ?_))))))))))
     refine Zqt (.rd 0 (.ef 1 (.rd 2 (.rd 3 (.ef 4 (.ef 5 (.rd 6 (.rd 7 .done)))))))) ?_
     refine Zqk [(0,.gen [])] [] [(20,zP b1 6),(2,.bool false),(1,zP b1 0)] ak0 ?_
     refine Zqa (f:=19) (args:=#[zP b1 6]) Tryz.call19 (texts_spec hs23) ?_
     rintro v30 w31 ⟨b28,rfl,hs29⟩
     refine⟨Zqo,?_⟩
     refine Zqk [(2,.gen []),(3,.gen [])] [] [(23,zP b1 104),(21,zL b28 0 4 4),(2,.bool false),(1,zP b1 0)] ak0 ?_
     refine GoR.sliceLit rfl (by kernel_rfl) (t:=75) (e:=78) (n:=1) (ps:=[(0,zP b1 104)]) (by kernel_rfl) (by kernel_rfl) (ti:=Tryz.t78) (z:=.pointer none) (by kernel_rfl) (by kernel_rfl) (by decide) (by decide) (cs:=#[zP b1 104]) (by kernel_rfl) hs29 ?_
     intro b32 w33 hs34 hz35
     have hs36:St w0 ((Sl (some ⟨b32,0,none⟩) 1 78 1 ptC ([((b1,104):Nat×Nat)]))::(Sl (some ⟨b28,0,none⟩) 4 78 1 ptC ([((b1,7):Nat×Nat),((b1,8):Nat×Nat),((b1,9):Nat×Nat),((b1,10):Nat×Nat)]))::(Cel b4 #[zP b1 1,zP b1 2,zP b1 3,zP b1 4,zP b1 5] 73)::(Cel b1 (TSt.cells s) 41)::L) w33:=St.slOf (l:=[((b1,104):Nat×Nat)]) (f:=ptC) hs34 hz35 (ptF).size (by simp only [lC,lN,maxLen];omega) (by kernel_rfl)
     refine⟨Zqo,?_⟩
     have hs39:St w0 ((Sl (some ⟨b28,0,none⟩) 4 78 1 ptC ([((b1,7):Nat×Nat),((b1,8):Nat×Nat),((b1,9):Nat×Nat),((b1,10):Nat×Nat)]))::(Sl (some ⟨b32,0,none⟩) 1 78 1 ptC ([((b1,104):Nat×Nat)]))::(Cel b4 #[zP b1 1,zP b1 2,zP b1 3,zP b1 4,zP b1 5] 73)::(Cel b1 (TSt.cells s) 41)::L) w33:=(hs36.pull 1 rfl)
     refine GoR.append rfl (by kernel_rfl) ptsOK ptF (ad:=some ⟨b28,0,none⟩) (c:=4) (xs:=[((b1,7):Nat×Nat),((b1,8):Nat×Nat),((b1,9):Nat×Nat),((b1,10):Nat×Nat)]) (ys:=[((b1,104):Nat×Nat)]) (adx:=some ⟨b32,0,none⟩) (cx:=1) ((0,0):Nat×Nat) (by kernel_rfl) hs39 (hs39.rows 1 rfl (ptF).size ((0,0):Nat×Nat)) (fun h=>nomatch h) (by simp only [lA,lC,lN,List.length_map] at *;omega) (by simp only [lA,lC,lN,List.length_map] at *;omega) ?_
     intro ad40 c41 w37 hs38
     refine⟨Zqo,?_⟩
     refine Zqk [(6,.gen []),(7,.gen [])] [] [(27,.int .i64 0),(26,.int .i64 ((([((b1,7):Nat×Nat),((b1,8):Nat×Nat),((b1,9):Nat×Nat),((b1,10):Nat×Nat)])++([((b1,104):Nat×Nat)])).length:Nat)),(25,.slice ad40 ((([((b1,7):Nat×Nat),((b1,8):Nat×Nat),((b1,9):Nat×Nat),((b1,10):Nat×Nat)])++([((b1,104):Nat×Nat)])).length) c41),(2,.bool false),(1,zP b1 0)] ak0 ?_
     refine Zd (Zt (Zb ?_))
     have hpl:(([((b1,7):Nat×Nat),((b1,8):Nat×Nat),((b1,9):Nat×Nat),((b1,10):Nat×Nat)])++([((b1,104):Nat×Nat)])).length=5:=rfl
     obtain⟨ab42,rfl⟩:=Sl.isSome (hs38.at_ 0 rfl) (by omega)
     refine GoC.slots (S':=[(27,.int .i64 0),(26,.int .i64 5),(25,zL ab42 0 ((([((b1,7):Nat×Nat),((b1,8):Nat×Nat),((b1,9):Nat×Nat),((b1,10):Nat×Nat)])++([((b1,104):Nat×Nat)])).length) c41),(2,.bool false),(1,zP b1 0)]) (by kernel_rfl) ?_
     refine GoC.unroll 12 ?_
     refine Zs ?_
     refine Zqt (.rd 0 .done) ?_
     refine Zqk [(0,.gen [])] [] [(28,.bool true),(27,.int .i64 0),(26,.int .i64 5),(25,zL ab42 0 ((([((b1,7):Nat×Nat),((b1,8):Nat×Nat),((b1,9):Nat×Nat),((b1,10):Nat×Nat)])++([((b1,104):Nat×Nat)])).length) c41),(2,.bool false),(1,zP b1 0)] ak0 ?_
     refine Zd (Zt (Zs (ZqT (Zk (Zt (Zs (Zb (Zs ?_))))))))
     refine Zqt (.rd 0 (.rd 1 (.rd 2 .done))) ?_
     refine Zqk [(0,.as_ (zP ab42 0) .at_),(1,.gen [zP b1 7]),(2,.gen [])] [(0,[.prop (0≤(0:Int)∧(0:Int)<(((([((b1,7):Nat×Nat),((b1,8):Nat×Nat),((b1,9):Nat×Nat),((b1,10):Nat×Nat)])++([((b1,104):Nat×Nat)])).length:Nat):Int)),.prop (Value.pointer (some (Addr.add ⟨ab42,0,none⟩ (Int.toNat 0*1)))=Value.pointer (some ⟨ab42,0,none⟩))]),(1,[.cell ⟨ab42,0,none⟩ (zP b1 7)])] [(6,zP b1 7),(30,zP b1 7),(29,zP ab42 0),(28,.bool true),(27,.int .i64 0),(26,.int .i64 5),(25,zL ab42 0 ((([((b1,7):Nat×Nat),((b1,8):Nat×Nat),((b1,9):Nat×Nat),((b1,10):Nat×Nat)])++([((b1,104):Nat×Nat)])).length) c41),(2,.bool false),(1,zP b1 0)] (ak (okp (by omega) (okp (ptrAdd _ _ _) ok0)) (ak (okc (RowsAt.at0 (hs38.rows 0 rfl (ptF).size ((0,0):Nat×Nat)) (k:=0) (by first|omega|(simp only [List.length_set];omega)|(simp only [List.length_set,lA,lC,lN];omega)) (j:=0) (by decide) (by kernel_rfl)) ok0) ak0)) ?_
     refine Zd (Zt (Zs ?_))
     refine Zqt (.rd 0 (.rd 1 (.rd 2 (.rd 3 (.rd 4 .done))))) ?_
     refine Zqk [(0,.gen []),(1,.gen []),(2,.gen [.string s.op.ky]),(3,.gen []),(4,.gen [])] [(2,[.cell ⟨b1,7,none⟩ (.string s.op.ky)])] [(35,.bool (decide (((s.op.ky.size:Nat):Int)>255))),(34,.int .i64 (s.op.ky.size:Nat)),(33,.string s.op.ky),(32,zP b1 7),(31,zP b1 7),(6,zP b1 7),(30,zP b1 7),(29,zP ab42 0),(28,.bool true),(27,.int .i64 0),(26,.int .i64 5),(25,zL ab42 0 ((([((b1,7):Nat×Nat),((b1,8):Nat×Nat),((b1,9):Nat×Nat),((b1,10):Nat×Nat)])++([((b1,104):Nat×Nat)])).length) c41),(2,.bool false),(1,zP b1 0)] (ak (okc (hs38.cell 3 rfl (by kernel_rfl)) ok0) ak0) ?_
     refine Zd (Zt ?_)
     refine Zqc (t:=decide (((s.op.ky.size:Nat):Int)>255)) (fun h44=>?_) (fun h44=>?_)
     ·have h44':((s.op.ky.size:Nat):Int)>255:=of_decide_eq_true h44
      refine Zs ?_
      refine Zqt (.rd 0 .done) ?_
      refine Zqk [(0,.gen [])] [] [(2,.bool false),(35,.bool (decide (((s.op.ky.size:Nat):Int)>255))),(34,.int .i64 (s.op.ky.size:Nat)),(33,.string s.op.ky),(32,zP b1 7),(31,zP b1 7),(6,zP b1 7),(30,zP b1 7),(29,zP ab42 0),(28,.bool true),(27,.int .i64 0),(26,.int .i64 5),(25,zL ab42 0 ((([((b1,7):Nat×Nat),((b1,8):Nat×Nat),((b1,9):Nat×Nat),((b1,10):Nat×Nat)])++([((b1,104):Nat×Nat)])).length) c41),(1,zP b1 0)] ak0 ?_
      refine Zd (Zt (Ze (Zl (Zy (GoQ.skipLR (Zl (Zy ?_)))))))
      refine Zq1 (v:=.bool false) ?_
      have hr:mayS s=false:=by rw [mayS,if_neg (nF h11),if_neg (nF h16),if_neg (nF h21),if_neg (nF h26),if_pos h44]
      have hs45:St w0 (L) w37:=hs38.drop 4
      exact⟨(by first|rfl|(rw [hr];done)|(rw [hr];rfl)),(by first|exact hs45|(rw [hr];exact hs45))⟩
     ·have h44':¬ (((s.op.ky.size:Nat):Int)>255):=of_decide_eq_false h44
      refine Zk (Zm (Zt ?_))
      refine Zqt (.rd 0 (.rd 1 .done)) ?_
      refine Zqk [(0,.gen []),(1,.gen [])] [] [(27,.int .i64 1),(36,.int .i64 1),(35,.bool (decide (((s.op.ky.size:Nat):Int)>255))),(34,.int .i64 (s.op.ky.size:Nat)),(33,.string s.op.ky),(32,zP b1 7),(31,zP b1 7),(6,zP b1 7),(30,zP b1 7),(29,zP ab42 0),(28,.bool true),(26,.int .i64 5),(25,zL ab42 0 ((([((b1,7):Nat×Nat),((b1,8):Nat×Nat),((b1,9):Nat×Nat),((b1,10):Nat×Nat)])++([((b1,104):Nat×Nat)])).length) c41),(2,.bool false),(1,zP b1 0)] ak0 ?_
      refine Zd ?_
      refine GoQ.again ?_
      refine Zs ?_
      refine Zqt (.rd 0 .done) ?_
      refine Zqk [(0,.gen [])] [] [(28,.bool true),(27,.int .i64 1),(36,.int .i64 1),(35,.bool (decide (((s.op.ky.size:Nat):Int)>255))),(34,.int .i64 (s.op.ky.size:Nat)),(33,.string s.op.ky),(32,zP b1 7),(31,zP b1 7),(6,zP b1 7),(30,zP b1 7),(29,zP ab42 0),(26,.int .i64 5),(25,zL ab42 0 ((([((b1,7):Nat×Nat),((b1,8):Nat×Nat),((b1,9):Nat×Nat),((b1,10):Nat×Nat)])++([((b1,104):Nat×Nat)])).length) c41),(2,.bool false),(1,zP b1 0)] ak0 ?_
      refine Zd (Zt (Zs (ZqT (Zk (Zt (Zs (Zb (Zs ?_))))))))
      refine Zqt (.rd 0 (.rd 1 (.rd 2 .done))) ?_
      refine Zqk [(0,.as_ (zP ab42 1) .at_),(1,.gen [zP b1 8]),(2,.gen [])] [(0,[.prop (0≤(1:Int)∧(1:Int)<(((([((b1,7):Nat×Nat),((b1,8):Nat×Nat),((b1,9):Nat×Nat),((b1,10):Nat×Nat)])++([((b1,104):Nat×Nat)])).length:Nat):Int)),.prop (Value.pointer (some (Addr.add ⟨ab42,0,none⟩ (Int.toNat 1*1)))=Value.pointer (some ⟨ab42,1,none⟩))]),(1,[.cell ⟨ab42,1,none⟩ (zP b1 8)])] [(6,zP b1 8),(30,zP b1 8),(29,zP ab42 1),(28,.bool true),(27,.int .i64 1),(36,.int .i64 1),(35,.bool (decide (((s.op.ky.size:Nat):Int)>255))),(34,.int .i64 (s.op.ky.size:Nat)),(33,.string s.op.ky),(32,zP b1 7),(31,zP b1 7),(26,.int .i64 5),(25,zL ab42 0 ((([((b1,7):Nat×Nat),((b1,8):Nat×Nat),((b1,9):Nat×Nat),((b1,10):Nat×Nat)])++([((b1,104):Nat×Nat)])).length) c41),(2,.bool false),(1,zP b1 0)] (ak (okp (by omega) (okp (ptrAdd _ _ _) ok0)) (ak (okc (RowsAt.at0 (hs38.rows 0 rfl (ptF).size ((0,0):Nat×Nat)) (k:=1) (by first|omega|(simp only [List.length_set];omega)|(simp only [List.length_set,lA,lC,lN];omega)) (j:=0) (by decide) (by kernel_rfl)) ok0) ak0)) ?_
      refine Zd (Zt (Zs ?_))
      refine Zqt (.rd 0 (.rd 1 (.rd 2 (.rd 3 (.rd 4 .done))))) ?_
      refine Zqk [(0,.gen []),(1,.gen []),(2,.gen [.string s.op.va]),(3,.gen []),(4,.gen [])] [(2,[.cell ⟨b1,8,none⟩ (.string s.op.va)])] [(35,.bool (decide (((s.op.va.size:Nat):Int)>255))),(34,.int .i64 (s.op.va.size:Nat)),(33,.string s.op.va),(32,zP b1 8),(31,zP b1 8),(6,zP b1 8),(30,zP b1 8),(29,zP ab42 1),(28,.bool true),(27,.int .i64 1),(36,.int .i64 1),(26,.int .i64 5),(25,zL ab42 0 ((([((b1,7):Nat×Nat),((b1,8):Nat×Nat),((b1,9):Nat×Nat),((b1,10):Nat×Nat)])++([((b1,104):Nat×Nat)])).length) c41),(2,.bool false),(1,zP b1 0)] (ak (okc (hs38.cell 3 rfl (by kernel_rfl)) ok0) ak0) ?_
      refine Zd (Zt ?_)
      refine Zqc (t:=decide (((s.op.va.size:Nat):Int)>255)) (fun h46=>?_) (fun h46=>?_)
      ·have h46':((s.op.va.size:Nat):Int)>255:=of_decide_eq_true h46
       refine Zs ?_
       refine Zqt (.rd 0 .done) ?_
       refine Zqk [(0,.gen [])] [] [(2,.bool false),(35,.bool (decide (((s.op.va.size:Nat):Int)>255))),(34,.int .i64 (s.op.va.size:Nat)),(33,.string s.op.va),(32,zP b1 8),(31,zP b1 8),(6,zP b1 8),(30,zP b1 8),(29,zP ab42 1),(28,.bool true),(27,.int .i64 1),(36,.int .i64 1),(26,.int .i64 5),(25,zL ab42 0 ((([((b1,7):Nat×Nat),((b1,8):Nat×Nat),((b1,9):Nat×Nat),((b1,10):Nat×Nat)])++([((b1,104):Nat×Nat)])).length) c41),(1,zP b1 0)] ak0 ?_
       refine Zd (Zt (Ze (Zl (Zy (GoQ.skipLR (Zl (Zy ?_)))))))
       refine Zq1 (v:=.bool false) ?_
       have hr:mayS s=false:=by rw [mayS,if_neg (nF h11),if_neg (nF h16),if_neg (nF h21),if_neg (nF h26),if_neg (nF h44),if_pos h46]
       have hs47:St w0 (L) w37:=hs38.drop 4
       exact⟨(by first|rfl|(rw [hr];done)|(rw [hr];rfl)),(by first|exact hs47|(rw [hr];exact hs47))⟩
      ·have h46':¬ (((s.op.va.size:Nat):Int)>255):=of_decide_eq_false h46
       refine Zk (Zm (Zt ?_))
       refine Zqt (.rd 0 (.rd 1 .done)) ?_
       refine Zqk [(0,.gen []),(1,.gen [])] [] [(27,.int .i64 2),(36,.int .i64 2),(35,.bool (decide (((s.op.va.size:Nat):Int)>255))),(34,.int .i64 (s.op.va.size:Nat)),(33,.string s.op.va),(32,zP b1 8),(31,zP b1 8),(6,zP b1 8),(30,zP b1 8),(29,zP ab42 1),(28,.bool true),(26,.int .i64 5),(25,zL ab42 0 ((([((b1,7):Nat×Nat),((b1,8):Nat×Nat),((b1,9):Nat×Nat),((b1,10):Nat×Nat)])++([((b1,104):Nat×Nat)])).length) c41),(2,.bool false),(1,zP b1 0)] ak0 ?_
       refine Zd ?_
       refine GoQ.again ?_
       refine Zs ?_
       refine Zqt (.rd 0 .done) ?_
       refine Zqk [(0,.gen [])] [] [(28,.bool true),(27,.int .i64 2),(36,.int .i64 2),(35,.bool (decide (((s.op.va.size:Nat):Int)>255))),(34,.int .i64 (s.op.va.size:Nat)),(33,.string s.op.va),(32,zP b1 8),(31,zP b1 8),(6,zP b1 8),(30,zP b1 8),(29,zP ab42 1),(26,.int .i64 5),(25,zL ab42 0 ((([((b1,7):Nat×Nat),((b1,8):Nat×Nat),((b1,9):Nat×Nat),((b1,10):Nat×Nat)])++([((b1,104):Nat×Nat)])).length) c41),(2,.bool false),(1,zP b1 0)] ak0 ?_
       refine Zd (Zt (Zs (ZqT (Zk (Zt (Zs (Zb (Zs ?_))))))))
       refine Zqt (.rd 0 (.rd 1 (.rd 2 .done))) ?_
       refine Zqk [(0,.as_ (zP ab42 2) .at_),(1,.gen [zP b1 9]),(2,.gen [])] [(0,[.prop (0≤(2:Int)∧(2:Int)<(((([((b1,7):Nat×Nat),((b1,8):Nat×Nat),((b1,9):Nat×Nat),((b1,10):Nat×Nat)])++([((b1,104):Nat×Nat)])).length:Nat):Int)),.prop (Value.pointer (some (Addr.add ⟨ab42,0,none⟩ (Int.toNat 2*1)))=Value.pointer (some ⟨ab42,2,none⟩))]),(1,[.cell ⟨ab42,2,none⟩ (zP b1 9)])] [(6,zP b1 9),(30,zP b1 9),(29,zP ab42 2),(28,.bool true),(27,.int .i64 2),(36,.int .i64 2),(35,.bool (decide (((s.op.va.size:Nat):Int)>255))),(34,.int .i64 (s.op.va.size:Nat)),(33,.string s.op.va),(32,zP b1 8),(31,zP b1 8),(26,.int .i64 5),(25,zL ab42 0 ((([((b1,7):Nat×Nat),((b1,8):Nat×Nat),((b1,9):Nat×Nat),((b1,10):Nat×Nat)])++([((b1,104):Nat×Nat)])).length) c41),(2,.bool false),(1,zP b1 0)] (ak (okp (by omega) (okp (ptrAdd _ _ _) ok0)) (ak (okc (RowsAt.at0 (hs38.rows 0 rfl (ptF).size ((0,0):Nat×Nat)) (k:=2) (by first|omega|(simp only [List.length_set];omega)|(simp only [List.length_set,lA,lC,lN];omega)) (j:=0) (by decide) (by kernel_rfl)) ok0) ak0)) ?_
       refine Zd (Zt (Zs ?_))
       refine Zqt (.rd 0 (.rd 1 (.rd 2 (.rd 3 (.rd 4 .done))))) ?_
       refine Zqk [(0,.gen []),(1,.gen []),(2,.gen [.string s.op.ol]),(3,.gen []),(4,.gen [])] [(2,[.cell ⟨b1,9,none⟩ (.string s.op.ol)])] [(35,.bool (decide (((s.op.ol.size:Nat):Int)>255))),(34,.int .i64 (s.op.ol.size:Nat)),(33,.string s.op.ol),(32,zP b1 9),(31,zP b1 9),(6,zP b1 9),(30,zP b1 9),(29,zP ab42 2),(28,.bool true),(27,.int .i64 2),(36,.int .i64 2),(26,.int .i64 5),(25,zL ab42 0 ((([((b1,7):Nat×Nat),((b1,8):Nat×Nat),((b1,9):Nat×Nat),((b1,10):Nat×Nat)])++([((b1,104):Nat×Nat)])).length) c41),(2,.bool false),(1,zP b1 0)] (ak (okc (hs38.cell 3 rfl (by kernel_rfl)) ok0) ak0) ?_
       refine Zd (Zt ?_)
       refine Zqc (t:=decide (((s.op.ol.size:Nat):Int)>255)) (fun h48=>?_) (fun h48=>?_)
       ·have h48':((s.op.ol.size:Nat):Int)>255:=of_decide_eq_true h48
        refine Zs ?_
        refine Zqt (.rd 0 .done) ?_
        refine Zqk [(0,.gen [])] [] [(2,.bool false),(35,.bool (decide (((s.op.ol.size:Nat):Int)>255))),(34,.int .i64 (s.op.ol.size:Nat)),(33,.string s.op.ol),(32,zP b1 9),(31,zP b1 9),(6,zP b1 9),(30,zP b1 9),(29,zP ab42 2),(28,.bool true),(27,.int .i64 2),(36,.int .i64 2),(26,.int .i64 5),(25,zL ab42 0 ((([((b1,7):Nat×Nat),((b1,8):Nat×Nat),((b1,9):Nat×Nat),((b1,10):Nat×Nat)])++([((b1,104):Nat×Nat)])).length) c41),(1,zP b1 0)] ak0 ?_
        refine Zd (Zt (Ze (Zl (Zy (GoQ.skipLR (Zl (Zy ?_)))))))
        refine Zq1 (v:=.bool false) ?_
        have hr:mayS s=false:=by rw [mayS,if_neg (nF h11),if_neg (nF h16),if_neg (nF h21),if_neg (nF h26),if_neg (nF h44),if_neg (nF h46),if_pos h48]
        have hs49:St w0 (L) w37:=hs38.drop 4
        exact⟨(by first|rfl|(rw [hr];done)|(rw [hr];rfl)),(by first|exact hs49|(rw [hr];exact hs49))⟩
       ·have h48':¬ (((s.op.ol.size:Nat):Int)>255):=of_decide_eq_false h48
        refine Zk (Zm (Zt ?_))
        refine Zqt (.rd 0 (.rd 1 .done)) ?_
        refine Zqk [(0,.gen []),(1,.gen [])] [] [(27,.int .i64 3),(36,.int .i64 3),(35,.bool (decide (((s.op.ol.size:Nat):Int)>255))),(34,.int .i64 (s.op.ol.size:Nat)),(33,.string s.op.ol),(32,zP b1 9),(31,zP b1 9),(6,zP b1 9),(30,zP b1 9),(29,zP ab42 2),(28,.bool true),(26,.int .i64 5),(25,zL ab42 0 ((([((b1,7):Nat×Nat),((b1,8):Nat×Nat),((b1,9):Nat×Nat),((b1,10):Nat×Nat)])++([((b1,104):Nat×Nat)])).length) c41),(2,.bool false),(1,zP b1 0)] ak0 ?_
        refine Zd ?_
        refine GoQ.again ?_
        refine Zs ?_
        refine Zqt (.rd 0 .done) ?_
        refine Zqk [(0,.gen [])] [] [(28,.bool true),(27,.int .i64 3),(36,.int .i64 3),(35,.bool (decide (((s.op.ol.size:Nat):Int)>255))),(34,.int .i64 (s.op.ol.size:Nat)),(33,.string s.op.ol),(32,zP b1 9),(31,zP b1 9),(6,zP b1 9),(30,zP b1 9),(29,zP ab42 2),(26,.int .i64 5),(25,zL ab42 0 ((([((b1,7):Nat×Nat),((b1,8):Nat×Nat),((b1,9):Nat×Nat),((b1,10):Nat×Nat)])++([((b1,104):Nat×Nat)])).length) c41),(2,.bool false),(1,zP b1 0)] ak0 ?_
        refine Zd (Zt (Zs (ZqT (Zk (Zt (Zs (Zb (Zs ?_))))))))
        refine Zqt (.rd 0 (.rd 1 (.rd 2 .done))) ?_
        refine Zqk [(0,.as_ (zP ab42 3) .at_),(1,.gen [zP b1 10]),(2,.gen [])] [(0,[.prop (0≤(3:Int)∧(3:Int)<(((([((b1,7):Nat×Nat),((b1,8):Nat×Nat),((b1,9):Nat×Nat),((b1,10):Nat×Nat)])++([((b1,104):Nat×Nat)])).length:Nat):Int)),.prop (Value.pointer (some (Addr.add ⟨ab42,0,none⟩ (Int.toNat 3*1)))=Value.pointer (some ⟨ab42,3,none⟩))]),(1,[.cell ⟨ab42,3,none⟩ (zP b1 10)])] [(6,zP b1 10),(30,zP b1 10),(29,zP ab42 3),(28,.bool true),(27,.int .i64 3),(36,.int .i64 3),(35,.bool (decide (((s.op.ol.size:Nat):Int)>255))),(34,.int .i64 (s.op.ol.size:Nat)),(33,.string s.op.ol),(32,zP b1 9),(31,zP b1 9),(26,.int .i64 5),(25,zL ab42 0 ((([((b1,7):Nat×Nat),((b1,8):Nat×Nat),((b1,9):Nat×Nat),((b1,10):Nat×Nat)])++([((b1,104):Nat×Nat)])).length) c41),(2,.bool false),(1,zP b1 0)] (ak (okp (by omega) (okp (ptrAdd _ _ _) ok0)) (ak (okc (RowsAt.at0 (hs38.rows 0 rfl (ptF).size ((0,0):Nat×Nat)) (k:=3) (by first|omega|(simp only [List.length_set];omega)|(simp only [List.length_set,lA,lC,lN];omega)) (j:=0) (by decide) (by kernel_rfl)) ok0) ak0)) ?_
        refine Zd (Zt (Zs ?_))
        refine Zqt (.rd 0 (.rd 1 (.rd 2 (.rd 3 (.rd 4 .done))))) ?_
        refine Zqk [(0,.gen []),(1,.gen []),(2,.gen [.string s.op.tx]),(3,.gen []),(4,.gen [])] [(2,[.cell ⟨b1,10,none⟩ (.string s.op.tx)])] [(35,.bool (decide (((s.op.tx.size:Nat):Int)>255))),(34,.int .i64 (s.op.tx.size:Nat)),(33,.string s.op.tx),(32,zP b1 10),(31,zP b1 10),(6,zP b1 10),(30,zP b1 10),(29,zP ab42 3),(28,.bool true),(27,.int .i64 3),(36,.int .i64 3),(26,.int .i64 5),(25,zL ab42 0 ((([((b1,7):Nat×Nat),((b1,8):Nat×Nat),((b1,9):Nat×Nat),((b1,10):Nat×Nat)])++([((b1,104):Nat×Nat)])).length) c41),(2,.bool false),(1,zP b1 0)] (ak (okc (hs38.cell 3 rfl (by kernel_rfl)) ok0) ak0) ?_
        refine Zd (Zt ?_)
        refine Zqc (t:=decide (((s.op.tx.size:Nat):Int)>255)) (fun h50=>?_) (fun h50=>?_)
        ·have h50':((s.op.tx.size:Nat):Int)>255:=of_decide_eq_true h50
         refine Zs ?_
         refine Zqt (.rd 0 .done) ?_
         refine Zqk [(0,.gen [])] [] [(2,.bool false),(35,.bool (decide (((s.op.tx.size:Nat):Int)>255))),(34,.int .i64 (s.op.tx.size:Nat)),(33,.string s.op.tx),(32,zP b1 10),(31,zP b1 10),(6,zP b1 10),(30,zP b1 10),(29,zP ab42 3),(28,.bool true),(27,.int .i64 3),(36,.int .i64 3),(26,.int .i64 5),(25,zL ab42 0 ((([((b1,7):Nat×Nat),((b1,8):Nat×Nat),((b1,9):Nat×Nat),((b1,10):Nat×Nat)])++([((b1,104):Nat×Nat)])).length) c41),(1,zP b1 0)] ak0 ?_
         refine Zd (Zt (Ze (Zl (Zy (GoQ.skipLR (Zl (Zy ?_)))))))
         refine Zq1 (v:=.bool false) ?_
         have hr:mayS s=false:=by rw [mayS,if_neg (nF h11),if_neg (nF h16),if_neg (nF h21),if_neg (nF h26),if_neg (nF h44),if_neg (nF h46),if_neg (nF h48),if_pos h50]
         have hs51:St w0 (L) w37:=hs38.drop 4
         exact⟨(by first|rfl|(rw [hr];done)|(rw [hr];rfl)),(by first|exact hs51|(rw [hr];exact hs51))⟩
        ·have h50':¬ (((s.op.tx.size:Nat):Int)>255):=of_decide_eq_false h50
         refine Zk (Zm (Zt ?_))
         refine Zqt (.rd 0 (.rd 1 .done)) ?_
         refine Zqk [(0,.gen []),(1,.gen [])] [] [(27,.int .i64 4),(36,.int .i64 4),(35,.bool (decide (((s.op.tx.size:Nat):Int)>255))),(34,.int .i64 (s.op.tx.size:Nat)),(33,.string s.op.tx),(32,zP b1 10),(31,zP b1 10),(6,zP b1 10),(30,zP b1 10),(29,zP ab42 3),(28,.bool true),(26,.int .i64 5),(25,zL ab42 0 ((([((b1,7):Nat×Nat),((b1,8):Nat×Nat),((b1,9):Nat×Nat),((b1,10):Nat×Nat)])++([((b1,104):Nat×Nat)])).length) c41),(2,.bool false),(1,zP b1 0)] ak0 ?_
         refine Zd ?_
         refine GoQ.again ?_
         refine Zs ?_
         refine Zqt (.rd 0 .done) ?_
         refine Zqk [(0,.gen [])] [] [(28,.bool true),(27,.int .i64 4),(36,.int .i64 4),(35,.bool (decide (((s.op.tx.size:Nat):Int)>255))),(34,.int .i64 (s.op.tx.size:Nat)),(33,.string s.op.tx),(32,zP b1 10),(31,zP b1 10),(6,zP b1 10),(30,zP b1 10),(29,zP ab42 3),(26,.int .i64 5),(25,zL ab42 0 ((([((b1,7):Nat×Nat),((b1,8):Nat×Nat),((b1,9):Nat×Nat),((b1,10):Nat×Nat)])++([((b1,104):Nat×Nat)])).length) c41),(2,.bool false),(1,zP b1 0)] ak0 ?_
         refine Zd (Zt (Zs (ZqT (Zk (Zt (Zs (Zb (Zs ?_))))))))
         refine Zqt (.rd 0 (.rd 1 (.rd 2 .done))) ?_
         refine Zqk [(0,.as_ (zP ab42 4) .at_),(1,.gen [zP b1 104]),(2,.gen [])] [(0,[.prop (0≤(4:Int)∧(4:Int)<(((([((b1,7):Nat×Nat),((b1,8):Nat×Nat),((b1,9):Nat×Nat),((b1,10):Nat×Nat)])++([((b1,104):Nat×Nat)])).length:Nat):Int)),.prop (Value.pointer (some (Addr.add ⟨ab42,0,none⟩ (Int.toNat 4*1)))=Value.pointer (some ⟨ab42,4,none⟩))]),(1,[.cell ⟨ab42,4,none⟩ (zP b1 104)])] [(6,zP b1 104),(30,zP b1 104),(29,zP ab42 4),(28,.bool true),(27,.int .i64 4),(36,.int .i64 4),(35,.bool (decide (((s.op.tx.size:Nat):Int)>255))),(34,.int .i64 (s.op.tx.size:Nat)),(33,.string s.op.tx),(32,zP b1 10),(31,zP b1 10),(26,.int .i64 5),(25,zL ab42 0 ((([((b1,7):Nat×Nat),((b1,8):Nat×Nat),((b1,9):Nat×Nat),((b1,10):Nat×Nat)])++([((b1,104):Nat×Nat)])).length) c41),(2,.bool false),(1,zP b1 0)] (ak (okp (by omega) (okp (ptrAdd _ _ _) ok0)) (ak (okc (RowsAt.at0 (hs38.rows 0 rfl (ptF).size ((0,0):Nat×Nat)) (k:=4) (by first|omega|(simp only [List.length_set];omega)|(simp only [List.length_set,lA,lC,lN];omega)) (j:=0) (by decide) (by kernel_rfl)) ok0) ak0)) ?_
         refine Zd (Zt (Zs ?_))
         refine Zqt (.rd 0 (.rd 1 (.rd 2 (.rd 3 (.rd 4 .done))))) ?_
         refine Zqk [(0,.gen []),(1,.gen []),(2,.gen [.string s.re.vl]),(3,.gen []),(4,.gen [])] [(2,[.cell ⟨b1,104,none⟩ (.string s.re.vl)])] [(35,.bool (decide (((s.re.vl.size:Nat):Int)>255))),(34,.int .i64 (s.re.vl.size:Nat)),(33,.string s.re.vl),(32,zP b1 104),(31,zP b1 104),(6,zP b1 104),(30,zP b1 104),(29,zP ab42 4),(28,.bool true),(27,.int .i64 4),(36,.int .i64 4),(26,.int .i64 5),(25,zL ab42 0 ((([((b1,7):Nat×Nat),((b1,8):Nat×Nat),((b1,9):Nat×Nat),((b1,10):Nat×Nat)])++([((b1,104):Nat×Nat)])).length) c41),(2,.bool false),(1,zP b1 0)] (ak (okc (hs38.cell 3 rfl (by kernel_rfl)) ok0) ak0) ?_
         refine Zd (Zt ?_)
         refine Zqc (t:=decide (((s.re.vl.size:Nat):Int)>255)) (fun h52=>?_) (fun h52=>?_)
         ·have h52':((s.re.vl.size:Nat):Int)>255:=of_decide_eq_true h52
          refine Zs ?_
          refine Zqt (.rd 0 .done) ?_
          refine Zqk [(0,.gen [])] [] [(2,.bool false),(35,.bool (decide (((s.re.vl.size:Nat):Int)>255))),(34,.int .i64 (s.re.vl.size:Nat)),(33,.string s.re.vl),(32,zP b1 104),(31,zP b1 104),(6,zP b1 104),(30,zP b1 104),(29,zP ab42 4),(28,.bool true),(27,.int .i64 4),(36,.int .i64 4),(26,.int .i64 5),(25,zL ab42 0 ((([((b1,7):Nat×Nat),((b1,8):Nat×Nat),((b1,9):Nat×Nat),((b1,10):Nat×Nat)])++([((b1,104):Nat×Nat)])).length) c41),(1,zP b1 0)] ak0 ?_
          refine Zd (Zt (Ze (Zl (Zy (GoQ.skipLR (Zl (Zy ?_)))))))
          refine Zq1 (v:=.bool false) ?_
          have hr:mayS s=false:=by rw [mayS,if_neg (nF h11),if_neg (nF h16),if_neg (nF h21),if_neg (nF h26),if_neg (nF h44),if_neg (nF h46),if_neg (nF h48),if_neg (nF h50),if_pos h52]
          have hs53:St w0 (L) w37:=hs38.drop 4
          exact⟨(by first|rfl|(rw [hr];done)|(rw [hr];rfl)),(by first|exact hs53|(rw [hr];exact hs53))⟩
         ·have h52':¬ (((s.re.vl.size:Nat):Int)>255):=of_decide_eq_false h52
          refine Zk (Zm (Zt ?_))
          refine Zqt (.rd 0 (.rd 1 .done)) ?_
          refine Zqk [(0,.gen []),(1,.gen [])] [] [(27,.int .i64 5),(36,.int .i64 5),(35,.bool (decide (((s.re.vl.size:Nat):Int)>255))),(34,.int .i64 (s.re.vl.size:Nat)),(33,.string s.re.vl),(32,zP b1 104),(31,zP b1 104),(6,zP b1 104),(30,zP b1 104),(29,zP ab42 4),(28,.bool true),(26,.int .i64 5),(25,zL ab42 0 ((([((b1,7):Nat×Nat),((b1,8):Nat×Nat),((b1,9):Nat×Nat),((b1,10):Nat×Nat)])++([((b1,104):Nat×Nat)])).length) c41),(2,.bool false),(1,zP b1 0)] ak0 ?_
          refine Zd ?_
          refine GoQ.again ?_
          refine Zs ?_
          refine Zqt (.rd 0 .done) ?_
          refine Zqk [(0,.gen [])] [] [(28,.bool false),(27,.int .i64 5),(36,.int .i64 5),(35,.bool (decide (((s.re.vl.size:Nat):Int)>255))),(34,.int .i64 (s.re.vl.size:Nat)),(33,.string s.re.vl),(32,zP b1 104),(31,zP b1 104),(6,zP b1 104),(30,zP b1 104),(29,zP ab42 4),(26,.int .i64 5),(25,zL ab42 0 ((([((b1,7):Nat×Nat),((b1,8):Nat×Nat),((b1,9):Nat×Nat),((b1,10):Nat×Nat)])++([((b1,104):Nat×Nat)])).length) c41),(2,.bool false),(1,zP b1 0)] ak0 ?_
          refine Zd (Zt (Zs (ZqF (Zx (GoQ.skipC (GoQ.skipL (GoQ.hit (Zt (Zs (Zs ?_))))))))))
          refine Zqt (.rd 0 (.rd 1 (.rd 2 (.rd 3 (.rd 4 (.rd 5 (.rd 6 (.rd 7 (.rd 8 (.rd 9 (.rd 10 (.ef 11 (.rd 12 (.rd 13 (.rd 14 (.rd 15 (.rd 16 (.rd 17 (.ef 18 (.rd 19 (.rd 20 (.rd 21 (.rd 22 (.rd 23 (.rd 24 (.rd 25 (.rd 26 .done))))))))))))))))))))))))))) ?_
          refine Zqk [(0,.gen []),(1,.gen [.int .u8 s.dw]),(2,.gen []),(3,.gen [])] [(1,[.cell ⟨b1,0,none⟩ (.int .u8 s.dw)])] [(40,.bool (decide ((s.dw:Int)<1))),(2,.bool false),(1,zP b1 0)] (ak (okc (hs38.cell 3 rfl (by kernel_rfl)) ok0) ak0) ?_
          rcases Bool.eq_false_or_eq_true (decide ((s.dw:Int)<1)) with h54|h54
          ·refine Zqs 40 true h54 ?_
           have h54':(s.dw:Int)<1:=of_decide_eq_true h54
           refine Zqk [(4,.gen []),(5,.gen []),(6,.gen []),(7,.gen []),(8,.gen []),(9,.gen []),(10,.gen [])] [] [(47,undef),(45,.bool true),(2,.bool false),(1,zP b1 0)] ak0 ?_
           refine GoR.skip rfl (by kernel_rfl) Zqo ?_
           refine Zqk [(12,.gen []),(13,.gen []),(14,.gen []),(15,.gen []),(16,.gen []),(17,.gen [])] [] [(54,undef),(51,.bool true),(2,.bool false),(1,zP b1 0)] ak0 ?_
           refine GoR.skip rfl (by kernel_rfl) Zqo ?_
           refine Zqk [(19,.gen []),(20,.gen []),(21,.gen []),(22,.gen []),(23,.gen []),(24,.gen []),(25,.gen []),(26,.gen [])] [] [(63,.bool true),(2,.bool false),(1,zP b1 0)] ak0 ?_
           refine Zd (Zt (ZqT (Zs ?_)))
           refine Zqt (.rd 0 .done) ?_
           refine Zqk [(0,.gen [])] [] [(2,.bool false),(1,zP b1 0)] ak0 ?_
           refine Zd (Zt (Ze (Zy ?_)))
           refine Zq1 (v:=.bool false) ?_
           have hr:mayS s=false:=by rw [mayS,if_neg (nF h11),if_neg (nF h16),if_neg (nF h21),if_neg (nF h26),if_neg (nF h44),if_neg (nF h46),if_neg (nF h48),if_neg (nF h50),if_neg (nF h52),if_pos h54]
           have hs55:St w0 (L) w37:=hs38.drop 4
           exact⟨(by first|rfl|(rw [hr];done)|(rw [hr];rfl)),(by first|exact hs55|(rw [hr];exact hs55))⟩
          ·refine Zqs 40 false h54 ?_
           have h54':¬ ((s.dw:Int)<1):=of_decide_eq_false h54
           refine Zqk [(4,.gen []),(5,.gen [.int .u8 s.dw]),(6,.gen []),(7,.gen []),(8,.gen [])] [(5,[.cell ⟨b1,0,none⟩ (.int .u8 s.dw)])] [(45,.bool (decide ((s.dw:Int)>16))),(2,.bool false),(1,zP b1 0)] (ak (okc (hs38.cell 3 rfl (by kernel_rfl)) ok0) ak0) ?_
           rcases Bool.eq_false_or_eq_true (decide ((s.dw:Int)>16)) with h56|h56
           ·refine Zqs 45 true h56 ?_
            have h56':(s.dw:Int)>16:=of_decide_eq_true h56
            refine Zqk [(9,.gen []),(10,.gen [])] [] [(47,undef),(45,.bool true),(2,.bool false),(1,zP b1 0)] ak0 ?_
            refine GoR.skip rfl (by kernel_rfl) Zqo ?_
            refine Zqk [(12,.gen []),(13,.gen []),(14,.gen []),(15,.gen []),(16,.gen []),(17,.gen [])] [] [(54,undef),(51,.bool true),(2,.bool false),(1,zP b1 0)] ak0 ?_
            refine GoR.skip rfl (by kernel_rfl) Zqo ?_
            refine Zqk [(19,.gen []),(20,.gen []),(21,.gen []),(22,.gen []),(23,.gen []),(24,.gen []),(25,.gen []),(26,.gen [])] [] [(63,.bool true),(2,.bool false),(1,zP b1 0)] ak0 ?_
            refine Zd (Zt (ZqT (Zs ?_)))
            refine Zqt (.rd 0 .done) ?_
            refine Zqk [(0,.gen [])] [] [(2,.bool false),(1,zP b1 0)] ak0 ?_
            refine Zd (Zt (Ze (Zy ?_)))
            refine Zq1 (v:=.bool false) ?_
            have hr:mayS s=false:=by rw [mayS,if_neg (nF h11),if_neg (nF h16),if_neg (nF h21),if_neg (nF h26),if_neg (nF h44),if_neg (nF h46),if_neg (nF h48),if_neg (nF h50),if_neg (nF h52),if_neg (nF h54),if_pos h56]
            have hs57:St w0 (L) w37:=hs38.drop 4
            exact⟨(by first|rfl|(rw [hr];done)|(rw [hr];rfl)),(by first|exact hs57|(rw [hr];exact hs57))⟩
           ·refine Zqs 45 false h56 ?_
            have h56':¬ ((s.dw:Int)>16):=of_decide_eq_false h56
            refine Zqk [(9,.gen []),(10,.gen [.int .i64 s.n])] [(10,[.cell ⟨b1,5,none⟩ (.int .i64 s.n)])] [(47,.int .i64 s.n),(45,.bool false),(2,.bool false),(1,zP b1 0)] (ak (okc (hs38.cell 3 rfl (by kernel_rfl)) ok0) ak0) ?_
            refine Zqa (f:=24) (args:=#[.int .i64 s.n,.int .i64 (-1),.int .i64 1099511627776]) Tryz.call24 (within_spec s.n (-1) 1099511627776 hs38) ?_
            rintro v59 w60 ⟨rfl,hs58⟩
            refine⟨Zqo,?_⟩
            refine Zqk [(12,.gen []),(13,.gen []),(14,.gen [])] [] [(51,.bool (!(withinB s.n (-1) 1099511627776))),(2,.bool false),(1,zP b1 0)] ak0 ?_
            rcases Bool.eq_false_or_eq_true (!(withinB s.n (-1) 1099511627776)) with h61|h61
            ·refine Zqs 51 true h61 ?_
             have h61n:(withinB s.n (-1) 1099511627776)=false:=notT h61
             refine Zqk [(15,.gen []),(16,.gen []),(17,.gen [])] [] [(54,undef),(51,.bool true),(2,.bool false),(1,zP b1 0)] ak0 ?_
             refine GoR.skip rfl (by kernel_rfl) Zqo ?_
             refine Zqk [(19,.gen []),(20,.gen []),(21,.gen []),(22,.gen []),(23,.gen []),(24,.gen []),(25,.gen []),(26,.gen [])] [] [(63,.bool true),(2,.bool false),(1,zP b1 0)] ak0 ?_
             refine Zd (Zt (ZqT (Zs ?_)))
             refine Zqt (.rd 0 .done) ?_
             refine Zqk [(0,.gen [])] [] [(2,.bool false),(1,zP b1 0)] ak0 ?_
             refine Zd (Zt (Ze (Zy ?_)))
             refine Zq1 (v:=.bool false) ?_
             have hr:mayS s=false:=by rw [mayS,if_neg (nF h11),if_neg (nF h16),if_neg (nF h21),if_neg (nF h26),if_neg (nF h44),if_neg (nF h46),if_neg (nF h48),if_neg (nF h50),if_neg (nF h52),if_neg (nF h54),if_neg (nF h56),if_pos h61]
             have hs62:St w0 (L) w60:=hs58.drop 4
             exact⟨(by first|rfl|(rw [hr];done)|(rw [hr];rfl)),(by first|exact hs62|(rw [hr];exact hs62))⟩
            ·refine Zqs 51 false h61 ?_
             have h61n:(withinB s.n (-1) 1099511627776)=true:=notF h61
             refine Zqk [(15,.gen []),(16,.gen []),(17,.gen [.int .i64 s.re.er])] [(17,[.cell ⟨b1,103,none⟩ (.int .i64 s.re.er)])] [(54,.int .i64 s.re.er),(51,.bool false),(2,.bool false),(1,zP b1 0)] (ak (okc (hs58.cell 3 rfl (by kernel_rfl)) ok0) ak0) ?_
             refine Zqa (f:=24) (args:=#[.int .i64 s.re.er,.int .i64 0,.int .i64 255]) Tryz.call24 (within_spec s.re.er 0 255 hs58) ?_
             rintro v64 w65 ⟨rfl,hs63⟩
             refine⟨Zqo,?_⟩
             refine Zqk [(19,.gen []),(20,.gen []),(21,.gen [])] [] [(58,.bool (!(withinB s.re.er 0 255))),(2,.bool false),(1,zP b1 0)] ak0 ?_
             rcases Bool.eq_false_or_eq_true (!(withinB s.re.er 0 255)) with h66|h66
             ·refine Zqs 58 true h66 ?_
              have h66n:(withinB s.re.er 0 255)=false:=notT h66
              refine Zqk [(22,.gen []),(23,.gen []),(24,.gen []),(25,.gen []),(26,.gen [])] [] [(63,.bool true),(2,.bool false),(1,zP b1 0)] ak0 ?_
              refine Zd (Zt (ZqT (Zs ?_)))
              refine Zqt (.rd 0 .done) ?_
              refine Zqk [(0,.gen [])] [] [(2,.bool false),(1,zP b1 0)] ak0 ?_
              refine Zd (Zt (Ze (Zy ?_)))
              refine Zq1 (v:=.bool false) ?_
              have hr:mayS s=false:=by rw [mayS,if_neg (nF h11),if_neg (nF h16),if_neg (nF h21),if_neg (nF h26),if_neg (nF h44),if_neg (nF h46),if_neg (nF h48),if_neg (nF h50),if_neg (nF h52),if_neg (nF h54),if_neg (nF h56),if_neg (nF h61),if_pos h66]
              have hs67:St w0 (L) w65:=hs63.drop 4
              exact⟨(by first|rfl|(rw [hr];done)|(rw [hr];rfl)),(by first|exact hs67|(rw [hr];exact hs67))⟩
             ·refine Zqs 58 false h66 ?_
              have h66n:(withinB s.re.er 0 255)=true:=notF h66
              refine Zqk [(22,.gen []),(23,.gen [.slice s.pa s.pl.length s.pc]),(24,.gen []),(25,.gen []),(26,.gen [])] [(23,[.cell ⟨b1,106,none⟩ (.slice s.pa s.pl.length s.pc)])] [(63,.bool (decide (((s.pl.length:Nat):Int)>255))),(2,.bool false),(1,zP b1 0)] (ak (okc (hs63.cell 3 rfl (by kernel_rfl)) ok0) ak0) ?_
              refine Zd (Zt ?_)
              refine Zqc (t:=decide (((s.pl.length:Nat):Int)>255)) (fun h68=>?_) (fun h68=>?_)
              ·have h68':((s.pl.length:Nat):Int)>255:=of_decide_eq_true h68
               refine Zs ?_
               refine Zqt (.rd 0 .done) ?_
               refine Zqk [(0,.gen [])] [] [(2,.bool false),(1,zP b1 0)] ak0 ?_
               refine Zd (Zt (Ze (Zy ?_)))
               refine Zq1 (v:=.bool false) ?_
               have hr:mayS s=false:=by rw [mayS,if_neg (nF h11),if_neg (nF h16),if_neg (nF h21),if_neg (nF h26),if_neg (nF h44),if_neg (nF h46),if_neg (nF h48),if_neg (nF h50),if_neg (nF h52),if_neg (nF h54),if_neg (nF h56),if_neg (nF h61),if_neg (nF h66),if_pos h68]
               have hs69:St w0 (L) w65:=hs63.drop 4
               exact⟨(by first|rfl|(rw [hr];done)|(rw [hr];rfl)),(by first|exact hs69|(rw [hr];exact hs69))⟩
              ·have h68':¬ (((s.pl.length:Nat):Int)>255):=of_decide_eq_false h68
               refine Zk (Zt (Zs (Zs ?_)))
               refine Zqt (.rd 0 (.rd 1 .done)) ?_
               refine Zqk [(0,.gen []),(1,.gen [.int .u8 s.dw])] [(1,[.cell ⟨b1,0,none⟩ (.int .u8 s.dw)])] [(65,.int .u8 s.dw),(2,.bool false),(1,zP b1 0)] (ak (okc (hs63.cell 3 rfl (by kernel_rfl)) ok0) ak0) ?_
               refine Zd (Zt (Zb (Zs ?_)))
               refine Zqt (.rd 0 (.rd 1 .done)) ?_
               refine Zqk [(0,.gen []),(1,.gen [])] [] [(66,.bool ((s.dw:Int) == 14)),(65,.int .u8 s.dw),(2,.bool false),(1,zP b1 0)] ak0 ?_
               refine Zd (Zt ?_)
               refine Zqc (t:=(s.dw:Int) == 14) (fun h70=>?_) (fun h70=>?_)
               ·have h70':(s.dw:Int)=14:=ieqT h70
                refine Zs ?_
                refine Zqt (.rd 0 (.rd 1 (.ef 2 (.ef 3 (.rd 4 (.rd 5 (.rd 6 (.ef 7 (.rd 8 (.rd 9 .done)))))))))) ?_
                refine Zqk [(0,.gen []),(1,.agg (TBd.cells s.bd))] [(1,[.prop (Array.size (TBd.cells s.bd)=76),.cells ⟨b1,12,none⟩ (TBd.cells s.bd)])] [(69,.agg (TBd.cells s.bd)),(2,.bool false),(1,zP b1 0)] (ak (okp (by kernel_rfl) (oka (hs63.cells 3 12 rfl (by kernel_rfl)) ok0)) ak0) ?_
                refine Zqa (f:=23) (args:=#[.agg (TBd.cells s.bd)]) Tryz.call23 (carrier_spec s.bd hs63) ?_
                rintro v72 w73 ⟨rfl,hs71⟩
                refine⟨Zqo,?_⟩
                refine Zqa (f:=25) (args:=#[.agg (TMs.cells (⟨1,1,dVc,s.bd,dD32⟩:TMs))]) Tryz.call25 (may_spec (⟨1,1,dVc,s.bd,dD32⟩:TMs) (car_ok hs_.bd) (fun w h=>hr1 _ (h.drop 4)) hs71) ?_
                rintro v75 w76 ⟨rfl,hs74⟩
                refine⟨Zqo,?_⟩
                refine Zqk [(4,.gen [])] [] [(72,.bool (mayM (⟨1,1,dVc,s.bd,dD32⟩:TMs))),(2,.bool false),(1,zP b1 0)] ak0 ?_
                rcases Bool.eq_false_or_eq_true (mayM (⟨1,1,dVc,s.bd,dD32⟩:TMs)) with h77|h77
                ·refine Zqs 72 true h77 ?_
                 refine Zqk [(5,.gen []),(6,.agg (TPk.cells s.pk))] [(6,[.prop (Array.size (TPk.cells s.pk)=14),.cells ⟨b1,88,none⟩ (TPk.cells s.pk)])] [(74,.agg (TPk.cells s.pk)),(72,.bool true),(2,.bool false),(1,zP b1 0)] (ak (okp (by kernel_rfl) (oka (hs74.cells 3 88 rfl (by kernel_rfl)) ok0)) ak0) ?_
                 refine Zqa (f:=26) (args:=#[.agg (TPk.cells s.pk)]) Tryz.call26 (empty_spec s.pk hs74) ?_
                 rintro v79 w80 ⟨rfl,hs78⟩
                 refine⟨Zqo,?_⟩
                 refine Zqk [(8,.gen []),(9,.gen [])] [] [(2,.bool (emptyB s.pk)),(1,zP b1 0)] ak0 ?_
                 refine Zd (Zt (Ze (Zl (Zy ?_))))
                 refine Zq1 (v:=.bool (emptyB s.pk)) ?_
                 have hr:mayS s=emptyB s.pk:=by rw [mayS,if_neg (nF h11),if_neg (nF h16),if_neg (nF h21),if_neg (nF h26),if_neg (nF h44),if_neg (nF h46),if_neg (nF h48),if_neg (nF h50),if_neg (nF h52),if_neg (nF h54),if_neg (nF h56),if_neg (nF h61),if_neg (nF h66),if_neg (nF h68),if_pos h70,if_pos h77]
                 have hs81:St w0 (L) w80:=hs78.drop 4
                 exact⟨(by first|rfl|(rw [hr];done)|(rw [hr];rfl)),(by first|exact hs81|(rw [hr];exact hs81))⟩
                ·refine Zqs 72 false h77 ?_
                 refine Zqk [(5,.gen []),(6,.gen [])] [] [(74,undef),(72,.bool false),(2,.bool false),(1,zP b1 0)] ak0 ?_
                 refine GoR.skip rfl (by kernel_rfl) Zqo ?_
                 refine Zqk [(8,.gen []),(9,.gen [])] [] [(2,.bool false),(1,zP b1 0)] ak0 ?_
                 refine Zd (Zt (Ze (Zl (Zy ?_))))
                 refine Zq1 (v:=.bool false) ?_
                 have hr:mayS s=false:=by rw [mayS,if_neg (nF h11),if_neg (nF h16),if_neg (nF h21),if_neg (nF h26),if_neg (nF h44),if_neg (nF h46),if_neg (nF h48),if_neg (nF h50),if_neg (nF h52),if_neg (nF h54),if_neg (nF h56),if_neg (nF h61),if_neg (nF h66),if_neg (nF h68),if_pos h70,if_neg (nF h77)]
                 have hs82:St w0 (L) w76:=hs74.drop 4
                 exact⟨(by first|rfl|(rw [hr];done)|(rw [hr];rfl)),(by first|exact hs82|(rw [hr];exact hs82))⟩
               ·have h70':¬ ((s.dw:Int)=14):=ieqF h70
                refine Zs ?_
                refine Zqt (.rd 0 (.rd 1 .done)) ?_
                refine Zqk [(0,.gen []),(1,.gen [])] [] [(77,.bool ((s.dw:Int) == 16)),(2,.bool false),(1,zP b1 0)] ak0 ?_
                refine Zd (Zt ?_)
                refine Zqc (t:=(s.dw:Int) == 16) (fun h83=>?_) (fun h83=>?_)
                ·have h83':(s.dw:Int)=16:=ieqT h83
                 refine Zs ?_
                 refine Zqt (.rd 0 (.rd 1 (.ef 2 (.rd 3 (.rd 4 (.rd 5 (.ef 6 (.rd 7 (.rd 8 .done))))))))) ?_
                 refine Zqk [(0,.gen []),(1,.agg (TBd.cells s.bd))] [(1,[.prop (Array.size (TBd.cells s.bd)=76),.cells ⟨b1,12,none⟩ (TBd.cells s.bd)])] [(80,.agg (TBd.cells s.bd)),(2,.bool false),(1,zP b1 0)] (ak (okp (by kernel_rfl) (oka (hs63.cells 3 12 rfl (by kernel_rfl)) ok0)) ak0) ?_
                 refine Zqa (f:=27) (args:=#[.agg (TBd.cells s.bd)]) Tryz.call27 (none_spec s.bd hs63) ?_
                 rintro v85 w86 ⟨rfl,hs84⟩
                 refine⟨Zqo,?_⟩
                 refine Zqk [(3,.gen [])] [] [(82,.bool (noneB s.bd)),(2,.bool false),(1,zP b1 0)] ak0 ?_
                 rcases Bool.eq_false_or_eq_true (noneB s.bd) with h87|h87
                 ·refine Zqs 82 true h87 ?_
                  refine Zqk [(4,.gen []),(5,.agg (TPk.cells s.pk))] [(5,[.prop (Array.size (TPk.cells s.pk)=14),.cells ⟨b1,88,none⟩ (TPk.cells s.pk)])] [(84,.agg (TPk.cells s.pk)),(82,.bool true),(2,.bool false),(1,zP b1 0)] (ak (okp (by kernel_rfl) (oka (hs84.cells 3 88 rfl (by kernel_rfl)) ok0)) ak0) ?_
                  refine Zqa (f:=28) (args:=#[.agg (TPk.cells s.pk)]) Tryz.call28 (packed_spec s.pk (fun k hk=>⟨(hms k hk).1,fun w h=>(hms k hk).2 w (h.drop 4)⟩) (fun w h=>hr2 _ (h.drop 4)) hs84) ?_
                  rintro v89 w90 ⟨rfl,hs88⟩
                  refine⟨Zqo,?_⟩
                  refine Zqk [(7,.gen []),(8,.gen [])] [] [(2,.bool (packedB s.pk)),(1,zP b1 0)] ak0 ?_
                  refine Zd (Zt (Ze (Zl (Zy ?_))))
                  refine Zq1 (v:=.bool (packedB s.pk)) ?_
                  have hr:mayS s=packedB s.pk:=by rw [mayS,if_neg (nF h11),if_neg (nF h16),if_neg (nF h21),if_neg (nF h26),if_neg (nF h44),if_neg (nF h46),if_neg (nF h48),if_neg (nF h50),if_neg (nF h52),if_neg (nF h54),if_neg (nF h56),if_neg (nF h61),if_neg (nF h66),if_neg (nF h68),if_neg (nF h70),if_pos h83,if_pos h87]
                  have hs91:St w0 (L) w90:=hs88.drop 4
                  exact⟨(by first|rfl|(rw [hr];done)|(rw [hr];rfl)),(by first|exact hs91|(rw [hr];exact hs91))⟩
                 ·refine Zqs 82 false h87 ?_
                  refine Zqk [(4,.gen []),(5,.gen [])] [] [(84,undef),(82,.bool false),(2,.bool false),(1,zP b1 0)] ak0 ?_
                  refine GoR.skip rfl (by kernel_rfl) Zqo ?_
                  refine Zqk [(7,.gen []),(8,.gen [])] [] [(2,.bool false),(1,zP b1 0)] ak0 ?_
                  refine Zd (Zt (Ze (Zl (Zy ?_))))
                  refine Zq1 (v:=.bool false) ?_
                  have hr:mayS s=false:=by rw [mayS,if_neg (nF h11),if_neg (nF h16),if_neg (nF h21),if_neg (nF h26),if_neg (nF h44),if_neg (nF h46),if_neg (nF h48),if_neg (nF h50),if_neg (nF h52),if_neg (nF h54),if_neg (nF h56),if_neg (nF h61),if_neg (nF h66),if_neg (nF h68),if_neg (nF h70),if_pos h83,if_neg (nF h87)]
                  have hs92:St w0 (L) w86:=hs84.drop 4
                  exact⟨(by first|rfl|(rw [hr];done)|(rw [hr];rfl)),(by first|exact hs92|(rw [hr];exact hs92))⟩
                ·have h83':¬ ((s.dw:Int)=16):=ieqF h83
                 refine Zk (Zm (Zt (Zs ?_)))
                 refine Zqt (.rd 0 (.rd 1 (.ef 2 (.rd 3 (.rd 4 (.rd 5 (.ef 6 (.rd 7 (.rd 8 .done))))))))) ?_
                 refine Zqk [(0,.gen []),(1,.agg (TBd.cells s.bd))] [(1,[.prop (Array.size (TBd.cells s.bd)=76),.cells ⟨b1,12,none⟩ (TBd.cells s.bd)])] [(88,.agg (TBd.cells s.bd)),(2,.bool false),(1,zP b1 0)] (ak (okp (by kernel_rfl) (oka (hs63.cells 3 12 rfl (by kernel_rfl)) ok0)) ak0) ?_
                 refine Zqa (f:=27) (args:=#[.agg (TBd.cells s.bd)]) Tryz.call27 (none_spec s.bd hs63) ?_
                 rintro v94 w95 ⟨rfl,hs93⟩
                 refine⟨Zqo,?_⟩
                 refine Zqk [(3,.gen [])] [] [(90,.bool (noneB s.bd)),(2,.bool false),(1,zP b1 0)] ak0 ?_
                 rcases Bool.eq_false_or_eq_true (noneB s.bd) with h96|h96
                 ·refine Zqs 90 true h96 ?_
                  refine Zqk [(4,.gen []),(5,.agg (TPk.cells s.pk))] [(5,[.prop (Array.size (TPk.cells s.pk)=14),.cells ⟨b1,88,none⟩ (TPk.cells s.pk)])] [(92,.agg (TPk.cells s.pk)),(90,.bool true),(2,.bool false)] (ak (okp (by kernel_rfl) (oka (hs93.cells 3 88 rfl (by kernel_rfl)) ok0)) ak0) ?_
                  refine Zqa (f:=26) (args:=#[.agg (TPk.cells s.pk)]) Tryz.call26 (empty_spec s.pk hs93) ?_
                  rintro v98 w99 ⟨rfl,hs97⟩
                  refine⟨Zqo,?_⟩
                  refine Zqk [(7,.gen []),(8,.gen [])] [] [(2,.bool (emptyB s.pk))] ak0 ?_
                  refine Zd (Zt (Ze ?_))
                  refine Zq1 (v:=.bool (emptyB s.pk)) ?_
                  have hr:mayS s=emptyB s.pk:=by rw [mayS,if_neg (nF h11),if_neg (nF h16),if_neg (nF h21),if_neg (nF h26),if_neg (nF h44),if_neg (nF h46),if_neg (nF h48),if_neg (nF h50),if_neg (nF h52),if_neg (nF h54),if_neg (nF h56),if_neg (nF h61),if_neg (nF h66),if_neg (nF h68),if_neg (nF h70),if_neg (nF h83),if_pos h96]
                  have hs100:St w0 (L) w99:=hs97.drop 4
                  exact⟨(by first|rfl|(rw [hr];done)|(rw [hr];rfl)),(by first|exact hs100|(rw [hr];exact hs100))⟩
                 ·refine Zqs 90 false h96 ?_
                  refine Zqk [(4,.gen []),(5,.gen [])] [] [(92,undef),(90,.bool false),(2,.bool false)] ak0 ?_
                  refine GoR.skip rfl (by kernel_rfl) Zqo ?_
                  refine Zqk [(7,.gen []),(8,.gen [])] [] [(2,.bool false)] ak0 ?_
                  refine Zd (Zt (Ze ?_))
                  refine Zq1 (v:=.bool false) ?_
                  have hr:mayS s=false:=by rw [mayS,if_neg (nF h11),if_neg (nF h16),if_neg (nF h21),if_neg (nF h26),if_neg (nF h44),if_neg (nF h46),if_neg (nF h48),if_neg (nF h50),if_neg (nF h52),if_neg (nF h54),if_neg (nF h56),if_neg (nF h61),if_neg (nF h66),if_neg (nF h68),if_neg (nF h70),if_neg (nF h83),if_neg (nF h96)]
                  have hs101:St w0 (L) w95:=hs93.drop 4
                  exact⟨(by first|rfl|(rw [hr];done)|(rw [hr];rfl)),(by first|exact hs101|(rw [hr];exact hs101))⟩
end Go.Proofs.YtmeacpdadahafaaGreatDoor
