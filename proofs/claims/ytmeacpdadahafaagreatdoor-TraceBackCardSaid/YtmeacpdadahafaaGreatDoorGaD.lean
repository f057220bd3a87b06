/-
  Several texts in one: TbP, TbQ, TbR.
-/
import Derived.Test.YtmeacpdadahafaaGreatDoorSxT
import Derived.Test.YtmeacpdadahafaaGreatDoorGaC
namespace Go.Proofs.YtmeacpdadahafaaGreatDoor
open Go.RowKit Go.Sx
set_option linter.unusedVariables false
set_option linter.unusedSimpArgs false
set_option linter.unnecessarySimpa false
set_option maxRecDepth 100000
theorem peel {c x:Bool}(h:(if c=true then false else x)=true):c=false∧x=true:=by
 cases c with
 | true=>cases h
 | false=>exact⟨rfl,h⟩
theorem peel2 {c x:Bool}(h:(if c=true then x else false)=true):c=true∧x=true:=by
 cases c with
 | true=>exact⟨rfl,h⟩
 | false=>cases h
theorem withinB_in {n a b:Int}(h:withinB n a b=true):a≤n∧n≤b:=by
 unfold withinB at h
 rw [Bool.and_eq_true] at h
 exact⟨of_decide_eq_true h.1,of_decide_eq_true h.2⟩
structure MayS (s:TSt):Prop where
 cl:-1≤s.cl∧s.cl≤2147483647
 wh:-1≤s.wh∧s.wh≤2147483647
 j:-1≤s.j∧s.j≤2147483647
 k:-1≤s.k∧s.k≤2147483647
 n:-1≤s.n∧s.n≤1099511627776
 ky:s.op.ky.size≤255
 va:s.op.va.size≤255
 ol:s.op.ol.size≤255
 tx:s.op.tx.size≤255
 vl:s.re.vl.size≤255
 dw:1≤s.dw∧s.dw≤16
 er:0≤s.re.er∧s.re.er≤255
 pl:s.pl.length≤255
 lie:s.dw=14→mayM ⟨1,1,dVc,s.bd,dD32⟩=true∧emptyB s.pk=true
 fake:s.dw=16→noneB s.bd=true∧packedB s.pk=true
 els:s.dw≠14→s.dw≠16→noneB s.bd=true∧emptyB s.pk=true
theorem mayS_in {s:TSt}(h:mayS s=true):MayS s:=by
 unfold mayS at h
 obtain⟨h1,h⟩:=peel h
 obtain⟨h2,h⟩:=peel h
 obtain⟨h3,h⟩:=peel h
 obtain⟨h4,h⟩:=peel h
 obtain⟨h5,h⟩:=peel h
 obtain⟨h6,h⟩:=peel h
 obtain⟨h7,h⟩:=peel h
 obtain⟨h8,h⟩:=peel h
 obtain⟨h9,h⟩:=peel h
 obtain⟨h10,h⟩:=peel h
 obtain⟨h11,h⟩:=peel h
 obtain⟨h12,h⟩:=peel h
 obtain⟨h13,h⟩:=peel h
 obtain⟨h14,h⟩:=peel h
 refine⟨withinB_in (notF h1),withinB_in (notF h2),withinB_in (notF h3),withinB_in (notF h4),withinB_in (notF h12),?_,?_,?_,?_,?_,?_,withinB_in (notF h13),?_,fun h0=>?_,fun h0=>?_,fun h0 h00=>?_⟩
 ·have:=of_decide_eq_false h5;omega
 ·have:=of_decide_eq_false h6;omega
 ·have:=of_decide_eq_false h7;omega
 ·have:=of_decide_eq_false h8;omega
 ·have:=of_decide_eq_false h9;omega
 ·have:=of_decide_eq_false h10;have:=of_decide_eq_false h11;omega
 ·have:=of_decide_eq_false h14;omega
 ·rw [if_pos (by rw [h0];rfl)] at h;exact peel2 h
 ·rw [if_neg (by rw [h0];decide),if_pos (by rw [h0];rfl)] at h;exact peel2 h
 ·rw [if_neg (by simpa using h0),if_neg (by simpa using h00)] at h;exact peel2 h
structure MayP (p:TPk):Prop where
 fr:0≤p.fr∧p.fr≤255
 tw:0≤p.tw∧p.tw≤255
 ml:p.ml.length≤8
 ms:∀ m∈p.ml,mayM m=true
theorem packedB_in {p:TPk}(h:packedB p=true):MayP p:=by
 unfold packedB at h
 obtain⟨h1,h⟩:=peel2 h
 obtain⟨h2,h⟩:=peel2 h
 obtain⟨h3,h⟩:=peel2 h
 have h4:=notT h
 refine⟨withinB_in h1,withinB_in h2,by have:=of_decide_eq_true h3;omega,fun m hm=>?_⟩
 cases h9:mayM m with
 | true=>rfl
 | false=>exact absurd (List.any_eq_true.2 ⟨m,hm,show(!mayM m)=true by rw [h9];rfl⟩) (by rw [h4];decide)
def loS (y:List Int):List Int:=hf (y.length:Nat)++y
theorem loS_length (y:List Int):(loS y).length=2+y.length:=by rw [loS,lA,hf_length]
theorem long_spec {w0 w:World}{L:List Asn}{ad:Option Addr}{c:Nat}{ay:Option Addr}{cy:Nat}(l:List Int) (y:List Int) (hl:l.length≤800000) (hy:y.length<65536) (hn:ay=none→cy=0) (hr:∀ w,St w0 L w→RowsAt w ay y.length 1 (fun k=>byteC (y.getD k (0:Int)))) (hs:St w0 ((Sl ad c 5 1 byteC l)::L) w):Calls Tryz.prog 21 #[.slice ad l.length c,.slice ay y.length cy] w (Ret fun rv w'=>∃ (ao:Option Addr) (co:Nat),rv=.slice ao ((l++loS y).length) co∧St w0 ((Sl ao co 5 1 byteC (l++loS y))::L) w'):=by
 refine Zen (args:=[.slice ad l.length c,.slice ay y.length cy]) Tryz.func21 Tryz.ntmps21 ?_
 refine Zn [(0,.slice ad l.length c),(1,.slice ay y.length cy)] ?_
 refine Zs ?_
 refine Zqt (.rd 0 .done) ?_
 refine Zr 0 1 [] ?_
 refine Zd (Zt (Zs ?_))
 refine Zqt (.rd 0 (.rd 1 (.rd 2 (.rd 3 (.ef 4 (.rd 5 (.ef 6 (.rd 7 .done)))))))) ?_
 refine Zp 0 4 [(3,.as_ (.int .u16 (y.length:Nat)) (.gen []))] [(3,[.prop (Value.int .u16 (IntKind.u16.wrap (y.length:Nat))=Value.int .u16 (y.length:Nat))])] (ak (okp (u16ok (by omega) (by omega)) ok0) ak0) ?_
 refine Zqa (f:=47) (args:=#[.slice ad l.length c,.int .u16 (y.length:Nat)]) Tryz.call47 (half_spec l (y.length:Nat) (by omega) (by omega) hs) ?_
 rintro v4 w5 ⟨ao1,co2,rfl,hs3⟩
 refine⟨Zqo,?_⟩
 refine Zr 5 1 [] ?_
 refine GoR.append rfl (by kernel_rfl) bytesOK byteF (ad:=ao1) (c:=co2) (xs:=l++hf (y.length:Nat)) (ys:=y) (adx:=ay) (cx:=cy) (0:Int) (by kernel_rfl) hs3 (hr _ (hs3.drop 1)) hn (by simp only [lA,hf_length];omega) (by simp only [lA,hf_length];omega) ?_
 intro ad8 c9 w6 hs7
 refine⟨Zqo,?_⟩
 refine Zr 7 1 [] ?_
 refine Zd (Zt (Ze ?_))
 refine Zq1 (v:=.slice ad8 (((l++hf (y.length:Nat))++y).length) c9) ?_
 have h9:(l++hf (y.length:Nat))++y=l++loS y:=by simp only [loS,List.append_assoc]
 exact⟨ad8,c9,by rw [h9],by rw [← h9];exact hs7⟩
def pkB (p:TPk):List Int:=[p.fr,p.tw]++(p.kn.toList.flatMap wd++([((p.ml.length:Nat):Int)]++p.ml.flatMap (fun m=>loS (putM m))))
def h1S (s:TSt):List Int:=[(s.dw:Int)]++wd (s.cl+1)++wd (s.wh+1)++wd (s.j+1)++wd (s.k+1)++wd (s.n+1)
def h2S (s:TSt):List Int:=(((((h1S s)++([(s.op.kd:Int)])++wd s.op.am)++tx s.op.ky)++tx s.op.va)++tx s.op.ol)++tx s.op.tx
def hdS (s:TSt):List Int:=((((h2S s++wd s.tm++wd s.at_)++([(s.re.er:Int)]))++tx s.re.vl)++([((s.pl.length:Nat):Int)]))++s.pl
def tlS (s:TSt):List Int:=if s.dw=14 then loS (putM ⟨1,1,dVc,s.bd,dD32⟩) else if s.dw=16 then pkB s.pk else []
def putS (s:TSt):List Int:=if mayS s=true then hdS s++tlS s else []
theorem h1S_len {s:TSt}(h:mayS s=true):(h1S s).length=41:=by
 simp only [h1S,lA,lC,lN,wd_length]
theorem h2S_len {s:TSt}(h:mayS s=true):(h2S s).length≤2000:=by
 obtain⟨q1,q2,q3,q4,q5,q6,q7,q8,q9,q10,q11,q12,q13,q14,q15,q16⟩:=mayS_in h
 have:=h1S_len h
 simp only [h2S,lA,lC,lN,wd_length,tx_length]
 omega
theorem hdS_len {s:TSt}(h:mayS s=true):(hdS s).length≤3000:=by
 obtain⟨q1,q2,q3,q4,q5,q6,q7,q8,q9,q10,q11,q12,q13,q14,q15,q16⟩:=mayS_in h
 have:=h2S_len h
 simp only [hdS,lA,lC,lN,wd_length,tx_length]
 omega
theorem putM_len {m:TMs}(h:mayM m=true):(putM m).length≤740:=by
 have:=tgB_length h
 rw [show putM m=_ from if_pos h]
 simp only [lA,lN,wd_length,D32.len]
 omega
theorem kn_len {s:TSt}{k:Nat}(h:k≤11):((s.pk.kn.toList.take k).flatMap wd).length=8*k:=by
 have e:∀ l:List Int,(l.flatMap wd).length=8*l.length:=fun l=>by
  induction l with
  | nil=>rfl
  | cons a l ih=>rw [List.flatMap_cons,lA,wd_length,ih,lC];omega
 rw [e,List.length_take,VecD.len]
 omega
theorem kn_succ {s:TSt}{k:Nat}(h:k<11):(s.pk.kn.toList.take (k+1)).flatMap wd=(s.pk.kn.toList.take k).flatMap wd++wd (s.pk.kn.toList.getD k 0):=by
 rw [take_succ_getD (d:=(0:Int)) (by rw [VecD.len];exact h),List.flatMap_append]
 simp
theorem ml_succ {s:TSt}{k:Nat}(h:k<s.pk.ml.length):(s.pk.ml.take (k+1)).flatMap (fun m=>loS (putM m))=(s.pk.ml.take k).flatMap (fun m=>loS (putM m))++loS (putM (s.pk.ml.getD k dMs)):=by
 rw [take_succ_getD (d:=dMs) h,List.flatMap_append]
 simp
theorem msg_len:∀ l:List TMs,(∀ m∈l,mayM m=true)→(l.flatMap fun m=>loS (putM m)).length≤742*l.length
 | [],_=>Nat.le_refl _
 | m::l,h=>by
  have h1:=putM_len (h m (List.mem_cons_self ..))
  have h2:=msg_len l fun x hx=>h x (List.mem_cons_of_mem _ hx)
  rw [List.flatMap_cons,lA,loS_length,lC]
  omega
theorem ml_len {l:List TMs}(h:∀ m∈l,mayM m=true) (h8:l.length≤8) (k:Nat):((l.take k).flatMap fun m=>loS (putM m)).length≤6000:=by
 have h1:=msg_len (l.take k) fun x hx=>h x (List.mem_of_mem_take hx)
 have h2:(l.take k).length≤l.length:=by rw [List.length_take];omega
 omega
theorem putS_spec {w0 w:World}{L:List Asn}(s:TSt) (hs_:StOK s) (hms:∀ k,k<s.pk.ml.length→MsOK (s.pk.ml.getD k dMs)∧∀ w,St w0 L w→RowsAt w (s.pk.ml.getD k dMs).bd.qa (s.pk.ml.getD k dMs).bd.ql.length 2 (fun j=>TPr.cells ((s.pk.ml.getD k dMs).bd.ql.getD j dPr))) (hr1:∀ w,St w0 L w→RowsAt w s.bd.qa s.bd.ql.length 2 (fun k=>TPr.cells (s.bd.ql.getD k dPr))) (hr2:∀ w,St w0 L w→RowsAt w s.pk.ma s.pk.ml.length 121 (fun k=>TMs.cells (s.pk.ml.getD k dMs))) (hr3:∀ w,St w0 L w→RowsAt w s.pa s.pl.length 1 (fun k=>byteC (s.pl.getD k (0:Int)))) (hs:St w0 (L) w):Calls Tryz.prog 6 #[.agg (TSt.cells s)] w (Ret fun rv w'=>∃ (ao:Option Addr) (co:Nat),rv=.slice ao ((putS s).length) co∧St w0 ((Sl ao co 5 1 byteC (putS s))::L) w'):=by
 refine Zen (args:=[.agg (TSt.cells s)]) Tryz.func6 Tryz.ntmps6 ?_
 refine Zn [(0,.agg (TSt.cells s))] ?_
 refine Zs ?_
 refine Zqt (.ef 0 (.rd 1 .done)) ?_
 refine GoR.box rfl rfl (by kernel_rfl) (v:=.agg (TSt.cells s)) (by kernel_rfl) hs (cs:=TSt.cells s) (by kernel_rfl) ?_
 intro b1 w2 hs3
 refine⟨Zqo,?_⟩
 refine Zr 1 1 [] ?_
 refine Zd (Zt (Zs (Zs ?_)))
 refine Zqt (.rd 0 (.ef 1 (.rd 2 .done))) ?_
 refine Zp 0 1 [(0,.agg (TSt.cells s))] [(0,[.prop (Array.size (TSt.cells s)=107),.cells ⟨b1,0,none⟩ (TSt.cells s)])] (ak (okp (by kernel_rfl) (oka (hs3.cells 0 0 rfl (by kernel_rfl)) ok0)) ak0) ?_
 refine Zqa (f:=7) (args:=#[.agg (TSt.cells s)]) Tryz.call7 (mayS_spec s hs_ (fun k hk=>⟨(hms k hk).1,fun w h=>(hms k hk).2 w (h.drop 1)⟩) (fun w h=>hr1 _ (h.drop 1)) (fun w h=>hr2 _ (h.drop 1)) (fun w h=>hr3 _ (h.drop 1)) hs3) ?_
 rintro v5 w6 ⟨rfl,hs4⟩
 refine⟨Zqo,?_⟩
 refine Zr 2 1 [] ?_
 refine Zd (Zt ?_)
 refine Zqc (t:=!(mayS s)) (fun h7=>?_) (fun h7=>?_)
 ·have h7n:(mayS s)=false:=notT h7
  refine Zs ?_
  refine Zqt (.rd 0 .done) ?_
  refine Zr 0 1 [] ?_
  refine Zd (Zt (Ze (Zy ?_)))
  refine Zq1 (v:=.slice none 0 0) ?_
  have hs8:St w0 ((Sl none 0 5 1 byteC ([]:List Int))::(Cel b1 (TSt.cells s) 41)::L) w6:=St.slNil hs4 5 1 byteC
  have hs9:St w0 ((Cel b1 (TSt.cells s) 41)::(Sl none 0 5 1 byteC ([]:List Int))::L) w6:=((hs8.pull 0 rfl).pull 1 rfl)
  have hs10:St w0 ((Sl none 0 5 1 byteC ([]:List Int))::L) w6:=hs9.drop 1
  exact⟨none,0,by rw [(show putS s=[] from if_neg (by rw [h7n];decide))];rfl,by rw [(show putS s=[] from if_neg (by rw [h7n];decide))];exact hs10⟩
 ·have h7n:(mayS s)=true:=notF h7
  have hb:mayS s=true:=h7n
  obtain⟨q1,q2,q3,q4,q5,q6,q7,q8,q9,q10,q11,q12,q13,q14,q15,q16⟩:=mayS_in hb
  have e1:=hs_.am
  have e2:=hs_.tm
  have e3:=hs_.at_
  refine Zk (Zt (Zs ?_))
  refine Zqt (.rd 0 (.rd 1 (.ef 2 (.rd 3 .done)))) ?_
  refine Zp 0 2 [(1,.gen [.int .u8 s.dw])] [(1,[.cell ⟨b1,0,none⟩ (.int .u8 s.dw)])] (ak (okc (hs4.cell 0 rfl (by kernel_rfl)) ok0) ak0) ?_
  refine GoR.sliceLit rfl (by kernel_rfl) (t:=39) (e:=5) (n:=1) (ps:=[(0,.int .u8 s.dw)]) (by kernel_rfl) (by kernel_rfl) (ti:=Tryz.t5) (z:=.int .u8 0) (by kernel_rfl) (by kernel_rfl) (by decide) (by decide) (cs:=#[.int .u8 s.dw]) (by kernel_rfl) hs4 ?_
  intro b11 w12 hs13 hz14
  have hs15:St w0 ((Sl (some ⟨b11,0,none⟩) 1 5 1 byteC ([(s.dw:Int)]))::(Cel b1 (TSt.cells s) 41)::L) w12:=St.slOf (l:=[(s.dw:Int)]) (f:=byteC) hs13 hz14 (byteF).size (by simp only [lC,lN,maxLen];omega) (by kernel_rfl)
  refine⟨Zqo,?_⟩
  refine Zr 3 1 [] ?_
  refine Zd (Zt (Zs (Zs ?_)))
  refine Zqt (.ef 0 (.rd 1 (.rd 2 .done))) ?_
  refine Zqa (f:=17) (args:=#[zP b1 0]) Tryz.call17 (numbers_spec hs15) ?_
  rintro v18 w19 ⟨b16,rfl,hs17⟩
  refine⟨Zqo,?_⟩
  refine Zr 1 2 [] ?_
  refine Zd (Zt (Zb ?_))
  refine GoC.unroll 6 ?_
  refine Zs ?_
  refine Zqt (.rd 0 .done) ?_
  refine Zr 0 1 [] ?_
  refine Zd (Zt (Zs (ZqT (Zk (Zt (Zs (Zb (Zs ?_))))))))
  refine Zqt (.rd 0 (.rd 1 (.rd 2 .done))) ?_
  refine Zp 0 3 [(0,.as_ (zP b16 0) .at_),(1,.gen [zP b1 1])] [(0,[.prop (0≤(0:Int)∧(0:Int)<(5:Int)),.prop (Value.pointer (some (Addr.add ⟨b16,0,none⟩ (Int.toNat 0*1)))=Value.pointer (some ⟨b16,0,none⟩))]),(1,[.cell ⟨b16,0,none⟩ (zP b1 1)])] (ak (okp (by omega) (okp (ptrAdd _ _ _) ok0)) (ak (okc (hs17.cell 0 rfl (by kernel_rfl)) ok0) ak0)) ?_
  refine Zd (Zt ?_)
  refine Zqt (.rd 0 (.rd 1 (.rd 2 (.rd 3 (.rd 4 (.rd 5 (.ef 6 (.rd 7 .done)))))))) ?_
  refine Zp 0 6 [(3,.gen [.int .i64 s.cl]),(4,.as_ (.int .i64 (s.cl+1)) (.gen [])),(5,.as_ (.int .u64 (s.cl+1)) (.gen []))] [(3,[.cell ⟨b1,1,none⟩ (.int .i64 s.cl)]),(4,[.prop (Value.int .i64 (IntKind.i64.wrap (s.cl+1))=Value.int .i64 (s.cl+1))]),(5,[.prop (Value.int .u64 (IntKind.u64.wrap (s.cl+1))=Value.int .u64 (s.cl+1))])] (ak (okc (hs17.cell 2 rfl (by kernel_rfl)) ok0) (ak (okp (i64ok (by omega) (by omega)) ok0) (ak (okp (u64ok (by omega) (by omega)) ok0) ak0))) ?_
  have hs20:St w0 ((Sl (some ⟨b11,0,none⟩) 1 5 1 byteC ([(s.dw:Int)]))::(Cel b16 #[zP b1 1,zP b1 2,zP b1 3,zP b1 4,zP b1 5] 73)::(Cel b1 (TSt.cells s) 41)::L) w19:=(hs17.pull 1 rfl)
  refine Zqa (f:=18) (args:=#[zL b11 0 1 1,.int .u64 (s.cl+1)]) Tryz.call18 (word_spec ([(s.dw:Int)]) (s.cl+1) (by first|omega|(simp only [lA,lC,lN,wd_length] at *;omega)) (by omega) hs20) ?_
  rintro v24 w25 ⟨ao21,co22,rfl,hs23⟩
  refine⟨Zqo,?_⟩
  refine Zr 7 1 [] ?_
  refine Zd (Zm (Zt ?_))
  refine Zqt (.rd 0 (.rd 1 .done)) ?_
  refine Zr 0 2 [] ?_
  refine Zd ?_
  refine GoQ.again ?_
  refine Zs ?_
  refine Zqt (.rd 0 .done) ?_
  refine Zr 0 1 [] ?_
  refine Zd (Zt (Zs (ZqT (Zk (Zt (Zs (Zb (Zs ?_))))))))
  refine Zqt (.rd 0 (.rd 1 (.rd 2 .done))) ?_
  refine Zp 0 3 [(0,.as_ (zP b16 1) .at_),(1,.gen [zP b1 2])] [(0,[.prop (0≤(1:Int)∧(1:Int)<(5:Int)),.prop (Value.pointer (some (Addr.add ⟨b16,0,none⟩ (Int.toNat 1*1)))=Value.pointer (some ⟨b16,1,none⟩))]),(1,[.cell ⟨b16,1,none⟩ (zP b1 2)])] (ak (okp (by omega) (okp (ptrAdd _ _ _) ok0)) (ak (okc (hs23.cell 1 rfl (by kernel_rfl)) ok0) ak0)) ?_
  refine Zd (Zt ?_)
  refine Zqt (.rd 0 (.rd 1 (.rd 2 (.rd 3 (.rd 4 (.rd 5 (.ef 6 (.rd 7 .done)))))))) ?_
  refine Zp 0 6 [(3,.gen [.int .i64 s.wh]),(4,.as_ (.int .i64 (s.wh+1)) (.gen [])),(5,.as_ (.int .u64 (s.wh+1)) (.gen []))] [(3,[.cell ⟨b1,2,none⟩ (.int .i64 s.wh)]),(4,[.prop (Value.int .i64 (IntKind.i64.wrap (s.wh+1))=Value.int .i64 (s.wh+1))]),(5,[.prop (Value.int .u64 (IntKind.u64.wrap (s.wh+1))=Value.int .u64 (s.wh+1))])] (ak (okc (hs23.cell 2 rfl (by kernel_rfl)) ok0) (ak (okp (i64ok (by omega) (by omega)) ok0) (ak (okp (u64ok (by omega) (by omega)) ok0) ak0))) ?_
  refine Zqa (f:=18) (args:=#[.slice ao21 (([(s.dw:Int)]++wd (s.cl+1)).length) co22,.int .u64 (s.wh+1)]) Tryz.call18 (word_spec ([(s.dw:Int)]++wd (s.cl+1)) (s.wh+1) (by first|omega|(simp only [lA,lC,lN,wd_length] at *;omega)) (by omega) hs23) ?_
  rintro v29 w30 ⟨ao26,co27,rfl,hs28⟩
  refine⟨Zqo,?_⟩
  refine Zr 7 1 [] ?_
  refine Zd (Zm (Zt ?_))
  refine Zqt (.rd 0 (.rd 1 .done)) ?_
  refine Zr 0 2 [] ?_
  refine Zd ?_
  refine GoQ.again ?_
  refine Zs ?_
  refine Zqt (.rd 0 .done) ?_
  refine Zr 0 1 [] ?_
  refine Zd (Zt (Zs (ZqT (Zk (Zt (Zs (Zb (Zs ?_))))))))
  refine Zqt (.rd 0 (.rd 1 (.rd 2 .done))) ?_
  refine Zp 0 3 [(0,.as_ (zP b16 2) .at_),(1,.gen [zP b1 3])] [(0,[.prop (0≤(2:Int)∧(2:Int)<(5:Int)),.prop (Value.pointer (some (Addr.add ⟨b16,0,none⟩ (Int.toNat 2*1)))=Value.pointer (some ⟨b16,2,none⟩))]),(1,[.cell ⟨b16,2,none⟩ (zP b1 3)])] (ak (okp (by omega) (okp (ptrAdd _ _ _) ok0)) (ak (okc (hs28.cell 1 rfl (by kernel_rfl)) ok0) ak0)) ?_
  refine Zd (Zt ?_)
  refine Zqt (.rd 0 (.rd 1 (.rd 2 (.rd 3 (.rd 4 (.rd 5 (.ef 6 (.rd 7 .done)))))))) ?_
  refine Zp 0 6 [(3,.gen [.int .i64 s.j]),(4,.as_ (.int .i64 (s.j+1)) (.gen [])),(5,.as_ (.int .u64 (s.j+1)) (.gen []))] [(3,[.cell ⟨b1,3,none⟩ (.int .i64 s.j)]),(4,[.prop (Value.int .i64 (IntKind.i64.wrap (s.j+1))=Value.int .i64 (s.j+1))]),(5,[.prop (Value.int .u64 (IntKind.u64.wrap (s.j+1))=Value.int .u64 (s.j+1))])] (ak (okc (hs28.cell 2 rfl (by kernel_rfl)) ok0) (ak (okp (i64ok (by omega) (by omega)) ok0) (ak (okp (u64ok (by omega) (by omega)) ok0) ak0))) ?_
  refine Zqa (f:=18) (args:=#[.slice ao26 (([(s.dw:Int)]++wd (s.cl+1)++wd (s.wh+1)).length) co27,.int .u64 (s.j+1)]) Tryz.call18 (word_spec ([(s.dw:Int)]++wd (s.cl+1)++wd (s.wh+1)) (s.j+1) (by first|omega|(simp only [lA,lC,lN,wd_length] at *;omega)) (by omega) hs28) ?_
  rintro v34 w35 ⟨ao31,co32,rfl,hs33⟩
  refine⟨Zqo,?_⟩
  refine Zr 7 1 [] ?_
  refine Zd (Zm (Zt ?_))
  refine Zqt (.rd 0 (.rd 1 .done)) ?_
  refine Zr 0 2 [] ?_
  refine Zd ?_
  refine GoQ.again ?_
  refine Zs ?_
  refine Zqt (.rd 0 .done) ?_
  refine Zr 0 1 [] ?_
  refine Zd (Zt (Zs (ZqT (Zk (Zt (Zs (Zb (Zs ?_))))))))
  refine Zqt (.rd 0 (.rd 1 (.rd 2 .done))) ?_
  refine Zp 0 3 [(0,.as_ (zP b16 3) .at_),(1,.gen [zP b1 4])] [(0,[.prop (0≤(3:Int)∧(3:Int)<(5:Int)),.prop (Value.pointer (some (Addr.add ⟨b16,0,none⟩ (Int.toNat 3*1)))=Value.pointer (some ⟨b16,3,none⟩))]),(1,[.cell ⟨b16,3,none⟩ (zP b1 4)])] (ak (okp (by omega) (okp (ptrAdd _ _ _) ok0)) (ak (okc (hs33.cell 1 rfl (by kernel_rfl)) ok0) ak0)) ?_
  refine Zd (Zt ?_)
  refine Zqt (.rd 0 (.rd 1 (.rd 2 (.rd 3 (.rd 4 (.rd 5 (.ef 6 (.rd 7 .done)))))))) ?_
  refine Zp 0 6 [(3,.gen [.int .i64 s.k]),(4,.as_ (.int .i64 (s.k+1)) (.gen [])),(5,.as_ (.int .u64 (s.k+1)) (.gen []))] [(3,[.cell ⟨b1,4,none⟩ (.int .i64 s.k)]),(4,[.prop (Value.int .i64 (IntKind.i64.wrap (s.k+1))=Value.int .i64 (s.k+1))]),(5,[.prop (Value.int .u64 (IntKind.u64.wrap (s.k+1))=Value.int .u64 (s.k+1))])] (ak (okc (hs33.cell 2 rfl (by kernel_rfl)) ok0) (ak (okp (i64ok (by omega) (by omega)) ok0) (ak (okp (u64ok (by omega) (by omega)) ok0) ak0))) ?_
  refine Zqa (f:=18) (args:=#[.slice ao31 (([(s.dw:Int)]++wd (s.cl+1)++wd (s.wh+1)++wd (s.j+1)).length) co32,.int .u64 (s.k+1)]) Tryz.call18 (word_spec ([(s.dw:Int)]++wd (s.cl+1)++wd (s.wh+1)++wd (s.j+1)) (s.k+1) (by first|omega|(simp only [lA,lC,lN,wd_length] at *;omega)) (by omega) hs33) ?_
  rintro v39 w40 ⟨ao36,co37,rfl,hs38⟩
  refine⟨Zqo,?_⟩
  refine Zr 7 1 [] ?_
  refine Zd (Zm (Zt ?_))
  refine Zqt (.rd 0 (.rd 1 .done)) ?_
  refine Zr 0 2 [] ?_
  refine Zd ?_
  refine GoQ.again ?_
  refine Zs ?_
  refine Zqt (.rd 0 .done) ?_
  refine Zr 0 1 [] ?_
  refine Zd (Zt (Zs (ZqT (Zk (Zt (Zs (Zb (Zs ?_))))))))
  refine Zqt (.rd 0 (.rd 1 (.rd 2 .done))) ?_
  refine Zp 0 3 [(0,.as_ (zP b16 4) .at_),(1,.gen [zP b1 5])] [(0,[.prop (0≤(4:Int)∧(4:Int)<(5:Int)),.prop (Value.pointer (some (Addr.add ⟨b16,0,none⟩ (Int.toNat 4*1)))=Value.pointer (some ⟨b16,4,none⟩))]),(1,[.cell ⟨b16,4,none⟩ (zP b1 5)])] (ak (okp (by omega) (okp (ptrAdd _ _ _) ok0)) (ak (okc (hs38.cell 1 rfl (by kernel_rfl)) ok0) ak0)) ?_
  refine Zd (Zt ?_)
  refine Zqt (.rd 0 (.rd 1 (.rd 2 (.rd 3 (.rd 4 (.rd 5 (.ef 6 (.rd 7 .done)))))))) ?_
  refine Zp 0 6 [(3,.gen [.int .i64 s.n]),(4,.as_ (.int .i64 (s.n+1)) (.gen [])),(5,.as_ (.int .u64 (s.n+1)) (.gen []))] [(3,[.cell ⟨b1,5,none⟩ (.int .i64 s.n)]),(4,[.prop (Value.int .i64 (IntKind.i64.wrap (s.n+1))=Value.int .i64 (s.n+1))]),(5,[.prop (Value.int .u64 (IntKind.u64.wrap (s.n+1))=Value.int .u64 (s.n+1))])] (ak (okc (hs38.cell 2 rfl (by kernel_rfl)) ok0) (ak (okp (i64ok (by omega) (by omega)) ok0) (ak (okp (u64ok (by omega) (by omega)) ok0) ak0))) ?_
  refine Zqa (f:=18) (args:=#[.slice ao36 (([(s.dw:Int)]++wd (s.cl+1)++wd (s.wh+1)++wd (s.j+1)++wd (s.k+1)).length) co37,.int .u64 (s.n+1)]) Tryz.call18 (word_spec ([(s.dw:Int)]++wd (s.cl+1)++wd (s.wh+1)++wd (s.j+1)++wd (s.k+1)) (s.n+1) (by first|omega|(simp only [lA,lC,lN,wd_length] at *;omega)) (by omega) hs38) ?_
  rintro v44 w45 ⟨ao41,co42,rfl,hs43⟩
  refine⟨Zqo,?_⟩
  refine Zr 7 1 [] ?_
  refine Zd (Zm (Zt ?_))
  refine Zqt (.rd 0 (.rd 1 .done)) ?_
  refine Zr 0 2 [] ?_
  refine Zd ?_
  refine GoQ.again ?_
  refine Zs ?_
  refine Zqt (.rd 0 .done) ?_
  refine Zr 0 1 [] ?_
  refine Zd (Zt (Zs (ZqF (Zx (GoQ.skipC (GoQ.skipL (GoQ.hit (Zt (Zs ?_)))))))))
  refine Zn [(22,.bool false),(21,.int .i64 5),(32,.int .i64 5),(3,.slice ao41 (([(s.dw:Int)]++wd (s.cl+1)++wd (s.wh+1)++wd (s.j+1)++wd (s.k+1)++wd (s.n+1)).length) co42),(31,.slice ao41 (([(s.dw:Int)]++wd (s.cl+1)++wd (s.wh+1)++wd (s.j+1)++wd (s.k+1)++wd (s.n+1)).length) co42),(30,.int .u64 (s.n+1)),(29,.int .i64 (s.n+1)),(28,.int .i64 s.n),(27,zP b1 5),(26,zP b1 5),(25,.slice ao36 (([(s.dw:Int)]++wd (s.cl+1)++wd (s.wh+1)++wd (s.j+1)++wd (s.k+1)).length) co37),(5,zP b1 5),(24,zP b1 5),(23,zP b16 4),(20,.int .i64 5),(19,zL b16 0 5 5),(2,.slice none 0 0),(1,zP b1 0)] ?_
  have hs46:St w0 ((Sl ao41 co42 5 1 byteC (h1S s))::(Cel b16 #[zP b1 1,zP b1 2,zP b1 3,zP b1 4,zP b1 5] 73)::(Cel b1 (TSt.cells s) 41)::L) w45:=hs43
  refine Zn [(22,.bool false),(21,.int .i64 5),(32,.int .i64 5),(3,.slice ao41 ((h1S s).length) co42),(31,.slice ao41 (([(s.dw:Int)]++wd (s.cl+1)++wd (s.wh+1)++wd (s.j+1)++wd (s.k+1)++wd (s.n+1)).length) co42),(30,.int .u64 (s.n+1)),(29,.int .i64 (s.n+1)),(28,.int .i64 s.n),(27,zP b1 5),(26,zP b1 5),(25,.slice ao36 (([(s.dw:Int)]++wd (s.cl+1)++wd (s.wh+1)++wd (s.j+1)++wd (s.k+1)).length) co37),(5,zP b1 5),(24,zP b1 5),(23,zP b16 4),(20,.int .i64 5),(19,zL b16 0 5 5),(2,.slice none 0 0),(1,zP b1 0)] ?_
  have hl_h1S:=h1S_len hb
  refine GoC.regD [0,0,2,6,14,31,0,64,192,511,1023] (.rd 0 (.rd 1 (.rd 2 (.rd 3 (.rd 6 (.rd 7 (.rd 8 (.ef 4 (.ef 5 (.ef 9 (.rd 10 .done))))))))))) (by kernel_rfl) (by kernel_rfl) noPan_body (by kernel_rfl) hs46 ?_
  intro w47 hs48 hw49
  refine Zh [(0,.gen []),(1,.gen []),(2,.gen []),(3,.gen [.int .u8 s.op.kd]),(6,.gen []),(7,.gen []),(8,.gen [.int .u64 s.op.am])] [(3,[.cell ⟨b1,6,none⟩ (.int .u8 s.op.kd)]),(8,[.cell ⟨b1,11,none⟩ (.int .u64 s.op.am)])] (ak (okc (hs48.cell 2 rfl (by kernel_rfl)) ok0) (ak (okc (hs48.cell 2 rfl (by kernel_rfl)) ok0) ak0)) ?_
  refine GoR.sliceLit rfl (by kernel_rfl) (t:=39) (e:=5) (n:=1) (ps:=[(0,.int .u8 s.op.kd)]) (by kernel_rfl) (by kernel_rfl) (ti:=Tryz.t5) (z:=.int .u8 0) (by kernel_rfl) (by kernel_rfl) (by decide) (by decide) (cs:=#[.int .u8 s.op.kd]) (by kernel_rfl) hs48 ?_
  intro b50 w51 hs52 hz53
  have hs54:St w0 ((Sl (some ⟨b50,0,none⟩) 1 5 1 byteC ([(s.op.kd:Int)]))::(Sl ao41 co42 5 1 byteC (h1S s))::(Cel b16 #[zP b1 1,zP b1 2,zP b1 3,zP b1 4,zP b1 5] 73)::(Cel b1 (TSt.cells s) 41)::L) w51:=St.slOf (l:=[(s.op.kd:Int)]) (f:=byteC) hs52 hz53 (byteF).size (by simp only [lC,lN,maxLen];omega) (by kernel_rfl)
  refine⟨(opl (n:=[.cell ⟨b1,11,none⟩ (.int .u64 s.op.am)]) (by kernel_rfl) (okc (hs54.cell 3 rfl (by kernel_rfl)) ok0)),?_⟩
  have hs57:St w0 ((Sl ao41 co42 5 1 byteC (h1S s))::(Sl (some ⟨b50,0,none⟩) 1 5 1 byteC ([(s.op.kd:Int)]))::(Cel b16 #[zP b1 1,zP b1 2,zP b1 3,zP b1 4,zP b1 5] 73)::(Cel b1 (TSt.cells s) 41)::L) w51:=(hs54.pull 1 rfl)
  refine GoR.append rfl (by kernel_rfl) bytesOK byteF (ad:=ao41) (c:=co42) (xs:=h1S s) (ys:=[(s.op.kd:Int)]) (adx:=some ⟨b50,0,none⟩) (cx:=1) (0:Int) (by kernel_rfl) hs57 (hs57.rows 1 rfl (byteF).size (0:Int)) (fun h=>nomatch h) (by first|omega|(simp only [lA,lC,lN,wd_length,hf_length,tx_length,strB_length,loS_length] at *;omega)) (by first|omega|(simp only [lA,lC,lN,wd_length,hf_length,tx_length,strB_length,loS_length] at *;omega)) ?_
  intro ad58 c59 w55 hs56
  refine⟨(opl (n:=[.cell ⟨b1,11,none⟩ (.int .u64 s.op.am)]) (by kernel_rfl) (okc (hs56.cell 3 rfl (by kernel_rfl)) ok0)),?_⟩
  refine Zqa (f:=18) (args:=#[.slice ad58 (((h1S s)++([(s.op.kd:Int)])).length) c59,.int .u64 s.op.am]) Tryz.call18 (word_spec ((h1S s)++([(s.op.kd:Int)])) s.op.am (by first|omega|(simp only [lA,lC,lN,wd_length] at *;omega)) (by omega) hs56) ?_
  rintro v63 w64 ⟨ao60,co61,rfl,hs62⟩
  refine⟨Zqo,?_⟩
  refine Zr 10 1 [] ?_
  refine Zd (Zt (Zs (Zs ?_)))
  refine Zqt (.rd 0 (.ef 1 (.rd 2 (.rd 3 .done)))) ?_
  refine Zr 0 1 [] ?_
  refine Zqa (f:=19) (args:=#[zP b1 6]) Tryz.call19 (texts_spec hs62) ?_
  rintro v67 w68 ⟨b65,rfl,hs66⟩
  refine⟨Zqo,?_⟩
  refine Zr 2 2 [] ?_
  refine Zd (Zt (Zb ?_))
  refine GoC.unroll 6 ?_
  refine Zs ?_
  refine Zqt (.rd 0 .done) ?_
  refine Zr 0 1 [] ?_
  refine Zd (Zt (Zs (ZqT (Zk (Zt (Zs (Zb (Zs ?_))))))))
  refine Zqt (.rd 0 (.rd 1 (.rd 2 .done))) ?_
  refine Zp 0 3 [(0,.as_ (zP b65 0) .at_),(1,.gen [zP b1 7])] [(0,[.prop (0≤(0:Int)∧(0:Int)<(4:Int)),.prop (Value.pointer (some (Addr.add ⟨b65,0,none⟩ (Int.toNat 0*1)))=Value.pointer (some ⟨b65,0,none⟩))]),(1,[.cell ⟨b65,0,none⟩ (zP b1 7)])] (ak (okp (by omega) (okp (ptrAdd _ _ _) ok0)) (ak (okc (RowsAt.at0 (hs66.rows 0 rfl (ptF).size ((0,0):Nat×Nat)) (k:=0) (by first|omega|(simp only [List.length_set];omega)|(simp only [List.length_set,lA,lC,lN];omega)) (j:=0) (by decide) (by kernel_rfl)) ok0) ak0)) ?_
  refine Zd (Zt ?_)
  refine Zqt (.rd 0 (.rd 1 (.rd 2 (.rd 3 (.ef 4 (.rd 5 (.rd 6 (.rd 7 (.rd 8 .done))))))))) ?_
  refine Zp 0 4 [(3,.gen [.string s.op.ky])] [(3,[.cell ⟨b1,7,none⟩ (.string s.op.ky)])] (ak (okc (hs66.cell 4 rfl (by kernel_rfl)) ok0) ak0) ?_
  have hs69:St w0 ((Sl ao60 co61 5 1 byteC ((h1S s)++([(s.op.kd:Int)])++wd s.op.am))::(Sl (some ⟨b65,0,none⟩) 4 78 1 ptC ([((b1,7):Nat×Nat),((b1,8):Nat×Nat),((b1,9):Nat×Nat),((b1,10):Nat×Nat)]))::(Sl (some ⟨b50,0,none⟩) 1 5 1 byteC ([(s.op.kd:Int)]))::(Cel b16 #[zP b1 1,zP b1 2,zP b1 3,zP b1 4,zP b1 5] 73)::(Cel b1 (TSt.cells s) 41)::L) w68:=(hs66.pull 1 rfl)
  refine Zqa (f:=20) (args:=#[.slice ao60 (((h1S s)++([(s.op.kd:Int)])++wd s.op.am).length) co61,.string s.op.ky]) Tryz.call20 (text_spec ((h1S s)++([(s.op.kd:Int)])++wd s.op.am) s.op.ky (by first|omega|(simp only [lA,lC,lN,wd_length,hf_length,tx_length,strB_length,loS_length] at *;omega)) (by omega) hs69) ?_
  rintro v73 w74 ⟨ao70,co71,rfl,hs72⟩
  refine⟨Zqo,?_⟩
  refine Zr 5 4 [] ?_
  refine Zd (Zm (Zt ?_))
  refine Zqt (.rd 0 (.rd 1 .done)) ?_
  refine Zr 0 2 [] ?_
  refine Zd ?_
  refine GoQ.again ?_
  refine Zs ?_
  refine Zqt (.rd 0 .done) ?_
  refine Zr 0 1 [] ?_
  refine Zd (Zt (Zs (ZqT (Zk (Zt (Zs (Zb (Zs ?_))))))))
  refine Zqt (.rd 0 (.rd 1 (.rd 2 .done))) ?_
  refine Zp 0 3 [(0,.as_ (zP b65 1) .at_),(1,.gen [zP b1 8])] [(0,[.prop (0≤(1:Int)∧(1:Int)<(4:Int)),.prop (Value.pointer (some (Addr.add ⟨b65,0,none⟩ (Int.toNat 1*1)))=Value.pointer (some ⟨b65,1,none⟩))]),(1,[.cell ⟨b65,1,none⟩ (zP b1 8)])] (ak (okp (by omega) (okp (ptrAdd _ _ _) ok0)) (ak (okc (RowsAt.at0 (hs72.rows 1 rfl (ptF).size ((0,0):Nat×Nat)) (k:=1) (by first|omega|(simp only [List.length_set];omega)|(simp only [List.length_set,lA,lC,lN];omega)) (j:=0) (by decide) (by kernel_rfl)) ok0) ak0)) ?_
  refine Zd (Zt ?_)
  refine Zqt (.rd 0 (.rd 1 (.rd 2 (.rd 3 (.ef 4 (.rd 5 (.rd 6 (.rd 7 (.rd 8 .done))))))))) ?_
  refine Zp 0 4 [(3,.gen [.string s.op.va])] [(3,[.cell ⟨b1,8,none⟩ (.string s.op.va)])] (ak (okc (hs72.cell 4 rfl (by kernel_rfl)) ok0) ak0) ?_
  refine Zqa (f:=20) (args:=#[.slice ao70 ((((h1S s)++([(s.op.kd:Int)])++wd s.op.am)++tx s.op.ky).length) co71,.string s.op.va]) Tryz.call20 (text_spec (((h1S s)++([(s.op.kd:Int)])++wd s.op.am)++tx s.op.ky) s.op.va (by first|omega|(simp only [lA,lC,lN,wd_length,hf_length,tx_length,strB_length,loS_length] at *;omega)) (by omega) hs72) ?_
  rintro v78 w79 ⟨ao75,co76,rfl,hs77⟩
  refine⟨Zqo,?_⟩
  refine Zr 5 4 [] ?_
  refine Zd (Zm (Zt ?_))
  refine Zqt (.rd 0 (.rd 1 .done)) ?_
  refine Zr 0 2 [] ?_
  refine Zd ?_
  refine GoQ.again ?_
  refine Zs ?_
  refine Zqt (.rd 0 .done) ?_
  refine Zr 0 1 [] ?_
  refine Zd (Zt (Zs (ZqT (Zk (Zt (Zs (Zb (Zs ?_))))))))
  refine Zqt (.rd 0 (.rd 1 (.rd 2 .done))) ?_
  refine Zp 0 3 [(0,.as_ (zP b65 2) .at_),(1,.gen [zP b1 9])] [(0,[.prop (0≤(2:Int)∧(2:Int)<(4:Int)),.prop (Value.pointer (some (Addr.add ⟨b65,0,none⟩ (Int.toNat 2*1)))=Value.pointer (some ⟨b65,2,none⟩))]),(1,[.cell ⟨b65,2,none⟩ (zP b1 9)])] (ak (okp (by omega) (okp (ptrAdd _ _ _) ok0)) (ak (okc (RowsAt.at0 (hs77.rows 1 rfl (ptF).size ((0,0):Nat×Nat)) (k:=2) (by first|omega|(simp only [List.length_set];omega)|(simp only [List.length_set,lA,lC,lN];omega)) (j:=0) (by decide) (by kernel_rfl)) ok0) ak0)) ?_
  refine Zd (Zt ?_)
  refine Zqt (.rd 0 (.rd 1 (.rd 2 (.rd 3 (.ef 4 (.rd 5 (.rd 6 (.rd 7 (.rd 8 .done))))))))) ?_
  refine Zp 0 4 [(3,.gen [.string s.op.ol])] [(3,[.cell ⟨b1,9,none⟩ (.string s.op.ol)])] (ak (okc (hs77.cell 4 rfl (by kernel_rfl)) ok0) ak0) ?_
  refine Zqa (f:=20) (args:=#[.slice ao75 (((((h1S s)++([(s.op.kd:Int)])++wd s.op.am)++tx s.op.ky)++tx s.op.va).length) co76,.string s.op.ol]) Tryz.call20 (text_spec ((((h1S s)++([(s.op.kd:Int)])++wd s.op.am)++tx s.op.ky)++tx s.op.va) s.op.ol (by first|omega|(simp only [lA,lC,lN,wd_length,hf_length,tx_length,strB_length,loS_length] at *;omega)) (by omega) hs77) ?_
  rintro v83 w84 ⟨ao80,co81,rfl,hs82⟩
  refine⟨Zqo,?_⟩
  refine Zr 5 4 [] ?_
  refine Zd (Zm (Zt ?_))
  refine Zqt (.rd 0 (.rd 1 .done)) ?_
  refine Zr 0 2 [] ?_
  refine Zd ?_
  refine GoQ.again ?_
  refine Zs ?_
  refine Zqt (.rd 0 .done) ?_
  refine Zr 0 1 [] ?_
  refine Zd (Zt (Zs (ZqT (Zk (Zt (Zs (Zb (Zs ?_))))))))
  refine Zqt (.rd 0 (.rd 1 (.rd 2 .done))) ?_
  refine Zp 0 3 [(0,.as_ (zP b65 3) .at_),(1,.gen [zP b1 10])] [(0,[.prop (0≤(3:Int)∧(3:Int)<(4:Int)),.prop (Value.pointer (some (Addr.add ⟨b65,0,none⟩ (Int.toNat 3*1)))=Value.pointer (some ⟨b65,3,none⟩))]),(1,[.cell ⟨b65,3,none⟩ (zP b1 10)])] (ak (okp (by omega) (okp (ptrAdd _ _ _) ok0)) (ak (okc (RowsAt.at0 (hs82.rows 1 rfl (ptF).size ((0,0):Nat×Nat)) (k:=3) (by first|omega|(simp only [List.length_set];omega)|(simp only [List.length_set,lA,lC,lN];omega)) (j:=0) (by decide) (by kernel_rfl)) ok0) ak0)) ?_
  refine Zd (Zt ?_)
  refine Zqt (.rd 0 (.rd 1 (.rd 2 (.rd 3 (.ef 4 (.rd 5 (.rd 6 (.rd 7 (.rd 8 .done))))))))) ?_
  refine Zp 0 4 [(3,.gen [.string s.op.tx])] [(3,[.cell ⟨b1,10,none⟩ (.string s.op.tx)])] (ak (okc (hs82.cell 4 rfl (by kernel_rfl)) ok0) ak0) ?_
  refine Zqa (f:=20) (args:=#[.slice ao80 ((((((h1S s)++([(s.op.kd:Int)])++wd s.op.am)++tx s.op.ky)++tx s.op.va)++tx s.op.ol).length) co81,.string s.op.tx]) Tryz.call20 (text_spec (((((h1S s)++([(s.op.kd:Int)])++wd s.op.am)++tx s.op.ky)++tx s.op.va)++tx s.op.ol) s.op.tx (by first|omega|(simp only [lA,lC,lN,wd_length,hf_length,tx_length,strB_length,loS_length] at *;omega)) (by omega) hs82) ?_
  rintro v88 w89 ⟨ao85,co86,rfl,hs87⟩
  refine⟨Zqo,?_⟩
  refine Zr 5 4 [] ?_
  refine Zd (Zm (Zt ?_))
  refine Zqt (.rd 0 (.rd 1 .done)) ?_
  refine Zr 0 2 [] ?_
  refine Zd ?_
  refine GoQ.again ?_
  refine Zs ?_
  refine Zqt (.rd 0 .done) ?_
  refine Zr 0 1 [] ?_
  refine Zd (Zt (Zs (ZqF (Zx (GoQ.skipC (GoQ.skipL (GoQ.hit (Zt (Zs ?_)))))))))
  refine Zn [(47,.bool false),(46,.int .i64 4),(58,.int .i64 4),(3,.slice ao85 (((((((h1S s)++([(s.op.kd:Int)])++wd s.op.am)++tx s.op.ky)++tx s.op.va)++tx s.op.ol)++tx s.op.tx).length) co86),(56,.slice ao85 (((((((h1S s)++([(s.op.kd:Int)])++wd s.op.am)++tx s.op.ky)++tx s.op.va)++tx s.op.ol)++tx s.op.tx).length) co86),(50,.tuple #[.slice ao85 (((((((h1S s)++([(s.op.kd:Int)])++wd s.op.am)++tx s.op.ky)++tx s.op.va)++tx s.op.ol)++tx s.op.tx).length) co86,.int .i64 0]),(55,.tuple #[.slice ao85 (((((((h1S s)++([(s.op.kd:Int)])++wd s.op.am)++tx s.op.ky)++tx s.op.va)++tx s.op.ol)++tx s.op.tx).length) co86,.int .i64 0]),(54,.string s.op.tx),(53,zP b1 10),(52,zP b1 10),(51,.slice ao80 ((((((h1S s)++([(s.op.kd:Int)])++wd s.op.am)++tx s.op.ky)++tx s.op.va)++tx s.op.ol).length) co81),(7,zP b1 10),(49,zP b1 10),(48,zP b65 3),(45,.int .i64 4),(44,zL b65 0 4 4),(2,.slice none 0 0),(1,zP b1 0)] ?_
  have hs90:St w0 ((Sl ao85 co86 5 1 byteC (h2S s))::(Sl (some ⟨b65,0,none⟩) 4 78 1 ptC ([((b1,7):Nat×Nat),((b1,8):Nat×Nat),((b1,9):Nat×Nat),((b1,10):Nat×Nat)]))::(Sl (some ⟨b50,0,none⟩) 1 5 1 byteC ([(s.op.kd:Int)]))::(Cel b16 #[zP b1 1,zP b1 2,zP b1 3,zP b1 4,zP b1 5] 73)::(Cel b1 (TSt.cells s) 41)::L) w89:=hs87
  refine Zn [(47,.bool false),(46,.int .i64 4),(58,.int .i64 4),(3,.slice ao85 ((h2S s).length) co86),(56,.slice ao85 (((((((h1S s)++([(s.op.kd:Int)])++wd s.op.am)++tx s.op.ky)++tx s.op.va)++tx s.op.ol)++tx s.op.tx).length) co86),(50,.tuple #[.slice ao85 (((((((h1S s)++([(s.op.kd:Int)])++wd s.op.am)++tx s.op.ky)++tx s.op.va)++tx s.op.ol)++tx s.op.tx).length) co86,.int .i64 0]),(55,.tuple #[.slice ao85 (((((((h1S s)++([(s.op.kd:Int)])++wd s.op.am)++tx s.op.ky)++tx s.op.va)++tx s.op.ol)++tx s.op.tx).length) co86,.int .i64 0]),(54,.string s.op.tx),(53,zP b1 10),(52,zP b1 10),(51,.slice ao80 ((((((h1S s)++([(s.op.kd:Int)])++wd s.op.am)++tx s.op.ky)++tx s.op.va)++tx s.op.ol).length) co81),(7,zP b1 10),(49,zP b1 10),(48,zP b65 3),(45,.int .i64 4),(44,zL b65 0 4 4),(2,.slice none 0 0),(1,zP b1 0)] ?_
  have hl_h2S:=h2S_len hb
  refine GoC.regD [0,0,2,7,0,16,63,127] (.rd 0 (.rd 1 (.rd 2 (.rd 4 (.rd 5 (.ef 3 (.ef 6 (.rd 7 .done)))))))) (by kernel_rfl) (by kernel_rfl) noPan_body (by kernel_rfl) hs90 ?_
  intro w91 hs92 hw93
  refine Zh [(0,.gen []),(1,.gen []),(2,.gen [.int .u64 s.tm]),(4,.gen []),(5,.gen [.int .u64 s.at_])] [(2,[.cell ⟨b1,102,none⟩ (.int .u64 s.tm)]),(5,[.cell ⟨b1,105,none⟩ (.int .u64 s.at_)])] (ak (okc (hs92.cell 4 rfl (by kernel_rfl)) ok0) (ak (okc (hs92.cell 4 rfl (by kernel_rfl)) ok0) ak0)) ?_
  refine Zqa (f:=18) (args:=#[.slice ao85 ((h2S s).length) co86,.int .u64 s.tm]) Tryz.call18 (word_spec (h2S s) s.tm (by first|omega|(simp only [lA,lC,lN,wd_length] at *;omega)) (by omega) hs92) ?_
  rintro v97 w98 ⟨ao94,co95,rfl,hs96⟩
  refine⟨(opl (n:=[.cell ⟨b1,105,none⟩ (.int .u64 s.at_)]) (by kernel_rfl) (okc (hs96.cell 4 rfl (by kernel_rfl)) ok0)),?_⟩
  refine Zqa (f:=18) (args:=#[.slice ao94 ((h2S s++wd s.tm).length) co95,.int .u64 s.at_]) Tryz.call18 (word_spec (h2S s++wd s.tm) s.at_ (by first|omega|(simp only [lA,lC,lN,wd_length] at *;omega)) (by omega) hs96) ?_
  rintro v102 w103 ⟨ao99,co100,rfl,hs101⟩
  refine⟨Zqo,?_⟩
  refine Zr 7 1 [] ?_
  refine Zd (Zt (Zs ?_))
  refine GoC.regD [0,0,2,6,14,30,63,0,128,384,1023,2047,4095,4095,8191] (.rd 0 (.rd 1 (.rd 2 (.rd 3 (.rd 4 (.rd 7 (.rd 8 (.rd 9 (.ef 5 (.ef 6 (.ef 10 (.rd 11 (.rd 12 (.rd 13 (.rd 14 .done))))))))))))))) (by kernel_rfl) (by kernel_rfl) noPan_body (by kernel_rfl) hs101 ?_
  intro w104 hs105 hw106
  refine Zh [(0,.gen []),(1,.gen []),(2,.gen []),(3,.gen [.int .i64 s.re.er]),(4,.as_ (.int .u8 s.re.er) (.gen [])),(7,.gen []),(8,.gen []),(9,.gen [.string s.re.vl])] [(3,[.cell ⟨b1,103,none⟩ (.int .i64 s.re.er)]),(4,[.prop (Value.int .u8 (IntKind.u8.wrap s.re.er)=Value.int .u8 s.re.er)]),(9,[.cell ⟨b1,104,none⟩ (.string s.re.vl)])] (ak (okc (hs105.cell 4 rfl (by kernel_rfl)) ok0) (ak (okp (u8ok (by omega) (by omega)) ok0) (ak (okc (hs105.cell 4 rfl (by kernel_rfl)) ok0) ak0))) ?_
  refine GoR.sliceLit rfl (by kernel_rfl) (t:=39) (e:=5) (n:=1) (ps:=[(0,.int .u8 s.re.er)]) (by kernel_rfl) (by kernel_rfl) (ti:=Tryz.t5) (z:=.int .u8 0) (by kernel_rfl) (by kernel_rfl) (by decide) (by decide) (cs:=#[.int .u8 s.re.er]) (by kernel_rfl) hs105 ?_
  intro b107 w108 hs109 hz110
  have hs111:St w0 ((Sl (some ⟨b107,0,none⟩) 1 5 1 byteC ([(s.re.er:Int)]))::(Sl ao99 co100 5 1 byteC (h2S s++wd s.tm++wd s.at_))::(Sl (some ⟨b65,0,none⟩) 4 78 1 ptC ([((b1,7):Nat×Nat),((b1,8):Nat×Nat),((b1,9):Nat×Nat),((b1,10):Nat×Nat)]))::(Sl (some ⟨b50,0,none⟩) 1 5 1 byteC ([(s.op.kd:Int)]))::(Cel b16 #[zP b1 1,zP b1 2,zP b1 3,zP b1 4,zP b1 5] 73)::(Cel b1 (TSt.cells s) 41)::L) w108:=St.slOf (l:=[(s.re.er:Int)]) (f:=byteC) hs109 hz110 (byteF).size (by simp only [lC,lN,maxLen];omega) (by kernel_rfl)
  refine⟨(opl (n:=[.cell ⟨b1,104,none⟩ (.string s.re.vl)]) (by kernel_rfl) (okc (hs111.cell 5 rfl (by kernel_rfl)) ok0)),?_⟩
  have hs114:St w0 ((Sl ao99 co100 5 1 byteC (h2S s++wd s.tm++wd s.at_))::(Sl (some ⟨b107,0,none⟩) 1 5 1 byteC ([(s.re.er:Int)]))::(Sl (some ⟨b65,0,none⟩) 4 78 1 ptC ([((b1,7):Nat×Nat),((b1,8):Nat×Nat),((b1,9):Nat×Nat),((b1,10):Nat×Nat)]))::(Sl (some ⟨b50,0,none⟩) 1 5 1 byteC ([(s.op.kd:Int)]))::(Cel b16 #[zP b1 1,zP b1 2,zP b1 3,zP b1 4,zP b1 5] 73)::(Cel b1 (TSt.cells s) 41)::L) w108:=(hs111.pull 1 rfl)
  refine GoR.append rfl (by kernel_rfl) bytesOK byteF (ad:=ao99) (c:=co100) (xs:=h2S s++wd s.tm++wd s.at_) (ys:=[(s.re.er:Int)]) (adx:=some ⟨b107,0,none⟩) (cx:=1) (0:Int) (by kernel_rfl) hs114 (hs114.rows 1 rfl (byteF).size (0:Int)) (fun h=>nomatch h) (by first|omega|(simp only [lA,lC,lN,wd_length,hf_length,tx_length,strB_length,loS_length] at *;omega)) (by first|omega|(simp only [lA,lC,lN,wd_length,hf_length,tx_length,strB_length,loS_length] at *;omega)) ?_
  intro ad115 c116 w112 hs113
  refine⟨(opl (n:=[.cell ⟨b1,104,none⟩ (.string s.re.vl)]) (by kernel_rfl) (okc (hs113.cell 5 rfl (by kernel_rfl)) ok0)),?_⟩
  refine Zqa (f:=20) (args:=#[.slice ad115 (((h2S s++wd s.tm++wd s.at_)++([(s.re.er:Int)])).length) c116,.string s.re.vl]) Tryz.call20 (text_spec ((h2S s++wd s.tm++wd s.at_)++([(s.re.er:Int)])) s.re.vl (by first|omega|(simp only [lA,lC,lN,wd_length,hf_length,tx_length,strB_length,loS_length] at *;omega)) (by omega) hs113) ?_
  rintro v120 w121 ⟨ao117,co118,rfl,hs119⟩
  refine⟨Zqo,?_⟩
  refine Zr 11 4 [] ?_
  refine Zd (Zt (Zs ?_))
  refine GoC.regD [0,0,2,6,14,30,63,0,128,511,1023] (.rd 0 (.rd 1 (.rd 2 (.rd 3 (.rd 4 (.rd 7 (.rd 8 (.ef 5 (.ef 6 (.ef 9 (.rd 10 .done))))))))))) (by kernel_rfl) (by kernel_rfl) noPan_body (by kernel_rfl) hs119 ?_
  intro w122 hs123 hw124
  refine Zh [(0,.gen []),(1,.gen []),(2,.gen [.slice s.pa s.pl.length s.pc]),(3,.gen []),(4,.as_ (.int .u8 (s.pl.length:Nat)) (.gen [])),(7,.gen []),(8,.gen [.slice s.pa s.pl.length s.pc])] [(2,[.cell ⟨b1,106,none⟩ (.slice s.pa s.pl.length s.pc)]),(4,[.prop (Value.int .u8 (IntKind.u8.wrap (s.pl.length:Nat))=Value.int .u8 (s.pl.length:Nat))]),(8,[.cell ⟨b1,106,none⟩ (.slice s.pa s.pl.length s.pc)])] (ak (okc (hs123.cell 5 rfl (by kernel_rfl)) ok0) (ak (okp (u8ok (by omega) (by omega)) ok0) (ak (okc (hs123.cell 5 rfl (by kernel_rfl)) ok0) ak0))) ?_
  refine GoR.sliceLit rfl (by kernel_rfl) (t:=39) (e:=5) (n:=1) (ps:=[(0,.int .u8 (s.pl.length:Nat))]) (by kernel_rfl) (by kernel_rfl) (ti:=Tryz.t5) (z:=.int .u8 0) (by kernel_rfl) (by kernel_rfl) (by decide) (by decide) (cs:=#[.int .u8 (s.pl.length:Nat)]) (by kernel_rfl) hs123 ?_
  intro b125 w126 hs127 hz128
  have hs129:St w0 ((Sl (some ⟨b125,0,none⟩) 1 5 1 byteC ([((s.pl.length:Nat):Int)]))::(Sl ao117 co118 5 1 byteC (((h2S s++wd s.tm++wd s.at_)++([(s.re.er:Int)]))++tx s.re.vl))::(Sl (some ⟨b107,0,none⟩) 1 5 1 byteC ([(s.re.er:Int)]))::(Sl (some ⟨b65,0,none⟩) 4 78 1 ptC ([((b1,7):Nat×Nat),((b1,8):Nat×Nat),((b1,9):Nat×Nat),((b1,10):Nat×Nat)]))::(Sl (some ⟨b50,0,none⟩) 1 5 1 byteC ([(s.op.kd:Int)]))::(Cel b16 #[zP b1 1,zP b1 2,zP b1 3,zP b1 4,zP b1 5] 73)::(Cel b1 (TSt.cells s) 41)::L) w126:=St.slOf (l:=[((s.pl.length:Nat):Int)]) (f:=byteC) hs127 hz128 (byteF).size (by simp only [lC,lN,maxLen];omega) (by kernel_rfl)
  refine⟨(opl (n:=[.cell ⟨b1,106,none⟩ (.slice s.pa s.pl.length s.pc)]) (by kernel_rfl) (okc (hs129.cell 6 rfl (by kernel_rfl)) ok0)),?_⟩
  have hs132:St w0 ((Sl ao117 co118 5 1 byteC (((h2S s++wd s.tm++wd s.at_)++([(s.re.er:Int)]))++tx s.re.vl))::(Sl (some ⟨b125,0,none⟩) 1 5 1 byteC ([((s.pl.length:Nat):Int)]))::(Sl (some ⟨b107,0,none⟩) 1 5 1 byteC ([(s.re.er:Int)]))::(Sl (some ⟨b65,0,none⟩) 4 78 1 ptC ([((b1,7):Nat×Nat),((b1,8):Nat×Nat),((b1,9):Nat×Nat),((b1,10):Nat×Nat)]))::(Sl (some ⟨b50,0,none⟩) 1 5 1 byteC ([(s.op.kd:Int)]))::(Cel b16 #[zP b1 1,zP b1 2,zP b1 3,zP b1 4,zP b1 5] 73)::(Cel b1 (TSt.cells s) 41)::L) w126:=(hs129.pull 1 rfl)
  refine GoR.append rfl (by kernel_rfl) bytesOK byteF (ad:=ao117) (c:=co118) (xs:=((h2S s++wd s.tm++wd s.at_)++([(s.re.er:Int)]))++tx s.re.vl) (ys:=[((s.pl.length:Nat):Int)]) (adx:=some ⟨b125,0,none⟩) (cx:=1) (0:Int) (by kernel_rfl) hs132 (hs132.rows 1 rfl (byteF).size (0:Int)) (fun h=>nomatch h) (by first|omega|(simp only [lA,lC,lN,wd_length,hf_length,tx_length,strB_length,loS_length] at *;omega)) (by first|omega|(simp only [lA,lC,lN,wd_length,hf_length,tx_length,strB_length,loS_length] at *;omega)) ?_
  intro ad133 c134 w130 hs131
  refine⟨(opl (n:=[.cell ⟨b1,106,none⟩ (.slice s.pa s.pl.length s.pc)]) (by kernel_rfl) (okc (hs131.cell 6 rfl (by kernel_rfl)) ok0)),?_⟩
  refine GoR.append rfl (by kernel_rfl) bytesOK byteF (ad:=ad133) (c:=c134) (xs:=(((h2S s++wd s.tm++wd s.at_)++([(s.re.er:Int)]))++tx s.re.vl)++([((s.pl.length:Nat):Int)])) (ys:=s.pl) (adx:=s.pa) (cx:=s.pc) (0:Int) (by kernel_rfl) hs131 (hr3 _ (hs131.drop 7)) hs_.pn (by first|omega|(simp only [lA,lC,lN,wd_length,hf_length,tx_length,strB_length,loS_length] at *;omega)) (by first|omega|(simp only [lA,lC,lN,wd_length,hf_length,tx_length,strB_length,loS_length] at *;omega)) ?_
  intro ad137 c138 w135 hs136
  refine⟨Zqo,?_⟩
  refine Zr 10 1 [] ?_
  refine Zd (Zt (Zs (Zs ?_)))
  refine Zn [(3,.slice ad137 ((((((h2S s++wd s.tm++wd s.at_)++([(s.re.er:Int)]))++tx s.re.vl)++([((s.pl.length:Nat):Int)]))++s.pl).length) c138),(2,.slice none 0 0),(1,zP b1 0)] ?_
  have hs139:St w0 ((Sl ad137 c138 5 1 byteC (hdS s))::(Sl (some ⟨b125,0,none⟩) 1 5 1 byteC ([((s.pl.length:Nat):Int)]))::(Sl (some ⟨b107,0,none⟩) 1 5 1 byteC ([(s.re.er:Int)]))::(Sl (some ⟨b65,0,none⟩) 4 78 1 ptC ([((b1,7):Nat×Nat),((b1,8):Nat×Nat),((b1,9):Nat×Nat),((b1,10):Nat×Nat)]))::(Sl (some ⟨b50,0,none⟩) 1 5 1 byteC ([(s.op.kd:Int)]))::(Cel b16 #[zP b1 1,zP b1 2,zP b1 3,zP b1 4,zP b1 5] 73)::(Cel b1 (TSt.cells s) 41)::L) w135:=hs136
  refine Zn [(3,.slice ad137 ((hdS s).length) c138),(2,.slice none 0 0),(1,zP b1 0)] ?_
  have hl_hdS:=hdS_len hb
  refine Zqt (.rd 0 (.rd 1 .done)) ?_
  refine Zp 0 2 [(1,.gen [.int .u8 s.dw])] [(1,[.cell ⟨b1,0,none⟩ (.int .u8 s.dw)])] (ak (okc (hs139.cell 6 rfl (by kernel_rfl)) ok0) ak0) ?_
  refine Zd (Zt (Zb (Zs ?_)))
  refine Zqt (.rd 0 (.rd 1 .done)) ?_
  refine Zr 0 2 [] ?_
  refine Zd (Zt ?_)
  refine Zqc (t:=(s.dw:Int) == 14) (fun h140=>?_) (fun h140=>?_)
  ·have h140':(s.dw:Int)=14:=ieqT h140
   have hlie:=q14 h140'
   refine Zqt (.rd 0 (.rd 1 (.rd 2 (.ef 3 (.ef 4 (.ef 5 (.rd 6 .done))))))) ?_
   refine Zp 0 3 [(2,.agg (TBd.cells s.bd))] [(2,[.prop (Array.size (TBd.cells s.bd)=76),.cells ⟨b1,12,none⟩ (TBd.cells s.bd)])] (ak (okp (by kernel_rfl) (oka (hs139.cells 6 12 rfl (by kernel_rfl)) ok0)) ak0) ?_
   refine Zqa (f:=23) (args:=#[.agg (TBd.cells s.bd)]) Tryz.call23 (carrier_spec s.bd hs139) ?_
   rintro v142 w143 ⟨rfl,hs141⟩
   refine⟨Zqo,?_⟩
   refine Zqa (f:=22) (args:=#[.agg (TMs.cells (⟨1,1,dVc,s.bd,dD32⟩:TMs))]) Tryz.call22 (mput_spec (⟨1,1,dVc,s.bd,dD32⟩:TMs) (car_ok hs_.bd) (fun w h=>hr1 _ (h.drop 7)) hs141) ?_
   rintro v147 w148 ⟨ao144,co145,rfl,hs146⟩
   refine⟨Zqo,?_⟩
   have hs149:St w0 ((Sl ad137 c138 5 1 byteC (hdS s))::(Sl ao144 co145 5 1 byteC (putM (⟨1,1,dVc,s.bd,dD32⟩:TMs)))::(Sl (some ⟨b125,0,none⟩) 1 5 1 byteC ([((s.pl.length:Nat):Int)]))::(Sl (some ⟨b107,0,none⟩) 1 5 1 byteC ([(s.re.er:Int)]))::(Sl (some ⟨b65,0,none⟩) 4 78 1 ptC ([((b1,7):Nat×Nat),((b1,8):Nat×Nat),((b1,9):Nat×Nat),((b1,10):Nat×Nat)]))::(Sl (some ⟨b50,0,none⟩) 1 5 1 byteC ([(s.op.kd:Int)]))::(Cel b16 #[zP b1 1,zP b1 2,zP b1 3,zP b1 4,zP b1 5] 73)::(Cel b1 (TSt.cells s) 41)::L) w148:=(hs146.pull 1 rfl)
   refine Zqa (f:=21) (args:=#[.slice ad137 ((hdS s).length) c138,.slice ao144 ((putM (⟨1,1,dVc,s.bd,dD32⟩:TMs)).length) co145]) Tryz.call21 (long_spec (hdS s) (putM (⟨1,1,dVc,s.bd,dD32⟩:TMs)) (by first|omega|(simp only [lA,lC,lN,wd_length,hf_length,tx_length,strB_length,loS_length] at *;omega)) (by have:=putM_len hlie.1;omega) (hs149.slNone 1 rfl) (fun w h=>h.rows 0 rfl (byteF).size _) hs149) ?_
   rintro v153 w154 ⟨ao150,co151,rfl,hs152⟩
   refine⟨Zqo,?_⟩
   refine Zr 6 1 [] ?_
   refine Zd (Zm (Zt (Zs ?_)))
   refine Zqt (.rd 0 (.rd 1 .done)) ?_
   refine Zr 0 2 [] ?_
   refine Zd (Zt (Ze ?_))
   refine Zq1 (v:=.slice ao150 (((hdS s)++loS (putM (⟨1,1,dVc,s.bd,dD32⟩:TMs))).length) co151) ?_
   have hs155:St w0 ((Sl ao144 co145 5 1 byteC (putM (⟨1,1,dVc,s.bd,dD32⟩:TMs)))::(Sl (some ⟨b125,0,none⟩) 1 5 1 byteC ([((s.pl.length:Nat):Int)]))::(Sl (some ⟨b107,0,none⟩) 1 5 1 byteC ([(s.re.er:Int)]))::(Sl (some ⟨b65,0,none⟩) 4 78 1 ptC ([((b1,7):Nat×Nat),((b1,8):Nat×Nat),((b1,9):Nat×Nat),((b1,10):Nat×Nat)]))::(Sl (some ⟨b50,0,none⟩) 1 5 1 byteC ([(s.op.kd:Int)]))::(Cel b16 #[zP b1 1,zP b1 2,zP b1 3,zP b1 4,zP b1 5] 73)::(Cel b1 (TSt.cells s) 41)::(Sl ao150 co151 5 1 byteC ((hdS s)++loS (putM (⟨1,1,dVc,s.bd,dD32⟩:TMs))))::L) w154:=((((((((hs152.pull 0 rfl).pull 7 rfl).pull 7 rfl).pull 7 rfl).pull 7 rfl).pull 7 rfl).pull 7 rfl).pull 7 rfl)
   have hs156:St w0 ((Sl ao150 co151 5 1 byteC ((hdS s)++loS (putM (⟨1,1,dVc,s.bd,dD32⟩:TMs))))::L) w154:=hs155.drop 7
   have h9:(hdS s)++loS (putM (⟨1,1,dVc,s.bd,dD32⟩:TMs))=putS s:=by
    rw [show putS s=hdS s++tlS s from if_pos hb,show tlS s=loS (putM ⟨1,1,dVc,s.bd,dD32⟩) from if_pos h140']
   exact⟨ao150,co151,by rw [← h9],by rw [← h9];exact hs156⟩
  ·have h140':¬ ((s.dw:Int)=14):=ieqF h140
   refine Zs ?_
   refine Zqt (.rd 0 (.rd 1 .done)) ?_
   refine Zr 0 2 [] ?_
   refine Zd (Zt ?_)
   refine Zqc (t:=(s.dw:Int) == 16) (fun h157=>?_) (fun h157=>?_)
   ·have h157':(s.dw:Int)=16:=ieqT h157
    obtain⟨p1,p2,p3,p4⟩:=packedB_in (q15 h157').2
    refine Zs ?_
    refine Zqt (.rd 0 (.rd 1 (.ef 2 (.ef 3 .done)))) ?_
    refine Zp 0 2 [(1,.agg (TPk.cells s.pk))] [(1,[.prop (Array.size (TPk.cells s.pk)=14),.cells ⟨b1,88,none⟩ (TPk.cells s.pk)])] (ak (okp (by kernel_rfl) (oka (hs139.cells 6 88 rfl (by kernel_rfl)) ok0)) ak0) ?_
    refine GoR.alloc rfl rfl (by kernel_rfl) (z:=.agg (TPk.cells dPk)) (by kernel_rfl) hs139 (cs:=TPk.cells dPk) (by kernel_rfl) ?_
    intro b158 w159 hs160
    refine⟨Zqo,?_⟩
    refine Zw (b:=b158) (off:=0) (v:=.agg (TPk.cells s.pk)) (ti:=Tryz.t35) (by kernel_rfl) hs160 0 (L':=(Cel b158 (TPk.cells s.pk) 35)::(Sl ad137 c138 5 1 byteC (hdS s))::(Sl (some ⟨b125,0,none⟩) 1 5 1 byteC ([((s.pl.length:Nat):Int)]))::(Sl (some ⟨b107,0,none⟩) 1 5 1 byteC ([(s.re.er:Int)]))::(Sl (some ⟨b65,0,none⟩) 4 78 1 ptC ([((b1,7):Nat×Nat),((b1,8):Nat×Nat),((b1,9):Nat×Nat),((b1,10):Nat×Nat)]))::(Sl (some ⟨b50,0,none⟩) 1 5 1 byteC ([(s.op.kd:Int)]))::(Cel b16 #[zP b1 1,zP b1 2,zP b1 3,zP b1 4,zP b1 5] 73)::(Cel b1 (TSt.cells s) 41)::L) ?_
    intro w161 hs162
    refine⟨Zqo,?_⟩
    refine Zd (Zt (Zs ?_))
    refine Zqt (.rd 0 (.rd 1 (.rd 2 (.rd 3 (.rd 4 (.rd 5 (.rd 6 (.ef 7 (.ef 8 (.rd 9 .done)))))))))) ?_
    refine Zp 0 7 [(2,.gen [.int .i64 s.pk.fr]),(3,.as_ (.int .u8 s.pk.fr) (.gen [])),(5,.gen [.int .i64 s.pk.tw]),(6,.as_ (.int .u8 s.pk.tw) (.gen []))] [(2,[.cell ⟨b158,0,none⟩ (.int .i64 s.pk.fr)]),(3,[.prop (Value.int .u8 (IntKind.u8.wrap s.pk.fr)=Value.int .u8 s.pk.fr)]),(5,[.cell ⟨b158,1,none⟩ (.int .i64 s.pk.tw)]),(6,[.prop (Value.int .u8 (IntKind.u8.wrap s.pk.tw)=Value.int .u8 s.pk.tw)])] (ak (okc (hs162.cell 0 rfl (by kernel_rfl)) ok0) (ak (okp (u8ok (by omega) (by omega)) ok0) (ak (okc (hs162.cell 0 rfl (by kernel_rfl)) ok0) (ak (okp (u8ok (by omega) (by omega)) ok0) ak0)))) ?_
    refine GoR.sliceLit rfl (by kernel_rfl) (t:=39) (e:=5) (n:=2) (ps:=[(0,.int .u8 s.pk.fr),(1,.int .u8 s.pk.tw)]) (by kernel_rfl) (by kernel_rfl) (ti:=Tryz.t5) (z:=.int .u8 0) (by kernel_rfl) (by kernel_rfl) (by decide) (by decide) (cs:=#[.int .u8 s.pk.fr,.int .u8 s.pk.tw]) (by kernel_rfl) hs162 ?_
    intro b163 w164 hs165 hz166
    have hs167:St w0 ((Sl (some ⟨b163,0,none⟩) 2 5 1 byteC ([(s.pk.fr:Int),(s.pk.tw:Int)]))::(Cel b158 (TPk.cells s.pk) 35)::(Sl ad137 c138 5 1 byteC (hdS s))::(Sl (some ⟨b125,0,none⟩) 1 5 1 byteC ([((s.pl.length:Nat):Int)]))::(Sl (some ⟨b107,0,none⟩) 1 5 1 byteC ([(s.re.er:Int)]))::(Sl (some ⟨b65,0,none⟩) 4 78 1 ptC ([((b1,7):Nat×Nat),((b1,8):Nat×Nat),((b1,9):Nat×Nat),((b1,10):Nat×Nat)]))::(Sl (some ⟨b50,0,none⟩) 1 5 1 byteC ([(s.op.kd:Int)]))::(Cel b16 #[zP b1 1,zP b1 2,zP b1 3,zP b1 4,zP b1 5] 73)::(Cel b1 (TSt.cells s) 41)::L) w164:=St.slOf (l:=[(s.pk.fr:Int),(s.pk.tw:Int)]) (f:=byteC) hs165 hz166 (byteF).size (by simp only [lC,lN,maxLen];omega) (by kernel_rfl)
    refine⟨Zqo,?_⟩
    have hs170:St w0 ((Sl ad137 c138 5 1 byteC (hdS s))::(Sl (some ⟨b163,0,none⟩) 2 5 1 byteC ([(s.pk.fr:Int),(s.pk.tw:Int)]))::(Cel b158 (TPk.cells s.pk) 35)::(Sl (some ⟨b125,0,none⟩) 1 5 1 byteC ([((s.pl.length:Nat):Int)]))::(Sl (some ⟨b107,0,none⟩) 1 5 1 byteC ([(s.re.er:Int)]))::(Sl (some ⟨b65,0,none⟩) 4 78 1 ptC ([((b1,7):Nat×Nat),((b1,8):Nat×Nat),((b1,9):Nat×Nat),((b1,10):Nat×Nat)]))::(Sl (some ⟨b50,0,none⟩) 1 5 1 byteC ([(s.op.kd:Int)]))::(Cel b16 #[zP b1 1,zP b1 2,zP b1 3,zP b1 4,zP b1 5] 73)::(Cel b1 (TSt.cells s) 41)::L) w164:=(hs167.pull 2 rfl)
    refine GoR.append rfl (by kernel_rfl) bytesOK byteF (ad:=ad137) (c:=c138) (xs:=hdS s) (ys:=[(s.pk.fr:Int),(s.pk.tw:Int)]) (adx:=some ⟨b163,0,none⟩) (cx:=2) (0:Int) (by kernel_rfl) hs170 (hs170.rows 1 rfl (byteF).size (0:Int)) (fun h=>nomatch h) (by first|omega|(simp only [lA,lC,lN,wd_length,hf_length,tx_length,strB_length,loS_length] at *;omega)) (by first|omega|(simp only [lA,lC,lN,wd_length,hf_length,tx_length,strB_length,loS_length] at *;omega)) ?_
    intro ad171 c172 w168 hs169
    refine⟨Zqo,?_⟩
    refine Zr 9 1 [] ?_
    refine Zd (Zt (Zs (Zs ?_)))
    refine Zqt (.rd 0 (.rd 1 (.rd 2 .done))) ?_
    refine Zp 0 3 [(1,.agg (VecD.cells s.pk.kn))] [(1,[.prop (Array.size (VecD.cells s.pk.kn)=11),.cells ⟨b158,2,none⟩ (VecD.cells s.pk.kn)])] (ak (okp (by kernel_rfl) (oka (hs169.cells 2 2 rfl (by kernel_rfl)) ok0)) ak0) ?_
    refine Zd (Zt (Zb ?_))
    have hs173:St w0 ((Sl (some ⟨b163,0,none⟩) 2 5 1 byteC ([(s.pk.fr:Int),(s.pk.tw:Int)]))::(Sl (some ⟨b125,0,none⟩) 1 5 1 byteC ([((s.pl.length:Nat):Int)]))::(Sl (some ⟨b107,0,none⟩) 1 5 1 byteC ([(s.re.er:Int)]))::(Sl (some ⟨b65,0,none⟩) 4 78 1 ptC ([((b1,7):Nat×Nat),((b1,8):Nat×Nat),((b1,9):Nat×Nat),((b1,10):Nat×Nat)]))::(Sl (some ⟨b50,0,none⟩) 1 5 1 byteC ([(s.op.kd:Int)]))::(Cel b16 #[zP b1 1,zP b1 2,zP b1 3,zP b1 4,zP b1 5] 73)::(Cel b1 (TSt.cells s) 41)::(Sl ad171 c172 5 1 byteC ((hdS s)++([(s.pk.fr:Int),(s.pk.tw:Int)])))::(Cel b158 (TPk.cells s.pk) 35)::L) w168:=(((((((((hs169.pull 2 rfl).pull 1 rfl).pull 8 rfl).pull 8 rfl).pull 8 rfl).pull 8 rfl).pull 8 rfl).pull 8 rfl).pull 8 rfl)
    have hs174:St w0 ((Sl ad171 c172 5 1 byteC ((hdS s)++([(s.pk.fr:Int),(s.pk.tw:Int)])))::(Cel b158 (TPk.cells s.pk) 35)::L) w168:=hs173.drop 7
    have hs175:St w0 ((Sl ad171 c172 5 1 byteC ((hdS s++[s.pk.fr,s.pk.tw])++(s.pk.kn.toList.take 0).flatMap wd))::(Cel b158 (TPk.cells s.pk) 35)::L) w168:=(show(hdS s)++([(s.pk.fr:Int),(s.pk.tw:Int)])=(hdS s++[s.pk.fr,s.pk.tw])++(s.pk.kn.toList.take 0).flatMap wd by simp only [List.take_zero,List.flatMap_nil,List.append_nil])▸hs174
    refine Zn [(115,.int .i64 0),(114,.agg (VecD.cells s.pk.kn)),(3,.slice ad171 (((hdS s)++([(s.pk.fr:Int),(s.pk.tw:Int)])).length) c172),(8,zP b158 0),(2,.slice none 0 0)] ?_
    refine GoC.slots (S':=[(115,.int .i64 0),(114,.agg (VecD.cells s.pk.kn)),(3,.slice ad171 (((hdS s++[s.pk.fr,s.pk.tw])++(s.pk.kn.toList.take 0).flatMap wd).length) c172),(8,zP b158 0),(2,.slice none 0 0)]) (by simp only [List.take_zero,List.flatMap_nil,List.append_nil]) ?_
    refine GoC.loop (T:=Nat×(Option Addr)×Nat) (fun gg=>[(2,.slice none 0 0),(3,.slice gg.2.1 (((hdS s++[s.pk.fr,s.pk.tw])++(s.pk.kn.toList.take gg.1).flatMap wd).length) gg.2.2),(8,zP b158 0),(114,.agg (VecD.cells s.pk.kn)),(115,.int .i64 (gg.1:Nat))]) (fun gg w=>(gg.1≤11)∧St w0 ((Sl gg.2.1 gg.2.2 5 1 byteC ((hdS s++[s.pk.fr,s.pk.tw])++(s.pk.kn.toList.take gg.1).flatMap wd))::(Cel b158 (TPk.cells s.pk) 35)::L) w) (fun gg=>11-gg.1) (0,ad171,c172) [2,3,8,114,115] (by kernel_rfl) ⟨Nat.zero_le _,hs175⟩ ?_
    rintro⟨k,ad,c⟩ w176 ⟨hp0,hs177⟩
    have hp:k≤11:=hp0
    have hs178:St w0 ((Sl ad c 5 1 byteC ((hdS s++[s.pk.fr,s.pk.tw])++(s.pk.kn.toList.take k).flatMap wd))::(Cel b158 (TPk.cells s.pk) 35)::L) w176:=hs177
    refine Zn [(2,.slice none 0 0),(3,.slice ad (((hdS s++[s.pk.fr,s.pk.tw])++(s.pk.kn.toList.take k).flatMap wd).length) c),(8,zP b158 0),(114,.agg (VecD.cells s.pk.kn)),(115,.int .i64 (k:Nat))] ?_
    refine Zs ?_
    refine Zqt (.rd 0 .done) ?_
    refine Zr 0 1 [] ?_
    refine Zd (Zt (Zs ?_))
    refine Zqc (t:=decide (((k:Nat):Int)<11)) (fun h179=>?_) (fun h179=>?_)
    ·have h179':((k:Nat):Int)<11:=of_decide_eq_true h179
     have hk:k<11:=by omega
     have hkd:=hs_.kn (s.pk.kn.toList.getD k 0) (getD_mem (d:=(0:Int)) (by rw [VecD.len];exact hk))
     have htk:=kn_len (s:=s) (k:=k) (by omega)
     refine Zk (Zt (Zs (Zb (Zs ?_))))
     refine Zqt (.rd 0 (.rd 1 .done)) ?_
     refine Zp 0 2 [(0,.elem (.int .u64 (s.pk.kn.toList.getD k 0)))] [(0,[.prop (0≤((k:Nat):Int)∧((k:Nat):Int)<(11:Int)),.prop ((VecD.cells s.pk.kn)[Int.toNat ((k:Nat))*1]?=some (.int .u64 (s.pk.kn.toList.getD k 0)))])] (ak (okp (by omega) (okp (by rw [Nat.mul_one];exact VecD.at_ _ k (by omega)) ok0)) ak0) ?_
     refine Zd (Zt ?_)
     refine Zqt (.rd 0 (.rd 1 (.ef 2 (.rd 3 .done)))) ?_
     refine Zr 0 2 [] ?_
     refine Zqa (f:=18) (args:=#[.slice ad (((hdS s++[s.pk.fr,s.pk.tw])++(s.pk.kn.toList.take k).flatMap wd).length) c,.int .u64 (s.pk.kn.toList.getD k 0)]) Tryz.call18 (word_spec ((hdS s++[s.pk.fr,s.pk.tw])++(s.pk.kn.toList.take k).flatMap wd) (s.pk.kn.toList.getD k 0) (by first|omega|(simp only [lA,lC,lN,wd_length] at *;omega)) (by omega) hs178) ?_
     rintro v183 w184 ⟨ao180,co181,rfl,hs182⟩
     refine⟨Zqo,?_⟩
     refine Zr 3 1 [] ?_
     refine Zd (Zm (Zt ?_))
     refine Zqt (.rd 0 (.rd 1 .done)) ?_
     refine Zp 0 2 [(0,.as_ (.int .i64 ((k:Nat)+1)) (.gen []))] [(0,[.prop (Value.int .i64 (IntKind.i64.wrap ((k:Nat)+1))=Value.int .i64 ((k:Nat)+1))])] (ak (okp (i64ok (by omega) (by omega)) ok0) ak0) ?_
     refine Zd ?_
     have hs185:St w0 ((Sl ao180 co181 5 1 byteC ((hdS s++[s.pk.fr,s.pk.tw])++(s.pk.kn.toList.take (k+1)).flatMap wd))::(Cel b158 (TPk.cells s.pk) 35)::L) w184:=(show(hdS s++[s.pk.fr,s.pk.tw])++(s.pk.kn.toList.take k).flatMap wd++wd (s.pk.kn.toList.getD k 0)=(hdS s++[s.pk.fr,s.pk.tw])++(s.pk.kn.toList.take (k+1)).flatMap wd by simp only [kn_succ hk,List.append_assoc])▸hs182
     refine GoQ.pick [115,3,2,8,114] (S':=[(115,.int .i64 ((k:Nat)+1)),(3,.slice ao180 (((hdS s++[s.pk.fr,s.pk.tw])++(s.pk.kn.toList.take k).flatMap wd++wd (s.pk.kn.toList.getD k 0)).length) co181),(2,.slice none 0 0),(8,zP b158 0),(114,.agg (VecD.cells s.pk.kn))]) (by kernel_rfl) ?_
     refine GoQ.slots (S':=[(115,.int .i64 ((k:Nat)+1)),(3,.slice ao180 (((hdS s++[s.pk.fr,s.pk.tw])++(s.pk.kn.toList.take (k+1)).flatMap wd).length) co181),(2,.slice none 0 0),(8,zP b158 0),(114,.agg (VecD.cells s.pk.kn))]) (by rw [(show(hdS s++[s.pk.fr,s.pk.tw])++(s.pk.kn.toList.take k).flatMap wd++wd (s.pk.kn.toList.getD k 0)=(hdS s++[s.pk.fr,s.pk.tw])++(s.pk.kn.toList.take (k+1)).flatMap wd by simp only [kn_succ hk,List.append_assoc])]) ?_
     exact GoQ.back (k+1,ao180,co181) [2,3,8,114,115] (by kernel_rfl) (by show 11-(k+1)<11-k;omega) ⟨(by omega),hs185⟩
    ·have h179':¬ (((k:Nat):Int)<11):=of_decide_eq_false h179
     have hke:k=11:=by omega
     subst hke
     have htk:=kn_len (s:=s) (k:=11) (by omega)
     refine Zx (GoQ.skipC (GoQ.skipL (GoQ.hit (Zt (Zs ?_)))))
     refine Zqt (.rd 0 (.rd 1 (.rd 2 (.rd 3 (.rd 4 (.ef 5 (.ef 6 (.rd 7 .done)))))))) ?_
     refine Zp 0 5 [(2,.gen [.slice s.pk.ma s.pk.ml.length s.pk.mc]),(4,.as_ (.int .u8 (s.pk.ml.length:Nat)) (.gen []))] [(2,[.cell ⟨b158,13,none⟩ (.slice s.pk.ma s.pk.ml.length s.pk.mc)]),(4,[.prop (Value.int .u8 (IntKind.u8.wrap (s.pk.ml.length:Nat))=Value.int .u8 (s.pk.ml.length:Nat))])] (ak (okc (hs178.cell 1 rfl (by kernel_rfl)) ok0) (ak (okp (u8ok (by omega) (by omega)) ok0) ak0)) ?_
     refine GoR.sliceLit rfl (by kernel_rfl) (t:=39) (e:=5) (n:=1) (ps:=[(0,.int .u8 (s.pk.ml.length:Nat))]) (by kernel_rfl) (by kernel_rfl) (ti:=Tryz.t5) (z:=.int .u8 0) (by kernel_rfl) (by kernel_rfl) (by decide) (by decide) (cs:=#[.int .u8 (s.pk.ml.length:Nat)]) (by kernel_rfl) hs178 ?_
     intro b186 w187 hs188 hz189
     have hs190:St w0 ((Sl (some ⟨b186,0,none⟩) 1 5 1 byteC ([((s.pk.ml.length:Nat):Int)]))::(Sl ad c 5 1 byteC ((hdS s++[s.pk.fr,s.pk.tw])++(s.pk.kn.toList.take 11).flatMap wd))::(Cel b158 (TPk.cells s.pk) 35)::L) w187:=St.slOf (l:=[((s.pk.ml.length:Nat):Int)]) (f:=byteC) hs188 hz189 (byteF).size (by simp only [lC,lN,maxLen];omega) (by kernel_rfl)
     refine⟨Zqo,?_⟩
     have hs193:St w0 ((Sl ad c 5 1 byteC ((hdS s++[s.pk.fr,s.pk.tw])++(s.pk.kn.toList.take 11).flatMap wd))::(Sl (some ⟨b186,0,none⟩) 1 5 1 byteC ([((s.pk.ml.length:Nat):Int)]))::(Cel b158 (TPk.cells s.pk) 35)::L) w187:=(hs190.pull 1 rfl)
     refine GoR.append rfl (by kernel_rfl) bytesOK byteF (ad:=ad) (c:=c) (xs:=(hdS s++[s.pk.fr,s.pk.tw])++(s.pk.kn.toList.take 11).flatMap wd) (ys:=[((s.pk.ml.length:Nat):Int)]) (adx:=some ⟨b186,0,none⟩) (cx:=1) (0:Int) (by kernel_rfl) hs193 (hs193.rows 1 rfl (byteF).size (0:Int)) (fun h=>nomatch h) (by first|omega|(simp only [lA,lC,lN,wd_length,hf_length,tx_length,strB_length,loS_length] at *;omega)) (by first|omega|(simp only [lA,lC,lN,wd_length,hf_length,tx_length,strB_length,loS_length] at *;omega)) ?_
     intro ad194 c195 w191 hs192
     refine⟨Zqo,?_⟩
     refine Zr 7 1 [] ?_
     refine Zd (Zt (Zs ?_))
     refine Zqt (.rd 0 (.rd 1 (.rd 2 (.rd 3 .done)))) ?_
     refine Zp 0 4 [(1,.gen [.slice s.pk.ma s.pk.ml.length s.pk.mc])] [(1,[.cell ⟨b158,13,none⟩ (.slice s.pk.ma s.pk.ml.length s.pk.mc)])] (ak (okc (hs192.cell 2 rfl (by kernel_rfl)) ok0) ak0) ?_
     refine Zd (Zt (Zb ?_))
     have hs196:St w0 ((Sl (some ⟨b186,0,none⟩) 1 5 1 byteC ([((s.pk.ml.length:Nat):Int)]))::(Cel b158 (TPk.cells s.pk) 35)::(Sl ad194 c195 5 1 byteC (((hdS s++[s.pk.fr,s.pk.tw])++(s.pk.kn.toList.take 11).flatMap wd)++([((s.pk.ml.length:Nat):Int)])))::L) w191:=(((hs192.pull 0 rfl).pull 2 rfl).pull 2 rfl)
     have hs197:St w0 ((Sl ad194 c195 5 1 byteC (((hdS s++[s.pk.fr,s.pk.tw])++(s.pk.kn.toList.take 11).flatMap wd)++([((s.pk.ml.length:Nat):Int)])))::L) w191:=hs196.drop 2
     have hs198:St w0 ((Sl ad194 c195 5 1 byteC (((hdS s++[s.pk.fr,s.pk.tw])++(s.pk.kn.toList.take 11).flatMap wd++[((s.pk.ml.length:Nat):Int)])++(s.pk.ml.take 0).flatMap (fun m=>loS (putM m))))::L) w191:=(show((hdS s++[s.pk.fr,s.pk.tw])++(s.pk.kn.toList.take 11).flatMap wd)++([((s.pk.ml.length:Nat):Int)])=((hdS s++[s.pk.fr,s.pk.tw])++(s.pk.kn.toList.take 11).flatMap wd++[((s.pk.ml.length:Nat):Int)])++(s.pk.ml.take 0).flatMap (fun m=>loS (putM m)) by simp only [List.take_zero,List.flatMap_nil,List.append_nil])▸hs197
     refine Zn [(132,.int .i64 0),(131,.int .i64 (s.pk.ml.length:Nat)),(130,.slice s.pk.ma s.pk.ml.length s.pk.mc),(3,.slice ad194 ((((hdS s++[s.pk.fr,s.pk.tw])++(s.pk.kn.toList.take 11).flatMap wd)++([((s.pk.ml.length:Nat):Int)])).length) c195),(2,.slice none 0 0)] ?_
     refine GoC.slots (S':=[(132,.int .i64 0),(131,.int .i64 (s.pk.ml.length:Nat)),(130,.slice s.pk.ma s.pk.ml.length s.pk.mc),(3,.slice ad194 ((((hdS s++[s.pk.fr,s.pk.tw])++(s.pk.kn.toList.take 11).flatMap wd++[((s.pk.ml.length:Nat):Int)])++(s.pk.ml.take 0).flatMap (fun m=>loS (putM m))).length) c195),(2,.slice none 0 0)]) (by simp only [List.take_zero,List.flatMap_nil,List.append_nil]) ?_
     refine GoC.loop (T:=Nat×(Option Addr)×(Option Addr)×Nat) (fun gg=>[(2,.slice none 0 0),(3,.slice gg.2.2.1 ((((hdS s++[s.pk.fr,s.pk.tw])++(s.pk.kn.toList.take 11).flatMap wd++[((s.pk.ml.length:Nat):Int)])++(s.pk.ml.take gg.1).flatMap (fun m=>loS (putM m))).length) gg.2.2.2),(130,.slice gg.2.1 s.pk.ml.length s.pk.mc),(131,.int .i64 (s.pk.ml.length:Nat)),(132,.int .i64 (gg.1:Nat))]) (fun gg w=>(gg.1≤s.pk.ml.length∧∀ w,St w0 L w→RowsAt w gg.2.1 s.pk.ml.length 121 (fun q=>TMs.cells (s.pk.ml.getD q dMs)))∧St w0 ((Sl gg.2.2.1 gg.2.2.2 5 1 byteC (((hdS s++[s.pk.fr,s.pk.tw])++(s.pk.kn.toList.take 11).flatMap wd++[((s.pk.ml.length:Nat):Int)])++(s.pk.ml.take gg.1).flatMap (fun m=>loS (putM m))))::L) w) (fun gg=>s.pk.ml.length-gg.1) (0,s.pk.ma,ad194,c195) [2,3,130,131,132] (by kernel_rfl) ⟨⟨Nat.zero_le _,hr2⟩,hs198⟩ ?_
     rintro⟨k,aq,ad1,c1⟩ w199 ⟨hp0,hs200⟩
     have hp:k≤s.pk.ml.length∧∀ w,St w0 L w→RowsAt w aq s.pk.ml.length 121 (fun q=>TMs.cells (s.pk.ml.getD q dMs)):=hp0
     have hs201:St w0 ((Sl ad1 c1 5 1 byteC (((hdS s++[s.pk.fr,s.pk.tw])++(s.pk.kn.toList.take 11).flatMap wd++[((s.pk.ml.length:Nat):Int)])++(s.pk.ml.take k).flatMap (fun m=>loS (putM m))))::L) w199:=hs200
     refine Zn [(2,.slice none 0 0),(3,.slice ad1 ((((hdS s++[s.pk.fr,s.pk.tw])++(s.pk.kn.toList.take 11).flatMap wd++[((s.pk.ml.length:Nat):Int)])++(s.pk.ml.take k).flatMap (fun m=>loS (putM m))).length) c1),(130,.slice aq s.pk.ml.length s.pk.mc),(131,.int .i64 (s.pk.ml.length:Nat)),(132,.int .i64 (k:Nat))] ?_
     have hw:=hp.2
     refine Zs ?_
     refine Zqt (.rd 0 .done) ?_
     refine Zr 0 1 [] ?_
     refine Zd (Zt (Zs ?_))
     refine Zqc (t:=decide (((k:Nat):Int)<(s.pk.ml.length:Nat))) (fun h202=>?_) (fun h202=>?_)
     ·have h202':((k:Nat):Int)<(s.pk.ml.length:Nat):=of_decide_eq_true h202
      have hk:k<s.pk.ml.length:=by omega
      have hmk:=p4 _ (getD_mem (d:=dMs) hk)
      have hml:=putM_len hmk
      have hmt:=ml_len p4 p3 k
      obtain⟨ab203,ao204,rfl⟩:=RowsAt.isSome (hw _ (hs201.drop 1)) (by omega)
      refine Zk (Zt (Zs (Zb (Zs ?_))))
      refine Zqt (.rd 0 (.rd 1 (.ef 2 (.ef 3 .done)))) ?_
      refine Zp 0 2 [(0,.as_ (zP ab203 (ao204+(k*121))) .at_),(1,.agg (TMs.cells (s.pk.ml.getD k dMs)))] [(0,[.prop (0≤((k:Nat):Int)∧((k:Nat):Int)<((s.pk.ml.length:Nat):Int)),.prop (Value.pointer (some (Addr.add ⟨ab203,ao204,none⟩ (Int.toNat (k:Nat)*121)))=Value.pointer (some ⟨ab203,ao204+(k*121),none⟩))]),(1,[.prop (Array.size (TMs.cells (s.pk.ml.getD k dMs))=121),.cells ⟨ab203,ao204+(k*121),none⟩ (TMs.cells (s.pk.ml.getD k dMs))])] (ak (okp (by omega) (okp (ptrAdd _ _ _) ok0)) (ak (okp (by kernel_rfl) (oka (RowsAt.all0 (hw _ (hs201.drop 1)) (by first|omega|(simp only [List.length_set];omega)|(simp only [List.length_set,lA,lC,lN];omega)) (Nat.le_of_ble_eq_true (by kernel_rfl)) (by kernel_rfl)) ok0)) ak0)) ?_
      refine GoR.alloc rfl rfl (by kernel_rfl) (z:=.agg (TMs.cells dMs)) (by kernel_rfl) hs201 (cs:=TMs.cells dMs) (by kernel_rfl) ?_
      intro b205 w206 hs207
      refine⟨Zqo,?_⟩
      refine Zw (b:=b205) (off:=0) (v:=.agg (TMs.cells (s.pk.ml.getD k dMs))) (ti:=Tryz.t58) (by kernel_rfl) hs207 0 (L':=(Cel b205 (TMs.cells (s.pk.ml.getD k dMs)) 58)::(Sl ad1 c1 5 1 byteC (((hdS s++[s.pk.fr,s.pk.tw])++(s.pk.kn.toList.take 11).flatMap wd++[((s.pk.ml.length:Nat):Int)])++(s.pk.ml.take k).flatMap (fun m=>loS (putM m))))::L) ?_
      intro w208 hs209
      refine⟨Zqo,?_⟩
      refine Zd (Zt ?_)
      refine Zqt (.rd 0 (.rd 1 (.ef 2 (.ef 3 (.rd 4 .done))))) ?_
      refine Zp 0 2 [(1,.agg (TMs.cells (s.pk.ml.getD k dMs)))] [(1,[.prop (Array.size (TMs.cells (s.pk.ml.getD k dMs))=121),.cells ⟨b205,0,none⟩ (TMs.cells (s.pk.ml.getD k dMs))])] (ak (okp (by kernel_rfl) (oka (hs209.cells 0 0 rfl (by kernel_rfl)) ok0)) ak0) ?_
      refine Zqa (f:=22) (args:=#[.agg (TMs.cells (s.pk.ml.getD k dMs))]) Tryz.call22 (mput_spec (s.pk.ml.getD k dMs) (hms k hk).1 (fun w h=>(hms k hk).2 w (h.drop 2)) hs209) ?_
      rintro v213 w214 ⟨ao210,co211,rfl,hs212⟩
      refine⟨Zqo,?_⟩
      have hs215:St w0 ((Sl ad1 c1 5 1 byteC (((hdS s++[s.pk.fr,s.pk.tw])++(s.pk.kn.toList.take 11).flatMap wd++[((s.pk.ml.length:Nat):Int)])++(s.pk.ml.take k).flatMap (fun m=>loS (putM m))))::(Sl ao210 co211 5 1 byteC (putM (s.pk.ml.getD k dMs)))::(Cel b205 (TMs.cells (s.pk.ml.getD k dMs)) 58)::L) w214:=(hs212.pull 2 rfl)
      refine Zqa (f:=21) (args:=#[.slice ad1 ((((hdS s++[s.pk.fr,s.pk.tw])++(s.pk.kn.toList.take 11).flatMap wd++[((s.pk.ml.length:Nat):Int)])++(s.pk.ml.take k).flatMap (fun m=>loS (putM m))).length) c1,.slice ao210 ((putM (s.pk.ml.getD k dMs)).length) co211]) Tryz.call21 (long_spec (((hdS s++[s.pk.fr,s.pk.tw])++(s.pk.kn.toList.take 11).flatMap wd++[((s.pk.ml.length:Nat):Int)])++(s.pk.ml.take k).flatMap (fun m=>loS (putM m))) (putM (s.pk.ml.getD k dMs)) (by first|omega|(simp only [lA,lC,lN,wd_length,hf_length,tx_length,strB_length,loS_length] at *;omega)) (by have:=putM_len hmk;omega) (hs215.slNone 1 rfl) (fun w h=>h.rows 0 rfl (byteF).size _) hs215) ?_
      rintro v219 w220 ⟨ao216,co217,rfl,hs218⟩
      refine⟨Zqo,?_⟩
      refine Zr 4 1 [] ?_
      refine Zd (Zm (Zt ?_))
      refine Zqt (.rd 0 (.rd 1 .done)) ?_
      refine Zp 0 2 [(0,.as_ (.int .i64 ((k:Nat)+1)) (.gen []))] [(0,[.prop (Value.int .i64 (IntKind.i64.wrap ((k:Nat)+1))=Value.int .i64 ((k:Nat)+1))])] (ak (okp (i64ok (by omega) (by omega)) ok0) ak0) ?_
      refine Zd ?_
      have hs221:St w0 ((Sl ao210 co211 5 1 byteC (putM (s.pk.ml.getD k dMs)))::(Cel b205 (TMs.cells (s.pk.ml.getD k dMs)) 58)::(Sl ao216 co217 5 1 byteC ((((hdS s++[s.pk.fr,s.pk.tw])++(s.pk.kn.toList.take 11).flatMap wd++[((s.pk.ml.length:Nat):Int)])++(s.pk.ml.take k).flatMap (fun m=>loS (putM m)))++loS (putM (s.pk.ml.getD k dMs))))::L) w220:=(((hs218.pull 0 rfl).pull 2 rfl).pull 2 rfl)
      have hs222:St w0 ((Sl ao216 co217 5 1 byteC ((((hdS s++[s.pk.fr,s.pk.tw])++(s.pk.kn.toList.take 11).flatMap wd++[((s.pk.ml.length:Nat):Int)])++(s.pk.ml.take k).flatMap (fun m=>loS (putM m)))++loS (putM (s.pk.ml.getD k dMs))))::L) w220:=hs221.drop 2
      have hs223:St w0 ((Sl ao216 co217 5 1 byteC (((hdS s++[s.pk.fr,s.pk.tw])++(s.pk.kn.toList.take 11).flatMap wd++[((s.pk.ml.length:Nat):Int)])++(s.pk.ml.take (k+1)).flatMap (fun m=>loS (putM m))))::L) w220:=(show(((hdS s++[s.pk.fr,s.pk.tw])++(s.pk.kn.toList.take 11).flatMap wd++[((s.pk.ml.length:Nat):Int)])++(s.pk.ml.take k).flatMap (fun m=>loS (putM m)))++loS (putM (s.pk.ml.getD k dMs))=((hdS s++[s.pk.fr,s.pk.tw])++(s.pk.kn.toList.take 11).flatMap wd++[((s.pk.ml.length:Nat):Int)])++(s.pk.ml.take (k+1)).flatMap (fun m=>loS (putM m)) by simp only [ml_succ hk,List.append_assoc])▸hs222
      refine GoQ.pick [132,3,2,130,131] (S':=[(132,.int .i64 ((k:Nat)+1)),(3,.slice ao216 (((((hdS s++[s.pk.fr,s.pk.tw])++(s.pk.kn.toList.take 11).flatMap wd++[((s.pk.ml.length:Nat):Int)])++(s.pk.ml.take k).flatMap (fun m=>loS (putM m)))++loS (putM (s.pk.ml.getD k dMs))).length) co217),(2,.slice none 0 0),(130,zL ab203 ao204 s.pk.ml.length s.pk.mc),(131,.int .i64 (s.pk.ml.length:Nat))]) (by kernel_rfl) ?_
      refine GoQ.slots (S':=[(132,.int .i64 ((k:Nat)+1)),(3,.slice ao216 ((((hdS s++[s.pk.fr,s.pk.tw])++(s.pk.kn.toList.take 11).flatMap wd++[((s.pk.ml.length:Nat):Int)])++(s.pk.ml.take (k+1)).flatMap (fun m=>loS (putM m))).length) co217),(2,.slice none 0 0),(130,zL ab203 ao204 s.pk.ml.length s.pk.mc),(131,.int .i64 (s.pk.ml.length:Nat))]) (by rw [(show(((hdS s++[s.pk.fr,s.pk.tw])++(s.pk.kn.toList.take 11).flatMap wd++[((s.pk.ml.length:Nat):Int)])++(s.pk.ml.take k).flatMap (fun m=>loS (putM m)))++loS (putM (s.pk.ml.getD k dMs))=((hdS s++[s.pk.fr,s.pk.tw])++(s.pk.kn.toList.take 11).flatMap wd++[((s.pk.ml.length:Nat):Int)])++(s.pk.ml.take (k+1)).flatMap (fun m=>loS (putM m)) by simp only [ml_succ hk,List.append_assoc])]) ?_
      exact GoQ.back (k+1,some ⟨ab203,ao204,none⟩,ao216,co217) [2,3,130,131,132] (by kernel_rfl) (by show s.pk.ml.length-(k+1)<s.pk.ml.length-k;omega) ⟨⟨by omega,hw⟩,hs223⟩
     ·have h202':¬ (((k:Nat):Int)<(s.pk.ml.length:Nat)):=of_decide_eq_false h202
      have hke:s.pk.ml.take k=s.pk.ml:=List.take_of_length_le (by omega)
      refine Zx (GoQ.skipC (GoQ.skipL (GoQ.hit (Zm (Zt (Zs ?_))))))
      refine Zqt (.rd 0 (.rd 1 .done)) ?_
      refine Zr 0 2 [] ?_
      refine Zd (Zt (Ze ?_))
      refine Zq1 (v:=.slice ad1 ((((hdS s++[s.pk.fr,s.pk.tw])++(s.pk.kn.toList.take 11).flatMap wd++[((s.pk.ml.length:Nat):Int)])++(s.pk.ml.take k).flatMap (fun m=>loS (putM m))).length) c1) ?_
      have h9:((hdS s++[s.pk.fr,s.pk.tw])++(s.pk.kn.toList.take 11).flatMap wd++[((s.pk.ml.length:Nat):Int)])++(s.pk.ml.take k).flatMap (fun m=>loS (putM m))=putS s:=by
       rw [show putS s=hdS s++tlS s from if_pos hb,show tlS s=pkB s.pk from(if_neg h140').trans (if_pos h157')]
       rw [hke];unfold pkB;rw [List.take_of_length_le (by rw [VecD.len];exact Nat.le_refl _)];simp only [List.append_assoc]
      exact⟨ad1,c1,by rw [← h9],by rw [← h9];exact hs201⟩
   ·have h157':¬ ((s.dw:Int)=16):=ieqF h157
    refine Zk (Zm (Zt (Zs ?_)))
    refine Zqt (.rd 0 (.rd 1 .done)) ?_
    refine Zr 0 2 [] ?_
    refine Zd (Zt (Ze ?_))
    refine Zq1 (v:=.slice ad137 ((hdS s).length) c138) ?_
    have hs224:St w0 ((Sl (some ⟨b125,0,none⟩) 1 5 1 byteC ([((s.pl.length:Nat):Int)]))::(Sl (some ⟨b107,0,none⟩) 1 5 1 byteC ([(s.re.er:Int)]))::(Sl (some ⟨b65,0,none⟩) 4 78 1 ptC ([((b1,7):Nat×Nat),((b1,8):Nat×Nat),((b1,9):Nat×Nat),((b1,10):Nat×Nat)]))::(Sl (some ⟨b50,0,none⟩) 1 5 1 byteC ([(s.op.kd:Int)]))::(Cel b16 #[zP b1 1,zP b1 2,zP b1 3,zP b1 4,zP b1 5] 73)::(Cel b1 (TSt.cells s) 41)::(Sl ad137 c138 5 1 byteC (hdS s))::L) w135:=(((((((hs139.pull 0 rfl).pull 6 rfl).pull 6 rfl).pull 6 rfl).pull 6 rfl).pull 6 rfl).pull 6 rfl)
    have hs225:St w0 ((Sl ad137 c138 5 1 byteC (hdS s))::L) w135:=hs224.drop 6
    have h9:hdS s=putS s:=by
     rw [show putS s=hdS s++tlS s from if_pos hb,show tlS s=[] from(if_neg h140').trans (if_neg h157')]
     rw [List.append_nil]
    exact⟨ad137,c138,by rw [← h9],by rw [← h9];exact hs225⟩
theorem cutByteN_spec {w0 w:World}{L:List Asn}{c:Nat}{az:Option Addr}{cz:Nat}(Q:Asn) (r:List Int) (sp:Bool) (hQ:∀ w,St w0 L w→Q.holds w) (hq:CutOK Q az r cz) (hs:St w0 ((Cel c #[.slice az r.length cz,.bool sp] 124)::L) w) :
 Calls Tryz.prog 30 #[zP c 0] w (Ret fun rv w'=>∃ (nn2:Nat) (rr2:List Int) (sp2:Bool) (az2:Option Addr) (cz2:Nat),rv=.int .u8 (nn2:Nat)∧(byteP (r,sp)=((nn2:Int),(rr2,sp2))∧nn2<256)∧CutOK Q az2 rr2 cz2∧St w0 ((Cel c #[.slice az2 rr2.length cz2,.bool sp2] 124)::L) w'):=by
 refine Calls.ret (cutByte_spec Q r sp hQ hq hs) ?_
 rintro v w' ⟨vv,rr,s2,a2,c2,e,h1,hr,h2,h3⟩
 exact⟨vv.toNat,rr,s2,a2,c2,by rw [Int.toNat_of_nonneg hr.1];exact e,⟨by rw [Int.toNat_of_nonneg hr.1];exact h1,by omega⟩,h2,h3⟩
def carP (s:CS):TMs×Bool×CS :=
 let h:=halfP s
 let o:=tk h.1 h.2
 ((getM o.1).1,decide ((getM o.1).2=0),o.2)
theorem carP_eq {s s1 s2:CS}{n:Nat}{l:List Int}{m:TMs}{e:Int}(h1:halfP s=(n,s1)) (h2:tk n s1=(l,s2)) (h3:getM l=(m,e)):carP s=(m,decide (e=0),s2):=by
 unfold carP
 simp only [h1,h2,h3]
theorem carried_spec {w0 w:World}{L:List Asn}{c:Nat}{az:Option Addr}{cz:Nat}(Q:Asn) (r:List Int) (sp:Bool) (hQ:∀ w,St w0 L w→Q.holds w) (hq:CutOK Q az r cz) (hs:St w0 ((Cel c #[.slice az r.length cz,.bool sp] 124)::L) w):Calls Tryz.prog 34 #[zP c 0] w (Ret fun rv w'=>∃ (mm2:TMs) (bb2:Bool) (rr2:List Int) (sp2:Bool) (az2:Option Addr) (cz2:Nat),rv=.tuple #[.agg (TMs.cells mm2),.bool bb2]∧carP (r,sp)=(conM mm2,bb2,(rr2,sp2))∧MsOK mm2∧CutOK Q az2 rr2 cz2∧St w0 ((Sl mm2.bd.qa mm2.bd.qc 205 2 TPr.cells mm2.bd.ql)::(Cel c #[.slice az2 rr2.length cz2,.bool sp2] 124)::L) w'):=by
 refine Zen (args:=[zP c 0]) Tryz.func34 Tryz.ntmps34 ?_
 refine Zn [(0,zP c 0)] ?_
 refine Zs ?_
 refine Zqt (.ef 0 (.rd 1 .done)) ?_
 refine GoR.alloc rfl rfl (by kernel_rfl) (z:=.agg (TMs.cells dMs)) (by kernel_rfl) hs (cs:=TMs.cells dMs) (by kernel_rfl) ?_
 intro b1 w2 hs3
 refine⟨Zqo,?_⟩
 refine Zr 1 1 [] ?_
 refine Zd (Zt (Zs ?_))
 refine Zqt (.rd 0 (.rd 1 (.ef 2 (.rd 3 (.ef 4 (.ef 5 (.rd 6 (.rd 7 (.rd 8 (.ef 9 (.ef 10 (.rd 11 .done)))))))))))) ?_
 refine Zr 0 2 [] ?_
 have hs4:St w0 ((Cel c #[.slice az r.length cz,.bool sp] 124)::(Cel b1 (TMs.cells dMs) 58)::L) w2:=(hs3.pull 1 rfl)
 refine Zqa (f:=57) (args:=#[zP c 0]) Tryz.call57 (cutHalf_spec Q r sp (fun w h=>hQ w (h.drop 1)) hq hs4) ?_
 rintro v14 w15 ⟨nn5,rr6,sp7,az8,cz9,rfl,he10,hns11,hq212,hs13⟩
 refine⟨Zqo,?_⟩
 refine Zp 3 1 [(3,.as_ (.int .i64 (nn5:Nat)) (.gen []))] [(3,[.prop (Value.int .i64 (IntKind.i64.wrap (nn5:Nat))=Value.int .i64 (nn5:Nat))])] (ak (okp (i64ok (by omega) (by omega)) ok0) ak0) ?_
 refine Zqa (f:=33) (args:=#[zP c 0,.int .i64 (nn5:Nat)]) Tryz.call33 (cutRaw_spec Q rr6 sp7 nn5 (fun w h=>hQ w (h.drop 1)) hq212 hs13) ?_
 rintro v26 w27 ⟨ao16,co17,ll18,rr19,sp20,az21,cz22,rfl,he23,hq224,hs25⟩
 refine⟨Zqo,?_⟩
 refine Zqa (f:=58) (args:=#[.slice ao16 ll18.length co17]) Tryz.call58 (mget_spec ll18 (by have h9:=tk_len nn5 (rr6,sp7);rw [he23] at h9;have:=halfP_rng he10;simp only [] at h9;omega) (by have h9:=tk_byt (n:=nn5) (s:=(rr6,sp7)) hq212.byt;rw [he23] at h9;exact h9) (fun w h=>h.rows 0 rfl (byteF).size _) hs25) ?_
 rintro v33 w34 ⟨mm28,ee29,rfl,he30,hok31,hs32⟩
 refine⟨Zqo,?_⟩
 refine Zr 6 3 [] ?_
 refine GoR.alloc rfl rfl (by kernel_rfl) (z:=.agg (TMs.cells dMs)) (by kernel_rfl) hs32 (cs:=TMs.cells dMs) (by kernel_rfl) ?_
 intro b35 w36 hs37
 refine⟨Zqo,?_⟩
 refine Zw (b:=b35) (off:=0) (v:=.agg (TMs.cells mm28)) (ti:=Tryz.t58) (by kernel_rfl) hs37 0 (L':=(Cel b35 (TMs.cells mm28) 58)::(Sl mm28.bd.qa mm28.bd.qc 205 2 TPr.cells mm28.bd.ql)::(Sl ao16 co17 5 1 byteC ll18)::(Cel c #[.slice az21 rr19.length cz22,.bool sp20] 124)::(Cel b1 (TMs.cells dMs) 58)::L) ?_
 intro w38 hs39
 refine⟨Zqo,?_⟩
 refine Zr 11 1 [] ?_
 refine Zd (Zt (Zs ?_))
 refine Zqt (.rd 0 (.rd 1 (.rd 2 (.ef 3 (.rd 4 .done))))) ?_
 refine Zp 0 3 [(0,.agg (TMs.cells mm28))] [(0,[.prop (Array.size (TMs.cells mm28)=121),.cells ⟨b35,0,none⟩ (TMs.cells mm28)])] (ak (okp (by kernel_rfl) (oka (hs39.cells 0 0 rfl (by kernel_rfl)) ok0)) ak0) ?_
 refine Zw (b:=b1) (off:=0) (v:=.agg (TMs.cells mm28)) (ti:=Tryz.t58) (by kernel_rfl) hs39 4 (L':=(Cel b35 (TMs.cells mm28) 58)::(Sl mm28.bd.qa mm28.bd.qc 205 2 TPr.cells mm28.bd.ql)::(Sl ao16 co17 5 1 byteC ll18)::(Cel c #[.slice az21 rr19.length cz22,.bool sp20] 124)::(Cel b1 (TMs.cells mm28) 58)::L) ?_
 intro w40 hs41
 refine⟨Zqo,?_⟩
 refine Zr 4 1 [] ?_
 refine Zd (Zt (Ze ?_))
 refine GoQ.done (.inl rfl) (v:=.tuple #[.agg (TMs.cells mm28),.bool ((ee29:Int) == 0)]) (fun a hf=>resultsAV rfl (by kernel_rfl) (by kernel_rfl) (ti:=Tryz.t58) (by kernel_rfl) (by kernel_rfl) (vs:=(TMs.cells mm28)) (by kernel_rfl) (hs41.cells 4 0 rfl (by kernel_rfl)) a hf) ?_
 have hs42:St w0 ((Cel b35 (TMs.cells mm28) 58)::(Sl ao16 co17 5 1 byteC ll18)::(Cel b1 (TMs.cells mm28) 58)::(Sl mm28.bd.qa mm28.bd.qc 205 2 TPr.cells mm28.bd.ql)::(Cel c #[.slice az21 rr19.length cz22,.bool sp20] 124)::L) w40:=(((((hs41.pull 3 rfl).pull 2 rfl).pull 4 rfl).pull 4 rfl).pull 4 rfl)
 have hs43:St w0 ((Sl mm28.bd.qa mm28.bd.qc 205 2 TPr.cells mm28.bd.ql)::(Cel c #[.slice az21 rr19.length cz22,.bool sp20] 124)::L) w40:=hs42.drop 3
 exact⟨mm28,(decide (ee29=0)),rr19,sp20,az21,cz22,(by rw [ib]),(carP_eq he10 he23 he30),hok31,hq224,hs43⟩
def QSr:List TMs→Asn
 | []=>St.nothing
 | m::l=>Asn.and (Sl m.bd.qa m.bd.qc 205 2 TPr.cells m.bd.ql) (QSr l)
def QS (l:List TMs):Asn:=QSr l.reverse
theorem QS_app (l:List TMs) (m:TMs):QS (l++[m])=Asn.and (Sl m.bd.qa m.bd.qc 205 2 TPr.cells m.bd.ql) (QS l):=by
 unfold QS
 rw [List.reverse_append]
 rfl
theorem QSr_rows {w:World}:∀ {l:List TMs},(QSr l).holds w→∀ m∈l,RowsAt w m.bd.qa m.bd.ql.length 2 (fun j=>TPr.cells (m.bd.ql.getD j dPr))
 | [],_,m,hm=>by cases hm
 | a::l,h,m,hm=>by
  rcases List.mem_cons.1 hm with rfl|hm
  ·exact Sl.rows dPrF.size h.1 dPr
  ·exact QSr_rows h.2.1 m hm
theorem QS_rows {w:World}{l:List TMs}(h:(QS l).holds w){k:Nat}(hk:k<l.length):RowsAt w (l.getD k dMs).bd.qa (l.getD k dMs).bd.ql.length 2 (fun j=>TPr.cells ((l.getD k dMs).bd.ql.getD j dPr)) :=
 QSr_rows h _ (List.mem_reverse.2 (getD_mem (d:=dMs) hk))
theorem pkSet {fr tw:Int}{ma:Option Addr}{mc:Nat}{ml:List TMs}(f:Nat→Int){k:Nat}(hk:k<11):splice (TPk.cells ⟨fr,tw,vecF f k,ma,mc,ml⟩) (2+k) [.int .u64 (f k)]=TPk.cells ⟨fr,tw,vecF f (k+1),ma,mc,ml⟩ :=
 match k,hk with
 | 0,_=>by kernel_rfl
 | 1,_=>by kernel_rfl
 | 2,_=>by kernel_rfl
 | 3,_=>by kernel_rfl
 | 4,_=>by kernel_rfl
 | 5,_=>by kernel_rfl
 | 6,_=>by kernel_rfl
 | 7,_=>by kernel_rfl
 | 8,_=>by kernel_rfl
 | 9,_=>by kernel_rfl
 | 10,_=>by kernel_rfl
 | n+11,h=>by omega
def conP (p:TPk):TPk:=⟨p.fr,p.tw,p.kn,none,0,p.ml.map conM⟩
def msP:Nat→CS→List TMs→List TMs×Bool×CS
 | 0,s,l=>(l,true,s)
 | n+1,s,l=>if (carP s).2.1=false then (l,false,(carP s).2.2) else msP n (carP s).2.2 (l++[(carP s).1])
def packP (s:CS):TPk×Bool×CS :=
 let f:=byteP s
 let t:=byteP f.2
 let n:=byteP (stW t.2 11)
 let q:=msP n.1.toNat n.2 []
 (⟨f.1,t.1,vecF (valW t.2) 11,none,0,q.1⟩,q.2.1,q.2.2)
theorem packP_eq {s s1 s2 s3 s4:CS}{a b:Int}{n:Nat}{l:List TMs}{ok:Bool}(h1:byteP s=(a,s1)) (h2:byteP s1=(b,s2)) (h3:byteP (stW s2 11)=((n:Int),s3)) (h4:msP n s3 []=(l,ok,s4)):packP s=(⟨a,b,vecF (valW s2) 11,none,0,l⟩,ok,s4):=by
 unfold packP
 simp only [h1,h2,h3,Int.toNat_natCast,h4]
theorem msP_bad {n:Nat}{s s1:CS}{l:List TMs}{m:TMs}(h:carP s=(m,false,s1)):msP (n+1) s l=(l,false,s1):=by
 show(if (carP s).2.1=false then (l,false,(carP s).2.2) else _)=_
 rw [if_pos (by rw [h]),h]
theorem msP_step {n:Nat}{s s1:CS}{l:List TMs}{m:TMs}(h:carP s=(m,true,s1)):msP (n+1) s l=msP n s1 (l++[m]):=by
 show(if (carP s).2.1=false then _ else msP n (carP s).2.2 (l++[(carP s).1]))=_
 rw [if_neg (by rw [h];simp),h]
theorem packet_spec {w0 w:World}{L:List Asn}{c:Nat}{az:Option Addr}{cz:Nat}(Q:Asn) (r:List Int) (sp:Bool) (hQ:∀ w,St w0 L w→Q.holds w) (hq:CutOK Q az r cz) (hs:St w0 ((Cel c #[.slice az r.length cz,.bool sp] 124)::L) w):Calls Tryz.prog 35 #[zP c 0] w (Ret fun rv w'=>∃ (pp2:TPk) (bb2:Bool) (rr2:List Int) (sp2:Bool) (az2:Option Addr) (cz2:Nat),rv=.tuple #[.agg (TPk.cells pp2),.bool bb2]∧packP (r,sp)=(conP pp2,bb2,(rr2,sp2))∧(∀ x∈pp2.kn.toList,0≤x∧x≤18446744073709551615)∧(∀ m∈pp2.ml,MsOK m)∧CutOK Q az2 rr2 cz2∧St w0 ((Sl pp2.ma pp2.mc 58 121 TMs.cells pp2.ml)::(QS pp2.ml)::(Cel c #[.slice az2 rr2.length cz2,.bool sp2] 124)::L) w'):=by
 refine Zen (args:=[zP c 0]) Tryz.func35 Tryz.ntmps35 ?_
 refine Zn [(0,zP c 0)] ?_
 refine Zs ?_
 refine Zqt (.ef 0 (.rd 1 .done)) ?_
 refine GoR.alloc rfl rfl (by kernel_rfl) (z:=.agg (TPk.cells dPk)) (by kernel_rfl) hs (cs:=TPk.cells dPk) (by kernel_rfl) ?_
 intro b1 w2 hs3
 refine⟨Zqo,?_⟩
 refine Zr 1 1 [] ?_
 refine Zd (Zt (Zs ?_))
 refine Zqt (.rd 0 (.ef 1 (.rd 2 (.rd 3 (.ef 4 (.rd 5 (.rd 6 (.ef 7 (.rd 8 (.ef 9 .done)))))))))) ?_
 refine Zr 0 1 [] ?_
 have hs4:St w0 ((Cel c #[.slice az r.length cz,.bool sp] 124)::(Cel b1 (TPk.cells dPk) 35)::L) w2:=(hs3.pull 1 rfl)
 refine Zqa (f:=30) (args:=#[zP c 0]) Tryz.call30 (cutByte_spec Q r sp (fun w h=>hQ w (h.drop 1)) hq hs4) ?_
 rintro v14 w15 ⟨vv5,rr6,sp7,az8,cz9,rfl,he10,hby11,hq212,hs13⟩
 refine⟨Zqo,?_⟩
 refine Zp 2 2 [(2,.as_ (.int .i64 vv5) (.gen []))] [(2,[.prop (Value.int .i64 (IntKind.i64.wrap vv5)=Value.int .i64 vv5)])] (ak (okp (i64ok (by omega) (by omega)) ok0) ak0) ?_
 refine Zqa (f:=30) (args:=#[zP c 0]) Tryz.call30 (cutByte_spec Q rr6 sp7 (fun w h=>hQ w (h.drop 1)) hq212 hs13) ?_
 rintro v25 w26 ⟨vv16,rr17,sp18,az19,cz20,rfl,he21,hby22,hq223,hs24⟩
 refine⟨Zqo,?_⟩
 refine Zp 5 2 [(5,.as_ (.int .i64 vv16) (.gen []))] [(5,[.prop (Value.int .i64 (IntKind.i64.wrap vv16)=Value.int .i64 vv16)])] (ak (okp (i64ok (by omega) (by omega)) ok0) ak0) ?_
 refine Zw (b:=b1) (off:=0) (v:=.int .i64 vv5) (ti:=Tryz.t3) (by kernel_rfl) hs24 1 (L':=(Cel c #[.slice az19 rr17.length cz20,.bool sp18] 124)::(Cel b1 (TPk.cells (⟨vv5,0,dVc,none,0,[]⟩:TPk)) 35)::L) ?_
 intro w27 hs28
 refine⟨Zqo,?_⟩
 refine Zr 8 1 [] ?_
 refine Zw (b:=b1) (off:=1) (v:=.int .i64 vv16) (ti:=Tryz.t3) (by kernel_rfl) hs28 1 (L':=(Cel c #[.slice az19 rr17.length cz20,.bool sp18] 124)::(Cel b1 (TPk.cells (⟨vv5,vv16,dVc,none,0,[]⟩:TPk)) 35)::L) ?_
 intro w29 hs30
 refine⟨Zqo,?_⟩
 refine Zd (Zt (Zs (Zs ?_)))
 refine Zqt (.rd 0 .done) ?_
 refine Zr 0 1 [] ?_
 refine Zd (Zt (Zb ?_))
 have hs31:St w0 ((Cel c #[.slice az19 rr17.length cz20,.bool sp18] 124)::(Cel b1 (TPk.cells (⟨vv5,vv16,(vecF (valW (rr17,sp18)) 0),none,0,[]⟩:TPk)) 35)::L) w29:=(by rw [vec_z];exact hs30)
 refine GoC.loop (T:=Nat×(List Int)×Bool×(Option Addr)×Nat) (fun gg=>[(0,zP c 0),(2,zP b1 0),(3,.bool false),(16,.int .i64 (gg.1:Nat))]) (fun gg w=>(gg.1≤11∧(gg.2.1,gg.2.2.1)=stW (rr17,sp18) gg.1∧CutOK Q gg.2.2.2.1 gg.2.1 gg.2.2.2.2)∧St w0 ((Cel c #[.slice gg.2.2.2.1 gg.2.1.length gg.2.2.2.2,.bool gg.2.2.1] 124)::(Cel b1 (TPk.cells (⟨vv5,vv16,(vecF (valW (rr17,sp18)) gg.1),none,0,[]⟩:TPk)) 35)::L) w) (fun gg=>11-gg.1) (0,rr17,sp18,az19,cz20) [0,2,3,16] (by kernel_rfl) ⟨⟨Nat.zero_le _,rfl,hq223⟩,hs31⟩ ?_
 rintro⟨kk,rr1,sp1,az1,cz1⟩ w32 ⟨hp0,hs33⟩
 have hp:kk≤11∧(rr1,sp1)=stW (rr17,sp18) kk∧CutOK Q az1 rr1 cz1:=hp0
 have hs34:St w0 ((Cel c #[.slice az1 rr1.length cz1,.bool sp1] 124)::(Cel b1 (TPk.cells (⟨vv5,vv16,(vecF (valW (rr17,sp18)) kk),none,0,[]⟩:TPk)) 35)::L) w32:=hs33
 refine Zn [(0,zP c 0),(2,zP b1 0),(3,.bool false),(16,.int .i64 (kk:Nat))] ?_
 refine Zs ?_
 refine Zqt (.rd 0 .done) ?_
 refine Zr 0 1 [] ?_
 refine Zd (Zt (Zs ?_))
 refine Zqc (t:=decide (((kk:Nat):Int)<11)) (fun h35=>?_) (fun h35=>?_)
 ·have h35':((kk:Nat):Int)<11:=of_decide_eq_true h35
  have hk:kk<11:=by omega
  refine Zk (Zt (Zs (Zb (Zs ?_))))
  refine Zqt (.rd 0 (.rd 1 .done)) ?_
  refine Zr 0 2 [] ?_
  refine Zd (Zt ?_)
  refine Zqt (.rd 0 (.rd 1 (.ef 2 (.rd 3 (.rd 4 (.ef 5 .done)))))) ?_
  refine Zr 0 2 [] ?_
  refine Zqa (f:=31) (args:=#[zP c 0]) Tryz.call31 (cutWord_spec Q rr1 sp1 (fun w h=>hQ w (h.drop 1)) hp.2.2 hs34) ?_
  rintro v45 w46 ⟨vv36,rr37,sp38,az39,cz40,rfl,he41,hwr42,hq243,hs44⟩
  refine⟨Zqo,?_⟩
  refine Zp 3 2 [(4,.as_ (zP b1 (2+(kk*1))) .at_)] [(4,[.prop (0≤((kk:Nat):Int)∧((kk:Nat):Int)<(11:Int)),.prop (Value.pointer (some (Addr.add ⟨b1,2,none⟩ (Int.toNat (kk:Nat)*1)))=Value.pointer (some ⟨b1,2+(kk*1),none⟩))])] (ak (okp (by omega) (okp (ptrAdd _ _ _) ok0)) ak0) ?_
  have hvk:valW (rr17,sp18) kk=vv36:=by show(wordP (stW _ kk)).1=_;rw [← hp.2.1,he41]
  refine GoR.store rfl rfl (by kernel_rfl) (b:=b1) (off:=2+(kk*1)) (v:=.int .u64 vv36) (by kernel_rfl) (by kernel_rfl) (ti:=Tryz.t22) (by kernel_rfl) hs44 1 rfl (by kernel_rfl) (by kernel_rfl) (by show 2+(kk*1)+1≤14;omega) (cs':=TPk.cells (⟨vv5,vv16,(vecF (valW (rr17,sp18)) (kk+1)),none,0,[]⟩:TPk)) (L':=(Cel c #[.slice az39 rr37.length cz40,.bool sp38] 124)::(Cel b1 (TPk.cells (⟨vv5,vv16,(vecF (valW (rr17,sp18)) (kk+1)),none,0,[]⟩:TPk)) 35)::L) (by rw [Nat.mul_one,← hvk];exact pkSet _ hk) rfl ?_
  intro w47 hs48
  refine⟨Zqo,?_⟩
  refine Zd (Zm (Zt ?_))
  refine Zqt (.rd 0 (.rd 1 .done)) ?_
  refine Zp 0 2 [(0,.as_ (.int .i64 ((kk:Nat)+1)) (.gen []))] [(0,[.prop (Value.int .i64 (IntKind.i64.wrap ((kk:Nat)+1))=Value.int .i64 ((kk:Nat)+1))])] (ak (okp (i64ok (by omega) (by omega)) ok0) ak0) ?_
  refine Zd ?_
  exact GoQ.back (kk+1,rr37,sp38,az39,cz40) [0,2,3,16] (by kernel_rfl) (by show 11-(kk+1)<11-kk;omega) ⟨⟨by omega,by show _=(wordP (stW _ kk)).2;rw [← hp.2.1,he41],hq243⟩,hs48⟩
 ·have h35':¬ (((kk:Nat):Int)<11):=of_decide_eq_false h35
  have hke:kk=11:=by omega
  subst hke
  have hst:=hp.2.1
  refine Zx (GoQ.skipC (GoQ.skipL (GoQ.hit (Zt (Zs (Zs ?_))))))
  refine Zqt (.rd 0 (.ef 1 (.rd 2 .done))) ?_
  refine Zr 0 1 [] ?_
  refine Zqa (f:=30) (args:=#[zP c 0]) Tryz.call30 (cutByteN_spec Q rr1 sp1 (fun w h=>hQ w (h.drop 1)) hp.2.2 hs34) ?_
  rintro v57 w58 ⟨nn49,rr50,sp51,az52,cz53,rfl,he54,hq255,hs56⟩
  refine⟨Zqo,?_⟩
  refine Zr 2 1 [] ?_
  refine Zd (Zt (Zb ?_))
  have hs59:St w0 ((Sl none 0 58 121 TMs.cells ([]:List TMs))::(Cel c #[.slice az52 rr50.length cz53,.bool sp51] 124)::(Cel b1 (TPk.cells (⟨vv5,vv16,(vecF (valW (rr17,sp18)) 11),none,0,[]⟩:TPk)) 35)::L) w58:=St.slNil hs56 58 121 TMs.cells
  have hs60:St w0 ((QS ([]:List TMs))::(Sl none 0 58 121 TMs.cells ([]:List TMs))::(Cel c #[.slice az52 rr50.length cz53,.bool sp51] 124)::(Cel b1 (TPk.cells (⟨vv5,vv16,(vecF (valW (rr17,sp18)) 11),none,0,[]⟩:TPk)) 35)::L) w58:=St.addNothing hs59
  have hs61:St w0 ((Sl none 0 58 121 TMs.cells ([]:List TMs))::(QS ([]:List TMs))::(Cel b1 (TPk.cells (⟨vv5,vv16,(vecF (valW (rr17,sp18)) 11),none,0,[]⟩:TPk)) 35)::(Cel c #[.slice az52 rr50.length cz53,.bool sp51] 124)::L) w58:=((((hs60.pull 2 rfl).pull 3 rfl).pull 2 rfl).pull 3 rfl)
  have hs62:St w0 ((Sl none 0 58 121 TMs.cells ([]:List TMs))::(QS ([]:List TMs))::(Cel b1 (TPk.cells (⟨vv5,vv16,(vecF (valW (rr17,sp18)) 11),none,0,([]:List TMs)⟩:TPk)) 35)::(Cel c #[.slice az52 rr50.length cz53,.bool sp51] 124)::L) w58:=hs61
  refine GoC.loop (T:=Nat×(List Int)×Bool×(Option Addr)×Nat×(Option Addr)×Nat×(List TMs)) (fun gg=>[(0,zP c 0),(2,zP b1 0),(5,.int .u8 (gg.1:Nat))]) (fun gg w=>(gg.1≤255∧msP nn49 (rr50,sp51) []=msP gg.1 (gg.2.1,gg.2.2.1) (gg.2.2.2.2.2.2.2.map conM)∧CutOK Q gg.2.2.2.1 gg.2.1 gg.2.2.2.2.1∧(∀ m∈gg.2.2.2.2.2.2.2,MsOK m)∧gg.2.2.2.2.2.2.2.length+gg.1≤255)∧St w0 ((Sl gg.2.2.2.2.2.1 gg.2.2.2.2.2.2.1 58 121 TMs.cells gg.2.2.2.2.2.2.2)::(QS gg.2.2.2.2.2.2.2)::(Cel b1 (TPk.cells (⟨vv5,vv16,(vecF (valW (rr17,sp18)) 11),gg.2.2.2.2.2.1,gg.2.2.2.2.2.2.1,gg.2.2.2.2.2.2.2⟩:TPk)) 35)::(Cel c #[.slice gg.2.2.2.1 gg.2.1.length gg.2.2.2.2.1,.bool gg.2.2.1] 124)::L) w) (fun gg=>gg.1) (nn49,rr50,sp51,az52,cz53,none,0,([]:List TMs)) [0,2,5] (by kernel_rfl) ⟨⟨by have:=he54.2;omega,rfl,hq255,fun m hm=>(by cases hm),by have:=he54.2;simp only [lN];omega⟩,hs62⟩ ?_
  rintro⟨n2,rr2,sp2,az2,cz2,qa1,qc1,ml1⟩ w63 ⟨hpm0,hs64⟩
  have hp:n2≤255∧msP nn49 (rr50,sp51) []=msP n2 (rr2,sp2) (ml1.map conM)∧CutOK Q az2 rr2 cz2∧(∀ m∈ml1,MsOK m)∧ml1.length+n2≤255:=hpm0
  have hs65:St w0 ((Sl qa1 qc1 58 121 TMs.cells ml1)::(QS ml1)::(Cel b1 (TPk.cells (⟨vv5,vv16,(vecF (valW (rr17,sp18)) 11),qa1,qc1,ml1⟩:TPk)) 35)::(Cel c #[.slice az2 rr2.length cz2,.bool sp2] 124)::L) w63:=hs64
  refine Zn [(0,zP c 0),(2,zP b1 0),(5,.int .u8 (n2:Nat))] ?_
  refine Zs (Zs ?_)
  refine Zqt (.rd 0 (.rd 1 .done)) ?_
  refine Zr 0 2 [] ?_
  refine Zd (Zt ?_)
  refine Zqc (t:=decide (((n2:Nat):Int)>0)) (fun h66=>?_) (fun h66=>?_)
  ·have h66':((n2:Nat):Int)>0:=of_decide_eq_true h66
   obtain⟨n1,rfl⟩:∃ m,n2=m+1:=⟨n2-1,by omega⟩
   refine Zk (Zt (Zs (Zb (Zs ?_))))
   refine Zqt (.rd 0 (.ef 1 (.rd 2 (.rd 3 (.rd 4 (.ef 5 (.ef 6 (.rd 7 .done)))))))) ?_
   refine Zr 0 1 [] ?_
   have hs67:St w0 ((Cel c #[.slice az2 rr2.length cz2,.bool sp2] 124)::(Sl qa1 qc1 58 121 TMs.cells ml1)::(QS ml1)::(Cel b1 (TPk.cells (⟨vv5,vv16,(vecF (valW (rr17,sp18)) 11),qa1,qc1,ml1⟩:TPk)) 35)::L) w63:=(hs65.pull 3 rfl)
   refine Zqa (f:=34) (args:=#[zP c 0]) Tryz.call34 (carried_spec Q rr2 sp2 (fun w h=>hQ w (h.drop 3)) hp.2.2.1 hs67) ?_
   rintro v78 w79 ⟨mm68,bb69,rr70,sp71,az72,cz73,rfl,he74,hok75,hq276,hs77⟩
   refine⟨Zqo,?_⟩
   refine Zr 2 3 [] ?_
   refine GoR.alloc rfl rfl (by kernel_rfl) (z:=.agg (TMs.cells dMs)) (by kernel_rfl) hs77 (cs:=TMs.cells dMs) (by kernel_rfl) ?_
   intro b80 w81 hs82
   refine⟨Zqo,?_⟩
   refine Zw (b:=b80) (off:=0) (v:=.agg (TMs.cells mm68)) (ti:=Tryz.t58) (by kernel_rfl) hs82 0 (L':=(Cel b80 (TMs.cells mm68) 58)::(Sl mm68.bd.qa mm68.bd.qc 205 2 TPr.cells mm68.bd.ql)::(Cel c #[.slice az72 rr70.length cz73,.bool sp71] 124)::(Sl qa1 qc1 58 121 TMs.cells ml1)::(QS ml1)::(Cel b1 (TPk.cells (⟨vv5,vv16,(vecF (valW (rr17,sp18)) 11),qa1,qc1,ml1⟩:TPk)) 35)::L) ?_
   intro w83 hs84
   refine⟨Zqo,?_⟩
   refine Zr 7 1 [] ?_
   refine Zd (Zt (Zs (Zs ?_)))
   refine Zqt (.rd 0 (.rd 1 .done)) ?_
   refine Zr 0 2 [] ?_
   refine Zd (Zt ?_)
   refine Zqc (t:=!bb69) (fun h85=>?_) (fun h85=>?_)
   ·have h85n:bb69=false:=notT h85
    refine Zs ?_
    refine Zqt (.rd 0 (.ef 1 (.rd 2 .done))) ?_
    refine Zp 0 1 [(0,.agg (TPk.cells (⟨vv5,vv16,(vecF (valW (rr17,sp18)) 11),qa1,qc1,ml1⟩:TPk)))] [(0,[.prop (Array.size (TPk.cells (⟨vv5,vv16,(vecF (valW (rr17,sp18)) 11),qa1,qc1,ml1⟩:TPk))=14),.cells ⟨b1,0,none⟩ (TPk.cells (⟨vv5,vv16,(vecF (valW (rr17,sp18)) 11),qa1,qc1,ml1⟩:TPk))])] (ak (okp (by kernel_rfl) (oka (hs84.cells 5 0 rfl (by kernel_rfl)) ok0)) ak0) ?_
    refine Zw (b:=b1) (off:=0) (v:=.agg (TPk.cells (⟨vv5,vv16,(vecF (valW (rr17,sp18)) 11),qa1,qc1,ml1⟩:TPk))) (ti:=Tryz.t35) (by kernel_rfl) hs84 5 (L':=(Cel b80 (TMs.cells mm68) 58)::(Sl mm68.bd.qa mm68.bd.qc 205 2 TPr.cells mm68.bd.ql)::(Cel c #[.slice az72 rr70.length cz73,.bool sp71] 124)::(Sl qa1 qc1 58 121 TMs.cells ml1)::(QS ml1)::(Cel b1 (TPk.cells (⟨vv5,vv16,(vecF (valW (rr17,sp18)) 11),qa1,qc1,ml1⟩:TPk)) 35)::L) ?_
    intro w86 hs87
    refine⟨Zqo,?_⟩
    refine Zr 2 1 [] ?_
    refine Zd (Zt (Ze (Zy (Zl (Zy (GoQ.skipLR (Zl (Zy ?_))))))))
    refine GoQ.done (.inl rfl) (v:=.tuple #[.agg (TPk.cells (⟨vv5,vv16,(vecF (valW (rr17,sp18)) 11),qa1,qc1,ml1⟩:TPk)),.bool false]) (fun a hf=>resultsAV rfl (by kernel_rfl) (by kernel_rfl) (ti:=Tryz.t35) (by kernel_rfl) (by kernel_rfl) (vs:=(TPk.cells (⟨vv5,vv16,(vecF (valW (rr17,sp18)) 11),qa1,qc1,ml1⟩:TPk))) (by kernel_rfl) (hs87.cells 5 0 rfl (by kernel_rfl)) a hf) ?_
    have hs88:St w0 ((Cel b80 (TMs.cells mm68) 58)::(Sl mm68.bd.qa mm68.bd.qc 205 2 TPr.cells mm68.bd.ql)::(Cel b1 (TPk.cells (⟨vv5,vv16,(vecF (valW (rr17,sp18)) 11),qa1,qc1,ml1⟩:TPk)) 35)::(Sl qa1 qc1 58 121 TMs.cells ml1)::(QS ml1)::(Cel c #[.slice az72 rr70.length cz73,.bool sp71] 124)::L) w86:=((((((hs87.pull 2 rfl).pull 4 rfl).pull 4 rfl).pull 5 rfl).pull 5 rfl).pull 5 rfl)
    have hs89:St w0 ((Sl qa1 qc1 58 121 TMs.cells ml1)::(QS ml1)::(Cel c #[.slice az72 rr70.length cz73,.bool sp71] 124)::L) w86:=hs88.drop 3
    exact⟨(⟨vv5,vv16,(vecF (valW (rr17,sp18)) 11),qa1,qc1,ml1⟩:TPk),false,rr70,sp71,az72,cz73,rfl,(packP_eq he10 he21 (by rw [← hst];exact he54.1) (hp.2.1.trans (msP_bad ((show bb69=false from by simpa using h85)▸he74)))),(vecF_all _ 0 (fun k hk=>by have:=wordP_rng (s:=stW (rr17,sp18) k) (v:=valW (rr17,sp18) k) (s2:=(wordP (stW (rr17,sp18) k)).2) rfl;omega)),hp.2.2.2.1,hq276,hs89⟩
   ·have h85n:bb69=true:=notF h85
    refine Zk (Zt ?_)
    refine Zqt (.rd 0 (.rd 1 (.rd 2 (.ef 3 (.ef 4 (.rd 5 (.ef 6 .done))))))) ?_
    refine Zp 0 3 [(1,.gen [.slice qa1 ml1.length qc1]),(2,.agg (TMs.cells mm68))] [(1,[.cell ⟨b1,13,none⟩ (.slice qa1 ml1.length qc1)]),(2,[.prop (Array.size (TMs.cells mm68)=121),.cells ⟨b80,0,none⟩ (TMs.cells mm68)])] (ak (okc (hs84.cell 5 rfl (by kernel_rfl)) ok0) (ak (okp (by kernel_rfl) (oka (hs84.cells 0 0 rfl (by kernel_rfl)) ok0)) ak0)) ?_
    refine GoR.sliceLit rfl (by kernel_rfl) (t:=33) (e:=58) (n:=1) (ps:=[(0,.agg (TMs.cells mm68))]) (by kernel_rfl) (by kernel_rfl) (ti:=Tryz.t58) (z:=.agg (TMs.cells dMs)) (by kernel_rfl) (by kernel_rfl) (by decide) (by decide) (cs:=TMs.cells mm68) (by kernel_rfl) hs84 ?_
    intro b90 w91 hs92 hz93
    have hs94:St w0 ((Sl (some ⟨b90,0,none⟩) 1 58 121 TMs.cells ([(mm68:TMs)]))::(Cel b80 (TMs.cells mm68) 58)::(Sl mm68.bd.qa mm68.bd.qc 205 2 TPr.cells mm68.bd.ql)::(Cel c #[.slice az72 rr70.length cz73,.bool sp71] 124)::(Sl qa1 qc1 58 121 TMs.cells ml1)::(QS ml1)::(Cel b1 (TPk.cells (⟨vv5,vv16,(vecF (valW (rr17,sp18)) 11),qa1,qc1,ml1⟩:TPk)) 35)::L) w91:=St.slOf (l:=[(mm68:TMs)]) (f:=TMs.cells) hs92 hz93 (dMsF).size (by simp only [lC,lN,maxLen];omega) (by kernel_rfl)
    refine⟨Zqo,?_⟩
    have hs97:St w0 ((Sl qa1 qc1 58 121 TMs.cells ml1)::(Sl (some ⟨b90,0,none⟩) 1 58 121 TMs.cells ([(mm68:TMs)]))::(Cel b80 (TMs.cells mm68) 58)::(Sl mm68.bd.qa mm68.bd.qc 205 2 TPr.cells mm68.bd.ql)::(Cel c #[.slice az72 rr70.length cz73,.bool sp71] 124)::(QS ml1)::(Cel b1 (TPk.cells (⟨vv5,vv16,(vecF (valW (rr17,sp18)) 11),qa1,qc1,ml1⟩:TPk)) 35)::L) w91:=(hs94.pull 4 rfl)
    refine GoR.append rfl (by kernel_rfl) mssOK2 dMsF (ad:=qa1) (c:=qc1) (xs:=ml1) (ys:=[(mm68:TMs)]) (adx:=some ⟨b90,0,none⟩) (cx:=1) dMs (by kernel_rfl) hs97 (hs97.rows 1 rfl (dMsF).size dMs) (fun h=>nomatch h) (by simp only [lA,lC,lN,List.length_map] at *;omega) (by simp only [lA,lC,lN,List.length_map] at *;omega) ?_
    intro ad98 c99 w95 hs96
    refine⟨Zqo,?_⟩
    refine Zr 5 1 [] ?_
    refine Zw (b:=b1) (off:=13) (v:=.slice ad98 ((ml1++([(mm68:TMs)])).length) c99) (ti:=Tryz.t33) (by kernel_rfl) hs96 6 (L':=(Sl ad98 c99 58 121 TMs.cells (ml1++([(mm68:TMs)])))::(Sl (some ⟨b90,0,none⟩) 1 58 121 TMs.cells ([(mm68:TMs)]))::(Cel b80 (TMs.cells mm68) 58)::(Sl mm68.bd.qa mm68.bd.qc 205 2 TPr.cells mm68.bd.ql)::(Cel c #[.slice az72 rr70.length cz73,.bool sp71] 124)::(QS ml1)::(Cel b1 (TPk.cells (⟨vv5,vv16,(vecF (valW (rr17,sp18)) 11),ad98,c99,(ml1++([(mm68:TMs)]))⟩:TPk)) 35)::L) ?_
    intro w100 hs101
    refine⟨Zqo,?_⟩
    refine Zd (Zm (Zt ?_))
    refine Zqt (.rd 0 (.rd 1 (.rd 2 .done))) ?_
    refine Zp 0 3 [(1,.as_ (.int .u8 (n1:Nat)) (.gen []))] [(1,[.prop (Value.int .u8 (IntKind.u8.wrap (((n1+1):Nat)-1))=Value.int .u8 (n1:Nat))])] (ak (okp (u8dec (by omega)) ok0) ak0) ?_
    refine Zd ?_
    have hs102:St w0 ((Sl (some ⟨b90,0,none⟩) 1 58 121 TMs.cells ([(mm68:TMs)]))::(Cel b80 (TMs.cells mm68) 58)::(Sl mm68.bd.qa mm68.bd.qc 205 2 TPr.cells mm68.bd.ql)::(QS ml1)::(Sl ad98 c99 58 121 TMs.cells (ml1++([(mm68:TMs)])))::(Cel b1 (TPk.cells (⟨vv5,vv16,(vecF (valW (rr17,sp18)) 11),ad98,c99,(ml1++([(mm68:TMs)]))⟩:TPk)) 35)::(Cel c #[.slice az72 rr70.length cz73,.bool sp71] 124)::L) w100:=(((((((hs101.pull 4 rfl).pull 6 rfl).pull 2 rfl).pull 6 rfl).pull 6 rfl).pull 6 rfl).pull 6 rfl)
    have hs103:St w0 ((Sl mm68.bd.qa mm68.bd.qc 205 2 TPr.cells mm68.bd.ql)::(QS ml1)::(Sl ad98 c99 58 121 TMs.cells (ml1++([(mm68:TMs)])))::(Cel b1 (TPk.cells (⟨vv5,vv16,(vecF (valW (rr17,sp18)) 11),ad98,c99,(ml1++([(mm68:TMs)]))⟩:TPk)) 35)::(Cel c #[.slice az72 rr70.length cz73,.bool sp71] 124)::L) w100:=hs102.drop 2
    have hs104:St w0 ((QS (ml1++[mm68]))::(Sl ad98 c99 58 121 TMs.cells (ml1++([(mm68:TMs)])))::(Cel b1 (TPk.cells (⟨vv5,vv16,(vecF (valW (rr17,sp18)) 11),ad98,c99,(ml1++([(mm68:TMs)]))⟩:TPk)) 35)::(Cel c #[.slice az72 rr70.length cz73,.bool sp71] 124)::L) w100:=by rw [QS_app];exact St.join hs103
    have hs105:St w0 ((Sl ad98 c99 58 121 TMs.cells (ml1++([(mm68:TMs)])))::(QS (ml1++[mm68]))::(Cel b1 (TPk.cells (⟨vv5,vv16,(vecF (valW (rr17,sp18)) 11),ad98,c99,(ml1++([(mm68:TMs)]))⟩:TPk)) 35)::(Cel c #[.slice az72 rr70.length cz73,.bool sp71] 124)::L) w100:=((((hs104.pull 3 rfl).pull 3 rfl).pull 2 rfl).pull 3 rfl)
    exact GoQ.back (n1,rr70,sp71,az72,cz73,ad98,c99,(ml1++[mm68])) [0,2,5] (by kernel_rfl) (by show n1<(n1+1);omega) ⟨⟨by omega,by rw [hp.2.1,msP_step ((show bb69=true from by simpa using h85)▸he74),List.map_append];rfl,hq276,fun m hm=>(List.mem_append.1 hm).elim (hp.2.2.2.1 m) (fun h9=>by rw [List.mem_singleton.1 h9];exact hok75),by show(ml1++[_]).length+n1≤255;have:=hp.2.2.2.2;simp only [lA,lC,lN];omega⟩,hs105⟩
  ·have h66':¬ (((n2:Nat):Int)>0):=of_decide_eq_false h66
   have hn0:n2=0:=by omega
   subst hn0
   refine Zx (GoQ.skipC (GoQ.skipL (GoQ.hit (Zt (Zs ?_)))))
   refine Zqt (.rd 0 (.ef 1 (.rd 2 .done))) ?_
   refine Zp 0 1 [(0,.agg (TPk.cells (⟨vv5,vv16,(vecF (valW (rr17,sp18)) 11),qa1,qc1,ml1⟩:TPk)))] [(0,[.prop (Array.size (TPk.cells (⟨vv5,vv16,(vecF (valW (rr17,sp18)) 11),qa1,qc1,ml1⟩:TPk))=14),.cells ⟨b1,0,none⟩ (TPk.cells (⟨vv5,vv16,(vecF (valW (rr17,sp18)) 11),qa1,qc1,ml1⟩:TPk))])] (ak (okp (by kernel_rfl) (oka (hs65.cells 2 0 rfl (by kernel_rfl)) ok0)) ak0) ?_
   refine Zw (b:=b1) (off:=0) (v:=.agg (TPk.cells (⟨vv5,vv16,(vecF (valW (rr17,sp18)) 11),qa1,qc1,ml1⟩:TPk))) (ti:=Tryz.t35) (by kernel_rfl) hs65 2 (L':=(Sl qa1 qc1 58 121 TMs.cells ml1)::(QS ml1)::(Cel b1 (TPk.cells (⟨vv5,vv16,(vecF (valW (rr17,sp18)) 11),qa1,qc1,ml1⟩:TPk)) 35)::(Cel c #[.slice az2 rr2.length cz2,.bool sp2] 124)::L) ?_
   intro w106 hs107
   refine⟨Zqo,?_⟩
   refine Zr 2 1 [] ?_
   refine Zd (Zt (Ze ?_))
   refine GoQ.done (.inl rfl) (v:=.tuple #[.agg (TPk.cells (⟨vv5,vv16,(vecF (valW (rr17,sp18)) 11),qa1,qc1,ml1⟩:TPk)),.bool true]) (fun a hf=>resultsAV rfl (by kernel_rfl) (by kernel_rfl) (ti:=Tryz.t35) (by kernel_rfl) (by kernel_rfl) (vs:=(TPk.cells (⟨vv5,vv16,(vecF (valW (rr17,sp18)) 11),qa1,qc1,ml1⟩:TPk))) (by kernel_rfl) (hs107.cells 2 0 rfl (by kernel_rfl)) a hf) ?_
   have hs108:St w0 ((Cel b1 (TPk.cells (⟨vv5,vv16,(vecF (valW (rr17,sp18)) 11),qa1,qc1,ml1⟩:TPk)) 35)::(Sl qa1 qc1 58 121 TMs.cells ml1)::(QS ml1)::(Cel c #[.slice az2 rr2.length cz2,.bool sp2] 124)::L) w106:=((((hs107.pull 3 rfl).pull 2 rfl).pull 2 rfl).pull 3 rfl)
   have hs109:St w0 ((Sl qa1 qc1 58 121 TMs.cells ml1)::(QS ml1)::(Cel c #[.slice az2 rr2.length cz2,.bool sp2] 124)::L) w106:=hs108.drop 1
   exact⟨(⟨vv5,vv16,(vecF (valW (rr17,sp18)) 11),qa1,qc1,ml1⟩:TPk),true,rr2,sp2,az2,cz2,rfl,(packP_eq he10 he21 (by rw [← hst];exact he54.1) (hp.2.1.trans rfl)),(vecF_all _ 0 (fun k hk=>by have:=wordP_rng (s:=stW (rr17,sp18) k) (v:=valW (rr17,sp18) k) (s2:=(wordP (stW (rr17,sp18) k)).2) rfl;omega)),hp.2.2.2.1,hp.2.2.1,hs109⟩
def numQ (w:Int):Int:=IntKind.i64.wrap (IntKind.u64.wrap (w-1))
theorem i64wrap_rng (w:Int):-9223372036854775808≤IntKind.i64.wrap w∧IntKind.i64.wrap w≤9223372036854775807:=by
 rw [IntKind.wrap_i64];omega
def conS (s:TSt):TSt:=⟨s.dw,s.cl,s.wh,s.j,s.k,s.n,s.op,con s.bd,conP s.pk,s.tm,s.re,s.at_,none,0,s.pl⟩
structure HdP where
 s:TSt
 c:CS
def hdP (b:List Int):HdP :=
 let a:=byteP (b,false)
 let w1:=wordP a.2
 let w2:=wordP w1.2
 let w3:=wordP w2.2
 let w4:=wordP w3.2
 let w5:=wordP w4.2
 let k:=byteP w5.2
 let am:=wordP k.2
 let t1:=textP 255 am.2
 let t2:=textP 255 t1.2
 let t3:=textP 255 t2.2
 let t4:=textP 255 t3.2
 let tm:=wordP t4.2
 let at_:=wordP tm.2
 let er:=byteP at_.2
 let vl:=textP 255 er.2
 let pn:=byteP vl.2
 let pk:=tk pn.1.toNat pn.2
 ⟨⟨a.1,numQ w1.1,numQ w2.1,numQ w3.1,numQ w4.1,numQ w5.1,⟨k.1,t1.1,t2.1,t3.1,t4.1,am.1⟩,dBd,dPk,tm.1,⟨er.1,vl.1⟩,at_.1,none,0,pk.1⟩,pk.2⟩
def tlP (h:HdP):TSt×Bool×CS :=
 if h.s.dw=14 then
  let m:=carP h.c
  ({ h.s with bd:=m.1.bd },m.2.1,m.2.2)
 else if h.s.dw=16 then
  let p:=packP h.c
  ({ h.s with pk:=p.1 },p.2.1,p.2.2)
 else (h.s,true,h.c)
def finT (b:List Int) (r:TSt×Bool×CS):TSt×Int :=
 if r.2.1=false then (dSt,5) else if r.2.2.2=true then (dSt,5) else if r.2.2.1.length>0 then (dSt,5) else if mayS r.1=false then (dSt,5) else if putS r.1=b then (r.1,0) else (dSt,5)
def getT (b:List Int):TSt×Int:=finT b (tlP (hdP b))
theorem tlP_14 {h:HdP}{m:TMs}{ok:Bool}{c:CS}(hd:h.s.dw=14) (hc:carP h.c=(m,ok,c)):tlP h=({ h.s with bd:=m.bd },ok,c):=by
 unfold tlP
 rw [if_pos hd]
 simp only [hc]
theorem tlP_16 {h:HdP}{p:TPk}{ok:Bool}{c:CS}(hd:h.s.dw=16) (hc:packP h.c=(p,ok,c)):tlP h=({ h.s with pk:=p },ok,c):=by
 unfold tlP
 rw [if_neg (by omega),if_pos hd]
 simp only [hc]
theorem tlP_0 {h:HdP}(h1:¬ h.s.dw=14) (h2:¬ h.s.dw=16):tlP h=(h.s,true,h.c):=by
 unfold tlP
 rw [if_neg h1,if_neg h2]
theorem putM_byt {m:TMs}(h:MsOK m):Byt (putM m):=by
 unfold putM
 split
 ·exact Byt.app (Byt.app (Byt.app Byt.nil (wd_byt _)) (tgB_byt h)) h.tg
 ·exact Byt.nil
theorem loS_byt {y:List Int}(h:Byt y):Byt (loS y):=Byt.app (fun z hz=>by
 rcases List.mem_cons.1 hz with rfl|hz
 ·exact u8wrap_b _
 ·rw [List.mem_singleton.1 hz];exact u8wrap_b _) h
theorem flat_byt {α:Type}{f:α→List Int}{l:List α}(h:∀ x∈l,Byt (f x)):Byt (l.flatMap f):=fun z hz=>by
 obtain⟨y,hy,hz⟩:=List.mem_flatMap.1 hz
 exact h y hy z hz
theorem putS_byt {s:TSt}(h:StOK s) (hm:∀ m∈s.pk.ml,MsOK m):Byt (putS s):=by
 unfold putS
 split
 ·rename_i hb
  obtain⟨q1,q2,q3,q4,q5,q6,q7,q8,q9,q10,q11,q12,q13,q14,q15,q16⟩:=mayS_in hb
  have e0:=h.kd
  have h1:Byt (h1S s):=Byt.app (Byt.app (Byt.app (Byt.app (Byt.app (Byt.one (by omega)) (wd_byt _)) (wd_byt _)) (wd_byt _)) (wd_byt _)) (wd_byt _)
  have h2:Byt (h2S s):=Byt.app (Byt.app (Byt.app (Byt.app (Byt.app (Byt.app h1 (Byt.one (by omega))) (wd_byt _)) (tx_byt _)) (tx_byt _)) (tx_byt _)) (tx_byt _)
  refine Byt.app (Byt.app (Byt.app (Byt.app (Byt.app (Byt.app (Byt.app h2 (wd_byt _)) (wd_byt _)) (Byt.one (by omega))) (tx_byt _)) (Byt.one (by omega))) h.pl) ?_
  unfold tlS
  split
  ·exact loS_byt (putM_byt (car_ok h.bd))
  ·split
   ·rename_i h16
    obtain⟨p1,p2,p3,p4⟩:=packedB_in (q15 h16).2
    refine Byt.app (fun z hz=>?_) (Byt.app (flat_byt fun x hx=>wd_byt _) (Byt.app (Byt.one (by omega)) (flat_byt fun m hx=>loS_byt (putM_byt (hm m hx)))))
    rcases List.mem_cons.1 hz with rfl|hz
    ·omega
    ·rw [List.mem_singleton.1 hz];omega
   ·exact Byt.nil
 ·exact Byt.nil
theorem mayS_con (s:TSt):mayS (conS s)=mayS s:=by
 have h:((s.pk.ml.map conM).any fun m=>!mayM m)=s.pk.ml.any fun m=>!mayM m:=by
  rw [List.any_map]
  rfl
 have e:packedB (conP s.pk)=packedB s.pk:=by
  show(if _=true then (if _=true then (if decide (((s.pk.ml.map conM).length:Int)≤8)=true then !((s.pk.ml.map conM).any fun m=>!mayM m) else false) else false) else false)=_
  rw [h,List.length_map]
  rfl
 have e2:emptyB (conP s.pk)=emptyB s.pk:=by
  show(if _=true then (if _=true then (if _=true then (((s.pk.ml.map conM).length:Nat):Int) == 0 else false) else false) else false)=_
  rw [List.length_map]
  rfl
 unfold mayS
 show(if _=true then false else if _=true then false else if _=true then false else if _=true then false else if _=true then false else if _=true then false else if _=true then false else if _=true then false else if _=true then false else if _=true then false else if _=true then false else if _=true then false else if _=true then false else if _=true then false else if _=true then (if _=true then emptyB (conP s.pk) else false) else if _=true then (if _=true then packedB (conP s.pk) else false) else if _=true then emptyB (conP s.pk) else false)=_
 rw [e,e2]
 rfl
theorem putS_con (s:TSt):putS (conS s)=putS s:=by
 have e:pkB (conP s.pk)=pkB s.pk:=by
  unfold pkB
  show _++(_++([((((s.pk.ml.map conM).length:Nat)):Int)]++(s.pk.ml.map conM).flatMap _))=_
  rw [List.length_map,List.flatMap_map]
  rfl
 have e1:putM (conM ⟨1,1,dVc,s.bd,dD32⟩)=putM ⟨1,1,dVc,s.bd,dD32⟩:=rfl
 have e3:tlS (conS s)=tlS s:=by
  unfold tlS
  show(if s.dw=14 then loS (putM (conM ⟨1,1,dVc,s.bd,dD32⟩)) else if s.dw=16 then pkB (conP s.pk) else [])=_
  rw [e,e1]
 have e4:hdS (conS s)=hdS s:=rfl
 unfold putS
 rw [mayS_con,e3,e4]
theorem dBd_ok:BdOK dBd:=⟨by decide,by decide,by decide,dRq_ok,(fun p hp=>by cases hp),dD32_ok,Nat.zero_le _⟩
theorem dVc_ok:∀ x∈dVc.toList,0≤x∧x≤18446744073709551615:=by decide
theorem dSt_ok:StOK dSt:=⟨by decide,by decide,by decide,by decide,by decide,by decide,by decide,by decide,dBd_ok,dVc_ok,by decide,by decide,(fun z hz=>by cases hz),fun _=>rfl⟩
set_option maxHeartbeats 16000000 in
theorem getT_spec {w0 w:World}{L:List Asn}{ad:Option Addr}{cb:Nat}(b:List Int) (hsome:Som ad cb) (hbl:b.length≤100000) (hbb:∀ z∈b,0≤z∧z<256) (hr:∀ w,St w0 L w→RowsAt w ad b.length 1 (fun k=>byteC (b.getD k (0:Int)))) (hs:St w0 (L) w):Calls Tryz.prog 8 #[.slice ad b.length cb] w (Ret fun rv w'=>∃ (xx2:TSt) (ee2:Int),rv=.tuple #[.agg (TSt.cells xx2),.int .i64 ee2]∧getT b=(conS xx2,ee2)∧StOK xx2∧(∀ m∈xx2.pk.ml,MsOK m)∧St w0 ((Sl xx2.pa xx2.pc 5 1 byteC xx2.pl)::(Sl xx2.bd.qa xx2.bd.qc 205 2 TPr.cells xx2.bd.ql)::(Sl xx2.pk.ma xx2.pk.mc 58 121 TMs.cells xx2.pk.ml)::(QS xx2.pk.ml)::L) w'):=by
 refine Zen (args:=[.slice ad b.length cb]) Tryz.func8 Tryz.ntmps8 ?_
 refine Zn [(0,.slice ad b.length cb)] ?_
 refine Zs ?_
 refine Zqt (.ef 0 (.rd 1 .done)) ?_
 refine GoR.alloc rfl rfl (by kernel_rfl) (z:=.agg (TSt.cells dSt)) (by kernel_rfl) hs (cs:=TSt.cells dSt) (by kernel_rfl) ?_
 intro b1 w2 hs3
 refine⟨Zqo,?_⟩
 refine Zr 1 1 [] ?_
 refine Zd (Zt (Zs ?_))
 refine Zqt (.rd 0 (.ef 1 (.rd 2 .done))) ?_
 refine Zr 0 1 [] ?_
 refine Zqa (f:=29) (args:=#[.slice ad b.length cb]) Tryz.call29 (cutNew_spec b (by omega) (by first|assumption|omega) (fun w h=>hr _ (h.drop 1)) hs3) ?_
 rintro v8 w9 ⟨cc4,ao5,co6,rfl,hs7⟩
 have hq10:CutOK (Sl ao5 co6 5 1 byteC b) ao5 b co6:=CutOK.new hs7 (j:=1) rfl hbb (by omega)
 refine⟨Zqo,?_⟩
 refine Zr 2 1 [] ?_
 refine Zd (Zt (Zs ?_))
 refine Zqt (.rd 0 (.ef 1 (.rd 2 (.ef 3 (.ef 4 .done))))) ?_
 refine Zr 0 1 [] ?_
 refine Zqa (f:=30) (args:=#[zP cc4 0]) Tryz.call30 (cutByte_spec (Sl ao5 co6 5 1 byteC b) b false (fun w h=>h.at_ 0 rfl) hq10 hs7) ?_
 rintro v20 w21 ⟨vv11,rr12,sp13,az14,cz15,rfl,he16,hby17,hq218,hs19⟩
 refine⟨Zqo,?_⟩
 refine Zr 2 1 [] ?_
 refine GoR.alloc rfl rfl (by kernel_rfl) (z:=.agg (TSt.cells dSt)) (by kernel_rfl) hs19 (cs:=TSt.cells dSt) (by kernel_rfl) ?_
 intro b22 w23 hs24
 refine⟨Zqo,?_⟩
 refine Zw (b:=b22) (off:=0) (v:=.agg (TSt.cells (⟨vv11,0,0,0,0,0,dOp,dBd,dPk,0,dRe,0,none,0,[]⟩:TSt))) (ti:=Tryz.t41) (by kernel_rfl) hs24 0 (L':=(Cel b22 (TSt.cells (⟨vv11,0,0,0,0,0,dOp,dBd,dPk,0,dRe,0,none,0,[]⟩:TSt)) 41)::(Cel cc4 #[.slice az14 rr12.length cz15,.bool sp13] 124)::(Sl ao5 co6 5 1 byteC b)::(Cel b1 (TSt.cells dSt) 41)::L) ?_
 intro w25 hs26
 refine⟨Zqo,?_⟩
 refine Zd (Zt (Zs (Zs ?_)))
 refine Zqt (.ef 0 (.rd 1 (.rd 2 .done))) ?_
 refine Zqa (f:=17) (args:=#[zP b22 0]) Tryz.call17 (numbers_spec hs26) ?_
 rintro v29 w30 ⟨b27,rfl,hs28⟩
 refine⟨Zqo,?_⟩
 refine Zr 1 2 [] ?_
 refine Zd (Zt (Zb ?_))
 refine GoC.unroll 6 ?_
 refine Zs ?_
 refine Zqt (.rd 0 .done) ?_
 refine Zr 0 1 [] ?_
 refine Zd (Zt (Zs (ZqT (Zk (Zt (Zs (Zb (Zs ?_))))))))
 refine Zqt (.rd 0 (.rd 1 (.rd 2 .done))) ?_
 refine Zp 0 3 [(0,.as_ (zP b27 0) .at_),(1,.gen [zP b22 1])] [(0,[.prop (0≤(0:Int)∧(0:Int)<(5:Int)),.prop (Value.pointer (some (Addr.add ⟨b27,0,none⟩ (Int.toNat 0*1)))=Value.pointer (some ⟨b27,0,none⟩))]),(1,[.cell ⟨b27,0,none⟩ (zP b22 1)])] (ak (okp (by omega) (okp (ptrAdd _ _ _) ok0)) (ak (okc (hs28.cell 0 rfl (by kernel_rfl)) ok0) ak0)) ?_
 refine Zd (Zt ?_)
 refine Zqt (.rd 0 (.rd 1 (.ef 2 (.rd 3 (.rd 4 (.rd 5 (.ef 6 .done))))))) ?_
 refine Zr 0 2 [] ?_
 have hs31:St w0 ((Cel cc4 #[.slice az14 rr12.length cz15,.bool sp13] 124)::(Cel b27 #[zP b22 1,zP b22 2,zP b22 3,zP b22 4,zP b22 5] 73)::(Cel b22 (TSt.cells (⟨vv11,0,0,0,0,0,dOp,dBd,dPk,0,dRe,0,none,0,[]⟩:TSt)) 41)::(Sl ao5 co6 5 1 byteC b)::(Cel b1 (TSt.cells dSt) 41)::L) w30:=(hs28.pull 2 rfl)
 refine Zqa (f:=31) (args:=#[zP cc4 0]) Tryz.call31 (cutWord_spec (Sl ao5 co6 5 1 byteC b) rr12 sp13 (fun w h=>h.at_ 2 rfl) hq218 hs31) ?_
 rintro v41 w42 ⟨vv32,rr33,sp34,az35,cz36,rfl,he37,hwr38,hq239,hs40⟩
 refine⟨Zqo,?_⟩
 refine Zr 3 3 [] ?_
 refine Zw (b:=b22) (off:=1) (v:=.int .i64 (IntKind.i64.wrap (IntKind.u64.wrap (vv32-1)))) (ti:=Tryz.t3) (by kernel_rfl) hs40 2 (L':=(Cel cc4 #[.slice az35 rr33.length cz36,.bool sp34] 124)::(Cel b27 #[zP b22 1,zP b22 2,zP b22 3,zP b22 4,zP b22 5] 73)::(Cel b22 (TSt.cells (⟨vv11,IntKind.i64.wrap (IntKind.u64.wrap (vv32-1)),0,0,0,0,dOp,dBd,dPk,0,dRe,0,none,0,[]⟩:TSt)) 41)::(Sl ao5 co6 5 1 byteC b)::(Cel b1 (TSt.cells dSt) 41)::L) ?_
 intro w43 hs44
 refine⟨Zqo,?_⟩
 refine Zd (Zm (Zt ?_))
 refine Zqt (.rd 0 (.rd 1 .done)) ?_
 refine Zr 0 2 [] ?_
 refine Zd ?_
 refine GoQ.again ?_
 refine Zs ?_
 refine Zqt (.rd 0 .done) ?_
 refine Zr 0 1 [] ?_
 refine Zd (Zt (Zs (ZqT (Zk (Zt (Zs (Zb (Zs ?_))))))))
 refine Zqt (.rd 0 (.rd 1 (.rd 2 .done))) ?_
 refine Zp 0 3 [(0,.as_ (zP b27 1) .at_),(1,.gen [zP b22 2])] [(0,[.prop (0≤(1:Int)∧(1:Int)<(5:Int)),.prop (Value.pointer (some (Addr.add ⟨b27,0,none⟩ (Int.toNat 1*1)))=Value.pointer (some ⟨b27,1,none⟩))]),(1,[.cell ⟨b27,1,none⟩ (zP b22 2)])] (ak (okp (by omega) (okp (ptrAdd _ _ _) ok0)) (ak (okc (hs44.cell 1 rfl (by kernel_rfl)) ok0) ak0)) ?_
 refine Zd (Zt ?_)
 refine Zqt (.rd 0 (.rd 1 (.ef 2 (.rd 3 (.rd 4 (.rd 5 (.ef 6 .done))))))) ?_
 refine Zr 0 2 [] ?_
 refine Zqa (f:=31) (args:=#[zP cc4 0]) Tryz.call31 (cutWord_spec (Sl ao5 co6 5 1 byteC b) rr33 sp34 (fun w h=>h.at_ 2 rfl) hq239 hs44) ?_
 rintro v54 w55 ⟨vv45,rr46,sp47,az48,cz49,rfl,he50,hwr51,hq252,hs53⟩
 refine⟨Zqo,?_⟩
 refine Zr 3 3 [] ?_
 refine Zw (b:=b22) (off:=2) (v:=.int .i64 (IntKind.i64.wrap (IntKind.u64.wrap (vv45-1)))) (ti:=Tryz.t3) (by kernel_rfl) hs53 2 (L':=(Cel cc4 #[.slice az48 rr46.length cz49,.bool sp47] 124)::(Cel b27 #[zP b22 1,zP b22 2,zP b22 3,zP b22 4,zP b22 5] 73)::(Cel b22 (TSt.cells (⟨vv11,IntKind.i64.wrap (IntKind.u64.wrap (vv32-1)),IntKind.i64.wrap (IntKind.u64.wrap (vv45-1)),0,0,0,dOp,dBd,dPk,0,dRe,0,none,0,[]⟩:TSt)) 41)::(Sl ao5 co6 5 1 byteC b)::(Cel b1 (TSt.cells dSt) 41)::L) ?_
 intro w56 hs57
 refine⟨Zqo,?_⟩
 refine Zd (Zm (Zt ?_))
 refine Zqt (.rd 0 (.rd 1 .done)) ?_
 refine Zr 0 2 [] ?_
 refine Zd ?_
 refine GoQ.again ?_
 refine Zs ?_
 refine Zqt (.rd 0 .done) ?_
 refine Zr 0 1 [] ?_
 refine Zd (Zt (Zs (ZqT (Zk (Zt (Zs (Zb (Zs ?_))))))))
 refine Zqt (.rd 0 (.rd 1 (.rd 2 .done))) ?_
 refine Zp 0 3 [(0,.as_ (zP b27 2) .at_),(1,.gen [zP b22 3])] [(0,[.prop (0≤(2:Int)∧(2:Int)<(5:Int)),.prop (Value.pointer (some (Addr.add ⟨b27,0,none⟩ (Int.toNat 2*1)))=Value.pointer (some ⟨b27,2,none⟩))]),(1,[.cell ⟨b27,2,none⟩ (zP b22 3)])] (ak (okp (by omega) (okp (ptrAdd _ _ _) ok0)) (ak (okc (hs57.cell 1 rfl (by kernel_rfl)) ok0) ak0)) ?_
 refine Zd (Zt ?_)
 refine Zqt (.rd 0 (.rd 1 (.ef 2 (.rd 3 (.rd 4 (.rd 5 (.ef 6 .done))))))) ?_
 refine Zr 0 2 [] ?_
 refine Zqa (f:=31) (args:=#[zP cc4 0]) Tryz.call31 (cutWord_spec (Sl ao5 co6 5 1 byteC b) rr46 sp47 (fun w h=>h.at_ 2 rfl) hq252 hs57) ?_
 rintro v67 w68 ⟨vv58,rr59,sp60,az61,cz62,rfl,he63,hwr64,hq265,hs66⟩
 refine⟨Zqo,?_⟩
 refine Zr 3 3 [] ?_
 refine Zw (b:=b22) (off:=3) (v:=.int .i64 (IntKind.i64.wrap (IntKind.u64.wrap (vv58-1)))) (ti:=Tryz.t3) (by kernel_rfl) hs66 2 (L':=(Cel cc4 #[.slice az61 rr59.length cz62,.bool sp60] 124)::(Cel b27 #[zP b22 1,zP b22 2,zP b22 3,zP b22 4,zP b22 5] 73)::(Cel b22 (TSt.cells (⟨vv11,IntKind.i64.wrap (IntKind.u64.wrap (vv32-1)),IntKind.i64.wrap (IntKind.u64.wrap (vv45-1)),IntKind.i64.wrap (IntKind.u64.wrap (vv58-1)),0,0,dOp,dBd,dPk,0,dRe,0,none,0,[]⟩:TSt)) 41)::(Sl ao5 co6 5 1 byteC b)::(Cel b1 (TSt.cells dSt) 41)::L) ?_
 intro w69 hs70
 refine⟨Zqo,?_⟩
 refine Zd (Zm (Zt ?_))
 refine Zqt (.rd 0 (.rd 1 .done)) ?_
 refine Zr 0 2 [] ?_
 refine Zd ?_
 refine GoQ.again ?_
 refine Zs ?_
 refine Zqt (.rd 0 .done) ?_
 refine Zr 0 1 [] ?_
 refine Zd (Zt (Zs (ZqT (Zk (Zt (Zs (Zb (Zs ?_))))))))
 refine Zqt (.rd 0 (.rd 1 (.rd 2 .done))) ?_
 refine Zp 0 3 [(0,.as_ (zP b27 3) .at_),(1,.gen [zP b22 4])] [(0,[.prop (0≤(3:Int)∧(3:Int)<(5:Int)),.prop (Value.pointer (some (Addr.add ⟨b27,0,none⟩ (Int.toNat 3*1)))=Value.pointer (some ⟨b27,3,none⟩))]),(1,[.cell ⟨b27,3,none⟩ (zP b22 4)])] (ak (okp (by omega) (okp (ptrAdd _ _ _) ok0)) (ak (okc (hs70.cell 1 rfl (by kernel_rfl)) ok0) ak0)) ?_
 refine Zd (Zt ?_)
 refine Zqt (.rd 0 (.rd 1 (.ef 2 (.rd 3 (.rd 4 (.rd 5 (.ef 6 .done))))))) ?_
 refine Zr 0 2 [] ?_
 refine Zqa (f:=31) (args:=#[zP cc4 0]) Tryz.call31 (cutWord_spec (Sl ao5 co6 5 1 byteC b) rr59 sp60 (fun w h=>h.at_ 2 rfl) hq265 hs70) ?_
 rintro v80 w81 ⟨vv71,rr72,sp73,az74,cz75,rfl,he76,hwr77,hq278,hs79⟩
 refine⟨Zqo,?_⟩
 refine Zr 3 3 [] ?_
 refine Zw (b:=b22) (off:=4) (v:=.int .i64 (IntKind.i64.wrap (IntKind.u64.wrap (vv71-1)))) (ti:=Tryz.t3) (by kernel_rfl) hs79 2 (L':=(Cel cc4 #[.slice az74 rr72.length cz75,.bool sp73] 124)::(Cel b27 #[zP b22 1,zP b22 2,zP b22 3,zP b22 4,zP b22 5] 73)::(Cel b22 (TSt.cells (⟨vv11,IntKind.i64.wrap (IntKind.u64.wrap (vv32-1)),IntKind.i64.wrap (IntKind.u64.wrap (vv45-1)),IntKind.i64.wrap (IntKind.u64.wrap (vv58-1)),IntKind.i64.wrap (IntKind.u64.wrap (vv71-1)),0,dOp,dBd,dPk,0,dRe,0,none,0,[]⟩:TSt)) 41)::(Sl ao5 co6 5 1 byteC b)::(Cel b1 (TSt.cells dSt) 41)::L) ?_
 intro w82 hs83
 refine⟨Zqo,?_⟩
 refine Zd (Zm (Zt ?_))
 refine Zqt (.rd 0 (.rd 1 .done)) ?_
 refine Zr 0 2 [] ?_
 refine Zd ?_
 refine GoQ.again ?_
 refine Zs ?_
 refine Zqt (.rd 0 .done) ?_
 refine Zr 0 1 [] ?_
 refine Zd (Zt (Zs (ZqT (Zk (Zt (Zs (Zb (Zs ?_))))))))
 refine Zqt (.rd 0 (.rd 1 (.rd 2 .done))) ?_
 refine Zp 0 3 [(0,.as_ (zP b27 4) .at_),(1,.gen [zP b22 5])] [(0,[.prop (0≤(4:Int)∧(4:Int)<(5:Int)),.prop (Value.pointer (some (Addr.add ⟨b27,0,none⟩ (Int.toNat 4*1)))=Value.pointer (some ⟨b27,4,none⟩))]),(1,[.cell ⟨b27,4,none⟩ (zP b22 5)])] (ak (okp (by omega) (okp (ptrAdd _ _ _) ok0)) (ak (okc (hs83.cell 1 rfl (by kernel_rfl)) ok0) ak0)) ?_
 refine Zd (Zt ?_)
 refine Zqt (.rd 0 (.rd 1 (.ef 2 (.rd 3 (.rd 4 (.rd 5 (.ef 6 .done))))))) ?_
 refine Zr 0 2 [] ?_
 refine Zqa (f:=31) (args:=#[zP cc4 0]) Tryz.call31 (cutWord_spec (Sl ao5 co6 5 1 byteC b) rr72 sp73 (fun w h=>h.at_ 2 rfl) hq278 hs83) ?_
 rintro v93 w94 ⟨vv84,rr85,sp86,az87,cz88,rfl,he89,hwr90,hq291,hs92⟩
 refine⟨Zqo,?_⟩
 refine Zr 3 3 [] ?_
 refine Zw (b:=b22) (off:=5) (v:=.int .i64 (IntKind.i64.wrap (IntKind.u64.wrap (vv84-1)))) (ti:=Tryz.t3) (by kernel_rfl) hs92 2 (L':=(Cel cc4 #[.slice az87 rr85.length cz88,.bool sp86] 124)::(Cel b27 #[zP b22 1,zP b22 2,zP b22 3,zP b22 4,zP b22 5] 73)::(Cel b22 (TSt.cells (⟨vv11,IntKind.i64.wrap (IntKind.u64.wrap (vv32-1)),IntKind.i64.wrap (IntKind.u64.wrap (vv45-1)),IntKind.i64.wrap (IntKind.u64.wrap (vv58-1)),IntKind.i64.wrap (IntKind.u64.wrap (vv71-1)),IntKind.i64.wrap (IntKind.u64.wrap (vv84-1)),dOp,dBd,dPk,0,dRe,0,none,0,[]⟩:TSt)) 41)::(Sl ao5 co6 5 1 byteC b)::(Cel b1 (TSt.cells dSt) 41)::L) ?_
 intro w95 hs96
 refine⟨Zqo,?_⟩
 refine Zd (Zm (Zt ?_))
 refine Zqt (.rd 0 (.rd 1 .done)) ?_
 refine Zr 0 2 [] ?_
 refine Zd ?_
 refine GoQ.again ?_
 refine Zs ?_
 refine Zqt (.rd 0 .done) ?_
 refine Zr 0 1 [] ?_
 refine Zd (Zt (Zs (ZqF (Zx (GoQ.skipC (GoQ.skipL (GoQ.hit (Zt (Zs ?_)))))))))
 refine Zqt (.rd 0 (.ef 1 (.rd 2 (.ef 3 (.rd 4 (.rd 5 (.ef 6 (.rd 7 (.rd 8 (.ef 9 .done)))))))))) ?_
 refine Zr 0 1 [] ?_
 refine Zqa (f:=30) (args:=#[zP cc4 0]) Tryz.call30 (cutByte_spec (Sl ao5 co6 5 1 byteC b) rr85 sp86 (fun w h=>h.at_ 2 rfl) hq291 hs96) ?_
 rintro v106 w107 ⟨vv97,rr98,sp99,az100,cz101,rfl,he102,hby103,hq2104,hs105⟩
 refine⟨Zqo,?_⟩
 refine Zr 2 1 [] ?_
 refine Zqa (f:=31) (args:=#[zP cc4 0]) Tryz.call31 (cutWord_spec (Sl ao5 co6 5 1 byteC b) rr98 sp99 (fun w h=>h.at_ 2 rfl) hq2104 hs105) ?_
 rintro v117 w118 ⟨vv108,rr109,sp110,az111,cz112,rfl,he113,hwr114,hq2115,hs116⟩
 refine⟨Zqo,?_⟩
 refine Zr 4 2 [] ?_
 refine Zw (b:=b22) (off:=6) (v:=.int .u8 vv97) (ti:=Tryz.t5) (by kernel_rfl) hs116 2 (L':=(Cel cc4 #[.slice az111 rr109.length cz112,.bool sp110] 124)::(Cel b27 #[zP b22 1,zP b22 2,zP b22 3,zP b22 4,zP b22 5] 73)::(Cel b22 (TSt.cells (⟨vv11,IntKind.i64.wrap (IntKind.u64.wrap (vv32-1)),IntKind.i64.wrap (IntKind.u64.wrap (vv45-1)),IntKind.i64.wrap (IntKind.u64.wrap (vv58-1)),IntKind.i64.wrap (IntKind.u64.wrap (vv71-1)),IntKind.i64.wrap (IntKind.u64.wrap (vv84-1)),(⟨vv97,(⟨#[]⟩:ByteArray),(⟨#[]⟩:ByteArray),(⟨#[]⟩:ByteArray),(⟨#[]⟩:ByteArray),0⟩:TOp),dBd,dPk,0,dRe,0,none,0,[]⟩:TSt)) 41)::(Sl ao5 co6 5 1 byteC b)::(Cel b1 (TSt.cells dSt) 41)::L) ?_
 intro w119 hs120
 refine⟨Zqo,?_⟩
 refine Zr 7 2 [] ?_
 refine Zw (b:=b22) (off:=11) (v:=.int .u64 vv108) (ti:=Tryz.t22) (by kernel_rfl) hs120 2 (L':=(Cel cc4 #[.slice az111 rr109.length cz112,.bool sp110] 124)::(Cel b27 #[zP b22 1,zP b22 2,zP b22 3,zP b22 4,zP b22 5] 73)::(Cel b22 (TSt.cells (⟨vv11,IntKind.i64.wrap (IntKind.u64.wrap (vv32-1)),IntKind.i64.wrap (IntKind.u64.wrap (vv45-1)),IntKind.i64.wrap (IntKind.u64.wrap (vv58-1)),IntKind.i64.wrap (IntKind.u64.wrap (vv71-1)),IntKind.i64.wrap (IntKind.u64.wrap (vv84-1)),(⟨vv97,(⟨#[]⟩:ByteArray),(⟨#[]⟩:ByteArray),(⟨#[]⟩:ByteArray),(⟨#[]⟩:ByteArray),vv108⟩:TOp),dBd,dPk,0,dRe,0,none,0,[]⟩:TSt)) 41)::(Sl ao5 co6 5 1 byteC b)::(Cel b1 (TSt.cells dSt) 41)::L) ?_
 intro w121 hs122
 refine⟨Zqo,?_⟩
 refine Zd (Zt (Zs (Zs ?_)))
 refine Zqt (.rd 0 (.ef 1 (.rd 2 (.rd 3 .done)))) ?_
 refine Zr 0 1 [] ?_
 refine Zqa (f:=19) (args:=#[zP b22 6]) Tryz.call19 (texts_spec hs122) ?_
 rintro v125 w126 ⟨b123,rfl,hs124⟩
 refine⟨Zqo,?_⟩
 refine Zr 2 2 [] ?_
 refine Zd (Zt (Zb ?_))
 refine GoC.unroll 6 ?_
 refine Zs ?_
 refine Zqt (.rd 0 .done) ?_
 refine Zr 0 1 [] ?_
 refine Zd (Zt (Zs (ZqT (Zk (Zt (Zs (Zb (Zs ?_))))))))
 refine Zqt (.rd 0 (.rd 1 (.rd 2 .done))) ?_
 refine Zp 0 3 [(0,.as_ (zP b123 0) .at_),(1,.gen [zP b22 7])] [(0,[.prop (0≤(0:Int)∧(0:Int)<(4:Int)),.prop (Value.pointer (some (Addr.add ⟨b123,0,none⟩ (Int.toNat 0*1)))=Value.pointer (some ⟨b123,0,none⟩))]),(1,[.cell ⟨b123,0,none⟩ (zP b22 7)])] (ak (okp (by omega) (okp (ptrAdd _ _ _) ok0)) (ak (okc (RowsAt.at0 (hs124.rows 0 rfl (ptF).size ((0,0):Nat×Nat)) (k:=0) (by first|omega|(simp only [List.length_set];omega)|(simp only [List.length_set,lA,lC,lN];omega)) (j:=0) (by decide) (by kernel_rfl)) ok0) ak0)) ?_
 refine Zd (Zt ?_)
 refine Zqt (.rd 0 (.rd 1 (.ef 2 (.rd 3 (.ef 4 .done))))) ?_
 refine Zr 0 2 [] ?_
 have hs127:St w0 ((Cel cc4 #[.slice az111 rr109.length cz112,.bool sp110] 124)::(Sl (some ⟨b123,0,none⟩) 4 78 1 ptC ([((b22,7):Nat×Nat),((b22,8):Nat×Nat),((b22,9):Nat×Nat),((b22,10):Nat×Nat)]))::(Cel b27 #[zP b22 1,zP b22 2,zP b22 3,zP b22 4,zP b22 5] 73)::(Cel b22 (TSt.cells (⟨vv11,IntKind.i64.wrap (IntKind.u64.wrap (vv32-1)),IntKind.i64.wrap (IntKind.u64.wrap (vv45-1)),IntKind.i64.wrap (IntKind.u64.wrap (vv58-1)),IntKind.i64.wrap (IntKind.u64.wrap (vv71-1)),IntKind.i64.wrap (IntKind.u64.wrap (vv84-1)),(⟨vv97,(⟨#[]⟩:ByteArray),(⟨#[]⟩:ByteArray),(⟨#[]⟩:ByteArray),(⟨#[]⟩:ByteArray),vv108⟩:TOp),dBd,dPk,0,dRe,0,none,0,[]⟩:TSt)) 41)::(Sl ao5 co6 5 1 byteC b)::(Cel b1 (TSt.cells dSt) 41)::L) w126:=(hs124.pull 1 rfl)
 refine Zqa (f:=32) (args:=#[zP cc4 0,.int .i64 255]) Tryz.call32 (cutText_spec (Sl ao5 co6 5 1 byteC b) rr109 sp110 255 (fun w h=>h.at_ 3 rfl) hq2115 hs127) ?_
 rintro v136 w137 ⟨ss128,rr129,sp130,az131,cz132,rfl,he133,hq2134,hs135⟩
 refine⟨Zqo,?_⟩
 refine Zr 3 1 [] ?_
 refine Zw (b:=b22) (off:=7) (v:=.string ss128) (ti:=Tryz.t9) (by kernel_rfl) hs135 3 (L':=(Cel cc4 #[.slice az131 rr129.length cz132,.bool sp130] 124)::(Sl (some ⟨b123,0,none⟩) 4 78 1 ptC ([((b22,7):Nat×Nat),((b22,8):Nat×Nat),((b22,9):Nat×Nat),((b22,10):Nat×Nat)]))::(Cel b27 #[zP b22 1,zP b22 2,zP b22 3,zP b22 4,zP b22 5] 73)::(Cel b22 (TSt.cells (⟨vv11,IntKind.i64.wrap (IntKind.u64.wrap (vv32-1)),IntKind.i64.wrap (IntKind.u64.wrap (vv45-1)),IntKind.i64.wrap (IntKind.u64.wrap (vv58-1)),IntKind.i64.wrap (IntKind.u64.wrap (vv71-1)),IntKind.i64.wrap (IntKind.u64.wrap (vv84-1)),(⟨vv97,ss128,(⟨#[]⟩:ByteArray),(⟨#[]⟩:ByteArray),(⟨#[]⟩:ByteArray),vv108⟩:TOp),dBd,dPk,0,dRe,0,none,0,[]⟩:TSt)) 41)::(Sl ao5 co6 5 1 byteC b)::(Cel b1 (TSt.cells dSt) 41)::L) ?_
 intro w138 hs139
 refine⟨Zqo,?_⟩
 refine Zd (Zm (Zt ?_))
 refine Zqt (.rd 0 (.rd 1 .done)) ?_
 refine Zr 0 2 [] ?_
 refine Zd ?_
 refine GoQ.again ?_
 refine Zs ?_
 refine Zqt (.rd 0 .done) ?_
 refine Zr 0 1 [] ?_
 refine Zd (Zt (Zs (ZqT (Zk (Zt (Zs (Zb (Zs ?_))))))))
 refine Zqt (.rd 0 (.rd 1 (.rd 2 .done))) ?_
 refine Zp 0 3 [(0,.as_ (zP b123 1) .at_),(1,.gen [zP b22 8])] [(0,[.prop (0≤(1:Int)∧(1:Int)<(4:Int)),.prop (Value.pointer (some (Addr.add ⟨b123,0,none⟩ (Int.toNat 1*1)))=Value.pointer (some ⟨b123,1,none⟩))]),(1,[.cell ⟨b123,1,none⟩ (zP b22 8)])] (ak (okp (by omega) (okp (ptrAdd _ _ _) ok0)) (ak (okc (RowsAt.at0 (hs139.rows 1 rfl (ptF).size ((0,0):Nat×Nat)) (k:=1) (by first|omega|(simp only [List.length_set];omega)|(simp only [List.length_set,lA,lC,lN];omega)) (j:=0) (by decide) (by kernel_rfl)) ok0) ak0)) ?_
 refine Zd (Zt ?_)
 refine Zqt (.rd 0 (.rd 1 (.ef 2 (.rd 3 (.ef 4 .done))))) ?_
 refine Zr 0 2 [] ?_
 refine Zqa (f:=32) (args:=#[zP cc4 0,.int .i64 255]) Tryz.call32 (cutText_spec (Sl ao5 co6 5 1 byteC b) rr129 sp130 255 (fun w h=>h.at_ 3 rfl) hq2134 hs139) ?_
 rintro v148 w149 ⟨ss140,rr141,sp142,az143,cz144,rfl,he145,hq2146,hs147⟩
 refine⟨Zqo,?_⟩
 refine Zr 3 1 [] ?_
 refine Zw (b:=b22) (off:=8) (v:=.string ss140) (ti:=Tryz.t9) (by kernel_rfl) hs147 3 (L':=(Cel cc4 #[.slice az143 rr141.length cz144,.bool sp142] 124)::(Sl (some ⟨b123,0,none⟩) 4 78 1 ptC ([((b22,7):Nat×Nat),((b22,8):Nat×Nat),((b22,9):Nat×Nat),((b22,10):Nat×Nat)]))::(Cel b27 #[zP b22 1,zP b22 2,zP b22 3,zP b22 4,zP b22 5] 73)::(Cel b22 (TSt.cells (⟨vv11,IntKind.i64.wrap (IntKind.u64.wrap (vv32-1)),IntKind.i64.wrap (IntKind.u64.wrap (vv45-1)),IntKind.i64.wrap (IntKind.u64.wrap (vv58-1)),IntKind.i64.wrap (IntKind.u64.wrap (vv71-1)),IntKind.i64.wrap (IntKind.u64.wrap (vv84-1)),(⟨vv97,ss128,ss140,(⟨#[]⟩:ByteArray),(⟨#[]⟩:ByteArray),vv108⟩:TOp),dBd,dPk,0,dRe,0,none,0,[]⟩:TSt)) 41)::(Sl ao5 co6 5 1 byteC b)::(Cel b1 (TSt.cells dSt) 41)::L) ?_
 intro w150 hs151
 refine⟨Zqo,?_⟩
 refine Zd (Zm (Zt ?_))
 refine Zqt (.rd 0 (.rd 1 .done)) ?_
 refine Zr 0 2 [] ?_
 refine Zd ?_
 refine GoQ.again ?_
 refine Zs ?_
 refine Zqt (.rd 0 .done) ?_
 refine Zr 0 1 [] ?_
 refine Zd (Zt (Zs (ZqT (Zk (Zt (Zs (Zb (Zs ?_))))))))
 refine Zqt (.rd 0 (.rd 1 (.rd 2 .done))) ?_
 refine Zp 0 3 [(0,.as_ (zP b123 2) .at_),(1,.gen [zP b22 9])] [(0,[.prop (0≤(2:Int)∧(2:Int)<(4:Int)),.prop (Value.pointer (some (Addr.add ⟨b123,0,none⟩ (Int.toNat 2*1)))=Value.pointer (some ⟨b123,2,none⟩))]),(1,[.cell ⟨b123,2,none⟩ (zP b22 9)])] (ak (okp (by omega) (okp (ptrAdd _ _ _) ok0)) (ak (okc (RowsAt.at0 (hs151.rows 1 rfl (ptF).size ((0,0):Nat×Nat)) (k:=2) (by first|omega|(simp only [List.length_set];omega)|(simp only [List.length_set,lA,lC,lN];omega)) (j:=0) (by decide) (by kernel_rfl)) ok0) ak0)) ?_
 refine Zd (Zt ?_)
 refine Zqt (.rd 0 (.rd 1 (.ef 2 (.rd 3 (.ef 4 .done))))) ?_
 refine Zr 0 2 [] ?_
 refine Zqa (f:=32) (args:=#[zP cc4 0,.int .i64 255]) Tryz.call32 (cutText_spec (Sl ao5 co6 5 1 byteC b) rr141 sp142 255 (fun w h=>h.at_ 3 rfl) hq2146 hs151) ?_
 rintro v160 w161 ⟨ss152,rr153,sp154,az155,cz156,rfl,he157,hq2158,hs159⟩
 refine⟨Zqo,?_⟩
 refine Zr 3 1 [] ?_
 refine Zw (b:=b22) (off:=9) (v:=.string ss152) (ti:=Tryz.t9) (by kernel_rfl) hs159 3 (L':=(Cel cc4 #[.slice az155 rr153.length cz156,.bool sp154] 124)::(Sl (some ⟨b123,0,none⟩) 4 78 1 ptC ([((b22,7):Nat×Nat),((b22,8):Nat×Nat),((b22,9):Nat×Nat),((b22,10):Nat×Nat)]))::(Cel b27 #[zP b22 1,zP b22 2,zP b22 3,zP b22 4,zP b22 5] 73)::(Cel b22 (TSt.cells (⟨vv11,IntKind.i64.wrap (IntKind.u64.wrap (vv32-1)),IntKind.i64.wrap (IntKind.u64.wrap (vv45-1)),IntKind.i64.wrap (IntKind.u64.wrap (vv58-1)),IntKind.i64.wrap (IntKind.u64.wrap (vv71-1)),IntKind.i64.wrap (IntKind.u64.wrap (vv84-1)),(⟨vv97,ss128,ss140,ss152,(⟨#[]⟩:ByteArray),vv108⟩:TOp),dBd,dPk,0,dRe,0,none,0,[]⟩:TSt)) 41)::(Sl ao5 co6 5 1 byteC b)::(Cel b1 (TSt.cells dSt) 41)::L) ?_
 intro w162 hs163
 refine⟨Zqo,?_⟩
 refine Zd (Zm (Zt ?_))
 refine Zqt (.rd 0 (.rd 1 .done)) ?_
 refine Zr 0 2 [] ?_
 refine Zd ?_
 refine GoQ.again ?_
 refine Zs ?_
 refine Zqt (.rd 0 .done) ?_
 refine Zr 0 1 [] ?_
 refine Zd (Zt (Zs (ZqT (Zk (Zt (Zs (Zb (Zs ?_))))))))
 refine Zqt (.rd 0 (.rd 1 (.rd 2 .done))) ?_
 refine Zp 0 3 [(0,.as_ (zP b123 3) .at_),(1,.gen [zP b22 10])] [(0,[.prop (0≤(3:Int)∧(3:Int)<(4:Int)),.prop (Value.pointer (some (Addr.add ⟨b123,0,none⟩ (Int.toNat 3*1)))=Value.pointer (some ⟨b123,3,none⟩))]),(1,[.cell ⟨b123,3,none⟩ (zP b22 10)])] (ak (okp (by omega) (okp (ptrAdd _ _ _) ok0)) (ak (okc (RowsAt.at0 (hs163.rows 1 rfl (ptF).size ((0,0):Nat×Nat)) (k:=3) (by first|omega|(simp only [List.length_set];omega)|(simp only [List.length_set,lA,lC,lN];omega)) (j:=0) (by decide) (by kernel_rfl)) ok0) ak0)) ?_
 refine Zd (Zt ?_)
 refine Zqt (.rd 0 (.rd 1 (.ef 2 (.rd 3 (.ef 4 .done))))) ?_
 refine Zr 0 2 [] ?_
 refine Zqa (f:=32) (args:=#[zP cc4 0,.int .i64 255]) Tryz.call32 (cutText_spec (Sl ao5 co6 5 1 byteC b) rr153 sp154 255 (fun w h=>h.at_ 3 rfl) hq2158 hs163) ?_
 rintro v172 w173 ⟨ss164,rr165,sp166,az167,cz168,rfl,he169,hq2170,hs171⟩
 refine⟨Zqo,?_⟩
 refine Zr 3 1 [] ?_
 refine Zw (b:=b22) (off:=10) (v:=.string ss164) (ti:=Tryz.t9) (by kernel_rfl) hs171 3 (L':=(Cel cc4 #[.slice az167 rr165.length cz168,.bool sp166] 124)::(Sl (some ⟨b123,0,none⟩) 4 78 1 ptC ([((b22,7):Nat×Nat),((b22,8):Nat×Nat),((b22,9):Nat×Nat),((b22,10):Nat×Nat)]))::(Cel b27 #[zP b22 1,zP b22 2,zP b22 3,zP b22 4,zP b22 5] 73)::(Cel b22 (TSt.cells (⟨vv11,IntKind.i64.wrap (IntKind.u64.wrap (vv32-1)),IntKind.i64.wrap (IntKind.u64.wrap (vv45-1)),IntKind.i64.wrap (IntKind.u64.wrap (vv58-1)),IntKind.i64.wrap (IntKind.u64.wrap (vv71-1)),IntKind.i64.wrap (IntKind.u64.wrap (vv84-1)),(⟨vv97,ss128,ss140,ss152,ss164,vv108⟩:TOp),dBd,dPk,0,dRe,0,none,0,[]⟩:TSt)) 41)::(Sl ao5 co6 5 1 byteC b)::(Cel b1 (TSt.cells dSt) 41)::L) ?_
 intro w174 hs175
 refine⟨Zqo,?_⟩
 refine Zd (Zm (Zt ?_))
 refine Zqt (.rd 0 (.rd 1 .done)) ?_
 refine Zr 0 2 [] ?_
 refine Zd ?_
 refine GoQ.again ?_
 refine Zs ?_
 refine Zqt (.rd 0 .done) ?_
 refine Zr 0 1 [] ?_
 refine Zd (Zt (Zs (ZqF (Zx (GoQ.skipC (GoQ.skipL (GoQ.hit (Zt (Zs ?_)))))))))
 refine Zqt (.rd 0 (.ef 1 (.rd 2 (.ef 3 (.rd 4 (.ef 5 (.rd 6 (.ef 7 .done)))))))) ?_
 refine Zr 0 1 [] ?_
 refine Zqa (f:=31) (args:=#[zP cc4 0]) Tryz.call31 (cutWord_spec (Sl ao5 co6 5 1 byteC b) rr165 sp166 (fun w h=>h.at_ 3 rfl) hq2170 hs175) ?_
 rintro v185 w186 ⟨vv176,rr177,sp178,az179,cz180,rfl,he181,hwr182,hq2183,hs184⟩
 refine⟨Zqo,?_⟩
 refine Zr 2 1 [] ?_
 refine Zqa (f:=31) (args:=#[zP cc4 0]) Tryz.call31 (cutWord_spec (Sl ao5 co6 5 1 byteC b) rr177 sp178 (fun w h=>h.at_ 3 rfl) hq2183 hs184) ?_
 rintro v196 w197 ⟨vv187,rr188,sp189,az190,cz191,rfl,he192,hwr193,hq2194,hs195⟩
 refine⟨Zqo,?_⟩
 refine Zr 4 1 [] ?_
 refine Zw (b:=b22) (off:=102) (v:=.int .u64 vv176) (ti:=Tryz.t22) (by kernel_rfl) hs195 3 (L':=(Cel cc4 #[.slice az190 rr188.length cz191,.bool sp189] 124)::(Sl (some ⟨b123,0,none⟩) 4 78 1 ptC ([((b22,7):Nat×Nat),((b22,8):Nat×Nat),((b22,9):Nat×Nat),((b22,10):Nat×Nat)]))::(Cel b27 #[zP b22 1,zP b22 2,zP b22 3,zP b22 4,zP b22 5] 73)::(Cel b22 (TSt.cells (⟨vv11,IntKind.i64.wrap (IntKind.u64.wrap (vv32-1)),IntKind.i64.wrap (IntKind.u64.wrap (vv45-1)),IntKind.i64.wrap (IntKind.u64.wrap (vv58-1)),IntKind.i64.wrap (IntKind.u64.wrap (vv71-1)),IntKind.i64.wrap (IntKind.u64.wrap (vv84-1)),(⟨vv97,ss128,ss140,ss152,ss164,vv108⟩:TOp),dBd,dPk,vv176,dRe,0,none,0,[]⟩:TSt)) 41)::(Sl ao5 co6 5 1 byteC b)::(Cel b1 (TSt.cells dSt) 41)::L) ?_
 intro w198 hs199
 refine⟨Zqo,?_⟩
 refine Zr 6 1 [] ?_
 refine Zw (b:=b22) (off:=105) (v:=.int .u64 vv187) (ti:=Tryz.t22) (by kernel_rfl) hs199 3 (L':=(Cel cc4 #[.slice az190 rr188.length cz191,.bool sp189] 124)::(Sl (some ⟨b123,0,none⟩) 4 78 1 ptC ([((b22,7):Nat×Nat),((b22,8):Nat×Nat),((b22,9):Nat×Nat),((b22,10):Nat×Nat)]))::(Cel b27 #[zP b22 1,zP b22 2,zP b22 3,zP b22 4,zP b22 5] 73)::(Cel b22 (TSt.cells (⟨vv11,IntKind.i64.wrap (IntKind.u64.wrap (vv32-1)),IntKind.i64.wrap (IntKind.u64.wrap (vv45-1)),IntKind.i64.wrap (IntKind.u64.wrap (vv58-1)),IntKind.i64.wrap (IntKind.u64.wrap (vv71-1)),IntKind.i64.wrap (IntKind.u64.wrap (vv84-1)),(⟨vv97,ss128,ss140,ss152,ss164,vv108⟩:TOp),dBd,dPk,vv176,dRe,vv187,none,0,[]⟩:TSt)) 41)::(Sl ao5 co6 5 1 byteC b)::(Cel b1 (TSt.cells dSt) 41)::L) ?_
 intro w200 hs201
 refine⟨Zqo,?_⟩
 refine Zd (Zt (Zs ?_))
 refine Zqt (.rd 0 (.ef 1 (.rd 2 (.rd 3 (.ef 4 (.rd 5 (.rd 6 (.ef 7 (.rd 8 (.rd 9 (.ef 10 .done))))))))))) ?_
 refine Zr 0 1 [] ?_
 refine Zqa (f:=30) (args:=#[zP cc4 0]) Tryz.call30 (cutByte_spec (Sl ao5 co6 5 1 byteC b) rr188 sp189 (fun w h=>h.at_ 3 rfl) hq2194 hs201) ?_
 rintro v211 w212 ⟨vv202,rr203,sp204,az205,cz206,rfl,he207,hby208,hq2209,hs210⟩
 refine⟨Zqo,?_⟩
 refine Zp 2 2 [(2,.as_ (.int .i64 vv202) (.gen []))] [(2,[.prop (Value.int .i64 (IntKind.i64.wrap vv202)=Value.int .i64 vv202)])] (ak (okp (i64ok (by omega) (by omega)) ok0) ak0) ?_
 refine Zqa (f:=32) (args:=#[zP cc4 0,.int .i64 255]) Tryz.call32 (cutText_spec (Sl ao5 co6 5 1 byteC b) rr203 sp204 255 (fun w h=>h.at_ 3 rfl) hq2209 hs210) ?_
 rintro v221 w222 ⟨ss213,rr214,sp215,az216,cz217,rfl,he218,hq2219,hs220⟩
 refine⟨Zqo,?_⟩
 refine Zr 5 2 [] ?_
 refine Zw (b:=b22) (off:=103) (v:=.int .i64 vv202) (ti:=Tryz.t36) (by kernel_rfl) hs220 3 (L':=(Cel cc4 #[.slice az216 rr214.length cz217,.bool sp215] 124)::(Sl (some ⟨b123,0,none⟩) 4 78 1 ptC ([((b22,7):Nat×Nat),((b22,8):Nat×Nat),((b22,9):Nat×Nat),((b22,10):Nat×Nat)]))::(Cel b27 #[zP b22 1,zP b22 2,zP b22 3,zP b22 4,zP b22 5] 73)::(Cel b22 (TSt.cells (⟨vv11,IntKind.i64.wrap (IntKind.u64.wrap (vv32-1)),IntKind.i64.wrap (IntKind.u64.wrap (vv45-1)),IntKind.i64.wrap (IntKind.u64.wrap (vv58-1)),IntKind.i64.wrap (IntKind.u64.wrap (vv71-1)),IntKind.i64.wrap (IntKind.u64.wrap (vv84-1)),(⟨vv97,ss128,ss140,ss152,ss164,vv108⟩:TOp),dBd,dPk,vv176,(⟨vv202,(⟨#[]⟩:ByteArray)⟩:TRe),vv187,none,0,[]⟩:TSt)) 41)::(Sl ao5 co6 5 1 byteC b)::(Cel b1 (TSt.cells dSt) 41)::L) ?_
 intro w223 hs224
 refine⟨Zqo,?_⟩
 refine Zr 8 2 [] ?_
 refine Zw (b:=b22) (off:=104) (v:=.string ss213) (ti:=Tryz.t9) (by kernel_rfl) hs224 3 (L':=(Cel cc4 #[.slice az216 rr214.length cz217,.bool sp215] 124)::(Sl (some ⟨b123,0,none⟩) 4 78 1 ptC ([((b22,7):Nat×Nat),((b22,8):Nat×Nat),((b22,9):Nat×Nat),((b22,10):Nat×Nat)]))::(Cel b27 #[zP b22 1,zP b22 2,zP b22 3,zP b22 4,zP b22 5] 73)::(Cel b22 (TSt.cells (⟨vv11,IntKind.i64.wrap (IntKind.u64.wrap (vv32-1)),IntKind.i64.wrap (IntKind.u64.wrap (vv45-1)),IntKind.i64.wrap (IntKind.u64.wrap (vv58-1)),IntKind.i64.wrap (IntKind.u64.wrap (vv71-1)),IntKind.i64.wrap (IntKind.u64.wrap (vv84-1)),(⟨vv97,ss128,ss140,ss152,ss164,vv108⟩:TOp),dBd,dPk,vv176,(⟨vv202,ss213⟩:TRe),vv187,none,0,[]⟩:TSt)) 41)::(Sl ao5 co6 5 1 byteC b)::(Cel b1 (TSt.cells dSt) 41)::L) ?_
 intro w225 hs226
 refine⟨Zqo,?_⟩
 refine Zd (Zt (Zs ?_))
 refine Zqt (.rd 0 (.rd 1 (.ef 2 (.rd 3 (.ef 4 (.rd 5 (.ef 6 .done))))))) ?_
 refine Zr 0 2 [] ?_
 refine Zqa (f:=30) (args:=#[zP cc4 0]) Tryz.call30 (cutByteN_spec (Sl ao5 co6 5 1 byteC b) rr214 sp215 (fun w h=>h.at_ 3 rfl) hq2219 hs226) ?_
 rintro v235 w236 ⟨nn227,rr228,sp229,az230,cz231,rfl,he232,hq2233,hs234⟩
 refine⟨Zqo,?_⟩
 refine Zp 3 1 [(3,.as_ (.int .i64 (nn227:Nat)) (.gen []))] [(3,[.prop (Value.int .i64 (IntKind.i64.wrap (nn227:Nat))=Value.int .i64 (nn227:Nat))])] (ak (okp (i64ok (by omega) (by omega)) ok0) ak0) ?_
 refine Zqa (f:=33) (args:=#[zP cc4 0,.int .i64 (nn227:Nat)]) Tryz.call33 (cutRaw_spec (Sl ao5 co6 5 1 byteC b) rr228 sp229 nn227 (fun w h=>h.at_ 3 rfl) hq2233 hs234) ?_
 rintro v247 w248 ⟨ao237,co238,ll239,rr240,sp241,az242,cz243,rfl,he244,hq2245,hs246⟩
 refine⟨Zqo,?_⟩
 refine Zr 5 1 [] ?_
 refine Zw (b:=b22) (off:=106) (v:=.slice ao237 ll239.length co238) (ti:=Tryz.t39) (by kernel_rfl) hs246 4 (L':=(Sl ao237 co238 5 1 byteC ll239)::(Cel cc4 #[.slice az242 rr240.length cz243,.bool sp241] 124)::(Sl (some ⟨b123,0,none⟩) 4 78 1 ptC ([((b22,7):Nat×Nat),((b22,8):Nat×Nat),((b22,9):Nat×Nat),((b22,10):Nat×Nat)]))::(Cel b27 #[zP b22 1,zP b22 2,zP b22 3,zP b22 4,zP b22 5] 73)::(Cel b22 (TSt.cells (⟨vv11,IntKind.i64.wrap (IntKind.u64.wrap (vv32-1)),IntKind.i64.wrap (IntKind.u64.wrap (vv45-1)),IntKind.i64.wrap (IntKind.u64.wrap (vv58-1)),IntKind.i64.wrap (IntKind.u64.wrap (vv71-1)),IntKind.i64.wrap (IntKind.u64.wrap (vv84-1)),(⟨vv97,ss128,ss140,ss152,ss164,vv108⟩:TOp),dBd,dPk,vv176,(⟨vv202,ss213⟩:TRe),vv187,ao237,co238,ll239⟩:TSt)) 41)::(Sl ao5 co6 5 1 byteC b)::(Cel b1 (TSt.cells dSt) 41)::L) ?_
 intro w249 hs250
 refine⟨Zqo,?_⟩
 refine Zd (Zt (Zs ?_))
 refine Zqt (.rd 0 .done) ?_
 refine Zr 0 1 [] ?_
 refine Zd (Zt (Zs (Zs ?_)))
 have hh:hdP b=⟨(⟨vv11,IntKind.i64.wrap (IntKind.u64.wrap (vv32-1)),IntKind.i64.wrap (IntKind.u64.wrap (vv45-1)),IntKind.i64.wrap (IntKind.u64.wrap (vv58-1)),IntKind.i64.wrap (IntKind.u64.wrap (vv71-1)),IntKind.i64.wrap (IntKind.u64.wrap (vv84-1)),(⟨vv97,ss128,ss140,ss152,ss164,vv108⟩:TOp),dBd,dPk,vv176,(⟨vv202,ss213⟩:TRe),vv187,none,0,ll239⟩:TSt),(rr240,sp241)⟩:=by
  unfold hdP
  simp only [he16,he37,he50,he63,he76,he89,he102,he113,he133,he145,he157,he169,he181,he192,he207,he218,he232.1,he244,Int.toNat_natCast]
  rfl
 refine Zqt (.rd 0 (.rd 1 .done)) ?_
 refine Zp 0 2 [(1,.gen [.int .u8 vv11])] [(1,[.cell ⟨b22,0,none⟩ (.int .u8 vv11)])] (ak (okc (hs250.cell 4 rfl (by kernel_rfl)) ok0) ak0) ?_
 refine Zd (Zt ?_)
 refine GoC.join (T:=TSt×(List Int)×Bool×(Option Addr)×Nat×Bool) (E:=fun gg=>[(0,.slice ad b.length cb),(2,zP b1 0),(3,.int .i64 0),(4,zP cc4 0),(5,zP b22 0),(10,.bool gg.2.2.2.2.2)]) (F:=fun gg w=>(StOK gg.1∧(∀ m∈gg.1.pk.ml,MsOK m)∧tlP (hdP b)=(conS gg.1,(gg.2.2.2.2.2,(gg.2.1,gg.2.2.1)))∧CutOK (Sl ao5 co6 5 1 byteC b) gg.2.2.2.1 gg.2.1 gg.2.2.2.2.1)∧St w0 ((Sl gg.1.pa gg.1.pc 5 1 byteC gg.1.pl)::(Sl gg.1.bd.qa gg.1.bd.qc 205 2 TPr.cells gg.1.bd.ql)::(Sl gg.1.pk.ma gg.1.pk.mc 58 121 TMs.cells gg.1.pk.ml)::(QS gg.1.pk.ml)::(Cel b22 (TSt.cells gg.1) 41)::(Cel cc4 #[.slice gg.2.2.2.1 gg.2.1.length gg.2.2.2.2.1,.bool gg.2.2.1] 124)::(Sl ao5 co6 5 1 byteC b)::(Cel b1 (TSt.cells dSt) 41)::L) w) ?_ ?_
 ·refine Zb (Zs ?_)
  refine Zqt (.rd 0 (.rd 1 .done)) ?_
  refine Zr 0 2 [] ?_
  refine Zd (Zt ?_)
  refine Zqc (t:=(vv11:Int) == 14) (fun h251=>?_) (fun h251=>?_)
  ·have h251':(vv11:Int)=14:=ieqT h251
   refine Zs ?_
   refine Zqt (.rd 0 (.ef 1 (.rd 2 (.rd 3 (.rd 4 (.ef 5 (.ef 6 (.rd 7 .done)))))))) ?_
   refine Zr 0 1 [] ?_
   have hs252:St w0 ((Cel cc4 #[.slice az242 rr240.length cz243,.bool sp241] 124)::(Sl ao237 co238 5 1 byteC ll239)::(Sl (some ⟨b123,0,none⟩) 4 78 1 ptC ([((b22,7):Nat×Nat),((b22,8):Nat×Nat),((b22,9):Nat×Nat),((b22,10):Nat×Nat)]))::(Cel b27 #[zP b22 1,zP b22 2,zP b22 3,zP b22 4,zP b22 5] 73)::(Cel b22 (TSt.cells (⟨vv11,IntKind.i64.wrap (IntKind.u64.wrap (vv32-1)),IntKind.i64.wrap (IntKind.u64.wrap (vv45-1)),IntKind.i64.wrap (IntKind.u64.wrap (vv58-1)),IntKind.i64.wrap (IntKind.u64.wrap (vv71-1)),IntKind.i64.wrap (IntKind.u64.wrap (vv84-1)),(⟨vv97,ss128,ss140,ss152,ss164,vv108⟩:TOp),dBd,dPk,vv176,(⟨vv202,ss213⟩:TRe),vv187,ao237,co238,ll239⟩:TSt)) 41)::(Sl ao5 co6 5 1 byteC b)::(Cel b1 (TSt.cells dSt) 41)::L) w249:=(hs250.pull 1 rfl)
   refine Zqa (f:=34) (args:=#[zP cc4 0]) Tryz.call34 (carried_spec (Sl ao5 co6 5 1 byteC b) rr240 sp241 (fun w h=>h.at_ 4 rfl) hq2245 hs252) ?_
   rintro v263 w264 ⟨mm253,bb254,rr255,sp256,az257,cz258,rfl,he259,hok260,hq2261,hs262⟩
   refine⟨Zqo,?_⟩
   refine Zr 2 3 [] ?_
   refine GoR.alloc rfl rfl (by kernel_rfl) (z:=.agg (TMs.cells dMs)) (by kernel_rfl) hs262 (cs:=TMs.cells dMs) (by kernel_rfl) ?_
   intro b265 w266 hs267
   refine⟨Zqo,?_⟩
   refine Zw (b:=b265) (off:=0) (v:=.agg (TMs.cells mm253)) (ti:=Tryz.t58) (by kernel_rfl) hs267 0 (L':=(Cel b265 (TMs.cells mm253) 58)::(Sl mm253.bd.qa mm253.bd.qc 205 2 TPr.cells mm253.bd.ql)::(Cel cc4 #[.slice az257 rr255.length cz258,.bool sp256] 124)::(Sl ao237 co238 5 1 byteC ll239)::(Sl (some ⟨b123,0,none⟩) 4 78 1 ptC ([((b22,7):Nat×Nat),((b22,8):Nat×Nat),((b22,9):Nat×Nat),((b22,10):Nat×Nat)]))::(Cel b27 #[zP b22 1,zP b22 2,zP b22 3,zP b22 4,zP b22 5] 73)::(Cel b22 (TSt.cells (⟨vv11,IntKind.i64.wrap (IntKind.u64.wrap (vv32-1)),IntKind.i64.wrap (IntKind.u64.wrap (vv45-1)),IntKind.i64.wrap (IntKind.u64.wrap (vv58-1)),IntKind.i64.wrap (IntKind.u64.wrap (vv71-1)),IntKind.i64.wrap (IntKind.u64.wrap (vv84-1)),(⟨vv97,ss128,ss140,ss152,ss164,vv108⟩:TOp),dBd,dPk,vv176,(⟨vv202,ss213⟩:TRe),vv187,ao237,co238,ll239⟩:TSt)) 41)::(Sl ao5 co6 5 1 byteC b)::(Cel b1 (TSt.cells dSt) 41)::L) ?_
   intro w268 hs269
   refine⟨Zqo,?_⟩
   refine Zr 7 1 [] ?_
   refine Zd (Zt ?_)
   refine Zqt (.rd 0 (.rd 1 (.rd 2 (.rd 3 (.ef 4 (.rd 5 .done)))))) ?_
   refine Zp 0 4 [(1,.agg (TBd.cells mm253.bd))] [(1,[.prop (Array.size (TBd.cells mm253.bd)=76),.cells ⟨b265,13,none⟩ (TBd.cells mm253.bd)])] (ak (okp (by kernel_rfl) (oka (hs269.cells 0 13 rfl (by kernel_rfl)) ok0)) ak0) ?_
   refine Zw (b:=b22) (off:=12) (v:=.agg (TBd.cells mm253.bd)) (ti:=Tryz.t30) (by kernel_rfl) hs269 6 (L':=(Cel b265 (TMs.cells mm253) 58)::(Sl mm253.bd.qa mm253.bd.qc 205 2 TPr.cells mm253.bd.ql)::(Cel cc4 #[.slice az257 rr255.length cz258,.bool sp256] 124)::(Sl ao237 co238 5 1 byteC ll239)::(Sl (some ⟨b123,0,none⟩) 4 78 1 ptC ([((b22,7):Nat×Nat),((b22,8):Nat×Nat),((b22,9):Nat×Nat),((b22,10):Nat×Nat)]))::(Cel b27 #[zP b22 1,zP b22 2,zP b22 3,zP b22 4,zP b22 5] 73)::(Cel b22 (TSt.cells (⟨vv11,IntKind.i64.wrap (IntKind.u64.wrap (vv32-1)),IntKind.i64.wrap (IntKind.u64.wrap (vv45-1)),IntKind.i64.wrap (IntKind.u64.wrap (vv58-1)),IntKind.i64.wrap (IntKind.u64.wrap (vv71-1)),IntKind.i64.wrap (IntKind.u64.wrap (vv84-1)),(⟨vv97,ss128,ss140,ss152,ss164,vv108⟩:TOp),mm253.bd,dPk,vv176,(⟨vv202,ss213⟩:TRe),vv187,ao237,co238,ll239⟩:TSt)) 41)::(Sl ao5 co6 5 1 byteC b)::(Cel b1 (TSt.cells dSt) 41)::L) ?_
   intro w270 hs271
   refine⟨Zqo,?_⟩
   refine Zr 5 1 [] ?_
   refine Zd (Zm ?_)
   have hs272:St w0 ((Sl none 0 58 121 TMs.cells ([]:List TMs))::(Cel b265 (TMs.cells mm253) 58)::(Sl mm253.bd.qa mm253.bd.qc 205 2 TPr.cells mm253.bd.ql)::(Cel cc4 #[.slice az257 rr255.length cz258,.bool sp256] 124)::(Sl ao237 co238 5 1 byteC ll239)::(Sl (some ⟨b123,0,none⟩) 4 78 1 ptC ([((b22,7):Nat×Nat),((b22,8):Nat×Nat),((b22,9):Nat×Nat),((b22,10):Nat×Nat)]))::(Cel b27 #[zP b22 1,zP b22 2,zP b22 3,zP b22 4,zP b22 5] 73)::(Cel b22 (TSt.cells (⟨vv11,IntKind.i64.wrap (IntKind.u64.wrap (vv32-1)),IntKind.i64.wrap (IntKind.u64.wrap (vv45-1)),IntKind.i64.wrap (IntKind.u64.wrap (vv58-1)),IntKind.i64.wrap (IntKind.u64.wrap (vv71-1)),IntKind.i64.wrap (IntKind.u64.wrap (vv84-1)),(⟨vv97,ss128,ss140,ss152,ss164,vv108⟩:TOp),mm253.bd,dPk,vv176,(⟨vv202,ss213⟩:TRe),vv187,ao237,co238,ll239⟩:TSt)) 41)::(Sl ao5 co6 5 1 byteC b)::(Cel b1 (TSt.cells dSt) 41)::L) w270:=St.slNil hs271 58 121 TMs.cells
   have hs273:St w0 ((QS ([]:List TMs))::(Sl none 0 58 121 TMs.cells ([]:List TMs))::(Cel b265 (TMs.cells mm253) 58)::(Sl mm253.bd.qa mm253.bd.qc 205 2 TPr.cells mm253.bd.ql)::(Cel cc4 #[.slice az257 rr255.length cz258,.bool sp256] 124)::(Sl ao237 co238 5 1 byteC ll239)::(Sl (some ⟨b123,0,none⟩) 4 78 1 ptC ([((b22,7):Nat×Nat),((b22,8):Nat×Nat),((b22,9):Nat×Nat),((b22,10):Nat×Nat)]))::(Cel b27 #[zP b22 1,zP b22 2,zP b22 3,zP b22 4,zP b22 5] 73)::(Cel b22 (TSt.cells (⟨vv11,IntKind.i64.wrap (IntKind.u64.wrap (vv32-1)),IntKind.i64.wrap (IntKind.u64.wrap (vv45-1)),IntKind.i64.wrap (IntKind.u64.wrap (vv58-1)),IntKind.i64.wrap (IntKind.u64.wrap (vv71-1)),IntKind.i64.wrap (IntKind.u64.wrap (vv84-1)),(⟨vv97,ss128,ss140,ss152,ss164,vv108⟩:TOp),mm253.bd,dPk,vv176,(⟨vv202,ss213⟩:TRe),vv187,ao237,co238,ll239⟩:TSt)) 41)::(Sl ao5 co6 5 1 byteC b)::(Cel b1 (TSt.cells dSt) 41)::L) w270:=St.addNothing hs272
   obtain⟨xx,hxx⟩:∃ s:TSt,s=(⟨vv11,IntKind.i64.wrap (IntKind.u64.wrap (vv32-1)),IntKind.i64.wrap (IntKind.u64.wrap (vv45-1)),IntKind.i64.wrap (IntKind.u64.wrap (vv58-1)),IntKind.i64.wrap (IntKind.u64.wrap (vv71-1)),IntKind.i64.wrap (IntKind.u64.wrap (vv84-1)),(⟨vv97,ss128,ss140,ss152,ss164,vv108⟩:TOp),mm253.bd,dPk,vv176,(⟨vv202,ss213⟩:TRe),vv187,ao237,co238,ll239⟩:TSt):=⟨_,rfl⟩
   have hs274:St w0 ((QS xx.pk.ml)::(Sl xx.pk.ma xx.pk.mc 58 121 TMs.cells xx.pk.ml)::(Cel b265 (TMs.cells mm253) 58)::(Sl xx.bd.qa xx.bd.qc 205 2 TPr.cells xx.bd.ql)::(Cel cc4 #[.slice az257 rr255.length cz258,.bool sp256] 124)::(Sl xx.pa xx.pc 5 1 byteC xx.pl)::(Sl (some ⟨b123,0,none⟩) 4 78 1 ptC ([((b22,7):Nat×Nat),((b22,8):Nat×Nat),((b22,9):Nat×Nat),((b22,10):Nat×Nat)]))::(Cel b27 #[zP b22 1,zP b22 2,zP b22 3,zP b22 4,zP b22 5] 73)::(Cel b22 (TSt.cells xx) 41)::(Sl ao5 co6 5 1 byteC b)::(Cel b1 (TSt.cells dSt) 41)::L) w270:=(by rw [hxx];exact hs273)
   have hpb:∀ z∈ll239,0≤z∧z<256:=by have h9:=tk_byt (n:=nn227) (s:=(rr228,sp229)) hq2233.byt;rw [he244] at h9;exact h9
   have hxo:StOK xx:=by
    have h9:=hs274.slNone 5 rfl
    rw [hxx] at h9 ⊢
    exact⟨(by dsimp only;omega),i64wrap_rng _,i64wrap_rng _,i64wrap_rng _,i64wrap_rng _,i64wrap_rng _,(by dsimp only;omega),(by dsimp only;omega),hok260.bd,dVc_ok,(by dsimp only;omega),(by dsimp only;omega),hpb,h9⟩
   have ht:tlP (hdP b)=(conS xx,(bb254,(rr255,sp256))):=by
    have h8:=tlP_14 (h:=hdP b) (m:=conM mm253) (ok:=bb254) (c:=(rr255,sp256)) (by rw [hh];exact h251') (by rw [hh];exact he259)
    rw [h8,hh,hxx]
    rfl
   have hxm:∀ m∈xx.pk.ml,MsOK m:=by rw [hxx];intro m hm;cases hm
   have hs275:St w0 ((Cel b265 (TMs.cells mm253) 58)::(Sl (some ⟨b123,0,none⟩) 4 78 1 ptC ([((b22,7):Nat×Nat),((b22,8):Nat×Nat),((b22,9):Nat×Nat),((b22,10):Nat×Nat)]))::(Cel b27 #[zP b22 1,zP b22 2,zP b22 3,zP b22 4,zP b22 5] 73)::(Sl xx.pa xx.pc 5 1 byteC xx.pl)::(Sl xx.bd.qa xx.bd.qc 205 2 TPr.cells xx.bd.ql)::(Sl xx.pk.ma xx.pk.mc 58 121 TMs.cells xx.pk.ml)::(QS xx.pk.ml)::(Cel b22 (TSt.cells xx) 41)::(Cel cc4 #[.slice az257 rr255.length cz258,.bool sp256] 124)::(Sl ao5 co6 5 1 byteC b)::(Cel b1 (TSt.cells dSt) 41)::L) w270:=(((((((((((hs274.pull 10 rfl).pull 10 rfl).pull 6 rfl).pull 10 rfl).pull 4 rfl).pull 5 rfl).pull 7 rfl).pull 8 rfl).pull 10 rfl).pull 10 rfl).pull 10 rfl)
   have hs276:St w0 ((Sl xx.pa xx.pc 5 1 byteC xx.pl)::(Sl xx.bd.qa xx.bd.qc 205 2 TPr.cells xx.bd.ql)::(Sl xx.pk.ma xx.pk.mc 58 121 TMs.cells xx.pk.ml)::(QS xx.pk.ml)::(Cel b22 (TSt.cells xx) 41)::(Cel cc4 #[.slice az257 rr255.length cz258,.bool sp256] 124)::(Sl ao5 co6 5 1 byteC b)::(Cel b1 (TSt.cells dSt) 41)::L) w270:=hs275.drop 3
   refine GoQ.pick [0,2,3,4,5,10] (S':=[(0,.slice ad b.length cb),(2,zP b1 0),(3,.int .i64 0),(4,zP cc4 0),(5,zP b22 0),(10,.bool bb254)]) (by kernel_rfl) ?_
   exact GoQ.meet1 (xx,rr255,sp256,az257,cz258,bb254) rfl ⟨⟨hxo,hxm,ht,hq2261⟩,hs276⟩
  ·have h251':¬ ((vv11:Int)=14):=ieqF h251
   refine Zs ?_
   refine Zqt (.rd 0 (.rd 1 .done)) ?_
   refine Zr 0 2 [] ?_
   refine Zd (Zt ?_)
   refine Zqc (t:=(vv11:Int) == 16) (fun h277=>?_) (fun h277=>?_)
   ·have h277':(vv11:Int)=16:=ieqT h277
    refine Zqt (.rd 0 (.ef 1 (.rd 2 (.rd 3 (.rd 4 (.rd 5 (.ef 6 (.rd 7 .done)))))))) ?_
    refine Zr 0 1 [] ?_
    have hs278:St w0 ((Cel cc4 #[.slice az242 rr240.length cz243,.bool sp241] 124)::(Sl ao237 co238 5 1 byteC ll239)::(Sl (some ⟨b123,0,none⟩) 4 78 1 ptC ([((b22,7):Nat×Nat),((b22,8):Nat×Nat),((b22,9):Nat×Nat),((b22,10):Nat×Nat)]))::(Cel b27 #[zP b22 1,zP b22 2,zP b22 3,zP b22 4,zP b22 5] 73)::(Cel b22 (TSt.cells (⟨vv11,IntKind.i64.wrap (IntKind.u64.wrap (vv32-1)),IntKind.i64.wrap (IntKind.u64.wrap (vv45-1)),IntKind.i64.wrap (IntKind.u64.wrap (vv58-1)),IntKind.i64.wrap (IntKind.u64.wrap (vv71-1)),IntKind.i64.wrap (IntKind.u64.wrap (vv84-1)),(⟨vv97,ss128,ss140,ss152,ss164,vv108⟩:TOp),dBd,dPk,vv176,(⟨vv202,ss213⟩:TRe),vv187,ao237,co238,ll239⟩:TSt)) 41)::(Sl ao5 co6 5 1 byteC b)::(Cel b1 (TSt.cells dSt) 41)::L) w249:=(hs250.pull 1 rfl)
    refine Zqa (f:=35) (args:=#[zP cc4 0]) Tryz.call35 (packet_spec (Sl ao5 co6 5 1 byteC b) rr240 sp241 (fun w h=>h.at_ 4 rfl) hq2245 hs278) ?_
    rintro v290 w291 ⟨pp279,bb280,rr281,sp282,az283,cz284,rfl,he285,hkn286,hmo287,hq2288,hs289⟩
    refine⟨Zqo,?_⟩
    refine Zr 2 4 [] ?_
    refine Zw (b:=b22) (off:=88) (v:=.agg (TPk.cells pp279)) (ti:=Tryz.t35) (by kernel_rfl) hs289 6 (L':=(Sl pp279.ma pp279.mc 58 121 TMs.cells pp279.ml)::(QS pp279.ml)::(Cel cc4 #[.slice az283 rr281.length cz284,.bool sp282] 124)::(Sl ao237 co238 5 1 byteC ll239)::(Sl (some ⟨b123,0,none⟩) 4 78 1 ptC ([((b22,7):Nat×Nat),((b22,8):Nat×Nat),((b22,9):Nat×Nat),((b22,10):Nat×Nat)]))::(Cel b27 #[zP b22 1,zP b22 2,zP b22 3,zP b22 4,zP b22 5] 73)::(Cel b22 (TSt.cells (⟨vv11,IntKind.i64.wrap (IntKind.u64.wrap (vv32-1)),IntKind.i64.wrap (IntKind.u64.wrap (vv45-1)),IntKind.i64.wrap (IntKind.u64.wrap (vv58-1)),IntKind.i64.wrap (IntKind.u64.wrap (vv71-1)),IntKind.i64.wrap (IntKind.u64.wrap (vv84-1)),(⟨vv97,ss128,ss140,ss152,ss164,vv108⟩:TOp),dBd,pp279,vv176,(⟨vv202,ss213⟩:TRe),vv187,ao237,co238,ll239⟩:TSt)) 41)::(Sl ao5 co6 5 1 byteC b)::(Cel b1 (TSt.cells dSt) 41)::L) ?_
    intro w292 hs293
    refine⟨Zqo,?_⟩
    refine Zr 7 1 [] ?_
    refine Zd (Zm ?_)
    have hs294:St w0 ((Sl none 0 205 2 TPr.cells ([]:List TPr))::(Sl pp279.ma pp279.mc 58 121 TMs.cells pp279.ml)::(QS pp279.ml)::(Cel cc4 #[.slice az283 rr281.length cz284,.bool sp282] 124)::(Sl ao237 co238 5 1 byteC ll239)::(Sl (some ⟨b123,0,none⟩) 4 78 1 ptC ([((b22,7):Nat×Nat),((b22,8):Nat×Nat),((b22,9):Nat×Nat),((b22,10):Nat×Nat)]))::(Cel b27 #[zP b22 1,zP b22 2,zP b22 3,zP b22 4,zP b22 5] 73)::(Cel b22 (TSt.cells (⟨vv11,IntKind.i64.wrap (IntKind.u64.wrap (vv32-1)),IntKind.i64.wrap (IntKind.u64.wrap (vv45-1)),IntKind.i64.wrap (IntKind.u64.wrap (vv58-1)),IntKind.i64.wrap (IntKind.u64.wrap (vv71-1)),IntKind.i64.wrap (IntKind.u64.wrap (vv84-1)),(⟨vv97,ss128,ss140,ss152,ss164,vv108⟩:TOp),dBd,pp279,vv176,(⟨vv202,ss213⟩:TRe),vv187,ao237,co238,ll239⟩:TSt)) 41)::(Sl ao5 co6 5 1 byteC b)::(Cel b1 (TSt.cells dSt) 41)::L) w292:=St.slNil hs293 205 2 TPr.cells
    obtain⟨xx,hxx⟩:∃ s:TSt,s=(⟨vv11,IntKind.i64.wrap (IntKind.u64.wrap (vv32-1)),IntKind.i64.wrap (IntKind.u64.wrap (vv45-1)),IntKind.i64.wrap (IntKind.u64.wrap (vv58-1)),IntKind.i64.wrap (IntKind.u64.wrap (vv71-1)),IntKind.i64.wrap (IntKind.u64.wrap (vv84-1)),(⟨vv97,ss128,ss140,ss152,ss164,vv108⟩:TOp),dBd,pp279,vv176,(⟨vv202,ss213⟩:TRe),vv187,ao237,co238,ll239⟩:TSt):=⟨_,rfl⟩
    have hs295:St w0 ((Sl xx.bd.qa xx.bd.qc 205 2 TPr.cells xx.bd.ql)::(Sl xx.pk.ma xx.pk.mc 58 121 TMs.cells xx.pk.ml)::(QS xx.pk.ml)::(Cel cc4 #[.slice az283 rr281.length cz284,.bool sp282] 124)::(Sl xx.pa xx.pc 5 1 byteC xx.pl)::(Sl (some ⟨b123,0,none⟩) 4 78 1 ptC ([((b22,7):Nat×Nat),((b22,8):Nat×Nat),((b22,9):Nat×Nat),((b22,10):Nat×Nat)]))::(Cel b27 #[zP b22 1,zP b22 2,zP b22 3,zP b22 4,zP b22 5] 73)::(Cel b22 (TSt.cells xx) 41)::(Sl ao5 co6 5 1 byteC b)::(Cel b1 (TSt.cells dSt) 41)::L) w292:=(by rw [hxx];exact hs294)
    have hpb:∀ z∈ll239,0≤z∧z<256:=by have h9:=tk_byt (n:=nn227) (s:=(rr228,sp229)) hq2233.byt;rw [he244] at h9;exact h9
    have hxo:StOK xx:=by
     have h9:=hs295.slNone 4 rfl
     rw [hxx] at h9 ⊢
     exact⟨(by dsimp only;omega),i64wrap_rng _,i64wrap_rng _,i64wrap_rng _,i64wrap_rng _,i64wrap_rng _,(by dsimp only;omega),(by dsimp only;omega),dBd_ok,hkn286,(by dsimp only;omega),(by dsimp only;omega),hpb,h9⟩
    have ht:tlP (hdP b)=(conS xx,(bb280,(rr281,sp282))):=by
     have h8:=tlP_16 (h:=hdP b) (p:=conP pp279) (ok:=bb280) (c:=(rr281,sp282)) (by rw [hh];exact h277') (by rw [hh];exact he285)
     rw [h8,hh,hxx]
     rfl
    have hxm:∀ m∈xx.pk.ml,MsOK m:=by rw [hxx];exact hmo287
    have hs296:St w0 ((Sl (some ⟨b123,0,none⟩) 4 78 1 ptC ([((b22,7):Nat×Nat),((b22,8):Nat×Nat),((b22,9):Nat×Nat),((b22,10):Nat×Nat)]))::(Cel b27 #[zP b22 1,zP b22 2,zP b22 3,zP b22 4,zP b22 5] 73)::(Sl xx.pa xx.pc 5 1 byteC xx.pl)::(Sl xx.bd.qa xx.bd.qc 205 2 TPr.cells xx.bd.ql)::(Sl xx.pk.ma xx.pk.mc 58 121 TMs.cells xx.pk.ml)::(QS xx.pk.ml)::(Cel b22 (TSt.cells xx) 41)::(Cel cc4 #[.slice az283 rr281.length cz284,.bool sp282] 124)::(Sl ao5 co6 5 1 byteC b)::(Cel b1 (TSt.cells dSt) 41)::L) w292:=((((((((((hs295.pull 9 rfl).pull 9 rfl).pull 5 rfl).pull 9 rfl).pull 6 rfl).pull 6 rfl).pull 6 rfl).pull 7 rfl).pull 9 rfl).pull 9 rfl)
    have hs297:St w0 ((Sl xx.pa xx.pc 5 1 byteC xx.pl)::(Sl xx.bd.qa xx.bd.qc 205 2 TPr.cells xx.bd.ql)::(Sl xx.pk.ma xx.pk.mc 58 121 TMs.cells xx.pk.ml)::(QS xx.pk.ml)::(Cel b22 (TSt.cells xx) 41)::(Cel cc4 #[.slice az283 rr281.length cz284,.bool sp282] 124)::(Sl ao5 co6 5 1 byteC b)::(Cel b1 (TSt.cells dSt) 41)::L) w292:=hs296.drop 2
    refine GoQ.pick [0,2,3,4,5,10] (S':=[(0,.slice ad b.length cb),(2,zP b1 0),(3,.int .i64 0),(4,zP cc4 0),(5,zP b22 0),(10,.bool bb280)]) (by kernel_rfl) ?_
    exact GoQ.meet1 (xx,rr281,sp282,az283,cz284,bb280) rfl ⟨⟨hxo,hxm,ht,hq2288⟩,hs297⟩
   ·have h277':¬ ((vv11:Int)=16):=ieqF h277
    refine Zk (Zm ?_)
    have hs298:St w0 ((Sl none 0 205 2 TPr.cells ([]:List TPr))::(Sl ao237 co238 5 1 byteC ll239)::(Cel cc4 #[.slice az242 rr240.length cz243,.bool sp241] 124)::(Sl (some ⟨b123,0,none⟩) 4 78 1 ptC ([((b22,7):Nat×Nat),((b22,8):Nat×Nat),((b22,9):Nat×Nat),((b22,10):Nat×Nat)]))::(Cel b27 #[zP b22 1,zP b22 2,zP b22 3,zP b22 4,zP b22 5] 73)::(Cel b22 (TSt.cells (⟨vv11,IntKind.i64.wrap (IntKind.u64.wrap (vv32-1)),IntKind.i64.wrap (IntKind.u64.wrap (vv45-1)),IntKind.i64.wrap (IntKind.u64.wrap (vv58-1)),IntKind.i64.wrap (IntKind.u64.wrap (vv71-1)),IntKind.i64.wrap (IntKind.u64.wrap (vv84-1)),(⟨vv97,ss128,ss140,ss152,ss164,vv108⟩:TOp),dBd,dPk,vv176,(⟨vv202,ss213⟩:TRe),vv187,ao237,co238,ll239⟩:TSt)) 41)::(Sl ao5 co6 5 1 byteC b)::(Cel b1 (TSt.cells dSt) 41)::L) w249:=St.slNil hs250 205 2 TPr.cells
    have hs299:St w0 ((Sl none 0 58 121 TMs.cells ([]:List TMs))::(Sl none 0 205 2 TPr.cells ([]:List TPr))::(Sl ao237 co238 5 1 byteC ll239)::(Cel cc4 #[.slice az242 rr240.length cz243,.bool sp241] 124)::(Sl (some ⟨b123,0,none⟩) 4 78 1 ptC ([((b22,7):Nat×Nat),((b22,8):Nat×Nat),((b22,9):Nat×Nat),((b22,10):Nat×Nat)]))::(Cel b27 #[zP b22 1,zP b22 2,zP b22 3,zP b22 4,zP b22 5] 73)::(Cel b22 (TSt.cells (⟨vv11,IntKind.i64.wrap (IntKind.u64.wrap (vv32-1)),IntKind.i64.wrap (IntKind.u64.wrap (vv45-1)),IntKind.i64.wrap (IntKind.u64.wrap (vv58-1)),IntKind.i64.wrap (IntKind.u64.wrap (vv71-1)),IntKind.i64.wrap (IntKind.u64.wrap (vv84-1)),(⟨vv97,ss128,ss140,ss152,ss164,vv108⟩:TOp),dBd,dPk,vv176,(⟨vv202,ss213⟩:TRe),vv187,ao237,co238,ll239⟩:TSt)) 41)::(Sl ao5 co6 5 1 byteC b)::(Cel b1 (TSt.cells dSt) 41)::L) w249:=St.slNil hs298 58 121 TMs.cells
    have hs300:St w0 ((QS ([]:List TMs))::(Sl none 0 58 121 TMs.cells ([]:List TMs))::(Sl none 0 205 2 TPr.cells ([]:List TPr))::(Sl ao237 co238 5 1 byteC ll239)::(Cel cc4 #[.slice az242 rr240.length cz243,.bool sp241] 124)::(Sl (some ⟨b123,0,none⟩) 4 78 1 ptC ([((b22,7):Nat×Nat),((b22,8):Nat×Nat),((b22,9):Nat×Nat),((b22,10):Nat×Nat)]))::(Cel b27 #[zP b22 1,zP b22 2,zP b22 3,zP b22 4,zP b22 5] 73)::(Cel b22 (TSt.cells (⟨vv11,IntKind.i64.wrap (IntKind.u64.wrap (vv32-1)),IntKind.i64.wrap (IntKind.u64.wrap (vv45-1)),IntKind.i64.wrap (IntKind.u64.wrap (vv58-1)),IntKind.i64.wrap (IntKind.u64.wrap (vv71-1)),IntKind.i64.wrap (IntKind.u64.wrap (vv84-1)),(⟨vv97,ss128,ss140,ss152,ss164,vv108⟩:TOp),dBd,dPk,vv176,(⟨vv202,ss213⟩:TRe),vv187,ao237,co238,ll239⟩:TSt)) 41)::(Sl ao5 co6 5 1 byteC b)::(Cel b1 (TSt.cells dSt) 41)::L) w249:=St.addNothing hs299
    obtain⟨xx,hxx⟩:∃ s:TSt,s=(⟨vv11,IntKind.i64.wrap (IntKind.u64.wrap (vv32-1)),IntKind.i64.wrap (IntKind.u64.wrap (vv45-1)),IntKind.i64.wrap (IntKind.u64.wrap (vv58-1)),IntKind.i64.wrap (IntKind.u64.wrap (vv71-1)),IntKind.i64.wrap (IntKind.u64.wrap (vv84-1)),(⟨vv97,ss128,ss140,ss152,ss164,vv108⟩:TOp),dBd,dPk,vv176,(⟨vv202,ss213⟩:TRe),vv187,ao237,co238,ll239⟩:TSt):=⟨_,rfl⟩
    have hs301:St w0 ((QS xx.pk.ml)::(Sl xx.pk.ma xx.pk.mc 58 121 TMs.cells xx.pk.ml)::(Sl xx.bd.qa xx.bd.qc 205 2 TPr.cells xx.bd.ql)::(Sl xx.pa xx.pc 5 1 byteC xx.pl)::(Cel cc4 #[.slice az242 rr240.length cz243,.bool sp241] 124)::(Sl (some ⟨b123,0,none⟩) 4 78 1 ptC ([((b22,7):Nat×Nat),((b22,8):Nat×Nat),((b22,9):Nat×Nat),((b22,10):Nat×Nat)]))::(Cel b27 #[zP b22 1,zP b22 2,zP b22 3,zP b22 4,zP b22 5] 73)::(Cel b22 (TSt.cells xx) 41)::(Sl ao5 co6 5 1 byteC b)::(Cel b1 (TSt.cells dSt) 41)::L) w249:=(by rw [hxx];exact hs300)
    have hpb:∀ z∈ll239,0≤z∧z<256:=by have h9:=tk_byt (n:=nn227) (s:=(rr228,sp229)) hq2233.byt;rw [he244] at h9;exact h9
    have hxo:StOK xx:=by
     have h9:=hs301.slNone 3 rfl
     rw [hxx] at h9 ⊢
     exact⟨(by dsimp only;omega),i64wrap_rng _,i64wrap_rng _,i64wrap_rng _,i64wrap_rng _,i64wrap_rng _,(by dsimp only;omega),(by dsimp only;omega),dBd_ok,dVc_ok,(by dsimp only;omega),(by dsimp only;omega),hpb,h9⟩
    have ht:tlP (hdP b)=(conS xx,(true,(rr240,sp241))):=by
     have h8:=tlP_0 (h:=hdP b) (by rw [hh];exact h251') (by rw [hh];exact h277')
     rw [h8,hh,hxx]
     rfl
    have hxm:∀ m∈xx.pk.ml,MsOK m:=by rw [hxx];intro m hm;cases hm
    have hs302:St w0 ((Sl (some ⟨b123,0,none⟩) 4 78 1 ptC ([((b22,7):Nat×Nat),((b22,8):Nat×Nat),((b22,9):Nat×Nat),((b22,10):Nat×Nat)]))::(Cel b27 #[zP b22 1,zP b22 2,zP b22 3,zP b22 4,zP b22 5] 73)::(Sl xx.pa xx.pc 5 1 byteC xx.pl)::(Sl xx.bd.qa xx.bd.qc 205 2 TPr.cells xx.bd.ql)::(Sl xx.pk.ma xx.pk.mc 58 121 TMs.cells xx.pk.ml)::(QS xx.pk.ml)::(Cel b22 (TSt.cells xx) 41)::(Cel cc4 #[.slice az242 rr240.length cz243,.bool sp241] 124)::(Sl ao5 co6 5 1 byteC b)::(Cel b1 (TSt.cells dSt) 41)::L) w249:=((((((((((hs301.pull 9 rfl).pull 9 rfl).pull 6 rfl).pull 9 rfl).pull 4 rfl).pull 5 rfl).pull 6 rfl).pull 7 rfl).pull 9 rfl).pull 9 rfl)
    have hs303:St w0 ((Sl xx.pa xx.pc 5 1 byteC xx.pl)::(Sl xx.bd.qa xx.bd.qc 205 2 TPr.cells xx.bd.ql)::(Sl xx.pk.ma xx.pk.mc 58 121 TMs.cells xx.pk.ml)::(QS xx.pk.ml)::(Cel b22 (TSt.cells xx) 41)::(Cel cc4 #[.slice az242 rr240.length cz243,.bool sp241] 124)::(Sl ao5 co6 5 1 byteC b)::(Cel b1 (TSt.cells dSt) 41)::L) w249:=hs302.drop 2
    refine GoQ.pick [0,2,3,4,5,10] (S':=[(0,.slice ad b.length cb),(2,zP b1 0),(3,.int .i64 0),(4,zP cc4 0),(5,zP b22 0),(10,.bool true)]) (by kernel_rfl) ?_
    exact GoQ.meet1 (xx,rr240,sp241,az242,cz243,true) rfl ⟨⟨hxo,hxm,ht,hq2245⟩,hs303⟩
 rintro⟨xx,rrz,spz,azz,czz,okz⟩ w304 ⟨hpz0,hs305⟩
 have hpz:StOK xx∧(∀ m∈xx.pk.ml,MsOK m)∧tlP (hdP b)=(conS xx,(okz,(rrz,spz)))∧CutOK (Sl ao5 co6 5 1 byteC b) azz rrz czz:=hpz0
 have hs306:St w0 ((Sl xx.pa xx.pc 5 1 byteC xx.pl)::(Sl xx.bd.qa xx.bd.qc 205 2 TPr.cells xx.bd.ql)::(Sl xx.pk.ma xx.pk.mc 58 121 TMs.cells xx.pk.ml)::(QS xx.pk.ml)::(Cel b22 (TSt.cells xx) 41)::(Cel cc4 #[.slice azz rrz.length czz,.bool spz] 124)::(Sl ao5 co6 5 1 byteC b)::(Cel b1 (TSt.cells dSt) 41)::L) w304:=hs305
 refine GoQ.slots (S':=[(0,.slice ad b.length cb),(2,zP b1 0),(3,.int .i64 0),(4,zP cc4 0),(5,zP b22 0),(10,.bool okz)]) rfl ?_
 refine Zt (Zs (Zs ?_))
 obtain⟨hxo,hxm,ht,hqz⟩:=hpz
 refine Zqt (.rd 0 (.rd 1 (.rd 2 (.rd 3 (.ef 4 (.rd 5 (.rd 6 (.rd 7 (.rd 8 (.ef 9 (.rd 10 (.rd 11 (.rd 12 (.rd 13 (.ef 14 (.rd 15 (.rd 16 (.rd 17 (.rd 18 (.ef 19 (.rd 20 (.ef 21 (.rd 22 (.rd 23 .done)))))))))))))))))))))))) ?_
 refine Zr 0 3 [] ?_
 rcases Bool.eq_false_or_eq_true (!okz) with h307|h307
 ·refine Zqs 95 true h307 ?_
  have h307n:okz=false:=notT h307
  refine Zr 3 1 [] ?_
  refine GoR.skip rfl (by kernel_rfl) Zqo ?_
  refine Zr 5 4 [] ?_
  refine GoR.skip rfl (by kernel_rfl) Zqo ?_
  refine Zr 10 4 [] ?_
  refine GoR.skip rfl (by kernel_rfl) Zqo ?_
  refine Zr 15 4 [] ?_
  refine GoR.skip rfl (by kernel_rfl) Zqo ?_
  refine Zr 20 1 [] ?_
  refine GoR.skip rfl (by kernel_rfl) Zqo ?_
  refine Zr 22 2 [] ?_
  refine Zd (Zt (ZqT (Zs ?_)))
  refine Zqt (.rd 0 (.ef 1 (.rd 2 .done))) ?_
  refine Zr 0 1 [] ?_
  refine Zw (b:=b1) (off:=0) (v:=.agg (TSt.cells dSt)) (ti:=Tryz.t41) (by kernel_rfl) hs306 7 (L':=(Sl xx.pa xx.pc 5 1 byteC xx.pl)::(Sl xx.bd.qa xx.bd.qc 205 2 TPr.cells xx.bd.ql)::(Sl xx.pk.ma xx.pk.mc 58 121 TMs.cells xx.pk.ml)::(QS xx.pk.ml)::(Cel b22 (TSt.cells xx) 41)::(Cel cc4 #[.slice azz rrz.length czz,.bool spz] 124)::(Sl ao5 co6 5 1 byteC b)::(Cel b1 (TSt.cells dSt) 41)::L) ?_
  intro w308 hs309
  refine⟨Zqo,?_⟩
  refine Zr 2 1 [] ?_
  refine Zd (Zt (Ze (Zy ?_)))
  refine GoQ.done (.inl rfl) (v:=.tuple #[.agg (TSt.cells dSt),.int .i64 5]) (fun a hf=>resultsAV rfl (by kernel_rfl) (by kernel_rfl) (ti:=Tryz.t41) (by kernel_rfl) (by kernel_rfl) (vs:=(TSt.cells dSt)) (by kernel_rfl) (hs309.cells 7 0 rfl (by kernel_rfl)) a hf) ?_
  have hs310:St w0 ((Sl none 0 5 1 byteC ([]:List Int))::(Sl xx.pa xx.pc 5 1 byteC xx.pl)::(Sl xx.bd.qa xx.bd.qc 205 2 TPr.cells xx.bd.ql)::(Sl xx.pk.ma xx.pk.mc 58 121 TMs.cells xx.pk.ml)::(QS xx.pk.ml)::(Cel b22 (TSt.cells xx) 41)::(Cel cc4 #[.slice azz rrz.length czz,.bool spz] 124)::(Sl ao5 co6 5 1 byteC b)::(Cel b1 (TSt.cells dSt) 41)::L) w308:=St.slNil hs309 5 1 byteC
  have hs311:St w0 ((Sl none 0 205 2 TPr.cells ([]:List TPr))::(Sl none 0 5 1 byteC ([]:List Int))::(Sl xx.pa xx.pc 5 1 byteC xx.pl)::(Sl xx.bd.qa xx.bd.qc 205 2 TPr.cells xx.bd.ql)::(Sl xx.pk.ma xx.pk.mc 58 121 TMs.cells xx.pk.ml)::(QS xx.pk.ml)::(Cel b22 (TSt.cells xx) 41)::(Cel cc4 #[.slice azz rrz.length czz,.bool spz] 124)::(Sl ao5 co6 5 1 byteC b)::(Cel b1 (TSt.cells dSt) 41)::L) w308:=St.slNil hs310 205 2 TPr.cells
  have hs312:St w0 ((Sl none 0 58 121 TMs.cells ([]:List TMs))::(Sl none 0 205 2 TPr.cells ([]:List TPr))::(Sl none 0 5 1 byteC ([]:List Int))::(Sl xx.pa xx.pc 5 1 byteC xx.pl)::(Sl xx.bd.qa xx.bd.qc 205 2 TPr.cells xx.bd.ql)::(Sl xx.pk.ma xx.pk.mc 58 121 TMs.cells xx.pk.ml)::(QS xx.pk.ml)::(Cel b22 (TSt.cells xx) 41)::(Cel cc4 #[.slice azz rrz.length czz,.bool spz] 124)::(Sl ao5 co6 5 1 byteC b)::(Cel b1 (TSt.cells dSt) 41)::L) w308:=St.slNil hs311 58 121 TMs.cells
  have hs313:St w0 ((QS ([]:List TMs))::(Sl none 0 58 121 TMs.cells ([]:List TMs))::(Sl none 0 205 2 TPr.cells ([]:List TPr))::(Sl none 0 5 1 byteC ([]:List Int))::(Sl xx.pa xx.pc 5 1 byteC xx.pl)::(Sl xx.bd.qa xx.bd.qc 205 2 TPr.cells xx.bd.ql)::(Sl xx.pk.ma xx.pk.mc 58 121 TMs.cells xx.pk.ml)::(QS xx.pk.ml)::(Cel b22 (TSt.cells xx) 41)::(Cel cc4 #[.slice azz rrz.length czz,.bool spz] 124)::(Sl ao5 co6 5 1 byteC b)::(Cel b1 (TSt.cells dSt) 41)::L) w308:=St.addNothing hs312
  have hs314:St w0 ((Sl xx.pa xx.pc 5 1 byteC xx.pl)::(Sl xx.bd.qa xx.bd.qc 205 2 TPr.cells xx.bd.ql)::(Sl xx.pk.ma xx.pk.mc 58 121 TMs.cells xx.pk.ml)::(QS xx.pk.ml)::(Cel b22 (TSt.cells xx) 41)::(Cel cc4 #[.slice azz rrz.length czz,.bool spz] 124)::(Sl ao5 co6 5 1 byteC b)::(Cel b1 (TSt.cells dSt) 41)::(Sl none 0 5 1 byteC ([]:List Int))::(Sl none 0 205 2 TPr.cells ([]:List TPr))::(Sl none 0 58 121 TMs.cells ([]:List TMs))::(QS ([]:List TMs))::L) w308:=((((((((((((hs313.pull 0 rfl).pull 1 rfl).pull 2 rfl).pull 3 rfl).pull 11 rfl).pull 11 rfl).pull 11 rfl).pull 11 rfl).pull 11 rfl).pull 11 rfl).pull 11 rfl).pull 11 rfl)
  have hs315:St w0 ((Sl none 0 5 1 byteC ([]:List Int))::(Sl none 0 205 2 TPr.cells ([]:List TPr))::(Sl none 0 58 121 TMs.cells ([]:List TMs))::(QS ([]:List TMs))::L) w308:=hs314.drop 8
  exact⟨dSt,5,rfl,(by unfold getT;rw [ht];unfold finT;simp only [];rw [if_pos (by simpa using h307)];rfl),dSt_ok,(fun m hm=>by cases hm),hs315⟩
 ·refine Zqs 95 false h307 ?_
  have h307n:okz=true:=notF h307
  refine Zr 3 1 [] ?_
  have hs316:St w0 ((Cel cc4 #[.slice azz rrz.length czz,.bool spz] 124)::(Sl xx.pa xx.pc 5 1 byteC xx.pl)::(Sl xx.bd.qa xx.bd.qc 205 2 TPr.cells xx.bd.ql)::(Sl xx.pk.ma xx.pk.mc 58 121 TMs.cells xx.pk.ml)::(QS xx.pk.ml)::(Cel b22 (TSt.cells xx) 41)::(Sl ao5 co6 5 1 byteC b)::(Cel b1 (TSt.cells dSt) 41)::L) w304:=(hs306.pull 5 rfl)
  refine Zqa (f:=36) (args:=#[zP cc4 0]) Tryz.call36 (cutOk_spec rrz spz hs316) ?_
  rintro v318 w319 ⟨rfl,hs317⟩
  refine⟨Zqo,?_⟩
  refine Zr 5 3 [] ?_
  rcases Bool.eq_false_or_eq_true (!(!spz)) with h320|h320
  ·refine Zqs 100 true h320 ?_
   have h320n:(!spz)=false:=notT h320
   refine Zr 8 1 [] ?_
   refine GoR.skip rfl (by kernel_rfl) Zqo ?_
   refine Zr 10 4 [] ?_
   refine GoR.skip rfl (by kernel_rfl) Zqo ?_
   refine Zr 15 4 [] ?_
   refine GoR.skip rfl (by kernel_rfl) Zqo ?_
   refine Zr 20 1 [] ?_
   refine GoR.skip rfl (by kernel_rfl) Zqo ?_
   refine Zr 22 2 [] ?_
   refine Zd (Zt (ZqT (Zs ?_)))
   refine Zqt (.rd 0 (.ef 1 (.rd 2 .done))) ?_
   refine Zr 0 1 [] ?_
   refine Zw (b:=b1) (off:=0) (v:=.agg (TSt.cells dSt)) (ti:=Tryz.t41) (by kernel_rfl) hs317 7 (L':=(Cel cc4 #[.slice azz rrz.length czz,.bool spz] 124)::(Sl xx.pa xx.pc 5 1 byteC xx.pl)::(Sl xx.bd.qa xx.bd.qc 205 2 TPr.cells xx.bd.ql)::(Sl xx.pk.ma xx.pk.mc 58 121 TMs.cells xx.pk.ml)::(QS xx.pk.ml)::(Cel b22 (TSt.cells xx) 41)::(Sl ao5 co6 5 1 byteC b)::(Cel b1 (TSt.cells dSt) 41)::L) ?_
   intro w321 hs322
   refine⟨Zqo,?_⟩
   refine Zr 2 1 [] ?_
   refine Zd (Zt (Ze (Zy ?_)))
   refine GoQ.done (.inl rfl) (v:=.tuple #[.agg (TSt.cells dSt),.int .i64 5]) (fun a hf=>resultsAV rfl (by kernel_rfl) (by kernel_rfl) (ti:=Tryz.t41) (by kernel_rfl) (by kernel_rfl) (vs:=(TSt.cells dSt)) (by kernel_rfl) (hs322.cells 7 0 rfl (by kernel_rfl)) a hf) ?_
   have hs323:St w0 ((Sl none 0 5 1 byteC ([]:List Int))::(Cel cc4 #[.slice azz rrz.length czz,.bool spz] 124)::(Sl xx.pa xx.pc 5 1 byteC xx.pl)::(Sl xx.bd.qa xx.bd.qc 205 2 TPr.cells xx.bd.ql)::(Sl xx.pk.ma xx.pk.mc 58 121 TMs.cells xx.pk.ml)::(QS xx.pk.ml)::(Cel b22 (TSt.cells xx) 41)::(Sl ao5 co6 5 1 byteC b)::(Cel b1 (TSt.cells dSt) 41)::L) w321:=St.slNil hs322 5 1 byteC
   have hs324:St w0 ((Sl none 0 205 2 TPr.cells ([]:List TPr))::(Sl none 0 5 1 byteC ([]:List Int))::(Cel cc4 #[.slice azz rrz.length czz,.bool spz] 124)::(Sl xx.pa xx.pc 5 1 byteC xx.pl)::(Sl xx.bd.qa xx.bd.qc 205 2 TPr.cells xx.bd.ql)::(Sl xx.pk.ma xx.pk.mc 58 121 TMs.cells xx.pk.ml)::(QS xx.pk.ml)::(Cel b22 (TSt.cells xx) 41)::(Sl ao5 co6 5 1 byteC b)::(Cel b1 (TSt.cells dSt) 41)::L) w321:=St.slNil hs323 205 2 TPr.cells
   have hs325:St w0 ((Sl none 0 58 121 TMs.cells ([]:List TMs))::(Sl none 0 205 2 TPr.cells ([]:List TPr))::(Sl none 0 5 1 byteC ([]:List Int))::(Cel cc4 #[.slice azz rrz.length czz,.bool spz] 124)::(Sl xx.pa xx.pc 5 1 byteC xx.pl)::(Sl xx.bd.qa xx.bd.qc 205 2 TPr.cells xx.bd.ql)::(Sl xx.pk.ma xx.pk.mc 58 121 TMs.cells xx.pk.ml)::(QS xx.pk.ml)::(Cel b22 (TSt.cells xx) 41)::(Sl ao5 co6 5 1 byteC b)::(Cel b1 (TSt.cells dSt) 41)::L) w321:=St.slNil hs324 58 121 TMs.cells
   have hs326:St w0 ((QS ([]:List TMs))::(Sl none 0 58 121 TMs.cells ([]:List TMs))::(Sl none 0 205 2 TPr.cells ([]:List TPr))::(Sl none 0 5 1 byteC ([]:List Int))::(Cel cc4 #[.slice azz rrz.length czz,.bool spz] 124)::(Sl xx.pa xx.pc 5 1 byteC xx.pl)::(Sl xx.bd.qa xx.bd.qc 205 2 TPr.cells xx.bd.ql)::(Sl xx.pk.ma xx.pk.mc 58 121 TMs.cells xx.pk.ml)::(QS xx.pk.ml)::(Cel b22 (TSt.cells xx) 41)::(Sl ao5 co6 5 1 byteC b)::(Cel b1 (TSt.cells dSt) 41)::L) w321:=St.addNothing hs325
   have hs327:St w0 ((Cel cc4 #[.slice azz rrz.length czz,.bool spz] 124)::(Sl xx.pa xx.pc 5 1 byteC xx.pl)::(Sl xx.bd.qa xx.bd.qc 205 2 TPr.cells xx.bd.ql)::(Sl xx.pk.ma xx.pk.mc 58 121 TMs.cells xx.pk.ml)::(QS xx.pk.ml)::(Cel b22 (TSt.cells xx) 41)::(Sl ao5 co6 5 1 byteC b)::(Cel b1 (TSt.cells dSt) 41)::(Sl none 0 5 1 byteC ([]:List Int))::(Sl none 0 205 2 TPr.cells ([]:List TPr))::(Sl none 0 58 121 TMs.cells ([]:List TMs))::(QS ([]:List TMs))::L) w321:=((((((((((((hs326.pull 0 rfl).pull 1 rfl).pull 2 rfl).pull 3 rfl).pull 11 rfl).pull 11 rfl).pull 11 rfl).pull 11 rfl).pull 11 rfl).pull 11 rfl).pull 11 rfl).pull 11 rfl)
   have hs328:St w0 ((Sl none 0 5 1 byteC ([]:List Int))::(Sl none 0 205 2 TPr.cells ([]:List TPr))::(Sl none 0 58 121 TMs.cells ([]:List TMs))::(QS ([]:List TMs))::L) w321:=hs327.drop 8
   exact⟨dSt,5,rfl,(by unfold getT;rw [ht];unfold finT;simp only [];rw [if_neg (by simpa using h307),if_pos (by simpa using h320)];rfl),dSt_ok,(fun m hm=>by cases hm),hs328⟩
  ·refine Zqs 100 false h320 ?_
   have h320n:(!spz)=true:=notF h320
   refine Zr 8 1 [] ?_
   refine Zqa (f:=37) (args:=#[zP cc4 0]) Tryz.call37 (cutLeft_spec rrz spz hs317) ?_
   rintro v330 w331 ⟨rfl,hs329⟩
   refine⟨Zqo,?_⟩
   refine Zr 10 3 [] ?_
   rcases Bool.eq_false_or_eq_true (decide (((rrz.length:Nat):Int)>0)) with h332|h332
   ·refine Zqs 105 true h332 ?_
    have h332':((rrz.length:Nat):Int)>0:=of_decide_eq_true h332
    refine Zr 13 1 [] ?_
    refine GoR.skip rfl (by kernel_rfl) Zqo ?_
    refine Zr 15 4 [] ?_
    refine GoR.skip rfl (by kernel_rfl) Zqo ?_
    refine Zr 20 1 [] ?_
    refine GoR.skip rfl (by kernel_rfl) Zqo ?_
    refine Zr 22 2 [] ?_
    refine Zd (Zt (ZqT (Zs ?_)))
    refine Zqt (.rd 0 (.ef 1 (.rd 2 .done))) ?_
    refine Zr 0 1 [] ?_
    refine Zw (b:=b1) (off:=0) (v:=.agg (TSt.cells dSt)) (ti:=Tryz.t41) (by kernel_rfl) hs329 7 (L':=(Cel cc4 #[.slice azz rrz.length czz,.bool spz] 124)::(Sl xx.pa xx.pc 5 1 byteC xx.pl)::(Sl xx.bd.qa xx.bd.qc 205 2 TPr.cells xx.bd.ql)::(Sl xx.pk.ma xx.pk.mc 58 121 TMs.cells xx.pk.ml)::(QS xx.pk.ml)::(Cel b22 (TSt.cells xx) 41)::(Sl ao5 co6 5 1 byteC b)::(Cel b1 (TSt.cells dSt) 41)::L) ?_
    intro w333 hs334
    refine⟨Zqo,?_⟩
    refine Zr 2 1 [] ?_
    refine Zd (Zt (Ze (Zy ?_)))
    refine GoQ.done (.inl rfl) (v:=.tuple #[.agg (TSt.cells dSt),.int .i64 5]) (fun a hf=>resultsAV rfl (by kernel_rfl) (by kernel_rfl) (ti:=Tryz.t41) (by kernel_rfl) (by kernel_rfl) (vs:=(TSt.cells dSt)) (by kernel_rfl) (hs334.cells 7 0 rfl (by kernel_rfl)) a hf) ?_
    have hs335:St w0 ((Sl none 0 5 1 byteC ([]:List Int))::(Cel cc4 #[.slice azz rrz.length czz,.bool spz] 124)::(Sl xx.pa xx.pc 5 1 byteC xx.pl)::(Sl xx.bd.qa xx.bd.qc 205 2 TPr.cells xx.bd.ql)::(Sl xx.pk.ma xx.pk.mc 58 121 TMs.cells xx.pk.ml)::(QS xx.pk.ml)::(Cel b22 (TSt.cells xx) 41)::(Sl ao5 co6 5 1 byteC b)::(Cel b1 (TSt.cells dSt) 41)::L) w333:=St.slNil hs334 5 1 byteC
    have hs336:St w0 ((Sl none 0 205 2 TPr.cells ([]:List TPr))::(Sl none 0 5 1 byteC ([]:List Int))::(Cel cc4 #[.slice azz rrz.length czz,.bool spz] 124)::(Sl xx.pa xx.pc 5 1 byteC xx.pl)::(Sl xx.bd.qa xx.bd.qc 205 2 TPr.cells xx.bd.ql)::(Sl xx.pk.ma xx.pk.mc 58 121 TMs.cells xx.pk.ml)::(QS xx.pk.ml)::(Cel b22 (TSt.cells xx) 41)::(Sl ao5 co6 5 1 byteC b)::(Cel b1 (TSt.cells dSt) 41)::L) w333:=St.slNil hs335 205 2 TPr.cells
    have hs337:St w0 ((Sl none 0 58 121 TMs.cells ([]:List TMs))::(Sl none 0 205 2 TPr.cells ([]:List TPr))::(Sl none 0 5 1 byteC ([]:List Int))::(Cel cc4 #[.slice azz rrz.length czz,.bool spz] 124)::(Sl xx.pa xx.pc 5 1 byteC xx.pl)::(Sl xx.bd.qa xx.bd.qc 205 2 TPr.cells xx.bd.ql)::(Sl xx.pk.ma xx.pk.mc 58 121 TMs.cells xx.pk.ml)::(QS xx.pk.ml)::(Cel b22 (TSt.cells xx) 41)::(Sl ao5 co6 5 1 byteC b)::(Cel b1 (TSt.cells dSt) 41)::L) w333:=St.slNil hs336 58 121 TMs.cells
    have hs338:St w0 ((QS ([]:List TMs))::(Sl none 0 58 121 TMs.cells ([]:List TMs))::(Sl none 0 205 2 TPr.cells ([]:List TPr))::(Sl none 0 5 1 byteC ([]:List Int))::(Cel cc4 #[.slice azz rrz.length czz,.bool spz] 124)::(Sl xx.pa xx.pc 5 1 byteC xx.pl)::(Sl xx.bd.qa xx.bd.qc 205 2 TPr.cells xx.bd.ql)::(Sl xx.pk.ma xx.pk.mc 58 121 TMs.cells xx.pk.ml)::(QS xx.pk.ml)::(Cel b22 (TSt.cells xx) 41)::(Sl ao5 co6 5 1 byteC b)::(Cel b1 (TSt.cells dSt) 41)::L) w333:=St.addNothing hs337
    have hs339:St w0 ((Cel cc4 #[.slice azz rrz.length czz,.bool spz] 124)::(Sl xx.pa xx.pc 5 1 byteC xx.pl)::(Sl xx.bd.qa xx.bd.qc 205 2 TPr.cells xx.bd.ql)::(Sl xx.pk.ma xx.pk.mc 58 121 TMs.cells xx.pk.ml)::(QS xx.pk.ml)::(Cel b22 (TSt.cells xx) 41)::(Sl ao5 co6 5 1 byteC b)::(Cel b1 (TSt.cells dSt) 41)::(Sl none 0 5 1 byteC ([]:List Int))::(Sl none 0 205 2 TPr.cells ([]:List TPr))::(Sl none 0 58 121 TMs.cells ([]:List TMs))::(QS ([]:List TMs))::L) w333:=((((((((((((hs338.pull 0 rfl).pull 1 rfl).pull 2 rfl).pull 3 rfl).pull 11 rfl).pull 11 rfl).pull 11 rfl).pull 11 rfl).pull 11 rfl).pull 11 rfl).pull 11 rfl).pull 11 rfl)
    have hs340:St w0 ((Sl none 0 5 1 byteC ([]:List Int))::(Sl none 0 205 2 TPr.cells ([]:List TPr))::(Sl none 0 58 121 TMs.cells ([]:List TMs))::(QS ([]:List TMs))::L) w333:=hs339.drop 8
    exact⟨dSt,5,rfl,(by unfold getT;rw [ht];unfold finT;simp only [];rw [if_neg (by simpa using h307),if_neg (by simpa using h320),if_pos (by omega)];rfl),dSt_ok,(fun m hm=>by cases hm),hs340⟩
   ·refine Zqs 105 false h332 ?_
    have h332':¬ (((rrz.length:Nat):Int)>0):=of_decide_eq_false h332
    refine Zp 13 1 [(13,.agg (TSt.cells xx))] [(13,[.prop (Array.size (TSt.cells xx)=107),.cells ⟨b22,0,none⟩ (TSt.cells xx)])] (ak (okp (by kernel_rfl) (oka (hs329.cells 5 0 rfl (by kernel_rfl)) ok0)) ak0) ?_
    refine Zqa (f:=7) (args:=#[.agg (TSt.cells xx)]) Tryz.call7 (mayS_spec xx hxo (fun k hk=>⟨hxm _ (getD_mem (d:=dMs) hk),fun w h=>QS_rows (h.at_ 4 rfl) hk⟩) (fun w h=>h.rows 2 rfl (dPrF).size _) (fun w h=>h.rows 3 rfl (dMsF).size _) (fun w h=>h.rows 1 rfl (byteF).size _) hs329) ?_
    rintro v342 w343 ⟨rfl,hs341⟩
    refine⟨Zqo,?_⟩
    refine Zr 15 3 [] ?_
    rcases Bool.eq_false_or_eq_true (!(mayS xx)) with h344|h344
    ·refine Zqs 110 true h344 ?_
     have h344n:(mayS xx)=false:=notT h344
     refine Zr 18 1 [] ?_
     refine GoR.skip rfl (by kernel_rfl) Zqo ?_
     refine Zr 20 1 [] ?_
     refine GoR.skip rfl (by kernel_rfl) Zqo ?_
     refine Zr 22 2 [] ?_
     refine Zd (Zt (ZqT (Zs ?_)))
     refine Zqt (.rd 0 (.ef 1 (.rd 2 .done))) ?_
     refine Zr 0 1 [] ?_
     refine Zw (b:=b1) (off:=0) (v:=.agg (TSt.cells dSt)) (ti:=Tryz.t41) (by kernel_rfl) hs341 7 (L':=(Cel cc4 #[.slice azz rrz.length czz,.bool spz] 124)::(Sl xx.pa xx.pc 5 1 byteC xx.pl)::(Sl xx.bd.qa xx.bd.qc 205 2 TPr.cells xx.bd.ql)::(Sl xx.pk.ma xx.pk.mc 58 121 TMs.cells xx.pk.ml)::(QS xx.pk.ml)::(Cel b22 (TSt.cells xx) 41)::(Sl ao5 co6 5 1 byteC b)::(Cel b1 (TSt.cells dSt) 41)::L) ?_
     intro w345 hs346
     refine⟨Zqo,?_⟩
     refine Zr 2 1 [] ?_
     refine Zd (Zt (Ze (Zy ?_)))
     refine GoQ.done (.inl rfl) (v:=.tuple #[.agg (TSt.cells dSt),.int .i64 5]) (fun a hf=>resultsAV rfl (by kernel_rfl) (by kernel_rfl) (ti:=Tryz.t41) (by kernel_rfl) (by kernel_rfl) (vs:=(TSt.cells dSt)) (by kernel_rfl) (hs346.cells 7 0 rfl (by kernel_rfl)) a hf) ?_
     have hs347:St w0 ((Sl none 0 5 1 byteC ([]:List Int))::(Cel cc4 #[.slice azz rrz.length czz,.bool spz] 124)::(Sl xx.pa xx.pc 5 1 byteC xx.pl)::(Sl xx.bd.qa xx.bd.qc 205 2 TPr.cells xx.bd.ql)::(Sl xx.pk.ma xx.pk.mc 58 121 TMs.cells xx.pk.ml)::(QS xx.pk.ml)::(Cel b22 (TSt.cells xx) 41)::(Sl ao5 co6 5 1 byteC b)::(Cel b1 (TSt.cells dSt) 41)::L) w345:=St.slNil hs346 5 1 byteC
     have hs348:St w0 ((Sl none 0 205 2 TPr.cells ([]:List TPr))::(Sl none 0 5 1 byteC ([]:List Int))::(Cel cc4 #[.slice azz rrz.length czz,.bool spz] 124)::(Sl xx.pa xx.pc 5 1 byteC xx.pl)::(Sl xx.bd.qa xx.bd.qc 205 2 TPr.cells xx.bd.ql)::(Sl xx.pk.ma xx.pk.mc 58 121 TMs.cells xx.pk.ml)::(QS xx.pk.ml)::(Cel b22 (TSt.cells xx) 41)::(Sl ao5 co6 5 1 byteC b)::(Cel b1 (TSt.cells dSt) 41)::L) w345:=St.slNil hs347 205 2 TPr.cells
     have hs349:St w0 ((Sl none 0 58 121 TMs.cells ([]:List TMs))::(Sl none 0 205 2 TPr.cells ([]:List TPr))::(Sl none 0 5 1 byteC ([]:List Int))::(Cel cc4 #[.slice azz rrz.length czz,.bool spz] 124)::(Sl xx.pa xx.pc 5 1 byteC xx.pl)::(Sl xx.bd.qa xx.bd.qc 205 2 TPr.cells xx.bd.ql)::(Sl xx.pk.ma xx.pk.mc 58 121 TMs.cells xx.pk.ml)::(QS xx.pk.ml)::(Cel b22 (TSt.cells xx) 41)::(Sl ao5 co6 5 1 byteC b)::(Cel b1 (TSt.cells dSt) 41)::L) w345:=St.slNil hs348 58 121 TMs.cells
     have hs350:St w0 ((QS ([]:List TMs))::(Sl none 0 58 121 TMs.cells ([]:List TMs))::(Sl none 0 205 2 TPr.cells ([]:List TPr))::(Sl none 0 5 1 byteC ([]:List Int))::(Cel cc4 #[.slice azz rrz.length czz,.bool spz] 124)::(Sl xx.pa xx.pc 5 1 byteC xx.pl)::(Sl xx.bd.qa xx.bd.qc 205 2 TPr.cells xx.bd.ql)::(Sl xx.pk.ma xx.pk.mc 58 121 TMs.cells xx.pk.ml)::(QS xx.pk.ml)::(Cel b22 (TSt.cells xx) 41)::(Sl ao5 co6 5 1 byteC b)::(Cel b1 (TSt.cells dSt) 41)::L) w345:=St.addNothing hs349
     have hs351:St w0 ((Cel cc4 #[.slice azz rrz.length czz,.bool spz] 124)::(Sl xx.pa xx.pc 5 1 byteC xx.pl)::(Sl xx.bd.qa xx.bd.qc 205 2 TPr.cells xx.bd.ql)::(Sl xx.pk.ma xx.pk.mc 58 121 TMs.cells xx.pk.ml)::(QS xx.pk.ml)::(Cel b22 (TSt.cells xx) 41)::(Sl ao5 co6 5 1 byteC b)::(Cel b1 (TSt.cells dSt) 41)::(Sl none 0 5 1 byteC ([]:List Int))::(Sl none 0 205 2 TPr.cells ([]:List TPr))::(Sl none 0 58 121 TMs.cells ([]:List TMs))::(QS ([]:List TMs))::L) w345:=((((((((((((hs350.pull 0 rfl).pull 1 rfl).pull 2 rfl).pull 3 rfl).pull 11 rfl).pull 11 rfl).pull 11 rfl).pull 11 rfl).pull 11 rfl).pull 11 rfl).pull 11 rfl).pull 11 rfl)
     have hs352:St w0 ((Sl none 0 5 1 byteC ([]:List Int))::(Sl none 0 205 2 TPr.cells ([]:List TPr))::(Sl none 0 58 121 TMs.cells ([]:List TMs))::(QS ([]:List TMs))::L) w345:=hs351.drop 8
     exact⟨dSt,5,rfl,(by unfold getT;rw [ht];unfold finT;simp only [];rw [if_neg (by simpa using h307),if_neg (by simpa using h320),if_neg (by omega),mayS_con,if_pos (notT h344)];rfl),dSt_ok,(fun m hm=>by cases hm),hs352⟩
    ·refine Zqs 110 false h344 ?_
     have h344n:(mayS xx)=true:=notF h344
     refine Zp 18 1 [(18,.agg (TSt.cells xx))] [(18,[.prop (Array.size (TSt.cells xx)=107),.cells ⟨b22,0,none⟩ (TSt.cells xx)])] (ak (okp (by kernel_rfl) (oka (hs341.cells 5 0 rfl (by kernel_rfl)) ok0)) ak0) ?_
     refine Zqa (f:=6) (args:=#[.agg (TSt.cells xx)]) Tryz.call6 (putS_spec xx hxo (fun k hk=>⟨hxm _ (getD_mem (d:=dMs) hk),fun w h=>QS_rows (h.at_ 4 rfl) hk⟩) (fun w h=>h.rows 2 rfl (dPrF).size _) (fun w h=>h.rows 3 rfl (dMsF).size _) (fun w h=>h.rows 1 rfl (byteF).size _) hs341) ?_
     rintro v356 w357 ⟨ao353,co354,rfl,hs355⟩
     refine⟨Zqo,?_⟩
     refine Zr 20 1 [] ?_
     refine Zqa (f:=38) (args:=#[.slice ao353 ((putS xx).length) co354,.slice ad b.length cb]) Tryz.call38 (bytesEq_spec (putS xx) b (putS_byt hxo hxm) hbb (fun w h=>h.rows 0 rfl (byteF).size _) (fun w h=>hr _ (h.drop 9)) hs355) ?_
     rintro v359 w360 ⟨rfl,hs358⟩
     refine⟨Zqo,?_⟩
     refine Zr 22 2 [] ?_
     refine Zd (Zt ?_)
     refine Zqc (t:=!(decide ((putS xx)=b))) (fun h361=>?_) (fun h361=>?_)
     ·have h361n:(decide ((putS xx)=b))=false:=notT h361
      refine Zs ?_
      refine Zqt (.rd 0 (.ef 1 (.rd 2 .done))) ?_
      refine Zr 0 1 [] ?_
      refine Zw (b:=b1) (off:=0) (v:=.agg (TSt.cells dSt)) (ti:=Tryz.t41) (by kernel_rfl) hs358 8 (L':=(Sl ao353 co354 5 1 byteC (putS xx))::(Cel cc4 #[.slice azz rrz.length czz,.bool spz] 124)::(Sl xx.pa xx.pc 5 1 byteC xx.pl)::(Sl xx.bd.qa xx.bd.qc 205 2 TPr.cells xx.bd.ql)::(Sl xx.pk.ma xx.pk.mc 58 121 TMs.cells xx.pk.ml)::(QS xx.pk.ml)::(Cel b22 (TSt.cells xx) 41)::(Sl ao5 co6 5 1 byteC b)::(Cel b1 (TSt.cells dSt) 41)::L) ?_
      intro w362 hs363
      refine⟨Zqo,?_⟩
      refine Zr 2 1 [] ?_
      refine Zd (Zt (Ze (Zy ?_)))
      refine GoQ.done (.inl rfl) (v:=.tuple #[.agg (TSt.cells dSt),.int .i64 5]) (fun a hf=>resultsAV rfl (by kernel_rfl) (by kernel_rfl) (ti:=Tryz.t41) (by kernel_rfl) (by kernel_rfl) (vs:=(TSt.cells dSt)) (by kernel_rfl) (hs363.cells 8 0 rfl (by kernel_rfl)) a hf) ?_
      have hs364:St w0 ((Sl none 0 5 1 byteC ([]:List Int))::(Sl ao353 co354 5 1 byteC (putS xx))::(Cel cc4 #[.slice azz rrz.length czz,.bool spz] 124)::(Sl xx.pa xx.pc 5 1 byteC xx.pl)::(Sl xx.bd.qa xx.bd.qc 205 2 TPr.cells xx.bd.ql)::(Sl xx.pk.ma xx.pk.mc 58 121 TMs.cells xx.pk.ml)::(QS xx.pk.ml)::(Cel b22 (TSt.cells xx) 41)::(Sl ao5 co6 5 1 byteC b)::(Cel b1 (TSt.cells dSt) 41)::L) w362:=St.slNil hs363 5 1 byteC
      have hs365:St w0 ((Sl none 0 205 2 TPr.cells ([]:List TPr))::(Sl none 0 5 1 byteC ([]:List Int))::(Sl ao353 co354 5 1 byteC (putS xx))::(Cel cc4 #[.slice azz rrz.length czz,.bool spz] 124)::(Sl xx.pa xx.pc 5 1 byteC xx.pl)::(Sl xx.bd.qa xx.bd.qc 205 2 TPr.cells xx.bd.ql)::(Sl xx.pk.ma xx.pk.mc 58 121 TMs.cells xx.pk.ml)::(QS xx.pk.ml)::(Cel b22 (TSt.cells xx) 41)::(Sl ao5 co6 5 1 byteC b)::(Cel b1 (TSt.cells dSt) 41)::L) w362:=St.slNil hs364 205 2 TPr.cells
      have hs366:St w0 ((Sl none 0 58 121 TMs.cells ([]:List TMs))::(Sl none 0 205 2 TPr.cells ([]:List TPr))::(Sl none 0 5 1 byteC ([]:List Int))::(Sl ao353 co354 5 1 byteC (putS xx))::(Cel cc4 #[.slice azz rrz.length czz,.bool spz] 124)::(Sl xx.pa xx.pc 5 1 byteC xx.pl)::(Sl xx.bd.qa xx.bd.qc 205 2 TPr.cells xx.bd.ql)::(Sl xx.pk.ma xx.pk.mc 58 121 TMs.cells xx.pk.ml)::(QS xx.pk.ml)::(Cel b22 (TSt.cells xx) 41)::(Sl ao5 co6 5 1 byteC b)::(Cel b1 (TSt.cells dSt) 41)::L) w362:=St.slNil hs365 58 121 TMs.cells
      have hs367:St w0 ((QS ([]:List TMs))::(Sl none 0 58 121 TMs.cells ([]:List TMs))::(Sl none 0 205 2 TPr.cells ([]:List TPr))::(Sl none 0 5 1 byteC ([]:List Int))::(Sl ao353 co354 5 1 byteC (putS xx))::(Cel cc4 #[.slice azz rrz.length czz,.bool spz] 124)::(Sl xx.pa xx.pc 5 1 byteC xx.pl)::(Sl xx.bd.qa xx.bd.qc 205 2 TPr.cells xx.bd.ql)::(Sl xx.pk.ma xx.pk.mc 58 121 TMs.cells xx.pk.ml)::(QS xx.pk.ml)::(Cel b22 (TSt.cells xx) 41)::(Sl ao5 co6 5 1 byteC b)::(Cel b1 (TSt.cells dSt) 41)::L) w362:=St.addNothing hs366
      have hs368:St w0 ((Sl ao353 co354 5 1 byteC (putS xx))::(Cel cc4 #[.slice azz rrz.length czz,.bool spz] 124)::(Sl xx.pa xx.pc 5 1 byteC xx.pl)::(Sl xx.bd.qa xx.bd.qc 205 2 TPr.cells xx.bd.ql)::(Sl xx.pk.ma xx.pk.mc 58 121 TMs.cells xx.pk.ml)::(QS xx.pk.ml)::(Cel b22 (TSt.cells xx) 41)::(Sl ao5 co6 5 1 byteC b)::(Cel b1 (TSt.cells dSt) 41)::(Sl none 0 5 1 byteC ([]:List Int))::(Sl none 0 205 2 TPr.cells ([]:List TPr))::(Sl none 0 58 121 TMs.cells ([]:List TMs))::(QS ([]:List TMs))::L) w362:=(((((((((((((hs367.pull 0 rfl).pull 1 rfl).pull 2 rfl).pull 3 rfl).pull 12 rfl).pull 12 rfl).pull 12 rfl).pull 12 rfl).pull 12 rfl).pull 12 rfl).pull 12 rfl).pull 12 rfl).pull 12 rfl)
      have hs369:St w0 ((Sl none 0 5 1 byteC ([]:List Int))::(Sl none 0 205 2 TPr.cells ([]:List TPr))::(Sl none 0 58 121 TMs.cells ([]:List TMs))::(QS ([]:List TMs))::L) w362:=hs368.drop 9
      exact⟨dSt,5,rfl,(by unfold getT;rw [ht];unfold finT;simp only [];rw [if_neg (by simpa using h307),if_neg (by simpa using h320),if_neg (by omega),mayS_con,if_neg (by rw [notF h344];decide),putS_con,if_neg (of_decide_eq_false (notT h361))];rfl),dSt_ok,(fun m hm=>by cases hm),hs369⟩
     ·have h361n:(decide ((putS xx)=b))=true:=notF h361
      refine Zk (Zt (Zs ?_))
      refine Zqt (.rd 0 (.ef 1 (.rd 2 .done))) ?_
      refine Zp 0 1 [(0,.agg (TSt.cells xx))] [(0,[.prop (Array.size (TSt.cells xx)=107),.cells ⟨b22,0,none⟩ (TSt.cells xx)])] (ak (okp (by kernel_rfl) (oka (hs358.cells 6 0 rfl (by kernel_rfl)) ok0)) ak0) ?_
      refine Zw (b:=b1) (off:=0) (v:=.agg (TSt.cells xx)) (ti:=Tryz.t41) (by kernel_rfl) hs358 8 (L':=(Sl ao353 co354 5 1 byteC (putS xx))::(Cel cc4 #[.slice azz rrz.length czz,.bool spz] 124)::(Sl xx.pa xx.pc 5 1 byteC xx.pl)::(Sl xx.bd.qa xx.bd.qc 205 2 TPr.cells xx.bd.ql)::(Sl xx.pk.ma xx.pk.mc 58 121 TMs.cells xx.pk.ml)::(QS xx.pk.ml)::(Cel b22 (TSt.cells xx) 41)::(Sl ao5 co6 5 1 byteC b)::(Cel b1 (TSt.cells xx) 41)::L) ?_
      intro w370 hs371
      refine⟨Zqo,?_⟩
      refine Zr 2 1 [] ?_
      refine Zd (Zt (Ze ?_))
      refine GoQ.done (.inl rfl) (v:=.tuple #[.agg (TSt.cells xx),.int .i64 0]) (fun a hf=>resultsAV rfl (by kernel_rfl) (by kernel_rfl) (ti:=Tryz.t41) (by kernel_rfl) (by kernel_rfl) (vs:=(TSt.cells xx)) (by kernel_rfl) (hs371.cells 8 0 rfl (by kernel_rfl)) a hf) ?_
      have hs372:St w0 ((Sl ao353 co354 5 1 byteC (putS xx))::(Cel cc4 #[.slice azz rrz.length czz,.bool spz] 124)::(Cel b22 (TSt.cells xx) 41)::(Sl ao5 co6 5 1 byteC b)::(Cel b1 (TSt.cells xx) 41)::(Sl xx.pa xx.pc 5 1 byteC xx.pl)::(Sl xx.bd.qa xx.bd.qc 205 2 TPr.cells xx.bd.ql)::(Sl xx.pk.ma xx.pk.mc 58 121 TMs.cells xx.pk.ml)::(QS xx.pk.ml)::L) w370:=(((((((((hs371.pull 5 rfl).pull 5 rfl).pull 5 rfl).pull 5 rfl).pull 8 rfl).pull 8 rfl).pull 8 rfl).pull 8 rfl).pull 8 rfl)
      have hs373:St w0 ((Sl xx.pa xx.pc 5 1 byteC xx.pl)::(Sl xx.bd.qa xx.bd.qc 205 2 TPr.cells xx.bd.ql)::(Sl xx.pk.ma xx.pk.mc 58 121 TMs.cells xx.pk.ml)::(QS xx.pk.ml)::L) w370:=hs372.drop 5
      exact⟨xx,0,rfl,(by unfold getT;rw [ht];unfold finT;simp only [];rw [if_neg (by simpa using h307),if_neg (by simpa using h320),if_neg (by omega),mayS_con,if_neg (by rw [notF h344];decide),putS_con,if_pos (of_decide_eq_true (notF h361))]),hxo,hxm,hs373⟩
end Go.Proofs.YtmeacpdadahafaaGreatDoor
