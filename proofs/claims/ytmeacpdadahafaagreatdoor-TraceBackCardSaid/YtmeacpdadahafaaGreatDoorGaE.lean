/-
  Several texts in one: TbS, TbT, TbU, TbW.
-/
import Derived.Test.YtmeacpdadahafaaGreatDoorSxT
import Derived.Test.YtmeacpdadahafaaGreatDoorGaD
namespace Go.Proofs.YtmeacpdadahafaaGreatDoor
open Go.RowKit Go.Sx
set_option linter.unusedVariables false
set_option linter.unusedSimpArgs false
set_option linter.unnecessarySimpa false
set_option maxRecDepth 100000
theorem pairs_spec {w0 w:World}{L:List Asn}{ax:Option Addr}{cx:Nat}{ay:Option Addr}{cy:Nat}(x:List TPr) (y:List TPr) (hll:x.length≤9223372036854775807) (hr1:∀ w,St w0 L w→RowsAt w ax x.length 2 (fun k=>TPr.cells (x.getD k dPr))) (hr2:∀ w,St w0 L w→RowsAt w ay y.length 2 (fun k=>TPr.cells (y.getD k dPr))) (hs:St w0 (L) w):Calls Tryz.prog 73 #[.slice ax x.length cx,.slice ay y.length cy] w (Ret fun rv w'=>rv=.bool (decide (x=y))∧St w0 (L) w'):=by
 refine Zen (args:=[.slice ax x.length cx,.slice ay y.length cy]) Tryz.func73 Tryz.ntmps73 ?_
 refine Zn [(0,.slice ax x.length cx),(1,.slice ay y.length cy)] ?_
 refine Zs ?_
 refine Zqt (.rd 0 .done) ?_
 refine Zr 0 1 [] ?_
 refine Zd (Zt (Zs (Zs ?_)))
 refine Zqt (.rd 0 (.rd 1 (.rd 2 (.rd 3 (.rd 4 .done))))) ?_
 refine Zr 0 5 [] ?_
 refine Zd (Zt ?_)
 refine Zqc (t:=((x.length:Nat):Int) != (y.length:Nat)) (fun h1=>?_) (fun h1=>?_)
 ·have h1':¬ (((x.length:Nat):Int)=(y.length:Nat)):=ineT h1
  refine Zs ?_
  refine Zqt (.rd 0 .done) ?_
  refine Zr 0 1 [] ?_
  refine Zd (Zt (Ze (Zy ?_)))
  refine Zq1 (v:=.bool false) ?_
  exact⟨(by rw [decide_eq_false fun h9=>absurd (congrArg List.length h9) (by omega)]),hs⟩
 ·have h1':((x.length:Nat):Int)=(y.length:Nat):=ineF h1
  have hln:x.length=y.length:=by omega
  refine Zk (Zt (Zs (Zs ?_)))
  refine Zqt (.rd 0 .done) ?_
  refine Zr 0 1 [] ?_
  refine Zd (Zt (Zb ?_))
  refine GoC.loop (T:=Nat×(Option Addr)×(Option Addr)) (fun gg=>[(0,.slice gg.2.1 x.length cx),(1,.slice gg.2.2 y.length cy),(5,.int .i64 (gg.1:Nat))]) (fun gg w=>(gg.1≤x.length∧x.take gg.1=y.take gg.1∧(∀ w,St w0 L w→RowsAt w gg.2.1 x.length 2 (fun q=>TPr.cells (x.getD q dPr)))∧(∀ w,St w0 L w→RowsAt w gg.2.2 y.length 2 (fun q=>TPr.cells (y.getD q dPr))))∧St w0 (L) w) (fun gg=>x.length-gg.1) (0,ax,ay) [0,1,5] (by kernel_rfl) ⟨⟨Nat.zero_le _,rfl,hr1,hr2⟩,hs⟩ ?_
  rintro⟨k,aq,bq⟩ w2 ⟨hp0,hs3⟩
  have hp:k≤x.length∧x.take k=y.take k∧(∀ w,St w0 L w→RowsAt w aq x.length 2 (fun q=>TPr.cells (x.getD q dPr)))∧(∀ w,St w0 L w→RowsAt w bq y.length 2 (fun q=>TPr.cells (y.getD q dPr))):=hp0
  have hs4:St w0 (L) w2:=hs3
  refine Zn [(0,.slice aq x.length cx),(1,.slice bq y.length cy),(5,.int .i64 (k:Nat))] ?_
  have hw1:=hp.2.2.1
  have hw2:=hp.2.2.2
  refine Zs (Zs ?_)
  refine Zqt (.rd 0 (.rd 1 (.rd 2 (.rd 3 .done)))) ?_
  refine Zr 0 4 [] ?_
  refine Zd (Zt ?_)
  refine Zqc (t:=decide (((k:Nat):Int)<(x.length:Nat))) (fun h5=>?_) (fun h5=>?_)
  ·have h5':((k:Nat):Int)<(x.length:Nat):=of_decide_eq_true h5
   have hkx:k<x.length:=by omega
   have hky:k<y.length:=by omega
   obtain⟨ab6,ao7,rfl⟩:=RowsAt.isSome (hw1 _ (hs4.drop 0)) (by omega)
   obtain⟨ab8,ao9,rfl⟩:=RowsAt.isSome (hw2 _ (hs4.drop 0)) (by omega)
   refine Zk (Zt (Zs (Zb (Zs ?_))))
   refine GoC.regD [0,0,3,7,0,0,48,112,255] (.rd 0 (.rd 1 (.rd 2 (.rd 3 (.rd 4 (.rd 5 (.rd 6 (.rd 7 (.rd 8 .done))))))))) (by kernel_rfl) (by kernel_rfl) noPan_body (by kernel_rfl) hs4 ?_
   intro w10 hs11 hw12
   refine Zp 0 8 [(2,.as_ (zP ab6 (ao7+(k*2))) .at_),(3,.agg (TPr.cells (x.getD k dPr))),(6,.as_ (zP ab8 (ao9+(k*2))) .at_),(7,.agg (TPr.cells (y.getD k dPr)))] [(2,[.prop (0≤((k:Nat):Int)∧((k:Nat):Int)<((x.length:Nat):Int)),.prop (Value.pointer (some (Addr.add ⟨ab6,ao7,none⟩ (Int.toNat (k:Nat)*2)))=Value.pointer (some ⟨ab6,ao7+(k*2),none⟩))]),(3,[.prop (Array.size (TPr.cells (x.getD k dPr))=2),.cells ⟨ab6,ao7+(k*2),none⟩ (TPr.cells (x.getD k dPr))]),(6,[.prop (0≤((k:Nat):Int)∧((k:Nat):Int)<((y.length:Nat):Int)),.prop (Value.pointer (some (Addr.add ⟨ab8,ao9,none⟩ (Int.toNat (k:Nat)*2)))=Value.pointer (some ⟨ab8,ao9+(k*2),none⟩))]),(7,[.prop (Array.size (TPr.cells (y.getD k dPr))=2),.cells ⟨ab8,ao9+(k*2),none⟩ (TPr.cells (y.getD k dPr))])] (ak (okp (by omega) (okp (ptrAdd _ _ _) ok0)) (ak (okp (by kernel_rfl) (oka (RowsAt.all0 (hw1 _ (hs11.drop 0)) (by first|omega|(simp only [List.length_set];omega)|(simp only [List.length_set,lA,lC,lN];omega)) (Nat.le_of_ble_eq_true (by kernel_rfl)) (by kernel_rfl)) ok0)) (ak (okp (by omega) (okp (ptrAdd _ _ _) ok0)) (ak (okp (by kernel_rfl) (oka (RowsAt.all0 (hw2 _ (hs11.drop 0)) (by first|omega|(simp only [List.length_set];omega)|(simp only [List.length_set,lA,lC,lN];omega)) (Nat.le_of_ble_eq_true (by kernel_rfl)) (by kernel_rfl)) ok0)) ak0)))) ?_
   refine GoR.eqAgg rfl (by kernel_rfl) (b:=false) (t:=205) (xs:=TPr.cells (x.getD k dPr)) (ys:=TPr.cells (y.getD k dPr)) (m:=2) (by kernel_rfl) (by kernel_rfl) (by decide) (by kernel_rfl) (r:=!(decide ((x.getD k dPr)=(y.getD k dPr)))) (aggNe  (prEq (x.getD k dPr) (y.getD k dPr))) ?_
   refine Zd (Zt ?_)
   refine Zqc (t:=!(decide ((x.getD k dPr)=(y.getD k dPr)))) (fun h13=>?_) (fun h13=>?_)
   ·have h13n:(decide ((x.getD k dPr)=(y.getD k dPr)))=false:=notT h13
    have h13n':¬ ((x.getD k dPr)=(y.getD k dPr)):=of_decide_eq_false h13n
    have hne:¬ (x.getD k dPr=y.getD k dPr):=by simpa using h13
    refine Zs ?_
    refine Zqt (.rd 0 .done) ?_
    refine Zr 0 1 [] ?_
    refine Zd (Zt (Ze (Zl (Zy (GoQ.skipLR (Zl (Zy ?_)))))))
    refine Zq1 (v:=.bool false) ?_
    exact⟨(by rw [decide_eq_false fun h9=>hne (by rw [h9])]),hs11⟩
   ·have h13n:(decide ((x.getD k dPr)=(y.getD k dPr)))=true:=notF h13
    have h13n':(x.getD k dPr)=(y.getD k dPr):=of_decide_eq_true h13n
    have heq:x.getD k dPr=y.getD k dPr:=by simpa using h13
    refine Zk (Zm (Zt ?_))
    refine Zqt (.rd 0 (.rd 1 (.rd 2 .done))) ?_
    refine Zp 0 3 [(1,.as_ (.int .i64 ((k:Nat)+1)) (.gen []))] [(1,[.prop (Value.int .i64 (IntKind.i64.wrap ((k:Nat)+1))=Value.int .i64 ((k:Nat)+1))])] (ak (okp (i64ok (by omega) (by omega)) ok0) ak0) ?_
    refine Zd ?_
    exact GoQ.back (k+1,some ⟨ab6,ao7,none⟩,some ⟨ab8,ao9,none⟩) [0,1,5] (by kernel_rfl) (by show x.length-(k+1)<x.length-k;omega) ⟨⟨by omega,by rw [take_succ_getD (d:=dPr) hkx,take_succ_getD (d:=dPr) hky,hp.2.1,heq],hw1,hw2⟩,hs11⟩
  ·have h5':¬ (((k:Nat):Int)<(x.length:Nat)):=of_decide_eq_false h5
   have hxy:x=y:=by rw [← List.take_of_length_le (i:=k) (l:=x) (by omega),← List.take_of_length_le (i:=k) (l:=y) (by omega)];exact hp.2.1
   refine Zx (GoQ.skipC (GoQ.skipL (GoQ.hit (Zt (Zs ?_)))))
   refine Zqt (.rd 0 .done) ?_
   refine Zr 0 1 [] ?_
   refine Zd (Zt (Ze ?_))
   refine Zq1 (v:=.bool true) ?_
   exact⟨(by rw [decide_eq_true hxy]),hs4⟩
def same8B (x:TBd) (y:TBd):Bool :=
 if ((x.kd:Int) == y.kd)=true then
  if ((x.vw:Int) == y.vw)=true then
   if ((x.k:Int) == y.k)=true then
    if (decide (x.rq=y.rq))=true then
     if (decide (x.ql=y.ql))=true then
      decide (x.dg=y.dg)
     else
      false
    else
     false
   else
    false
  else
   false
 else
  false
theorem sameBody8_spec {w0 w:World}{L:List Asn}(x:TBd) (y:TBd) (hqn:x.ql.length≤9223372036854775807) (hr1:∀ w,St w0 L w→RowsAt w x.qa x.ql.length 2 (fun k=>TPr.cells (x.ql.getD k dPr))) (hr2:∀ w,St w0 L w→RowsAt w y.qa y.ql.length 2 (fun k=>TPr.cells (y.ql.getD k dPr))) (hs:St w0 (L) w):Calls Tryz.prog 59 #[.agg (TBd.cells x),.agg (TBd.cells y)] w (Ret fun rv w'=>rv=.bool (same8B x y)∧St w0 (L) w'):=by
 refine Zen (args:=[.agg (TBd.cells x),.agg (TBd.cells y)]) Tryz.func59 Tryz.ntmps59 ?_
 refine Zn [(0,.agg (TBd.cells x)),(1,.agg (TBd.cells y))] ?_
 refine Zs ?_
 refine Zqt (.ef 0 (.ef 1 (.rd 2 .done))) ?_
 refine GoR.box rfl rfl (by kernel_rfl) (v:=.agg (TBd.cells x)) (by kernel_rfl) hs (cs:=TBd.cells x) (by kernel_rfl) ?_
 intro b1 w2 hs3
 refine⟨Zqo,?_⟩
 refine GoR.box rfl rfl (by kernel_rfl) (v:=.agg (TBd.cells y)) (by kernel_rfl) hs3 (cs:=TBd.cells y) (by kernel_rfl) ?_
 intro b4 w5 hs6
 refine⟨Zqo,?_⟩
 refine Zr 2 1 [] ?_
 refine Zd (Zt (Zs ?_))
 refine Zqt (.rd 0 (.rd 1 (.rd 2 (.rd 3 (.rd 4 (.rd 5 (.rd 6 (.rd 7 (.rd 8 (.rd 9 (.rd 10 (.rd 11 (.rd 12 (.rd 13 (.rd 14 (.rd 15 (.rd 16 (.rd 17 (.rd 18 (.rd 19 (.rd 20 (.rd 21 (.rd 22 (.rd 23 (.rd 24 (.rd 25 (.rd 26 (.rd 27 (.rd 28 (.rd 29 (.rd 30 (.ef 31 (.rd 32 (.rd 33 (.rd 34 (.rd 35 (.rd 36 (.rd 37 (.rd 38 (.rd 39 (.rd 40 .done))))))))))))))))))))))))))))))))))))))))) ?_
 refine Zp 0 6 [(1,.gen [.int .u8 x.kd]),(3,.gen [.int .u8 y.kd])] [(1,[.cell ⟨b1,0,none⟩ (.int .u8 x.kd)]),(3,[.cell ⟨b4,0,none⟩ (.int .u8 y.kd)])] (ak (okc (hs6.cell 1 rfl (by kernel_rfl)) ok0) (ak (okc (hs6.cell 0 rfl (by kernel_rfl)) ok0) ak0)) ?_
 rcases Bool.eq_false_or_eq_true ((x.kd:Int) == y.kd) with h7|h7
 ·refine Zqs 10 true h7 ?_
  have h7':(x.kd:Int)=y.kd:=ieqT h7
  refine Zp 6 7 [(7,.gen [.int .u64 x.vw]),(9,.gen [.int .u64 y.vw])] [(7,[.cell ⟨b1,1,none⟩ (.int .u64 x.vw)]),(9,[.cell ⟨b4,1,none⟩ (.int .u64 y.vw)])] (ak (okc (hs6.cell 1 rfl (by kernel_rfl)) ok0) (ak (okc (hs6.cell 0 rfl (by kernel_rfl)) ok0) ak0)) ?_
  rcases Bool.eq_false_or_eq_true ((x.vw:Int) == y.vw) with h8|h8
  ·refine Zqs 17 true h8 ?_
   have h8':(x.vw:Int)=y.vw:=ieqT h8
   refine Zp 13 7 [(14,.gen [.int .u64 x.k]),(16,.gen [.int .u64 y.k])] [(14,[.cell ⟨b1,2,none⟩ (.int .u64 x.k)]),(16,[.cell ⟨b4,2,none⟩ (.int .u64 y.k)])] (ak (okc (hs6.cell 1 rfl (by kernel_rfl)) ok0) (ak (okc (hs6.cell 0 rfl (by kernel_rfl)) ok0) ak0)) ?_
   rcases Bool.eq_false_or_eq_true ((x.k:Int) == y.k) with h9|h9
   ·refine Zqs 24 true h9 ?_
    have h9':(x.k:Int)=y.k:=ieqT h9
    refine Zp 20 4 [(21,.agg (TRq.cells x.rq)),(23,.agg (TRq.cells y.rq))] [(21,[.prop (Array.size (TRq.cells x.rq)=40),.cells ⟨b1,3,none⟩ (TRq.cells x.rq)]),(23,[.prop (Array.size (TRq.cells y.rq)=40),.cells ⟨b4,3,none⟩ (TRq.cells y.rq)])] (ak (okp (by kernel_rfl) (oka (hs6.cells 1 3 rfl (by kernel_rfl)) ok0)) (ak (okp (by kernel_rfl) (oka (hs6.cells 0 3 rfl (by kernel_rfl)) ok0)) ak0)) ?_
    refine GoR.eqAgg rfl (by kernel_rfl) (b:=true) (t:=27) (xs:=TRq.cells x.rq) (ys:=TRq.cells y.rq) (m:=3) (by kernel_rfl) (by kernel_rfl) (by decide) (by kernel_rfl) (r:=decide (x.rq=y.rq)) (aggEq  (rqEq x.rq y.rq)) ?_
    refine Zr 25 2 [] ?_
    rcases Bool.eq_false_or_eq_true (decide (x.rq=y.rq)) with h10|h10
    ·refine Zqs 31 true h10 ?_
     have h10':x.rq=y.rq:=of_decide_eq_true h10
     refine Zp 27 4 [(28,.gen [.slice x.qa x.ql.length x.qc]),(30,.gen [.slice y.qa y.ql.length y.qc])] [(28,[.cell ⟨b1,43,none⟩ (.slice x.qa x.ql.length x.qc)]),(30,[.cell ⟨b4,43,none⟩ (.slice y.qa y.ql.length y.qc)])] (ak (okc (hs6.cell 1 rfl (by kernel_rfl)) ok0) (ak (okc (hs6.cell 0 rfl (by kernel_rfl)) ok0) ak0)) ?_
     refine Zqa (f:=73) (args:=#[.slice x.qa x.ql.length x.qc,.slice y.qa y.ql.length y.qc]) Tryz.call73 (pairs_spec x.ql y.ql (by first|assumption|omega) (fun w h=>hr1 _ (h.drop 2)) (fun w h=>hr2 _ (h.drop 2)) hs6) ?_
     rintro v12 w13 ⟨rfl,hs11⟩
     refine⟨Zqo,?_⟩
     refine Zr 32 2 [] ?_
     rcases Bool.eq_false_or_eq_true (decide (x.ql=y.ql)) with h14|h14
     ·refine Zqs 38 true h14 ?_
      refine Zp 34 4 [(35,.agg (D32.cells x.dg)),(37,.agg (D32.cells y.dg))] [(35,[.prop (Array.size (D32.cells x.dg)=32),.cells ⟨b1,44,none⟩ (D32.cells x.dg)]),(37,[.prop (Array.size (D32.cells y.dg)=32),.cells ⟨b4,44,none⟩ (D32.cells y.dg)])] (ak (okp (by kernel_rfl) (oka (hs11.cells 1 44 rfl (by kernel_rfl)) ok0)) (ak (okp (by kernel_rfl) (oka (hs11.cells 0 44 rfl (by kernel_rfl)) ok0)) ak0)) ?_
      refine GoR.eqAgg rfl (by kernel_rfl) (b:=true) (t:=25) (xs:=D32.cells x.dg) (ys:=D32.cells y.dg) (m:=2) (by kernel_rfl) (by kernel_rfl) (by decide) (by kernel_rfl) (r:=decide (x.dg=y.dg)) (aggEq  (digEq x.dg y.dg)) ?_
      refine Zr 39 2 [] ?_
      refine Zd (Zt (Ze ?_))
      refine Zq1 (v:=.bool (decide (x.dg=y.dg))) ?_
      have hr:same8B x y=decide (x.dg=y.dg):=by rw [same8B,if_pos h7,if_pos h8,if_pos h9,if_pos h10,if_pos h14]
      have hs15:St w0 (L) w13:=hs11.drop 2
      exact⟨(by first|rfl|(rw [hr];done)|(rw [hr];rfl)),(by first|exact hs15|(rw [hr];exact hs15))⟩
     ·refine Zqs 38 false h14 ?_
      refine Zr 34 7 [] ?_
      refine Zd (Zt (Ze ?_))
      refine Zq1 (v:=.bool false) ?_
      have hr:same8B x y=false:=by rw [same8B,if_pos h7,if_pos h8,if_pos h9,if_pos h10,if_neg (nF h14)]
      have hs16:St w0 (L) w13:=hs11.drop 2
      exact⟨(by first|rfl|(rw [hr];done)|(rw [hr];rfl)),(by first|exact hs16|(rw [hr];exact hs16))⟩
    ·refine Zqs 31 false h10 ?_
     have h10':¬ (x.rq=y.rq):=of_decide_eq_false h10
     refine Zr 27 4 [] ?_
     refine GoR.skip rfl (by kernel_rfl) Zqo ?_
     refine Zr 32 9 [] ?_
     refine Zd (Zt (Ze ?_))
     refine Zq1 (v:=.bool false) ?_
     have hr:same8B x y=false:=by rw [same8B,if_pos h7,if_pos h8,if_pos h9,if_neg (nF h10)]
     have hs17:St w0 (L) w5:=hs6.drop 2
     exact⟨(by first|rfl|(rw [hr];done)|(rw [hr];rfl)),(by first|exact hs17|(rw [hr];exact hs17))⟩
   ·refine Zqs 24 false h9 ?_
    have h9':¬ ((x.k:Int)=y.k):=ieqF h9
    refine Zr 20 11 [] ?_
    refine GoR.skip rfl (by kernel_rfl) Zqo ?_
    refine Zr 32 9 [] ?_
    refine Zd (Zt (Ze ?_))
    refine Zq1 (v:=.bool false) ?_
    have hr:same8B x y=false:=by rw [same8B,if_pos h7,if_pos h8,if_neg (nF h9)]
    have hs18:St w0 (L) w5:=hs6.drop 2
    exact⟨(by first|rfl|(rw [hr];done)|(rw [hr];rfl)),(by first|exact hs18|(rw [hr];exact hs18))⟩
  ·refine Zqs 17 false h8 ?_
   have h8':¬ ((x.vw:Int)=y.vw):=ieqF h8
   refine Zr 13 18 [] ?_
   refine GoR.skip rfl (by kernel_rfl) Zqo ?_
   refine Zr 32 9 [] ?_
   refine Zd (Zt (Ze ?_))
   refine Zq1 (v:=.bool false) ?_
   have hr:same8B x y=false:=by rw [same8B,if_pos h7,if_neg (nF h8)]
   have hs19:St w0 (L) w5:=hs6.drop 2
   exact⟨(by first|rfl|(rw [hr];done)|(rw [hr];rfl)),(by first|exact hs19|(rw [hr];exact hs19))⟩
 ·refine Zqs 10 false h7 ?_
  have h7':¬ ((x.kd:Int)=y.kd):=ieqF h7
  refine Zr 6 25 [] ?_
  refine GoR.skip rfl (by kernel_rfl) Zqo ?_
  refine Zr 32 9 [] ?_
  refine Zd (Zt (Ze ?_))
  refine Zq1 (v:=.bool false) ?_
  have hr:same8B x y=false:=by rw [same8B,if_neg (nF h7)]
  have hs20:St w0 (L) w5:=hs6.drop 2
  exact⟨(by first|rfl|(rw [hr];done)|(rw [hr];rfl)),(by first|exact hs20|(rw [hr];exact hs20))⟩
def same8M (m:TMs) (n:TMs):Bool :=
 if ((m.og:Int) == n.og)=true then
  if ((m.nr:Int) == n.nr)=true then
   if (decide (m.dp=n.dp))=true then
    if (same8B m.bd n.bd)=true then
     decide (m.tg=n.tg)
    else
     false
   else
    false
  else
   false
 else
  false
theorem same8_spec {w0 w:World}{L:List Asn}(m:TMs) (n:TMs) (hqn:m.bd.ql.length≤9223372036854775807) (hr1:∀ w,St w0 L w→RowsAt w m.bd.qa m.bd.ql.length 2 (fun k=>TPr.cells (m.bd.ql.getD k dPr))) (hr2:∀ w,St w0 L w→RowsAt w n.bd.qa n.bd.ql.length 2 (fun k=>TPr.cells (n.bd.ql.getD k dPr))) (hs:St w0 (L) w):Calls Tryz.prog 40 #[.agg (TMs.cells m),.agg (TMs.cells n)] w (Ret fun rv w'=>rv=.bool (same8M m n)∧St w0 (L) w'):=by
 refine Zen (args:=[.agg (TMs.cells m),.agg (TMs.cells n)]) Tryz.func40 Tryz.ntmps40 ?_
 refine Zn [(0,.agg (TMs.cells m)),(1,.agg (TMs.cells n))] ?_
 refine Zs ?_
 refine Zqt (.ef 0 (.ef 1 (.rd 2 .done))) ?_
 refine GoR.box rfl rfl (by kernel_rfl) (v:=.agg (TMs.cells m)) (by kernel_rfl) hs (cs:=TMs.cells m) (by kernel_rfl) ?_
 intro b1 w2 hs3
 refine⟨Zqo,?_⟩
 refine GoR.box rfl rfl (by kernel_rfl) (v:=.agg (TMs.cells n)) (by kernel_rfl) hs3 (cs:=TMs.cells n) (by kernel_rfl) ?_
 intro b4 w5 hs6
 refine⟨Zqo,?_⟩
 refine Zr 2 1 [] ?_
 refine Zd (Zt (Zs ?_))
 refine Zqt (.rd 0 (.rd 1 (.rd 2 (.rd 3 (.rd 4 (.rd 5 (.rd 6 (.rd 7 (.rd 8 (.rd 9 (.rd 10 (.rd 11 (.rd 12 (.rd 13 (.rd 14 (.rd 15 (.rd 16 (.rd 17 (.rd 18 (.rd 19 (.rd 20 (.rd 21 (.rd 22 (.rd 23 (.ef 24 (.rd 25 (.rd 26 (.rd 27 (.rd 28 (.rd 29 (.rd 30 (.rd 31 (.rd 32 (.rd 33 .done)))))))))))))))))))))))))))))))))) ?_
 refine Zp 0 6 [(1,.gen [.int .i64 m.og]),(3,.gen [.int .i64 n.og])] [(1,[.cell ⟨b1,0,none⟩ (.int .i64 m.og)]),(3,[.cell ⟨b4,0,none⟩ (.int .i64 n.og)])] (ak (okc (hs6.cell 1 rfl (by kernel_rfl)) ok0) (ak (okc (hs6.cell 0 rfl (by kernel_rfl)) ok0) ak0)) ?_
 rcases Bool.eq_false_or_eq_true ((m.og:Int) == n.og) with h7|h7
 ·refine Zqs 10 true h7 ?_
  have h7':(m.og:Int)=n.og:=ieqT h7
  refine Zp 6 7 [(7,.gen [.int .u64 m.nr]),(9,.gen [.int .u64 n.nr])] [(7,[.cell ⟨b1,1,none⟩ (.int .u64 m.nr)]),(9,[.cell ⟨b4,1,none⟩ (.int .u64 n.nr)])] (ak (okc (hs6.cell 1 rfl (by kernel_rfl)) ok0) (ak (okc (hs6.cell 0 rfl (by kernel_rfl)) ok0) ak0)) ?_
  rcases Bool.eq_false_or_eq_true ((m.nr:Int) == n.nr) with h8|h8
  ·refine Zqs 17 true h8 ?_
   have h8':(m.nr:Int)=n.nr:=ieqT h8
   refine Zp 13 4 [(14,.agg (VecD.cells m.dp)),(16,.agg (VecD.cells n.dp))] [(14,[.prop (Array.size (VecD.cells m.dp)=11),.cells ⟨b1,2,none⟩ (VecD.cells m.dp)]),(16,[.prop (Array.size (VecD.cells n.dp)=11),.cells ⟨b4,2,none⟩ (VecD.cells n.dp)])] (ak (okp (by kernel_rfl) (oka (hs6.cells 1 2 rfl (by kernel_rfl)) ok0)) (ak (okp (by kernel_rfl) (oka (hs6.cells 0 2 rfl (by kernel_rfl)) ok0)) ak0)) ?_
   refine GoR.eqAgg rfl (by kernel_rfl) (b:=true) (t:=32) (xs:=VecD.cells m.dp) (ys:=VecD.cells n.dp) (m:=2) (by kernel_rfl) (by kernel_rfl) (by decide) (by kernel_rfl) (r:=decide (m.dp=n.dp)) (aggEq  (vecEq m.dp n.dp)) ?_
   refine Zr 18 2 [] ?_
   rcases Bool.eq_false_or_eq_true (decide (m.dp=n.dp)) with h9|h9
   ·refine Zqs 24 true h9 ?_
    have h9':m.dp=n.dp:=of_decide_eq_true h9
    refine Zp 20 4 [(21,.agg (TBd.cells m.bd)),(23,.agg (TBd.cells n.bd))] [(21,[.prop (Array.size (TBd.cells m.bd)=76),.cells ⟨b1,13,none⟩ (TBd.cells m.bd)]),(23,[.prop (Array.size (TBd.cells n.bd)=76),.cells ⟨b4,13,none⟩ (TBd.cells n.bd)])] (ak (okp (by kernel_rfl) (oka (hs6.cells 1 13 rfl (by kernel_rfl)) ok0)) (ak (okp (by kernel_rfl) (oka (hs6.cells 0 13 rfl (by kernel_rfl)) ok0)) ak0)) ?_
    refine Zqa (f:=59) (args:=#[.agg (TBd.cells m.bd),.agg (TBd.cells n.bd)]) Tryz.call59 (sameBody8_spec m.bd n.bd (by first|assumption|omega) (fun w h=>hr1 _ (h.drop 2)) (fun w h=>hr2 _ (h.drop 2)) hs6) ?_
    rintro v11 w12 ⟨rfl,hs10⟩
    refine⟨Zqo,?_⟩
    refine Zr 25 2 [] ?_
    rcases Bool.eq_false_or_eq_true (same8B m.bd n.bd) with h13|h13
    ·refine Zqs 31 true h13 ?_
     refine Zp 27 4 [(28,.agg (D32.cells m.tg)),(30,.agg (D32.cells n.tg))] [(28,[.prop (Array.size (D32.cells m.tg)=32),.cells ⟨b1,89,none⟩ (D32.cells m.tg)]),(30,[.prop (Array.size (D32.cells n.tg)=32),.cells ⟨b4,89,none⟩ (D32.cells n.tg)])] (ak (okp (by kernel_rfl) (oka (hs10.cells 1 89 rfl (by kernel_rfl)) ok0)) (ak (okp (by kernel_rfl) (oka (hs10.cells 0 89 rfl (by kernel_rfl)) ok0)) ak0)) ?_
     refine GoR.eqAgg rfl (by kernel_rfl) (b:=true) (t:=25) (xs:=D32.cells m.tg) (ys:=D32.cells n.tg) (m:=2) (by kernel_rfl) (by kernel_rfl) (by decide) (by kernel_rfl) (r:=decide (m.tg=n.tg)) (aggEq  (digEq m.tg n.tg)) ?_
     refine Zr 32 2 [] ?_
     refine Zd (Zt (Ze ?_))
     refine Zq1 (v:=.bool (decide (m.tg=n.tg))) ?_
     have hr:same8M m n=decide (m.tg=n.tg):=by rw [same8M,if_pos h7,if_pos h8,if_pos h9,if_pos h13]
     have hs14:St w0 (L) w12:=hs10.drop 2
     exact⟨(by first|rfl|(rw [hr];done)|(rw [hr];rfl)),(by first|exact hs14|(rw [hr];exact hs14))⟩
    ·refine Zqs 31 false h13 ?_
     refine Zr 27 7 [] ?_
     refine Zd (Zt (Ze ?_))
     refine Zq1 (v:=.bool false) ?_
     have hr:same8M m n=false:=by rw [same8M,if_pos h7,if_pos h8,if_pos h9,if_neg (nF h13)]
     have hs15:St w0 (L) w12:=hs10.drop 2
     exact⟨(by first|rfl|(rw [hr];done)|(rw [hr];rfl)),(by first|exact hs15|(rw [hr];exact hs15))⟩
   ·refine Zqs 24 false h9 ?_
    have h9':¬ (m.dp=n.dp):=of_decide_eq_false h9
    refine Zr 20 4 [] ?_
    refine GoR.skip rfl (by kernel_rfl) Zqo ?_
    refine Zr 25 9 [] ?_
    refine Zd (Zt (Ze ?_))
    refine Zq1 (v:=.bool false) ?_
    have hr:same8M m n=false:=by rw [same8M,if_pos h7,if_pos h8,if_neg (nF h9)]
    have hs16:St w0 (L) w5:=hs6.drop 2
    exact⟨(by first|rfl|(rw [hr];done)|(rw [hr];rfl)),(by first|exact hs16|(rw [hr];exact hs16))⟩
  ·refine Zqs 17 false h8 ?_
   have h8':¬ ((m.nr:Int)=n.nr):=ieqF h8
   refine Zr 13 11 [] ?_
   refine GoR.skip rfl (by kernel_rfl) Zqo ?_
   refine Zr 25 9 [] ?_
   refine Zd (Zt (Ze ?_))
   refine Zq1 (v:=.bool false) ?_
   have hr:same8M m n=false:=by rw [same8M,if_pos h7,if_neg (nF h8)]
   have hs17:St w0 (L) w5:=hs6.drop 2
   exact⟨(by first|rfl|(rw [hr];done)|(rw [hr];rfl)),(by first|exact hs17|(rw [hr];exact hs17))⟩
 ·refine Zqs 10 false h7 ?_
  have h7':¬ ((m.og:Int)=n.og):=ieqF h7
  refine Zr 6 18 [] ?_
  refine GoR.skip rfl (by kernel_rfl) Zqo ?_
  refine Zr 25 9 [] ?_
  refine Zd (Zt (Ze ?_))
  refine Zq1 (v:=.bool false) ?_
  have hr:same8M m n=false:=by rw [same8M,if_neg (nF h7)]
  have hs18:St w0 (L) w5:=hs6.drop 2
  exact⟨(by first|rfl|(rw [hr];done)|(rw [hr];rfl)),(by first|exact hs18|(rw [hr];exact hs18))⟩
def same3B (x:TBd) (y:TBd):Bool :=
 same8M (⟨0,0,dVc,x,dD32⟩:TMs) (⟨0,0,dVc,y,dD32⟩:TMs)
theorem sameBody3_spec {w0 w:World}{L:List Asn}(x:TBd) (y:TBd) (hqn:x.ql.length≤9223372036854775807) (hr1:∀ w,St w0 L w→RowsAt w x.qa x.ql.length 2 (fun k=>TPr.cells (x.ql.getD k dPr))) (hr2:∀ w,St w0 L w→RowsAt w y.qa y.ql.length 2 (fun k=>TPr.cells (y.ql.getD k dPr))) (hs:St w0 (L) w):Calls Tryz.prog 39 #[.agg (TBd.cells x),.agg (TBd.cells y)] w (Ret fun rv w'=>rv=.bool (same3B x y)∧St w0 (L) w'):=by
 refine Zen (args:=[.agg (TBd.cells x),.agg (TBd.cells y)]) Tryz.func39 Tryz.ntmps39 ?_
 refine Zn [(0,.agg (TBd.cells x)),(1,.agg (TBd.cells y))] ?_
 refine Zs ?_
 refine Zqt (.ef 0 (.ef 1 (.rd 2 .done))) ?_
 refine GoR.box rfl rfl (by kernel_rfl) (v:=.agg (TBd.cells x)) (by kernel_rfl) hs (cs:=TBd.cells x) (by kernel_rfl) ?_
 intro b1 w2 hs3
 refine⟨Zqo,?_⟩
 refine GoR.box rfl rfl (by kernel_rfl) (v:=.agg (TBd.cells y)) (by kernel_rfl) hs3 (cs:=TBd.cells y) (by kernel_rfl) ?_
 intro b4 w5 hs6
 refine⟨Zqo,?_⟩
 refine Zr 2 1 [] ?_
 refine Zd (Zt (Zs ?_))
 refine Zqt (.rd 0 (.rd 1 (.rd 2 (.rd 3 (.ef 4 (.rd 5 .done)))))) ?_
 refine Zp 0 4 [(0,.agg (TBd.cells x)),(2,.agg (TBd.cells y))] [(0,[.prop (Array.size (TBd.cells x)=76),.cells ⟨b1,0,none⟩ (TBd.cells x)]),(2,[.prop (Array.size (TBd.cells y)=76),.cells ⟨b4,0,none⟩ (TBd.cells y)])] (ak (okp (by kernel_rfl) (oka (hs6.cells 1 0 rfl (by kernel_rfl)) ok0)) (ak (okp (by kernel_rfl) (oka (hs6.cells 0 0 rfl (by kernel_rfl)) ok0)) ak0)) ?_
 refine Zqa (f:=40) (args:=#[.agg (TMs.cells (⟨0,0,dVc,x,dD32⟩:TMs)),.agg (TMs.cells (⟨0,0,dVc,y,dD32⟩:TMs))]) Tryz.call40 (same8_spec (⟨0,0,dVc,x,dD32⟩:TMs) (⟨0,0,dVc,y,dD32⟩:TMs) (by first|assumption|omega) (fun w h=>hr1 _ (h.drop 2)) (fun w h=>hr2 _ (h.drop 2)) hs6) ?_
 rintro v8 w9 ⟨rfl,hs7⟩
 refine⟨Zqo,?_⟩
 refine Zr 5 1 [] ?_
 refine Zd (Zt (Ze ?_))
 refine Zq1 (v:=.bool (same8M (⟨0,0,dVc,x,dD32⟩:TMs) (⟨0,0,dVc,y,dD32⟩:TMs))) ?_
 have hr:same3B x y=same8M (⟨0,0,dVc,x,dD32⟩:TMs) (⟨0,0,dVc,y,dD32⟩:TMs):=by rw [same3B]
 have hs10:St w0 (L) w9:=hs7.drop 2
 exact⟨(by first|rfl|(rw [hr];done)|(rw [hr];rfl)),(by first|exact hs10|(rw [hr];exact hs10))⟩
theorem con_inj {x y:TBd}(h:con x=con y):x.kd=y.kd∧x.vw=y.vw∧x.k=y.k∧x.rq=y.rq∧x.ql=y.ql∧x.dg=y.dg:=by
 unfold con at h
 simp only [TBd.mk.injEq] at h
 simp only [h,and_self]
theorem same8B_of {x y:TBd}(h:con x=con y):same8B x y=true:=by
 obtain⟨h1,h2,h3,h4,h5,h6⟩:=con_inj h
 unfold same8B
 simp [h1,h2,h3,h4,h5,h6]
theorem same8M_of {m n:TMs}(h:conM m=conM n):same8M m n=true:=by
 unfold conM at h
 simp only [TMs.mk.injEq] at h
 obtain⟨h1,h2,h3,h4,h5⟩:=h
 unfold same8M
 simp [h1,h2,h3,same8B_of h4,h5]
theorem same3B_of {x y:TBd}(h:con x=con y):same3B x y=true:=by
 unfold same3B
 exact same8M_of (by unfold conM;simp only [h])
theorem map_getD {l l2:List TMs}(h:l.map conM=l2.map conM){k:Nat}(h1:k<l.length):conM (l.getD k dMs)=conM (l2.getD k dMs):=by
 have h2:l.length=l2.length:=by have:=congrArg List.length h;simpa using this
 have h3:(l.map conM)[k]?=(l2.map conM)[k]?:=by rw [h]
 rw [List.getElem?_map,List.getElem?_map,List.getElem?_eq_getElem h1,List.getElem?_eq_getElem (by omega)] at h3
 rw [List.getD_eq_getElem?_getD,List.getD_eq_getElem?_getD,List.getElem?_eq_getElem h1,List.getElem?_eq_getElem (by omega)]
 simpa using h3
theorem same33_spec {w0 w:World}{L:List Asn}(x:TSt) (s:TSt) (hx_:StOK x) (hs_:StOK s) (hxs:conS x=conS s) (hln:s.pk.ml.length≤1000) (hmx:∀ k,k<x.pk.ml.length→MsOK (x.pk.ml.getD k dMs)∧∀ w,St w0 L w→RowsAt w (x.pk.ml.getD k dMs).bd.qa (x.pk.ml.getD k dMs).bd.ql.length 2 (fun j=>TPr.cells ((x.pk.ml.getD k dMs).bd.ql.getD j dPr))) (hms:∀ k,k<s.pk.ml.length→MsOK (s.pk.ml.getD k dMs)∧∀ w,St w0 L w→RowsAt w (s.pk.ml.getD k dMs).bd.qa (s.pk.ml.getD k dMs).bd.ql.length 2 (fun j=>TPr.cells ((s.pk.ml.getD k dMs).bd.ql.getD j dPr))) (hr1:∀ w,St w0 L w→RowsAt w x.bd.qa x.bd.ql.length 2 (fun k=>TPr.cells (x.bd.ql.getD k dPr))) (hr2:∀ w,St w0 L w→RowsAt w x.pk.ma x.pk.ml.length 121 (fun k=>TMs.cells (x.pk.ml.getD k dMs))) (hr3:∀ w,St w0 L w→RowsAt w x.pa x.pl.length 1 (fun k=>byteC (x.pl.getD k (0:Int)))) (hr4:∀ w,St w0 L w→RowsAt w s.bd.qa s.bd.ql.length 2 (fun k=>TPr.cells (s.bd.ql.getD k dPr))) (hr5:∀ w,St w0 L w→RowsAt w s.pk.ma s.pk.ml.length 121 (fun k=>TMs.cells (s.pk.ml.getD k dMs))) (hr6:∀ w,St w0 L w→RowsAt w s.pa s.pl.length 1 (fun k=>byteC (s.pl.getD k (0:Int)))) (hs:St w0 (L) w):Calls Tryz.prog 9 #[.agg (TSt.cells x),.agg (TSt.cells s)] w (Ret fun rv w'=>rv=.bool true∧St w0 (L) w'):=by
 refine Zen (args:=[.agg (TSt.cells x),.agg (TSt.cells s)]) Tryz.func9 Tryz.ntmps9 ?_
 refine Zn [(0,.agg (TSt.cells x)),(1,.agg (TSt.cells s))] ?_
 refine Zs ?_
 have hcs:=hxs
 unfold conS at hcs
 simp only [TSt.mk.injEq] at hcs
 obtain⟨e1,e2,e3,e4,e5,e6,e7,e8,e9,e10,e11,e12,-,-,e13⟩:=hcs
 unfold conP at e9
 simp only [TPk.mk.injEq] at e9
 obtain⟨e14,e15,e16,-,-,e17⟩:=e9
 have e18:x.pk.ml.length=s.pk.ml.length:=by have:=congrArg List.length e17;simpa using this
 refine Zqt (.ef 0 (.ef 1 (.rd 2 .done))) ?_
 refine GoR.box rfl rfl (by kernel_rfl) (v:=.agg (TSt.cells x)) (by kernel_rfl) hs (cs:=TSt.cells x) (by kernel_rfl) ?_
 intro b1 w2 hs3
 refine⟨Zqo,?_⟩
 refine GoR.box rfl rfl (by kernel_rfl) (v:=.agg (TSt.cells s)) (by kernel_rfl) hs3 (cs:=TSt.cells s) (by kernel_rfl) ?_
 intro b4 w5 hs6
 refine⟨Zqo,?_⟩
 refine Zr 2 1 [] ?_
 refine Zd (Zt (Zs (Zs ?_)))
 refine Zqt (.rd 0 (.rd 1 (.rd 2 (.rd 3 (.rd 4 (.rd 5 (.rd 6 (.rd 7 (.rd 8 (.rd 9 (.rd 10 (.rd 11 (.rd 12 (.rd 13 (.rd 14 (.rd 15 (.rd 16 (.rd 17 (.rd 18 (.rd 19 (.rd 20 (.rd 21 (.rd 22 (.rd 23 (.rd 24 (.rd 25 (.rd 26 (.rd 27 (.rd 28 (.rd 29 (.rd 30 (.rd 31 (.rd 32 (.rd 33 (.rd 34 (.rd 35 (.rd 36 (.rd 37 (.rd 38 (.rd 39 (.rd 40 (.rd 41 (.rd 42 (.rd 43 (.rd 44 (.rd 45 (.rd 46 (.rd 47 (.rd 48 (.rd 49 (.rd 50 (.rd 51 (.rd 52 (.rd 53 (.rd 54 (.rd 55 (.rd 56 (.rd 57 (.rd 58 (.rd 59 (.rd 60 (.rd 61 (.rd 62 (.rd 63 (.rd 64 (.rd 65 (.rd 66 (.rd 67 (.rd 68 (.rd 69 (.rd 70 (.rd 71 (.rd 72 (.rd 73 (.rd 74 (.rd 75 (.rd 76 (.rd 77 (.rd 78 (.rd 79 (.rd 80 (.rd 81 (.ef 82 (.rd 83 (.rd 84 .done))))))))))))))))))))))))))))))))))))))))))))))))))))))))))))))))))))))))))))))))))))) ?_
 refine Zp 0 6 [(1,.gen [.int .u8 x.dw]),(3,.gen [.int .u8 s.dw])] [(1,[.cell ⟨b1,0,none⟩ (.int .u8 x.dw)]),(3,[.cell ⟨b4,0,none⟩ (.int .u8 s.dw)])] (ak (okc (hs6.cell 1 rfl (by kernel_rfl)) ok0) (ak (okc (hs6.cell 0 rfl (by kernel_rfl)) ok0) ak0)) ?_
 rcases Bool.eq_false_or_eq_true ((x.dw:Int) != s.dw) with h7|h7
 ·refine Zqs 13 true h7 ?_
  have h7':¬ ((x.dw:Int)=s.dw):=ineT h7
  exact absurd h7 (by simp [e1,e2,e3,e4,e5,e6,e7,e10,e11,e12,e13,e14,e15,e16,e18,same3B_of e8])
 ·refine Zqs 13 false h7 ?_
  have h7':(x.dw:Int)=s.dw:=ineF h7
  refine Zp 6 7 [(7,.gen [.int .i64 x.cl]),(9,.gen [.int .i64 s.cl])] [(7,[.cell ⟨b1,1,none⟩ (.int .i64 x.cl)]),(9,[.cell ⟨b4,1,none⟩ (.int .i64 s.cl)])] (ak (okc (hs6.cell 1 rfl (by kernel_rfl)) ok0) (ak (okc (hs6.cell 0 rfl (by kernel_rfl)) ok0) ak0)) ?_
  rcases Bool.eq_false_or_eq_true ((x.cl:Int) != s.cl) with h8|h8
  ·refine Zqs 20 true h8 ?_
   have h8':¬ ((x.cl:Int)=s.cl):=ineT h8
   exact absurd h8 (by simp [e1,e2,e3,e4,e5,e6,e7,e10,e11,e12,e13,e14,e15,e16,e18,same3B_of e8])
  ·refine Zqs 20 false h8 ?_
   have h8':(x.cl:Int)=s.cl:=ineF h8
   refine Zp 13 7 [(14,.gen [.int .i64 x.wh]),(16,.gen [.int .i64 s.wh])] [(14,[.cell ⟨b1,2,none⟩ (.int .i64 x.wh)]),(16,[.cell ⟨b4,2,none⟩ (.int .i64 s.wh)])] (ak (okc (hs6.cell 1 rfl (by kernel_rfl)) ok0) (ak (okc (hs6.cell 0 rfl (by kernel_rfl)) ok0) ak0)) ?_
   rcases Bool.eq_false_or_eq_true ((x.wh:Int) != s.wh) with h9|h9
   ·refine Zqs 27 true h9 ?_
    have h9':¬ ((x.wh:Int)=s.wh):=ineT h9
    exact absurd h9 (by simp [e1,e2,e3,e4,e5,e6,e7,e10,e11,e12,e13,e14,e15,e16,e18,same3B_of e8])
   ·refine Zqs 27 false h9 ?_
    have h9':(x.wh:Int)=s.wh:=ineF h9
    refine Zp 20 7 [(21,.gen [.int .i64 x.j]),(23,.gen [.int .i64 s.j])] [(21,[.cell ⟨b1,3,none⟩ (.int .i64 x.j)]),(23,[.cell ⟨b4,3,none⟩ (.int .i64 s.j)])] (ak (okc (hs6.cell 1 rfl (by kernel_rfl)) ok0) (ak (okc (hs6.cell 0 rfl (by kernel_rfl)) ok0) ak0)) ?_
    rcases Bool.eq_false_or_eq_true ((x.j:Int) != s.j) with h10|h10
    ·refine Zqs 34 true h10 ?_
     have h10':¬ ((x.j:Int)=s.j):=ineT h10
     exact absurd h10 (by simp [e1,e2,e3,e4,e5,e6,e7,e10,e11,e12,e13,e14,e15,e16,e18,same3B_of e8])
    ·refine Zqs 34 false h10 ?_
     have h10':(x.j:Int)=s.j:=ineF h10
     refine Zp 27 7 [(28,.gen [.int .i64 x.k]),(30,.gen [.int .i64 s.k])] [(28,[.cell ⟨b1,4,none⟩ (.int .i64 x.k)]),(30,[.cell ⟨b4,4,none⟩ (.int .i64 s.k)])] (ak (okc (hs6.cell 1 rfl (by kernel_rfl)) ok0) (ak (okc (hs6.cell 0 rfl (by kernel_rfl)) ok0) ak0)) ?_
     rcases Bool.eq_false_or_eq_true ((x.k:Int) != s.k) with h11|h11
     ·refine Zqs 41 true h11 ?_
      have h11':¬ ((x.k:Int)=s.k):=ineT h11
      exact absurd h11 (by simp [e1,e2,e3,e4,e5,e6,e7,e10,e11,e12,e13,e14,e15,e16,e18,same3B_of e8])
     ·refine Zqs 41 false h11 ?_
      have h11':(x.k:Int)=s.k:=ineF h11
      refine Zp 34 7 [(35,.gen [.int .i64 x.n]),(37,.gen [.int .i64 s.n])] [(35,[.cell ⟨b1,5,none⟩ (.int .i64 x.n)]),(37,[.cell ⟨b4,5,none⟩ (.int .i64 s.n)])] (ak (okc (hs6.cell 1 rfl (by kernel_rfl)) ok0) (ak (okc (hs6.cell 0 rfl (by kernel_rfl)) ok0) ak0)) ?_
      rcases Bool.eq_false_or_eq_true ((x.n:Int) != s.n) with h12|h12
      ·refine Zqs 48 true h12 ?_
       have h12':¬ ((x.n:Int)=s.n):=ineT h12
       exact absurd h12 (by simp [e1,e2,e3,e4,e5,e6,e7,e10,e11,e12,e13,e14,e15,e16,e18,same3B_of e8])
      ·refine Zqs 48 false h12 ?_
       have h12':(x.n:Int)=s.n:=ineF h12
       refine Zp 41 4 [(42,.agg (TOp.cells x.op)),(44,.agg (TOp.cells s.op))] [(42,[.prop (Array.size (TOp.cells x.op)=6),.cells ⟨b1,6,none⟩ (TOp.cells x.op)]),(44,[.prop (Array.size (TOp.cells s.op)=6),.cells ⟨b4,6,none⟩ (TOp.cells s.op)])] (ak (okp (by kernel_rfl) (oka (hs6.cells 1 6 rfl (by kernel_rfl)) ok0)) (ak (okp (by kernel_rfl) (oka (hs6.cells 0 6 rfl (by kernel_rfl)) ok0)) ak0)) ?_
       refine GoR.eqAgg rfl (by kernel_rfl) (b:=false) (t:=24) (xs:=TOp.cells x.op) (ys:=TOp.cells s.op) (m:=2) (by kernel_rfl) (by kernel_rfl) (by decide) (by kernel_rfl) (r:=!(decide (x.op=s.op))) (aggNe  (opEq x.op s.op)) ?_
       refine Zr 46 2 [] ?_
       rcases Bool.eq_false_or_eq_true (!(decide (x.op=s.op))) with h13|h13
       ·refine Zqs 55 true h13 ?_
        have h13n:(decide (x.op=s.op))=false:=notT h13
        have h13n':¬ (x.op=s.op):=of_decide_eq_false h13n
        exact absurd h13 (by simp [e1,e2,e3,e4,e5,e6,e7,e10,e11,e12,e13,e14,e15,e16,e18,same3B_of e8])
       ·refine Zqs 55 false h13 ?_
        have h13n:(decide (x.op=s.op))=true:=notF h13
        have h13n':x.op=s.op:=of_decide_eq_true h13n
        refine Zp 48 7 [(49,.gen [.int .u64 x.tm]),(51,.gen [.int .u64 s.tm])] [(49,[.cell ⟨b1,102,none⟩ (.int .u64 x.tm)]),(51,[.cell ⟨b4,102,none⟩ (.int .u64 s.tm)])] (ak (okc (hs6.cell 1 rfl (by kernel_rfl)) ok0) (ak (okc (hs6.cell 0 rfl (by kernel_rfl)) ok0) ak0)) ?_
        rcases Bool.eq_false_or_eq_true ((x.tm:Int) != s.tm) with h14|h14
        ·refine Zqs 62 true h14 ?_
         have h14':¬ ((x.tm:Int)=s.tm):=ineT h14
         exact absurd h14 (by simp [e1,e2,e3,e4,e5,e6,e7,e10,e11,e12,e13,e14,e15,e16,e18,same3B_of e8])
        ·refine Zqs 62 false h14 ?_
         have h14':(x.tm:Int)=s.tm:=ineF h14
         refine Zp 55 4 [(56,.agg (TRe.cells x.re)),(58,.agg (TRe.cells s.re))] [(56,[.prop (Array.size (TRe.cells x.re)=2),.cells ⟨b1,103,none⟩ (TRe.cells x.re)]),(58,[.prop (Array.size (TRe.cells s.re)=2),.cells ⟨b4,103,none⟩ (TRe.cells s.re)])] (ak (okp (by kernel_rfl) (oka (hs6.cells 1 103 rfl (by kernel_rfl)) ok0)) (ak (okp (by kernel_rfl) (oka (hs6.cells 0 103 rfl (by kernel_rfl)) ok0)) ak0)) ?_
         refine GoR.eqAgg rfl (by kernel_rfl) (b:=false) (t:=38) (xs:=TRe.cells x.re) (ys:=TRe.cells s.re) (m:=2) (by kernel_rfl) (by kernel_rfl) (by decide) (by kernel_rfl) (r:=!(decide (x.re=s.re))) (aggNe  (reEq x.re s.re)) ?_
         refine Zr 60 2 [] ?_
         rcases Bool.eq_false_or_eq_true (!(decide (x.re=s.re))) with h15|h15
         ·refine Zqs 69 true h15 ?_
          have h15n:(decide (x.re=s.re))=false:=notT h15
          have h15n':¬ (x.re=s.re):=of_decide_eq_false h15n
          exact absurd h15 (by simp [e1,e2,e3,e4,e5,e6,e7,e10,e11,e12,e13,e14,e15,e16,e18,same3B_of e8])
         ·refine Zqs 69 false h15 ?_
          have h15n:(decide (x.re=s.re))=true:=notF h15
          have h15n':x.re=s.re:=of_decide_eq_true h15n
          refine Zp 62 7 [(63,.gen [.int .u64 x.at_]),(65,.gen [.int .u64 s.at_])] [(63,[.cell ⟨b1,105,none⟩ (.int .u64 x.at_)]),(65,[.cell ⟨b4,105,none⟩ (.int .u64 s.at_)])] (ak (okc (hs6.cell 1 rfl (by kernel_rfl)) ok0) (ak (okc (hs6.cell 0 rfl (by kernel_rfl)) ok0) ak0)) ?_
          rcases Bool.eq_false_or_eq_true ((x.at_:Int) != s.at_) with h16|h16
          ·refine Zqs 76 true h16 ?_
           have h16':¬ ((x.at_:Int)=s.at_):=ineT h16
           exact absurd h16 (by simp [e1,e2,e3,e4,e5,e6,e7,e10,e11,e12,e13,e14,e15,e16,e18,same3B_of e8])
          ·refine Zqs 76 false h16 ?_
           have h16':(x.at_:Int)=s.at_:=ineF h16
           refine Zp 69 2 [(70,.gen [.slice x.pa x.pl.length x.pc])] [(70,[.cell ⟨b1,106,none⟩ (.slice x.pa x.pl.length x.pc)])] (ak (okc (hs6.cell 1 rfl (by kernel_rfl)) ok0) ak0) ?_
           refine GoR.bytesStrG rfl (by kernel_rfl) (src:=39) (dst:=9) (e:=5) (ad:=x.pa) (n:=x.pl.length) (cap:=x.pc) (f:=byteC) rfl x.pl rfl (by kernel_rfl) (by kernel_rfl) (by kernel_rfl) (by kernel_rfl) hx_.pl (hr3 _ (hs6.drop 2)) ?_
           refine Zp 72 2 [(73,.gen [.slice s.pa s.pl.length s.pc])] [(73,[.cell ⟨b4,106,none⟩ (.slice s.pa s.pl.length s.pc)])] (ak (okc (hs6.cell 0 rfl (by kernel_rfl)) ok0) ak0) ?_
           refine GoR.bytesStrG rfl (by kernel_rfl) (src:=39) (dst:=9) (e:=5) (ad:=s.pa) (n:=s.pl.length) (cap:=s.pc) (f:=byteC) rfl s.pl rfl (by kernel_rfl) (by kernel_rfl) (by kernel_rfl) (by kernel_rfl) hs_.pl (hr6 _ (hs6.drop 2)) ?_
           refine Zp 75 3 [(75,.as_ (.bool (!(decide ((strOf x.pl)=(strOf s.pl))))) (.gen []))] [(75,[.prop (Value.bool (!((strOf x.pl).toList == (strOf s.pl).toList))=Value.bool (!(decide ((strOf x.pl)=(strOf s.pl)))))])] (ak (okp (sne _ _) ok0) ak0) ?_
           rcases Bool.eq_false_or_eq_true (!(decide ((strOf x.pl)=(strOf s.pl)))) with h17|h17
           ·refine Zqs 85 true h17 ?_
            have h17n:(decide ((strOf x.pl)=(strOf s.pl)))=false:=notT h17
            have h17n':¬ ((strOf x.pl)=(strOf s.pl)):=of_decide_eq_false h17n
            exact absurd h17 (by simp [e1,e2,e3,e4,e5,e6,e7,e10,e11,e12,e13,e14,e15,e16,e18,same3B_of e8])
           ·refine Zqs 85 false h17 ?_
            have h17n:(decide ((strOf x.pl)=(strOf s.pl)))=true:=notF h17
            have h17n':(strOf x.pl)=(strOf s.pl):=of_decide_eq_true h17n
            refine Zp 78 4 [(79,.agg (TBd.cells x.bd)),(81,.agg (TBd.cells s.bd))] [(79,[.prop (Array.size (TBd.cells x.bd)=76),.cells ⟨b1,12,none⟩ (TBd.cells x.bd)]),(81,[.prop (Array.size (TBd.cells s.bd)=76),.cells ⟨b4,12,none⟩ (TBd.cells s.bd)])] (ak (okp (by kernel_rfl) (oka (hs6.cells 1 12 rfl (by kernel_rfl)) ok0)) (ak (okp (by kernel_rfl) (oka (hs6.cells 0 12 rfl (by kernel_rfl)) ok0)) ak0)) ?_
            refine Zqa (f:=39) (args:=#[.agg (TBd.cells x.bd),.agg (TBd.cells s.bd)]) Tryz.call39 (sameBody3_spec x.bd s.bd hx_.bd.qn (fun w h=>hr1 _ (h.drop 2)) (fun w h=>hr4 _ (h.drop 2)) hs6) ?_
            rintro v19 w20 ⟨rfl,hs18⟩
            refine⟨Zqo,?_⟩
            refine Zr 83 2 [] ?_
            refine Zd (Zt ?_)
            refine Zqc (t:=!(same3B x.bd s.bd)) (fun h21=>?_) (fun h21=>?_)
            ·have h21n:(same3B x.bd s.bd)=false:=notT h21
             exact absurd h21 (by simp [e1,e2,e3,e4,e5,e6,e7,e10,e11,e12,e13,e14,e15,e16,e18,same3B_of e8])
            ·have h21n:(same3B x.bd s.bd)=true:=notF h21
             refine Zk (Zt (Zs ?_))
             refine Zqt (.rd 0 (.rd 1 (.ef 2 (.ef 3 .done)))) ?_
             refine Zp 0 2 [(1,.agg (TPk.cells x.pk))] [(1,[.prop (Array.size (TPk.cells x.pk)=14),.cells ⟨b1,88,none⟩ (TPk.cells x.pk)])] (ak (okp (by kernel_rfl) (oka (hs18.cells 1 88 rfl (by kernel_rfl)) ok0)) ak0) ?_
             refine GoR.alloc rfl rfl (by kernel_rfl) (z:=.agg (TPk.cells dPk)) (by kernel_rfl) hs18 (cs:=TPk.cells dPk) (by kernel_rfl) ?_
             intro b22 w23 hs24
             refine⟨Zqo,?_⟩
             refine Zw (b:=b22) (off:=0) (v:=.agg (TPk.cells x.pk)) (ti:=Tryz.t35) (by kernel_rfl) hs24 0 (L':=(Cel b22 (TPk.cells x.pk) 35)::(Cel b4 (TSt.cells s) 41)::(Cel b1 (TSt.cells x) 41)::L) ?_
             intro w25 hs26
             refine⟨Zqo,?_⟩
             refine Zd (Zt (Zs ?_))
             refine Zqt (.rd 0 (.rd 1 (.ef 2 (.ef 3 .done)))) ?_
             refine Zp 0 2 [(1,.agg (TPk.cells s.pk))] [(1,[.prop (Array.size (TPk.cells s.pk)=14),.cells ⟨b4,88,none⟩ (TPk.cells s.pk)])] (ak (okp (by kernel_rfl) (oka (hs26.cells 1 88 rfl (by kernel_rfl)) ok0)) ak0) ?_
             refine GoR.alloc rfl rfl (by kernel_rfl) (z:=.agg (TPk.cells dPk)) (by kernel_rfl) hs26 (cs:=TPk.cells dPk) (by kernel_rfl) ?_
             intro b27 w28 hs29
             refine⟨Zqo,?_⟩
             refine Zw (b:=b27) (off:=0) (v:=.agg (TPk.cells s.pk)) (ti:=Tryz.t35) (by kernel_rfl) hs29 0 (L':=(Cel b27 (TPk.cells s.pk) 35)::(Cel b22 (TPk.cells x.pk) 35)::(Cel b4 (TSt.cells s) 41)::(Cel b1 (TSt.cells x) 41)::L) ?_
             intro w30 hs31
             refine⟨Zqo,?_⟩
             refine Zd (Zt (Zs (Zs ?_)))
             refine Zqt (.rd 0 (.rd 1 (.rd 2 (.rd 3 (.rd 4 (.rd 5 (.rd 6 (.rd 7 (.rd 8 (.rd 9 (.rd 10 (.rd 11 (.rd 12 (.rd 13 (.rd 14 (.rd 15 (.rd 16 (.rd 17 (.rd 18 (.rd 19 (.rd 20 (.rd 21 (.rd 22 (.rd 23 (.rd 24 (.rd 25 (.rd 26 (.rd 27 .done)))))))))))))))))))))))))))) ?_
             refine Zp 0 6 [(1,.gen [.int .i64 x.pk.fr]),(3,.gen [.int .i64 s.pk.fr])] [(1,[.cell ⟨b22,0,none⟩ (.int .i64 x.pk.fr)]),(3,[.cell ⟨b27,0,none⟩ (.int .i64 s.pk.fr)])] (ak (okc (hs31.cell 1 rfl (by kernel_rfl)) ok0) (ak (okc (hs31.cell 0 rfl (by kernel_rfl)) ok0) ak0)) ?_
             rcases Bool.eq_false_or_eq_true ((x.pk.fr:Int) != s.pk.fr) with h32|h32
             ·refine Zqs 102 true h32 ?_
              have h32':¬ ((x.pk.fr:Int)=s.pk.fr):=ineT h32
              exact absurd h32 (by simp [e1,e2,e3,e4,e5,e6,e7,e10,e11,e12,e13,e14,e15,e16,e18,same3B_of e8])
             ·refine Zqs 102 false h32 ?_
              have h32':(x.pk.fr:Int)=s.pk.fr:=ineF h32
              refine Zp 6 7 [(7,.gen [.int .i64 x.pk.tw]),(9,.gen [.int .i64 s.pk.tw])] [(7,[.cell ⟨b22,1,none⟩ (.int .i64 x.pk.tw)]),(9,[.cell ⟨b27,1,none⟩ (.int .i64 s.pk.tw)])] (ak (okc (hs31.cell 1 rfl (by kernel_rfl)) ok0) (ak (okc (hs31.cell 0 rfl (by kernel_rfl)) ok0) ak0)) ?_
              rcases Bool.eq_false_or_eq_true ((x.pk.tw:Int) != s.pk.tw) with h33|h33
              ·refine Zqs 109 true h33 ?_
               have h33':¬ ((x.pk.tw:Int)=s.pk.tw):=ineT h33
               exact absurd h33 (by simp [e1,e2,e3,e4,e5,e6,e7,e10,e11,e12,e13,e14,e15,e16,e18,same3B_of e8])
              ·refine Zqs 109 false h33 ?_
               have h33':(x.pk.tw:Int)=s.pk.tw:=ineF h33
               refine Zp 13 4 [(14,.agg (VecD.cells x.pk.kn)),(16,.agg (VecD.cells s.pk.kn))] [(14,[.prop (Array.size (VecD.cells x.pk.kn)=11),.cells ⟨b22,2,none⟩ (VecD.cells x.pk.kn)]),(16,[.prop (Array.size (VecD.cells s.pk.kn)=11),.cells ⟨b27,2,none⟩ (VecD.cells s.pk.kn)])] (ak (okp (by kernel_rfl) (oka (hs31.cells 1 2 rfl (by kernel_rfl)) ok0)) (ak (okp (by kernel_rfl) (oka (hs31.cells 0 2 rfl (by kernel_rfl)) ok0)) ak0)) ?_
               refine GoR.eqAgg rfl (by kernel_rfl) (b:=false) (t:=32) (xs:=VecD.cells x.pk.kn) (ys:=VecD.cells s.pk.kn) (m:=2) (by kernel_rfl) (by kernel_rfl) (by decide) (by kernel_rfl) (r:=!(decide (x.pk.kn=s.pk.kn))) (aggNe  (vecEq x.pk.kn s.pk.kn)) ?_
               refine Zr 18 2 [] ?_
               rcases Bool.eq_false_or_eq_true (!(decide (x.pk.kn=s.pk.kn))) with h34|h34
               ·refine Zqs 116 true h34 ?_
                have h34n:(decide (x.pk.kn=s.pk.kn))=false:=notT h34
                have h34n':¬ (x.pk.kn=s.pk.kn):=of_decide_eq_false h34n
                exact absurd h34 (by simp [e1,e2,e3,e4,e5,e6,e7,e10,e11,e12,e13,e14,e15,e16,e18,same3B_of e8])
               ·refine Zqs 116 false h34 ?_
                have h34n:(decide (x.pk.kn=s.pk.kn))=true:=notF h34
                have h34n':x.pk.kn=s.pk.kn:=of_decide_eq_true h34n
                refine Zp 20 8 [(21,.gen [.slice x.pk.ma x.pk.ml.length x.pk.mc]),(24,.gen [.slice s.pk.ma s.pk.ml.length s.pk.mc])] [(21,[.cell ⟨b22,13,none⟩ (.slice x.pk.ma x.pk.ml.length x.pk.mc)]),(24,[.cell ⟨b27,13,none⟩ (.slice s.pk.ma s.pk.ml.length s.pk.mc)])] (ak (okc (hs31.cell 1 rfl (by kernel_rfl)) ok0) (ak (okc (hs31.cell 0 rfl (by kernel_rfl)) ok0) ak0)) ?_
                refine Zd (Zt ?_)
                refine Zqc (t:=((x.pk.ml.length:Nat):Int) != (s.pk.ml.length:Nat)) (fun h35=>?_) (fun h35=>?_)
                ·have h35':¬ (((x.pk.ml.length:Nat):Int)=(s.pk.ml.length:Nat)):=ineT h35
                 exact absurd h35 (by simp [e1,e2,e3,e4,e5,e6,e7,e10,e11,e12,e13,e14,e15,e16,e18,same3B_of e8])
                ·have h35':((x.pk.ml.length:Nat):Int)=(s.pk.ml.length:Nat):=ineF h35
                 refine Zk (Zt (Zs (Zs ?_)))
                 refine Zqt (.rd 0 .done) ?_
                 refine Zr 0 1 [] ?_
                 refine Zd (Zt (Zb ?_))
                 obtain⟨aq0,ha0⟩:∃ a,a=x.pk.ma:=⟨_,rfl⟩
                 obtain⟨bq0,hb0⟩:∃ a,a=s.pk.ma:=⟨_,rfl⟩
                 have hs36:St w0 ((Cel b27 (TPk.cells (⟨s.pk.fr,s.pk.tw,s.pk.kn,bq0,s.pk.mc,s.pk.ml⟩:TPk)) 35)::(Cel b22 (TPk.cells (⟨x.pk.fr,x.pk.tw,x.pk.kn,aq0,x.pk.mc,x.pk.ml⟩:TPk)) 35)::(Cel b4 (TSt.cells s) 41)::(Cel b1 (TSt.cells x) 41)::L) w30:=(by rw [ha0,hb0];exact hs31)
                 refine GoC.loop (T:=Nat×(Option Addr)×(Option Addr)) (fun gg=>[(5,zP b22 0),(6,zP b27 0),(7,.int .i64 (gg.1:Nat))]) (fun gg w=>(gg.1≤x.pk.ml.length∧(∀ w,St w0 L w→RowsAt w gg.2.1 x.pk.ml.length 121 (fun q=>TMs.cells (x.pk.ml.getD q dMs)))∧(∀ w,St w0 L w→RowsAt w gg.2.2 s.pk.ml.length 121 (fun q=>TMs.cells (s.pk.ml.getD q dMs))))∧St w0 ((Cel b27 (TPk.cells (⟨s.pk.fr,s.pk.tw,s.pk.kn,gg.2.2,s.pk.mc,s.pk.ml⟩:TPk)) 35)::(Cel b22 (TPk.cells (⟨x.pk.fr,x.pk.tw,x.pk.kn,gg.2.1,x.pk.mc,x.pk.ml⟩:TPk)) 35)::(Cel b4 (TSt.cells s) 41)::(Cel b1 (TSt.cells x) 41)::L) w) (fun gg=>x.pk.ml.length-gg.1) (0,aq0,bq0) [5,6,7] (by kernel_rfl) ⟨⟨Nat.zero_le _,by rw [ha0];exact hr2,by rw [hb0];exact hr5⟩,hs36⟩ ?_
                 rintro⟨k,aq,bq⟩ w37 ⟨hp0,hs38⟩
                 have hp:k≤x.pk.ml.length∧(∀ w,St w0 L w→RowsAt w aq x.pk.ml.length 121 (fun q=>TMs.cells (x.pk.ml.getD q dMs)))∧(∀ w,St w0 L w→RowsAt w bq s.pk.ml.length 121 (fun q=>TMs.cells (s.pk.ml.getD q dMs))):=hp0
                 have hs39:St w0 ((Cel b27 (TPk.cells (⟨s.pk.fr,s.pk.tw,s.pk.kn,bq,s.pk.mc,s.pk.ml⟩:TPk)) 35)::(Cel b22 (TPk.cells (⟨x.pk.fr,x.pk.tw,x.pk.kn,aq,x.pk.mc,x.pk.ml⟩:TPk)) 35)::(Cel b4 (TSt.cells s) 41)::(Cel b1 (TSt.cells x) 41)::L) w37:=hs38
                 refine Zn [(5,zP b22 0),(6,zP b27 0),(7,.int .i64 (k:Nat))] ?_
                 have hw1:=hp.2.1
                 have hw2:=hp.2.2
                 refine Zs (Zs ?_)
                 refine Zqt (.rd 0 (.rd 1 (.rd 2 (.rd 3 (.rd 4 .done))))) ?_
                 refine Zp 0 5 [(2,.gen [.slice aq x.pk.ml.length x.pk.mc])] [(2,[.cell ⟨b22,13,none⟩ (.slice aq x.pk.ml.length x.pk.mc)])] (ak (okc (hs39.cell 1 rfl (by kernel_rfl)) ok0) ak0) ?_
                 refine Zd (Zt ?_)
                 refine Zqc (t:=decide (((k:Nat):Int)<(x.pk.ml.length:Nat))) (fun h40=>?_) (fun h40=>?_)
                 ·have h40':((k:Nat):Int)<(x.pk.ml.length:Nat):=of_decide_eq_true h40
                  have hk:k<x.pk.ml.length:=by omega
                  have hk2:k<s.pk.ml.length:=by omega
                  obtain⟨ab41,ao42,rfl⟩:=RowsAt.isSome (hw1 _ (hs39.drop 4)) (by omega)
                  obtain⟨ab43,ao44,rfl⟩:=RowsAt.isSome (hw2 _ (hs39.drop 4)) (by omega)
                  refine Zk (Zt (Zs (Zb (Zs ?_))))
                  refine GoC.regD [0,1,0,7,15,0,32,0,224,480,1023,2047] (.rd 0 (.rd 1 (.rd 2 (.rd 3 (.rd 4 (.rd 5 (.rd 6 (.rd 7 (.rd 8 (.rd 9 (.ef 10 (.rd 11 .done)))))))))))) (by kernel_rfl) (by kernel_rfl) noPan_body (by kernel_rfl) hs39 ?_
                  intro w45 hs46 hw47
                  refine Zp 0 10 [(1,.gen [zL ab41 ao42 x.pk.ml.length x.pk.mc]),(3,.as_ (zP ab41 (ao42+(k*121))) .at_),(4,.agg (TMs.cells (x.pk.ml.getD k dMs))),(6,.gen [zL ab43 ao44 s.pk.ml.length s.pk.mc]),(8,.as_ (zP ab43 (ao44+(k*121))) .at_),(9,.agg (TMs.cells (s.pk.ml.getD k dMs)))] [(1,[.cell ⟨b22,13,none⟩ (zL ab41 ao42 x.pk.ml.length x.pk.mc)]),(3,[.prop (0≤((k:Nat):Int)∧((k:Nat):Int)<((x.pk.ml.length:Nat):Int)),.prop (Value.pointer (some (Addr.add ⟨ab41,ao42,none⟩ (Int.toNat (k:Nat)*121)))=Value.pointer (some ⟨ab41,ao42+(k*121),none⟩))]),(4,[.prop (Array.size (TMs.cells (x.pk.ml.getD k dMs))=121),.cells ⟨ab41,ao42+(k*121),none⟩ (TMs.cells (x.pk.ml.getD k dMs))]),(6,[.cell ⟨b27,13,none⟩ (zL ab43 ao44 s.pk.ml.length s.pk.mc)]),(8,[.prop (0≤((k:Nat):Int)∧((k:Nat):Int)<((s.pk.ml.length:Nat):Int)),.prop (Value.pointer (some (Addr.add ⟨ab43,ao44,none⟩ (Int.toNat (k:Nat)*121)))=Value.pointer (some ⟨ab43,ao44+(k*121),none⟩))]),(9,[.prop (Array.size (TMs.cells (s.pk.ml.getD k dMs))=121),.cells ⟨ab43,ao44+(k*121),none⟩ (TMs.cells (s.pk.ml.getD k dMs))])] (ak (okc (hs46.cell 1 rfl (by kernel_rfl)) ok0) (ak (okp (by omega) (okp (ptrAdd _ _ _) ok0)) (ak (okp (by kernel_rfl) (oka (RowsAt.all0 (hw1 _ (hs46.drop 4)) (by first|omega|(simp only [List.length_set];omega)|(simp only [List.length_set,lA,lC,lN];omega)) (Nat.le_of_ble_eq_true (by kernel_rfl)) (by kernel_rfl)) ok0)) (ak (okc (hs46.cell 0 rfl (by kernel_rfl)) ok0) (ak (okp (by omega) (okp (ptrAdd _ _ _) ok0)) (ak (okp (by kernel_rfl) (oka (RowsAt.all0 (hw2 _ (hs46.drop 4)) (by first|omega|(simp only [List.length_set];omega)|(simp only [List.length_set,lA,lC,lN];omega)) (Nat.le_of_ble_eq_true (by kernel_rfl)) (by kernel_rfl)) ok0)) ak0)))))) ?_
                  refine Zqa (f:=40) (args:=#[.agg (TMs.cells (x.pk.ml.getD k dMs)),.agg (TMs.cells (s.pk.ml.getD k dMs))]) Tryz.call40 (same8_spec (x.pk.ml.getD k dMs) (s.pk.ml.getD k dMs) (hmx k hk).1.bd.qn (fun w h=>(hmx k hk).2 w (h.drop 4)) (fun w h=>(hms k hk2).2 w (h.drop 4)) hs46) ?_
                  rintro v49 w50 ⟨rfl,hs48⟩
                  refine⟨Zqo,?_⟩
                  refine Zr 11 1 [] ?_
                  refine Zd (Zt ?_)
                  refine Zqc (t:=!(same8M (x.pk.ml.getD k dMs) (s.pk.ml.getD k dMs))) (fun h51=>?_) (fun h51=>?_)
                  ·have h51n:(same8M (x.pk.ml.getD k dMs) (s.pk.ml.getD k dMs))=false:=notT h51
                   exact absurd h51 (by rw [same8M_of (map_getD e17 hk)];decide)
                  ·have h51n:(same8M (x.pk.ml.getD k dMs) (s.pk.ml.getD k dMs))=true:=notF h51
                   refine Zk (Zm (Zt ?_))
                   refine Zqt (.rd 0 (.rd 1 (.rd 2 .done))) ?_
                   refine Zp 0 3 [(1,.as_ (.int .i64 ((k:Nat)+1)) (.gen []))] [(1,[.prop (Value.int .i64 (IntKind.i64.wrap ((k:Nat)+1))=Value.int .i64 ((k:Nat)+1))])] (ak (okp (i64ok (by omega) (by omega)) ok0) ak0) ?_
                   refine Zd ?_
                   exact GoQ.back (k+1,some ⟨ab41,ao42,none⟩,some ⟨ab43,ao44,none⟩) [5,6,7] (by kernel_rfl) (by show x.pk.ml.length-(k+1)<x.pk.ml.length-k;omega) ⟨⟨by omega,hw1,hw2⟩,hs48⟩
                 ·have h40':¬ (((k:Nat):Int)<(x.pk.ml.length:Nat)):=of_decide_eq_false h40
                  refine Zx (GoQ.skipC (GoQ.skipL (GoQ.hit (Zt (Zs ?_)))))
                  refine Zqt (.rd 0 .done) ?_
                  refine Zr 0 1 [] ?_
                  refine Zd (Zt (Ze ?_))
                  refine Zq1 (v:=.bool true) ?_
                  have hs52:St w0 (L) w37:=hs39.drop 4
                  exact⟨rfl,hs52⟩
theorem tk_app {n:Nat}{l e:List Int}(h:l.length=n):tk n (l++e,false)=(l,(e,false)):=by
 rw [tk_ok rfl (by rw [lA];omega),List.take_left' h,List.drop_left' h]
theorem word_app {n:Int}{e:List Int}(h:0≤n∧n<18446744073709551616):wordP (wd n++e,false)=(n,(e,false)):=by
 unfold wordP numP
 rw [tk_app (wd_length n),numB_wd h]
theorem byte_app {n:Int}{e:List Int}(h:0≤n∧n<256):byteP (n::e,false)=(n,(e,false)):=by
 unfold byteP
 rw [show n::e=[n]++e from rfl,tk_app (n:=1) (l:=[n]) rfl,numB_one h,u8_id h]
theorem half_app {n:Nat}{e:List Int}(h:n<65536):halfP (hf (n:Nat)++e,false)=(n,(e,false)):=by
 unfold halfP
 rw [tk_app (hf_length _),numB_hf ⟨by omega,by omega⟩,u16_id ⟨by omega,by omega⟩,Int.toNat_natCast]
theorem strB_len (s:ByteArray):(strB s).length=s.size:=by
 have h:=tx_length s
 unfold tx at h
 rw [lA,hf_length] at h
 omega
theorem text_app {most:Int}{s:ByteArray}{e:List Int}(h:(s.size:Int)≤most) (h2:s.size<65536):textP most (tx s++e,false)=(s,(e,false)):=by
 unfold tx
 rw [List.append_assoc]
 rw [textP_ok (half_app h2) h (by rw [lA,strB_len];omega),List.take_left' (strB_len s),List.drop_left' (strB_len s),strOf_strB]
theorem hash_app {d:D32}{e:List Int}:hashP (d.toList++e,false)=(d,(e,false)):=by
 unfold hashP
 rw [tk_app (D32.len d),vecL_toList]
theorem words_app {f:List Int}(hf:∀ x∈f,0≤x∧x≤18446744073709551615) (e:List Int):∀ k,k≤f.length→stW (f.flatMap wd++e,false) k=((f.drop k).flatMap wd++e,false)
 | 0,_=>rfl
 | k+1,h=>by
  show(wordP (stW _ k)).2=_
  have hx:=hf _ (List.getElem_mem (show k<f.length by omega))
  rw [words_app hf e k (by omega),List.drop_eq_getElem_cons (by omega),List.flatMap_cons,List.append_assoc,word_app ⟨hx.1,by omega⟩]
theorem words_val {f:List Int}(hf:∀ x∈f,0≤x∧x≤18446744073709551615) (e:List Int){k:Nat}(h:k<f.length):valW (f.flatMap wd++e,false) k=f[k]:=by
 have hx:=hf _ (List.getElem_mem h)
 unfold valW
 rw [words_app hf e k (by omega),List.drop_eq_getElem_cons h,List.flatMap_cons,List.append_assoc,word_app ⟨hx.1,by omega⟩]
theorem vec_app {v:VecD}(hv:∀ x∈v.toList,0≤x∧x≤18446744073709551615) (e:List Int):vecF (valW (v.toList.flatMap wd++e,false)) 11=v:=by
 apply Vector.ext
 intro i hi
 unfold vecF
 rw [Vector.getElem_ofFn]
 simp only [hi,if_true]
 rw [words_val hv e (by rw [VecD.len];exact hi),Vector.getElem_toList]
theorem vec_end {v:VecD}(hv:∀ x∈v.toList,0≤x∧x≤18446744073709551615) (e:List Int):stW (v.toList.flatMap wd++e,false) 11=(e,false):=by
 rw [words_app hv e 11 (by rw [VecD.len];omega),List.drop_of_length_le (by rw [VecD.len];omega)]
 rfl
theorem rq_app {r:TRq}{e:List Int}(h:askedB r=true) (hr:RqOK r):rqP (rqB r++(r.tg.toList++e),false)=(r,(e,false)):=by
 have h1:=hr.kd
 have h2:=hr.am
 unfold askedB at h
 simp only [Bool.and_eq_true,decide_eq_true_eq] at h
 obtain⟨⟨⟨⟨⟨a1,a2⟩,a3⟩,a4⟩,a5⟩,a6⟩:=h
 unfold rqP rqB
 have ec:IntKind.u8.wrap r.cl=r.cl:=u8_id (by omega)
 simp only [List.append_assoc,List.cons_append,List.nil_append,ec]
 rw [byte_app (by omega)]
 simp only []
 rw [byte_app (by omega)]
 simp only []
 rw [word_app (by omega)]
 simp only []
 rw [word_app (by omega)]
 simp only []
 rw [text_app (by omega) (by omega)]
 simp only []
 rw [text_app (by omega) (by omega)]
 simp only []
 rw [text_app (by omega) (by omega)]
 simp only []
 rw [text_app (by omega) (by omega)]
 simp only []
 rw [hash_app]
theorem prs_app (e:List Int):∀ (l q:List TPr),(∀ p∈l,(0≤p.rp∧p.rp<256)∧(0≤p.nm∧p.nm<18446744073709551616))→prsP l.length (l.flatMap prB++e,false) q=(q++l,(e,false))
 | [],q,_=>by rw [List.append_nil];rfl
 | p::l,q,h=>by
  obtain⟨h1,h2⟩:=h p (List.mem_cons_self ..)
  rw [lC,List.flatMap_cons]
  rw [show prB p=p.rp::wd p.nm from by unfold prB;rw [u8_id h1];rfl,List.cons_append,List.cons_append,List.append_assoc]
  rw [prsP_step rfl (byte_app h1) (word_app h2),prs_app e l _ fun x hx=>h x (List.mem_cons_of_mem _ hx),List.append_assoc]
  rfl
theorem quorI_in:∀ (l:List TPr) (was:Int),0≤was→quorI was l=true→∀ p∈l,(0≤p.rp∧p.rp<256)∧(0≤p.nm∧p.nm<18446744073709551616)
 | [],_,_,_,p,hp=>by cases hp
 | a::l,was,hw,h,p,hp=>by
  unfold quorI at h
  split at h
  ·cases h
  ·rcases List.mem_cons.1 hp with rfl|hp
   ·exact⟨by omega,by omega⟩
   ·exact quorI_in l a.rp (by omega) h p hp
theorem getB_end {x:TBd}(hk:1≤x.kd∧x.kd≤6) (hx:BdOK x) (hm:mayB x=true) (hq:x.ql.length≤11):(getB x.kd (bdB x,false)).2=([],false):=by
 have h1:=hx.vw
 have h2:=hx.k
 unfold getB bdB
 by_cases c1:x.kd=1
 ·rw [if_pos c1,if_pos c1]
  unfold mayB at hm
  rw [if_pos c1] at hm
  have e:=rq_app (e:=[]) hm hx.rq
  rw [List.append_nil] at e
  unfold g1 bd1
  simp only []
  rw [word_app (by omega)]
  simp only []
  rw [e]
 rw [if_neg c1,if_neg c1]
 by_cases c2:x.kd=2
 ·rw [if_pos c2,if_pos c2]
  unfold g2 bd2
  simp only []
  have e:=word_app (n:=x.k) (e:=[]) (by omega)
  rw [List.append_nil] at e
  rw [word_app (by omega)]
  simp only []
  rw [e]
 rw [if_neg c2,if_neg c2]
 by_cases c4:x.kd=4
 ·rw [if_pos c4,if_pos c4]
  unfold mayB at hm
  rw [if_neg c1,if_neg (by omega),if_pos c4,Bool.and_eq_true] at hm
  unfold quorB at hm
  rw [Bool.and_eq_true] at hm
  unfold g4 bd4
  simp only []
  rw [word_app (by omega)]
  simp only []
  rw [u8_id (by omega),List.cons_append,List.nil_append,byte_app (by omega)]
  simp only [Int.toNat_natCast]
  have e:=prs_app [] x.ql [] (quorI_in x.ql 0 (by omega) hm.2.1)
  rw [List.append_nil] at e
  rw [e]
 rw [if_neg c4,if_neg c4]
 by_cases c6:x.kd=6
 ·rw [if_pos c6,if_pos c6]
  unfold g6 bd6
  simp only []
  have e:=hash_app (d:=x.dg) (e:=[])
  rw [List.append_nil] at e
  rw [word_app (by omega)]
  simp only []
  rw [e]
 ·rw [if_neg c6,if_neg c6]
  unfold g3
  simp only []
  have e:=word_app (n:=x.vw) (e:=[]) (by omega)
  rw [List.append_nil] at e
  rw [e]
theorem getB_con (kd:Int) (s:CS):con (getB kd s).1=(getB kd s).1:=by
 unfold getB
 repeat' split
 all_goals rfl
theorem sameB_in {x y:TBd}(h:sameB x y=true):con x=con y:=by
 unfold sameB at h
 obtain⟨h1,h⟩:=peel2 h
 obtain⟨h2,h⟩:=peel2 h
 obtain⟨h3,h⟩:=peel2 h
 obtain⟨h4,h⟩:=peel2 h
 obtain⟨h5,h⟩:=peel2 h
 simp only [beq_iff_eq,decide_eq_true_eq] at h1 h2 h3 h4 h5 h
 unfold con
 rw [h1,h2,h3,h4,h5,h]
theorem getB_bdB {x:TBd}(h:bodyB x=true) (hx:BdOK x):getB x.kd (bdB x,false)=(con x,([],false)):=by
 obtain⟨hk,hm,hq⟩:=bodyB_in h
 have e2:=getB_end hk hx hm hq
 unfold bodyB at h
 rw [if_pos hk] at h
 split at h
 ·cases h
 split at h
 ·cases h
 split at h
 ·cases h
 have e1:=sameB_in h
 rw [getB_con] at e1
 exact Prod.ext e1.symm e2
theorem mayM_tag {m:TMs}(h:mayM m=true):(1≤m.og∧m.og≤11)∧(1≤m.nr∧m.nr≤65536):=by
 unfold mayM at h
 split at h
 ·cases h
 rename_i h1
 unfold mayT at h1
 simp only [Bool.or_eq_true,decide_eq_true_eq,not_or] at h1
 omega
theorem tgB_eq {m:TMs}(h:mayM m=true):tgB m=m.og::(m.dp.toList.flatMap wd++(m.bd.kd::bdB m.bd)):=by
 have h1:=mayM_tag h
 unfold tgB dpI
 rw [u8_id (by omega),List.take_of_length_le (by rw [VecD.len];omega)]
 simp only [List.append_assoc,List.cons_append,List.nil_append]
theorem getM_putM {m:TMs}(h:mayM m=true) (hm:MsOK m):getM (putM m)=(conM m,0):=by
 have hl:=tgB_length h
 obtain⟨h1,h2⟩:=mayM_tag h
 have hb:=mayM_body h
 obtain⟨hk,hmb,hq⟩:=bodyB_in hb
 have e0:putM m=wd m.nr++(tgB m++m.tg.toList):=by
  unfold putM
  rw [if_pos h,List.nil_append,List.append_assoc]
 have el:(putM m).length=8+((tgB m).length+32):=by rw [e0,lA,lA,wd_length,D32.len]
 have e1:wordP (putM m,false)=(m.nr,(tgB m++m.tg.toList,false)):=by rw [e0];exact word_app (by omega)
 have e2:tk ((putM m).length-40) (tgB m++m.tg.toList,false)=(tgB m,(m.tg.toList,false)):=tk_app (by omega)
 have e3:hashP (m.tg.toList,false)=(m.tg,([],false)):=by
  have e:=hash_app (d:=m.tg) (e:=[])
  rw [List.append_nil] at e
  exact e
 rw [getM_eq (by omega) e1 e2 e3]
 have e4:byteP (tgB m,false)=(m.og,(m.dp.toList.flatMap wd++(m.bd.kd::bdB m.bd),false)):=by rw [tgB_eq h];exact byte_app (by omega)
 have e5:(tgB m).getD 0 0=m.og:=by rw [tgB_eq h];rfl
 have e6:byteP (stW (m.dp.toList.flatMap wd++(m.bd.kd::bdB m.bd),false) 11)=(m.bd.kd,(bdB m.bd,false)):=by rw [vec_end hm.dp];exact byte_app (by omega)
 rw [ofM_in e4 e6 hk e5.symm (getB_bdB hb hm.bd),vec_app hm.dp]
 simp only []
 rw [if_neg (by decide),if_neg (by decide),if_pos ?_]
 ·rfl
 ·show byB (conM m)=_
  rw [byB_con]
  unfold byB
  rw [if_pos h]
theorem car_app {m:TMs}{e:List Int}(h:mayM m=true) (hm:MsOK m):carP (loS (putM m)++e,false)=(conM m,true,(e,false)):=by
 have hl:=putM_len h
 unfold loS
 rw [List.append_assoc,carP_eq (half_app (by omega)) (tk_app rfl) (getM_putM h hm)]
 rfl
theorem ms_app (e:List Int):∀ (l q:List TMs),(∀ m∈l,mayM m=true∧MsOK m)→msP l.length (l.flatMap (fun m=>loS (putM m))++e,false) q=(q++l.map conM,true,(e,false))
 | [],q,_=>by rw [List.map_nil,List.append_nil];rfl
 | m::l,q,h=>by
  obtain⟨h1,h2⟩:=h m (List.mem_cons_self ..)
  rw [lC,List.flatMap_cons,List.append_assoc,msP_step (car_app h1 h2),ms_app e l _ fun x hx=>h x (List.mem_cons_of_mem _ hx),List.append_assoc]
  rfl
theorem pack_app {p:TPk}{e:List Int}(h:MayP p) (hk:∀ x∈p.kn.toList,0≤x∧x≤18446744073709551615) (hm:∀ m∈p.ml,MsOK m):packP (pkB p++e,false)=(conP p,true,(e,false)):=by
 have h1:=h.fr
 have h2:=h.tw
 have h3:=h.ml
 have e0:pkB p++e=p.fr::p.tw::(p.kn.toList.flatMap wd++(((p.ml.length:Nat):Int)::(p.ml.flatMap (fun m=>loS (putM m))++e))):=by
  unfold pkB
  simp only [List.append_assoc,List.cons_append,List.nil_append]
 rw [e0,packP_eq (byte_app (by omega)) (byte_app (by omega)) (by rw [vec_end hk];exact byte_app (by omega)) (ms_app e p.ml [] fun m hx=>⟨h.ms m hx,hm m hx⟩),vec_app hk]
 rfl
theorem noneB_in {x:TBd}(h:noneB x=true):con x=dBd:=by
 unfold noneB at h
 obtain⟨h1,h⟩:=peel2 h
 obtain⟨h2,h⟩:=peel2 h
 obtain⟨h3,h⟩:=peel2 h
 obtain⟨h4,h⟩:=peel2 h
 obtain⟨h5,h⟩:=peel2 h
 simp only [beq_iff_eq,decide_eq_true_eq] at h1 h2 h3 h4 h5 h
 have h6:x.ql=[]:=List.length_eq_zero_iff.1 (by omega)
 unfold con
 rw [h1,h2,h3,h4,h6,h]
theorem emptyB_in {p:TPk}(h:emptyB p=true):conP p=dPk:=by
 unfold emptyB at h
 obtain⟨h1,h⟩:=peel2 h
 obtain⟨h2,h⟩:=peel2 h
 obtain⟨h3,h⟩:=peel2 h
 simp only [beq_iff_eq,decide_eq_true_eq] at h1 h2 h3 h
 have h6:p.ml=[]:=List.length_eq_zero_iff.1 (by omega)
 unfold conP
 rw [h1,h2,h3,h6]
 rfl
theorem numQ_of {v:Int}(h:-1≤v∧v≤1099511627776):numQ (v+1)=v:=by
 unfold numQ
 by_cases hv:v=-1
 ·subst hv;decide
 ·rw [show IntKind.u64.wrap (v+1-1)=v from by show(v+1-1) % 18446744073709551616=v;omega]
  exact i64w (by omega) (by omega)
def hdT (s:TSt):TSt:=⟨s.dw,s.cl,s.wh,s.j,s.k,s.n,s.op,dBd,dPk,s.tm,s.re,s.at_,none,0,s.pl⟩
theorem hd_app {s:TSt}(h:MayS s) (hs:StOK s) (e:List Int):hdP (hdS s++e)=⟨hdT s,(e,false)⟩:=by
 have a1:=h.cl
 have a2:=h.wh
 have a3:=h.j
 have a4:=h.k
 have a5:=h.n
 have a6:=h.ky
 have a7:=h.va
 have a8:=h.ol
 have a9:=h.tx
 have b1:=h.vl
 have b2:=h.dw
 have b3:=h.er
 have b4:=h.pl
 have b5:=hs.kd
 have b6:=hs.am
 have b7:=hs.tm
 have b8:=hs.at_
 unfold hdP hdS h2S h1S hdT
 simp only [List.append_assoc,List.cons_append,List.nil_append]
 rw [byte_app (by omega)]
 simp only []
 rw [word_app (by omega)]
 simp only []
 rw [word_app (by omega)]
 simp only []
 rw [word_app (by omega)]
 simp only []
 rw [word_app (by omega)]
 simp only []
 rw [word_app (by omega)]
 simp only []
 rw [byte_app (by omega)]
 simp only []
 rw [word_app (by omega)]
 simp only []
 rw [text_app (by omega) (by omega)]
 simp only []
 rw [text_app (by omega) (by omega)]
 simp only []
 rw [text_app (by omega) (by omega)]
 simp only []
 rw [text_app (by omega) (by omega)]
 simp only []
 rw [word_app (by omega)]
 simp only []
 rw [word_app (by omega)]
 simp only []
 rw [byte_app (by omega)]
 simp only []
 rw [text_app (by omega) (by omega)]
 simp only []
 rw [byte_app (by omega)]
 simp only [Int.toNat_natCast]
 rw [tk_app rfl,numQ_of (by omega),numQ_of (by omega),numQ_of (by omega),numQ_of (by omega),numQ_of (by omega)]
theorem step_app {s:TSt}(h:mayS s=true) (hs:StOK s) (hm:∀ m∈s.pk.ml,MsOK m) (e:List Int):tlP (hdP (putS s++e))=(conS s,true,(e,false)):=by
 have hy:=mayS_in h
 have e0:putS s=hdS s++tlS s:=if_pos h
 rw [e0,List.append_assoc,hd_app hy hs]
 by_cases c1:s.dw=14
 ·obtain⟨h1,h2⟩:=hy.lie c1
  have e1:=car_app (e:=e) h1 (car_ok hs.bd)
  have e2:tlS s=loS (putM ⟨1,1,dVc,s.bd,dD32⟩):=if_pos c1
  rw [e2,tlP_14 (h:=⟨hdT s,_⟩) c1 e1]
  unfold conS hdT
  rw [emptyB_in h2]
  rfl
 by_cases c2:s.dw=16
 ·obtain⟨h1,h2⟩:=hy.fake c2
  have e1:=pack_app (e:=e) (packedB_in h2) hs.kn hm
  have e2:tlS s=pkB s.pk:=(if_neg c1).trans (if_pos c2)
  rw [e2,tlP_16 (h:=⟨hdT s,_⟩) c2 e1]
  unfold conS hdT
  rw [noneB_in h1]
 ·obtain⟨h1,h2⟩:=hy.els c1 c2
  have e2:tlS s=[]:=(if_neg c1).trans (if_neg c2)
  rw [e2,List.nil_append,tlP_0 (h:=⟨hdT s,_⟩) c1 c2]
  unfold conS hdT
  rw [noneB_in h1,emptyB_in h2]
theorem get_put {s:TSt}(h:mayS s=true) (hs:StOK s) (hm:∀ m∈s.pk.ml,MsOK m):getT (putS s)=(conS s,0):=by
 have e:=step_app h hs hm []
 rw [List.append_nil] at e
 unfold getT finT
 rw [e]
 simp only [mayS_con,h,putS_con,if_true]
 rfl
theorem get_more {s:TSt}(h:mayS s=true) (hs:StOK s) (hm:∀ m∈s.pk.ml,MsOK m):getT (putS s++[0])=(dSt,5):=by
 unfold getT finT
 rw [step_app h hs hm]
 rfl
theorem get_cut {s x:TSt}{ee:Int}{k:Nat}(h:mayS s=true) (hs:StOK s) (hm:∀ m∈s.pk.ml,MsOK m) (hx:StOK x) (hxm:∀ m∈x.pk.ml,MsOK m) (hk:k<(putS s).length) (he:getT ((putS s).take k)=(conS x,ee)):ee=5:=by
 unfold getT finT at he
 split at he
 ·exact(Prod.mk.inj he).2.symm
 split at he
 ·exact(Prod.mk.inj he).2.symm
 split at he
 ·exact(Prod.mk.inj he).2.symm
 split at he
 ·exact(Prod.mk.inj he).2.symm
 rename_i hmay
 split at he
 ·rename_i hp
  exfalso
  have hr:=(Prod.mk.inj he).1
  rw [hr,mayS_con] at hmay
  rw [hr,putS_con] at hp
  have e1:=step_app (by simpa using hmay) hx hxm ((putS s).drop k)
  rw [hp,List.take_append_drop] at e1
  have e2:=step_app h hs hm []
  rw [List.append_nil,e1] at e2
  have e3:(putS s).drop k=[]:=(Prod.mk.inj (Prod.mk.inj (Prod.mk.inj e2).2).2).1
  have e4:=congrArg List.length e3
  rw [List.length_drop] at e4
  simp only [lN] at e4
  omega
 ·exact(Prod.mk.inj he).2.symm
theorem putS_pos {s:TSt}(h:mayS s=true):0<(putS s).length∧(putS s).length≤90000:=by
 have hy:=mayS_in h
 have e0:putS s=hdS s++tlS s:=if_pos h
 have h1:=hdS_len h
 have h3:0<(hdS s).length:=by
  unfold hdS h2S h1S
  simp only [lA,lC]
  omega
 rw [e0,lA]
 by_cases c1:s.dw=14
 ·have e2:tlS s=loS (putM ⟨1,1,dVc,s.bd,dD32⟩):=if_pos c1
  have h4:=putM_len (hy.lie c1).1
  rw [e2,loS_length]
  omega
 by_cases c2:s.dw=16
 ·have e2:tlS s=pkB s.pk:=(if_neg c1).trans (if_pos c2)
  have hp:=packedB_in (hy.fake c2).2
  have h4:=ml_len hp.ms hp.ml s.pk.ml.length
  rw [List.take_length] at h4
  have h5:=kn_len (s:=s) (k:=11) (by omega)
  rw [List.take_of_length_le (by rw [VecD.len];omega)] at h5
  rw [e2]
  unfold pkB
  simp only [lA,lC,lN]
  omega
 ·have e2:tlS s=[]:=(if_neg c1).trans (if_neg c2)
  rw [e2,lN]
  omega
theorem ms_all {l:List TMs}(h:∀ k,k<l.length→MsOK (l.getD k dMs)):∀ m∈l,MsOK m:=by
 intro m hm
 obtain⟨k,hk,rfl⟩:=List.getElem_of_mem hm
 have h1:=h k hk
 rw [List.getD_eq_getElem?_getD,List.getElem?_eq_getElem hk] at h1
 exact h1
theorem mayS_ml {s:TSt}(h:mayS s=true):s.pk.ml.length≤8:=by
 have hy:=mayS_in h
 have he:emptyB s.pk=true→s.pk.ml.length≤8:=fun h=>by
  have h1:=congrArg (fun p:TPk=>p.ml.length) (emptyB_in h)
  simp only [conP,List.length_map,lN] at h1
  omega
 by_cases c1:s.dw=14
 ·exact he (hy.lie c1).2
 by_cases c2:s.dw=16
 ·exact(packedB_in (hy.fake c2).2).ml
 ·exact he (hy.els c1 c2).2
theorem law_spec {w0 w:World}{L:List Asn}(s:TSt) (cut:Nat) (hcut:cut<65536) (hs_:StOK s) (hms:∀ k,k<s.pk.ml.length→MsOK (s.pk.ml.getD k dMs)∧∀ w,St w0 L w→RowsAt w (s.pk.ml.getD k dMs).bd.qa (s.pk.ml.getD k dMs).bd.ql.length 2 (fun j=>TPr.cells ((s.pk.ml.getD k dMs).bd.ql.getD j dPr))) (hfew:∀ (M:List Asn) (w:World),St w0 (M++L) w→Calls Tryz.prog 4 #[.agg (TSt.cells s)] w (Ret fun rv w'=>∃ b:Bool,rv=.bool b∧St w0 (M++L) w')) (hwk:∀ (M:List Asn) (w:World),St w0 (M++L) w→Calls Tryz.prog 5 #[] w (Ret fun rv w'=>rv=.bool true∧St w0 (M++L) w')) (hr1:∀ w,St w0 L w→RowsAt w s.bd.qa s.bd.ql.length 2 (fun k=>TPr.cells (s.bd.ql.getD k dPr))) (hr2:∀ w,St w0 L w→RowsAt w s.pk.ma s.pk.ml.length 121 (fun k=>TMs.cells (s.pk.ml.getD k dMs))) (hr3:∀ w,St w0 L w→RowsAt w s.pa s.pl.length 1 (fun k=>byteC (s.pl.getD k (0:Int)))) (hs:St w0 (L) w):Calls Tryz.prog 3 #[.agg (TSt.cells s),.int .u16 (cut:Nat)] w (Ret fun rv w'=>rv=.bool true∧St w0 (L) w'):=by
 refine Zen (args:=[.agg (TSt.cells s),.int .u16 (cut:Nat)]) Tryz.func3 Tryz.ntmps3 ?_
 refine Zn [(0,.agg (TSt.cells s)),(1,.int .u16 (cut:Nat))] ?_
 refine Zs ?_
 refine Zqt (.ef 0 (.rd 1 .done)) ?_
 refine GoR.box rfl rfl (by kernel_rfl) (v:=.agg (TSt.cells s)) (by kernel_rfl) hs (cs:=TSt.cells s) (by kernel_rfl) ?_
 intro b1 w2 hs3
 refine⟨Zqo,?_⟩
 refine Zr 1 1 [] ?_
 refine Zd (Zt (Zs (Zs ?_)))
 refine Zqt (.rd 0 (.ef 1 (.rd 2 .done))) ?_
 refine Zp 0 1 [(0,.agg (TSt.cells s))] [(0,[.prop (Array.size (TSt.cells s)=107),.cells ⟨b1,0,none⟩ (TSt.cells s)])] (ak (okp (by kernel_rfl) (oka (hs3.cells 0 0 rfl (by kernel_rfl)) ok0)) ak0) ?_
 refine Zqa (f:=4) (args:=#[.agg (TSt.cells s)]) Tryz.call4 ((show Calls Tryz.prog 4 #[.agg (TSt.cells s)] w2 (Ret fun rv w'=>∃ b:Bool,rv=.bool b∧St w0 ((Cel b1 (TSt.cells s) 41)::L) w') from hfew [(Cel b1 (TSt.cells s) 41)] _ hs3)) ?_
 rintro v6 w7 ⟨fb5,rfl,hs4⟩
 refine⟨Zqo,?_⟩
 refine Zr 2 1 [] ?_
 refine Zd (Zt ?_)
 refine Zqc (t:=!fb5) (fun h8=>?_) (fun h8=>?_)
 ·have h8n:fb5=false:=notT h8
  refine Zs ?_
  refine Zqt (.ef 0 (.rd 1 .done)) ?_
  refine Zqa (f:=5) (args:=#[]) Tryz.call5 ((show Calls Tryz.prog 5 #[] w7 (Ret fun rv w'=>rv=.bool true∧St w0 ((Cel b1 (TSt.cells s) 41)::L) w') from hwk [(Cel b1 (TSt.cells s) 41)] _ hs4)) ?_
  rintro v11 w12 ⟨rfl,hs9⟩
  refine⟨Zqo,?_⟩
  refine Zr 1 1 [] ?_
  refine Zd (Zt (Ze (Zy ?_)))
  refine Zq1 (v:=.bool true) ?_
  have hs13:St w0 (L) w12:=hs9.drop 1
  exact⟨rfl,hs13⟩
 ·have h8n:fb5=true:=notF h8
  refine Zk (Zt (Zs ?_))
  refine Zqt (.rd 0 (.ef 1 (.rd 2 .done))) ?_
  refine Zp 0 1 [(0,.agg (TSt.cells s))] [(0,[.prop (Array.size (TSt.cells s)=107),.cells ⟨b1,0,none⟩ (TSt.cells s)])] (ak (okp (by kernel_rfl) (oka (hs4.cells 0 0 rfl (by kernel_rfl)) ok0)) ak0) ?_
  refine Zqa (f:=6) (args:=#[.agg (TSt.cells s)]) Tryz.call6 (putS_spec s hs_ (fun k hk=>⟨(hms k hk).1,fun w h=>(hms k hk).2 w (h.drop 1)⟩) (fun w h=>hr1 _ (h.drop 1)) (fun w h=>hr2 _ (h.drop 1)) (fun w h=>hr3 _ (h.drop 1)) hs4) ?_
  rintro v17 w18 ⟨ao14,co15,rfl,hs16⟩
  refine⟨Zqo,?_⟩
  refine Zr 2 1 [] ?_
  refine Zd (Zt (Zs (Zs ?_)))
  refine Zqt (.rd 0 (.ef 1 (.rd 2 .done))) ?_
  refine Zp 0 1 [(0,.agg (TSt.cells s))] [(0,[.prop (Array.size (TSt.cells s)=107),.cells ⟨b1,0,none⟩ (TSt.cells s)])] (ak (okp (by kernel_rfl) (oka (hs16.cells 1 0 rfl (by kernel_rfl)) ok0)) ak0) ?_
  refine Zqa (f:=7) (args:=#[.agg (TSt.cells s)]) Tryz.call7 (mayS_spec s hs_ (fun k hk=>⟨(hms k hk).1,fun w h=>(hms k hk).2 w (h.drop 2)⟩) (fun w h=>hr1 _ (h.drop 2)) (fun w h=>hr2 _ (h.drop 2)) (fun w h=>hr3 _ (h.drop 2)) hs16) ?_
  rintro v20 w21 ⟨rfl,hs19⟩
  refine⟨Zqo,?_⟩
  refine Zr 2 1 [] ?_
  refine Zd (Zt ?_)
  refine Zqc (t:=!(mayS s)) (fun h22=>?_) (fun h22=>?_)
  ·have h22n:(mayS s)=false:=notT h22
   have hmy:mayS s=false:=by simpa using h22
   have hp0:putS s=[]:=if_neg (by rw [hmy];decide)
   refine Zs ?_
   refine Zqt (.rd 0 (.rd 1 (.rd 2 (.rd 3 (.ef 4 (.rd 5 (.rd 6 .done))))))) ?_
   refine Zr 0 4 [] ?_
   rcases Bool.eq_false_or_eq_true ((((putS s).length:Nat):Int) == 0) with h23|h23
   ·refine Zqs 24 true h23 ?_
    have h23':(((putS s).length:Nat):Int)=0:=ieqT h23
    refine Zqa (f:=5) (args:=#[]) Tryz.call5 ((show Calls Tryz.prog 5 #[] w21 (Ret fun rv w'=>rv=.bool true∧St w0 ((Sl ao14 co15 5 1 byteC (putS s))::(Cel b1 (TSt.cells s) 41)::L) w') from hwk [(Sl ao14 co15 5 1 byteC (putS s)),(Cel b1 (TSt.cells s) 41)] _ hs19)) ?_
    rintro v26 w27 ⟨rfl,hs24⟩
    refine⟨Zqo,?_⟩
    refine Zr 5 2 [] ?_
    refine Zd (Zt (Ze (Zy ?_)))
    refine Zq1 (v:=.bool true) ?_
    have hs28:St w0 (L) w27:=hs24.drop 2
    exact⟨rfl,hs28⟩
   ·refine Zqs 24 false h23 ?_
    have h23':¬ ((((putS s).length:Nat):Int)=0):=ieqF h23
    exact absurd h23 (by rw [hp0];decide)
  ·have h22n:(mayS s)=true:=notF h22
   have hmy:mayS s=true:=by simpa using h22
   have hpp:=putS_pos hmy
   have hmo:=ms_all fun k hk=>(hms k hk).1
   refine Zk (Zt (Zs (Zs ?_)))
   refine Zqt (.rd 0 (.rd 1 (.rd 2 .done))) ?_
   refine Zr 0 3 [] ?_
   refine Zd (Zt ?_)
   refine Zqc (t:=(((putS s).length:Nat):Int) == 0) (fun h29=>?_) (fun h29=>?_)
   ·have h29':(((putS s).length:Nat):Int)=0:=ieqT h29
    exact absurd (of_decide_eq_true h29) (by omega)
   ·have h29':¬ ((((putS s).length:Nat):Int)=0):=ieqF h29
    refine Zk (Zt (Zs ?_))
    refine Zqt (.rd 0 (.ef 1 (.rd 2 (.rd 3 (.rd 4 (.ef 5 (.ef 6 (.rd 7 .done)))))))) ?_
    refine Zr 0 1 [] ?_
    refine Zqa (f:=8) (args:=#[.slice ao14 ((putS s).length) co15]) Tryz.call8 (getT_spec (putS s) (own_som hs19 0 rfl) (by first|omega|(simp only [lA,List.length_take,lC,lN];omega)) (putS_byt hs_ hmo) (fun w h=>h.rows 0 rfl (byteF).size _) hs19) ?_
    rintro v36 w37 ⟨xx30,ee31,rfl,he32,hok33,hmo34,hs35⟩
    refine⟨Zqo,?_⟩
    refine Zr 2 3 [] ?_
    refine GoR.alloc rfl rfl (by kernel_rfl) (z:=.agg (TSt.cells dSt)) (by kernel_rfl) hs35 (cs:=TSt.cells dSt) (by kernel_rfl) ?_
    intro b38 w39 hs40
    refine⟨Zqo,?_⟩
    refine Zw (b:=b38) (off:=0) (v:=.agg (TSt.cells xx30)) (ti:=Tryz.t41) (by kernel_rfl) hs40 0 (L':=(Cel b38 (TSt.cells xx30) 41)::(Sl xx30.pa xx30.pc 5 1 byteC xx30.pl)::(Sl xx30.bd.qa xx30.bd.qc 205 2 TPr.cells xx30.bd.ql)::(Sl xx30.pk.ma xx30.pk.mc 58 121 TMs.cells xx30.pk.ml)::(QS xx30.pk.ml)::(Sl ao14 co15 5 1 byteC (putS s))::(Cel b1 (TSt.cells s) 41)::L) ?_
    intro w41 hs42
    refine⟨Zqo,?_⟩
    refine Zr 7 1 [] ?_
    refine Zd (Zt (Zs ?_))
    refine Zqt (.rd 0 (.rd 1 (.rd 2 (.rd 3 (.rd 4 (.rd 5 (.rd 6 (.ef 7 (.rd 8 (.rd 9 (.rd 10 (.ef 11 (.ef 12 (.rd 13 .done)))))))))))))) ?_
    obtain⟨at43,hat44⟩:∃ n:Nat,((cut:Nat):Int) % ((putS s).length:Nat)=(n:Int)∧(n:Int)<((putS s).length:Nat):=remNat (by omega) (by omega)
    have hcap45:=Sl.cap (hs42.at_ 5 rfl)
    refine Zp 0 7 [(2,.as_ (.int .i64 (cut:Nat)) (.gen [])),(5,.div (at43:Nat)),(6,.as_ (.slice ao14 (((putS s).take at43).length) co15) (.sub 0 at43))] [(2,[.prop (Value.int .i64 (IntKind.i64.wrap (cut:Nat))=Value.int .i64 (cut:Nat))]),(5,[.prop (IntKind.i64=IntKind.i64∧(((putS s).length:Nat):Int)≠0∧Int.tmod (cut:Nat) ((putS s).length:Nat)=(at43:Nat))]),(6,[.prop (((at43:Nat):Int)=((at43:Nat):Int)),.prop (((none:Option Operand)=none→(0:Nat)=0)∧(some (Operand.tmp 41)=none→(at43:Nat)=(putS s).length)∧(0:Nat)≤at43∧(at43:Nat)≤co15),.prop (Value.slice (if co15=0 then ao14 else (ao14:Option Addr).map (fun a=>a.add (0*1))) (at43-0) (co15-0)=Value.slice ao14 (((putS s).take at43).length) co15)])] (ak (okp (i64ok (by omega) (by omega)) ok0) (ak (okp ⟨rfl,by omega,by rw [Int.tmod_eq_emod_of_nonneg (by omega)];exact hat44.1⟩ ok0) (ak (okp (by omega) (okp ⟨(by first|(intro _;rfl)|(intro hc;cases hc)),(by first|(intro _;rfl)|(intro hc;cases hc)),(by omega),(by omega)⟩ (okp (subSl0 (by simp only [List.length_take,List.length_drop]<;>omega)) ok0))) ak0))) ?_
    refine Zqa (f:=8) (args:=#[.slice ao14 (((putS s).take at43).length) co15]) Tryz.call8 (getT_spec ((putS s).take at43) (own_som hs42 5 rfl) (by first|omega|(simp only [lA,List.length_take,lC,lN];omega)) (fun z hz=>putS_byt hs_ hmo z (List.mem_of_mem_take hz)) (fun w h=>RowsAt.takeL (h.rows 5 rfl (byteF).size _) _ (by omega)) hs42) ?_
    rintro v52 w53 ⟨xx46,ee47,rfl,he48,hok49,hmo50,hs51⟩
    refine⟨Zqo,?_⟩
    refine Zr 8 3 [] ?_
    refine GoR.alloc rfl rfl (by kernel_rfl) (z:=.agg (TSt.cells dSt)) (by kernel_rfl) hs51 (cs:=TSt.cells dSt) (by kernel_rfl) ?_
    intro b54 w55 hs56
    refine⟨Zqo,?_⟩
    refine Zw (b:=b54) (off:=0) (v:=.agg (TSt.cells xx46)) (ti:=Tryz.t41) (by kernel_rfl) hs56 0 (L':=(Cel b54 (TSt.cells xx46) 41)::(Sl xx46.pa xx46.pc 5 1 byteC xx46.pl)::(Sl xx46.bd.qa xx46.bd.qc 205 2 TPr.cells xx46.bd.ql)::(Sl xx46.pk.ma xx46.pk.mc 58 121 TMs.cells xx46.pk.ml)::(QS xx46.pk.ml)::(Cel b38 (TSt.cells xx30) 41)::(Sl xx30.pa xx30.pc 5 1 byteC xx30.pl)::(Sl xx30.bd.qa xx30.bd.qc 205 2 TPr.cells xx30.bd.ql)::(Sl xx30.pk.ma xx30.pk.mc 58 121 TMs.cells xx30.pk.ml)::(QS xx30.pk.ml)::(Sl ao14 co15 5 1 byteC (putS s))::(Cel b1 (TSt.cells s) 41)::L) ?_
    intro w57 hs58
    refine⟨Zqo,?_⟩
    refine Zr 13 1 [] ?_
    refine Zd (Zt (Zs ?_))
    refine Zqt (.ef 0 (.rd 1 (.ef 2 (.ef 3 (.ef 4 (.ef 5 (.rd 6 (.rd 7 (.rd 8 (.ef 9 (.ef 10 (.rd 11 .done)))))))))))) ?_
    refine GoR.sliceLit0 rfl (by kernel_rfl) (t:=39) (e:=5) (by kernel_rfl) (by kernel_rfl) (ti:=Tryz.t5) (by kernel_rfl) hs58 ?_
    intro b59 w60 hs61 hz62
    have hs63:St w0 ((Sl (some ⟨b59,0,none⟩) 0 5 1 byteC ([]:List Int))::(Cel b54 (TSt.cells xx46) 41)::(Sl xx46.pa xx46.pc 5 1 byteC xx46.pl)::(Sl xx46.bd.qa xx46.bd.qc 205 2 TPr.cells xx46.bd.ql)::(Sl xx46.pk.ma xx46.pk.mc 58 121 TMs.cells xx46.pk.ml)::(QS xx46.pk.ml)::(Cel b38 (TSt.cells xx30) 41)::(Sl xx30.pa xx30.pc 5 1 byteC xx30.pl)::(Sl xx30.bd.qa xx30.bd.qc 205 2 TPr.cells xx30.bd.ql)::(Sl xx30.pk.ma xx30.pk.mc 58 121 TMs.cells xx30.pk.ml)::(QS xx30.pk.ml)::(Sl ao14 co15 5 1 byteC (putS s))::(Cel b1 (TSt.cells s) 41)::L) w60:=St.slOf (l:=([]:List Int)) (f:=byteC) hs61 hz62 (byteF).size (by simp only [lC,lN,maxLen];omega) (by kernel_rfl)
    refine⟨Zqo,?_⟩
    refine Zr 1 1 [] ?_
    refine GoR.append rfl (by kernel_rfl) bytesOK byteF (ad:=some ⟨b59,0,none⟩) (c:=0) (xs:=([]:List Int)) (ys:=putS s) (adx:=ao14) (cx:=co15) (0:Int) (by kernel_rfl) hs63 (hs63.rows 11 rfl (byteF).size (0:Int)) (hs63.slNone 11 rfl) (by simp only [lA,lC,lN,List.length_map] at *;omega) (by simp only [lA,lC,lN,List.length_map] at *;omega) ?_
    intro ad66 c67 w64 hs65
    refine⟨Zqo,?_⟩
    refine GoR.sliceLit rfl (by kernel_rfl) (t:=39) (e:=5) (n:=1) (ps:=[(0,.int .u8 0)]) (by kernel_rfl) (by kernel_rfl) (ti:=Tryz.t5) (z:=.int .u8 0) (by kernel_rfl) (by kernel_rfl) (by decide) (by decide) (cs:=#[.int .u8 0]) (by kernel_rfl) hs65 ?_
    intro b68 w69 hs70 hz71
    have hs72:St w0 ((Sl (some ⟨b68,0,none⟩) 1 5 1 byteC ([(0:Int)]))::(Sl ad66 c67 5 1 byteC (putS s))::(Cel b54 (TSt.cells xx46) 41)::(Sl xx46.pa xx46.pc 5 1 byteC xx46.pl)::(Sl xx46.bd.qa xx46.bd.qc 205 2 TPr.cells xx46.bd.ql)::(Sl xx46.pk.ma xx46.pk.mc 58 121 TMs.cells xx46.pk.ml)::(QS xx46.pk.ml)::(Cel b38 (TSt.cells xx30) 41)::(Sl xx30.pa xx30.pc 5 1 byteC xx30.pl)::(Sl xx30.bd.qa xx30.bd.qc 205 2 TPr.cells xx30.bd.ql)::(Sl xx30.pk.ma xx30.pk.mc 58 121 TMs.cells xx30.pk.ml)::(QS xx30.pk.ml)::(Sl ao14 co15 5 1 byteC (putS s))::(Cel b1 (TSt.cells s) 41)::L) w69:=St.slOf (l:=[(0:Int)]) (f:=byteC) hs70 hz71 (byteF).size (by simp only [lC,lN,maxLen];omega) (by kernel_rfl)
    refine⟨Zqo,?_⟩
    have hs75:St w0 ((Sl ad66 c67 5 1 byteC (putS s))::(Sl (some ⟨b68,0,none⟩) 1 5 1 byteC ([(0:Int)]))::(Cel b54 (TSt.cells xx46) 41)::(Sl xx46.pa xx46.pc 5 1 byteC xx46.pl)::(Sl xx46.bd.qa xx46.bd.qc 205 2 TPr.cells xx46.bd.ql)::(Sl xx46.pk.ma xx46.pk.mc 58 121 TMs.cells xx46.pk.ml)::(QS xx46.pk.ml)::(Cel b38 (TSt.cells xx30) 41)::(Sl xx30.pa xx30.pc 5 1 byteC xx30.pl)::(Sl xx30.bd.qa xx30.bd.qc 205 2 TPr.cells xx30.bd.ql)::(Sl xx30.pk.ma xx30.pk.mc 58 121 TMs.cells xx30.pk.ml)::(QS xx30.pk.ml)::(Sl ao14 co15 5 1 byteC (putS s))::(Cel b1 (TSt.cells s) 41)::L) w69:=(hs72.pull 1 rfl)
    refine GoR.append rfl (by kernel_rfl) bytesOK byteF (ad:=ad66) (c:=c67) (xs:=putS s) (ys:=[(0:Int)]) (adx:=some ⟨b68,0,none⟩) (cx:=1) (0:Int) (by kernel_rfl) hs75 (hs75.rows 1 rfl (byteF).size (0:Int)) (fun h=>nomatch h) (by simp only [lA,lC,lN,List.length_map] at *;omega) (by simp only [lA,lC,lN,List.length_map] at *;omega) ?_
    intro ad76 c77 w73 hs74
    refine⟨Zqo,?_⟩
    refine Zqa (f:=8) (args:=#[.slice ad76 (((putS s)++([(0:Int)])).length) c77]) Tryz.call8 (getT_spec ((putS s)++([(0:Int)])) (own_som hs74 0 rfl) (by first|omega|(simp only [lA,List.length_take,lC,lN];omega)) (Byt.app (putS_byt hs_ hmo) (Byt.one (by decide))) (fun w h=>h.rows 0 rfl (byteF).size _) hs74) ?_
    rintro v84 w85 ⟨xx78,ee79,rfl,he80,hok81,hmo82,hs83⟩
    refine⟨Zqo,?_⟩
    refine Zr 6 3 [] ?_
    refine GoR.alloc rfl rfl (by kernel_rfl) (z:=.agg (TSt.cells dSt)) (by kernel_rfl) hs83 (cs:=TSt.cells dSt) (by kernel_rfl) ?_
    intro b86 w87 hs88
    refine⟨Zqo,?_⟩
    refine Zw (b:=b86) (off:=0) (v:=.agg (TSt.cells xx78)) (ti:=Tryz.t41) (by kernel_rfl) hs88 0 (L':=(Cel b86 (TSt.cells xx78) 41)::(Sl xx78.pa xx78.pc 5 1 byteC xx78.pl)::(Sl xx78.bd.qa xx78.bd.qc 205 2 TPr.cells xx78.bd.ql)::(Sl xx78.pk.ma xx78.pk.mc 58 121 TMs.cells xx78.pk.ml)::(QS xx78.pk.ml)::(Sl ad76 c77 5 1 byteC ((putS s)++([(0:Int)])))::(Sl (some ⟨b68,0,none⟩) 1 5 1 byteC ([(0:Int)]))::(Cel b54 (TSt.cells xx46) 41)::(Sl xx46.pa xx46.pc 5 1 byteC xx46.pl)::(Sl xx46.bd.qa xx46.bd.qc 205 2 TPr.cells xx46.bd.ql)::(Sl xx46.pk.ma xx46.pk.mc 58 121 TMs.cells xx46.pk.ml)::(QS xx46.pk.ml)::(Cel b38 (TSt.cells xx30) 41)::(Sl xx30.pa xx30.pc 5 1 byteC xx30.pl)::(Sl xx30.bd.qa xx30.bd.qc 205 2 TPr.cells xx30.bd.ql)::(Sl xx30.pk.ma xx30.pk.mc 58 121 TMs.cells xx30.pk.ml)::(QS xx30.pk.ml)::(Sl ao14 co15 5 1 byteC (putS s))::(Cel b1 (TSt.cells s) 41)::L) ?_
    intro w89 hs90
    refine⟨Zqo,?_⟩
    refine Zr 11 1 [] ?_
    refine Zd (Zt (Zs ?_))
    refine Zqt (.rd 0 (.rd 1 (.rd 2 (.rd 3 (.rd 4 (.ef 5 (.rd 6 (.rd 7 (.rd 8 (.rd 9 (.rd 10 (.rd 11 (.rd 12 (.rd 13 (.rd 14 (.rd 15 (.ef 16 (.rd 17 (.rd 18 .done))))))))))))))))))) ?_
    refine Zr 0 3 [] ?_
    rcases Bool.eq_false_or_eq_true ((ee31:Int) == 0) with h91|h91
    ·refine Zqs 57 true h91 ?_
     have h91':(ee31:Int)=0:=ieqT h91
     refine Zp 3 2 [(3,.agg (TSt.cells xx30)),(4,.agg (TSt.cells s))] [(3,[.prop (Array.size (TSt.cells xx30)=107),.cells ⟨b38,0,none⟩ (TSt.cells xx30)]),(4,[.prop (Array.size (TSt.cells s)=107),.cells ⟨b1,0,none⟩ (TSt.cells s)])] (ak (okp (by kernel_rfl) (oka (hs90.cells 12 0 rfl (by kernel_rfl)) ok0)) (ak (okp (by kernel_rfl) (oka (hs90.cells 18 0 rfl (by kernel_rfl)) ok0)) ak0)) ?_
     refine Zqa (f:=9) (args:=#[.agg (TSt.cells xx30),.agg (TSt.cells s)]) Tryz.call9 (same33_spec xx30 s hok33 hs_ (Prod.mk.inj (he32.symm.trans (get_put hmy hs_ hmo))).1 (Nat.le_trans (mayS_ml hmy) (by decide)) (fun k hk=>⟨hmo34 _ (getD_mem (d:=dMs) hk),fun w h=>QS_rows (h.at_ 16 rfl) hk⟩) (fun k hk=>⟨(hms k hk).1,fun w h=>(hms k hk).2 w (h.drop 19)⟩) (fun w h=>h.rows 14 rfl (dPrF).size _) (fun w h=>h.rows 15 rfl (dMsF).size _) (fun w h=>h.rows 13 rfl (byteF).size _) (fun w h=>hr1 _ (h.drop 19)) (fun w h=>hr2 _ (h.drop 19)) (fun w h=>hr3 _ (h.drop 19)) hs90) ?_
     rintro v93 w94 ⟨rfl,hs92⟩
     refine⟨Zqo,?_⟩
     refine Zr 6 6 [] ?_
     rcases Bool.eq_false_or_eq_true ((ee47:Int) == 5) with h95|h95
     ·refine Zqs 66 true h95 ?_
      have h95':(ee47:Int)=5:=ieqT h95
      refine Zr 12 4 [] ?_
      rcases Bool.eq_false_or_eq_true ((ee79:Int) == 5) with h96|h96
      ·refine Zqs 70 true h96 ?_
       have h96':(ee79:Int)=5:=ieqT h96
       refine Zqa (f:=5) (args:=#[]) Tryz.call5 ((show Calls Tryz.prog 5 #[] w94 (Ret fun rv w'=>rv=.bool true∧St w0 ((Cel b86 (TSt.cells xx78) 41)::(Sl xx78.pa xx78.pc 5 1 byteC xx78.pl)::(Sl xx78.bd.qa xx78.bd.qc 205 2 TPr.cells xx78.bd.ql)::(Sl xx78.pk.ma xx78.pk.mc 58 121 TMs.cells xx78.pk.ml)::(QS xx78.pk.ml)::(Sl ad76 c77 5 1 byteC ((putS s)++([(0:Int)])))::(Sl (some ⟨b68,0,none⟩) 1 5 1 byteC ([(0:Int)]))::(Cel b54 (TSt.cells xx46) 41)::(Sl xx46.pa xx46.pc 5 1 byteC xx46.pl)::(Sl xx46.bd.qa xx46.bd.qc 205 2 TPr.cells xx46.bd.ql)::(Sl xx46.pk.ma xx46.pk.mc 58 121 TMs.cells xx46.pk.ml)::(QS xx46.pk.ml)::(Cel b38 (TSt.cells xx30) 41)::(Sl xx30.pa xx30.pc 5 1 byteC xx30.pl)::(Sl xx30.bd.qa xx30.bd.qc 205 2 TPr.cells xx30.bd.ql)::(Sl xx30.pk.ma xx30.pk.mc 58 121 TMs.cells xx30.pk.ml)::(QS xx30.pk.ml)::(Sl ao14 co15 5 1 byteC (putS s))::(Cel b1 (TSt.cells s) 41)::L) w') from hwk [(Cel b86 (TSt.cells xx78) 41),(Sl xx78.pa xx78.pc 5 1 byteC xx78.pl),(Sl xx78.bd.qa xx78.bd.qc 205 2 TPr.cells xx78.bd.ql),(Sl xx78.pk.ma xx78.pk.mc 58 121 TMs.cells xx78.pk.ml),(QS xx78.pk.ml),(Sl ad76 c77 5 1 byteC ((putS s)++([(0:Int)]))),(Sl (some ⟨b68,0,none⟩) 1 5 1 byteC ([(0:Int)])),(Cel b54 (TSt.cells xx46) 41),(Sl xx46.pa xx46.pc 5 1 byteC xx46.pl),(Sl xx46.bd.qa xx46.bd.qc 205 2 TPr.cells xx46.bd.ql),(Sl xx46.pk.ma xx46.pk.mc 58 121 TMs.cells xx46.pk.ml),(QS xx46.pk.ml),(Cel b38 (TSt.cells xx30) 41),(Sl xx30.pa xx30.pc 5 1 byteC xx30.pl),(Sl xx30.bd.qa xx30.bd.qc 205 2 TPr.cells xx30.bd.ql),(Sl xx30.pk.ma xx30.pk.mc 58 121 TMs.cells xx30.pk.ml),(QS xx30.pk.ml),(Sl ao14 co15 5 1 byteC (putS s)),(Cel b1 (TSt.cells s) 41)] _ hs92)) ?_
       rintro v99 w100 ⟨rfl,hs97⟩
       refine⟨Zqo,?_⟩
       refine Zr 17 2 [] ?_
       refine Zd (Zt (Ze ?_))
       refine Zq1 (v:=.bool true) ?_
       have hs101:St w0 (L) w100:=hs97.drop 19
       exact⟨rfl,hs101⟩
      ·refine Zqs 70 false h96 ?_
       have h96':¬ ((ee79:Int)=5):=ieqF h96
       exact absurd h96 (by rw [show ee79=5 from(Prod.mk.inj (he80.symm.trans (get_more hmy hs_ hmo))).2];decide)
     ·refine Zqs 66 false h95 ?_
      have h95':¬ ((ee47:Int)=5):=ieqF h95
      exact absurd h95 (by rw [show ee47=5 from(get_cut hmy hs_ hmo hok49 hmo50 (by omega) he48)];decide)
    ·refine Zqs 57 false h91 ?_
     have h91':¬ ((ee31:Int)=0):=ieqF h91
     exact absurd h91 (by rw [show ee31=0 from(Prod.mk.inj (he32.symm.trans (get_put hmy hs_ hmo))).2];decide)
theorem gints {T:TypeId→Value→Prop}{k:IntKind}{ks:List GK}:∀ (n:Nat){vs:List Value},gfits T (List.replicate n (.int k)++ks) vs→∃ (l:List Int) (rest:List Value),l.length=n∧(∀ z∈l,(Lit.int k z).wf=true)∧vs=l.map (Value.int k)++rest∧gfits T ks rest
 | 0,vs,h=>⟨[],vs,rfl,fun z hz=>(by cases hz),rfl,h⟩
 | n+1,vs,h=>by
  obtain⟨_,r,rfl,⟨a,rfl,w⟩,g⟩:=gfits_cons (show gfits T (GK.int k::(List.replicate n (.int k)++ks)) vs from h)
  obtain⟨l,rest,h1,h2,rfl,h3⟩:=gints n g
  refine⟨a::l,rest,by rw [lC,h1],fun z hz=>?_,rfl,h3⟩
  rcases List.mem_cons.1 hz with rfl|hz
  ·exact w
  ·exact h2 z hz
section
variable {T : TypeId → Value → Prop} {ks : List GK} {vs : List Value} {W : World}
theorem D32.of (h:gfits T (List.replicate 32 (.int .u8)++ks) vs):∃ (d:D32) (rest:List Value),vs=(D32.cells d).toList++rest∧(∀ z∈d.toList,0≤z∧z<256)∧gfits T ks rest:=by
 obtain⟨l,rest,h1,h2,rfl,h3⟩:=gints 32 h
 refine⟨⟨l.toArray,by simpa using h1⟩,rest,?_,fun z hz=>?_,h3⟩
 ·rw [D32.eqm];simp
 ·have:=wf_u8 (h2 z (by simpa using hz));omega
theorem VecD.of (h:gfits T (List.replicate 11 (.int .u64)++ks) vs):∃ (d:VecD) (rest:List Value),vs=(VecD.cells d).toList++rest∧(∀ z∈d.toList,0≤z∧z≤18446744073709551615)∧gfits T ks rest:=by
 obtain⟨l,rest,h1,h2,rfl,h3⟩:=gints 11 h
 refine⟨⟨l.toArray,by simpa using h1⟩,rest,?_,fun z hz=>wf_u64 (h2 z (by simpa using hz)),h3⟩
 rw [VecD.eqm];simp
abbrev opK:List GK:=[.int .u8,.str,.str,.str,.str,.int .u64]
abbrev rqK:List GK:=.int .i64::.int .u64::(opK++List.replicate 32 (.int .u8))
abbrev bdK:List GK:=.int .u8::.int .u64::.int .u64::(rqK++(.sl 28::List.replicate 32 (.int .u8)))
abbrev msK:List GK:=.int .i64::.int .u64::(List.replicate 11 (.int .u64)++(bdK++List.replicate 32 (.int .u8)))
abbrev pkK:List GK:=.int .i64::.int .i64::(List.replicate 11 (.int .u64)++[.sl 33])
abbrev stK:List GK:=.int .u8::.int .i64::.int .i64::.int .i64::.int .i64::.int .i64::(opK++(bdK++(pkK++[.int .u64,.int .i64,.str,.int .u64,.sl 39])))
theorem TOp.of (h:gfits T (opK++ks) vs):∃ (o:TOp) (rest:List Value),vs=(TOp.cells o).toList++rest∧((0≤o.kd∧o.kd≤255)∧(0≤o.am∧o.am≤18446744073709551615))∧gfits T ks rest:=by
 obtain⟨_,r0,rfl,⟨n0,rfl,w0⟩,g1⟩:=gfits_cons h
 obtain⟨_,r1,rfl,⟨n1,rfl,-⟩,g2⟩:=gfits_cons g1
 obtain⟨_,r2,rfl,⟨n2,rfl,-⟩,g3⟩:=gfits_cons g2
 obtain⟨_,r3,rfl,⟨n3,rfl,-⟩,g4⟩:=gfits_cons g3
 obtain⟨_,r4,rfl,⟨n4,rfl,-⟩,g5⟩:=gfits_cons g4
 obtain⟨_,r5,rfl,⟨n5,rfl,w5⟩,g6⟩:=gfits_cons g5
 exact⟨⟨n0,n1,n2,n3,n4,n5⟩,r5,rfl,⟨wf_u8 w0,wf_u64 w5⟩,g6⟩
theorem TRq.of (h:gfits T (rqK++ks) vs):∃ (o:TRq) (rest:List Value),vs=(TRq.cells o).toList++rest∧RqOK o∧gfits T ks rest:=by
 replace h:gfits T (.int .i64::.int .u64::(opK++(List.replicate 32 (.int .u8)++ks))) vs:=h
 obtain⟨_,r0,rfl,⟨n0,rfl,w0⟩,g1⟩:=gfits_cons h
 obtain⟨_,r1,rfl,⟨n1,rfl,w1⟩,g2⟩:=gfits_cons g1
 obtain⟨op,r2,rfl,w2,g3⟩:=TOp.of g2
 obtain⟨d,r3,rfl,w3,g4⟩:=D32.of g3
 exact⟨⟨n0,n1,op,d⟩,r3,rfl,⟨wf_i64 w0,wf_u64 w1,w2.1,w2.2,w3⟩,g4⟩
def PrsT (W:World) (T:TypeId→Value→Prop):Prop:=∀ ad n c,T 28 (.slice ad n c)→∃ l:List TPr,l.length=n∧l.length≤9223372036854775807∧(∀ p∈l,(-9223372036854775808≤p.rp∧p.rp≤9223372036854775807)∧(0≤p.nm∧p.nm≤18446744073709551615))∧RowsAt W ad l.length 2 (fun k=>TPr.cells (l.getD k dPr))
def MssT (W:World) (T:TypeId→Value→Prop):Prop:=∀ ad n c,T 33 (.slice ad n c)→∃ l:List TMs,l.length=n∧(∀ m∈l,MsOK m∧RowsAt W m.bd.qa m.bd.ql.length 2 (fun k=>TPr.cells (m.bd.ql.getD k dPr)))∧RowsAt W ad l.length 121 (fun k=>TMs.cells (l.getD k dMs))
def BysT (W:World) (T:TypeId→Value→Prop):Prop:=∀ ad n c,T 39 (.slice ad n c)→∃ l:List Int,l.length=n∧(∀ z∈l,0≤z∧z<256)∧(ad=none→c=0)∧RowsAt W ad l.length 1 (fun k=>byteC (l.getD k (0:Int)))
theorem TBd.of (hP:PrsT W T) (h:gfits T (bdK++ks) vs):∃ (o:TBd) (rest:List Value),vs=(TBd.cells o).toList++rest∧(BdOK o∧RowsAt W o.qa o.ql.length 2 (fun k=>TPr.cells (o.ql.getD k dPr)))∧gfits T ks rest:=by
 replace h:gfits T (.int .u8::.int .u64::.int .u64::(rqK++(.sl 28::(List.replicate 32 (.int .u8)++ks)))) vs:=h
 obtain⟨_,r0,rfl,⟨n0,rfl,w0⟩,g1⟩:=gfits_cons h
 obtain⟨_,r1,rfl,⟨n1,rfl,w1⟩,g2⟩:=gfits_cons g1
 obtain⟨_,r2,rfl,⟨n2,rfl,w2⟩,g3⟩:=gfits_cons g2
 obtain⟨rq,r3,rfl,w3,g4⟩:=TRq.of g3
 obtain⟨_,r4,rfl,⟨ad,n,c,rfl,t4⟩,g5⟩:=gfits_cons g4
 obtain⟨l,rfl,h1,h2,h3⟩:=hP _ _ _ t4
 obtain⟨d,r5,rfl,w5,g6⟩:=D32.of g5
 exact⟨⟨n0,n1,n2,rq,ad,c,l,d⟩,r5,rfl,⟨⟨wf_u8 w0,wf_u64 w1,wf_u64 w2,w3,h2,w5,h1⟩,h3⟩,g6⟩
theorem TMs.of (hP:PrsT W T) (h:gfits T (msK++ks) vs):∃ (o:TMs) (rest:List Value),vs=(TMs.cells o).toList++rest∧(MsOK o∧RowsAt W o.bd.qa o.bd.ql.length 2 (fun k=>TPr.cells (o.bd.ql.getD k dPr)))∧gfits T ks rest:=by
 replace h:gfits T (.int .i64::.int .u64::(List.replicate 11 (.int .u64)++(bdK++(List.replicate 32 (.int .u8)++ks)))) vs:=h
 obtain⟨_,r0,rfl,⟨n0,rfl,w0⟩,g1⟩:=gfits_cons h
 obtain⟨_,r1,rfl,⟨n1,rfl,w1⟩,g2⟩:=gfits_cons g1
 obtain⟨dp,r2,rfl,w2,g3⟩:=VecD.of g2
 have g3':gfits T (bdK++(List.replicate 32 (.int .u8)++ks)) r2:=by simpa only [bdK,List.cons_append,List.append_assoc] using g3
 obtain⟨bd,r3,rfl,w3,g4⟩:=TBd.of hP g3'
 obtain⟨d,r4,rfl,w4,g5⟩:=D32.of g4
 exact⟨⟨n0,n1,dp,bd,d⟩,r4,rfl,⟨⟨wf_i64 w0,wf_u64 w1,w2,w3.1,w4⟩,w3.2⟩,g5⟩
structure StIn (W:World) (s:TSt):Prop where
 ok:StOK s
 q:RowsAt W s.bd.qa s.bd.ql.length 2 (fun k=>TPr.cells (s.bd.ql.getD k dPr))
 m:RowsAt W s.pk.ma s.pk.ml.length 121 (fun k=>TMs.cells (s.pk.ml.getD k dMs))
 p:RowsAt W s.pa s.pl.length 1 (fun k=>byteC (s.pl.getD k (0:Int)))
 ms:∀ m∈s.pk.ml,MsOK m∧RowsAt W m.bd.qa m.bd.ql.length 2 (fun k=>TPr.cells (m.bd.ql.getD k dPr))
theorem TSt.of {cs:Array Value}(hP:PrsT W T) (hM:MssT W T) (hB:BysT W T) (h:gfits T stK cs.toList):∃ s:TSt,cs=TSt.cells s∧StIn W s:=by
 obtain⟨vs⟩:=cs
 simp only at h
 obtain⟨_,r0,rfl,⟨n0,rfl,w0⟩,g1⟩:=gfits_cons h
 obtain⟨_,r1,rfl,⟨n1,rfl,w1⟩,g2⟩:=gfits_cons g1
 obtain⟨_,r2,rfl,⟨n2,rfl,w2⟩,g3⟩:=gfits_cons g2
 obtain⟨_,r3,rfl,⟨n3,rfl,w3⟩,g4⟩:=gfits_cons g3
 obtain⟨_,r4,rfl,⟨n4,rfl,w4⟩,g5⟩:=gfits_cons g4
 obtain⟨_,r5,rfl,⟨n5,rfl,w5⟩,g6⟩:=gfits_cons g5
 obtain⟨op,r6,rfl,w6,g7⟩:=TOp.of g6
 obtain⟨bd,r7,rfl,w7,g8⟩:=TBd.of hP g7
 replace g8:gfits T (.int .i64::.int .i64::(List.replicate 11 (.int .u64)++(.sl 33::[.int .u64,.int .i64,.str,.int .u64,.sl 39]))) r7:=g8
 obtain⟨_,r8,rfl,⟨n8,rfl,w8⟩,g9⟩:=gfits_cons g8
 obtain⟨_,r9,rfl,⟨n9,rfl,w9⟩,g10⟩:=gfits_cons g9
 obtain⟨kn,ra,rfl,wa,g11⟩:=VecD.of g10
 obtain⟨_,rb,rfl,⟨ad,n,c,rfl,tb⟩,g12⟩:=gfits_cons g11
 obtain⟨l,rfl,b1,b2⟩:=hM _ _ _ tb
 obtain⟨_,rc,rfl,⟨nc,rfl,wc⟩,g13⟩:=gfits_cons g12
 obtain⟨_,rd,rfl,⟨nd,rfl,wd⟩,g14⟩:=gfits_cons g13
 obtain⟨_,re,rfl,⟨ne,rfl,-⟩,g15⟩:=gfits_cons g14
 obtain⟨_,rf,rfl,⟨nf,rfl,wf⟩,g16⟩:=gfits_cons g15
 obtain⟨_,rg,rfl,⟨ag,ng,cg,rfl,tg⟩,g17⟩:=gfits_cons g16
 obtain⟨lp,rfl,p1,p2,p3⟩:=hB _ _ _ tg
 obtain rfl:=gfits_nil g17
 exact⟨⟨n0,n1,n2,n3,n4,n5,op,bd,⟨n8,n9,kn,ad,c,l⟩,nc,⟨nd,ne⟩,nf,ag,cg,lp⟩,rfl,⟨⟨wf_u8 w0,wf_i64 w1,wf_i64 w2,wf_i64 w3,wf_i64 w4,wf_i64 w5,w6.1,w6.2,w7.1,wa,wf_u64 wc,wf_u64 wf,p1,p2⟩,w7.2,b2,p3,b1⟩⟩
end
section
open Go.Deep
variable {H : Type} {enc : TypeId × Value → H} {w : World} {base : Nat} {spare : Nat → Bool} {held : Bool}
theorem prsT_in:PrsT w (SlT enc Tryz.prog w base spare held):=fun ad n c ⟨d,ps,h⟩=>by
 obtain⟨hn,cell,hr,hc⟩:=gopen_flat (m:=8) (ks:=[.int .i64,.int .u64]) Tryz.underlying28 (by kernel_rfl) (by kernel_rfl) (by decide) h
 obtain⟨l,hl,hp,hw⟩:=list_of_cells dPr (f:=TPr.cells) (fun p=>(-9223372036854775808≤p.rp∧p.rp≤9223372036854775807)∧(0≤p.nm∧p.nm≤18446744073709551615)) hr (fun k hk=>by
  have g:=hc k hk
  generalize cell k=cs at g ⊢
  obtain⟨vs⟩:=cs
  obtain⟨_,r0,rfl,⟨n0,rfl,w0⟩,g1⟩:=gfits_cons g
  obtain⟨_,r1,rfl,⟨n1,rfl,w1⟩,g2⟩:=gfits_cons g1
  obtain rfl:=gfits_nil g2
  exact⟨⟨n0,n1⟩,⟨wf_i64 w0,wf_u64 w1⟩,rfl⟩)
 exact⟨l,hl,by rw [hl];exact hn,hp,hw⟩
theorem mssT_in:MssT w (SlT enc Tryz.prog w base spare held):=fun ad n c ⟨d,ps,h⟩=>by
 obtain⟨-,cell,hr,hc⟩:=gopen_flat (m:=8) (ks:=msK) Tryz.underlying33 (by kernel_rfl) (by kernel_rfl) (by decide) h
 obtain⟨l,hl,hp,hw⟩:=list_of_cells dMs (f:=TMs.cells) (fun m=>MsOK m∧RowsAt w m.bd.qa m.bd.ql.length 2 (fun k=>TPr.cells (m.bd.ql.getD k dPr))) hr (fun k hk=>by
  have g:=hc k hk
  generalize cell k=cs at g ⊢
  obtain⟨vs⟩:=cs
  rw [← List.append_nil msK] at g
  obtain⟨m,r,rfl,w1,g1⟩:=TMs.of prsT_in g
  obtain rfl:=gfits_nil g1
  exact⟨m,w1,rfl⟩)
 exact⟨l,hl,hp,hw⟩
theorem bysT_in:BysT w (SlT enc Tryz.prog w base spare held):=fun ad n c ⟨d,ps,h⟩=>by
 have h0:ad=none→c=0:=fun e=>by
  subst e
  obtain⟨fuel,hf⟩:=h
  rcases open_slice Tryz.underlying39 hf with⟨hcs,_⟩|⟨a,len,cap,mm,nn,D,Pl,hcs,_⟩
  ·simp [Value.cells] at hcs;exact hcs.2
  ·simp [Value.cells] at hcs
 obtain⟨-,cell,hr,hc⟩:=gopen_flat (m:=8) (ks:=[.int .u8]) Tryz.underlying39 (by kernel_rfl) (by kernel_rfl) (by decide) h
 obtain⟨l,hl,hp,hw⟩:=list_of_cells (0:Int) (f:=byteC) (fun z=>0≤z∧z<256) hr (fun k hk=>by
  have g:=hc k hk
  generalize cell k=cs at g ⊢
  obtain⟨vs⟩:=cs
  obtain⟨_,r0,rfl,⟨n0,rfl,w0⟩,g1⟩:=gfits_cons g
  obtain rfl:=gfits_nil g1
  exact⟨n0,by have:=wf_u8 w0;omega,rfl⟩)
 exact⟨l,hl,hp,h0,hw⟩
end
end Go.Proofs.YtmeacpdadahafaaGreatDoor
