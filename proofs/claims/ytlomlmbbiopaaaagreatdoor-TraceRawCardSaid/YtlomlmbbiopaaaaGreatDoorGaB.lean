/-
  Several texts in one: TbI, TbJ, TbK, TbL, TbM, TbN, TbO, TbP.
-/
import Derived.Test.YtlomlmbbiopaaaaGreatDoorSxT
import Derived.Test.YtlomlmbbiopaaaaGreatDoorGaA
namespace Go.Proofs.YtlomlmbbiopaaaaGreatDoor
open Go.RowKit Go.Sx
set_option linter.unusedVariables false
set_option linter.unusedSimpArgs false
set_option linter.unnecessarySimpa false
set_option maxRecDepth 100000
section
variable {w0 w : World} {L : List Asn} {ay : Option Addr} {cy : Nat} {ax : Option Addr} {cx : Nat}
theorem eqPair_spec (x) (y) (hll:x.length≤9223372036854775807) (hr1:Rw w0 L TPr.cells 2 dPr ax x) (hr2:Rw w0 L TPr.cells 2 dPr ay y) (hs:St w0 (L) w):Cs Tryz.prog 188 #[.slice ax x.length cx,.slice ay y.length cy] w fun rv w'=>rv=.bool (decide (x=y))∧St w0 (L) w':=by
 refine Zen Tryz.func188 Tryz.ntmps188 (En (Lq (Ls (Lq (Dz (Zqc (t:=(x.length:Int) != (y.length:Nat)) (fun h1=>?_) (fun h1=>?_)))))))
 ·have a4:=ineT h1
  exact En (Lq (Le (Ly (Dz (Zq1 (v:=.bool false) ⟨(by rw [decide_eq_false fun h9=>absurd (congrArg List.length h9) (by omega)]),hs⟩)))))
 ·have a4:=ineF h1
  have hln:x.length=y.length:=by omega
  refine En (Lk (Lt (Ls (Lq (Lb (Dz (GoC.loop (T:=Nat×(Option Addr)×(Option Addr)) (fun gg=>[(0,.slice gg.2.1 x.length cx),(1,.slice gg.2.2 y.length cy),(12,.int .i64 (x.length:Nat)),(13,.int .i64 (gg.1:Nat))]) (fun gg w=>(gg.1≤x.length∧x.take gg.1=y.take gg.1∧(∀ w,St w0 L w→RowsAt w gg.2.1 x.length 2 (fun q=>TPr.cells (x.getD q dPr)))∧(∀ w,St w0 L w→RowsAt w gg.2.2 y.length 2 (fun q=>TPr.cells (y.getD q dPr))))∧St w0 (L) w) (fun gg=>x.length-gg.1) (0,ax,ay) [0,1,12,13] (by kernel_rfl) ⟨⟨Nat.zero_le _,rfl,hr1,hr2⟩,hs⟩ ?_)))))))
  rintro⟨k,aq,bq⟩ w2 ⟨hp,a⟩
  dsimp only at hp a
  have a1:=hp.2.2.1
  have a2:=hp.2.2.2
  refine En (Lq (Ls (Dz (Zi ((k:Int)<(x.length:Nat)) (fun a5=>?_) (fun a5=>?_)))))
  ·have hkx:k<x.length:=by omega
   have hky:k<y.length:=by omega
   obtain⟨e,f,rfl⟩:=RowsAt.isSome (a1 _ (a.drop 0)) (by omega)
   obtain⟨o,u,rfl⟩:=RowsAt.isSome (a2 _ (a.drop 0)) (by omega)
   refine En (Lk (Lt (Ls (Lb (Lq (Ls (Dz (ZD (rds [0,1,2,3,4,5,6,7,8] .done) a fun a6 a0 a7=>Zp 0 8 [(2,.as_ (zP e (f+(k*2))) .at_),(3,.agg (TPr.cells (x.getD k dPr))),(6,.as_ (zP o (u+(k*2))) .at_),(7,.agg (TPr.cells (y.getD k dPr)))] [(2,[.prop (0≤(k:Int)∧(k:Int)<(x.length:Int)),.prop (Value.pointer (some (Addr.add ⟨e,f,none⟩ (Int.toNat (k:Nat)*2)))=Value.pointer (some ⟨e,f+(k*2),none⟩))]),(3,[.prop (Array.size (TPr.cells (x.getD k dPr))=2),.cells ⟨e,f+(k*2),none⟩ (TPr.cells (x.getD k dPr))]),(6,[.prop (0≤(k:Int)∧(k:Int)<(y.length:Int)),.prop (Value.pointer (some (Addr.add ⟨o,u,none⟩ (Int.toNat (k:Nat)*2)))=Value.pointer (some ⟨o,u+(k*2),none⟩))]),(7,[.prop (Array.size (TPr.cells (y.getD k dPr))=2),.cells ⟨o,u+(k*2),none⟩ (TPr.cells (y.getD k dPr))])] (ak (okp (by omega) (okp (ptrAdd _ _ _) ok0)) (ak (okp (by kernel_rfl) (oka (RowsAt.all0 (a1 _ (a0.drop 0)) (by first|omega|(simp only [List.length_set];omega)|(simp only [List.length_set,lA,lC,lN];omega)) (Nat.le_of_ble_eq_true (by kernel_rfl)) (by kernel_rfl)) ok0)) (ak (okp (by omega) (okp (ptrAdd _ _ _) ok0)) (ak (okp (by kernel_rfl) (oka (RowsAt.all0 (a2 _ (a0.drop 0)) (by first|omega|(simp only [List.length_set];omega)|(simp only [List.length_set,lA,lC,lN];omega)) (Nat.le_of_ble_eq_true (by kernel_rfl)) (by kernel_rfl)) ok0)) ak0)))) (GoR.eqAgg rfl (by kernel_rfl) (b:=false) (t:=143) (xs:=TPr.cells (x.getD k dPr)) (ys:=TPr.cells (y.getD k dPr)) (m:=2) (by kernel_rfl) (by kernel_rfl) (by decide) (by kernel_rfl) (r:=!(decide ((x.getD k dPr)=(y.getD k dPr)))) (aggNe  (prEq (x.getD k dPr) (y.getD k dPr))) (Zd (Zt (Zqc (t:=!(decide ((x.getD k dPr)=(y.getD k dPr)))) (fun z=>?_) (fun z=>?_)))))))))))))
   ·have a3:=notT z
    have hne:¬ (x.getD k dPr=y.getD k dPr):=by simpa using z
    exact En (Lq (Le (Ll (Ly (LsR (Ll (Ly (Dz (Zq1 (v:=.bool false) ⟨(by rw [decide_eq_false fun h9=>hne (by rw [h9])]),a0⟩)))))))))
   ·have a3:=notF z
    have heq:x.getD k dPr=y.getD k dPr:=by simpa using z
    exact Zk (Zm (Zt (Zaj (Hwi 0 ((k:Nat)+1) Hz) (GoQ.back (k+1,some ⟨e,f,none⟩,some ⟨o,u,none⟩) [0,1,12,13] (by kernel_rfl) (by show x.length-(k+1)<x.length-k;omega) ⟨⟨by omega,by rw [take_succ_getD (d:=dPr) hkx,take_succ_getD (d:=dPr) hky,hp.2.1,heq],a1,a2⟩,a0⟩))))
  ·have hxy:x=y:=by rw [← List.take_of_length_le (i:=k) (l:=x) (by omega),← List.take_of_length_le (i:=k) (l:=y) (by omega)];exact hp.2.1
   exact En (Lx (LsC (LsL (Lh (Lt (Lq (Le (Dz (Zq1 (v:=.bool true) ⟨(by rw [decide_eq_true hxy]),a⟩)))))))))
def sameB (x:TBd) (y:TBd):Bool :=
 if ((x.kd:Int) == y.kd)=true then
  if ((x.vw:Int) == y.vw)=true then
   if ((x.k:Int) == y.k)=true then
    if (decide (x.rq=y.rq))=true then
     if (decide (x.ql=y.ql))=true then
      decide (x.dg=y.dg)
     else
      false
    else
     false
   else
    false
  else
   false
 else
  false
theorem same_spec (x) (y) (hqn:x.ql.length≤9223372036854775807) (hr1:Rw w0 L TPr.cells 2 dPr x.qa x.ql) (hr2:Rw w0 L TPr.cells 2 dPr y.qa y.ql) (hs:St w0 (L) w):Cs Tryz.prog 123 #[.agg (TBd.cells x),.agg (TBd.cells y)] w fun rv w'=>rv=.bool (sameB x y)∧St w0 (L) w':=by
 refine Zen Tryz.func123 Tryz.ntmps123 (En (Ls (Lg [0,1] (Dz (Zbg (TBd.cells x) hs fun z w2 a6=>Lo (Dz (Zbg (TBd.cells y) a6 fun b4 w5 a=>Lz (Ls (Lg [31] (Dz (Zpj 0 6 (Hl 1 1 0 a (Hl 3 0 0 a Hz)) (Zsq 10 ((x.kd:Int) == y.kd) (fun d=>?_) (fun d=>?_)))))))))))))
 ·refine Zpj 6 7 (Hl 7 1 1 a (Hl 9 0 1 a Hz)) (Zsq 17 ((x.vw:Int) == y.vw) (fun e=>?_) (fun e=>?_))
  ·refine Zpj 13 7 (Hl 14 1 2 a (Hl 16 0 2 a Hz)) (Zsq 24 ((x.k:Int) == y.k) (fun i=>?_) (fun i=>?_))
   ·refine Zp 20 4 [(21,.agg (TRq.cells x.rq)),(23,.agg (TRq.cells y.rq))] [(21,[.prop (Array.size (TRq.cells x.rq)=40),.cells ⟨z,3,none⟩ (TRq.cells x.rq)]),(23,[.prop (Array.size (TRq.cells y.rq)=40),.cells ⟨b4,3,none⟩ (TRq.cells y.rq)])] (ak (okp (by kernel_rfl) (oka (a.cells 1 3 rfl (by kernel_rfl)) ok0)) (ak (okp (by kernel_rfl) (oka (a.cells 0 3 rfl (by kernel_rfl)) ok0)) ak0)) (GoR.eqAgg rfl (by kernel_rfl) (b:=true) (t:=34) (xs:=TRq.cells x.rq) (ys:=TRq.cells y.rq) (m:=3) (by kernel_rfl) (by kernel_rfl) (by decide) (by kernel_rfl) (r:=decide (x.rq=y.rq)) (aggEq  (rqEq x.rq y.rq)) (Zr 25 2 [] (Zsq 31 (decide (x.rq=y.rq)) (fun o=>?_) (fun o=>?_))))
    ·refine Zj (Hl 28 1 43 a (Hl 30 0 43 a Hz)) (Zqa (f:=188) (args:=#[.slice x.qa x.ql.length x.qc,.slice y.qa y.ql.length y.qc]) Tryz.call188 (eqPair_spec x.ql y.ql (by first|assumption|omega) (fun w h=>hr1 _ (h.drop 2)) (fun w h=>hr2 _ (h.drop 2)) a) ?_)
     rintro b2 b3 ⟨rfl,q⟩
     refine Lo (Dz (Zr 32 2 [] (Zsq 38 (decide (x.ql=y.ql)) (fun u=>?_) (fun u=>?_))))
     ·exact Zp 34 4 [(35,.agg (D32.cells x.dg)),(37,.agg (D32.cells y.dg))] [(35,[.prop (Array.size (D32.cells x.dg)=32),.cells ⟨z,44,none⟩ (D32.cells x.dg)]),(37,[.prop (Array.size (D32.cells y.dg)=32),.cells ⟨b4,44,none⟩ (D32.cells y.dg)])] (ak (okp (by kernel_rfl) (oka (q.cells 1 44 rfl (by kernel_rfl)) ok0)) (ak (okp (by kernel_rfl) (oka (q.cells 0 44 rfl (by kernel_rfl)) ok0)) ak0)) (GoR.eqAgg rfl (by kernel_rfl) (b:=true) (t:=32) (xs:=D32.cells x.dg) (ys:=D32.cells y.dg) (m:=2) (by kernel_rfl) (by kernel_rfl) (by decide) (by kernel_rfl) (r:=decide (x.dg=y.dg)) (aggEq  (digEq x.dg y.dg)) (En (Lud (Lt (Le (Dz (Zq1 (v:=.bool (decide (x.dg=y.dg))) (Zfb (by rw [sameB,if_pos d,if_pos e,if_pos i,if_pos o,if_pos u]) (q.dr 2)))))))))
     ·exact En (Lud (Lt (Le (Dz (Zq1 (v:=.bool false) (Zfb (by rw [sameB,if_pos d,if_pos e,if_pos i,if_pos o,nI u]) (q.dr 2)))))))
    ·exact En (Lw (Zsk (En (Lud (Lt (Le (Dz (Zq1 (v:=.bool false) (Zfb (by rw [sameB,if_pos d,if_pos e,if_pos i,nI o]) (a.dr 2))))))))))
   ·exact En (Lw (Zsk (En (Lud (Lt (Le (Dz (Zq1 (v:=.bool false) (Zfb (by rw [sameB,if_pos d,if_pos e,nI i]) (a.dr 2))))))))))
  ·exact En (Lw (Zsk (En (Lud (Lt (Le (Dz (Zq1 (v:=.bool false) (Zfb (by rw [sameB,if_pos d,nI e]) (a.dr 2))))))))))
 ·exact En (Lw (Zsk (En (Lud (Lt (Le (Dz (Zq1 (v:=.bool false) (Zfb (by rw [sameB,nI d]) (a.dr 2))))))))))
structure CoV where
 p:Value
 g:Value
 m:Value
def CoV.cells (x:CoV):Array Value:=#[x.p,x.g,x.m]
abbrev cvZ:CoV:=⟨.nilFunc,.nilFunc,.nilFunc⟩
abbrev cvF (a b c:Nat):CoV:=⟨.func (.func a) #[] #[],.func (.func b) #[] #[],.func (.func c) #[] #[]⟩
abbrev ekU:Int→Value:=Value.int .u8
abbrev evC:CoV→Value:=fun v=>.agg (CoV.cells v)
theorem cdLaw:MapLaw Tryz.prog 240 ekU evC 5 238 :=
 MapLaw.now (by kernel_rfl) ⟨.int .u8,by kernel_rfl,fun a b=>by simp [Instr.sameNow,ekU,ib],.inl ⟨_,rfl⟩⟩ (fun a=>by simp [Instr.sameBits,ekU]) (fun em a w=>rfl)
theorem view_spec (hs:St w0 (L) w):Cs Tryz.prog 181 #[] w fun rv w'=>rv=.agg #[.func (.func 234) #[] #[],.func (.func 235) #[] #[],.func (.func 236) #[] #[]]∧St w0 (L) w':=by
 exact Zen Tryz.func181 Tryz.ntmps181 (En (Ls (Lg [0] (Dz (Zag (CoV.cells cvZ) hs fun e f b=>Lo (Ld (Lt (Ls (Lg [1] (Lw (Zu 0 0 #[.func (.func 234) #[] #[],.func (.func 235) #[] #[],.func (.func 236) #[] #[]] b fun i a=>Lo (Ld (Lt (Le (Dz (Zra 0 a ⟨rfl,(a.dr 1)⟩))))))))))))))))
def cdL:List (Int×CoV):=aset (aset (aset (aset (aset (aset ([]) 1 (⟨(.func (.func 172) #[] #[]),(.func (.func 174) #[] #[]),(.func (.func 176) #[] #[])⟩:CoV)) 2 (⟨(.func (.func 178) #[] #[]),(.func (.func 179) #[] #[]),(.func (.func 180) #[] #[])⟩:CoV)) 3 (⟨(.func (.func 234) #[] #[]),(.func (.func 235) #[] #[]),(.func (.func 236) #[] #[])⟩:CoV)) 5 (⟨(.func (.func 234) #[] #[]),(.func (.func 235) #[] #[]),(.func (.func 236) #[] #[])⟩:CoV)) 4 (⟨(.func (.func 182) #[] #[]),(.func (.func 183) #[] #[]),(.func (.func 184) #[] #[])⟩:CoV)) 6 (⟨(.func (.func 186) #[] #[]),(.func (.func 187) #[] #[]),(.func (.func 180) #[] #[])⟩:CoV)
theorem codecs_spec (hs:St w0 (L) w):Cs Tryz.prog 122 #[] w fun rv w'=>∃ r,rv=.map (some r)∧St w0 ((MapA ekU evC r cdL)::L) w':=by
 exact Zen Tryz.func122 Tryz.ntmps122 (En (Lq (Ls (Lg [0,2,4,5,6,7,8,10,12] (Dz (GoR.makeMap (α:=Int) (β:=CoV) rfl rfl (by kernel_rfl) ekU evC hs fun r1 x a=>Lo (Lw (GoR.insert rfl (by kernel_rfl) cdLaw (r:=r1) (k:=1) (v:=(⟨(.func (.func 172) #[] #[]),(.func (.func 174) #[] #[]),(.func (.func 176) #[] #[])⟩:CoV)) (by kernel_rfl) a 0 rfl fun z b=>Lo (Lw (GoR.insert rfl (by kernel_rfl) cdLaw (r:=r1) (k:=2) (v:=(⟨(.func (.func 178) #[] #[]),(.func (.func 179) #[] #[]),(.func (.func 180) #[] #[])⟩:CoV)) (by kernel_rfl) b 0 rfl fun w6 d=>Lo (Dz (Zc1 (view_spec d) fun a0 e=>Lo (Dz (GoR.insert rfl (by kernel_rfl) cdLaw (r:=r1) (k:=3) (v:=(⟨(.func (.func 234) #[] #[]),(.func (.func 235) #[] #[]),(.func (.func 236) #[] #[])⟩:CoV)) (by kernel_rfl) e 0 rfl fun a1 f=>Lo (Dz (Zc1 (view_spec f) fun a3 i=>Lo (Dz (GoR.insert rfl (by kernel_rfl) cdLaw (r:=r1) (k:=5) (v:=(⟨(.func (.func 234) #[] #[]),(.func (.func 235) #[] #[]),(.func (.func 236) #[] #[])⟩:CoV)) (by kernel_rfl) i 0 rfl fun a4 o=>Lo (Lw (GoR.insert rfl (by kernel_rfl) cdLaw (r:=r1) (k:=4) (v:=(⟨(.func (.func 182) #[] #[]),(.func (.func 183) #[] #[]),(.func (.func 184) #[] #[])⟩:CoV)) (by kernel_rfl) o 0 rfl fun a5 q=>Lo (Lw (GoR.insert rfl (by kernel_rfl) cdLaw (r:=r1) (k:=6) (v:=(⟨(.func (.func 186) #[] #[]),(.func (.func 187) #[] #[]),(.func (.func 180) #[] #[])⟩:CoV)) (by kernel_rfl) q 0 rfl fun a6 u=>Lz (Le (Dz (Zq1 (v:=.map (some r1)) ⟨r1,rfl,u⟩)))))))))))))))))))))))))
end
structure Codec (kd:Int) (fp fg fm:Nat):Prop where
 cp:∀ (args:Array Value) (w:World),(callFunc fp args).run Tryz.prog w=.ok (.enter fp args) w
 cg:∀ (args:Array Value) (w:World),(callFunc fg args).run Tryz.prog w=.ok (.enter fg args) w
 cm:∀ (args:Array Value) (w:World),(callFunc fm args).run Tryz.prog w=.ok (.enter fm args) w
 may:∀ {w0 w:World}{L:List Asn}(x:TBd) (hkd:x.kd=kd) (hqn:x.ql.length≤9223372036854775807) (hr:∀ w,St w0 L w→RowsAt w x.qa x.ql.length 2 (fun k=>TPr.cells (x.ql.getD k dPr))) (hs:St w0 (L) w),Calls Tryz.prog fm #[.agg (TBd.cells x)] w (Ret fun rv w'=>rv=.bool (mayB x)∧St w0 (L) w')
 put:∀ {w0 w:World}{L:List Asn}{ad:Option Addr}{c:Nat}(l:List Int) (x:TBd) (hkd:x.kd=kd) (hl:l.length≤90000) (hx:BdOK x) (hm:mayB x=true) (hlq:x.ql.length≤1000) (hr:∀ w,St w0 L w→RowsAt w x.qa x.ql.length 2 (fun k=>TPr.cells (x.ql.getD k dPr))) (hs:St w0 ((Sl ad c 5 1 byteC l)::L) w),Calls Tryz.prog fp #[.slice ad l.length c,.agg (TBd.cells x)] w (Ret fun rv w'=>∃ (ao:Option Addr) (co:Nat),rv=.slice ao ((l++bdB x).length) co∧St w0 ((Sl ao co 5 1 byteC (l++bdB x))::L) w')
 getY:∀ {w0 w:World}{L:List Asn}{c:Nat}{az:Option Addr}{cz:Nat}{y:Nat}(Q:Asn) (r:List Int) (sp:Bool) (hQ:∀ w,St w0 L w→Q.holds w) (hq:CutOK Q az r cz) (hkr:0≤kd∧kd≤255) (hs:St w0 ((Cel c #[.slice az r.length cz,.bool sp] 150)::(Cel y (TBd.cells (⟨kd,0,0,dRq,none,0,[],dD32⟩:TBd)) 37)::L) w),Calls Tryz.prog fg #[zP c 0,zP y 0] w (Ret fun rv w'=>∃ (yy2:TBd) (rr2:List Int) (sp2:Bool) (az2:Option Addr) (cz2:Nat),rv=.tuple #[]∧getB kd (r,sp)=(con yy2,(rr2,sp2))∧BdOK yy2∧CutOK Q az2 rr2 cz2∧St w0 ((Cel y (TBd.cells yy2) 37)::(Sl yy2.qa yy2.qc 143 2 TPr.cells yy2.ql)::(Cel c #[.slice az2 rr2.length cz2,.bool sp2] 150)::L) w')
 getM:∀ {w0 w:World}{L:List Asn}{c:Nat}{az:Option Addr}{cz:Nat}{y:Nat}{og:Int}{nr:Int}{dp:VecD}{tg:D32}(Q:Asn) (r:List Int) (sp:Bool) (hQ:∀ w,St w0 L w→Q.holds w) (hq:CutOK Q az r cz) (hkr:0≤kd∧kd≤255) (hs:St w0 ((Cel c #[.slice az r.length cz,.bool sp] 150)::(Cel y (TMs.cells (⟨og,nr,dp,(⟨kd,0,0,dRq,none,0,[],dD32⟩:TBd),tg⟩:TMs)) 63)::L) w),Calls Tryz.prog fg #[zP c 0,zP y 13] w (Ret fun rv w'=>∃ (yy2:TBd) (rr2:List Int) (sp2:Bool) (az2:Option Addr) (cz2:Nat),rv=.tuple #[]∧getB kd (r,sp)=(con yy2,(rr2,sp2))∧BdOK yy2∧CutOK Q az2 rr2 cz2∧St w0 ((Cel y (TMs.cells (⟨og,nr,dp,yy2,tg⟩:TMs)) 63)::(Sl yy2.qa yy2.qc 143 2 TPr.cells yy2.ql)::(Cel c #[.slice az2 rr2.length cz2,.bool sp2] 150)::L) w')
theorem codec1:Codec 1 172 174 176 where
 cp:=Tryz.call172
 cg:=Tryz.call174
 cm:=Tryz.call176
 may:=fun x hkd hqn hr hs=>by
  rw [show mayB x=askedB x.rq from if_pos (by omega)]
  exact may1_spec x hs
 put:=fun l x hkd hl hx hm hlq hr hs=>by
  rw [show bdB x=bd1 x from if_pos (by omega)]
  exact put1_spec l x hl hx (askedB_sz (by rw [show mayB x=askedB x.rq from if_pos (by omega)] at hm;exact hm)) hs
 getY:=fun Q r sp hQ hq hkr hs=>get1Y_spec Q r sp 1 hQ hq hkr rfl hs
 getM:=fun Q r sp hQ hq hkr hs=>get1M_spec Q r sp 1 hQ hq hkr rfl hs
theorem codec2:Codec 2 178 179 180 where
 cp:=Tryz.call178
 cg:=Tryz.call179
 cm:=Tryz.call180
 may:=fun x hkd hqn hr hs=>by
  rw [show mayB x=kB x from(if_neg (by omega)).trans (if_pos (by omega))]
  exact k_spec x hs
 put:=fun l x hkd hl hx hm hlq hr hs=>by
  rw [show bdB x=bd2 x from(if_neg (by omega)).trans (if_pos (by omega))]
  exact put2_spec l x hl hx hs
 getY:=fun Q r sp hQ hq hkr hs=>get2Y_spec Q r sp 2 hQ hq hkr rfl hs
 getM:=fun Q r sp hQ hq hkr hs=>get2M_spec Q r sp 2 hQ hq hkr rfl hs
theorem codec3:Codec 3 234 235 236 where
 cp:=Tryz.call234
 cg:=Tryz.call235
 cm:=Tryz.call236
 may:=fun x hkd hqn hr hs=>by
  rw [show mayB x=decide ((x.vw:Int) ≥ 1) from(if_neg (by omega)).trans ((if_neg (by omega)).trans (if_neg (by omega)))]
  exact may3_spec x hs
 put:=fun l x hkd hl hx hm hlq hr hs=>by
  rw [show bdB x=wd x.vw from(if_neg (by omega)).trans ((if_neg (by omega)).trans ((if_neg (by omega)).trans (if_neg (by omega))))]
  exact put3_spec l x hl hx hs
 getY:=fun Q r sp hQ hq hkr hs=>get3Y_spec Q r sp 3 hQ hq hkr (by decide) hs
 getM:=fun Q r sp hQ hq hkr hs=>get3M_spec Q r sp 3 hQ hq hkr (by decide) hs
theorem codec4:Codec 4 182 183 184 where
 cp:=Tryz.call182
 cg:=Tryz.call183
 cm:=Tryz.call184
 may:=fun x hkd hqn hr hs=>by
  rw [show mayB x=(decide ((x.vw:Int) ≥ 1) && quorB x.ql) from(if_neg (by omega)).trans ((if_neg (by omega)).trans (if_pos (by omega)))]
  exact may4_spec x hqn hr hs
 put:=fun l x hkd hl hx hm hlq hr hs=>by
  rw [show bdB x=bd4 x from(if_neg (by omega)).trans ((if_neg (by omega)).trans (if_pos (by omega)))]
  exact put4_spec l x hl hx hlq hr hs
 getY:=fun Q r sp hQ hq hkr hs=>get4Y_spec Q r sp 4 hQ hq hkr rfl hs
 getM:=fun Q r sp hQ hq hkr hs=>get4M_spec Q r sp 4 hQ hq hkr rfl hs
theorem codec5:Codec 5 234 235 236 where
 cp:=Tryz.call234
 cg:=Tryz.call235
 cm:=Tryz.call236
 may:=fun x hkd hqn hr hs=>by
  rw [show mayB x=decide ((x.vw:Int) ≥ 1) from(if_neg (by omega)).trans ((if_neg (by omega)).trans (if_neg (by omega)))]
  exact may3_spec x hs
 put:=fun l x hkd hl hx hm hlq hr hs=>by
  rw [show bdB x=wd x.vw from(if_neg (by omega)).trans ((if_neg (by omega)).trans ((if_neg (by omega)).trans (if_neg (by omega))))]
  exact put3_spec l x hl hx hs
 getY:=fun Q r sp hQ hq hkr hs=>get3Y_spec Q r sp 5 hQ hq hkr (by decide) hs
 getM:=fun Q r sp hQ hq hkr hs=>get3M_spec Q r sp 5 hQ hq hkr (by decide) hs
theorem codec6:Codec 6 186 187 180 where
 cp:=Tryz.call186
 cg:=Tryz.call187
 cm:=Tryz.call180
 may:=fun x hkd hqn hr hs=>by
  rw [show mayB x=kB x from(if_neg (by omega)).trans (if_pos (by omega))]
  exact k_spec x hs
 put:=fun l x hkd hl hx hm hlq hr hs=>by
  rw [show bdB x=bd6 x from(if_neg (by omega)).trans ((if_neg (by omega)).trans ((if_neg (by omega)).trans (if_pos (by omega))))]
  exact put6_spec l x hl hx hs
 getY:=fun Q r sp hQ hq hkr hs=>get6Y_spec Q r sp 6 hQ hq hkr rfl hs
 getM:=fun Q r sp hQ hq hkr hs=>get6M_spec Q r sp 6 hQ hq hkr rfl hs
theorem codec_of {kd:Int}(h:1≤kd∧kd≤6):∃ fp fg fm,aget cdL kd=some (cvF fp fg fm)∧Codec kd fp fg fm:=by
 obtain rfl|rfl|rfl|rfl|rfl|rfl:kd=1∨kd=2∨kd=3∨kd=4∨kd=5∨kd=6:=by omega
 ·exact⟨172,174,176,rfl,codec1⟩
 ·exact⟨178,179,180,rfl,codec2⟩
 ·exact⟨234,235,236,rfl,codec3⟩
 ·exact⟨182,183,184,rfl,codec4⟩
 ·exact⟨234,235,236,rfl,codec5⟩
 ·exact⟨186,187,180,rfl,codec6⟩
theorem codec_no {kd:Int}(h:¬ (1≤kd∧kd≤6)):aget cdL kd=none:=by
 have hn:cdL.find? (fun x=>decide (x.1=kd))=none:=by
  refine List.find?_eq_none.2 fun x hx a=>h ?_
  have hk:∀ x∈cdL,1≤x.1∧x.1≤6:=fun x hx=>by
   have e:cdL.map (fun x=>x.1)=[1,2,3,5,4,6]:=rfl
   have b:=e▸List.mem_map_of_mem (f:=fun x:Int×CoV=>x.1) hx
   simp only [List.mem_cons,List.not_mem_nil,or_false] at b
   omega
  rw [← of_decide_eq_true a]
  exact hk x hx
 show(cdL.find? fun x=>decide (x.1=kd)).map (·.2)=none
 rw [hn]
 rfl
theorem aget_isSome (kd:Int):(aget cdL kd).isSome=decide (1≤kd∧kd≤6):=by
 by_cases h:1≤kd∧kd≤6
 ·obtain⟨fp,fg,fm,hc,-⟩:=codec_of h
  rw [hc,decide_eq_true h]
  rfl
 ·rw [codec_no h,decide_eq_false h]
  rfl
section
variable {w0 w : World} {L : List Asn}
theorem wd_byt (n:Int):∀ z∈wd n,0≤z∧z<256:=by
 intro x hx
 obtain⟨k,-,rfl⟩:=List.mem_map.1 hx
 exact u8wrap_b _
def Byt (l:List Int):Prop:=∀ z∈l,0≤z∧z<256
theorem Byt.app {l m:List Int}(h:Byt l) (h2:Byt m):Byt (l++m):=fun x hx=>(List.mem_append.1 hx).elim (h x) (h2 x)
theorem Byt.one {v:Int}(h:0≤v∧v<256):Byt [v]:=fun z hz=>by rw [List.mem_singleton.1 hz];exact h
theorem Byt.nil:Byt []:=fun z hz=>by cases hz
theorem tx_byt (s:ByteArray):Byt (tx s):=Byt.app (fun z hz=>by
 rcases List.mem_cons.1 hz with rfl|hz
 ·exact u8wrap_b _
 ·rw [List.mem_singleton.1 hz];exact u8wrap_b _) (fun x hx=>by
 obtain⟨b,-,rfl⟩:=List.mem_map.1 hx
 have:=b.toNat_lt
 omega)
theorem rqB_byt {r:TRq}(h:RqOK r):Byt (rqB r):=by
 have:=h.kd
 refine Byt.app (fun z hz=>?_) (Byt.app (wd_byt _) (Byt.app (wd_byt _) (Byt.app (tx_byt _) (Byt.app (tx_byt _) (Byt.app (tx_byt _) (tx_byt _))))))
 rcases List.mem_cons.1 hz with rfl|hz
 ·exact u8wrap_b _
 ·rw [List.mem_singleton.1 hz];omega
theorem bdB_byt {x:TBd}(h:BdOK x):Byt (bdB x):=by
 unfold bdB
 split
 ·exact Byt.app (wd_byt _) (Byt.app (rqB_byt h.rq) h.rq.tg)
 ·split
  ·exact Byt.app (wd_byt _) (wd_byt _)
  ·split
   ·refine Byt.app (wd_byt _) (Byt.app (Byt.one (u8wrap_b _)) fun z hz=>?_)
    obtain⟨p,-,hp⟩:=List.mem_flatMap.1 hz
    exact Byt.app (Byt.one (u8wrap_b _)) (wd_byt _) z hp
   ·split
    ·exact Byt.app (wd_byt _) h.dg
    ·exact wd_byt _
theorem bdB_len {x:TBd}(hm:mayB x=true) (hq:x.ql.length≤11):8≤(bdB x).length∧(bdB x).length≤600:=by
 unfold bdB
 split
 ·rename_i a
  have hz:=rqB_length (askedB_sz (by rw [show mayB x=askedB x.rq from if_pos a] at hm;exact hm))
  simp only [bd1,lA,wd_length,D32.len]
  omega
 ·repeat' split
  all_goals simp only [bd2,bd4,bd6,lA,lC,lN,wd_length,D32.len,prsB_length]
  all_goals omega
def bodyB (x:TBd):Bool:=if 1≤x.kd∧x.kd≤6 then (if x.vw ≥ 1073741824 then false else if mayB x=false then false else if x.ql.length>11 then false else sameB x (getB x.kd (bdB x,false)).1) else false
theorem kd_in {kd:Int}{v:CoV}(h:aget cdL kd=some v):1≤kd∧kd≤6:=by
 have a:=aget_isSome kd
 rw [h] at a
 exact of_decide_eq_true a.symm
theorem kd_no {kd:Int}(h:aget cdL kd=none):¬ (1≤kd∧kd≤6):=by
 have a:=aget_isSome kd
 rw [h] at a
 exact of_decide_eq_false a.symm
theorem body_in (x) (fp) (fg) (fm) (hc:aget cdL x.kd=some (cvF fp fg fm)) (C:Codec x.kd fp fg fm) (hx:BdOK x) (hr:Rw w0 L TPr.cells 2 dPr x.qa x.ql) (hs:St w0 (L) w):Cs Tryz.prog 91 #[.agg (TBd.cells x)] w fun rv w'=>rv=.bool (bodyB x)∧St w0 (L) w':=by
 refine Zen Tryz.func91 Tryz.ntmps91 (En (Ls (Lg [0] (Dz (Zbg (TBd.cells x) hs fun a w2 b3=>Lz (Ls (Dz (GoC.join (T:=Nat×Nat) (E:=fun jx=>[(1,zP a 0),(2,.bool false),(3,zP jx.1 0),(4,.bool true)]) (F:=fun jx w=>St w0 ((Cel jx.1 (CoV.cells (⟨(.func (.func fp) #[] #[]),(.func (.func fg) #[] #[]),(.func (.func fm) #[] #[])⟩:CoV)) 238)::(MapA ekU evC jx.2 cdL)::(Cel a (TBd.cells x) 37)::L) w) ?_ ?_))))))))
 ·refine GoC.regD [0,0,2,7,15,31,31,0,191,511] (.rd 1 (.rd 2 (.alt (.ef 0 (.rd 3 (.rd 4 (.rd 5 (.rd 6 (.ef 7 (.ef 8 (.rd 9 .done)))))))) (.ef 7 (.ef 0 (.rd 3 (.rd 4 (.rd 5 (.rd 6 (.ef 8 (.rd 9 .done))))))))))) (by kernel_rfl) (by kernel_rfl) noPan_body (by kernel_rfl) b3 fun w4 u d6=>Zpj 1 2 (Hl 2 0 0 u Hz) (GoR.alt ?_ ?_)
  ·refine Zc (codecs_spec u) ?_
   rintro v9 d7 ⟨r7,rfl,a0⟩
   exact⟨(opl (n:=[.cell ⟨a,0,none⟩ (.int .u8 x.kd)]) (by kernel_rfl) (okc (a0.cell 1 rfl (by kernel_rfl)) ok0)),(GoR.lookup rfl (by kernel_rfl) cdLaw (r:=r7) (k:=x.kd) (ok:=true) (by kernel_rfl) a0 0 rfl (z:=evC cvZ) (by kernel_rfl) (v:=.tuple #[.agg #[.func (.func fp) #[] #[],.func (.func fg) #[] #[],.func (.func fm) #[] #[]],.bool true]) (by rw [hc];rfl) (Zr 4 3 [] (Zag (CoV.cells cvZ) a0 fun b4 d8 a1=>⟨(opl (n:=[.holds (MapA ekU evC r7 cdL).holds,.cell ⟨a,0,none⟩ (.int .u8 x.kd)]) (by kernel_rfl) (okh (a1.at_ 1 rfl) (okc (a1.cell 2 rfl (by kernel_rfl)) ok0))),(Zu 0 0 (CoV.cells (⟨(.func (.func fp) #[] #[]),(.func (.func fg) #[] #[]),(.func (.func fm) #[] #[])⟩:CoV)) a1 fun d9 b5=>Lo (Dz (Zr 9 1 [] (Zd (Zme [1,2,3,4] (b4,r7) b5)))))⟩)))⟩
  refine Zag (CoV.cells cvZ) u fun b6 e0 a9=>⟨(opl (n:=[.cell ⟨a,0,none⟩ (.int .u8 x.kd)]) (by kernel_rfl) (okc (a9.cell 1 rfl (by kernel_rfl)) ok0)),(Zc (codecs_spec a9) ?_)⟩
  rintro e1 e2 ⟨b0,rfl,a2⟩
  exact⟨(opl (n:=[.cell ⟨a,0,none⟩ (.int .u8 x.kd)]) (by kernel_rfl) (okc (a2.cell 2 rfl (by kernel_rfl)) ok0)),(GoR.lookup rfl (by kernel_rfl) cdLaw (r:=b0) (k:=x.kd) (ok:=true) (by kernel_rfl) a2 0 rfl (z:=evC cvZ) (by kernel_rfl) (v:=.tuple #[.agg #[.func (.func fp) #[] #[],.func (.func fg) #[] #[],.func (.func fm) #[] #[]],.bool true]) (by rw [hc];rfl) (Zr 4 3 [] (Zu 1 0 (CoV.cells (⟨(.func (.func fp) #[] #[]),(.func (.func fg) #[] #[]),(.func (.func fm) #[] #[])⟩:CoV)) a2 fun e3 b7=>Lo (Dz (Zr 9 1 [] (Zd (Zme [1,2,3,4] (b6,b0) (((b7.pl 2).pl 1).pl 2))))))))⟩
 rintro⟨i,b9⟩ c0 c1
 have b:St w0 ((Cel i (CoV.cells (⟨(.func (.func fp) #[] #[]),(.func (.func fg) #[] #[]),(.func (.func fm) #[] #[])⟩:CoV)) 238)::(MapA ekU evC b9 cdL)::(Cel a (TBd.cells x) 37)::L) c0:=c1
 refine GoQ.slots (S':=[(1,zP a 0),(2,.bool false),(3,zP i 0),(4,.bool true)]) rfl (En (Lt (Ls (Ls (Lg [11] (Dz (Zpj 0 8 (Hl 4 2 1 b Hz) (Zsd 20 ((x.vw:Int) ≥ 1073741824) (fun d=>?_) (fun d=>?_)))))))))
 ·exact En (Lw (Zsk (En (Lud (Lt (LT (Lq (Le (Ly (Dz (Zq1 (v:=.bool false) ⟨(by unfold bodyB;rw [if_pos (kd_in hc),if_pos d]),(b.dr 3)⟩)))))))))))
 ·refine Zj (Hl 9 0 2 b (Hla 10 2 0 76 (TBd.cells x) b Hz)) (Zqa (f:=fm) (args:=#[.agg (TBd.cells x)]) C.cm (C.may x rfl hx.qn (fun w h=>hr _ (h.drop 3)) b) ?_)
  rintro e4 e5 ⟨rfl,e⟩
  refine Lo (Dz (Zr 12 3 [] (Zsq 27 (!(mayB x)) (fun o=>?_) (fun o=>?_))))
  ·exact En (Lud (Lt (LT (Lq (Le (Ly (Dz (Zq1 (v:=.bool false) ⟨(by unfold bodyB;rw [if_pos (kd_in hc),if_neg d,if_pos (by simpa using o)]),(e.dr 3)⟩))))))))
  ·have b2:=notF o
   have hm:mayB x=true:=b2
   refine Zjd (Hl 16 2 43 e Hz) (Zt (Zi ((x.ql.length:Int)>11) (fun c4=>?_) (fun c4=>?_)))
   ·exact En (Lq (Le (Ly (Dz (Zq1 (v:=.bool false) ⟨(by unfold bodyB;rw [if_pos (kd_in hc),if_neg d,if_neg (by rw [hm];decide),if_pos (by omega)]),(e.dr 3)⟩)))))
   ·refine Zk (Zt (Zs (Zgj [3,4] (Hl 1 2 0 e Hz) (Zag (TBd.cells dBd) e fun c6 e6 c7=>Lo (Dz (Zu 0 0 (TBd.cells (⟨x.kd,0,0,dRq,none,0,[],dD32⟩:TBd)) c7 fun e7 c8=>Lo (Ld (Lt (Ls (Dz (ZD (rds [0,1,2,3,4] (.ef 5 (.ef 6 (.ef 7 .done)))) c8 fun e8 q e9=>Zj (Hl 1 1 1 q (Hl 3 1 0 q (Hla 4 3 0 76 (TBd.cells x) q Hz))) (Zqa (f:=fp) (args:=#[.slice none (([]:List Int).length) 0,.agg (TBd.cells x)]) C.cp (C.put ([]:List Int) x rfl (by first|omega|(exact Nat.zero_le _)) hx hm (by first|omega|(exact Nat.zero_le _)) (fun w h=>hr _ (h.drop 4)) (St.slNil q 5 1 byteC)) ?_))))))))))))
    rintro f0 f1 ⟨f2,f3,rfl,a3⟩
    refine⟨(opl (n:=[.cell ⟨i,1,none⟩ (.func (.func fg) #[] #[])]) (by kernel_rfl) (okc (a3.cell 2 rfl (by kernel_rfl)) ok0)),(Zc (cutNew_spec (([]:List Int)++bdB x) (by have:=bdB_len hm (by omega);rw [List.nil_append];omega) (own_som a3 0 rfl) (fun w h=>h.rows 0 rfl (byteF).size _) a3) ?_)⟩
    rintro f4 f5 ⟨d0,a4,a5,rfl,a6⟩
    have d1:CutOK (Sl a4 a5 5 1 byteC (([]:List Int)++bdB x)) a4 (([]:List Int)++bdB x) a5:=CutOK.new a6 (j:=1) rfl (Byt.app Byt.nil (bdB_byt hx)) (by have:=bdB_len hm (by omega);rw [List.nil_append];omega)
    refine⟨(opl (n:=[.cell ⟨i,1,none⟩ (.func (.func fg) #[] #[])]) (by kernel_rfl) (okc (a6.cell 4 rfl (by kernel_rfl)) ok0)),(Zqa (f:=fg) (args:=#[zP d0 0,zP c6 0]) C.cg (C.getY (Sl a4 a5 5 1 byteC (([]:List Int)++bdB x)) (([]:List Int)++bdB x) false (fun w h=>h.at_ 0 rfl) d1 hx.kd ((a6.pl 3).pl 1)) ?_)⟩
    rintro f6 f7 ⟨a7,f8,f9,g0,g5,rfl,d3,g7,g8,a8⟩
    exact Lo (Ld (Lt (Ls (Dz (Zgj [2] (Hla 0 7 0 76 (TBd.cells x) a8 (Hla 1 0 0 76 (TBd.cells a7) a8 Hz)) (Zc1 (same_spec x a7 hx.qn (fun w h=>hr _ (h.drop 8)) (fun w h=>h.rows 1 rfl (dPrF).size _) a8) fun h0 d4=>Lz (Le (Dz (Zq1 (v:=.bool (sameB x a7)) ⟨(by unfold bodyB;rw [if_pos (kd_in hc),if_neg d,if_neg (by rw [hm];decide),if_neg (by omega),show getB x.kd (bdB x,false)=_ from d3];rfl),(d4.dr 8)⟩)))))))))
theorem body_no (x) (hc:aget cdL x.kd=none) (hx:BdOK x) (hr:Rw w0 L TPr.cells 2 dPr x.qa x.ql) (hs:St w0 (L) w):Cs Tryz.prog 91 #[.agg (TBd.cells x)] w fun rv w'=>rv=.bool (bodyB x)∧St w0 (L) w':=by
 refine Zen Tryz.func91 Tryz.ntmps91 (En (Ls (Lg [0] (Dz (Zbg (TBd.cells x) hs fun a w2 a0=>Lz (Ls (Dz (GoC.join (T:=Nat×Nat) (E:=fun jx=>[(1,zP a 0),(2,.bool false),(3,zP jx.1 0),(4,.bool false)]) (F:=fun jx w=>St w0 ((Cel jx.1 (CoV.cells cvZ) 238)::(MapA ekU evC jx.2 cdL)::(Cel a (TBd.cells x) 37)::L) w) ?_ ?_))))))))
 ·refine GoC.regD [0,0,2,7,15,31,31,0,191,511] (.rd 1 (.rd 2 (.alt (.ef 0 (.rd 3 (.rd 4 (.rd 5 (.rd 6 (.ef 7 (.ef 8 (.rd 9 .done)))))))) (.ef 7 (.ef 0 (.rd 3 (.rd 4 (.rd 5 (.rd 6 (.ef 8 (.rd 9 .done))))))))))) (by kernel_rfl) (by kernel_rfl) noPan_body (by kernel_rfl) a0 fun w4 b b2=>Zpj 1 2 (Hl 2 0 0 b Hz) (GoR.alt ?_ ?_)
  ·refine Zc (codecs_spec b) ?_
   rintro v9 b3 ⟨d,rfl,e⟩
   exact⟨(opl (n:=[.cell ⟨a,0,none⟩ (.int .u8 x.kd)]) (by kernel_rfl) (okc (e.cell 1 rfl (by kernel_rfl)) ok0)),(GoR.lookup rfl (by kernel_rfl) cdLaw (r:=d) (k:=x.kd) (ok:=true) (by kernel_rfl) e 0 rfl (z:=evC cvZ) (by kernel_rfl) (v:=.tuple #[.agg (CoV.cells cvZ),.bool false]) (by rw [hc];rfl) (Zr 4 3 [] (Zag (CoV.cells cvZ) e fun a1 b4 f=>⟨(opl (n:=[.holds (MapA ekU evC d cdL).holds,.cell ⟨a,0,none⟩ (.int .u8 x.kd)]) (by kernel_rfl) (okh (f.at_ 1 rfl) (okc (f.cell 2 rfl (by kernel_rfl)) ok0))),(Zu 0 0 (CoV.cells cvZ) f fun b5 a2=>Lo (Dz (Zr 9 1 [] (Zd (Zme [1,2,3,4] (a1,d) a2)))))⟩)))⟩
  refine Zag (CoV.cells cvZ) b fun a3 b6 o=>⟨(opl (n:=[.cell ⟨a,0,none⟩ (.int .u8 x.kd)]) (by kernel_rfl) (okc (o.cell 1 rfl (by kernel_rfl)) ok0)),(Zc (codecs_spec o) ?_)⟩
  rintro b7 b8 ⟨q,rfl,i⟩
  exact⟨(opl (n:=[.cell ⟨a,0,none⟩ (.int .u8 x.kd)]) (by kernel_rfl) (okc (i.cell 2 rfl (by kernel_rfl)) ok0)),(GoR.lookup rfl (by kernel_rfl) cdLaw (r:=q) (k:=x.kd) (ok:=true) (by kernel_rfl) i 0 rfl (z:=evC cvZ) (by kernel_rfl) (v:=.tuple #[.agg (CoV.cells cvZ),.bool false]) (by rw [hc];rfl) (Zr 4 3 [] (Zu 1 0 (CoV.cells cvZ) i fun b9 a4=>Lo (Dz (Zr 9 1 [] (Zd (Zme [1,2,3,4] (a3,q) (((a4.pl 2).pl 1).pl 2))))))))⟩
 rintro⟨u,a6⟩ a7 a8
 have a9:St w0 ((Cel u (CoV.cells cvZ) 238)::(MapA ekU evC a6 cdL)::(Cel a (TBd.cells x) 37)::L) a7:=a8
 exact GoQ.slots (S':=[(1,zP a 0),(2,.bool false),(3,zP u 0),(4,.bool false)]) rfl (En (Lt (Ls (Ls (Lg [11] (Lw (Zsk (En (Lud (Lt (LT (Lq (Le (Ly (Dz (Zq1 (v:=.bool false) ⟨(by unfold bodyB;rw [if_neg (kd_no hc)]),(a9.dr 3)⟩))))))))))))))))
theorem body_spec (x) (hx:BdOK x) (hr:Rw w0 L TPr.cells 2 dPr x.qa x.ql) (hs:St w0 (L) w):Cs Tryz.prog 91 #[.agg (TBd.cells x)] w fun rv w'=>rv=.bool (bodyB x)∧St w0 (L) w':=by
 by_cases h:1≤x.kd∧x.kd≤6
 ·obtain⟨fp,fg,fm,hc,C⟩:=codec_of h
  exact body_in x fp fg fm hc C hx hr hs
 ·exact body_no x (codec_no h) hx hr hs
end
section
variable {w0 w : World} {L : List Asn} {ad : Option Addr} {c : Nat}
theorem max_one {l:List Int}(h:0<l.length):l.getD 0 (0:Int)≤65536↔∀ x∈l.take 1,x≤65536:=by
 cases l with
 | nil=>cases h
 | cons a l=>simp
theorem max_step {l:List Int}{k:Nat}{v:Int}(hk:k<l.length) (h:v≤65536↔∀ x∈l.take k,x≤65536):max v (l.getD k (0:Int))≤65536↔∀ x∈l.take (k+1),x≤65536:=by
 rw [take_succ_getD (d:=(0:Int)) hk]
 simp only [List.mem_append,List.mem_singleton]
 constructor
 ·intro a z hz
  rcases hz with hz|rfl
  ·exact h.1 (by omega) z hz
  ·omega
 ·intro a
  have b:=h.2 fun z hz=>a z (.inl hz)
  have e:=a _ (.inr rfl)
  omega
theorem max_spec (l) (hl:0<l.length) (hll:l.length≤1000) (hr:Rw w0 L wordC 1 0 ad l) (hs:St w0 (L) w):Cs Tryz.prog 90 #[.slice ad l.length c] w fun rv w'=>∃ v,rv=.int .u64 v∧(v≤65536↔∀ x∈l,x≤65536)∧St w0 (L) w':=by
 refine Zen Tryz.func90 Tryz.ntmps90 (En (Lq (Ls (Lq (Dz (Zi ((l.length:Int)<1) (fun e=>?_) (fun e=>?_)))))))
 ·exfalso;omega
 ·obtain⟨a,b,rfl⟩:=RowsAt.isSome (hr _ (hs.drop 0)) (by omega)
  refine Zk (Zt (Zs (Zaj (Hx 1 (0:Int) (l.length:Int) a b 1 (Hg 2 (.gen [.int .u64 (l.getD 0 (0:Int))]) [.cell ⟨a,b+(0*1),none⟩ (.int .u64 (l.getD 0 (0:Int)))] (okc (RowsAt.at0 (hr _ (hs.drop 0)) (k:=0) (by first|omega|(simp only [List.length_set];omega)|(simp only [List.length_set,lA,lC,lN];omega)) (j:=0) (by decide) (by kernel_rfl)) ok0) Hz)) (En (Lt (Ls (Lq (Lb (Dz (GoC.loop (T:=Nat×Int) (fun gg=>[(0,zL a b l.length c),(2,.int .u64 0),(3,.int .u64 gg.2),(4,.int .i64 (gg.1:Nat))]) (fun gg w=>(1≤gg.1∧gg.1≤l.length∧(gg.2≤65536↔∀ x∈l.take gg.1,x≤65536))∧St w0 (L) w) (fun gg=>l.length-gg.1) (1,(l.getD 0 (0:Int))) [0,2,3,4] (by kernel_rfl) ⟨⟨Nat.le_refl _,hl,max_one hl⟩,hs⟩ ?_))))))))))
  rintro⟨k,v⟩ i ⟨hp,d⟩
  dsimp only at hp d
  refine En (Ls (Lq (Dz (Zi ((k:Int)<(l.length:Nat)) (fun f=>?_) (fun f=>?_)))))
  ·have hk:k<l.length:=by omega
   exact Zk (Zt (Zs (Zb (Zaj (Hx 3 (k:Int) (l.length:Int) a b 1 (Hg 4 (.gen [.int .u64 (l.getD k (0:Int))]) [.cell ⟨a,b+(k*1),none⟩ (.int .u64 (l.getD k (0:Int)))] (okc (RowsAt.at0 (hr _ (d.drop 0)) (k:=k) (by first|omega|(simp only [List.length_set];omega)|(simp only [List.length_set,lA,lC,lN];omega)) (j:=0) (by decide) (by kernel_rfl)) ok0) (Hg 5 (.as_ (.int .u64 (max v (l.getD k (0:Int)))) (.gen [])) [.prop (Value.int .u64 (if (l.getD k (0:Int))>v then (l.getD k (0:Int)) else v)=Value.int .u64 (max v (l.getD k (0:Int))))] (okp maxok ok0) Hz))) (Zm (Zt (Zaj (Hwi 1 ((k:Nat)+1) Hz) (GoQ.back (k+1,max v (l.getD k (0:Int))) [0,2,3,4] (by kernel_rfl) (by show l.length-(k+1)<l.length-k;omega) ⟨⟨by omega,by omega,max_step hk hp.2.2⟩,d⟩))))))))
  ·have hke:l.take k=l:=List.take_of_length_le (by omega)
   exact En (Lx (LsC (LsL (Lh (Lt (Lq (Le (Dz (Zq1 (v:=.int .u64 v) ⟨v,rfl,(hke▸hp.2.2),d⟩)))))))))
structure MsOK (m:TMs):Prop where
 og:-9223372036854775808≤m.og∧m.og≤9223372036854775807
 nr:0≤m.nr∧m.nr≤18446744073709551615
 dp:∀ x∈m.dp.toList,0≤x∧x≤18446744073709551615
 bd:BdOK m.bd
 tg:∀ z∈m.tg.toList,0≤z∧z<256
instance:DecidablePred fun d:VecD=>∀ x∈d.toList,x≤65536:=fun d=>inferInstance
def mayT (m:TMs):Bool:=((((decide ((m.og:Int)<1)) || (decide ((m.og:Int)>11))) || (decide ((m.nr:Int)<1))) || (decide ((m.nr:Int)>65536))) || (((m.dp.toList.getD (Int.toNat (m.og-1)) 0):Int) != (m.nr-1))
def mayM (m:TMs):Bool:=if mayT m=true then false else if ∀ x∈m.dp.toList,x≤65536 then bodyB m.bd else false
theorem may_spec (m) (hm:MsOK m) (hr:Rw w0 L TPr.cells 2 dPr m.bd.qa m.bd.ql) (hs:St w0 (L) w):Cs Tryz.prog 54 #[.agg (TMs.cells m)] w fun rv w'=>rv=.bool (mayM m)∧St w0 (L) w':=by
 refine Zen Tryz.func54 Tryz.ntmps54 (Zs ?_)
 have g1:=hm.og
 have g2:=hm.nr
 refine Zg [0] (Zbg (TMs.cells m) hs fun b w2 a3=>Lz (Ls (Ls (Dz (GoC.join (T:=Unit) (E:=fun _=>[(32,.bool (((((decide ((m.og:Int)<1)) || (decide ((m.og:Int)>11))) || (decide ((m.nr:Int)<1))) || (decide ((m.nr:Int)>65536))) || (((m.dp.toList.getD (Int.toNat (m.og-1)) 0):Int) != (m.nr-1)))),(2,.bool false),(1,zP b 0)]) (F:=fun _ w=>St w0 ((Cel b (TMs.cells m) 63)::L) w) ?_ ?_)))))
 ·refine ZD (rds [0,1,2,3,4,5,6,7,8,9,10,11,12,13,14,15,16,17,18,19,20,21,22,23,24,25,26,27,28,29] .done) a3 fun w4 a b5=>Zpj 0 4 (Hl 1 0 0 a Hz) (Zsq 6 (decide ((m.og:Int)<1)) (fun e=>?_) (fun e=>?_))
  ·have a4:=of_decide_eq_true e
   exact En (Lud (Dz (Zmb [32,2,1] () true (by first|rfl|simp [Hb,e]) a)))
  ·have a4:=of_decide_eq_false e
   refine Zpj 4 5 (Hl 5 0 0 a Hz) (Zsq 11 (decide ((m.og:Int)>11)) (fun o=>?_) (fun o=>?_))
   ·have a5:=of_decide_eq_true o
    exact En (Lud (Dz (Zmb [32,2,1] () true (by first|rfl|simp [Hb,e,o]) a)))
   ·have a5:=of_decide_eq_false o
    refine Zpj 9 5 (Hl 10 0 1 a Hz) (Zsq 16 (decide ((m.nr:Int)<1)) (fun i=>?_) (fun i=>?_))
    ·have a6:=of_decide_eq_true i
     exact En (Lud (Dz (Zmb [32,2,1] () true (by first|rfl|simp [Hb,e,o,i]) a)))
    ·have a6:=of_decide_eq_false i
     refine Zpj 14 5 (Hl 15 0 1 a Hz) (Zsq 21 (decide ((m.nr:Int)>65536)) (fun u=>?_) (fun u=>?_))
     ·have a7:=of_decide_eq_true u
      exact En (Lud (Dz (Zmb [32,2,1] () true (by first|rfl|simp [Hb,e,o,i,u]) a)))
     ·have a7:=of_decide_eq_false u
      exact Zjd (Hl 20 0 0 a (Hwi 21 (m.og-1) (Hx 23 ((m.og-1):Int) (11:Int) b 2 1 (Hg 24 (.gen [.int .u64 (m.dp.toList.getD (Int.toNat (m.og-1)) 0)]) [.cell ⟨b,2+((Int.toNat (m.og-1))*1),none⟩ (.int .u64 (m.dp.toList.getD (Int.toNat (m.og-1)) 0))] (okc (a.cell 0 rfl (VecD.midc (off:=2) (d:=m.dp) (by kernel_rfl) (by omega))) ok0) (Hl 26 0 1 a (Hwu 27 (m.nr-1) Hz)))))) (Zmb [32,2,1] () (((m.dp.toList.getD (Int.toNat (m.og-1)) 0):Int) != (m.nr-1)) (by first|rfl|simp [Hb,e,o,i,u]) a)
 intro _ b6 a0
 refine Zt (Zqc (t:=((((decide ((m.og:Int)<1)) || (decide ((m.og:Int)>11))) || (decide ((m.nr:Int)<1))) || (decide ((m.nr:Int)>65536))) || (((m.dp.toList.getD (Int.toNat (m.og-1)) 0):Int) != (m.nr-1))) (fun q=>?_) (fun q=>?_))
 ·exact En (Lq (Le (Ly (Dz (Zq1 (v:=.bool false) ⟨(by unfold mayM;rw [if_pos (show mayT m=true from q)]),(a0.dr 1)⟩)))))
 ·have a1:=(Bool.or_eq_false_iff.1 q).1
  have h13aa:=(Bool.or_eq_false_iff.1 a1).1
  have h13aaa:=(Bool.or_eq_false_iff.1 h13aa).1
  have h13aaaa:=(Bool.or_eq_false_iff.1 h13aaa).1
  have h13aaab:(decide ((m.og:Int)>11))=false:=(Bool.or_eq_false_iff.1 h13aaa).2
  have h13aab:(decide ((m.nr:Int)<1))=false:=(Bool.or_eq_false_iff.1 h13aa).2
  have h13ab:(decide ((m.nr:Int)>65536))=false:=(Bool.or_eq_false_iff.1 a1).2
  have a9:(((m.dp.toList.getD (Int.toNat (m.og-1)) 0):Int) != (m.nr-1))=false:=(Bool.or_eq_false_iff.1 q).2
  refine Zk (Zt (Zs (Zgj [2,7] (Hg 1 (.as_ (zL b 2 ((m.dp.toList).length) 11) (.sub 0 11)) [.prop ((((none:Option Operand))=none→(0:Nat)=0)∧(((none:Option Operand))=none→(11:Nat)=11)∧(0:Nat)≤11∧(11:Nat)≤11),.prop (Value.slice (some (if 11=0 then Addr.mk b 2 none else (Addr.mk b 2 none).add (0*1))) (11-0) (11-0)=Value.slice (some ⟨b,2,none⟩) ((m.dp.toList).length) 11)] (okp ⟨(by first|(intro _;rfl)|(intro hc;cases hc)),(by first|(intro _;rfl)|(intro hc;cases hc)),(by omega),(by omega)⟩ (okp (by rw [VecD.len];exact subArr0 _ _ _ _ _ (by decide)) ok0)) Hz) (Zqa (f:=90) (args:=#[zL b 2 m.dp.toList.length 11]) Tryz.call90 (max_spec m.dp.toList (by rw [VecD.len];decide) (by rw [VecD.len];decide) (fun w h=>VecD.mid h 0 2 m.dp rfl (by kernel_rfl)) a0) ?_))))
  rintro b8 b9 ⟨b0,rfl,a2,x⟩
  refine Lo (Dz (Zr 3 2 [] (Zsd 37 ((b0:Int)≤65536) (fun z=>?_) (fun z=>?_))))
  ·exact Zj (Hla 6 0 13 76 (TBd.cells m.bd) x Hz) (Zc1 (body_spec m.bd hm.bd (fun w h=>hr _ (h.drop 1)) x) fun c1 b2=>Lz (Le (Dz (Zq1 (v:=.bool (bodyB m.bd)) ⟨(by unfold mayM;rw [if_neg (nF (show mayT m=false from q)),if_pos (a2.1 z)]),(b2.dr 1)⟩))))
  ·exact En (Lw (Zsk (En (Lud (Lt (Le (Dz (Zq1 (v:=.bool false) ⟨(by unfold mayM;rw [if_neg (nF (show mayT m=false from q)),if_neg (fun i=>z (a2.2 i))]),(x.dr 1)⟩))))))))
end
section
variable {w0 w : World} {L : List Asn}
def dpI (m:TMs) (k:Nat):List Int:=[IntKind.u8.wrap m.og]++(m.dp.toList.take k).flatMap wd
theorem dpI_succ (m:TMs){k:Nat}(hk:k<11):dpI m (k+1)=dpI m k++wd (m.dp.toList.getD k 0):=by
 rw [dpI,dpI,take_succ_getD (d:=(0:Int)) (by rw [VecD.len];exact hk),List.flatMap_append,List.append_assoc]
 simp
theorem dpI_length (m:TMs):∀ k,k≤11→(dpI m k).length=1+8*k
 | 0,_=>rfl
 | k+1,h=>by rw [dpI_succ m (by omega),lA,wd_length,dpI_length m k (by omega)];omega
def tgB (m:TMs):List Int:=(dpI m 11++[m.bd.kd])++bdB m.bd
def byB (m:TMs):List Int:=if mayM m=true then tgB m else []
def putM (m:TMs):List Int:=if mayM m=true then ((([]:List Int)++wd m.nr)++tgB m)++m.tg.toList else []
theorem mayM_body {m:TMs}(h:mayM m=true):bodyB m.bd=true:=by
 unfold mayM at h
 split at h
 ·cases h
 ·split at h
  ·exact h
  ·cases h
theorem bodyB_in {x:TBd}(h:bodyB x=true):(1≤x.kd∧x.kd≤6)∧mayB x=true∧x.ql.length≤11:=by
 unfold bodyB at h
 split at h
 ·rename_i a
  split at h
  ·cases h
  ·split at h
   ·cases h
   ·rename_i b
    split at h
    ·cases h
    ·exact⟨a,by simpa using b,by omega⟩
 ·cases h
theorem tgB_length {m:TMs}(h:mayM m=true):98≤(tgB m).length∧(tgB m).length≤700:=by
 obtain⟨d,a,b⟩:=bodyB_in (mayM_body h)
 have:=bdB_len a b
 rw [tgB,lA,lA,dpI_length m _ (Nat.le_refl _),lC,lN]
 omega
theorem tgB_byt {m:TMs}(hm:MsOK m):Byt (tgB m):=by
 have:=hm.bd.kd
 refine Byt.app (Byt.app (Byt.app (Byt.one (u8wrap_b _)) fun z hz=>?_) (Byt.one (by omega))) (bdB_byt hm.bd)
 obtain⟨y,-,hy⟩:=List.mem_flatMap.1 hz
 exact wd_byt _ z hy
theorem byB_byt {m:TMs}(hm:MsOK m):Byt (byB m):=by
 unfold byB
 split
 ·exact tgB_byt hm
 ·exact Byt.nil
theorem tagged_spec (m) (hm:MsOK m) (hb:mayM m=true) (hr:Rw w0 L TPr.cells 2 dPr m.bd.qa m.bd.ql) (hs:St w0 (L) w):Cs Tryz.prog 96 #[.agg (TMs.cells m)] w fun rv w'=>∃ ao co,rv=.slice ao ((tgB m).length) co∧St w0 ((Sl ao co 5 1 byteC (tgB m))::L) w':=by
 refine Zen Tryz.func96 Tryz.ntmps96 (Zs ?_)
 have hin:=bodyB_in (mayM_body hb)
 obtain⟨fp,fg,fm,hc,C⟩:=codec_of hin.1
 refine Zg [0] (Zbg (TMs.cells m) hs fun a w2 a7=>Lz (Ls (Dz (Zgj [3] (Hl 1 0 0 a7 Hz) (Zll bytesOK byteF [(IntKind.u8.wrap m.og:Int)] a7 fun b4 w5 a8=>Lz (Ls (Ls (Dz (Zaj (Hla 1 1 2 11 (VecD.cells m.dp) a8 Hz) (Zt (Zb ?_)))))))))))
 have b2:St w0 ((Sl (some ⟨b4,0,none⟩) 1 5 1 byteC (dpI m 0))::(Cel a (TMs.cells m) 63)::L) w5:=a8
 refine GoC.loop (T:=Nat×(Option Addr)×Nat) (fun gg=>[(1,zP a 0),(2,.slice none 0 0),(3,.slice gg.2.1 ((dpI m gg.1).length) gg.2.2),(11,.agg (VecD.cells m.dp)),(12,.int .i64 (gg.1:Nat))]) (fun gg w=>(gg.1≤11)∧St w0 ((Sl gg.2.1 gg.2.2 5 1 byteC (dpI m gg.1))::(Cel a (TMs.cells m) 63)::L) w) (fun gg=>11-gg.1) (0,(some ⟨b4,0,none⟩),1) [1,2,3,11,12] (by kernel_rfl) ⟨Nat.zero_le _,b2⟩ ?_
 rintro⟨k,ad,c⟩ d8 ⟨hp,a4⟩
 dsimp only at hp a4
 refine En (Lq (Ls (Dz (Zi ((k:Int)<11) (fun b3=>?_) (fun b3=>?_)))))
 ·have hk:k<11:=by omega
  have hkl:=dpI_length m k (by omega)
  have hdk:=hm.dp (m.dp.toList.getD k 0) (getD_mem (d:=(0:Int)) (by rw [VecD.len];exact hk))
  refine Zk (Zt (Zs (Zb (Zs (Zaj (Hg 0 (.elem (.int .u64 (m.dp.toList.getD k 0))) [.prop (0≤(k:Int)∧(k:Int)<(11:Int)),.prop ((VecD.cells m.dp)[Int.toNat ((k:Nat))*1]?=some (.int .u64 (m.dp.toList.getD k 0)))] (okp (by omega) (okp (by rw [Nat.mul_one];exact VecD.at_ _ k (by omega)) ok0)) Hz) (En (Lt (Lg [2] (Lw (Zc (word_spec (dpI m k) (m.dp.toList.getD k 0) (by first|omega|(simp only [lA,lC,lN,wd_length] at *;omega)) (by omega) a4) ?_))))))))))
  rintro d9 b5 ⟨o,q,rfl,b6⟩
  refine Lo (Lud (Lm (Lt (Dz (Zaj (Hwi 0 ((k:Nat)+1) Hz) ?_)))))
  have b7:St w0 ((Sl o q 5 1 byteC (dpI m (k+1)))::(Cel a (TMs.cells m) 63)::L) b5:=(by rw [dpI_succ m hk];exact b6)
  exact GoQ.pick [12,3,1,2,11] (S':=[(12,.int .i64 ((k:Nat)+1)),(3,.slice o ((dpI m k++wd (m.dp.toList.getD k 0)).length) q),(1,zP a 0),(2,.slice none 0 0),(11,.agg (VecD.cells m.dp))]) (by kernel_rfl) (GoQ.slots (S':=[(12,.int .i64 ((k:Nat)+1)),(3,.slice o ((dpI m (k+1)).length) q),(1,zP a 0),(2,.slice none 0 0),(11,.agg (VecD.cells m.dp))]) (by rw [dpI_succ m hk]) (GoQ.back (k+1,o,q) [1,2,3,11,12] (by kernel_rfl) (by show 11-(k+1)<11-k;omega) ⟨(by omega),b7⟩))
 ·have hke:k=11:=by omega
  subst hke
  have hkl:=dpI_length m 11 (by omega)
  refine Zx (GoQ.skipC (GoQ.skipL (GoQ.hit (Zt (Zs (GoC.join (T:=Option Addr×Nat×Nat×Nat) (E:=fun jx=>[(2,.slice jx.1 ((((dpI m 11)++([(m.bd.kd:Int)]))++bdB m.bd).length) jx.2.1)]) (F:=fun jx w=>St w0 ((Sl jx.1 jx.2.1 5 1 byteC (((dpI m 11)++([(m.bd.kd:Int)]))++bdB m.bd))::(Sl (some ⟨jx.2.2.1,0,none⟩) 1 5 1 byteC ([(m.bd.kd:Int)]))::(MapA ekU evC jx.2.2.2 cdL)::(Cel a (TMs.cells m) 63)::L) w) ?_ ?_))))))
  ·refine GoC.regD [0,0,2,6,15,31,0,0,128,384,896,1985,0,4096,16383,32767] (.rd 1 (.rd 2 (.rd 3 (.rd 6 (.rd 7 (.rd 8 (.rd 9 (.rd 12 (.rd 13 (.alt (.ef 0 (.rd 4 (.rd 5 (.ef 10 (.ef 11 (.ef 14 (.rd 15 .done))))))) (.ef 10 (.ef 0 (.rd 4 (.rd 5 (.ef 11 (.ef 14 (.rd 15 .done))))))))))))))))) (by kernel_rfl) (by kernel_rfl) noPan_body (by kernel_rfl) a4 fun e0 b e1=>Zh [(1,.gen []),(2,.gen []),(3,.gen [.int .u8 m.bd.kd]),(6,.gen []),(7,.gen []),(8,.gen []),(9,.gen [.int .u8 m.bd.kd]),(12,.gen []),(13,.agg (TBd.cells m.bd))] [(3,[.cell ⟨a,13,none⟩ (.int .u8 m.bd.kd)]),(9,[.cell ⟨a,13,none⟩ (.int .u8 m.bd.kd)]),(13,[.prop (Array.size (TBd.cells m.bd)=76),.cells ⟨a,13,none⟩ (TBd.cells m.bd)])] (ak (okc (b.cell 1 rfl (by kernel_rfl)) ok0) (ak (okc (b.cell 1 rfl (by kernel_rfl)) ok0) (ak (okp (by kernel_rfl) (oka (b.cells 1 13 rfl (by kernel_rfl)) ok0)) ak0))) (GoR.alt ?_ ?_)
   ·refine Zc (codecs_spec b) ?_
    rintro e2 e3 ⟨u,rfl,e⟩
    refine⟨(opl (n:=[.prop (Array.size (TBd.cells m.bd)=76),.cells ⟨a,13,none⟩ (TBd.cells m.bd),.cell ⟨a,13,none⟩ (.int .u8 m.bd.kd),.cell ⟨a,13,none⟩ (.int .u8 m.bd.kd)]) (by kernel_rfl) (okp (by kernel_rfl) (oka (e.cells 2 13 rfl (by kernel_rfl)) (okc (e.cell 2 rfl (by kernel_rfl)) (okc (e.cell 2 rfl (by kernel_rfl)) ok0))))),(GoR.lookup rfl (by kernel_rfl) cdLaw (r:=u) (k:=m.bd.kd) (ok:=false) (by kernel_rfl) e 0 rfl (z:=evC cvZ) (by kernel_rfl) (v:=.agg #[.func (.func fp) #[] #[],.func (.func fg) #[] #[],.func (.func fm) #[] #[]]) (by rw [hc];rfl) (Zr 5 1 [] (Zll bytesOK byteF [(m.bd.kd:Int)] e fun b8 e4 x=>⟨(opl (n:=[.holds (MapA ekU evC u cdL).holds,.prop (Array.size (TBd.cells m.bd)=76),.cells ⟨a,13,none⟩ (TBd.cells m.bd),.cell ⟨a,13,none⟩ (.int .u8 m.bd.kd)]) (by kernel_rfl) (okh (x.at_ 1 rfl) (okp (by kernel_rfl) (oka (x.cells 3 13 rfl (by kernel_rfl)) (okc (x.cell 3 rfl (by kernel_rfl)) ok0))))),(Zap bytesOK byteF (0:Int) (x.pl 2) (by first|omega|(simp only [lA,lC,lN];omega)) fun c0 c1 e5 a0=>⟨(opl (n:=[.holds (MapA ekU evC u cdL).holds,.prop (Array.size (TBd.cells m.bd)=76),.cells ⟨a,13,none⟩ (TBd.cells m.bd),.cell ⟨a,13,none⟩ (.int .u8 m.bd.kd)]) (by kernel_rfl) (okh (a0.at_ 2 rfl) (okp (by kernel_rfl) (oka (a0.cells 3 13 rfl (by kernel_rfl)) (okc (a0.cell 3 rfl (by kernel_rfl)) ok0))))),(Zqa (f:=fp) (args:=#[.slice c0 (((dpI m 11)++([(m.bd.kd:Int)])).length) c1,.agg (TBd.cells m.bd)]) C.cp (C.put ((dpI m 11)++([(m.bd.kd:Int)])) m.bd rfl (by first|omega|(simp only [lA,lC,lN];omega)) hm.bd hin.2.1 (by have:=hin.2.2;omega) (fun w h=>hr _ (h.drop 3)) a0) ?_)⟩)⟩)))⟩
    rintro e6 e7 ⟨c2,c3,rfl,c4⟩
    exact Lo (Dz (Zr 15 1 [] (Zd (Zme [2] (c2,c3,b8,u) c4))))
   refine Zll bytesOK byteF [(m.bd.kd:Int)] b fun a9 e8 a5=>⟨(opl (n:=[.prop (Array.size (TBd.cells m.bd)=76),.cells ⟨a,13,none⟩ (TBd.cells m.bd),.cell ⟨a,13,none⟩ (.int .u8 m.bd.kd)]) (by kernel_rfl) (okp (by kernel_rfl) (oka (a5.cells 2 13 rfl (by kernel_rfl)) (okc (a5.cell 2 rfl (by kernel_rfl)) ok0)))),(Zc (codecs_spec a5) ?_)⟩
   rintro e9 f0 ⟨a6,rfl,i⟩
   refine⟨(opl (n:=[.prop (Array.size (TBd.cells m.bd)=76),.cells ⟨a,13,none⟩ (TBd.cells m.bd),.cell ⟨a,13,none⟩ (.int .u8 m.bd.kd),.cell ⟨a,13,none⟩ (.int .u8 m.bd.kd)]) (by kernel_rfl) (okp (by kernel_rfl) (oka (i.cells 3 13 rfl (by kernel_rfl)) (okc (i.cell 3 rfl (by kernel_rfl)) (okc (i.cell 3 rfl (by kernel_rfl)) ok0))))),(GoR.lookup rfl (by kernel_rfl) cdLaw (r:=a6) (k:=m.bd.kd) (ok:=false) (by kernel_rfl) i 0 rfl (z:=evC cvZ) (by kernel_rfl) (v:=.agg #[.func (.func fp) #[] #[],.func (.func fg) #[] #[],.func (.func fm) #[] #[]]) (by rw [hc];rfl) (Zr 5 1 [] ?_))⟩
   have b0:=(i.pl 2)
   refine GoR.append rfl (by kernel_rfl) bytesOK byteF (ad:=ad) (c:=c) (xs:=dpI m 11) (ys:=[(m.bd.kd:Int)]) (adx:=some ⟨a9,0,none⟩) (cx:=1) (0:Int) (by kernel_rfl) b0 (b0.rows 2 rfl (byteF).size (0:Int)) (fun h=>nomatch h) (by first|omega|(simp only [lA,lC,lN];omega)) (by first|omega|(simp only [lA,lC,lN];omega)) fun c5 c6 f1 a1=>⟨(opl (n:=[.holds (MapA ekU evC a6 cdL).holds,.prop (Array.size (TBd.cells m.bd)=76),.cells ⟨a,13,none⟩ (TBd.cells m.bd),.cell ⟨a,13,none⟩ (.int .u8 m.bd.kd)]) (by kernel_rfl) (okh (a1.at_ 1 rfl) (okp (by kernel_rfl) (oka (a1.cells 3 13 rfl (by kernel_rfl)) (okc (a1.cell 3 rfl (by kernel_rfl)) ok0))))),(Zqa (f:=fp) (args:=#[.slice c5 (((dpI m 11)++([(m.bd.kd:Int)])).length) c6,.agg (TBd.cells m.bd)]) C.cp (C.put ((dpI m 11)++([(m.bd.kd:Int)])) m.bd rfl (by first|omega|(simp only [lA,lC,lN];omega)) hm.bd hin.2.1 (by have:=hin.2.2;omega) (fun w h=>hr _ (h.drop 3)) a1) ?_)⟩
   rintro f2 f3 ⟨c7,c8,rfl,c9⟩
   exact Lo (Dz (Zr 15 1 [] (Zd (Zme [2] (c7,c8,a9,a6) ((((c9.pl 3).pl 2).pl 3).pl 3)))))
  rintro⟨a2,a3,d1,d2⟩ d3 d4
  have d5:St w0 ((Sl a2 a3 5 1 byteC (((dpI m 11)++([(m.bd.kd:Int)]))++bdB m.bd))::(Sl (some ⟨d1,0,none⟩) 1 5 1 byteC ([(m.bd.kd:Int)]))::(MapA ekU evC d2 cdL)::(Cel a (TMs.cells m) 63)::L) d3:=d4
  refine GoQ.slots (S':=[(2,.slice a2 ((((dpI m 11)++([(m.bd.kd:Int)]))++bdB m.bd).length) a3)]) rfl (Zt (Ze (Zq1 (v:=.slice a2 ((((dpI m 11)++([(m.bd.kd:Int)]))++bdB m.bd).length) a3) ?_)))
  have d6:=((((d5.pl 0).pl 3).pl 3).pl 3)
  exact⟨a2,a3,rfl,(d6.dr 3)⟩
theorem mbytes_spec (m) (hm:MsOK m) (hr:Rw w0 L TPr.cells 2 dPr m.bd.qa m.bd.ql) (hs:St w0 (L) w):Cs Tryz.prog 213 #[.agg (TMs.cells m)] w fun rv w'=>∃ ao co,rv=.slice ao ((byB m).length) co∧St w0 ((Sl ao co 5 1 byteC (byB m))::L) w':=by
 refine Zen Tryz.func213 Tryz.ntmps213 (En (Ls (Lg [0] (Dz (Zbg (TMs.cells m) hs fun b1 w2 e=>Lz (Ls (Ls (Dz (Zgj [1] (Hla 0 0 0 121 (TMs.cells m) e Hz) (Zc1 (may_spec m hm (fun w h=>hr _ (h.drop 1)) e) fun w6 b=>Lz (Dz (Zqc (t:=!(mayM m)) (fun d=>?_) (fun d=>?_)))))))))))))
 ·have a:=notT d
  refine En (Lq (Le (Ly (Dz (Zq1 (v:=.slice none 0 0) ?_)))))
  have o:=St.slNil b 5 1 byteC
  have q:=((o.pl 0).pl 1)
  exact⟨none,0,by rw [(show byB m=([]:List Int) from if_neg (by rw [a];decide))];rfl,by rw [(show byB m=([]:List Int) from if_neg (by rw [a];decide))];exact(q.dr 1)⟩
 ·have a:=notF d
  refine Zk (Zt (Zs (Zgj [1] (Hla 0 0 0 121 (TMs.cells m) b Hz) (Zc (tagged_spec m hm a (fun w h=>hr _ (h.drop 1)) b) ?_))))
  rintro a1 a2 ⟨f,i,rfl,x⟩
  refine Lz (Le (Dz (Zq1 (v:=.slice f ((tgB m).length) i) ?_)))
  have z:=((x.pl 0).pl 1)
  exact⟨f,i,by rw [(show byB m=tgB m from if_pos a)],by rw [(show byB m=tgB m from if_pos a)];exact(z.dr 1)⟩
def cat3 (l1 l2 l3:List Int):Nat→List Int
 | 0=>[]
 | 1=>l1
 | 2=>l1++l2
 | _=>l1++l2++l3
theorem cat3_spec {bs:Nat}{a1:Option Addr}{n1:Nat}{c1:Nat}{a2:Option Addr}{n2:Nat}{c2:Nat}{a3:Option Addr}{n3:Nat}{c3:Nat}(l1) (l2) (l3) (e1:l1.length=n1) (e2:l2.length=n2) (e3:l3.length=n3) (g1:l1.length≤100000) (g2:l2.length≤100000) (g3:l3.length≤100000) (hn1:a1=none→c1=0) (hn2:a2=none→c2=0) (hn3:a3=none→c3=0) (hr1:Rw w0 L byteC 1 0 a1 l1) (hr2:Rw w0 L byteC 1 0 a2 l2) (hr3:Rw w0 L byteC 1 0 a3 l3) (hs:St w0 ((Cel bs #[.slice a1 n1 c1,.slice a2 n2 c2,.slice a3 n3 c3] 22)::L) w):Cs Tryz.prog 95 #[zL bs 0 3 3] w fun rv w'=>∃ ao co,rv=.slice ao ((l1++l2++l3).length) co∧St w0 ((Cel bs #[.slice a1 n1 c1,.slice a2 n2 c2,.slice a3 n3 c3] 22)::(Sl ao co 5 1 byteC (l1++l2++l3))::L) w':=by
 refine Zen Tryz.func95 Tryz.ntmps95 (Zs ?_)
 subst e1
 subst e2
 subst e3
 refine En (La (Lt (Lq (Ls (Lq (Lb (Dz (GoC.loop (T:=Nat×Int) (fun gg=>[(0,zL bs 0 3 3),(2,.slice none 0 0),(3,.int .i64 gg.2),(9,zL bs 0 3 3),(10,.int .i64 3),(11,.int .i64 (gg.1:Nat))]) (fun gg w=>(gg.1≤3∧(gg.1=0→gg.2=(0:Int))∧(gg.1=1→gg.2=(0:Int)+(l1.length:Nat))∧(gg.1=2→gg.2=(0:Int)+(l1.length:Nat)+(l2.length:Nat))∧(gg.1=3→gg.2=(0:Int)+(l1.length:Nat)+(l2.length:Nat)+(l3.length:Nat)))∧St w0 ((Cel bs #[.slice a1 l1.length c1,.slice a2 l2.length c2,.slice a3 l3.length c3] 22)::L) w) (fun gg=>3-gg.1) (0,0) [0,2,3,9,10,11] (by kernel_rfl) ⟨⟨Nat.zero_le _,fun _=>rfl,fun h=>by omega,fun h=>by omega,fun h=>by omega⟩,hs⟩ ?_))))))))
 rintro⟨k,z⟩ w1 ⟨hp,a⟩
 dsimp only at hp a
 refine En (Lq (Ls (Dz (Zn [(12,.bool (decide ((k:Int)<3))),(0,zL bs 0 3 3),(2,.slice none 0 0),(3,.int .i64 z),(9,zL bs 0 3 3),(10,.int .i64 3),(11,.int .i64 (k:Nat))] (Zi ((k:Int)<3) (fun a6=>?_) (fun a6=>?_))))))
 ·have hcs:k=0∨k=1∨k=2:=by omega
  rcases hcs with rfl|rfl|rfl
  ·have hz:z=(0:Int):=hp.2.1 rfl
   refine Zn [(12,.bool (decide (((0:Nat):Int)<3))),(0,zL bs 0 3 3),(2,.slice none 0 0),(3,.int .i64 z),(9,zL bs 0 3 3),(10,.int .i64 3),(11,.int .i64 0)] (Zk (Zt (Zs (Zb (Zs (Zaj (Hx 0 (0:Int) (3:Int) bs 0 1 (Hl 1 0 0 a Hz)) (Zt (Zs (Zaj (Hwi 3 (z+(l1.length:Nat)) Hz) (En (Lt (Lq (Dz (Zi ((z+(l1.length:Nat):Int)<0) (fun a7=>?_) (fun a7=>?_)))))))))))))))
   ·exfalso;omega
   ·exact En (Lk (Lm (Lt (La (Dz (GoQ.back (1,z+(l1.length:Nat)) [0,2,3,9,10,11] (by kernel_rfl) (by show 3-1<3-0;omega) ⟨⟨by omega,by omega,by omega,by omega,by omega⟩,a⟩))))))
  ·have hz:z=(0:Int)+(l1.length:Nat):=hp.2.2.1 rfl
   refine Zn [(12,.bool (decide (((1:Nat):Int)<3))),(0,zL bs 0 3 3),(2,.slice none 0 0),(3,.int .i64 z),(9,zL bs 0 3 3),(10,.int .i64 3),(11,.int .i64 1)] (Zk (Zt (Zs (Zb (Zs (Zaj (Hx 0 (1:Int) (3:Int) bs 0 1 (Hl 1 0 1 a Hz)) (Zt (Zs (Zaj (Hwi 3 (z+(l2.length:Nat)) Hz) (En (Lt (Lq (Dz (Zi ((z+(l2.length:Nat):Int)<0) (fun a8=>?_) (fun a8=>?_)))))))))))))))
   ·exfalso;omega
   ·exact En (Lk (Lm (Lt (La (Dz (GoQ.back (2,z+(l2.length:Nat)) [0,2,3,9,10,11] (by kernel_rfl) (by show 3-2<3-1;omega) ⟨⟨by omega,by omega,by omega,by omega,by omega⟩,a⟩))))))
  ·have hz:z=(0:Int)+(l1.length:Nat)+(l2.length:Nat):=hp.2.2.2.1 rfl
   refine Zn [(12,.bool (decide (((2:Nat):Int)<3))),(0,zL bs 0 3 3),(2,.slice none 0 0),(3,.int .i64 z),(9,zL bs 0 3 3),(10,.int .i64 3),(11,.int .i64 2)] (Zk (Zt (Zs (Zb (Zs (Zaj (Hx 0 (2:Int) (3:Int) bs 0 1 (Hl 1 0 2 a Hz)) (Zt (Zs (Zaj (Hwi 3 (z+(l3.length:Nat)) Hz) (En (Lt (Lq (Dz (Zi ((z+(l3.length:Nat):Int)<0) (fun a9=>?_) (fun a9=>?_)))))))))))))))
   ·exfalso;omega
   ·exact En (Lk (Lm (Lt (La (Dz (GoQ.back (3,z+(l3.length:Nat)) [0,2,3,9,10,11] (by kernel_rfl) (by show 3-3<3-2;omega) ⟨⟨by omega,by omega,by omega,by omega,by omega⟩,a⟩))))))
 ·have hkn:k=3:=by omega
  subst hkn
  have hz:z=(0:Int)+(l1.length:Nat)+(l2.length:Nat)+(l3.length:Nat):=hp.2.2.2.2 rfl
  have hzn:z=((l1.length+l2.length+l3.length:Nat):Int):=by omega
  refine Zn [(12,.bool (decide (((3:Nat):Int)<3))),(0,zL bs 0 3 3),(2,.slice none 0 0),(3,.int .i64 z),(9,zL bs 0 3 3),(10,.int .i64 3),(11,.int .i64 (3:Nat))] (GoC.slots (S':=[(12,.bool (decide (((3:Nat):Int)<3))),(0,zL bs 0 3 3),(2,.slice none 0 0),(3,.int .i64 (l1.length+l2.length+l3.length:Nat)),(9,zL bs 0 3 3),(10,.int .i64 3),(11,.int .i64 (3:Nat))]) (by rw [hzn]) (Zn [(12,.bool (decide (((3:Nat):Int)<3))),(0,zL bs 0 3 3),(2,.slice none 0 0),(3,.int .i64 (l1.length+l2.length+l3.length:Nat)),(9,zL bs 0 3 3),(10,.int .i64 3),(11,.int .i64 (3:Nat))] (En (Lx (LsC (LsL (Lh (Lt (Ls (Lg [1] (Lw (Zqa (f:=125) (args:=#[.slice none 0 0,.int .i64 (l1.length+l2.length+l3.length:Nat)]) Tryz.call125 (grow_spec2 ([]:List Int) (l1.length+l2.length+l3.length:Nat) (by first|omega|(simp only [lA,lC,lN,wd_length] at *;omega)) (by omega) (St.slNil a 5 1 byteC)) ?_))))))))))))
  rintro c9 d0 ⟨b1,b2,rfl,b3⟩
  refine Lz (Ls (Lq (Lb (Dz (GoC.loop (T:=Nat×(Option Addr)×Nat) (fun gg=>[(2,.slice none 0 0),(6,.slice gg.2.1 ((cat3 l1 l2 l3 gg.1).length) gg.2.2),(25,zL bs 0 3 3),(26,.int .i64 3),(27,.int .i64 (gg.1:Nat))]) (fun gg w=>(gg.1≤3)∧St w0 ((Sl gg.2.1 gg.2.2 5 1 byteC (cat3 l1 l2 l3 gg.1))::(Cel bs #[.slice a1 l1.length c1,.slice a2 l2.length c2,.slice a3 l3.length c3] 22)::L) w) (fun gg=>3-gg.1) (0,b1,b2) [2,6,25,26,27] (by kernel_rfl) ⟨Nat.zero_le _,b3⟩ ?_)))))
  rintro⟨k,ad,c⟩ d ⟨hq,b⟩
  dsimp only at hq b
  refine En (Lq (Ls (Dz (Zn [(28,.bool (decide ((k:Int)<3))),(2,.slice none 0 0),(6,.slice ad ((cat3 l1 l2 l3 k).length) c),(25,zL bs 0 3 3),(26,.int .i64 3),(27,.int .i64 (k:Nat))] (Zi ((k:Int)<3) (fun b4=>?_) (fun b4=>?_))))))
  ·have hcs:k=0∨k=1∨k=2:=by omega
   rcases hcs with rfl|rfl|rfl
   ·have a0:St w0 ((Sl ad c 5 1 byteC ([]:List Int))::(Cel bs #[.slice a1 l1.length c1,.slice a2 l2.length c2,.slice a3 l3.length c3] 22)::L) d:=b
    refine Zn [(28,.bool (decide (((0:Nat):Int)<3))),(2,.slice none 0 0),(6,.slice ad ((([]:List Int)).length) c),(25,zL bs 0 3 3),(26,.int .i64 3),(27,.int .i64 0)] (Zk (Zt (Zs (Zb (Zs (Zaj (Hx 0 (0:Int) (3:Int) bs 0 1 (Hl 1 1 0 a0 Hz)) (En (Lt (Lg [2] (Lw (GoR.append rfl (by kernel_rfl) bytesOK byteF (ad:=ad) (c:=c) (xs:=([]:List Int)) (ys:=l1) (adx:=a1) (cx:=c1) (0:Int) (by kernel_rfl) a0 (hr1 _ (a0.drop 2)) hn1 (by first|omega|(simp only [lA,lN];omega)) (by first|omega|(simp only [lA,lN];omega)) fun e i b5 b6=>Lo (Lud (Lm (Lt (La (Dz ?_))))))))))))))))
    have b7:St w0 ((Sl e i 5 1 byteC (cat3 l1 l2 l3 1))::(Cel bs #[.slice a1 l1.length c1,.slice a2 l2.length c2,.slice a3 l3.length c3] 22)::L) b5:=b6
    exact GoQ.pick [27,6,2,25,26] (S':=[(27,.int .i64 1),(6,.slice e ((l1).length) i),(2,.slice none 0 0),(25,zL bs 0 3 3),(26,.int .i64 3)]) (by kernel_rfl) (GoQ.slots (S':=[(27,.int .i64 1),(6,.slice e ((cat3 l1 l2 l3 1).length) i),(2,.slice none 0 0),(25,zL bs 0 3 3),(26,.int .i64 3)]) (by rfl) (GoQ.back (1,e,i) [2,6,25,26,27] (by kernel_rfl) (by show 3-1<3-0;omega) ⟨(by omega),b7⟩))
   ·have a4:St w0 ((Sl ad c 5 1 byteC l1)::(Cel bs #[.slice a1 l1.length c1,.slice a2 l2.length c2,.slice a3 l3.length c3] 22)::L) d:=b
    refine Zn [(28,.bool (decide (((1:Nat):Int)<3))),(2,.slice none 0 0),(6,.slice ad ((l1).length) c),(25,zL bs 0 3 3),(26,.int .i64 3),(27,.int .i64 1)] (Zk (Zt (Zs (Zb (Zs (Zaj (Hx 0 (1:Int) (3:Int) bs 0 1 (Hl 1 1 1 a4 Hz)) (En (Lt (Lg [2] (Lw (GoR.append rfl (by kernel_rfl) bytesOK byteF (ad:=ad) (c:=c) (xs:=l1) (ys:=l2) (adx:=a2) (cx:=c2) (0:Int) (by kernel_rfl) a4 (hr2 _ (a4.drop 2)) hn2 (by first|omega|(simp only [lA,lN];omega)) (by first|omega|(simp only [lA,lN];omega)) fun o q b8 b9=>Lo (Lud (Lm (Lt (La (Dz ?_))))))))))))))))
    have c0:St w0 ((Sl o q 5 1 byteC (cat3 l1 l2 l3 2))::(Cel bs #[.slice a1 l1.length c1,.slice a2 l2.length c2,.slice a3 l3.length c3] 22)::L) b8:=b9
    exact GoQ.pick [27,6,2,25,26] (S':=[(27,.int .i64 2),(6,.slice o ((l1++l2).length) q),(2,.slice none 0 0),(25,zL bs 0 3 3),(26,.int .i64 3)]) (by kernel_rfl) (GoQ.slots (S':=[(27,.int .i64 2),(6,.slice o ((cat3 l1 l2 l3 2).length) q),(2,.slice none 0 0),(25,zL bs 0 3 3),(26,.int .i64 3)]) (by rfl) (GoQ.back (2,o,q) [2,6,25,26,27] (by kernel_rfl) (by show 3-2<3-1;omega) ⟨(by omega),c0⟩))
   ·have a5:St w0 ((Sl ad c 5 1 byteC (l1++l2))::(Cel bs #[.slice a1 l1.length c1,.slice a2 l2.length c2,.slice a3 l3.length c3] 22)::L) d:=b
    refine Zn [(28,.bool (decide (((2:Nat):Int)<3))),(2,.slice none 0 0),(6,.slice ad ((l1++l2).length) c),(25,zL bs 0 3 3),(26,.int .i64 3),(27,.int .i64 2)] (Zk (Zt (Zs (Zb (Zs (Zaj (Hx 0 (2:Int) (3:Int) bs 0 1 (Hl 1 1 2 a5 Hz)) (En (Lt (Lg [2] (Lw (GoR.append rfl (by kernel_rfl) bytesOK byteF (ad:=ad) (c:=c) (xs:=l1++l2) (ys:=l3) (adx:=a3) (cx:=c3) (0:Int) (by kernel_rfl) a5 (hr3 _ (a5.drop 2)) hn3 (by first|omega|(simp only [lA,lN];omega)) (by first|omega|(simp only [lA,lN];omega)) fun u x c4 c5=>Lo (Lud (Lm (Lt (La (Dz ?_))))))))))))))))
    have c6:St w0 ((Sl u x 5 1 byteC (cat3 l1 l2 l3 3))::(Cel bs #[.slice a1 l1.length c1,.slice a2 l2.length c2,.slice a3 l3.length c3] 22)::L) c4:=c5
    exact GoQ.pick [27,6,2,25,26] (S':=[(27,.int .i64 3),(6,.slice u (((l1++l2)++l3).length) x),(2,.slice none 0 0),(25,zL bs 0 3 3),(26,.int .i64 3)]) (by kernel_rfl) (GoQ.slots (S':=[(27,.int .i64 3),(6,.slice u ((cat3 l1 l2 l3 3).length) x),(2,.slice none 0 0),(25,zL bs 0 3 3),(26,.int .i64 3)]) (by rfl) (GoQ.back (3,u,x) [2,6,25,26,27] (by kernel_rfl) (by show 3-3<3-2;omega) ⟨(by omega),c6⟩))
  ·have hkn:k=3:=by omega
   subst hkn
   have c7:St w0 ((Sl ad c 5 1 byteC (l1++l2++l3))::(Cel bs #[.slice a1 l1.length c1,.slice a2 l2.length c2,.slice a3 l3.length c3] 22)::L) d:=b
   exact Zn [(28,.bool (decide (((3:Nat):Int)<3))),(2,.slice none 0 0),(6,.slice ad ((l1++l2++l3).length) c),(25,zL bs 0 3 3),(26,.int .i64 3),(27,.int .i64 (3:Nat))] (En (Lx (LsC (LsL (Lh (Lt (Lq (Le (Dz (Zq1 (v:=.slice ad ((l1++l2++l3).length) c) ⟨ad,c,rfl,((c7.pl 0).pl 1)⟩))))))))))
theorem mput_spec (m) (hm:MsOK m) (hr:Rw w0 L TPr.cells 2 dPr m.bd.qa m.bd.ql) (hs:St w0 (L) w):Cs Tryz.prog 61 #[.agg (TMs.cells m)] w fun rv w'=>∃ ao co,rv=.slice ao ((putM m).length) co∧St w0 ((Sl ao co 5 1 byteC (putM m))::L) w':=by
 refine Zen Tryz.func61 Tryz.ntmps61 (Zs ?_)
 have g2:=hm.nr
 refine Zg [0] (Zbg (TMs.cells m) hs fun a w2 o=>Lz (Ls (Ls (Dz (Zgj [1] (Hla 0 0 0 121 (TMs.cells m) o Hz) (Zc1 (may_spec m hm (fun w h=>hr _ (h.drop 1)) o) fun w6 q=>Lz (Dz (Zqc (t:=!(mayM m)) (fun d=>?_) (fun d=>?_)))))))))
 ·have b:=notT d
  refine En (Lq (Le (Ly (Dz (Zq1 (v:=.slice none 0 0) ?_)))))
  have a5:=St.slNil q 5 1 byteC
  have a6:=((a5.pl 0).pl 1)
  exact⟨none,0,by rw [(show putM m=([]:List Int) from if_neg (by rw [b];decide))];rfl,by rw [(show putM m=([]:List Int) from if_neg (by rw [b];decide))];exact(a6.dr 1)⟩
 ·have b:=notF d
  have hb:mayM m=true:=b
  refine Zk (Zt (Zs (ZD (rds [0,1,3,5,6] (.ef 2 (.ef 4 (.ef 7 (.ef 8 (.rd 9 .done)))))) q fun b4 f b5=>Zj (Hl 1 0 1 f (Hla 3 0 0 121 (TMs.cells m) f (Hg 6 (.as_ (zL a 89 ((m.tg.toList).length) 32) (.sub 0 32)) [.prop ((((none:Option Operand))=none→(0:Nat)=0)∧(((none:Option Operand))=none→(32:Nat)=32)∧(0:Nat)≤32∧(32:Nat)≤32),.prop (Value.slice (some (if 32=0 then Addr.mk a 89 none else (Addr.mk a 89 none).add (0*1))) (32-0) (32-0)=Value.slice (some ⟨a,89,none⟩) ((m.tg.toList).length) 32)] (okp ⟨(by first|(intro _;rfl)|(intro hc;cases hc)),(by first|(intro _;rfl)|(intro hc;cases hc)),(by omega),(by omega)⟩ (okp (by rw [D32.len];exact subArr0 _ _ _ _ _ (by decide)) ok0)) Hz))) (Zc (word_spec ([]:List Int) m.nr (by first|omega|(simp only [lA,lC,lN,wd_length] at *;omega)) (by omega) (St.slNil f 5 1 byteC)) ?_))))
  rintro b6 b7 ⟨u,x,rfl,a0⟩
  refine⟨(opl (n:=[.prop ((((none:Option Operand))=none→(0:Nat)=0)∧(((none:Option Operand))=none→(32:Nat)=32)∧(0:Nat)≤32∧(32:Nat)≤32),.prop (Value.slice (some (if 32=0 then Addr.mk a 89 none else (Addr.mk a 89 none).add (0*1))) (32-0) (32-0)=Value.slice (some ⟨a,89,none⟩) ((m.tg.toList).length) 32),.prop (Array.size (TMs.cells m)=121),.cells ⟨a,0,none⟩ (TMs.cells m)]) (by kernel_rfl) (okp ⟨(by first|(intro _;rfl)|(intro hc;cases hc)),(by first|(intro _;rfl)|(intro hc;cases hc)),(by omega),(by omega)⟩ (okp (by rw [D32.len];exact subArr0 _ _ _ _ _ (by decide)) (okp (by kernel_rfl) (oka (a0.cells 1 0 rfl (by kernel_rfl)) ok0))))),(Zc (tagged_spec m hm b (fun w h=>hr _ (h.drop 2)) a0) ?_)⟩
  rintro b8 b9 ⟨a1,a2,rfl,a9⟩
  refine⟨(opl (n:=[.prop ((((none:Option Operand))=none→(0:Nat)=0)∧(((none:Option Operand))=none→(32:Nat)=32)∧(0:Nat)≤32∧(32:Nat)≤32),.prop (Value.slice (some (if 32=0 then Addr.mk a 89 none else (Addr.mk a 89 none).add (0*1))) (32-0) (32-0)=Value.slice (some ⟨a,89,none⟩) ((m.tg.toList).length) 32)]) (by kernel_rfl) (okp ⟨(by first|(intro _;rfl)|(intro hc;cases hc)),(by first|(intro _;rfl)|(intro hc;cases hc)),(by omega),(by omega)⟩ (okp (by rw [D32.len];exact subArr0 _ _ _ _ _ (by decide)) ok0))),(GoR.sliceLit rfl (by kernel_rfl) (t:=91) (e:=22) (n:=3) (ps:=[(0,.slice u ((([]:List Int)++wd m.nr).length) x),(1,.slice a1 ((tgB m).length) a2),(2,zL a 89 ((m.tg.toList).length) 32)]) (by kernel_rfl) (by kernel_rfl) (ti:=Tryz.t22) (z:=.slice none 0 0) (by kernel_rfl) (by kernel_rfl) (by decide) (by decide) (cs:=#[.slice u ((([]:List Int)++wd m.nr).length) x,.slice a1 ((tgB m).length) a2,zL a 89 ((m.tg.toList).length) 32]) (by kernel_rfl) a9 fun c0 c1 i c2=>Lo (Dz (Zc (cat3_spec (([]:List Int)++wd m.nr) (tgB m) m.tg.toList rfl rfl rfl (by have:=tgB_length hb;first|omega|(simp only [lA,lN,wd_length,D32.len];omega)) (by have:=tgB_length hb;first|omega|(simp only [lA,lN,wd_length,D32.len];omega)) (by have:=tgB_length hb;first|omega|(simp only [lA,lN,wd_length,D32.len];omega)) (i.slNone 2 rfl) (i.slNone 1 rfl) (by intro h;cases h) (fun w h=>h.rows 1 rfl (byteF).size _) (fun w h=>h.rows 0 rfl (byteF).size _) (fun w h=>D32.mid h 2 89 m.tg rfl (by kernel_rfl)) i) ?_)))⟩
  rintro c3 c4 ⟨a3,a4,rfl,b0⟩
  refine Lz (Le (Dz (Zq1 (v:=.slice a3 (((([]:List Int)++wd m.nr)++(tgB m)++m.tg.toList).length) a4) ?_)))
  have b2:=(((((b0.pl 1).pl 4).pl 4).pl 4).pl 4)
  exact⟨a3,a4,by rw [(show putM m=(([]:List Int)++wd m.nr)++(tgB m)++m.tg.toList from if_pos b)],by rw [(show putM m=(([]:List Int)++wd m.nr)++(tgB m)++m.tg.toList from if_pos b)];exact(b2.dr 4)⟩
end
section
variable {w0 w : World} {L : List Asn} {ad : Option Addr} {cb : Nat}
def stW (s:CS):Nat→CS
 | 0=>s
 | k+1=>(wordP (stW s k)).2
def valW (s:CS) (k:Nat):Int:=(wordP (stW s k)).1
def vecF (f:Nat→Int) (k:Nat):VecD:=Vector.ofFn fun i=>if i.val<k then f i.val else 0
def conM (m:TMs):TMs:=⟨m.og,m.nr,m.dp,con m.bd,m.tg⟩
def ofM (i n:Int) (b:List Int) (t:D32):TMs×Int :=
 let a:=byteP (b,false)
 let k:=byteP (stW a.2 11)
 if ¬ (1≤k.1∧k.1≤6) then (dMs,5) else if a.1≠i then (dMs,5) else
 let g:=getB k.1 k.2
 let m:TMs:=⟨a.1,n,vecF (valW a.2) 11,g.1,t⟩
 if g.2.2=true then (dMs,5) else if g.2.1.length>0 then (dMs,5) else if byB m=b then (m,0) else (dMs,5)
theorem vec_z (f:Nat→Int):vecF f 0=dVc:=by kernel_rfl
theorem vecF_all (f:Nat→Int) (x:Int) (h:∀ k,k<11→0≤f k∧f k≤18446744073709551615):∀ x∈(vecF f 11).toList,0≤x∧x≤18446744073709551615:=by
 intro x hx
 have e:(vecF f 11).toList=[f 0,f 1,f 2,f 3,f 4,f 5,f 6,f 7,f 8,f 9,f 10]:=by kernel_rfl
 rw [e] at hx
 simp only [List.mem_cons,List.not_mem_nil,or_false] at hx
 rcases hx with rfl|rfl|rfl|rfl|rfl|rfl|rfl|rfl|rfl|rfl|rfl
 all_goals exact h _ (by decide)
theorem msSet {og nr:Int}{bd:TBd}{tg:D32}(f:Nat→Int){k:Nat}(hk:k<11):splice (TMs.cells ⟨og,nr,vecF f k,bd,tg⟩) (2+k) [.int .u64 (f k)]=TMs.cells ⟨og,nr,vecF f (k+1),bd,tg⟩ :=
 match k,hk with
 | 0,_=>by kernel_rfl
 | 1,_=>by kernel_rfl
 | 2,_=>by kernel_rfl
 | 3,_=>by kernel_rfl
 | 4,_=>by kernel_rfl
 | 5,_=>by kernel_rfl
 | 6,_=>by kernel_rfl
 | 7,_=>by kernel_rfl
 | 8,_=>by kernel_rfl
 | 9,_=>by kernel_rfl
 | 10,_=>by kernel_rfl
 | n+11,h=>by omega
theorem byB_con (m:TMs):byB (conM m)=byB m:=rfl
theorem dMs_ok:MsOK dMs:=⟨by decide,by decide,by decide,⟨by decide,by decide,by decide,dRq_ok,(fun p hp=>by cases hp),dD32_ok,Nat.zero_le _⟩,dD32_ok⟩
theorem ofM_err {i n a k:Int}{b:List Int}{t:D32}{s1 s2:CS}(h1:byteP (b,false)=(a,s1)) (h2:byteP (stW s1 11)=(k,s2)) (h:¬ (1≤k∧k≤6)∨a≠i):ofM i n b t=(dMs,5):=by
 unfold ofM
 simp only [h1,h2]
 by_cases hk:1≤k∧k≤6
 ·rw [if_neg (fun d=>d hk),if_pos (h.resolve_left fun d=>d hk)]
 ·rw [if_pos hk]
theorem ofM_in {i n a k:Int}{b:List Int}{t:D32}{s1 s2 s3:CS}{g:TBd}(h1:byteP (b,false)=(a,s1)) (h2:byteP (stW s1 11)=(k,s2)) (hin:1≤k∧k≤6) (hi:a=i) (hg:getB k s2=(g,s3)) :
 ofM i n b t=if s3.2=true then (dMs,5) else if s3.1.length>0 then (dMs,5) else if byB ⟨a,n,vecF (valW s1) 11,g,t⟩=b then (⟨a,n,vecF (valW s1) 11,g,t⟩,0) else (dMs,5):=by
 unfold ofM
 simp only [h1,h2,hg]
 rw [if_neg (fun d=>d hin),if_neg (fun d=>d hi)]
theorem of_spec (i) (n) (b) (t) (hpos:0<b.length) (hbl:b.length≤100000) (hbb:∀ z∈b,0≤z∧z<256) (hn:0≤n∧n≤18446744073709551615) (ht:∀ z∈t.toList,0≤z∧z<256) (hr:Rw w0 L byteC 1 0 ad b) (hs:St w0 (L) w):Cs Tryz.prog 147 #[.int .i64 i,.int .u64 n,.slice ad b.length cb,.agg (D32.cells t)] w fun rv w'=>∃ mm2 ee2,rv=.tuple #[.agg (TMs.cells mm2),.int .i64 ee2]∧ofM i n b t=(conM mm2,ee2)∧MsOK mm2∧St w0 ((Sl mm2.bd.qa mm2.bd.qc 143 2 TPr.cells mm2.bd.ql)::L) w':=by
 refine Zen Tryz.func147 Tryz.ntmps147 (Zs ?_)
 have hsome:Som ad cb:=by obtain⟨b,off,rfl⟩:=RowsAt.isSome (hr _ hs) hpos;exact .inl ⟨b,off,rfl⟩
 refine Zg [0,1] (Zbg (D32.cells t) hs fun b1 w2 h4=>Lo (Dz (Zag (TMs.cells dMs) h4 fun b4 w5 h5=>Lz (Ls (Lg [1] (Lw (Zc (cutNew_spec b (by omega) (by first|assumption|omega) (fun w h=>hr _ (h.drop 2)) h5) ?_)))))))
 rintro p2 p3 ⟨a0,o,q,rfl,d9⟩
 have e0:CutOK (Sl o q 5 1 byteC b) o b q:=CutOK.new d9 (j:=1) rfl hbb (by omega)
 refine Lz (Ls (Dz (GoC.join (T:=Nat×Int×Option Addr×List Int×Nat×Bool) (E:=fun jx=>[(0,.int .i64 i),(2,.slice ad b.length cb),(8,zP b4 0),(9,.int .i64 0),(10,zP a0 0),(11,zP jx.1 0)]) (F:=fun jx w=>(byteP (b,false)=(jx.2.1,(jx.2.2.2.1,jx.2.2.2.2.2)))∧((0≤jx.2.1∧jx.2.1<256))∧(CutOK (Sl o q 5 1 byteC b) jx.2.2.1 jx.2.2.2.1 jx.2.2.2.2.1)∧St w0 ((Cel jx.1 (TMs.cells (⟨jx.2.1,n,dVc,dBd,t⟩:TMs)) 63)::(Cel a0 #[.slice jx.2.2.1 jx.2.2.2.1.length jx.2.2.2.2.1,.bool jx.2.2.2.2.2] 150)::(Sl o q 5 1 byteC b)::(Cel b4 (TMs.cells dMs) 63)::(Cel b1 (D32.cells t) 32)::L) w) ?_ ?_)))
 ·refine GoC.regD [0,1,3,0,0,31,0,127] (.rd 0 (.rd 3 (.rd 4 (.alt (.ef 1 (.rd 2 (.rd 5 (.ef 6 (.ef 7 .done))))) (.ef 6 (.ef 1 (.rd 2 (.rd 5 (.ef 7 .done))))))))) (by kernel_rfl) (by kernel_rfl) noPan_body (by kernel_rfl) d9 fun p4 b9 p5=>Zh [(0,.gen []),(3,.gen []),(4,.agg (D32.cells t))] [(4,[.prop (Array.size (D32.cells t)=32),.cells ⟨b1,0,none⟩ (D32.cells t)])] (ak (okp (by kernel_rfl) (oka (b9.cells 3 0 rfl (by kernel_rfl)) ok0)) ak0) (GoR.alt ?_ ?_)
  ·refine Zc (cutByte_spec (Sl o q 5 1 byteC b) b false (fun w h=>h.at_ 0 rfl) e0 b9) ?_
   rintro p6 p7 ⟨a3,h6,h7,h8,h9,rfl,i0,i1,i2,e1⟩
   refine⟨(opl (n:=[.prop (Array.size (D32.cells t)=32),.cells ⟨b1,0,none⟩ (D32.cells t)]) (by kernel_rfl) (okp (by kernel_rfl) (oka (e1.cells 3 0 rfl (by kernel_rfl)) ok0))),(Zh [(2,.as_ (.int .i64 a3) (.gen [])),(5,.gen [])] [(2,[.prop (Value.int .i64 (IntKind.i64.wrap a3)=Value.int .i64 a3)])] (ak (okp (i64ok (by omega) (by omega)) ok0) ak0) ?_)⟩
   refine Zag (TMs.cells dMs) e1 fun i3 p8 e2=>⟨(opl (n:=[.prop (Value.int .i64 (IntKind.i64.wrap a3)=Value.int .i64 a3),.prop (Array.size (D32.cells t)=32),.cells ⟨b1,0,none⟩ (D32.cells t)]) (by kernel_rfl) (okp (i64ok (by omega) (by omega)) (okp (by kernel_rfl) (oka (e2.cells 4 0 rfl (by kernel_rfl)) ok0)))),?_⟩
   exact Zu 0 0 (TMs.cells (⟨a3,n,dVc,dBd,t⟩:TMs)) e2 fun p9 i4=>Lo (Ld (Dz (Zme [0,2,8,9,10,11] (i3,a3,h8,h6,h9,h7) ⟨i0,i1,i2,i4⟩)))
  refine Zag (TMs.cells dMs) b9 fun i5 q0 e3=>⟨(opl (n:=[.prop (Array.size (D32.cells t)=32),.cells ⟨b1,0,none⟩ (D32.cells t)]) (by kernel_rfl) (okp (by kernel_rfl) (oka (e3.cells 4 0 rfl (by kernel_rfl)) ok0))),(Zc (cutByte_spec (Sl o q 5 1 byteC b) b false (fun w h=>h.at_ 1 rfl) e0 (e3.pl 1)) ?_)⟩
  rintro q1 q2 ⟨a7,i7,i8,i9,j0,rfl,j1,j2,j3,e4⟩
  refine⟨(opl (n:=[.prop (Array.size (D32.cells t)=32),.cells ⟨b1,0,none⟩ (D32.cells t)]) (by kernel_rfl) (okp (by kernel_rfl) (oka (e4.cells 4 0 rfl (by kernel_rfl)) ok0))),(Zh [(2,.as_ (.int .i64 a7) (.gen [])),(5,.gen [])] [(2,[.prop (Value.int .i64 (IntKind.i64.wrap a7)=Value.int .i64 a7)])] (ak (okp (i64ok (by omega) (by omega)) ok0) ak0) ?_)⟩
  exact Zu 1 0 (TMs.cells (⟨a7,n,dVc,dBd,t⟩:TMs)) e4 fun q3 j4=>Lo (Ld (Dz (Zme [0,2,8,9,10,11] (i5,a7,i9,i7,j0,i8) ⟨j1,j2,j3,(((((j4.pl 4).pl 4).pl 4).pl 3).pl 4)⟩)))
 rintro⟨a,u,b0,d,b2,e⟩ e5 ⟨a2,e6,c0,j6⟩
 have a2:byteP (b,false)=(u,(d,e)):=a2
 have e6:(0≤u∧u<256):=e6
 have c0:CutOK (Sl o q 5 1 byteC b) b0 d b2:=c0
 have j7:St w0 ((Cel a (TMs.cells (⟨u,n,dVc,dBd,t⟩:TMs)) 63)::(Cel a0 #[.slice b0 d.length b2,.bool e] 150)::(Sl o q 5 1 byteC b)::(Cel b4 (TMs.cells dMs) 63)::(Cel b1 (D32.cells t) 32)::L) e5:=j6
 refine GoQ.slots (S':=[(0,.int .i64 i),(2,.slice ad b.length cb),(8,zP b4 0),(9,.int .i64 0),(10,zP a0 0),(11,zP a 0)]) rfl (En (Lt (Ls (Lq (Lb (Dz ?_))))))
 have j8:=((j7.pl 0).pl 1)
 have j9:St w0 ((Cel a0 #[.slice b0 d.length b2,.bool e] 150)::(Cel a (TMs.cells (⟨u,n,(vecF (valW (d,e)) 0),dBd,t⟩:TMs)) 63)::(Sl o q 5 1 byteC b)::(Cel b4 (TMs.cells dMs) 63)::(Cel b1 (D32.cells t) 32)::L) e5:=(by rw [vec_z];exact j8)
 refine GoC.loop (T:=Nat×(List Int)×Bool×(Option Addr)×Nat) (fun gg=>[(0,.int .i64 i),(2,.slice ad b.length cb),(8,zP b4 0),(9,.int .i64 0),(10,zP a0 0),(11,zP a 0),(23,.int .i64 (gg.1:Nat))]) (fun gg w=>(gg.1≤11∧(gg.2.1,gg.2.2.1)=stW (d,e) gg.1∧CutOK (Sl o q 5 1 byteC b) gg.2.2.2.1 gg.2.1 gg.2.2.2.2)∧St w0 ((Cel a0 #[.slice gg.2.2.2.1 gg.2.1.length gg.2.2.2.2,.bool gg.2.2.1] 150)::(Cel a (TMs.cells (⟨u,n,(vecF (valW (d,e)) gg.1),dBd,t⟩:TMs)) 63)::(Sl o q 5 1 byteC b)::(Cel b4 (TMs.cells dMs) 63)::(Cel b1 (D32.cells t) 32)::L) w) (fun gg=>11-gg.1) (0,d,e,b0,b2) [0,2,8,9,10,11,23] (by kernel_rfl) ⟨⟨Nat.zero_le _,rfl,c0⟩,j9⟩ ?_
 rintro⟨kk,e7,e8,q4,q5⟩ q6 ⟨hp,c1⟩
 dsimp only at hp c1
 refine En (Lq (Ls (Dz (Zi ((kk:Int)<11) (fun k0=>?_) (fun k0=>?_)))))
 ·have hk:kk<11:=by omega
  refine En (Lk (Lt (Ls (Lb (Lq (Lg [2,5] (Lw (Zc (cutWord_spec (Sl o q 5 1 byteC b) e7 e8 (fun w h=>h.at_ 1 rfl) hp.2.2 c1) ?_))))))))
  rintro q7 q8 ⟨e9,f0,f1,f2,f3,rfl,f4,q9,k1,k2⟩
  refine Zoj (Hx 4 (kk:Int) (11:Int) a 2 1 Hz) ?_
  have hvk:valW (d,e) kk=e9:=by show(wordP (stW _ kk)).1=_;rw [← hp.2.1,f4]
  exact GoR.store rfl rfl (by kernel_rfl) (b:=a) (off:=2+(kk*1)) (v:=.int .u64 e9) (by kernel_rfl) (by kernel_rfl) (ti:=Tryz.t29) (by kernel_rfl) k2 1 rfl (by kernel_rfl) (by kernel_rfl) (by show 2+(kk*1)+1≤121;omega) (cs':=TMs.cells (⟨u,n,(vecF (valW (d,e)) (kk+1)),dBd,t⟩:TMs)) (L':=(Cel a0 #[.slice f2 f0.length f3,.bool f1] 150)::(Cel a (TMs.cells (⟨u,n,(vecF (valW (d,e)) (kk+1)),dBd,t⟩:TMs)) 63)::(Sl o q 5 1 byteC b)::(Cel b4 (TMs.cells dMs) 63)::(Cel b1 (D32.cells t) 32)::L) (by rw [Nat.mul_one,← hvk];exact msSet _ hk) rfl fun r0 k3=>Lo (Ld (Lm (Lt (Dz (Zaj (Hwi 0 ((kk:Nat)+1) Hz) (GoQ.back (kk+1,f0,f1,f2,f3) [0,2,8,9,10,11,23] (by kernel_rfl) (by show 11-(kk+1)<11-kk;omega) ⟨⟨by omega,by show _=(wordP (stW _ kk)).2;rw [← hp.2.1,f4],k1⟩,k3⟩))))))
 ·have hke:kk=11:=by omega
  subst hke
  refine En (Lx (LsC (LsL (Lh (Lt (Ls (Lg [1,4] (Lw (Zc (cutByte_spec (Sl o q 5 1 byteC b) e7 e8 (fun w h=>h.at_ 1 rfl) hp.2.2 c1) ?_)))))))))
  rintro r4 r5 ⟨x,a8,a9,b3,b5,rfl,a4,r6,k4,k5⟩
  refine Lo (Lw (Zu 1 13 (TMs.cells (⟨u,n,(vecF (valW (d,e)) 11),(⟨x,0,0,dRq,none,0,[],dD32⟩:TBd),t⟩:TMs)) k5 fun r7 f5=>Lo (Ld (Lt (Ls (Dz ?_))))))
  rcases Classical.em (1≤x∧x≤6) with hin|hno
  ·obtain⟨fp,fg,fm,hc,C⟩:=codec_of hin
   refine GoC.join (T:=Nat×Nat) (E:=fun jx=>[(0,.int .i64 i),(2,.slice ad b.length cb),(8,zP b4 0),(9,.int .i64 0),(10,zP a0 0),(11,zP a 0),(13,zP jx.1 0),(14,.bool true)]) (F:=fun jx w=>St w0 ((Cel jx.1 (CoV.cells (⟨(.func (.func fp) #[] #[]),(.func (.func fg) #[] #[]),(.func (.func fm) #[] #[])⟩:CoV)) 238)::(MapA ekU evC jx.2 cdL)::(Cel a0 #[.slice b3 a8.length b5,.bool a9] 150)::(Cel a (TMs.cells (⟨u,n,(vecF (valW (d,e)) 11),(⟨x,0,0,dRq,none,0,[],dD32⟩:TBd),t⟩:TMs)) 63)::(Sl o q 5 1 byteC b)::(Cel b4 (TMs.cells dMs) 63)::(Cel b1 (D32.cells t) 32)::L) w) ?_ ?_
   ·refine GoC.regD [0,0,2,6,15,31,63,63,0,383,1023] (.rd 1 (.rd 2 (.rd 3 (.alt (.ef 0 (.rd 4 (.rd 5 (.rd 6 (.rd 7 (.ef 8 (.ef 9 (.rd 10 .done)))))))) (.ef 8 (.ef 0 (.rd 4 (.rd 5 (.rd 6 (.rd 7 (.ef 9 (.rd 10 .done)))))))))))) (by kernel_rfl) (by kernel_rfl) noPan_body (by kernel_rfl) f5 fun r8 c2 r9=>Zpj 1 3 (Hl 3 1 13 c2 Hz) (GoR.alt ?_ ?_)
    ·refine Zc (codecs_spec c2) ?_
     rintro s0 s1 ⟨c3,rfl,c4⟩
     exact⟨(opl (n:=[.cell ⟨a,13,none⟩ (.int .u8 x)]) (by kernel_rfl) (okc (c4.cell 2 rfl (by kernel_rfl)) ok0)),(GoR.lookup rfl (by kernel_rfl) cdLaw (r:=c3) (k:=x) (ok:=true) (by kernel_rfl) c4 0 rfl (z:=evC cvZ) (by kernel_rfl) (v:=.tuple #[.agg #[.func (.func fp) #[] #[],.func (.func fg) #[] #[],.func (.func fm) #[] #[]],.bool true]) (by rw [hc];rfl) (Zr 5 3 [] (Zag (CoV.cells cvZ) c4 fun k6 s3 c5=>⟨(opl (n:=[.holds (MapA ekU evC c3 cdL).holds,.cell ⟨a,13,none⟩ (.int .u8 x)]) (by kernel_rfl) (okh (c5.at_ 1 rfl) (okc (c5.cell 3 rfl (by kernel_rfl)) ok0))),(Zu 0 0 (CoV.cells (⟨(.func (.func fp) #[] #[]),(.func (.func fg) #[] #[]),(.func (.func fm) #[] #[])⟩:CoV)) c5 fun s4 k7=>Lo (Dz (Zr 10 1 [] (Zd (Zme [0,2,8,9,10,11,13,14] (k6,c3) k7)))))⟩)))⟩
    refine Zag (CoV.cells cvZ) c2 fun k8 s5 f6=>⟨(opl (n:=[.cell ⟨a,13,none⟩ (.int .u8 x)]) (by kernel_rfl) (okc (f6.cell 2 rfl (by kernel_rfl)) ok0)),(Zc (codecs_spec f6) ?_)⟩
    rintro s6 s7 ⟨f7,rfl,c6⟩
    exact⟨(opl (n:=[.cell ⟨a,13,none⟩ (.int .u8 x)]) (by kernel_rfl) (okc (c6.cell 3 rfl (by kernel_rfl)) ok0)),(GoR.lookup rfl (by kernel_rfl) cdLaw (r:=f7) (k:=x) (ok:=true) (by kernel_rfl) c6 0 rfl (z:=evC cvZ) (by kernel_rfl) (v:=.tuple #[.agg #[.func (.func fp) #[] #[],.func (.func fg) #[] #[],.func (.func fm) #[] #[]],.bool true]) (by rw [hc];rfl) (Zr 5 3 [] (Zu 1 0 (CoV.cells (⟨(.func (.func fp) #[] #[]),(.func (.func fg) #[] #[]),(.func (.func fm) #[] #[])⟩:CoV)) c6 fun s8 k9=>Lo (Dz (Zr 10 1 [] (Zd (Zme [0,2,8,9,10,11,13,14] (k8,f7) (((((((k9.pl 6).pl 6).pl 6).pl 6).pl 6).pl 5).pl 6))))))))⟩
   rintro⟨c7,f8⟩ l1 l2
   have b6:St w0 ((Cel c7 (CoV.cells (⟨(.func (.func fp) #[] #[]),(.func (.func fg) #[] #[]),(.func (.func fm) #[] #[])⟩:CoV)) 238)::(MapA ekU evC f8 cdL)::(Cel a0 #[.slice b3 a8.length b5,.bool a9] 150)::(Cel a (TMs.cells (⟨u,n,(vecF (valW (d,e)) 11),(⟨x,0,0,dRq,none,0,[],dD32⟩:TBd),t⟩:TMs)) 63)::(Sl o q 5 1 byteC b)::(Cel b4 (TMs.cells dMs) 63)::(Cel b1 (D32.cells t) 32)::L) l1:=l2
   refine GoQ.slots (S':=[(0,.int .i64 i),(2,.slice ad b.length cb),(8,zP b4 0),(9,.int .i64 0),(10,zP a0 0),(11,zP a 0),(13,zP c7 0),(14,.bool true)]) rfl (Zt (Zs (Zs (Zaj (Hl 4 3 0 b6 Hz) (Zt (Zqc (t:=(u:Int) != i) (fun c8=>?_) (fun c8=>?_)))))))
   ·refine En (Ls (Lg [1] (Lw (Zu 5 0 (TMs.cells dMs) b6 fun s9 f9=>Lz (Le (Ly (Dz (Zrv 5 (.int .i64 5) f9 ?_))))))))
    have l3:=St.slNil f9 143 2 TPr.cells
    have l4:=((((((((l3.pl 0).pl 7).pl 7).pl 7).pl 7).pl 7).pl 7).pl 7)
    exact⟨dMs,5,rfl,(ofM_err a2 ((congrArg byteP hp.2.1.symm).trans a4) (.inr (ineT c8))),dMs_ok,(l4.dr 7)⟩
   ·have a5:=ineF c8
    refine Zk (Zt (Zs (Zgj [4] (Hl 1 0 1 b6 Hz) (Zqa (f:=fg) (args:=#[zP a0 0,zP a 13]) C.cg (C.getM (Sl o q 5 1 byteC b) a8 a9 (fun w h=>h.at_ 2 rfl) k4 (by have:=byteP_rng a4;omega) ((b6.pl 3).pl 3)) ?_))))
    rintro t0 l7 ⟨c9,b7,a6,l8,l9,rfl,b8,m0,t1,m1⟩
    refine Lo (Ld (Lt (Ls (Ls (Dz ?_)))))
    obtain⟨mm,hmm⟩:∃ m:TMs,m=(⟨u,n,(vecF (valW (d,e)) 11),c9,t⟩:TMs):=⟨_,rfl⟩
    have m2:St w0 ((Cel a (TMs.cells mm) 63)::(Sl mm.bd.qa mm.bd.qc 143 2 TPr.cells mm.bd.ql)::(Cel a0 #[.slice l8 b7.length l9,.bool a6] 150)::(Cel c7 (CoV.cells (⟨(.func (.func fp) #[] #[]),(.func (.func fg) #[] #[]),(.func (.func fm) #[] #[])⟩:CoV)) 238)::(MapA ekU evC f8 cdL)::(Sl o q 5 1 byteC b)::(Cel b4 (TMs.cells dMs) 63)::(Cel b1 (D32.cells t) 32)::L) l7:=(by rw [hmm];exact m1)
    have hmo:MsOK mm:=by rw [hmm];exact⟨(by dsimp only;omega),hn,vecF_all _ 0 (fun k hk=>by have:=wordP_rng (s:=stW (d,e) k) (v:=valW (d,e) k) (s2:=(wordP (stW (d,e) k)).2) rfl;omega),m0,ht⟩
    refine En (Lg [1,5,10,12] (Lw (Zc1 (cutOk_spec b7 a6 (m2.pl 2)) fun t3 g0=>Lo (Dz (Zr 2 2 [] ?_)))))
    rcases Bool.eq_false_or_eq_true (!(!a6)) with a1|a1
    ·refine Zqs 61 true a1 (En (Lw (Zsk (En (Lw (Zsk (En (Lw (Zsk (En (Lud (Lt (LT (Ls (Lg [1] (Lw (Zu 6 0 (TMs.cells dMs) g0 fun t4 g5=>Lz (Le (Ly (Dz (Zrv 6 (.int .i64 5) g5 ?_)))))))))))))))))))))
     have m5:=St.slNil g5 143 2 TPr.cells
     have m6:=(((((((((m5.pl 0).pl 8).pl 8).pl 8).pl 8).pl 8).pl 8).pl 8).pl 8)
     exact⟨dMs,5,rfl,((ofM_in a2 ((congrArg byteP hp.2.1.symm).trans a4) hin a5 b8).trans (by simp only [];rw [if_pos (by simpa using a1)];rfl)),dMs_ok,(m6.dr 8)⟩
    ·refine Zqs 61 false a1 (En (Lw (Zc1 (cutLeft_spec b7 a6 g0) fun t6 d0=>Lo (Dz (Zr 6 3 [] (Zsd 66 ((b7.length:Int)>0) (fun m8=>?_) (fun m8=>?_)))))))
     ·refine En (Lw (Zsk (En (Lw (Zsk (En (Lud (Lt (LT (Ls (Lg [1] (Lw (Zu 6 0 (TMs.cells dMs) d0 fun t7 g7=>Lz (Le (Ly (Dz (Zrv 6 (.int .i64 5) g7 ?_)))))))))))))))))
      have m9:=St.slNil g7 143 2 TPr.cells
      have n0:=(((((((((m9.pl 0).pl 8).pl 8).pl 8).pl 8).pl 8).pl 8).pl 8).pl 8)
      exact⟨dMs,5,rfl,((ofM_in a2 ((congrArg byteP hp.2.1.symm).trans a4) hin a5 b8).trans (by simp only [];rw [if_neg (by simpa using a1),if_pos (by omega)];rfl)),dMs_ok,(n0.dr 8)⟩
     ·refine Zj (Hla 9 1 0 121 (TMs.cells mm) d0 Hz) (Zc (mbytes_spec mm hmo (fun w h=>h.rows 2 rfl (dPrF).size _) d0) ?_)
      rintro t8 t9 ⟨n2,n3,rfl,n4⟩
      refine Lo (Lw (Zqa (f:=83) (args:=#[.slice n2 ((byB mm).length) n3,.slice ad b.length cb]) Tryz.call83 (bytesEq_spec (byB mm) b (byB_byt hmo) hbb (fun w h=>h.rows 0 rfl (byteF).size _) (fun w h=>hr _ (h.drop 9)) n4) ?_))
      rintro u0 u1 ⟨rfl,d1⟩
      refine Lz (Dz (Zqc (t:=!(decide ((byB mm)=b))) (fun d2=>?_) (fun d2=>?_)))
      ·refine En (Ls (Lg [1] (Lw (Zu 7 0 (TMs.cells dMs) d1 fun u2 g8=>Lz (Le (Ly (Dz (Zrv 7 (.int .i64 5) g8 ?_))))))))
       have n5:=St.slNil g8 143 2 TPr.cells
       have hbm:byB ⟨u,n,vecF (valW (d,e)) 11,con c9,t⟩=byB mm:=by rw [hmm];rfl
       have n6:=((((((((((n5.pl 0).pl 9).pl 9).pl 9).pl 9).pl 9).pl 9).pl 9).pl 9).pl 9)
       exact⟨dMs,5,rfl,((ofM_in a2 ((congrArg byteP hp.2.1.symm).trans a4) hin a5 b8).trans (by simp only [];rw [if_neg (by simpa using a1),if_neg (by omega),hbm,if_neg (of_decide_eq_false (notT d2))];rfl)),dMs_ok,(n6.dr 9)⟩
      ·refine Zk (Zt (Zs (Zgj [1] (Hla 0 2 0 121 (TMs.cells mm) d1 Hz) (Zu 7 0 (TMs.cells mm) d1 fun u3 g9=>Lz (Le (Dz (Zrv 7 (.int .i64 0) g9 ?_)))))))
       have hbm:byB ⟨u,n,vecF (valW (d,e)) 11,con c9,t⟩=byB mm:=by rw [hmm];rfl
       have n8:=(((((((((g9.pl 3).pl 8).pl 8).pl 8).pl 8).pl 8).pl 8).pl 8).pl 8)
       exact⟨mm,0,rfl,((ofM_in a2 ((congrArg byteP hp.2.1.symm).trans a4) hin a5 b8).trans (by simp only [];rw [if_neg (by simpa using a1),if_neg (by omega),hbm,if_pos (of_decide_eq_true (notF d2))];rw [hmm];rfl)),hmo,(n8.dr 8)⟩
  ·have hc:=codec_no hno
   refine GoC.join (T:=Nat×Nat) (E:=fun jx=>[(0,.int .i64 i),(2,.slice ad b.length cb),(8,zP b4 0),(9,.int .i64 0),(10,zP a0 0),(11,zP a 0),(13,zP jx.1 0),(14,.bool false)]) (F:=fun jx w=>St w0 ((Cel jx.1 (CoV.cells cvZ) 238)::(MapA ekU evC jx.2 cdL)::(Cel a0 #[.slice b3 a8.length b5,.bool a9] 150)::(Cel a (TMs.cells (⟨u,n,(vecF (valW (d,e)) 11),(⟨x,0,0,dRq,none,0,[],dD32⟩:TBd),t⟩:TMs)) 63)::(Sl o q 5 1 byteC b)::(Cel b4 (TMs.cells dMs) 63)::(Cel b1 (D32.cells t) 32)::L) w) ?_ ?_
   ·refine GoC.regD [0,0,2,6,15,31,63,63,0,383,1023] (.rd 1 (.rd 2 (.rd 3 (.alt (.ef 0 (.rd 4 (.rd 5 (.rd 6 (.rd 7 (.ef 8 (.ef 9 (.rd 10 .done)))))))) (.ef 8 (.ef 0 (.rd 4 (.rd 5 (.rd 6 (.rd 7 (.ef 9 (.rd 10 .done)))))))))))) (by kernel_rfl) (by kernel_rfl) noPan_body (by kernel_rfl) f5 fun u4 d4 u5=>Zpj 1 3 (Hl 3 1 13 d4 Hz) (GoR.alt ?_ ?_)
    ·refine Zc (codecs_spec d4) ?_
     rintro u6 u7 ⟨d5,rfl,d6⟩
     exact⟨(opl (n:=[.cell ⟨a,13,none⟩ (.int .u8 x)]) (by kernel_rfl) (okc (d6.cell 2 rfl (by kernel_rfl)) ok0)),(GoR.lookup rfl (by kernel_rfl) cdLaw (r:=d5) (k:=x) (ok:=true) (by kernel_rfl) d6 0 rfl (z:=evC cvZ) (by kernel_rfl) (v:=.tuple #[.agg (CoV.cells cvZ),.bool false]) (by rw [hc];rfl) (Zr 5 3 [] (Zag (CoV.cells cvZ) d6 fun o0 u9 d7=>⟨(opl (n:=[.holds (MapA ekU evC d5 cdL).holds,.cell ⟨a,13,none⟩ (.int .u8 x)]) (by kernel_rfl) (okh (d7.at_ 1 rfl) (okc (d7.cell 3 rfl (by kernel_rfl)) ok0))),(Zu 0 0 (CoV.cells cvZ) d7 fun v0 o1=>Lo (Dz (Zr 10 1 [] (Zd (Zme [0,2,8,9,10,11,13,14] (o0,d5) o1)))))⟩)))⟩
    refine Zag (CoV.cells cvZ) d4 fun o2 v1 h0=>⟨(opl (n:=[.cell ⟨a,13,none⟩ (.int .u8 x)]) (by kernel_rfl) (okc (h0.cell 2 rfl (by kernel_rfl)) ok0)),(Zc (codecs_spec h0) ?_)⟩
    rintro v2 v3 ⟨h1,rfl,d8⟩
    exact⟨(opl (n:=[.cell ⟨a,13,none⟩ (.int .u8 x)]) (by kernel_rfl) (okc (d8.cell 3 rfl (by kernel_rfl)) ok0)),(GoR.lookup rfl (by kernel_rfl) cdLaw (r:=h1) (k:=x) (ok:=true) (by kernel_rfl) d8 0 rfl (z:=evC cvZ) (by kernel_rfl) (v:=.tuple #[.agg (CoV.cells cvZ),.bool false]) (by rw [hc];rfl) (Zr 5 3 [] (Zu 1 0 (CoV.cells cvZ) d8 fun v4 o3=>Lo (Dz (Zr 10 1 [] (Zd (Zme [0,2,8,9,10,11,13,14] (o2,h1) (((((((o3.pl 6).pl 6).pl 6).pl 6).pl 6).pl 5).pl 6))))))))⟩
   rintro⟨h2,o5⟩ o6 o7
   have o8:St w0 ((Cel h2 (CoV.cells cvZ) 238)::(MapA ekU evC o5 cdL)::(Cel a0 #[.slice b3 a8.length b5,.bool a9] 150)::(Cel a (TMs.cells (⟨u,n,(vecF (valW (d,e)) 11),(⟨x,0,0,dRq,none,0,[],dD32⟩:TBd),t⟩:TMs)) 63)::(Sl o q 5 1 byteC b)::(Cel b4 (TMs.cells dMs) 63)::(Cel b1 (D32.cells t) 32)::L) o6:=o7
   refine GoQ.slots (S':=[(0,.int .i64 i),(2,.slice ad b.length cb),(8,zP b4 0),(9,.int .i64 0),(10,zP a0 0),(11,zP a 0),(13,zP h2 0),(14,.bool false)]) rfl (En (Lt (Ls (Lq (LT (Ls (Lg [1] (Lw (Zu 5 0 (TMs.cells dMs) o8 fun v5 h3=>Lz (Le (Ly (Dz (Zrv 5 (.int .i64 5) h3 ?_)))))))))))))
   have o9:=St.slNil h3 143 2 TPr.cells
   have p0:=((((((((o9.pl 0).pl 7).pl 7).pl 7).pl 7).pl 7).pl 7).pl 7)
   exact⟨dMs,5,rfl,(ofM_err a2 ((congrArg byteP hp.2.1.symm).trans a4) (.inl hno)),dMs_ok,(p0.dr 7)⟩
def getM (l:List Int):TMs×Int :=
 if l.length≤40 then (dMs,5) else
 let w:=wordP (l,false)
 let o:=tk (l.length-40) w.2
 let h:=hashP o.2
 ofM (o.1.getD 0 0) w.1 o.1 h.1
theorem wordP_ok {r:List Int}(h:8≤r.length):wordP (r,false)=(numB (r.take 8),(r.drop 8,false)):=by
 unfold wordP numP
 rw [tk_ok rfl h]
theorem getM_eq {l r1 o r2 r3:List Int}{n:Int}{p1 p2 p3:Bool}{d:D32}(hl:¬ l.length≤40) (h1:wordP (l,false)=(n,(r1,p1))) (h2:tk (l.length-40) (r1,p1)=(o,(r2,p2))) (h3:hashP (r2,p2)=(d,(r3,p3))):getM l=ofM (o.getD 0 0) n o d:=by
 unfold getM
 simp only [if_neg hl,h1,h2,h3]
theorem own_len {l r1 o r2:List Int}{n:Int}{p1 p2:Bool}(hl:40<l.length) (h1:wordP (l,false)=(n,(r1,p1))) (h2:tk (l.length-40) (r1,p1)=(o,(r2,p2))):o.length=l.length-40∧o=(l.drop 8).take (l.length-40):=by
 rw [wordP_ok (by omega)] at h1
 simp only [Prod.mk.injEq] at h1
 obtain⟨-,rfl,rfl⟩:=h1
 rw [tk_ok rfl (by rw [List.length_drop];omega)] at h2
 simp only [Prod.mk.injEq] at h2
 obtain⟨rfl,-⟩:=h2
 exact⟨by rw [List.length_take,List.length_drop];omega,rfl⟩
theorem mget_spec (l) (hbl:l.length≤100000) (hlb:∀ z∈l,0≤z∧z<256) (hr:Rw w0 L byteC 1 0 ad l) (hs:St w0 (L) w):Cs Tryz.prog 108 #[.slice ad l.length cb] w fun rv w'=>∃ mm2 ee2,rv=.tuple #[.agg (TMs.cells mm2),.int .i64 ee2]∧getM l=(conM mm2,ee2)∧MsOK mm2∧St w0 ((Sl mm2.bd.qa mm2.bd.qc 143 2 TPr.cells mm2.bd.ql)::L) w':=by
 refine Zen Tryz.func108 Tryz.ntmps108 (En (Ls (Lg [0] (Dz (Zag (TMs.cells dMs) hs fun b1 w2 u=>Lz (Ls (Dz (Zaj (Hwi 2 ((l.length:Nat)-32) Hz) (En (Lt (Ls (Lq (Dz (Zi (((l.length:Nat)-32:Int)≤8) (fun b2=>?_) (fun b2=>?_)))))))))))))))
 ·have hlen:l.length≤40:=by omega
  refine En (Ls (Lg [1] (Lw (Zu 0 0 (TMs.cells dMs) u fun w5 x=>Lz (Le (Ly (Dz (Zrv 0 (.int .i64 5) x ?_))))))))
  have b3:=St.slNil x 143 2 TPr.cells
  have b4:=((b3.pl 0).pl 1)
  exact⟨dMs,5,rfl,(if_pos hlen),dMs_ok,(b4.dr 1)⟩
 ·have hlen:40<l.length:=by omega
  have hsome:Som ad cb:=by obtain⟨b,off,rfl⟩:=RowsAt.isSome (hr _ hs) (by omega);exact .inl ⟨b,off,rfl⟩
  refine En (Lk (Lt (Ls (Lg [1] (Lw (Zc (cutNew_spec l (by omega) hsome (fun w h=>hr _ (h.drop 1)) u) ?_))))))
  rintro d3 d4 ⟨d5,i,o,rfl,a0⟩
  have b6:CutOK (Sl i o 5 1 byteC l) i l o:=CutOK.new a0 (j:=1) rfl hlb (by omega)
  refine Lz (Ls (Lg [1] (Lw (Zc (cutWord_spec (Sl i o 5 1 byteC l) l false (fun w h=>h.at_ 0 rfl) b6 a0) ?_))))
  rintro d6 d7 ⟨a1,b7,b8,d8,d9,rfl,q,e0,b9,c0⟩
  refine Lz (Ls (Dz (Zgj [3] (Hg 2 (.as_ (.int .i64 (l.length-40:Nat)) (.gen [])) [.prop (Value.int .i64 (IntKind.i64.wrap (((l.length:Nat)-32)-8))=Value.int .i64 (l.length-40:Nat))] (okp (i64eq (by omega) (by omega) (by omega)) ok0) Hz) (Zc (cutRaw_spec (Sl i o 5 1 byteC l) b7 b8 (l.length-40) (fun w h=>h.at_ 0 rfl) b9 c0) ?_))))
  rintro e1 e2 ⟨e3,c1,a,c2,c3,e4,e5,rfl,a2,c4,a3⟩
  refine Lz (Ls (Dz ?_))
  have hown:=own_len hlen q a2
  have a4:∀ z∈a,0≤z∧z<256:=by rw [hown.2];exact fun z hz=>hlb z (List.mem_of_mem_drop (List.mem_of_mem_take hz))
  have e6:=a4 _ (getD_mem (d:=(0:Int)) (k:=0) (by omega))
  obtain⟨e,rfl⟩:=Sl.isSome (a3.at_ 0 rfl) (by omega)
  refine ZD (rds [0,1,2,3,4,5,6] (.ef 7 (.ef 8 (rds [9,10] (.ef 11 (.rd 12 .done)))))) a3 fun e7 a5 e8=>Zj (Hx 1 (0:Int) (a.length:Int) e 0 1 (Hg 2 (.gen [.int .u8 (a.getD 0 (0:Int))]) [.cell ⟨e,0,none⟩ (.int .u8 (a.getD 0 (0:Int)))] (okc (RowsAt.at0 (a5.rows 0 rfl (byteF).size (0:Int)) (k:=0) (by first|omega|(simp only [List.length_set];omega)|(simp only [List.length_set,lA,lC,lN];omega)) (j:=0) (by decide) (by kernel_rfl)) ok0) (Hwi 3 (a.getD 0 (0:Int)) Hz))) (Zc (hash_spec (Sl i o 5 1 byteC l) c2 c3 (fun w h=>h.at_ 1 rfl) c4 (a5.pl 1)) ?_)
  rintro e9 f0 ⟨a6,f1,f2,f3,f4,rfl,c6,c7,f5,a7⟩
  refine⟨(opl (n:=[.prop (Value.int .i64 (IntKind.i64.wrap (a.getD 0 (0:Int)))=Value.int .i64 (a.getD 0 (0:Int))),.cell ⟨e,0,none⟩ (.int .u8 (a.getD 0 (0:Int))),.prop (0≤(0:Int)∧(0:Int)<(a.length:Int)),.prop (Value.pointer (some (Addr.add ⟨e,0,none⟩ (Int.toNat 0*1)))=Value.pointer (some ⟨e,0,none⟩))]) (by kernel_rfl) (okp (i64ok (by omega) (by omega)) (okc (RowsAt.at0 (a7.rows 1 rfl (byteF).size (0:Int)) (k:=0) (by first|omega|(simp only [List.length_set];omega)|(simp only [List.length_set,lA,lC,lN];omega)) (j:=0) (by decide) (by kernel_rfl)) (okp (by omega) (okp (ptrAdd _ _ _) ok0))))),(Zqa (f:=147) (args:=#[.int .i64 (a.getD 0 (0:Int)),.int .u64 a1,zL e 0 a.length c1,.agg (D32.cells a6)]) Tryz.call147 (of_spec (a.getD 0 (0:Int)) a1 a a6 (by omega) (by omega) a4 (by have:=wordP_rng q;omega) c7 (fun w h=>h.rows 1 rfl (byteF).size _) a7) ?_)⟩
  rintro f6 f7 ⟨a8,a9,rfl,c8,c9,d0⟩
  refine Lo (Lw (Zu 4 0 (TMs.cells a8) d0 fun f8 b0=>Lz (Le (Dz (Zrv 4 (.int .i64 a9) b0 ?_)))))
  have d1:=(((((b0.pl 0).pl 4).pl 4).pl 4).pl 4)
  exact⟨a8,a9,rfl,((getM_eq (by omega) q a2 c6).trans c8),c9,(d1.dr 4)⟩
end
section
variable {w0 w : World} {L : List Asn} {ad : Option Addr} {c : Nat}
theorem numbers_spec {p:Nat}(hs:St w0 (L) w):Cs Tryz.prog 51 #[zP p 0] w fun rv w'=>∃ b,rv=zL b 0 5 5∧St w0 ((Cel b #[zP p 1,zP p 2,zP p 3,zP p 4,zP p 5] 110)::L) w':=by
 exact Zen Tryz.func51 Tryz.ntmps51 (En (Lq (Ls (Dz (ZD (rds [0,1,2,3,4,5,6,7,8,9,10,11,12,13,14] (.ef 15 (.rd 16 .done))) hs fun i d o=>En (Lw (GoR.sliceLit rfl (by kernel_rfl) (t:=111) (e:=110) (n:=5) (ps:=[(0,zP p 1),(1,zP p 2),(2,zP p 3),(3,zP p 4),(4,zP p 5)]) (by kernel_rfl) (by kernel_rfl) (ti:=Tryz.t110) (z:=.pointer none) (by kernel_rfl) (by kernel_rfl) (by decide) (by decide) (cs:=#[zP p 1,zP p 2,zP p 3,zP p 4,zP p 5]) (by kernel_rfl) d fun a q f u=>Lz (Le (Dz (Zq1 (v:=zL a 0 5 5) ⟨a,rfl,f⟩))))))))))
def ptC (x:Nat×Nat):Array Value:=#[zP x.1 x.2]
theorem ptF:CellF ptC 1:=⟨fun _=>rfl,fun _=>rfl⟩
theorem ptsOK:ElemOK Tryz.prog 130 133 1 8:=⟨by kernel_rfl,⟨Tryz.t133,.pointer none,by kernel_rfl,by kernel_rfl,by kernel_rfl,by kernel_rfl,by kernel_rfl⟩,by decide⟩
theorem texts_spec {p:Nat}(hs:St w0 (L) w):Cs Tryz.prog 53 #[zP p 6] w fun rv w'=>∃ b,rv=zL b 0 4 4∧St w0 ((Sl (some ⟨b,0,none⟩) 4 133 1 ptC ([((p,7):Nat×Nat),((p,8):Nat×Nat),((p,9):Nat×Nat),((p,10):Nat×Nat)]))::L) w':=by
 exact Zen Tryz.func53 Tryz.ntmps53 (En (Lq (Ls (Dz (ZD (rds [0,1,2,3,4,5,6,7,8,9,10,11] (.ef 12 (.rd 13 .done))) hs fun f d i=>En (Lw (Zll ptsOK ptF [((p,7):Nat×Nat),((p,8):Nat×Nat),((p,9):Nat×Nat),((p,10):Nat×Nat)] d fun a o e=>Lz (Le (Dz (Zq1 (v:=zL a 0 4 4) ⟨a,rfl,e⟩))))))))))
def withinB (n:Int) (a:Int) (b:Int):Bool :=
 (decide ((n:Int) ≥ a)) && (decide ((n:Int)≤b))
theorem within_spec (n) (a) (b) (hs:St w0 (L) w):Cs Tryz.prog 52 #[.int .i64 n,.int .i64 a,.int .i64 b] w fun rv w'=>rv=.bool (withinB n a b)∧St w0 (L) w':=by
 refine Zen Tryz.func52 Tryz.ntmps52 (En (Lq (Ls (Dz (GoC.join (T:=Unit) (E:=fun _=>[(6,.bool ((decide ((n:Int) ≥ a)) && (decide ((n:Int)≤b))))]) (F:=fun _ w=>St w0 (L) w) ?_ ?_)))))
 ·refine Zg [] (Zr 0 4 [] (Zsq 10 (decide ((n:Int) ≥ a)) (fun d=>?_) (fun d=>?_)))
  ·exact En (Lud (Dz (Zmb [6] () (decide ((n:Int)≤b)) (by first|rfl|simp [Hb,d]) hs)))
  ·exact En (Lud (Dz (Zmb [6] () false (by first|rfl|simp [Hb,d]) hs)))
 intro _ i e
 exact Zt (Ze (Zq1 (v:=.bool ((decide ((n:Int) ≥ a)) && (decide ((n:Int)≤b)))) (Zfb (by rw [withinB]) e)))
def emptyB (p:TPk):Bool :=
 if ((p.fr:Int) == 0)=true then
  if ((p.tw:Int) == 0)=true then
   if (decide (p.kn=dVc))=true then
    (p.ml.length:Int) == 0
   else
    false
  else
   false
 else
  false
theorem empty_spec (p) (hs:St w0 (L) w):Cs Tryz.prog 56 #[.agg (TPk.cells p)] w fun rv w'=>rv=.bool (emptyB p)∧St w0 (L) w':=by
 refine Zen Tryz.func56 Tryz.ntmps56 (En (Ls (Lg [0] (Dz (Zbg (TPk.cells p) hs fun x w2 a=>Lz (Ls (Lg [] (Dz (Zpj 0 4 (Hl 1 0 0 a Hz) (Zsq 6 ((p.fr:Int) == 0) (fun d=>?_) (fun d=>?_)))))))))))
 ·refine Zpj 4 5 (Hl 5 0 1 a Hz) (Zsq 11 ((p.tw:Int) == 0) (fun e=>?_) (fun e=>?_))
  ·refine Zp 9 3 [(10,.agg (VecD.cells p.kn))] [(10,[.prop (Array.size (VecD.cells p.kn)=11),.cells ⟨x,2,none⟩ (VecD.cells p.kn)])] (ak (okp (by kernel_rfl) (oka (a.cells 0 2 rfl (by kernel_rfl)) ok0)) ak0) (GoR.eqAgg rfl (by kernel_rfl) (b:=true) (t:=39) (xs:=VecD.cells p.kn) (ys:=VecD.cells dVc) (m:=2) (by kernel_rfl) (by kernel_rfl) (by decide) (by kernel_rfl) (r:=decide (p.kn=dVc)) (aggEq  (vecEq p.kn dVc)) (Zr 13 2 [] (Zsq 17 (decide (p.kn=dVc)) (fun f=>?_) (fun f=>?_))))
   ·exact Zjd (Hl 16 0 13 a Hz) (Zt (Ze (Zq1 (v:=.bool ((p.ml.length:Int) == 0)) (Zfb (by rw [emptyB,if_pos d,if_pos e,if_pos f]) (a.dr 1)))))
   ·exact En (Lud (Lt (Le (Dz (Zq1 (v:=.bool false) (Zfb (by rw [emptyB,if_pos d,if_pos e,nI f]) (a.dr 1)))))))
  ·exact En (Lud (Lt (Le (Dz (Zq1 (v:=.bool false) (Zfb (by rw [emptyB,if_pos d,nI e]) (a.dr 1)))))))
 ·exact En (Lud (Lt (Le (Dz (Zq1 (v:=.bool false) (Zfb (by rw [emptyB,nI d]) (a.dr 1)))))))
def noneB (x:TBd):Bool :=
 if ((x.kd:Int) == 0)=true then
  if ((x.vw:Int) == 0)=true then
   if ((x.k:Int) == 0)=true then
    if (decide (x.rq=dRq))=true then
     if ((x.ql.length:Int) == 0)=true then
      decide (x.dg=dD32)
     else
      false
    else
     false
   else
    false
  else
   false
 else
  false
theorem none_spec (x) (hs:St w0 (L) w):Cs Tryz.prog 57 #[.agg (TBd.cells x)] w fun rv w'=>rv=.bool (noneB x)∧St w0 (L) w':=by
 refine Zen Tryz.func57 Tryz.ntmps57 (En (Ls (Lg [0] (Dz (Zbg (TBd.cells x) hs fun q w2 a=>Lz (Ls (Lg [] (Dz (Zpj 0 4 (Hl 1 0 0 a Hz) (Zsq 6 ((x.kd:Int) == 0) (fun d=>?_) (fun d=>?_)))))))))))
 ·refine Zpj 4 5 (Hl 5 0 1 a Hz) (Zsq 11 ((x.vw:Int) == 0) (fun e=>?_) (fun e=>?_))
  ·refine Zpj 9 5 (Hl 10 0 2 a Hz) (Zsq 16 ((x.k:Int) == 0) (fun f=>?_) (fun f=>?_))
   ·refine Zp 14 3 [(15,.agg (TRq.cells x.rq))] [(15,[.prop (Array.size (TRq.cells x.rq)=40),.cells ⟨q,3,none⟩ (TRq.cells x.rq)])] (ak (okp (by kernel_rfl) (oka (a.cells 0 3 rfl (by kernel_rfl)) ok0)) ak0) (GoR.eqAgg rfl (by kernel_rfl) (b:=true) (t:=34) (xs:=TRq.cells x.rq) (ys:=TRq.cells dRq) (m:=3) (by kernel_rfl) (by kernel_rfl) (by decide) (by kernel_rfl) (r:=decide (x.rq=dRq)) (aggEq  (rqEq x.rq dRq)) (Zr 18 2 [] (Zsq 22 (decide (x.rq=dRq)) (fun i=>?_) (fun i=>?_))))
    ·refine Zpj 20 6 (Hl 21 0 43 a Hz) (Zsq 28 ((x.ql.length:Int) == 0) (fun o=>?_) (fun o=>?_))
     ·exact Zp 26 3 [(27,.agg (D32.cells x.dg))] [(27,[.prop (Array.size (D32.cells x.dg)=32),.cells ⟨q,44,none⟩ (D32.cells x.dg)])] (ak (okp (by kernel_rfl) (oka (a.cells 0 44 rfl (by kernel_rfl)) ok0)) ak0) (GoR.eqAgg rfl (by kernel_rfl) (b:=true) (t:=32) (xs:=D32.cells x.dg) (ys:=D32.cells dD32) (m:=2) (by kernel_rfl) (by kernel_rfl) (by decide) (by kernel_rfl) (r:=decide (x.dg=dD32)) (aggEq  (digEq x.dg dD32)) (En (Lud (Lt (Le (Dz (Zq1 (v:=.bool (decide (x.dg=dD32))) (Zfb (by rw [noneB,if_pos d,if_pos e,if_pos f,if_pos i,if_pos o]) (a.dr 1)))))))))
     ·exact En (Lud (Lt (Le (Dz (Zq1 (v:=.bool false) (Zfb (by rw [noneB,if_pos d,if_pos e,if_pos f,if_pos i,nI o]) (a.dr 1)))))))
    ·exact En (Lud (Lt (Le (Dz (Zq1 (v:=.bool false) (Zfb (by rw [noneB,if_pos d,if_pos e,if_pos f,nI i]) (a.dr 1)))))))
   ·exact En (Lud (Lt (Le (Dz (Zq1 (v:=.bool false) (Zfb (by rw [noneB,if_pos d,if_pos e,nI f]) (a.dr 1)))))))
  ·exact En (Lud (Lt (Le (Dz (Zq1 (v:=.bool false) (Zfb (by rw [noneB,if_pos d,nI e]) (a.dr 1)))))))
 ·exact En (Lud (Lt (Le (Dz (Zq1 (v:=.bool false) (Zfb (by rw [noneB,nI d]) (a.dr 1)))))))
theorem carrier_spec (x) (hs:St w0 (L) w):Cs Tryz.prog 55 #[.agg (TBd.cells x)] w fun rv w'=>rv=.agg (TMs.cells (⟨1,1,dVc,x,dD32⟩:TMs))∧St w0 (L) w':=by
 exact Zen Tryz.func55 Tryz.ntmps55 (En (Ls (Lg [0,1] (Dz (Zbg (TBd.cells x) hs fun f i d=>Lo (Dz (Zag (TMs.cells dMs) d fun o q a=>Lo (Ld (Lt (Ls (Dz (Zgj [2] (Hla 0 1 0 76 (TBd.cells x) a Hz) (Zu 0 0 (TMs.cells (⟨1,1,dVc,x,dD32⟩:TMs)) a fun u b=>Lo (Ld (Lt (Le (Dz (Zra 0 b ⟨rfl,(b.dr 2)⟩))))))))))))))))))
theorem packed1_spec (m) (hm:MsOK m) (hr:Rw w0 L TPr.cells 2 dPr m.bd.qa m.bd.ql) (hs:St w0 (L) w):Cs Tryz.prog 93 #[.agg (TMs.cells m)] w fun rv w'=>rv=.bool (!mayM m)∧St w0 (L) w':=by
 exact Zen Tryz.func93 Tryz.ntmps93 (En (Ls (Lg [0] (Dz (Zbg (TMs.cells m) hs fun e f a=>Lz (Ls (Dz (Zgj [1] (Hla 0 0 0 121 (TMs.cells m) a Hz) (Zc1 (may_spec m hm (fun w h=>hr _ (h.drop 1)) a) fun o b=>Lz (Le (Dz (Zq1 (v:=.bool (!(mayM m))) ⟨rfl,(b.dr 1)⟩))))))))))))
theorem index_spec (l) (hms:∀ k,k<l.length→MsOK (l.getD k dMs)∧Rw w0 L TPr.cells 2 dPr (l.getD k dMs).bd.qa (l.getD k dMs).bd.ql) (hll:l.length≤1000) (hr:Rw w0 L TMs.cells 121 dMs ad l) (hs:St w0 (L) w):Cs Tryz.prog 124 #[.slice ad l.length c,.func (.func 93) #[] #[]] w fun rv w'=>∃ v,rv=.int .i64 v∧decide (v ≥ 0)=(l.any fun m=>!mayM m)∧St w0 (L) w':=by
 refine Zen Tryz.func124 Tryz.ntmps124 (En (Lq (Ls (Lq (Lb (Dz (GoC.loop (T:=Nat×(Option Addr)) (fun gg=>[(0,.slice gg.2 l.length c),(1,.func (.func 93) #[] #[]),(7,.int .i64 (l.length:Nat)),(8,.int .i64 (gg.1:Nat))]) (fun gg w=>(gg.1≤l.length∧((l.take gg.1).any fun m=>!mayM m)=false∧∀ w,St w0 L w→RowsAt w gg.2 l.length 121 (fun q=>TMs.cells (l.getD q dMs)))∧St w0 (L) w) (fun gg=>l.length-gg.1) (0,ad) [0,1,7,8] (by kernel_rfl) ⟨⟨Nat.zero_le _,rfl,hr⟩,hs⟩ ?_)))))))
 rintro⟨k,aq⟩ u ⟨hp,a⟩
 dsimp only at hp a
 have hw:=hp.2.2
 refine En (Lq (Ls (Dz (Zi ((k:Int)<(l.length:Nat)) (fun o=>?_) (fun o=>?_)))))
 ·have hk:k<l.length:=by omega
  obtain⟨b,e,rfl⟩:=RowsAt.isSome (hw _ (a.drop 0)) (by omega)
  refine En (Lk (Lt (Ls (Lb (Lq (Ls (Dz (Zgj [5] (Hx 3 (k:Int) (l.length:Int) b e 121 (Hg 4 (.agg (TMs.cells (l.getD k dMs))) [.prop (Array.size (TMs.cells (l.getD k dMs))=121),.cells ⟨b,e+(k*121),none⟩ (TMs.cells (l.getD k dMs))] (okp (by kernel_rfl) (oka (RowsAt.all0 (hw _ (a.drop 0)) (by first|omega|(simp only [List.length_set];omega)|(simp only [List.length_set,lA,lC,lN];omega)) (Nat.le_of_ble_eq_true (by kernel_rfl)) (by kernel_rfl)) ok0)) Hz)) (Zc1 (packed1_spec (l.getD k dMs) (hms k hk).1 (fun w h=>(hms k hk).2 w (h.drop 0)) a) fun z i=>Lo (Ld (Lt (Dz (Zqc (t:=!mayM (l.getD k dMs)) (fun f=>?_) (fun f=>?_))))))))))))))
  ·exact En (Lq (Le (Ll (Ly (LsR (Ll (Ly (Dz (Zq1 (v:=.int .i64 (k:Nat)) ⟨(k:Nat),rfl,(by rw [show(l.any fun m=>!mayM m)=true from List.any_eq_true.2 ⟨_,getD_mem (d:=dMs) hk,f⟩];exact decide_eq_true (by omega)),i⟩)))))))))
  ·exact Zk (Zm (Zt (Zaj (Hwi 0 ((k:Nat)+1) Hz) (GoQ.back (k+1,some ⟨b,e,none⟩) [0,1,7,8] (by kernel_rfl) (by show l.length-(k+1)<l.length-k;omega) ⟨⟨by omega,by rw [take_succ_getD (d:=dMs) hk,List.any_append,hp.2.1];simp only [List.any_cons,List.any_nil,Bool.or_false,Bool.false_or];exact f,hw⟩,i⟩))))
 ·have hke:l.take k=l:=List.take_of_length_le (by omega)
  exact En (Lx (LsC (LsL (Lh (Lt (Lq (Le (Dz (Zq1 (v:=.int .i64 (-1)) ⟨(-1),rfl,(by rw [← hke,hp.2.1];rfl),a⟩)))))))))
theorem contains_spec (l) (hms:∀ k,k<l.length→MsOK (l.getD k dMs)∧Rw w0 L TPr.cells 2 dPr (l.getD k dMs).bd.qa (l.getD k dMs).bd.ql) (hll:l.length≤1000) (hr:Rw w0 L TMs.cells 121 dMs ad l) (hs:St w0 (L) w):Cs Tryz.prog 92 #[.slice ad l.length c,.func (.func 93) #[] #[]] w fun rv w'=>rv=.bool (l.any fun m=>!mayM m)∧St w0 (L) w':=by
 refine Zen Tryz.func92 Tryz.ntmps92 (En (Lq (Ls (Lg [2] (Lw (Zqa (f:=124) (args:=#[.slice ad l.length c,.func (.func 93) #[] #[]]) Tryz.call124 (index_spec l (fun k hk=>⟨(hms k hk).1,fun w h=>(hms k hk).2 w (h.drop 0)⟩) (by first|assumption|omega) (fun w h=>hr _ (h.drop 0)) hs) ?_))))))
 rintro e i ⟨a,rfl,b,d⟩
 exact Lz (Le (Dz (Zq1 (v:=.bool (decide ((a:Int) ≥ 0))) ⟨(congrArg Value.bool b),d⟩)))
def packedB (p:TPk):Bool :=
 if (withinB p.fr 0 255)=true then
  if (withinB p.tw 0 255)=true then
   if (decide ((p.ml.length:Int)≤8))=true then
    !(p.ml.any fun m=>!mayM m)
   else
    false
  else
   false
 else
  false
theorem packed_spec (p) (hms:∀ k,k<p.ml.length→MsOK (p.ml.getD k dMs)∧Rw w0 L TPr.cells 2 dPr (p.ml.getD k dMs).bd.qa (p.ml.getD k dMs).bd.ql) (hr:Rw w0 L TMs.cells 121 dMs p.ma p.ml) (hs:St w0 (L) w):Cs Tryz.prog 58 #[.agg (TPk.cells p)] w fun rv w'=>rv=.bool (packedB p)∧St w0 (L) w':=by
 refine Zen Tryz.func58 Tryz.ntmps58 (En (Ls (Lg [0] (Dz (Zbg (TPk.cells p) hs fun b1 w2 o=>Lz (Ls (Dz (Zgj [2,6,17] (Hl 1 0 0 o Hz) (Zc1 (within_spec p.fr 0 255 o) fun w6 i=>Lo (Dz (Zr 3 1 [] (Zsq 6 (withinB p.fr 0 255) (fun a=>?_) (fun a=>?_)))))))))))))
 ·refine Zj (Hl 5 0 1 i Hz) (Zc1 (within_spec p.tw 0 255 i) fun a2 b=>Lo (Dz (Zr 7 2 [] (Zsq 11 (withinB p.tw 0 255) (fun e=>?_) (fun e=>?_)))))
  ·refine Zpj 9 6 (Hl 10 0 13 b Hz) (Zsq 17 (decide ((p.ml.length:Int)≤8)) (fun d=>?_) (fun d=>?_))
   ·have a0:=of_decide_eq_true d
    refine Zj (Hl 16 0 13 b Hz) (Zqa (f:=92) (args:=#[.slice p.ma p.ml.length p.mc,.func (.func 93) #[] #[]]) Tryz.call92 (contains_spec p.ml (fun k hk=>⟨(hms k hk).1,fun w h=>(hms k hk).2 w (h.drop 1)⟩) (by first|assumption|omega) (fun w h=>hr _ (h.drop 1)) b) ?_)
    rintro a3 a4 ⟨rfl,a1⟩
    exact Lz (Le (Dz (Zq1 (v:=.bool (!(p.ml.any fun m=>!mayM m))) (Zfb (by rw [packedB,if_pos a,if_pos e,if_pos d]) (a1.dr 1)))))
   ·exact En (Lw (Zsk (En (Lud (Lt (Le (Dz (Zq1 (v:=.bool false) (Zfb (by rw [packedB,if_pos a,if_pos e,nI d]) (b.dr 1))))))))))
  ·exact En (Lw (Zsk (En (Lud (Lt (Le (Dz (Zq1 (v:=.bool false) (Zfb (by rw [packedB,if_pos a,nI e]) (b.dr 1))))))))))
 ·exact En (Lw (Zsk (En (Lw (Zsk (En (Lud (Lt (Le (Dz (Zq1 (v:=.bool false) (Zfb (by rw [packedB,nI a]) (i.dr 1)))))))))))))
structure StOK (s:TSt):Prop where
 dw:0≤s.dw∧s.dw≤255
 cl:-9223372036854775808≤s.cl∧s.cl≤9223372036854775807
 wh:-9223372036854775808≤s.wh∧s.wh≤9223372036854775807
 j:-9223372036854775808≤s.j∧s.j≤9223372036854775807
 k:-9223372036854775808≤s.k∧s.k≤9223372036854775807
 n:-9223372036854775808≤s.n∧s.n≤9223372036854775807
 kd:0≤s.op.kd∧s.op.kd≤255
 am:0≤s.op.am∧s.op.am≤18446744073709551615
 bd:BdOK s.bd
 kn:∀ x∈s.pk.kn.toList,0≤x∧x≤18446744073709551615
 tm:0≤s.tm∧s.tm≤18446744073709551615
 at_:0≤s.at_∧s.at_≤18446744073709551615
 pl:∀ z∈s.pl,0≤z∧z<256
 pn:s.pa=none→s.pc=0
theorem car_ok {x:TBd}(h:BdOK x):MsOK ⟨1,1,dVc,x,dD32⟩:=⟨(by dsimp only;decide),(by dsimp only;decide),(fun x hx=>(by decide:∀ x∈dVc.toList,0≤x∧x≤18446744073709551615) x hx),h,dD32_ok⟩
def mayS (s:TSt):Bool :=
 if (!(withinB s.cl (-1) 2147483647))=true then
  false
 else
  if (!(withinB s.wh (-1) 2147483647))=true then
   false
  else
   if (!(withinB s.j (-1) 2147483647))=true then
    false
   else
    if (!(withinB s.k (-1) 2147483647))=true then
     false
    else
     if (decide ((s.op.ky.size:Int)>255))=true then
      false
     else
      if (decide ((s.op.va.size:Int)>255))=true then
       false
      else
       if (decide ((s.op.ol.size:Int)>255))=true then
        false
       else
        if (decide ((s.op.tx.size:Int)>255))=true then
         false
        else
         if (decide ((s.re.vl.size:Int)>255))=true then
          false
         else
          if (decide ((s.dw:Int)<1))=true then
           false
          else
           if (decide ((s.dw:Int)>16))=true then
            false
           else
            if (!(withinB s.n (-1) 1099511627776))=true then
             false
            else
             if (!(withinB s.re.er 0 255))=true then
              false
             else
              if (decide ((s.pl.length:Int)>255))=true then
               false
              else
               if ((s.dw:Int) == 14)=true then
                if (mayM (⟨1,1,dVc,s.bd,dD32⟩:TMs))=true then
                 emptyB s.pk
                else
                 false
               else
                if ((s.dw:Int) == 16)=true then
                 if (noneB s.bd)=true then
                  packedB s.pk
                 else
                  false
                else
                 if (noneB s.bd)=true then
                  emptyB s.pk
                 else
                  false
theorem mayS_spec (s) (hs_:StOK s) (hms:∀ k,k<s.pk.ml.length→MsOK (s.pk.ml.getD k dMs)∧Rw w0 L TPr.cells 2 dPr (s.pk.ml.getD k dMs).bd.qa (s.pk.ml.getD k dMs).bd.ql) (hr1:Rw w0 L TPr.cells 2 dPr s.bd.qa s.bd.ql) (hr2:Rw w0 L TMs.cells 121 dMs s.pk.ma s.pk.ml) (hr3:Rw w0 L byteC 1 0 s.pa s.pl) (hs:St w0 (L) w):Cs Tryz.prog 31 #[.agg (TSt.cells s)] w fun rv w'=>rv=.bool (mayS s)∧St w0 (L) w':=by
 refine Zen Tryz.func31 Tryz.ntmps31 (En (Ls (Lg [0] (Dz (Zbg (TSt.cells s) hs fun b w2 e5=>Lz (Ls (Ls (Lg [0] (Dz (Zqa (f:=51) (args:=#[zP b 0]) Tryz.call51 (numbers_spec e5) ?_))))))))))
 rintro v6 w7 ⟨b4,rfl,b6⟩
 refine Zojd (Hg 1 (.as_ (zL b4 0 4 5) (.sub 0 4)) [.prop ((4:Int)=((4:Nat):Int)),.prop (((none:Option Operand)=none→(0:Nat)=0)∧(some (Operand.const (.int .i64 4))=none→(4:Nat)=5)∧(0:Nat)≤4∧(4:Nat)≤5),.prop (Value.slice (if 5=0 then (some ⟨b4,0,none⟩) else ((some ⟨b4,0,none⟩):Option Addr).map (fun a=>a.add (0*1))) (4-0) (5-0)=Value.slice (some ⟨b4,0,none⟩) 4 5)] (okp (by omega) (okp ⟨(by first|(intro _;rfl)|(intro hc;cases hc)),(by first|(intro _;rfl)|(intro hc;cases hc)),(by omega),(by omega)⟩ (okp (subSl0 rfl) ok0))) Hz) (Zt (Zb (GoC.unroll 12 (En (Lq (Ls (LT (Lk (Lt (Ls (Lb (Ls (Dz (Zaj (Hx 0 (0:Int) (4:Int) b4 0 1 (Hl 1 0 0 b6 Hz)) (Zt (Zs (Zgj [3] (Hl 2 1 1 b6 Hz) (Zc1 (within_spec s.cl (-1) 2147483647 b6) fun g9 b2=>Lz (Dz (Zqc (t:=!(withinB s.cl (-1) 2147483647)) (fun d=>?_) (fun d=>?_)))))))))))))))))))))
 ·exact En (Lq (Le (Ll (Ly (LsR (Ll (Ly (Dz (Zq1 (v:=.bool false) (Zfb (by rw [mayS,if_pos d]) (b2.dr 2)))))))))))
 ·refine En (Lk (Lm (Lt (La (Dz (GoQ.again (En (Lq (Ls (LT (Lk (Lt (Ls (Lb (Ls (Dz (Zaj (Hx 0 (1:Int) (4:Int) b4 0 1 (Hl 1 0 1 b2 Hz)) (Zt (Zs (Zgj [3] (Hl 2 1 2 b2 Hz) (Zc1 (within_spec s.wh (-1) 2147483647 b2) fun h1 b3=>Lz (Dz (Zqc (t:=!(withinB s.wh (-1) 2147483647)) (fun e=>?_) (fun e=>?_))))))))))))))))))))))))
  ·exact En (Lq (Le (Ll (Ly (LsR (Ll (Ly (Dz (Zq1 (v:=.bool false) (Zfb (by rw [mayS,nI d,if_pos e]) (b3.dr 2)))))))))))
  ·refine En (Lk (Lm (Lt (La (Dz (GoQ.again (En (Lq (Ls (LT (Lk (Lt (Ls (Lb (Ls (Dz (Zaj (Hx 0 (2:Int) (4:Int) b4 0 1 (Hl 1 0 2 b3 Hz)) (Zt (Zs (Zgj [3] (Hl 2 1 3 b3 Hz) (Zc1 (within_spec s.j (-1) 2147483647 b3) fun h3 b5=>Lz (Dz (Zqc (t:=!(withinB s.j (-1) 2147483647)) (fun o=>?_) (fun o=>?_))))))))))))))))))))))))
   ·exact En (Lq (Le (Ll (Ly (LsR (Ll (Ly (Dz (Zq1 (v:=.bool false) (Zfb (by rw [mayS,nI d,nI e,if_pos o]) (b5.dr 2)))))))))))
   ·refine En (Lk (Lm (Lt (La (Dz (GoQ.again (En (Lq (Ls (LT (Lk (Lt (Ls (Lb (Ls (Dz (Zaj (Hx 0 (3:Int) (4:Int) b4 0 1 (Hl 1 0 3 b5 Hz)) (Zt (Zs (Zgj [3] (Hl 2 1 4 b5 Hz) (Zc1 (within_spec s.k (-1) 2147483647 b5) fun h5 c7=>Lz (Dz (Zqc (t:=!(withinB s.k (-1) 2147483647)) (fun q=>?_) (fun q=>?_))))))))))))))))))))))))
    ·exact En (Lq (Le (Ll (Ly (LsR (Ll (Ly (Dz (Zq1 (v:=.bool false) (Zfb (by rw [mayS,nI d,nI e,nI o,if_pos q]) (c7.dr 2)))))))))))
    ·refine En (Lk (Lm (Lt (La (Dz (GoQ.again (En (Lq (Ls (LF (Lx (LsC (LsL (Lh (Lt (Ls (Ls (Lg [1,4,5] (Lw (Zqa (f:=53) (args:=#[zP b 6]) Tryz.call53 (texts_spec c7) ?_))))))))))))))))))))
     rintro h6 h7 ⟨h8,rfl,f0⟩
     refine Lo (Lw (Zll ptsOK ptF [((b,104):Nat×Nat)] f0 fun h9 i0 f1=>Lo (Dz (Zap ptsOK ptF ((0,0):Nat×Nat) (f1.pl 1) (by simp only [lA,lC,lN,List.length_map] at *;omega) fun i1 f3 i2 i=>Lz (Lb (Dz ?_))))))
     have hpl:(([((b,7):Nat×Nat),((b,8):Nat×Nat),((b,9):Nat×Nat),((b,10):Nat×Nat)])++([((b,104):Nat×Nat)])).length=5:=rfl
     obtain⟨a5,rfl⟩:=Sl.isSome (i.at_ 0 rfl) (by omega)
     refine Zn [(27,.int .i64 0),(26,.int .i64 5),(25,zL a5 0 ((([((b,7):Nat×Nat),((b,8):Nat×Nat),((b,9):Nat×Nat),((b,10):Nat×Nat)])++([((b,104):Nat×Nat)])).length) f3),(2,.bool false),(1,zP b 0)] (GoC.unroll 12 (En (Lq (Ls (LT (Lk (Lt (Ls (Lb (Ls (Dz (Zaj (Hx 0 (0:Int) (((([((b,7):Nat×Nat),((b,8):Nat×Nat),((b,9):Nat×Nat),((b,10):Nat×Nat)])++([((b,104):Nat×Nat)])).length:Nat):Int) a5 0 1 (Hg 1 (.gen [zP b 7]) [.cell ⟨a5,0,none⟩ (zP b 7)] (okc (RowsAt.at0 (i.rows 0 rfl (ptF).size ((0,0):Nat×Nat)) (k:=0) (by first|omega|(simp only [List.length_set];omega)|(simp only [List.length_set,lA,lC,lN];omega)) (j:=0) (by decide) (by kernel_rfl)) ok0) Hz)) (Zt (Zs (Zaj (Hl 2 3 7 i Hz) (Zt (Zi ((s.op.ky.size:Int)>255) (fun u=>?_) (fun u=>?_))))))))))))))))))
     ·exact En (Lq (Le (Ll (Ly (LsR (Ll (Ly (Dz (Zq1 (v:=.bool false) (Zfb (by rw [mayS,nI d,nI e,nI o,nI q,if_pos (decide_eq_true u)]) (i.dr 4)))))))))))
     ·refine En (Lk (Lm (Lt (La (Dz (GoQ.again (En (Lq (Ls (LT (Lk (Lt (Ls (Lb (Ls (Dz (Zaj (Hx 0 (1:Int) (((([((b,7):Nat×Nat),((b,8):Nat×Nat),((b,9):Nat×Nat),((b,10):Nat×Nat)])++([((b,104):Nat×Nat)])).length:Nat):Int) a5 0 1 (Hg 1 (.gen [zP b 8]) [.cell ⟨a5,1,none⟩ (zP b 8)] (okc (RowsAt.at0 (i.rows 0 rfl (ptF).size ((0,0):Nat×Nat)) (k:=1) (by first|omega|(simp only [List.length_set];omega)|(simp only [List.length_set,lA,lC,lN];omega)) (j:=0) (by decide) (by kernel_rfl)) ok0) Hz)) (Zt (Zs (Zaj (Hl 2 3 8 i Hz) (Zt (Zi ((s.op.va.size:Int)>255) (fun x=>?_) (fun x=>?_)))))))))))))))))))))))
      ·exact En (Lq (Le (Ll (Ly (LsR (Ll (Ly (Dz (Zq1 (v:=.bool false) (Zfb (by rw [mayS,nI d,nI e,nI o,nI q,if_neg (nF (decide_eq_false u)),if_pos (decide_eq_true x)]) (i.dr 4)))))))))))
      ·refine En (Lk (Lm (Lt (La (Dz (GoQ.again (En (Lq (Ls (LT (Lk (Lt (Ls (Lb (Ls (Dz (Zaj (Hx 0 (2:Int) (((([((b,7):Nat×Nat),((b,8):Nat×Nat),((b,9):Nat×Nat),((b,10):Nat×Nat)])++([((b,104):Nat×Nat)])).length:Nat):Int) a5 0 1 (Hg 1 (.gen [zP b 9]) [.cell ⟨a5,2,none⟩ (zP b 9)] (okc (RowsAt.at0 (i.rows 0 rfl (ptF).size ((0,0):Nat×Nat)) (k:=2) (by first|omega|(simp only [List.length_set];omega)|(simp only [List.length_set,lA,lC,lN];omega)) (j:=0) (by decide) (by kernel_rfl)) ok0) Hz)) (Zt (Zs (Zaj (Hl 2 3 9 i Hz) (Zt (Zi ((s.op.ol.size:Int)>255) (fun z=>?_) (fun z=>?_)))))))))))))))))))))))
       ·exact En (Lq (Le (Ll (Ly (LsR (Ll (Ly (Dz (Zq1 (v:=.bool false) (Zfb (by rw [mayS,nI d,nI e,nI o,nI q,if_neg (nF (decide_eq_false u)),if_neg (nF (decide_eq_false x)),if_pos (decide_eq_true z)]) (i.dr 4)))))))))))
       ·refine En (Lk (Lm (Lt (La (Dz (GoQ.again (En (Lq (Ls (LT (Lk (Lt (Ls (Lb (Ls (Dz (Zaj (Hx 0 (3:Int) (((([((b,7):Nat×Nat),((b,8):Nat×Nat),((b,9):Nat×Nat),((b,10):Nat×Nat)])++([((b,104):Nat×Nat)])).length:Nat):Int) a5 0 1 (Hg 1 (.gen [zP b 10]) [.cell ⟨a5,3,none⟩ (zP b 10)] (okc (RowsAt.at0 (i.rows 0 rfl (ptF).size ((0,0):Nat×Nat)) (k:=3) (by first|omega|(simp only [List.length_set];omega)|(simp only [List.length_set,lA,lC,lN];omega)) (j:=0) (by decide) (by kernel_rfl)) ok0) Hz)) (Zt (Zs (Zaj (Hl 2 3 10 i Hz) (Zt (Zi ((s.op.tx.size:Int)>255) (fun a0=>?_) (fun a0=>?_)))))))))))))))))))))))
        ·exact En (Lq (Le (Ll (Ly (LsR (Ll (Ly (Dz (Zq1 (v:=.bool false) (Zfb (by rw [mayS,nI d,nI e,nI o,nI q,if_neg (nF (decide_eq_false u)),if_neg (nF (decide_eq_false x)),if_neg (nF (decide_eq_false z)),if_pos (decide_eq_true a0)]) (i.dr 4)))))))))))
        ·refine En (Lk (Lm (Lt (La (Dz (GoQ.again (En (Lq (Ls (LT (Lk (Lt (Ls (Lb (Ls (Dz (Zaj (Hx 0 (4:Int) (((([((b,7):Nat×Nat),((b,8):Nat×Nat),((b,9):Nat×Nat),((b,10):Nat×Nat)])++([((b,104):Nat×Nat)])).length:Nat):Int) a5 0 1 (Hg 1 (.gen [zP b 104]) [.cell ⟨a5,4,none⟩ (zP b 104)] (okc (RowsAt.at0 (i.rows 0 rfl (ptF).size ((0,0):Nat×Nat)) (k:=4) (by first|omega|(simp only [List.length_set];omega)|(simp only [List.length_set,lA,lC,lN];omega)) (j:=0) (by decide) (by kernel_rfl)) ok0) Hz)) (Zt (Zs (Zaj (Hl 2 3 104 i Hz) (Zt (Zi ((s.re.vl.size:Int)>255) (fun a2=>?_) (fun a2=>?_)))))))))))))))))))))))
         ·exact En (Lq (Le (Ll (Ly (LsR (Ll (Ly (Dz (Zq1 (v:=.bool false) (Zfb (by rw [mayS,nI d,nI e,nI o,nI q,if_neg (nF (decide_eq_false u)),if_neg (nF (decide_eq_false x)),if_neg (nF (decide_eq_false z)),if_neg (nF (decide_eq_false a0)),if_pos (decide_eq_true a2)]) (i.dr 4)))))))))))
         ·refine En (Lk (Lm (Lt (La (Dz (GoQ.again (En (Lq (Ls (LF (Lx (LsC (LsL (Lh (Lt (Ls (Ls (Lg [11,18] (Dz (Zqk [(0,.gen []),(1,.gen [.int .u8 s.dw]),(2,.gen []),(3,.gen [])] [(1,[.cell ⟨b,0,none⟩ (.int .u8 s.dw)])] [(40,.bool (decide ((s.dw:Int)<1))),(2,.bool false),(1,zP b 0)] (ak (okc (i.cell 3 rfl (by kernel_rfl)) ok0) ak0) (Zsq 40 (decide ((s.dw:Int)<1)) (fun a1=>?_) (fun a1=>?_))))))))))))))))))))))
          ·exact En (Lw (Zsk (En (Lw (Zsk (En (Lud (Lt (LT (Lq (Le (Ly (Dz (Zq1 (v:=.bool false) (Zfb (by rw [mayS,nI d,nI e,nI o,nI q,if_neg (nF (decide_eq_false u)),if_neg (nF (decide_eq_false x)),if_neg (nF (decide_eq_false z)),if_neg (nF (decide_eq_false a0)),if_neg (nF (decide_eq_false a2)),if_pos a1]) (i.dr 4))))))))))))))))
          ·refine Zqk [(4,.gen []),(5,.gen [.int .u8 s.dw]),(6,.gen []),(7,.gen []),(8,.gen [])] [(5,[.cell ⟨b,0,none⟩ (.int .u8 s.dw)])] [(45,.bool (decide ((s.dw:Int)>16))),(2,.bool false),(1,zP b 0)] (ak (okc (i.cell 3 rfl (by kernel_rfl)) ok0) ak0) (Zsq 45 (decide ((s.dw:Int)>16)) (fun a3=>?_) (fun a3=>?_))
           ·exact En (Lw (Zsk (En (Lw (Zsk (En (Lud (Lt (LT (Lq (Le (Ly (Dz (Zq1 (v:=.bool false) (Zfb (by rw [mayS,nI d,nI e,nI o,nI q,if_neg (nF (decide_eq_false u)),if_neg (nF (decide_eq_false x)),if_neg (nF (decide_eq_false z)),if_neg (nF (decide_eq_false a0)),if_neg (nF (decide_eq_false a2)),nI a1,if_pos a3]) (i.dr 4))))))))))))))))
           ·refine Zj (Hl 10 3 5 i Hz) (Zc1 (within_spec s.n (-1) 1099511627776 i) fun i4 b7=>Lo (Dz (Zqk [(12,.gen []),(13,.gen []),(14,.gen [])] [] [(51,.bool (!(withinB s.n (-1) 1099511627776))),(2,.bool false),(1,zP b 0)] ak0 (Zsq 51 (!(withinB s.n (-1) 1099511627776)) (fun a4=>?_) (fun a4=>?_)))))
            ·exact En (Lw (Zsk (En (Lud (Lt (LT (Lq (Le (Ly (Dz (Zq1 (v:=.bool false) (Zfb (by rw [mayS,nI d,nI e,nI o,nI q,if_neg (nF (decide_eq_false u)),if_neg (nF (decide_eq_false x)),if_neg (nF (decide_eq_false z)),if_neg (nF (decide_eq_false a0)),if_neg (nF (decide_eq_false a2)),nI a1,nI a3,if_pos a4]) (b7.dr 4)))))))))))))
            ·refine Zj (Hl 17 3 103 b7 Hz) (Zc1 (within_spec s.re.er 0 255 b7) fun i6 a7=>Lo (Dz (Zqk [(19,.gen []),(20,.gen []),(21,.gen [])] [] [(58,.bool (!(withinB s.re.er 0 255))),(2,.bool false),(1,zP b 0)] ak0 (Zsq 58 (!(withinB s.re.er 0 255)) (fun a6=>?_) (fun a6=>?_)))))
             ·exact En (Lud (Lt (LT (Lq (Le (Ly (Dz (Zq1 (v:=.bool false) (Zfb (by rw [mayS,nI d,nI e,nI o,nI q,if_neg (nF (decide_eq_false u)),if_neg (nF (decide_eq_false x)),if_neg (nF (decide_eq_false z)),if_neg (nF (decide_eq_false a0)),if_neg (nF (decide_eq_false a2)),nI a1,nI a3,nI a4,if_pos a6]) (a7.dr 4))))))))))
             ·refine Zjd (Hl 23 3 106 a7 Hz) (Zt (Zi ((s.pl.length:Int)>255) (fun a9=>?_) (fun a9=>?_)))
              ·exact En (Lq (Le (Ly (Dz (Zq1 (v:=.bool false) (Zfb (by rw [mayS,nI d,nI e,nI o,nI q,if_neg (nF (decide_eq_false u)),if_neg (nF (decide_eq_false x)),if_neg (nF (decide_eq_false z)),if_neg (nF (decide_eq_false a0)),if_neg (nF (decide_eq_false a2)),nI a1,nI a3,nI a4,nI a6,if_pos (decide_eq_true a9)]) (a7.dr 4)))))))
              ·refine Zk (Zt (Zs (Zs (Zaj (Hl 1 3 0 a7 Hz) (En (Lt (Lb (Lq (Dz (Zqc (t:=(s.dw:Int) == 14) (fun a8=>?_) (fun a8=>?_)))))))))))
               ·refine Zs (Zgj [2,3,7] (Hla 1 3 12 76 (TBd.cells s.bd) a7 Hz) (Zc1 (carrier_spec s.bd a7) fun i8 f9=>Lo (Dz (Zc1 (may_spec (⟨1,1,dVc,s.bd,dD32⟩:TMs) (car_ok hs_.bd) (fun w h=>hr1 _ (h.drop 4)) f9) fun j0 b8=>Lo (Dz (Zqk [(4,.gen [])] [] [(72,.bool (mayM (⟨1,1,dVc,s.bd,dD32⟩:TMs))),(2,.bool false),(1,zP b 0)] ak0 (Zsq 72 (mayM (⟨1,1,dVc,s.bd,dD32⟩:TMs)) (fun b9=>?_) (fun b9=>?_))))))))
                ·exact Zj (Hla 6 3 88 14 (TPk.cells s.pk) b8 Hz) (Zc1 (empty_spec s.pk b8) fun j2 g0=>Lz (Le (Ll (Ly (Dz (Zq1 (v:=.bool (emptyB s.pk)) (Zfb (by rw [mayS,nI d,nI e,nI o,nI q,if_neg (nF (decide_eq_false u)),if_neg (nF (decide_eq_false x)),if_neg (nF (decide_eq_false z)),if_neg (nF (decide_eq_false a0)),if_neg (nF (decide_eq_false a2)),nI a1,nI a3,nI a4,nI a6,if_neg (nF (decide_eq_false a9)),if_pos a8,if_pos b9]) (g0.dr 4))))))))
                ·exact En (Lw (Zsk (En (Lud (Lt (Le (Ll (Ly (Dz (Zq1 (v:=.bool false) (Zfb (by rw [mayS,nI d,nI e,nI o,nI q,if_neg (nF (decide_eq_false u)),if_neg (nF (decide_eq_false x)),if_neg (nF (decide_eq_false z)),if_neg (nF (decide_eq_false a0)),if_neg (nF (decide_eq_false a2)),nI a1,nI a3,nI a4,nI a6,if_neg (nF (decide_eq_false a9)),if_pos a8,nI b9]) (b8.dr 4))))))))))))
               ·refine En (Lq (Dz (Zqc (t:=(s.dw:Int) == 16) (fun b0=>?_) (fun b0=>?_))))
                ·refine Zs (Zgj [2,6] (Hla 1 3 12 76 (TBd.cells s.bd) a7 Hz) (Zc1 (none_spec s.bd a7) fun j4 c0=>Lo (Dz (Zqk [(3,.gen [])] [] [(82,.bool (noneB s.bd)),(2,.bool false),(1,zP b 0)] ak0 (Zsq 82 (noneB s.bd) (fun c1=>?_) (fun c1=>?_))))))
                 ·exact Zj (Hla 5 3 88 14 (TPk.cells s.pk) c0 Hz) (Zc1 (packed_spec s.pk (fun k hk=>⟨(hms k hk).1,fun w h=>(hms k hk).2 w (h.drop 4)⟩) (fun w h=>hr2 _ (h.drop 4)) c0) fun j6 g7=>Lz (Le (Ll (Ly (Dz (Zq1 (v:=.bool (packedB s.pk)) (Zfb (by rw [mayS,nI d,nI e,nI o,nI q,if_neg (nF (decide_eq_false u)),if_neg (nF (decide_eq_false x)),if_neg (nF (decide_eq_false z)),if_neg (nF (decide_eq_false a0)),if_neg (nF (decide_eq_false a2)),nI a1,nI a3,nI a4,nI a6,if_neg (nF (decide_eq_false a9)),nI a8,if_pos b0,if_pos c1]) (g7.dr 4))))))))
                 ·exact En (Lw (Zsk (En (Lud (Lt (Le (Ll (Ly (Dz (Zq1 (v:=.bool false) (Zfb (by rw [mayS,nI d,nI e,nI o,nI q,if_neg (nF (decide_eq_false u)),if_neg (nF (decide_eq_false x)),if_neg (nF (decide_eq_false z)),if_neg (nF (decide_eq_false a0)),if_neg (nF (decide_eq_false a2)),nI a1,nI a3,nI a4,nI a6,if_neg (nF (decide_eq_false a9)),nI a8,if_pos b0,nI c1]) (c0.dr 4))))))))))))
                ·refine Zk (Zm (Zt (Zs (Zgj [2,6] (Hla 1 3 12 76 (TBd.cells s.bd) a7 Hz) (Zc1 (none_spec s.bd a7) fun j8 c2=>Lo (Dz (Zqk [(3,.gen [])] [] [(90,.bool (noneB s.bd)),(2,.bool false),(1,zP b 0)] ak0 (Zsq 90 (noneB s.bd) (fun c3=>?_) (fun c3=>?_)))))))))
                 ·exact Zj (Hla 5 3 88 14 (TPk.cells s.pk) c2 Hz) (Zc1 (empty_spec s.pk c2) fun k0 g8=>Lz (Le (Dz (Zq1 (v:=.bool (emptyB s.pk)) (Zfb (by rw [mayS,nI d,nI e,nI o,nI q,if_neg (nF (decide_eq_false u)),if_neg (nF (decide_eq_false x)),if_neg (nF (decide_eq_false z)),if_neg (nF (decide_eq_false a0)),if_neg (nF (decide_eq_false a2)),nI a1,nI a3,nI a4,nI a6,if_neg (nF (decide_eq_false a9)),nI a8,nI b0,if_pos c3]) (g8.dr 4))))))
                 ·exact En (Lw (Zsk (En (Lud (Lt (Le (Dz (Zq1 (v:=.bool false) (Zfb (by rw [mayS,nI d,nI e,nI o,nI q,if_neg (nF (decide_eq_false u)),if_neg (nF (decide_eq_false x)),if_neg (nF (decide_eq_false z)),if_neg (nF (decide_eq_false a0)),if_neg (nF (decide_eq_false a2)),nI a1,nI a3,nI a4,nI a6,if_neg (nF (decide_eq_false a9)),nI a8,nI b0,nI c3]) (c2.dr 4))))))))))
end
section
variable {w0 w : World} {L : List Asn} {ad : Option Addr} {c : Nat} {ay : Option Addr} {cy : Nat}
theorem peel {c x:Bool}(h:(if c=true then false else x)=true):c=false∧x=true:=by
 cases c with
 | true=>cases h
 | false=>exact⟨rfl,h⟩
theorem peel2 {c x:Bool}(h:(if c=true then x else false)=true):c=true∧x=true:=by
 cases c with
 | true=>exact⟨rfl,h⟩
 | false=>cases h
theorem withinB_in {n a b:Int}(h:withinB n a b=true):a≤n∧n≤b:=by
 unfold withinB at h
 rw [Bool.and_eq_true] at h
 exact⟨of_decide_eq_true h.1,of_decide_eq_true h.2⟩
structure MayS (s:TSt):Prop where
 cl:-1≤s.cl∧s.cl≤2147483647
 wh:-1≤s.wh∧s.wh≤2147483647
 j:-1≤s.j∧s.j≤2147483647
 k:-1≤s.k∧s.k≤2147483647
 n:-1≤s.n∧s.n≤1099511627776
 ky:s.op.ky.size≤255
 va:s.op.va.size≤255
 ol:s.op.ol.size≤255
 tx:s.op.tx.size≤255
 vl:s.re.vl.size≤255
 dw:1≤s.dw∧s.dw≤16
 er:0≤s.re.er∧s.re.er≤255
 pl:s.pl.length≤255
 lie:s.dw=14→mayM ⟨1,1,dVc,s.bd,dD32⟩=true∧emptyB s.pk=true
 fake:s.dw=16→noneB s.bd=true∧packedB s.pk=true
 els:s.dw≠14→s.dw≠16→noneB s.bd=true∧emptyB s.pk=true
theorem mayS_in {s:TSt}(h:mayS s=true):MayS s:=by
 unfold mayS at h
 obtain⟨b,h⟩:=peel h
 obtain⟨d,h⟩:=peel h
 obtain⟨e,h⟩:=peel h
 obtain⟨f,h⟩:=peel h
 obtain⟨i,h⟩:=peel h
 obtain⟨o,h⟩:=peel h
 obtain⟨q,h⟩:=peel h
 obtain⟨u,h⟩:=peel h
 obtain⟨w,h⟩:=peel h
 obtain⟨x,h⟩:=peel h
 obtain⟨z,h⟩:=peel h
 obtain⟨a0,h⟩:=peel h
 obtain⟨a1,h⟩:=peel h
 obtain⟨a2,h⟩:=peel h
 refine⟨withinB_in (notF b),withinB_in (notF d),withinB_in (notF e),withinB_in (notF f),withinB_in (notF a0),?_,?_,?_,?_,?_,?_,withinB_in (notF a1),?_,fun a=>?_,fun a=>?_,fun a a3=>?_⟩
 ·have:=of_decide_eq_false i;omega
 ·have:=of_decide_eq_false o;omega
 ·have:=of_decide_eq_false q;omega
 ·have:=of_decide_eq_false u;omega
 ·have:=of_decide_eq_false w;omega
 ·have:=of_decide_eq_false x;have:=of_decide_eq_false z;omega
 ·have:=of_decide_eq_false a2;omega
 ·rw [if_pos (by rw [a];rfl)] at h;exact peel2 h
 ·rw [if_neg (by rw [a];decide),if_pos (by rw [a];rfl)] at h;exact peel2 h
 ·rw [if_neg (by simpa using a),if_neg (by simpa using a3)] at h;exact peel2 h
structure MayP (p:TPk):Prop where
 fr:0≤p.fr∧p.fr≤255
 tw:0≤p.tw∧p.tw≤255
 ml:p.ml.length≤8
 ms:∀ m∈p.ml,mayM m=true
theorem packedB_in {p:TPk}(h:packedB p=true):MayP p:=by
 unfold packedB at h
 obtain⟨a,h⟩:=peel2 h
 obtain⟨b,h⟩:=peel2 h
 obtain⟨d,h⟩:=peel2 h
 have e:=notT h
 refine⟨withinB_in a,withinB_in b,by have:=of_decide_eq_true d;omega,fun m hm=>?_⟩
 cases f:mayM m with
 | true=>rfl
 | false=>exact absurd (List.any_eq_true.2 ⟨m,hm,show(!mayM m)=true by rw [f];rfl⟩) (by rw [e];decide)
def loS (y:List Int):List Int:=hf (y.length:Nat)++y
theorem loS_length (y:List Int):(loS y).length=2+y.length:=by rw [loS,lA,hf_length]
theorem long_spec (l) (y) (hl:l.length≤800000) (hy:y.length<65536) (hn:ay=none→cy=0) (hr:Rw w0 L byteC 1 0 ay y) (hs:St w0 ((Sl ad c 5 1 byteC l)::L) w):Cs Tryz.prog 49 #[.slice ad l.length c,.slice ay y.length cy] w fun rv w'=>∃ ao co,rv=.slice ao ((l++loS y).length) co∧St w0 ((Sl ao co 5 1 byteC (l++loS y))::L) w':=by
 refine Zen Tryz.func49 Tryz.ntmps49 (En (Lq (Ls (Dz (Zgj [4,6] (Hg 3 (.as_ (.int .u16 (y.length:Nat)) (.gen [])) [.prop (Value.int .u16 (IntKind.u16.wrap (y.length:Nat))=Value.int .u16 (y.length:Nat))] (okp (u16ok (by omega) (by omega)) ok0) Hz) (Zc (half_spec l (y.length:Nat) (by omega) (by omega) hs) ?_))))))
 rintro q u ⟨f,i,rfl,a⟩
 refine Lo (Lw (GoR.append rfl (by kernel_rfl) bytesOK byteF (ad:=f) (c:=i) (xs:=l++hf (y.length:Nat)) (ys:=y) (adx:=ay) (cx:=cy) (0:Int) (by kernel_rfl) a (hr _ (a.drop 1)) hn (by simp only [lA,hf_length];omega) (by simp only [lA,hf_length];omega) fun b d x o=>Lz (Le (Dz (Zq1 (v:=.slice b (((l++hf (y.length:Nat))++y).length) d) ?_)))))
 have e:(l++hf (y.length:Nat))++y=l++loS y:=by simp only [loS,List.append_assoc]
 exact⟨b,d,by rw [e],by rw [← e];exact o⟩
def pkB (p:TPk):List Int:=[p.fr,p.tw]++(p.kn.toList.flatMap wd++([(p.ml.length:Int)]++p.ml.flatMap (fun m=>loS (putM m))))
def h1S (s:TSt):List Int:=[(s.dw:Int)]++wd (s.cl+1)++wd (s.wh+1)++wd (s.j+1)++wd (s.k+1)++wd (s.n+1)
def h2S (s:TSt):List Int:=(((((h1S s)++([(s.op.kd:Int)])++wd s.op.am)++tx s.op.ky)++tx s.op.va)++tx s.op.ol)++tx s.op.tx
def hdS (s:TSt):List Int:=((((h2S s++wd s.tm++wd s.at_)++([(s.re.er:Int)]))++tx s.re.vl)++([(s.pl.length:Int)]))++s.pl
def tlS (s:TSt):List Int:=if s.dw=14 then loS (putM ⟨1,1,dVc,s.bd,dD32⟩) else if s.dw=16 then pkB s.pk else []
def putS (s:TSt):List Int:=if mayS s=true then hdS s++tlS s else []
theorem h1S_len {s:TSt}(h:mayS s=true):(h1S s).length=41:=by
 simp only [h1S,lA,lC,lN,wd_length]
theorem h2S_len {s:TSt}(h:mayS s=true):(h2S s).length≤2000:=by
 obtain⟨a,b,d,e,f,i,o,q,u,w,x,z,a0,a1,a2,a3⟩:=mayS_in h
 have:=h1S_len h
 simp only [h2S,lA,lC,lN,wd_length,tx_length]
 omega
theorem hdS_len {s:TSt}(h:mayS s=true):(hdS s).length≤3000:=by
 obtain⟨a,b,d,e,f,i,o,q,u,w,x,z,a0,a1,a2,a3⟩:=mayS_in h
 have:=h2S_len h
 simp only [hdS,lA,lC,lN,wd_length,tx_length]
 omega
theorem putM_len {m:TMs}(h:mayM m=true):(putM m).length≤740:=by
 have:=tgB_length h
 rw [show putM m=_ from if_pos h]
 simp only [lA,lN,wd_length,D32.len]
 omega
theorem kn_len {s:TSt}{k:Nat}(h:k≤11):((s.pk.kn.toList.take k).flatMap wd).length=8*k:=by
 have e:∀ l:List Int,(l.flatMap wd).length=8*l.length:=fun l=>by
  induction l with
  | nil=>rfl
  | cons a l ih=>rw [List.flatMap_cons,lA,wd_length,ih,lC];omega
 rw [e,List.length_take,VecD.len]
 omega
theorem kn_succ {s:TSt}{k:Nat}(h:k<11):(s.pk.kn.toList.take (k+1)).flatMap wd=(s.pk.kn.toList.take k).flatMap wd++wd (s.pk.kn.toList.getD k 0):=by
 rw [take_succ_getD (d:=(0:Int)) (by rw [VecD.len];exact h),List.flatMap_append]
 simp
theorem ml_succ {s:TSt}{k:Nat}(h:k<s.pk.ml.length):(s.pk.ml.take (k+1)).flatMap (fun m=>loS (putM m))=(s.pk.ml.take k).flatMap (fun m=>loS (putM m))++loS (putM (s.pk.ml.getD k dMs)):=by
 rw [take_succ_getD (d:=dMs) h,List.flatMap_append]
 simp
theorem msg_len:∀ l:List TMs,(∀ m∈l,mayM m=true)→(l.flatMap fun m=>loS (putM m)).length≤742*l.length
 | [],_=>Nat.le_refl _
 | m::l,h=>by
  have h1:=putM_len (h m (List.mem_cons_self ..))
  have h2:=msg_len l fun x hx=>h x (List.mem_cons_of_mem _ hx)
  rw [List.flatMap_cons,lA,loS_length,lC]
  omega
theorem ml_len {l:List TMs}(h:∀ m∈l,mayM m=true) (h8:l.length≤8) (k:Nat):((l.take k).flatMap fun m=>loS (putM m)).length≤6000:=by
 have a:=msg_len (l.take k) fun x hx=>h x (List.mem_of_mem_take hx)
 have b:(l.take k).length≤l.length:=by rw [List.length_take];omega
 omega
theorem putS_spec (s) (hs_:StOK s) (hms:∀ k,k<s.pk.ml.length→MsOK (s.pk.ml.getD k dMs)∧Rw w0 L TPr.cells 2 dPr (s.pk.ml.getD k dMs).bd.qa (s.pk.ml.getD k dMs).bd.ql) (hr1:Rw w0 L TPr.cells 2 dPr s.bd.qa s.bd.ql) (hr2:Rw w0 L TMs.cells 121 dMs s.pk.ma s.pk.ml) (hr3:Rw w0 L byteC 1 0 s.pa s.pl) (hs:St w0 (L) w):Cs Tryz.prog 32 #[.agg (TSt.cells s)] w fun rv w'=>∃ ao co,rv=.slice ao ((putS s).length) co∧St w0 ((Sl ao co 5 1 byteC (putS s))::L) w':=by
 refine Zen Tryz.func32 Tryz.ntmps32 (En (Ls (Lg [0] (Dz (Zbg (TSt.cells s) hs fun a w2 d9=>Lz (Ls (Ls (Dz (Zgj [1] (Hla 0 0 0 107 (TSt.cells s) d9 Hz) (Zc1 (mayS_spec s hs_ (fun k hk=>⟨(hms k hk).1,fun w h=>(hms k hk).2 w (h.drop 1)⟩) (fun w h=>hr1 _ (h.drop 1)) (fun w h=>hr2 _ (h.drop 1)) (fun w h=>hr3 _ (h.drop 1)) d9) fun w6 b2=>Lz (Dz (Zqc (t:=!(mayS s)) (fun h7=>?_) (fun h7=>?_)))))))))))))
 ·have a8:=notT h7
  refine En (Lq (Le (Ly (Dz (Zq1 (v:=.slice none 0 0) ?_)))))
  have g7:=St.slNil b2 5 1 byteC
  have g8:=((g7.pl 0).pl 1)
  exact⟨none,0,by rw [(show putS s=[] from if_neg (by rw [a8];decide))];rfl,by rw [(show putS s=[] from if_neg (by rw [a8];decide))];exact(g8.dr 1)⟩
 ·have a8:=notF h7
  have hb:mayS s=true:=a8
  obtain⟨q1,q2,q3,q4,q5,q6,q7,q8,q9,m3,m4,m5,m6,h0,h1,m7⟩:=mayS_in hb
  have e1:=hs_.am
  have e2:=hs_.tm
  have e3:=hs_.at_
  refine Zk (Zt (Zs (Zgj [2] (Hl 1 0 0 b2 Hz) (Zll bytesOK byteF [(s.dw:Int)] b2 fun m8 m9 h2=>Lz (Ls (Ls (Lg [0] (Dz (Zqa (f:=51) (args:=#[zP a 0]) Tryz.call51 (numbers_spec h2) ?_)))))))))
  rintro n0 n1 ⟨e,rfl,b3⟩
  refine Lz (Lb (Dz (GoC.unroll 6 (En (Lq (Ls (LT (Lk (Lt (Ls (Lb (Ls (Dz (Zaj (Hx 0 (0:Int) (5:Int) e 0 1 (Hl 1 0 0 b3 Hz)) (Zt (Zgj [6] (Hl 3 2 1 b3 (Hwi 4 (s.cl+1) (Hwu 5 (s.cl+1) Hz))) (Zc (word_spec ([(s.dw:Int)]) (s.cl+1) (by first|omega|(simp only [lA,lC,lN,wd_length] at *;omega)) (by omega) (b3.pl 1)) ?_)))))))))))))))))
  rintro n2 n3 ⟨n4,n5,rfl,b4⟩
  refine Lo (Lud (Lm (Lt (La (Dz (GoQ.again (En (Lq (Ls (LT (Lk (Lt (Ls (Lb (Ls (Dz (Zaj (Hx 0 (1:Int) (5:Int) e 0 1 (Hl 1 1 1 b4 Hz)) (Zt (Zgj [6] (Hl 3 2 2 b4 (Hwi 4 (s.wh+1) (Hwu 5 (s.wh+1) Hz))) (Zc (word_spec ([(s.dw:Int)]++wd (s.cl+1)) (s.wh+1) (by first|omega|(simp only [lA,lC,lN,wd_length] at *;omega)) (by omega) b4) ?_))))))))))))))))))))
  rintro n6 n7 ⟨n8,n9,rfl,b5⟩
  refine Lo (Lud (Lm (Lt (La (Dz (GoQ.again (En (Lq (Ls (LT (Lk (Lt (Ls (Lb (Ls (Dz (Zaj (Hx 0 (2:Int) (5:Int) e 0 1 (Hl 1 1 2 b5 Hz)) (Zt (Zgj [6] (Hl 3 2 3 b5 (Hwi 4 (s.j+1) (Hwu 5 (s.j+1) Hz))) (Zc (word_spec ([(s.dw:Int)]++wd (s.cl+1)++wd (s.wh+1)) (s.j+1) (by first|omega|(simp only [lA,lC,lN,wd_length] at *;omega)) (by omega) b5) ?_))))))))))))))))))))
  rintro o0 o1 ⟨o2,o3,rfl,b6⟩
  refine Lo (Lud (Lm (Lt (La (Dz (GoQ.again (En (Lq (Ls (LT (Lk (Lt (Ls (Lb (Ls (Dz (Zaj (Hx 0 (3:Int) (5:Int) e 0 1 (Hl 1 1 3 b6 Hz)) (Zt (Zgj [6] (Hl 3 2 4 b6 (Hwi 4 (s.k+1) (Hwu 5 (s.k+1) Hz))) (Zc (word_spec ([(s.dw:Int)]++wd (s.cl+1)++wd (s.wh+1)++wd (s.j+1)) (s.k+1) (by first|omega|(simp only [lA,lC,lN,wd_length] at *;omega)) (by omega) b6) ?_))))))))))))))))))))
  rintro o4 o5 ⟨e0,e4,rfl,b7⟩
  refine Lo (Lud (Lm (Lt (La (Dz (GoQ.again (En (Lq (Ls (LT (Lk (Lt (Ls (Lb (Ls (Dz (Zaj (Hx 0 (4:Int) (5:Int) e 0 1 (Hl 1 1 4 b7 Hz)) (Zt (Zgj [6] (Hl 3 2 5 b7 (Hwi 4 (s.n+1) (Hwu 5 (s.n+1) Hz))) (Zc (word_spec ([(s.dw:Int)]++wd (s.cl+1)++wd (s.wh+1)++wd (s.j+1)++wd (s.k+1)) (s.n+1) (by first|omega|(simp only [lA,lC,lN,wd_length] at *;omega)) (by omega) b7) ?_))))))))))))))))))))
  rintro o6 h4 ⟨a0,a1,rfl,h5⟩
  refine Lo (Lud (Lm (Lt (La (Dz (GoQ.again (En (Lq (Ls (LF (Lx (LsC (LsL (Lh (Lt (Ls (Dz (Zn [(22,.bool false),(21,.int .i64 5),(32,.int .i64 5),(3,.slice a0 (([(s.dw:Int)]++wd (s.cl+1)++wd (s.wh+1)++wd (s.j+1)++wd (s.k+1)++wd (s.n+1)).length) a1),(31,.slice a0 (([(s.dw:Int)]++wd (s.cl+1)++wd (s.wh+1)++wd (s.j+1)++wd (s.k+1)++wd (s.n+1)).length) a1),(30,.int .u64 (s.n+1)),(29,.int .i64 (s.n+1)),(28,.int .i64 s.n),(27,zP a 5),(26,zP a 5),(25,.slice e0 (([(s.dw:Int)]++wd (s.cl+1)++wd (s.wh+1)++wd (s.j+1)++wd (s.k+1)).length) e4),(5,zP a 5),(24,zP a 5),(23,zP e 4),(20,.int .i64 5),(19,zL e 0 5 5),(2,.slice none 0 0),(1,zP a 0)] ?_))))))))))))))))))
  have h6:St w0 ((Sl a0 a1 5 1 byteC (h1S s))::(Cel e #[zP a 1,zP a 2,zP a 3,zP a 4,zP a 5] 110)::(Cel a (TSt.cells s) 47)::L) h4:=h5
  refine Zn [(22,.bool false),(21,.int .i64 5),(32,.int .i64 5),(3,.slice a0 ((h1S s).length) a1),(31,.slice a0 (([(s.dw:Int)]++wd (s.cl+1)++wd (s.wh+1)++wd (s.j+1)++wd (s.k+1)++wd (s.n+1)).length) a1),(30,.int .u64 (s.n+1)),(29,.int .i64 (s.n+1)),(28,.int .i64 s.n),(27,zP a 5),(26,zP a 5),(25,.slice e0 (([(s.dw:Int)]++wd (s.cl+1)++wd (s.wh+1)++wd (s.j+1)++wd (s.k+1)).length) e4),(5,zP a 5),(24,zP a 5),(23,zP e 4),(20,.int .i64 5),(19,zL e 0 5 5),(2,.slice none 0 0),(1,zP a 0)] ?_
  have hl_h1S:=h1S_len hb
  refine ZD (rds [0,1,2,3,6,7,8] (.ef 4 (.ef 5 (.ef 9 (.rd 10 .done))))) h6 fun o7 b8 o8=>Zj (Hl 3 2 6 b8 (Hl 8 2 11 b8 Hz)) (Zll bytesOK byteF [(s.op.kd:Int)] b8 fun e5 o9 e6=>⟨(opl (n:=[.cell ⟨a,11,none⟩ (.int .u64 s.op.am)]) (by kernel_rfl) (okc (e6.cell 3 rfl (by kernel_rfl)) ok0)),(Zap bytesOK byteF (0:Int) (e6.pl 1) (by first|omega|(simp only [lA,lC,lN,wd_length,hf_length,tx_length,strB_length,loS_length] at *;omega)) fun p0 p5 p6 e7=>⟨(opl (n:=[.cell ⟨a,11,none⟩ (.int .u64 s.op.am)]) (by kernel_rfl) (okc (e7.cell 3 rfl (by kernel_rfl)) ok0)),(Zc (word_spec ((h1S s)++([(s.op.kd:Int)])) s.op.am (by first|omega|(simp only [lA,lC,lN,wd_length] at *;omega)) (by omega) e7) ?_)⟩)⟩)
  rintro p7 p8 ⟨p9,q0,rfl,i0⟩
  refine Lz (Ls (Ls (Lg [1] (Lw (Zqa (f:=53) (args:=#[zP a 6]) Tryz.call53 (texts_spec i0) ?_)))))
  rintro r0 r4 ⟨b,rfl,b9⟩
  refine Lz (Lb (Dz (GoC.unroll 6 (En (Lq (Ls (LT (Lk (Lt (Ls (Lb (Ls (Dz (Zaj (Hx 0 (0:Int) (4:Int) b 0 1 (Hg 1 (.gen [zP a 7]) [.cell ⟨b,0,none⟩ (zP a 7)] (okc (RowsAt.at0 (b9.rows 0 rfl (ptF).size ((0,0):Nat×Nat)) (k:=0) (by first|omega|(simp only [List.length_set];omega)|(simp only [List.length_set,lA,lC,lN];omega)) (j:=0) (by decide) (by kernel_rfl)) ok0) Hz)) (Zt (Zgj [4] (Hl 3 4 7 b9 Hz) (Zc (text_spec ((h1S s)++([(s.op.kd:Int)])++wd s.op.am) s.op.ky (by first|omega|(simp only [lA,lC,lN,wd_length,hf_length,tx_length,strB_length,loS_length] at *;omega)) (by omega) (b9.pl 1)) ?_)))))))))))))))))
  rintro r5 r6 ⟨r7,r8,rfl,c0⟩
  refine Lo (Lud (Lm (Lt (La (Dz (GoQ.again (En (Lq (Ls (LT (Lk (Lt (Ls (Lb (Ls (Dz (Zaj (Hx 0 (1:Int) (4:Int) b 0 1 (Hg 1 (.gen [zP a 8]) [.cell ⟨b,1,none⟩ (zP a 8)] (okc (RowsAt.at0 (c0.rows 1 rfl (ptF).size ((0,0):Nat×Nat)) (k:=1) (by first|omega|(simp only [List.length_set];omega)|(simp only [List.length_set,lA,lC,lN];omega)) (j:=0) (by decide) (by kernel_rfl)) ok0) Hz)) (Zt (Zgj [4] (Hl 3 4 8 c0 Hz) (Zc (text_spec (((h1S s)++([(s.op.kd:Int)])++wd s.op.am)++tx s.op.ky) s.op.va (by first|omega|(simp only [lA,lC,lN,wd_length,hf_length,tx_length,strB_length,loS_length] at *;omega)) (by omega) c0) ?_))))))))))))))))))))
  rintro r9 s0 ⟨s1,s2,rfl,c2⟩
  refine Lo (Lud (Lm (Lt (La (Dz (GoQ.again (En (Lq (Ls (LT (Lk (Lt (Ls (Lb (Ls (Dz (Zaj (Hx 0 (2:Int) (4:Int) b 0 1 (Hg 1 (.gen [zP a 9]) [.cell ⟨b,2,none⟩ (zP a 9)] (okc (RowsAt.at0 (c2.rows 1 rfl (ptF).size ((0,0):Nat×Nat)) (k:=2) (by first|omega|(simp only [List.length_set];omega)|(simp only [List.length_set,lA,lC,lN];omega)) (j:=0) (by decide) (by kernel_rfl)) ok0) Hz)) (Zt (Zgj [4] (Hl 3 4 9 c2 Hz) (Zc (text_spec ((((h1S s)++([(s.op.kd:Int)])++wd s.op.am)++tx s.op.ky)++tx s.op.va) s.op.ol (by first|omega|(simp only [lA,lC,lN,wd_length,hf_length,tx_length,strB_length,loS_length] at *;omega)) (by omega) c2) ?_))))))))))))))))))))
  rintro s3 s4 ⟨e8,e9,rfl,c3⟩
  refine Lo (Lud (Lm (Lt (La (Dz (GoQ.again (En (Lq (Ls (LT (Lk (Lt (Ls (Lb (Ls (Dz (Zaj (Hx 0 (3:Int) (4:Int) b 0 1 (Hg 1 (.gen [zP a 10]) [.cell ⟨b,3,none⟩ (zP a 10)] (okc (RowsAt.at0 (c3.rows 1 rfl (ptF).size ((0,0):Nat×Nat)) (k:=3) (by first|omega|(simp only [List.length_set];omega)|(simp only [List.length_set,lA,lC,lN];omega)) (j:=0) (by decide) (by kernel_rfl)) ok0) Hz)) (Zt (Zgj [4] (Hl 3 4 10 c3 Hz) (Zc (text_spec (((((h1S s)++([(s.op.kd:Int)])++wd s.op.am)++tx s.op.ky)++tx s.op.va)++tx s.op.ol) s.op.tx (by first|omega|(simp only [lA,lC,lN,wd_length,hf_length,tx_length,strB_length,loS_length] at *;omega)) (by omega) c3) ?_))))))))))))))))))))
  rintro s5 i2 ⟨i,o,rfl,i3⟩
  refine Lo (Lud (Lm (Lt (La (Dz (GoQ.again (En (Lq (Ls (LF (Lx (LsC (LsL (Lh (Lt (Ls (Dz (Zn [(47,.bool false),(46,.int .i64 4),(58,.int .i64 4),(3,.slice i (((((((h1S s)++([(s.op.kd:Int)])++wd s.op.am)++tx s.op.ky)++tx s.op.va)++tx s.op.ol)++tx s.op.tx).length) o),(56,.slice i (((((((h1S s)++([(s.op.kd:Int)])++wd s.op.am)++tx s.op.ky)++tx s.op.va)++tx s.op.ol)++tx s.op.tx).length) o),(50,.tuple #[.slice i (((((((h1S s)++([(s.op.kd:Int)])++wd s.op.am)++tx s.op.ky)++tx s.op.va)++tx s.op.ol)++tx s.op.tx).length) o,.int .i64 0]),(55,.tuple #[.slice i (((((((h1S s)++([(s.op.kd:Int)])++wd s.op.am)++tx s.op.ky)++tx s.op.va)++tx s.op.ol)++tx s.op.tx).length) o,.int .i64 0]),(54,.string s.op.tx),(53,zP a 10),(52,zP a 10),(51,.slice e8 ((((((h1S s)++([(s.op.kd:Int)])++wd s.op.am)++tx s.op.ky)++tx s.op.va)++tx s.op.ol).length) e9),(7,zP a 10),(49,zP a 10),(48,zP b 3),(45,.int .i64 4),(44,zL b 0 4 4),(2,.slice none 0 0),(1,zP a 0)] ?_))))))))))))))))))
  have i4:St w0 ((Sl i o 5 1 byteC (h2S s))::(Sl (some ⟨b,0,none⟩) 4 133 1 ptC ([((a,7):Nat×Nat),((a,8):Nat×Nat),((a,9):Nat×Nat),((a,10):Nat×Nat)]))::(Sl (some ⟨e5,0,none⟩) 1 5 1 byteC ([(s.op.kd:Int)]))::(Cel e #[zP a 1,zP a 2,zP a 3,zP a 4,zP a 5] 110)::(Cel a (TSt.cells s) 47)::L) i2:=i3
  refine Zn [(47,.bool false),(46,.int .i64 4),(58,.int .i64 4),(3,.slice i ((h2S s).length) o),(56,.slice i (((((((h1S s)++([(s.op.kd:Int)])++wd s.op.am)++tx s.op.ky)++tx s.op.va)++tx s.op.ol)++tx s.op.tx).length) o),(50,.tuple #[.slice i (((((((h1S s)++([(s.op.kd:Int)])++wd s.op.am)++tx s.op.ky)++tx s.op.va)++tx s.op.ol)++tx s.op.tx).length) o,.int .i64 0]),(55,.tuple #[.slice i (((((((h1S s)++([(s.op.kd:Int)])++wd s.op.am)++tx s.op.ky)++tx s.op.va)++tx s.op.ol)++tx s.op.tx).length) o,.int .i64 0]),(54,.string s.op.tx),(53,zP a 10),(52,zP a 10),(51,.slice e8 ((((((h1S s)++([(s.op.kd:Int)])++wd s.op.am)++tx s.op.ky)++tx s.op.va)++tx s.op.ol).length) e9),(7,zP a 10),(49,zP a 10),(48,zP b 3),(45,.int .i64 4),(44,zL b 0 4 4),(2,.slice none 0 0),(1,zP a 0)] ?_
  have hl_h2S:=h2S_len hb
  refine ZD (rds [0,1,2,4,5] (.ef 3 (.ef 6 (.rd 7 .done)))) i4 fun s6 c4 s7=>Zj (Hl 2 4 102 c4 (Hl 5 4 105 c4 Hz)) (Zc (word_spec (h2S s) s.tm (by first|omega|(simp only [lA,lC,lN,wd_length] at *;omega)) (by omega) c4) ?_)
  rintro s8 s9 ⟨t0,t1,rfl,f0⟩
  refine⟨(opl (n:=[.cell ⟨a,105,none⟩ (.int .u64 s.at_)]) (by kernel_rfl) (okc (f0.cell 4 rfl (by kernel_rfl)) ok0)),(Zc (word_spec (h2S s++wd s.tm) s.at_ (by first|omega|(simp only [lA,lC,lN,wd_length] at *;omega)) (by omega) f0) ?_)⟩
  rintro t2 t3 ⟨t4,t5,rfl,i5⟩
  refine Lz (Ls (Dz (ZD (rds [0,1,2,3,4,7,8,9] (.ef 5 (.ef 6 (.ef 10 (rds [11,12,13,14] .done))))) i5 fun t6 c5 t7=>Zj (Hl 3 4 103 c5 (Hw8 4 s.re.er (Hl 9 4 104 c5 Hz))) (Zll bytesOK byteF [(s.re.er:Int)] c5 fun i6 t8 f1=>⟨(opl (n:=[.cell ⟨a,104,none⟩ (.string s.re.vl)]) (by kernel_rfl) (okc (f1.cell 5 rfl (by kernel_rfl)) ok0)),(Zap bytesOK byteF (0:Int) (f1.pl 1) (by first|omega|(simp only [lA,lC,lN,wd_length,hf_length,tx_length,strB_length,loS_length] at *;omega)) fun t9 u0 u1 f2=>⟨(opl (n:=[.cell ⟨a,104,none⟩ (.string s.re.vl)]) (by kernel_rfl) (okc (f2.cell 5 rfl (by kernel_rfl)) ok0)),(Zc (text_spec ((h2S s++wd s.tm++wd s.at_)++([(s.re.er:Int)])) s.re.vl (by first|omega|(simp only [lA,lC,lN,wd_length,hf_length,tx_length,strB_length,loS_length] at *;omega)) (by omega) f2) ?_)⟩)⟩))))
  rintro u2 u3 ⟨u4,u5,rfl,i8⟩
  refine Lz (Ls (Dz (ZD (rds [0,1,2,3,4,7,8] (.ef 5 (.ef 6 (.ef 9 (.rd 10 .done))))) i8 fun u6 c6 u7=>Zj (Hl 2 5 106 c6 (Hw8 4 (s.pl.length:Nat) (Hl 8 5 106 c6 Hz))) (Zll bytesOK byteF [(s.pl.length:Int)] c6 fun i9 u8 f3=>⟨(opl (n:=[.cell ⟨a,106,none⟩ (.slice s.pa s.pl.length s.pc)]) (by kernel_rfl) (okc (f3.cell 6 rfl (by kernel_rfl)) ok0)),(Zap bytesOK byteF (0:Int) (f3.pl 1) (by first|omega|(simp only [lA,lC,lN,wd_length,hf_length,tx_length,strB_length,loS_length] at *;omega)) fun j1 j2 u9 c7=>⟨(opl (n:=[.cell ⟨a,106,none⟩ (.slice s.pa s.pl.length s.pc)]) (by kernel_rfl) (okc (c7.cell 6 rfl (by kernel_rfl)) ok0)),(GoR.append rfl (by kernel_rfl) bytesOK byteF (ad:=j1) (c:=j2) (xs:=(((h2S s++wd s.tm++wd s.at_)++([(s.re.er:Int)]))++tx s.re.vl)++([(s.pl.length:Int)])) (ys:=s.pl) (adx:=s.pa) (cx:=s.pc) (0:Int) (by kernel_rfl) c7 (hr3 _ (c7.drop 7)) hs_.pn (by first|omega|(simp only [lA,lC,lN,wd_length,hf_length,tx_length,strB_length,loS_length] at *;omega)) (by first|omega|(simp only [lA,lC,lN,wd_length,hf_length,tx_length,strB_length,loS_length] at *;omega)) fun a2 a3 j3 j4=>Lz (Ls (Ls (Dz (Zn [(3,.slice a2 ((((((h2S s++wd s.tm++wd s.at_)++([(s.re.er:Int)]))++tx s.re.vl)++([(s.pl.length:Int)]))++s.pl).length) a3),(2,.slice none 0 0),(1,zP a 0)] ?_)))))⟩)⟩))))
  have x:St w0 ((Sl a2 a3 5 1 byteC (hdS s))::(Sl (some ⟨i9,0,none⟩) 1 5 1 byteC ([(s.pl.length:Int)]))::(Sl (some ⟨i6,0,none⟩) 1 5 1 byteC ([(s.re.er:Int)]))::(Sl (some ⟨b,0,none⟩) 4 133 1 ptC ([((a,7):Nat×Nat),((a,8):Nat×Nat),((a,9):Nat×Nat),((a,10):Nat×Nat)]))::(Sl (some ⟨e5,0,none⟩) 1 5 1 byteC ([(s.op.kd:Int)]))::(Cel e #[zP a 1,zP a 2,zP a 3,zP a 4,zP a 5] 110)::(Cel a (TSt.cells s) 47)::L) j3:=j4
  refine Zn [(3,.slice a2 ((hdS s).length) a3),(2,.slice none 0 0),(1,zP a 0)] ?_
  have hl_hdS:=hdS_len hb
  refine Zaj (Hl 1 6 0 x Hz) (En (Lt (Lb (Lq (Dz (Zqc (t:=(s.dw:Int) == 14) (fun c8=>?_) (fun c8=>?_)))))))
  ·have a4:=ieqT c8
   have hlie:=h0 a4
   refine Zgj [3,4,5] (Hla 2 6 12 76 (TBd.cells s.bd) x Hz) (Zc1 (carrier_spec s.bd x) fun v1 j5=>Lo (Dz (Zc (mput_spec (⟨1,1,dVc,s.bd,dD32⟩:TMs) (car_ok hs_.bd) (fun w h=>hr1 _ (h.drop 7)) j5) ?_)))
   rintro v2 v3 ⟨v4,v6,rfl,j6⟩
   refine Lo (Dz ?_)
   have f4:=(j6.pl 1)
   refine Zc (long_spec (hdS s) (putM (⟨1,1,dVc,s.bd,dD32⟩:TMs)) (by first|omega|(simp only [lA,lC,lN,wd_length,hf_length,tx_length,strB_length,loS_length] at *;omega)) (by have:=putM_len hlie.1;omega) (f4.slNone 1 rfl) (fun w h=>h.rows 0 rfl (byteF).size _) f4) ?_
   rintro v7 v8 ⟨f5,f6,rfl,j7⟩
   refine Lo (Lud (Lm (Lt (Lq (Le (Dz (Zq1 (v:=.slice f5 (((hdS s)++loS (putM (⟨1,1,dVc,s.bd,dD32⟩:TMs))).length) f6) ?_)))))))
   have j8:=((((((((j7.pl 0).pl 7).pl 7).pl 7).pl 7).pl 7).pl 7).pl 7)
   have u:(hdS s)++loS (putM (⟨1,1,dVc,s.bd,dD32⟩:TMs))=putS s:=by
    rw [show putS s=hdS s++tlS s from if_pos hb,show tlS s=loS (putM ⟨1,1,dVc,s.bd,dD32⟩) from if_pos a4]
   exact⟨f5,f6,by rw [← u],by rw [← u];exact(j8.dr 7)⟩
  ·have a4:=ieqF c8
   refine En (Lq (Dz (Zqc (t:=(s.dw:Int) == 16) (fun c9=>?_) (fun c9=>?_))))
   ·have a9:=ieqT c9
    obtain⟨p1,p2,p3,p4⟩:=packedB_in (h1 a9).2
    refine Zs (Zgj [2,3] (Hla 1 6 88 14 (TPk.cells s.pk) x Hz) (Zag (TPk.cells dPk) x fun z v9 k0=>Lo (Dz (Zu 0 0 (TPk.cells s.pk) k0 fun w1 d0=>Lo (Ld (Lt (Ls (Dz (Zgj [7,8] (Hl 2 0 0 d0 (Hw8 3 s.pk.fr (Hl 5 0 1 d0 (Hw8 6 s.pk.tw Hz)))) (Zll bytesOK byteF [(s.pk.fr:Int),(s.pk.tw:Int)] d0 fun w3 w4 k1=>Lo (Dz (Zap bytesOK byteF (0:Int) (k1.pl 2) (by first|omega|(simp only [lA,lC,lN,wd_length,hf_length,tx_length,strB_length,loS_length] at *;omega)) fun d1 d2 w5 f7=>Lz (Ls (Ls (Dz (Zaj (Hla 1 2 2 11 (VecD.cells s.pk.kn) f7 Hz) (Zt (Zb ?_))))))))))))))))))
    have k3:=(((((((((f7.pl 2).pl 1).pl 8).pl 8).pl 8).pl 8).pl 8).pl 8).pl 8)
    refine Zn [(115,.int .i64 0),(114,.agg (VecD.cells s.pk.kn)),(3,.slice d1 (((hdS s)++([(s.pk.fr:Int),(s.pk.tw:Int)])).length) d2),(8,zP z 0),(2,.slice none 0 0)] (GoC.slots (S':=[(115,.int .i64 0),(114,.agg (VecD.cells s.pk.kn)),(3,.slice d1 (((hdS s++[s.pk.fr,s.pk.tw])++(s.pk.kn.toList.take 0).flatMap wd).length) d2),(8,zP z 0),(2,.slice none 0 0)]) (by simp only [List.take_zero,List.flatMap_nil,List.append_nil]) (GoC.loop (T:=Nat×(Option Addr)×Nat) (fun gg=>[(2,.slice none 0 0),(3,.slice gg.2.1 (((hdS s++[s.pk.fr,s.pk.tw])++(s.pk.kn.toList.take gg.1).flatMap wd).length) gg.2.2),(8,zP z 0),(114,.agg (VecD.cells s.pk.kn)),(115,.int .i64 (gg.1:Nat))]) (fun gg w=>(gg.1≤11)∧St w0 ((Sl gg.2.1 gg.2.2 5 1 byteC ((hdS s++[s.pk.fr,s.pk.tw])++(s.pk.kn.toList.take gg.1).flatMap wd))::(Cel z (TPk.cells s.pk) 42)::L) w) (fun gg=>11-gg.1) (0,d1,d2) [2,3,8,114,115] (by kernel_rfl) ⟨Nat.zero_le _,(Zsr (k3.dr 7) (show(hdS s)++([(s.pk.fr:Int),(s.pk.tw:Int)])=(hdS s++[s.pk.fr,s.pk.tw])++(s.pk.kn.toList.take 0).flatMap wd by simp only [List.take_zero,List.flatMap_nil,List.append_nil]))⟩ ?_))
    rintro⟨k,ad,c⟩ w7 ⟨hp,b0⟩
    dsimp only at hp b0
    refine En (Lq (Ls (Dz (Zi ((k:Int)<11) (fun k6=>?_) (fun k6=>?_)))))
    ·have hk:k<11:=by omega
     have hkd:=hs_.kn (s.pk.kn.toList.getD k 0) (getD_mem (d:=(0:Int)) (by rw [VecD.len];exact hk))
     have htk:=kn_len (s:=s) (k:=k) (by omega)
     refine Zk (Zt (Zs (Zb (Zs (Zaj (Hg 0 (.elem (.int .u64 (s.pk.kn.toList.getD k 0))) [.prop (0≤(k:Int)∧(k:Int)<(11:Int)),.prop ((VecD.cells s.pk.kn)[Int.toNat ((k:Nat))*1]?=some (.int .u64 (s.pk.kn.toList.getD k 0)))] (okp (by omega) (okp (by rw [Nat.mul_one];exact VecD.at_ _ k (by omega)) ok0)) Hz) (En (Lt (Lg [2] (Lw (Zc (word_spec ((hdS s++[s.pk.fr,s.pk.tw])++(s.pk.kn.toList.take k).flatMap wd) (s.pk.kn.toList.getD k 0) (by first|omega|(simp only [lA,lC,lN,wd_length] at *;omega)) (by omega) b0) ?_))))))))))
     rintro w8 w9 ⟨d3,d4,rfl,k7⟩
     exact Lo (Lud (Lm (Lt (Dz (Zaj (Hwi 0 ((k:Nat)+1) Hz) (GoQ.pick [115,3,2,8,114] (S':=[(115,.int .i64 ((k:Nat)+1)),(3,.slice d3 (((hdS s++[s.pk.fr,s.pk.tw])++(s.pk.kn.toList.take k).flatMap wd++wd (s.pk.kn.toList.getD k 0)).length) d4),(2,.slice none 0 0),(8,zP z 0),(114,.agg (VecD.cells s.pk.kn))]) (by kernel_rfl) (GoQ.slots (S':=[(115,.int .i64 ((k:Nat)+1)),(3,.slice d3 (((hdS s++[s.pk.fr,s.pk.tw])++(s.pk.kn.toList.take (k+1)).flatMap wd).length) d4),(2,.slice none 0 0),(8,zP z 0),(114,.agg (VecD.cells s.pk.kn))]) (by rw [(show(hdS s++[s.pk.fr,s.pk.tw])++(s.pk.kn.toList.take k).flatMap wd++wd (s.pk.kn.toList.getD k 0)=(hdS s++[s.pk.fr,s.pk.tw])++(s.pk.kn.toList.take (k+1)).flatMap wd by simp only [kn_succ hk,List.append_assoc])]) (GoQ.back (k+1,d3,d4) [2,3,8,114,115] (by kernel_rfl) (by show 11-(k+1)<11-k;omega) ⟨(by omega),(Zsr k7 (show(hdS s++[s.pk.fr,s.pk.tw])++(s.pk.kn.toList.take k).flatMap wd++wd (s.pk.kn.toList.getD k 0)=(hdS s++[s.pk.fr,s.pk.tw])++(s.pk.kn.toList.take (k+1)).flatMap wd by simp only [kn_succ hk,List.append_assoc]))⟩))))))))
    ·have hke:k=11:=by omega
     subst hke
     have htk:=kn_len (s:=s) (k:=11) (by omega)
     refine Zx (GoQ.skipC (GoQ.skipL (GoQ.hit (Zt (Zs (Zgj [5,6] (Hl 2 1 13 b0 (Hw8 4 (s.pk.ml.length:Nat) Hz)) (Zll bytesOK byteF [(s.pk.ml.length:Int)] b0 fun x0 x1 k9=>Lo (Dz (Zap bytesOK byteF (0:Int) (k9.pl 1) (by first|omega|(simp only [lA,lC,lN,wd_length,hf_length,tx_length,strB_length,loS_length] at *;omega)) fun d5 d6 x2 f8=>Lz (Ls (Dz (Zaj (Hl 1 2 13 f8 Hz) (Zt (Zb ?_))))))))))))))
     have l1:=(((f8.pl 0).pl 2).pl 2)
     refine Zn [(132,.int .i64 0),(131,.int .i64 (s.pk.ml.length:Nat)),(130,.slice s.pk.ma s.pk.ml.length s.pk.mc),(3,.slice d5 ((((hdS s++[s.pk.fr,s.pk.tw])++(s.pk.kn.toList.take 11).flatMap wd)++([(s.pk.ml.length:Int)])).length) d6),(2,.slice none 0 0)] (GoC.slots (S':=[(132,.int .i64 0),(131,.int .i64 (s.pk.ml.length:Nat)),(130,.slice s.pk.ma s.pk.ml.length s.pk.mc),(3,.slice d5 ((((hdS s++[s.pk.fr,s.pk.tw])++(s.pk.kn.toList.take 11).flatMap wd++[(s.pk.ml.length:Int)])++(s.pk.ml.take 0).flatMap (fun m=>loS (putM m))).length) d6),(2,.slice none 0 0)]) (by simp only [List.take_zero,List.flatMap_nil,List.append_nil]) (GoC.loop (T:=Nat×(Option Addr)×(Option Addr)×Nat) (fun gg=>[(2,.slice none 0 0),(3,.slice gg.2.2.1 ((((hdS s++[s.pk.fr,s.pk.tw])++(s.pk.kn.toList.take 11).flatMap wd++[(s.pk.ml.length:Int)])++(s.pk.ml.take gg.1).flatMap (fun m=>loS (putM m))).length) gg.2.2.2),(130,.slice gg.2.1 s.pk.ml.length s.pk.mc),(131,.int .i64 (s.pk.ml.length:Nat)),(132,.int .i64 (gg.1:Nat))]) (fun gg w=>(gg.1≤s.pk.ml.length∧∀ w,St w0 L w→RowsAt w gg.2.1 s.pk.ml.length 121 (fun q=>TMs.cells (s.pk.ml.getD q dMs)))∧St w0 ((Sl gg.2.2.1 gg.2.2.2 5 1 byteC (((hdS s++[s.pk.fr,s.pk.tw])++(s.pk.kn.toList.take 11).flatMap wd++[(s.pk.ml.length:Int)])++(s.pk.ml.take gg.1).flatMap (fun m=>loS (putM m))))::L) w) (fun gg=>s.pk.ml.length-gg.1) (0,s.pk.ma,d5,d6) [2,3,130,131,132] (by kernel_rfl) ⟨⟨Nat.zero_le _,hr2⟩,(Zsr (l1.dr 2) (show((hdS s++[s.pk.fr,s.pk.tw])++(s.pk.kn.toList.take 11).flatMap wd)++([(s.pk.ml.length:Int)])=((hdS s++[s.pk.fr,s.pk.tw])++(s.pk.kn.toList.take 11).flatMap wd++[(s.pk.ml.length:Int)])++(s.pk.ml.take 0).flatMap (fun m=>loS (putM m)) by simp only [List.take_zero,List.flatMap_nil,List.append_nil]))⟩ ?_))
     rintro⟨k,aq,f9,c1⟩ x3 ⟨hp,a5⟩
     dsimp only at hp a5
     have hw:=hp.2
     refine En (Lq (Ls (Dz (Zi ((k:Int)<(s.pk.ml.length:Nat)) (fun l4=>?_) (fun l4=>?_)))))
     ·have hk:k<s.pk.ml.length:=by omega
      have hmk:=p4 _ (getD_mem (d:=dMs) hk)
      have hml:=putM_len hmk
      have hmt:=ml_len p4 p3 k
      obtain⟨a6,a7,rfl⟩:=RowsAt.isSome (hw _ (a5.drop 1)) (by omega)
      refine Zk (Zt (Zs (Zb (Zs (Zgj [2,3] (Hx 0 (k:Int) (s.pk.ml.length:Int) a6 a7 121 (Hg 1 (.agg (TMs.cells (s.pk.ml.getD k dMs))) [.prop (Array.size (TMs.cells (s.pk.ml.getD k dMs))=121),.cells ⟨a6,a7+(k*121),none⟩ (TMs.cells (s.pk.ml.getD k dMs))] (okp (by kernel_rfl) (oka (RowsAt.all0 (hw _ (a5.drop 1)) (by first|omega|(simp only [List.length_set];omega)|(simp only [List.length_set,lA,lC,lN];omega)) (Nat.le_of_ble_eq_true (by kernel_rfl)) (by kernel_rfl)) ok0)) Hz)) (Zag (TMs.cells dMs) a5 fun x4 x5 l5=>Lo (Dz (Zu 0 0 (TMs.cells (s.pk.ml.getD k dMs)) l5 fun x6 g0=>Lo (Ld (Lt (Dz (Zgj [2,3] (Hla 1 0 0 121 (TMs.cells (s.pk.ml.getD k dMs)) g0 Hz) (Zc (mput_spec (s.pk.ml.getD k dMs) (hms k hk).1 (fun w h=>(hms k hk).2 w (h.drop 2)) g0) ?_)))))))))))))
      rintro x7 x8 ⟨x9,y0,rfl,l6⟩
      refine Lo (Dz ?_)
      have g5:=(l6.pl 2)
      refine Zc (long_spec (((hdS s++[s.pk.fr,s.pk.tw])++(s.pk.kn.toList.take 11).flatMap wd++[(s.pk.ml.length:Int)])++(s.pk.ml.take k).flatMap (fun m=>loS (putM m))) (putM (s.pk.ml.getD k dMs)) (by first|omega|(simp only [lA,lC,lN,wd_length,hf_length,tx_length,strB_length,loS_length] at *;omega)) (by have:=putM_len hmk;omega) (g5.slNone 1 rfl) (fun w h=>h.rows 0 rfl (byteF).size _) g5) ?_
      rintro y1 y2 ⟨d7,d8,rfl,l7⟩
      refine Lo (Lud (Lm (Lt (Dz (Zaj (Hwi 0 ((k:Nat)+1) Hz) ?_)))))
      have l8:=(((l7.pl 0).pl 2).pl 2)
      exact GoQ.pick [132,3,2,130,131] (S':=[(132,.int .i64 ((k:Nat)+1)),(3,.slice d7 (((((hdS s++[s.pk.fr,s.pk.tw])++(s.pk.kn.toList.take 11).flatMap wd++[(s.pk.ml.length:Int)])++(s.pk.ml.take k).flatMap (fun m=>loS (putM m)))++loS (putM (s.pk.ml.getD k dMs))).length) d8),(2,.slice none 0 0),(130,zL a6 a7 s.pk.ml.length s.pk.mc),(131,.int .i64 (s.pk.ml.length:Nat))]) (by kernel_rfl) (GoQ.slots (S':=[(132,.int .i64 ((k:Nat)+1)),(3,.slice d7 ((((hdS s++[s.pk.fr,s.pk.tw])++(s.pk.kn.toList.take 11).flatMap wd++[(s.pk.ml.length:Int)])++(s.pk.ml.take (k+1)).flatMap (fun m=>loS (putM m))).length) d8),(2,.slice none 0 0),(130,zL a6 a7 s.pk.ml.length s.pk.mc),(131,.int .i64 (s.pk.ml.length:Nat))]) (by rw [(show(((hdS s++[s.pk.fr,s.pk.tw])++(s.pk.kn.toList.take 11).flatMap wd++[(s.pk.ml.length:Int)])++(s.pk.ml.take k).flatMap (fun m=>loS (putM m)))++loS (putM (s.pk.ml.getD k dMs))=((hdS s++[s.pk.fr,s.pk.tw])++(s.pk.kn.toList.take 11).flatMap wd++[(s.pk.ml.length:Int)])++(s.pk.ml.take (k+1)).flatMap (fun m=>loS (putM m)) by simp only [ml_succ hk,List.append_assoc])]) (GoQ.back (k+1,some ⟨a6,a7,none⟩,d7,d8) [2,3,130,131,132] (by kernel_rfl) (by show s.pk.ml.length-(k+1)<s.pk.ml.length-k;omega) ⟨⟨by omega,hw⟩,(Zsr (l8.dr 2) (show(((hdS s++[s.pk.fr,s.pk.tw])++(s.pk.kn.toList.take 11).flatMap wd++[(s.pk.ml.length:Int)])++(s.pk.ml.take k).flatMap (fun m=>loS (putM m)))++loS (putM (s.pk.ml.getD k dMs))=((hdS s++[s.pk.fr,s.pk.tw])++(s.pk.kn.toList.take 11).flatMap wd++[(s.pk.ml.length:Int)])++(s.pk.ml.take (k+1)).flatMap (fun m=>loS (putM m)) by simp only [ml_succ hk,List.append_assoc]))⟩))
     ·have hke:s.pk.ml.take k=s.pk.ml:=List.take_of_length_le (by omega)
      refine En (Lx (LsC (LsL (Lh (Lm (Lt (Lq (Le (Dz (Zq1 (v:=.slice f9 ((((hdS s++[s.pk.fr,s.pk.tw])++(s.pk.kn.toList.take 11).flatMap wd++[(s.pk.ml.length:Int)])++(s.pk.ml.take k).flatMap (fun m=>loS (putM m))).length) c1) ?_))))))))))
      have u:((hdS s++[s.pk.fr,s.pk.tw])++(s.pk.kn.toList.take 11).flatMap wd++[(s.pk.ml.length:Int)])++(s.pk.ml.take k).flatMap (fun m=>loS (putM m))=putS s:=by
       rw [show putS s=hdS s++tlS s from if_pos hb,show tlS s=pkB s.pk from(if_neg a4).trans (if_pos a9)]
       rw [hke];unfold pkB;rw [List.take_of_length_le (by rw [VecD.len];exact Nat.le_refl _)];simp only [List.append_assoc]
      exact⟨f9,c1,by rw [← u],by rw [← u];exact a5⟩
   ·have a9:=ieqF c9
    refine En (Lk (Lm (Lt (Lq (Le (Dz (Zq1 (v:=.slice a2 ((hdS s).length) a3) ?_)))))))
    have m1:=(((((((x.pl 0).pl 6).pl 6).pl 6).pl 6).pl 6).pl 6)
    have u:hdS s=putS s:=by
     rw [show putS s=hdS s++tlS s from if_pos hb,show tlS s=[] from(if_neg a4).trans (if_neg a9)]
     rw [List.append_nil]
    exact⟨a2,a3,by rw [← u],by rw [← u];exact(m1.dr 6)⟩
end
end Go.Proofs.YtlomlmbbiopaaaaGreatDoor
