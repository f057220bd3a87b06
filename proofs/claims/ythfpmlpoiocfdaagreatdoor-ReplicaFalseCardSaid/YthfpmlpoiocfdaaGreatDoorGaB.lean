/-
  Several texts in one: TbF, TcC, TbG, TbH, TbI, TbJ, TbK.
-/
import Derived.Test.YthfpmlpoiocfdaaGreatDoorGaA
namespace Go.Proofs.YthfpmlpoiocfdaaGreatDoor
open Go.RowKit Go.Sx
set_option linter.unusedVariables false
set_option linter.unusedSimpArgs false
set_option linter.unnecessarySimpa false
set_option maxRecDepth 100000
section
variable {w0 w : World} {L : List bA} {ad : Option Addr} {c : Nat}
def dC (r:bC):Bool :=
 (((((decide ((r.cl:Int) >= 1)) && (decide ((r.cl:Int)<=8))) && (decide ((r.tm:Int) >= 1))) && (decide ((r.tm:Int)<=4611686018427387904))) && (decide ((max ((r.op.ky.size:Nat):Int) ((r.op.tx.size:Nat):Int):Int)<=32))) && (decide ((max ((r.op.va.size:Nat):Int) ((r.op.ol.size:Nat):Int):Int)<=128))
theorem vP r (hs:St w0 L w):Cs Tryz.prog 65 #[.agg (bC.cells r)] w λrv w'=>rv=.bool (dC r)/\St w0 L w':=by
 refine dF Tryz.func65 Tryz.ntmps65 (En (Ls (Lg [0] (Dz (mT (bC.cells r) hs λo w2 a=>Lz (Ls (Dz (aX.join (T:=Unit) (E:=λ_=>[(2,.bool ((((((decide ((r.cl:Int) >= 1)) && (decide ((r.cl:Int)<=8))) && (decide ((r.tm:Int) >= 1))) && (decide ((r.tm:Int)<=4611686018427387904))) && (decide ((max (r.op.ky.size:Int) (r.op.tx.size:Int):Int)<=32))) && (decide ((max (r.op.va.size:Int) (r.op.ol.size:Int):Int)<=128))))]) (F:=λ_ w=>St w0 (aB o (bC.cells r) 41::L) w) ?_ ?_))))))))
 ·refine Zg [] (kJ 0 4 (Hl 1 0 0 a Hz) (iy 6 (decide ((r.cl:Int) >= 1)) (λb=>?_) (λb=>?_)))
  ·refine kJ 4 5 (Hl 5 0 0 a Hz) (iy 11 (decide ((r.cl:Int)<=8)) (λd=>?_) (λd=>?_))
   ·refine kJ 9 5 (Hl 10 0 1 a Hz) (iy 16 (decide ((r.tm:Int) >= 1)) (λe=>?_) (λe=>?_))
    ·refine kJ 14 5 (Hl 15 0 1 a Hz) (iy 21 (decide ((r.tm:Int)<=4611686018427387904)) (λf=>?_) (λf=>?_))
     ·refine Zp 19 12 [(21,.gen [.string r.op.ky]),(25,.gen [.string r.op.tx]),(27,.dH (.int .i64 (max (r.op.ky.size:Int) (r.op.tx.size:Int))) (.gen []))] [(21,[.cell ⟨o,3,none⟩ (.string r.op.ky)]),(25,[.cell ⟨o,6,none⟩ (.string r.op.tx)]),(27,[.prop (Value.int .i64 (if (r.op.tx.size:Int)>(r.op.ky.size:Int) then (r.op.tx.size:Int) else (r.op.ky.size:Int))=Value.int .i64 (max (r.op.ky.size:Int) (r.op.tx.size:Int)))])] (ak (bE (a.cell 0 rfl zk) aR) (ak (bE (a.cell 0 rfl zk) aR) (ak (aJ GU aR) iF))) (iy 33 (decide ((max (r.op.ky.size:Int) (r.op.tx.size:Int):Int)<=32)) (λi=>?_) (λi=>?_))
      ·exact kV (Hl 33 0 4 a (Hl 37 0 5 a (Hg 39 (.dH (.int .i64 (max (r.op.va.size:Int) (r.op.ol.size:Int))) (.gen [])) [.prop (Value.int .i64 (if (r.op.ol.size:Int)>(r.op.va.size:Int) then (r.op.ol.size:Int) else (r.op.va.size:Int))=Value.int .i64 (max (r.op.va.size:Int) (r.op.ol.size:Int)))] (aJ GU aR) Hz))) (lM [2] () (decide ((max (r.op.va.size:Int) (r.op.ol.size:Int):Int)<=128)) (by first|rfl|simp [Hb,b,d,e,f,i]) a)
      ·exact En (cI (Dz (lM [2] () false (by first|rfl|simp [Hb,b,d,e,f,i]) a)))
     ·exact En (cI (Dz (lM [2] () false (by first|rfl|simp [Hb,b,d,e,f]) a)))
    ·exact En (cI (Dz (lM [2] () false (by first|rfl|simp [Hb,b,d,e]) a)))
   ·exact En (cI (Dz (lM [2] () false (by first|rfl|simp [Hb,b,d]) a)))
  ·exact En (cI (Dz (lM [2] () false (by first|rfl|simp [Hb,b]) a)))
 intro _ w9 a2
 exact Zt (Ze (bY (v:=.bool ((((((decide ((r.cl:Int) >= 1)) && (decide ((r.cl:Int)<=8))) && (decide ((r.tm:Int) >= 1))) && (decide ((r.tm:Int)<=4611686018427387904))) && (decide ((max (r.op.ky.size:Int) (r.op.tx.size:Int):Int)<=32))) && (decide ((max (r.op.va.size:Int) (r.op.ol.size:Int):Int)<=128)))) (E8 (by rw [dC]) (a2.dr 1))))
def oo (r:bC):List Int:=[IntKind.u8.wrap r.cl,r.op.kd]++(wd r.tm++(wd r.op.am++(tx r.op.ky++(tx r.op.va++(tx r.op.ol++tx r.op.tx)))))
structure Ii (r:bC):Prop where
 ky:r.op.ky.size<=128
 va:r.op.va.size<=128
 ol:r.op.ol.size<=128
 tx:r.op.tx.size<=128
theorem ln {r:bC}(h:Ii r):(oo r).length<=538:=by
 have:=h.ky;have:=h.va;have:=h.ol;have:=h.tx
 simp only [oo,List.length_append,List.length_cons,List.length_nil,dV,pw]
 omega
theorem zl {p:Prop}(h:p:=by simp only [List.length_append,List.length_cons,List.length_nil,dV,gU,pw] at *;omega):p:=h
theorem rz l r (hl:l.length<=100000) (hk:mW r) (hz:Ii r) (hs:St w0 (Sl ad c 5 1 aD l::L) w):Cs Tryz.prog 116 #[.slice ad l.length c,.agg (bC.cells r)] w λrv w'=>∃ ao co,rv=.slice ao ((l++oo r).length) co/\St w0 (Sl ao co 5 1 aD (l++oo r)::L) w':=by
 refine dF Tryz.func116 Tryz.ntmps116 (Zs ?_)
 have a9:=hz.ky
 have b0:=hz.va
 have b2:=hz.ol
 have b3:=hz.tx
 have b5:=hk.tm
 have b6:=hk.am
 refine Zg [0] (mT (bC.cells r) hs λb1 w2 d=>Lz (Ls (Dz (dZ [7,8] (Hl 2 0 0 d (Hl 6 0 2 d Hz)) (CB Rs aF [(IntKind.u8.wrap r.cl:Int),(r.op.kd:Int)] d λb4 w5 a2=>Lo (Dz (sD Rs aF (0:Int) (a2.pl 2) zl λb7 b8 w9 a4=>Lz (Ls (Dz (ZD (gE [0,1,2,4,5,6] (.ef 3 (.ef 7 (.rd 8 .done)))) a4 λb9 f c0=>Zj (Hl 2 2 1 f (Hl 6 2 7 f Hz)) (Zc (eU (l++([(IntKind.u8.wrap r.cl:Int),(r.op.kd:Int)])) r.tm ze za f) ?_)))))))))))
 rintro c1 c2 ⟨c3,c4,rfl,i⟩
 refine⟨gR (n:=[.cell ⟨b1,7,none⟩ (.int .u64 r.op.am)]) zk (bE (i.cell 2 rfl zk) aR),Zc (eU (l++([(IntKind.u8.wrap r.cl:Int),(r.op.kd:Int)])++wd r.tm) r.op.am ze za i) ?_⟩
 rintro c5 c6 ⟨c7,c8,rfl,a⟩
 refine Lz (Ls (Ls (Dz (dZ [12] (Hl 2 2 3 a (Hl 5 2 4 a (Hl 8 2 5 a (Hl 11 2 6 a Hz)))) (aL.bU rfl zk (t:=313) (e:=9) (n:=4) (ps:=[(0,.string r.op.ky),(1,.string r.op.va),(2,.string r.op.ol),(3,.string r.op.tx)]) zk zk (ti:=Tryz.t9) (z:=.string ku) zk zk zb zb (cs:=#[.string r.op.ky,.string r.op.va,.string r.op.ol,.string r.op.tx]) zk a λb c9 o d0=>Lz (Lb (Dz (aX.qw 12 (En (Lq (Ls (LT (Lk (Lt (Ls (Lb (Ls (Dz (dE (Hx 0 (0:Int) (4:Int) b 0 1 (Hl 1 0 0 o Hz)) (En (Lt (Lg [2] (Lw (Zc (py (l++([(IntKind.u8.wrap r.cl:Int),(r.op.kd:Int)])++wd r.tm++wd r.op.am) r.op.ky zl za (o.pl 1)) ?_))))))))))))))))))))))))
 rintro d1 d2 ⟨d3,d4,rfl,q⟩
 refine Lo (cI (Lm (Lt (La (Dz (aS.again (En (Lq (Ls (LT (Lk (Lt (Ls (Lb (Ls (Dz (dE (Hx 0 (1:Int) (4:Int) b 0 1 (Hl 1 1 1 q Hz)) (En (Lt (Lg [2] (Lw (Zc (py ((l++([(IntKind.u8.wrap r.cl:Int),(r.op.kd:Int)])++wd r.tm++wd r.op.am)++tx r.op.ky) r.op.va zl za q) ?_))))))))))))))))))))))
 rintro d5 d6 ⟨d7,d8,rfl,u⟩
 refine Lo (cI (Lm (Lt (La (Dz (aS.again (En (Lq (Ls (LT (Lk (Lt (Ls (Lb (Ls (Dz (dE (Hx 0 (2:Int) (4:Int) b 0 1 (Hl 1 1 2 u Hz)) (En (Lt (Lg [2] (Lw (Zc (py (((l++([(IntKind.u8.wrap r.cl:Int),(r.op.kd:Int)])++wd r.tm++wd r.op.am)++tx r.op.ky)++tx r.op.va) r.op.ol zl za u) ?_))))))))))))))))))))))
 rintro d9 e0 ⟨e1,e2,rfl,x⟩
 refine Lo (cI (Lm (Lt (La (Dz (aS.again (En (Lq (Ls (LT (Lk (Lt (Ls (Lb (Ls (Dz (dE (Hx 0 (3:Int) (4:Int) b 0 1 (Hl 1 1 3 x Hz)) (En (Lt (Lg [2] (Lw (Zc (py ((((l++([(IntKind.u8.wrap r.cl:Int),(r.op.kd:Int)])++wd r.tm++wd r.op.am)++tx r.op.ky)++tx r.op.va)++tx r.op.ol) r.op.tx zl za x) ?_))))))))))))))))))))))
 rintro e3 e4 ⟨a0,a1,rfl,a6⟩
 refine Lo (cI (Lm (Lt (La (Dz (aS.again (En (Lq (Ls (LF (Lx (mM (mN (Lh (Lt (Lq (Le (Dz (bY (v:=.slice a0 ((((((l++([(IntKind.u8.wrap r.cl:Int),(r.op.kd:Int)])++wd r.tm++wd r.op.am)++tx r.op.ky)++tx r.op.va)++tx r.op.ol)++tx r.op.tx).length) a1) ?_)))))))))))))))))))
 have a7:=(((a6.pl 0).pl 3).pl 3).pl 3
 have h9:((((l++([(IntKind.u8.wrap r.cl:Int),(r.op.kd:Int)])++wd r.tm++wd r.op.am)++tx r.op.ky)++tx r.op.va)++tx r.op.ol)++tx r.op.tx=l++oo r:=by simp only [oo,List.append_assoc]
 exact⟨a0,a1,by rw [h9],by rw [<- h9];exact(a7.dr 3)⟩
def kL (was:Int):List bu->Bool
 | []=>true
 | p::l=>if p.rp<=was\/p.rp>11\/p.nm<1\/p.nm>65536 then false else kL p.rp l
def oq (l:List bu):Bool:=kL 0 l && decide ((l.length:Int)>0)
theorem rA {l:List bu}{k:Nat}(h:k<l.length) (was:Int):kL was (l.drop k)=if (l.getD k bG).rp<=was\/(l.getD k bG).rp>11\/(l.getD k bG).nm<1\/(l.getD k bG).nm>65536 then false else kL (l.getD k bG).rp (l.drop (k+1)):=by
 rw [List.drop_eq_getElem_cons h,show l.getD k bG=l[k] by rw [List.getD_eq_getElem?_getD,List.getElem?_eq_getElem h];rfl]
 rfl
theorem CZ l (hll:l.length<=9223372036854775807) (hr:Rw w0 L bu.cells 2 bG ad l) (hs:St w0 L w):Cs Tryz.prog 273 #[.slice ad l.length c] w λrv w'=>rv=.bool (oq l)/\St w0 L w':=by
 refine dF Tryz.func273 Tryz.ntmps273 (En (Lq (Lq (Ls (Lq (Lb (Dz (aX.loop (T:=Nat×Int×(Option Addr)) (λgg=>[(0,.slice ad l.length c),(3,.int .i64 gg.2.1),(6,.slice gg.2.2 l.length c),(7,.int .i64 (l.length:Nat)),(8,.int .i64 (gg.1:Nat))]) (λgg w=>(gg.1<=l.length/\kL 0 l=kL gg.2.1 (l.drop gg.1)/\∀ w,St w0 L w->aC w gg.2.2 l.length 2 (λq=>bu.cells (l.getD q bG)))/\St w0 L w) (λgg=>l.length-gg.1) (0,0,ad) [0,3,6,7,8] zk ⟨⟨Nat.zero_le _,rfl,hr⟩,hs⟩ ?_))))))))
 rintro⟨k,was,aq⟩ w1 ⟨hp,u⟩
 dsimp only at hp u
 have hw:=hp.2.2
 refine En (Lq (Ls (Dz (Zi ((k:Int)<(l.length:Nat)) (λa1=>?_) (λa1=>?_)))))
 ·have hk:k<l.length:=za
  obtain⟨d,e,rfl⟩:=aC.isSome (hw _ (u.drop 0)) za
  refine Zk (Zt (Zs (Zb (Zs (dZ [2,3] (Hx 0 (k:Int) (l.length:Int) d e 2 (Hg 1 (.agg (bu.cells (l.getD k bG))) [.prop (Array.size (bu.cells (l.getD k bG))=2),.cells ⟨d,e+(k*2),none⟩ (bu.cells (l.getD k bG))] (aJ zk (iN (aC.mj (hw _ (u.drop 0)) zo (Nat.le_of_ble_eq_true zk) zk) aR)) Hz)) (tW (bu.cells bG) u λo w8 a2=>Lo (Dz (Zu 0 0 (bu.cells (l.getD k bG)) a2 λa9 f=>Lo (Ld (Lt (Ls (Ls (Dz (aX.join (T:=Unit) (E:=λ_=>[(30,.bool ((((decide (((l.getD k bG).rp:Int)<=was)) || (decide (((l.getD k bG).rp:Int)>11))) || (decide (((l.getD k bG).nm:Int)<1))) || (decide (((l.getD k bG).nm:Int)>65536)))),(5,zP o 0),(0,.slice ad l.length c),(3,.int .i64 was),(6,zL d e l.length c),(7,.int .i64 (l.length:Nat)),(8,.int .i64 (k:Nat))]) (F:=λ_ w=>St w0 (aB o (bu.cells (l.getD k bG)) 174::L) w) ?_ ?_))))))))))))))
  ·refine Zg [] (kJ 0 5 (Hl 1 0 0 f Hz) (iy 16 (decide (((l.getD k bG).rp:Int)<=was)) (λa=>?_) (λa=>?_)))
   ·exact En (cI (Dz (aS.pick [30,5,0,3,6,7,8] (S':=[(30,.bool true),(5,zP o 0),(0,.slice ad l.length c),(3,.int .i64 was),(6,zL d e l.length c),(7,.int .i64 (l.length:Nat)),(8,.int .i64 (k:Nat))]) zk (aS.eF () (by first|rfl|(simp only [a,Bool.not_true,Bool.not_false,Bool.true_or,Bool.false_or,Bool.true_and,Bool.false_and,Bool.or_true,Bool.or_false,Bool.and_true,Bool.and_false];done)|(simp [a];done)) f))))
   ·refine kJ 5 5 (Hl 6 0 0 f Hz) (iy 21 (decide (((l.getD k bG).rp:Int)>11)) (λb=>?_) (λb=>?_))
    ·exact En (cI (Dz (aS.pick [30,5,0,3,6,7,8] (S':=[(30,.bool true),(5,zP o 0),(0,.slice ad l.length c),(3,.int .i64 was),(6,zL d e l.length c),(7,.int .i64 (l.length:Nat)),(8,.int .i64 (k:Nat))]) zk (aS.eF () (by first|rfl|(simp only [a,b,Bool.not_true,Bool.not_false,Bool.true_or,Bool.false_or,Bool.true_and,Bool.false_and,Bool.or_true,Bool.or_false,Bool.and_true,Bool.and_false];done)|(simp [a,b];done)) f))))
    ·refine kJ 10 5 (Hl 11 0 1 f Hz) (iy 26 (decide (((l.getD k bG).nm:Int)<1)) (λi=>?_) (λi=>?_))
     ·exact En (cI (Dz (aS.pick [30,5,0,3,6,7,8] (S':=[(30,.bool true),(5,zP o 0),(0,.slice ad l.length c),(3,.int .i64 was),(6,zL d e l.length c),(7,.int .i64 (l.length:Nat)),(8,.int .i64 (k:Nat))]) zk (aS.eF () (by first|rfl|(simp only [a,b,i,Bool.not_true,Bool.not_false,Bool.true_or,Bool.false_or,Bool.true_and,Bool.false_and,Bool.or_true,Bool.or_false,Bool.and_true,Bool.and_false];done)|(simp [a,b,i];done)) f))))
     ·exact kV (Hl 16 0 1 f Hz) (aS.pick [30,5,0,3,6,7,8] (S':=[(30,.bool (decide (((l.getD k bG).nm:Int)>65536))),(5,zP o 0),(0,.slice ad l.length c),(3,.int .i64 was),(6,zL d e l.length c),(7,.int .i64 (l.length:Nat)),(8,.int .i64 (k:Nat))]) zk (aS.eF () (by first|rfl|(simp only [a,b,i,Bool.not_true,Bool.not_false,Bool.true_or,Bool.false_or,Bool.true_and,Bool.false_and,Bool.or_true,Bool.or_false,Bool.and_true,Bool.and_false];done)|(simp [a,b,i];done)) f))
  intro _ b0 z
  refine Zt (eZ (t:=(((decide (((l.getD k bG).rp:Int)<=was)) || (decide (((l.getD k bG).rp:Int)>11))) || (decide (((l.getD k bG).nm:Int)<1))) || (decide (((l.getD k bG).nm:Int)>65536))) (λx=>?_) (λx=>?_))
  ·exact En (Lq (Le (Ly (Ll (Ly (E5 (Ll (Ly (Dz (bY (v:=.bool false) ⟨(by unfold oq;rw [hp.2.1,rA hk,if_pos (by simp only [Bool.or_eq_true,decide_eq_true_eq] at x;omega)];rfl),z.dr 1⟩))))))))))
  ·have a0:=(Bool.or_eq_false_iff.1 x).1
   have h17aa:=(Bool.or_eq_false_iff.1 a0).1
   have h17aaa:=(Bool.or_eq_false_iff.1 h17aa).1
   have h17aaa':=of_decide_eq_false h17aaa
   have h17aab:=(Bool.or_eq_false_iff.1 h17aa).2
   have h17aab':=of_decide_eq_false h17aab
   have h17ab:=(Bool.or_eq_false_iff.1 a0).2
   have h17ab':=of_decide_eq_false h17ab
   have a7:=(Bool.or_eq_false_iff.1 x).2
   have b1:=of_decide_eq_false a7
   exact Zk (Zt (dE (Hl 1 0 0 z Hz) (Zm (Zt (dE (eT 0 ((k:Nat)+1) Hz) (aS.back (k+1,(l.getD k bG).rp,some ⟨d,e,none⟩) [0,3,6,7,8] zk (by show l.length-(k+1)<l.length-k;omega) ⟨⟨za,by rw [hp.2.1,rA hk,if_neg za],hw⟩,z.dr 1⟩))))))
 ·have hke:l.drop k=[]:=List.drop_of_length_le za
  exact En (Lx (mM (mN (Lh (Lt (Lq (Le (Dz (bY (v:=.bool (decide ((l.length:Int)>0))) ⟨(by unfold oq;rw [hp.2.1,hke];rfl),u⟩)))))))))
def kB (x:aH):Bool :=
 (decide ((x.k:Int) >= 1)) && (decide ((x.k:Int)<=4611686018427387904))
theorem JY x (hs:St w0 L w):Cs Tryz.prog 267 #[.agg (aH.cells x)] w λrv w'=>rv=.bool (kB x)/\St w0 L w':=by
 refine dF Tryz.func267 Tryz.ntmps267 (En (Ls (Lg [0] (Dz (mT (aH.cells x) hs λe o b=>Lz (Ls (Dz (aX.join (T:=Unit) (E:=λ_=>[(2,.bool ((decide ((x.k:Int) >= 1)) && (decide ((x.k:Int)<=4611686018427387904))))]) (F:=λ_ w=>St w0 (aB e (aH.cells x) 53::L) w) ?_ ?_))))))))
 ·refine Zg [] (kJ 0 4 (Hl 1 0 2 b Hz) (iy 6 (decide ((x.k:Int) >= 1)) (λa=>?_) (λa=>?_)))
  ·exact kV (Hl 5 0 2 b Hz) (lM [2] () (decide ((x.k:Int)<=4611686018427387904)) (by first|rfl|simp [Hb,a]) b)
  ·exact En (cI (Dz (lM [2] () false (by first|rfl|simp [Hb,a]) b)))
 intro _ q i
 exact Zt (Ze (bY (v:=.bool ((decide ((x.k:Int) >= 1)) && (decide ((x.k:Int)<=4611686018427387904)))) (E8 (by rw [kB]) (i.dr 1))))
end
section
variable {w0 w : World} {L : List bA} {ad : Option Addr} {c : Nat}
def ou (r:bC):Bool :=
 (((((((decide ((r.cl:Int) >= 1)) && (decide ((r.cl:Int)<=8))) && (decide ((r.tm:Int) >= 1))) && (decide ((r.tm:Int)<=4611686018427387904))) && (decide ((r.op.ky.size:Int)<=32))) && (decide ((r.op.tx.size:Int)<=32))) && (decide ((r.op.va.size:Int)<=128))) && (decide ((r.op.ol.size:Int)<=128))
theorem ov r (hs:St w0 L w):Cs Tryz.prog 61 #[.agg (bC.cells r)] w λrv w'=>rv=.bool (ou r)/\St w0 L w':=by
 refine dF Tryz.func61 Tryz.ntmps61 (En (Ls (Lg [0] (Dz (mT (bC.cells r) hs λx w2 a=>Lz (Ls (Dz (aX.join (T:=Unit) (E:=λ_=>[(2,.bool ((((((((decide ((r.cl:Int) >= 1)) && (decide ((r.cl:Int)<=8))) && (decide ((r.tm:Int) >= 1))) && (decide ((r.tm:Int)<=4611686018427387904))) && (decide ((r.op.ky.size:Int)<=32))) && (decide ((r.op.tx.size:Int)<=32))) && (decide ((r.op.va.size:Int)<=128))) && (decide ((r.op.ol.size:Int)<=128))))]) (F:=λ_ w=>St w0 (aB x (bC.cells r) 41::L) w) ?_ ?_))))))))
 ·refine Zg [] (kJ 0 4 (Hl 1 0 0 a Hz) (iy 6 (decide ((r.cl:Int) >= 1)) (λb=>?_) (λb=>?_)))
  ·refine kJ 4 5 (Hl 5 0 0 a Hz) (iy 11 (decide ((r.cl:Int)<=8)) (λd=>?_) (λd=>?_))
   ·refine kJ 9 5 (Hl 10 0 1 a Hz) (iy 16 (decide ((r.tm:Int) >= 1)) (λe=>?_) (λe=>?_))
    ·refine kJ 14 5 (Hl 15 0 1 a Hz) (iy 21 (decide ((r.tm:Int)<=4611686018427387904)) (λf=>?_) (λf=>?_))
     ·refine kJ 19 7 (Hl 21 0 3 a Hz) (iy 28 (decide ((r.op.ky.size:Int)<=32)) (λi=>?_) (λi=>?_))
      ·refine kJ 26 7 (Hl 28 0 6 a Hz) (iy 35 (decide ((r.op.tx.size:Int)<=32)) (λo=>?_) (λo=>?_))
       ·refine kJ 33 7 (Hl 35 0 4 a Hz) (iy 42 (decide ((r.op.va.size:Int)<=128)) (λq=>?_) (λq=>?_))
        ·exact kV (Hl 42 0 5 a Hz) (lM [2] () (decide ((r.op.ol.size:Int)<=128)) (by first|rfl|simp [Hb,b,d,e,f,i,o,q]) a)
        ·exact En (cI (Dz (lM [2] () false (by first|rfl|simp [Hb,b,d,e,f,i,o,q]) a)))
       ·exact En (cI (Dz (lM [2] () false (by first|rfl|simp [Hb,b,d,e,f,i,o]) a)))
      ·exact En (cI (Dz (lM [2] () false (by first|rfl|simp [Hb,b,d,e,f,i]) a)))
     ·exact En (cI (Dz (lM [2] () false (by first|rfl|simp [Hb,b,d,e,f]) a)))
    ·exact En (cI (Dz (lM [2] () false (by first|rfl|simp [Hb,b,d,e]) a)))
   ·exact En (cI (Dz (lM [2] () false (by first|rfl|simp [Hb,b,d]) a)))
  ·exact En (cI (Dz (lM [2] () false (by first|rfl|simp [Hb,b]) a)))
 intro _ a7 a6
 exact Zt (Ze (bY (v:=.bool ((((((((decide ((r.cl:Int) >= 1)) && (decide ((r.cl:Int)<=8))) && (decide ((r.tm:Int) >= 1))) && (decide ((r.tm:Int)<=4611686018427387904))) && (decide ((r.op.ky.size:Int)<=32))) && (decide ((r.op.tx.size:Int)<=32))) && (decide ((r.op.va.size:Int)<=128))) && (decide ((r.op.ol.size:Int)<=128)))) (E8 (by rw [ou]) (a6.dr 1))))
theorem pA (r:bC):ou r=dC r:=by
 unfold ou dC
 rw [Bool.eq_iff_iff]
 simp only [Bool.and_eq_true,decide_eq_true_eq]
 omega
theorem pY l r (hl:l.length<=100000) (hk:mW r) (hz:Ii r) (hs:St w0 (Sl ad c 5 1 aD l::L) w):Cs Tryz.prog 64 #[.slice ad l.length c,.agg (bC.cells r)] w λrv w'=>∃ ao co,rv=.slice ao ((l++oo r).length) co/\St w0 (Sl ao co 5 1 aD (l++oo r)::L) w':=by
 refine dF Tryz.func64 Tryz.ntmps64 (Zs ?_)
 have a6:=hz.ky
 have a7:=hz.va
 have a8:=hz.ol
 have a9:=hz.tx
 have b0:=hk.tm
 have b2:=hk.am
 refine Zg [0] (mT (bC.cells r) hs λz w2 a=>Lz (Ls (Dz (dZ [7,8] (Hl 2 0 0 a (Hl 6 0 2 a Hz)) (CB Rs aF [(IntKind.u8.wrap r.cl:Int),(r.op.kd:Int)] a λb4 w5 a0=>Lo (Dz (sD Rs aF (0:Int) (a0.pl 2) zq λb3 b5 w9 a2=>Lz (Ls (Dz (ZD (gE [0,1,2,4,5,6] (.ef 3 (.ef 7 (.rd 8 .done)))) a2 λb6 b b7=>Zj (Hl 2 2 1 b (Hl 6 2 7 b Hz)) (Zc (ig (l++([(IntKind.u8.wrap r.cl:Int),(r.op.kd:Int)])) r.tm zl hk.tm b) ?_)))))))))))
 rintro b8 b9 ⟨c0,c1,rfl,d⟩
 refine⟨gR (n:=[.cell ⟨z,7,none⟩ (.int .u64 r.op.am)]) zk (bE (d.cell 2 rfl zk) aR),Zc (ig ((l++([(IntKind.u8.wrap r.cl:Int),(r.op.kd:Int)]))++wd r.tm) r.op.am zl hk.am d) ?_⟩
 rintro c2 c3 ⟨c4,c5,rfl,e⟩
 refine Lz (Ls (Dz (dZ [4] (Hl 3 2 3 e Hz) (Zc (mV (((l++([(IntKind.u8.wrap r.cl:Int),(r.op.kd:Int)]))++wd r.tm)++wd r.op.am) r.op.ky zl za e) ?_))))
 rintro c6 c7 ⟨c8,c9,rfl,f⟩
 refine Lz (Ls (Dz (dZ [4] (Hl 3 2 4 f Hz) (Zc (mV ((((l++([(IntKind.u8.wrap r.cl:Int),(r.op.kd:Int)]))++wd r.tm)++wd r.op.am)++tx r.op.ky) r.op.va zl za f) ?_))))
 rintro d0 d1 ⟨d2,d3,rfl,i⟩
 refine Lz (Ls (Dz (dZ [4] (Hl 3 2 5 i Hz) (Zc (mV (((((l++([(IntKind.u8.wrap r.cl:Int),(r.op.kd:Int)]))++wd r.tm)++wd r.op.am)++tx r.op.ky)++tx r.op.va) r.op.ol zl za i) ?_))))
 rintro d4 d5 ⟨d6,d7,rfl,o⟩
 refine Lz (Ls (Dz (dZ [4] (Hl 3 2 6 o Hz) (Zc (mV ((((((l++([(IntKind.u8.wrap r.cl:Int),(r.op.kd:Int)]))++wd r.tm)++wd r.op.am)++tx r.op.ky)++tx r.op.va)++tx r.op.ol) r.op.tx zl za o) ?_))))
 rintro d8 d9 ⟨q,u,rfl,a3⟩
 refine Lz (Lq (Le (Dz (bY (v:=.slice q ((((((((l++([(IntKind.u8.wrap r.cl:Int),(r.op.kd:Int)]))++wd r.tm)++wd r.op.am)++tx r.op.ky)++tx r.op.va)++tx r.op.ol)++tx r.op.tx).length) u) ?_))))
 have a4:=((a3.pl 0).pl 2).pl 2
 have x:((((((l++([(IntKind.u8.wrap r.cl:Int),(r.op.kd:Int)]))++wd r.tm)++wd r.op.am)++tx r.op.ky)++tx r.op.va)++tx r.op.ol)++tx r.op.tx=l++oo r:=by simp only [oo,List.append_assoc]
 exact⟨q,u,by rw [x],by rw [<- x];exact(a4.dr 2)⟩
end
section
variable {w0 w : World} {L : List bA} {ad : Option Addr} {c : Nat}
structure iK (x:aH):Prop where
 kd:0<=x.kd/\x.kd<=255
 vw:0<=x.vw/\x.vw<=18446744073709551615
 k:0<=x.k/\x.k<=18446744073709551615
 rq:mW x.rq
 ql:∀ p∈x.ql,(-9223372036854775808<=p.rp/\p.rp<=9223372036854775807)/\(0<=p.nm/\p.nm<=18446744073709551615)
 dg:∀ z∈x.dg.toList,0<=z/\z<256
 qn:x.ql.length<=9223372036854775807
def iR (x:aH):Bool :=
 if x.kd=1 then dC x.rq else if x.kd=2\/x.kd=6 then kB x else if x.kd=4 then decide (x.vw >= 1) && oq x.ql else decide (x.vw >= 1)
def mO (p:bu):List Int:=[IntKind.u8.wrap p.rp]++wd p.nm
theorem Fp (p:bu):(mO p).length=9:=by rw [mO,List.length_append,dV];rfl
theorem jb:∀ l:List bu,(l.flatMap mO).length=9*l.length
 | []=>rfl
 | p::l=>by rw [List.flatMap_cons,List.length_append,Fp,jb l,List.length_cons];omega
def Js (x:aH):List Int:=wd x.vw++(oo x.rq++x.rq.tg.toList)
def Jt (x:aH):List Int:=wd x.vw++wd x.k
def Ij (x:aH):List Int:=wd x.vw++([IntKind.u8.wrap (x.ql.length:Nat)]++x.ql.flatMap mO)
def Ju (x:aH):List Int:=wd x.k++x.dg.toList
def ow (x:aH):List Int:=if x.kd=1 then Js x else if x.kd=2 then Jt x else if x.kd=4 then Ij x else if x.kd=6 then Ju x else wd x.vw
theorem kX {r:bC}(h:dC r=true):Ii r:=by
 unfold dC at h
 repeat' split at h
 all_goals first|(cases h;done)|skip
 all_goals simp only [decide_eq_true_eq,Bool.and_eq_true] at *
 all_goals exact⟨za,za,za,za⟩
theorem Ik x (hs:St w0 L w):Cs Tryz.prog 264 #[.agg (aH.cells x)] w λrv w'=>rv=.bool (dC x.rq)/\St w0 L w':=by
 exact dF Tryz.func264 Tryz.ntmps264 (En (Ls (Lg [0] (Dz (mT (aH.cells x) hs λe f a=>Lz (Ls (Dz (dZ [2] (hP 1 0 3 40 (bC.cells x.rq) a Hz) (CH (vP x.rq a) λo b=>Lz (Le (Dz (bY (v:=.bool (dC x.rq)) ⟨rfl,b.dr 1⟩))))))))))))
theorem yT x (hs:St w0 L w):Cs Tryz.prog 320 #[.agg (aH.cells x)] w λrv w'=>rv=.bool (decide ((x.vw:Int) >= 1))/\St w0 L w':=by
 exact dF Tryz.func320 Tryz.ntmps320 (En (Ls (Lg [0] (Dz (mT (aH.cells x) hs λd e a=>Lz (Ls (Dz (dE (Hl 1 0 1 a Hz) (Zt (Ze (bY (v:=.bool (decide ((x.vw:Int) >= 1))) ⟨rfl,a.dr 1⟩)))))))))))
theorem Il x (hqn:x.ql.length<=9223372036854775807) (hr:Rw w0 L bu.cells 2 bG x.qa x.ql) (hs:St w0 L w):Cs Tryz.prog 272 #[.agg (aH.cells x)] w λrv w'=>rv=.bool (decide ((x.vw:Int) >= 1) && oq x.ql)/\St w0 L w':=by
 refine dF Tryz.func272 Tryz.ntmps272 (En (Ls (Lg [0] (Dz (mT (aH.cells x) hs λq u b=>Lz (Ls (Lg [6] (Dz (kJ 0 4 (Hl 1 0 1 b Hz) (iy 6 (decide ((x.vw:Int) >= 1)) (λa=>?_) (λa=>?_)))))))))))
 ·refine Zj (Hl 5 0 43 b Hz) (dJ (f:=273) (args:=#[.slice x.qa x.ql.length x.qc]) Tryz.call273 (CZ x.ql zc (λw h=>hr _ (h.drop 1)) b) ?_)
  rintro z w7 ⟨rfl,e⟩
  exact Lz (Le (Dz (bY (v:=.bool (oq x.ql)) ⟨(by rw [a];rfl),e.dr 1⟩)))
 ·exact En (Lw (qR (En (cI (Lt (Le (Dz (bY (v:=.bool false) ⟨(by rw [a];rfl),b.dr 1⟩))))))))
theorem zn {p:Prop}(h:p:=by simp only [List.length_append,List.length_cons,List.length_nil,dV,gU,bW.len,jb] at *;omega):p:=h
theorem Im l x (hl:l.length<=90000) (hx:iK x) (hz:Ii x.rq) (hs:St w0 (Sl ad c 5 1 aD l::L) w):Cs Tryz.prog 261 #[.slice ad l.length c,.agg (aH.cells x)] w λrv w'=>∃ ao co,rv=.slice ao ((l++Js x).length) co/\St w0 (Sl ao co 5 1 aD (l++Js x)::L) w':=by
 refine dF Tryz.func261 Tryz.ntmps261 (Zs ?_)
 have a4:=hx.vw
 have hrl:=ln hz
 refine Zg [0] (mT (aH.cells x) hs λa w2 q=>Lz (Ls (Dz (ZD (gE [0,1,2,4,5,7,8,9] (.ef 3 (.ef 6 (.ef 10 (.rd 11 .done))))) q λw4 b a5=>Zj (Hl 2 0 1 b (hP 5 0 3 40 (bC.cells x.rq) b (Hg 9 (.dH (zL a 11 x.rq.tg.toList.length 32) (.sub 0 32)) [.prop (((none:Option Operand)=none->(0:Nat)=0)/\((none:Option Operand)=none->(32:Nat)=32)/\(0:Nat)<=32/\(32:Nat)<=32),.prop (Value.slice (some (if 32=0 then Addr.mk a 11 none else (Addr.mk a 11 none).add (0*1))) (32-0) (32-0)=Value.slice (some ⟨a,11,none⟩) x.rq.tg.toList.length 32)] (aJ ⟨(by first|(intro _;rfl)|(intro hc;cases hc)),(by first|(intro _;rfl)|(intro hc;cases hc)),za,za⟩ (aJ (by rw [bW.len];exact eM _ _ _ _ _ zb) aR)) Hz))) (Zc (eU l x.vw ze za (b.pl 1)) ?_)))))
 rintro a6 a7 ⟨a8,a9,rfl,d⟩
 refine⟨gR (n:=[.prop (((none:Option Operand)=none->(0:Nat)=0)/\((none:Option Operand)=none->(32:Nat)=32)/\(0:Nat)<=32/\(32:Nat)<=32),.prop (Value.slice (some (if 32=0 then Addr.mk a 11 none else (Addr.mk a 11 none).add (0*1))) (32-0) (32-0)=Value.slice (some ⟨a,11,none⟩) x.rq.tg.toList.length 32),.prop (Array.size (bC.cells x.rq)=40),.cells ⟨a,3,none⟩ (bC.cells x.rq)]) zk (aJ ⟨(by first|(intro _;rfl)|(intro hc;cases hc)),(by first|(intro _;rfl)|(intro hc;cases hc)),za,za⟩ (aJ (by rw [bW.len];exact eM _ _ _ _ _ zb) (aJ zk (iN (d.cells 1 3 rfl zk) aR)))),Zc (rz (l++wd x.vw) x.rq zn hx.rq hz d) ?_⟩
 rintro b0 b2 ⟨z,a0,rfl,e⟩
 refine⟨gR (n:=[.prop (((none:Option Operand)=none->(0:Nat)=0)/\((none:Option Operand)=none->(32:Nat)=32)/\(0:Nat)<=32/\(32:Nat)<=32),.prop (Value.slice (some (if 32=0 then Addr.mk a 11 none else (Addr.mk a 11 none).add (0*1))) (32-0) (32-0)=Value.slice (some ⟨a,11,none⟩) x.rq.tg.toList.length 32)]) zk (aJ ⟨(by first|(intro _;rfl)|(intro hc;cases hc)),(by first|(intro _;rfl)|(intro hc;cases hc)),za,za⟩ (aJ (by rw [bW.len];exact eM _ _ _ _ _ zb) aR)),(aL.append rfl zk Rs aF (ad:=z) (c:=a0) (xs:=(l++wd x.vw)++oo x.rq) (ys:=x.rq.tg.toList) (adx:=some ⟨a,11,none⟩) (cx:=32) (0:Int) zk e (bW.lk e 1 11 x.rq.tg rfl zk) (λh=>nomatch h) zn zn λf i b3 a1=>Lz (Le (Dz (bY (v:=.slice f ((((l++wd x.vw)++oo x.rq)++x.rq.tg.toList).length) i) ?_))))⟩
 have a2:=(a1.pl 0).pl 1
 have o:((l++wd x.vw)++oo x.rq)++x.rq.tg.toList=l++Js x:=by simp only [Js,Jt,Ij,Ju,List.append_assoc]
 exact⟨f,i,by rw [o],by rw [<- o];exact(a2.dr 1)⟩
theorem Io l x (hl:l.length<=90000) (hx:iK x) (hs:St w0 (Sl ad c 5 1 aD l::L) w):Cs Tryz.prog 265 #[.slice ad l.length c,.agg (aH.cells x)] w λrv w'=>∃ ao co,rv=.slice ao ((l++Jt x).length) co/\St w0 (Sl ao co 5 1 aD (l++Jt x)::L) w':=by
 refine dF Tryz.func265 Tryz.ntmps265 (Zs ?_)
 have a1:=hx.vw
 have a2:=hx.k
 refine Zg [0] (mT (aH.cells x) hs λi w2 o=>Lz (Ls (Dz (ZD (gE [0,1,2,4,5] (.ef 3 (.ef 6 (.rd 7 .done)))) o λw4 a a3=>Zj (Hl 2 0 1 a (Hl 5 0 2 a Hz)) (Zc (eU l x.vw ze za (a.pl 1)) ?_)))))
 rintro a4 a5 ⟨a6,a7,rfl,b⟩
 refine⟨gR (n:=[.cell ⟨i,2,none⟩ (.int .u64 x.k)]) zk (bE (b.cell 1 rfl zk) aR),Zc (eU (l++wd x.vw) x.k ze za b) ?_⟩
 rintro a8 a9 ⟨d,e,rfl,u⟩
 refine Lz (Le (Dz (bY (v:=.slice d ((l++wd x.vw++wd x.k).length) e) ?_)))
 have z:=(u.pl 0).pl 1
 have f:l++wd x.vw++wd x.k=l++Jt x:=by simp only [Js,Jt,Ij,Ju,List.append_assoc]
 exact⟨d,e,by rw [f],by rw [<- f];exact(z.dr 1)⟩
theorem yU l x (hl:l.length<=90000) (hx:iK x) (hs:St w0 (Sl ad c 5 1 aD l::L) w):Cs Tryz.prog 318 #[.slice ad l.length c,.agg (aH.cells x)] w λrv w'=>∃ ao co,rv=.slice ao ((l++wd x.vw).length) co/\St w0 (Sl ao co 5 1 aD (l++wd x.vw)::L) w':=by
 refine dF Tryz.func318 Tryz.ntmps318 (Zs ?_)
 have u:=hx.vw
 have z:=hx.k
 refine Zg [0] (mT (aH.cells x) hs λb1 w2 a=>Lz (Ls (Dz (dZ [3] (Hl 2 0 1 a Hz) (Zc (eU l x.vw ze za (a.pl 1)) ?_)))))
 rintro v8 w9 ⟨b,d,rfl,i⟩
 refine Lz (Le (Dz (bY (v:=.slice b ((l++wd x.vw).length) d) ?_)))
 have o:=(i.pl 0).pl 1
 have e:l++wd x.vw=l++wd x.vw:=by simp only [Js,Jt,Ij,Ju,List.append_assoc]
 exact⟨b,d,by rw [e],by rw [<- e];exact(o.dr 1)⟩
theorem Ip l x (hl:l.length<=90000) (hx:iK x) (hs:St w0 (Sl ad c 5 1 aD l::L) w):Cs Tryz.prog 274 #[.slice ad l.length c,.agg (aH.cells x)] w λrv w'=>∃ ao co,rv=.slice ao ((l++Ju x).length) co/\St w0 (Sl ao co 5 1 aD (l++Ju x)::L) w':=by
 refine dF Tryz.func274 Tryz.ntmps274 (Zs ?_)
 have a3:=hx.vw
 have a4:=hx.k
 refine Zg [0] (mT (aH.cells x) hs λa w2 o=>Lz (Ls (Dz (ZD (gE [0,1,2,4,5] (.ef 3 (.ef 6 (.rd 7 .done)))) o λw4 b a5=>Zj (Hl 2 0 2 b (Hg 5 (.dH (zL a 44 x.dg.toList.length 32) (.sub 0 32)) [.prop (((none:Option Operand)=none->(0:Nat)=0)/\((none:Option Operand)=none->(32:Nat)=32)/\(0:Nat)<=32/\(32:Nat)<=32),.prop (Value.slice (some (if 32=0 then Addr.mk a 44 none else (Addr.mk a 44 none).add (0*1))) (32-0) (32-0)=Value.slice (some ⟨a,44,none⟩) x.dg.toList.length 32)] (aJ ⟨(by first|(intro _;rfl)|(intro hc;cases hc)),(by first|(intro _;rfl)|(intro hc;cases hc)),za,za⟩ (aJ (by rw [bW.len];exact eM _ _ _ _ _ zb) aR)) Hz)) (Zc (eU l x.k ze za (b.pl 1)) ?_)))))
 rintro a6 a7 ⟨u,z,rfl,d⟩
 refine⟨gR (n:=[.prop (((none:Option Operand)=none->(0:Nat)=0)/\((none:Option Operand)=none->(32:Nat)=32)/\(0:Nat)<=32/\(32:Nat)<=32),.prop (Value.slice (some (if 32=0 then Addr.mk a 44 none else (Addr.mk a 44 none).add (0*1))) (32-0) (32-0)=Value.slice (some ⟨a,44,none⟩) x.dg.toList.length 32)]) zk (aJ ⟨(by first|(intro _;rfl)|(intro hc;cases hc)),(by first|(intro _;rfl)|(intro hc;cases hc)),za,za⟩ (aJ (by rw [bW.len];exact eM _ _ _ _ _ zb) aR)),(aL.append rfl zk Rs aF (ad:=u) (c:=z) (xs:=l++wd x.k) (ys:=x.dg.toList) (adx:=some ⟨a,44,none⟩) (cx:=32) (0:Int) zk d (bW.lk d 1 44 x.dg rfl zk) (λh=>nomatch h) zn zn λe f a8 a0=>Lz (Le (Dz (bY (v:=.slice e (((l++wd x.k)++x.dg.toList).length) f) ?_))))⟩
 have a1:=(a0.pl 0).pl 1
 have i:(l++wd x.k)++x.dg.toList=l++Ju x:=by simp only [Js,Jt,Ij,Ju,List.append_assoc]
 exact⟨e,f,by rw [i],by rw [<- i];exact(a1.dr 1)⟩
theorem Iq l x (hl:l.length<=90000) (hx:iK x) (hlq:x.ql.length<=1000) (hr:Rw w0 L bu.cells 2 bG x.qa x.ql) (hs:St w0 (Sl ad c 5 1 aD l::L) w):Cs Tryz.prog 269 #[.slice ad l.length c,.agg (aH.cells x)] w λrv w'=>∃ ao co,rv=.slice ao ((l++Ij x).length) co/\St w0 (Sl ao co 5 1 aD (l++Ij x)::L) w':=by
 refine dF Tryz.func269 Tryz.ntmps269 (Zs ?_)
 have d9:=hx.vw
 have e0:=hx.k
 refine Zg [0] (mT (aH.cells x) hs λa w2 b2=>Lz (Ls (Dz (aX.join (T:=Option Addr×Nat×Nat) (E:=λjx=>[(0,.slice jx.1 (((l++wd x.vw)++([(IntKind.u8.wrap (x.ql.length:Nat):Int)])).length) jx.2.1),(3,zP a 0),(4,.slice none 0 0)]) (F:=λjx w=>St w0 (Sl jx.1 jx.2.1 5 1 aD ((l++wd x.vw)++([(IntKind.u8.wrap (x.ql.length:Nat):Int)]))::Sl (some ⟨jx.2.2,0,none⟩) 1 5 1 aD ([(IntKind.u8.wrap (x.ql.length:Nat):Int)])::aB a (aH.cells x) 53::L) w) ?_ ?_))))
 ·refine aX.fI [0,0,2,7,0,16,48,112,240,511,1023] (.rd 0 (.rd 1 (.rd 2 (.rd 4 (.rd 5 (.rd 6 (.rd 7 (.alt (.ef 3 (.ef 8 (.ef 9 (.rd 10 .done)))) (.ef 8 (.ef 3 (.ef 9 (.rd 10 .done)))))))))))) zk zk aZ zk b2 λw4 u e1=>Zh [(0,.gen []),(1,.gen []),(2,.gen [.int .u64 x.vw]),(4,.gen []),(5,.gen [.slice x.qa x.ql.length x.qc]),(6,.gen []),(7,.gen [])] [(2,[.cell ⟨a,1,none⟩ (.int .u64 x.vw)]),(5,[.cell ⟨a,43,none⟩ (.slice x.qa x.ql.length x.qc)])] (ak (bE (u.cell 0 rfl zk) aR) (ak (bE (u.cell 0 rfl zk) aR) iF)) (aL.alt ?_ ?_)
  ·refine Zc (eU l x.vw ze za (u.pl 1)) ?_
   rintro e2 e3 ⟨e4,e5,rfl,a2⟩
   exact⟨gR (n:=[.cell ⟨a,43,none⟩ (.slice x.qa x.ql.length x.qc)]) zk (bE (a2.cell 1 rfl zk) aR),(CB Rs aF [(IntKind.u8.wrap (x.ql.length:Nat):Int)] a2 λb4 e6 a3=>⟨gR (n:=[.cell ⟨a,1,none⟩ (.int .u64 x.vw)]) zk (bE (a3.cell 2 rfl zk) aR),(sD Rs aF (0:Int) (a3.pl 1) zn λb6 b7 e7 b8=>Lo (Dz (Zr 10 1 [] (Zd (vB [0,3,4] (b6,b7,b4) b8)))))⟩)⟩
  refine CB Rs aF [(IntKind.u8.wrap (x.ql.length:Nat):Int)] u λb9 e8 a4=>⟨gR (n:=[.cell ⟨a,1,none⟩ (.int .u64 x.vw)]) zk (bE (a4.cell 1 rfl zk) aR),Zc (eU l x.vw ze za (a4.pl 2)) ?_⟩
  rintro e9 f0 ⟨f1,f2,rfl,a5⟩
  exact⟨gR (n:=[.cell ⟨a,43,none⟩ (.slice x.qa x.ql.length x.qc)]) zk (bE (a5.cell 2 rfl zk) aR),(sD Rs aF (0:Int) a5 zn λc2 c3 f3 c4=>Lo (Dz (Zr 10 1 [] (Zd (vB [0,3,4] (c2,c3,b9) c4)))))⟩
 rintro⟨b,e,c5⟩ c6 c7
 have a6:St w0 (Sl b e 5 1 aD ((l++wd x.vw)++([(IntKind.u8.wrap (x.ql.length:Nat):Int)]))::Sl (some ⟨c5,0,none⟩) 1 5 1 aD ([(IntKind.u8.wrap (x.ql.length:Nat):Int)])::aB a (aH.cells x) 53::L) c6:=c7
 refine aS.gL (S':=[(0,.slice b (((l++wd x.vw)++([(IntKind.u8.wrap (x.ql.length:Nat):Int)])).length) e),(3,zP a 0),(4,.slice none 0 0)]) rfl (Zt (Zs (Zs (dE (Hl 1 2 43 a6 Hz) (Zt (Zb ?_))))))
 have c8:=((a6.pl 0).pl 2).pl 2
 refine Zn [(20,.int .i64 0),(19,.int .i64 (x.ql.length:Nat)),(18,.slice x.qa x.ql.length x.qc),(0,.slice b (((l++wd x.vw)++([(IntKind.u8.wrap (x.ql.length:Nat):Int)])).length) e),(4,.slice none 0 0)] (aX.gL (S':=[(20,.int .i64 0),(19,.int .i64 (x.ql.length:Nat)),(18,.slice x.qa x.ql.length x.qc),(0,.slice b (((l++(wd x.vw++[IntKind.u8.wrap (x.ql.length:Nat)]))++(x.ql.take 0).flatMap mO).length) e),(4,.slice none 0 0)]) (by rw [(show(l++wd x.vw)++([(IntKind.u8.wrap (x.ql.length:Nat):Int)])=(l++(wd x.vw++[IntKind.u8.wrap (x.ql.length:Nat)]))++(x.ql.take 0).flatMap mO by simp only [List.append_assoc,List.take_zero,List.flatMap_nil,List.append_nil])]) (aX.loop (T:=Nat×(Option Addr)×(Option Addr)×Nat) (λgg=>[(0,.slice gg.2.2.1 (((l++(wd x.vw++[IntKind.u8.wrap (x.ql.length:Nat)]))++(x.ql.take gg.1).flatMap mO).length) gg.2.2.2),(4,.slice none 0 0),(18,.slice gg.2.1 x.ql.length x.qc),(19,.int .i64 (x.ql.length:Nat)),(20,.int .i64 (gg.1:Nat))]) (λgg w=>(gg.1<=x.ql.length/\∀ w,St w0 L w->aC w gg.2.1 x.ql.length 2 (λq=>bu.cells (x.ql.getD q bG)))/\St w0 (Sl gg.2.2.1 gg.2.2.2 5 1 aD ((l++(wd x.vw++[IntKind.u8.wrap (x.ql.length:Nat)]))++(x.ql.take gg.1).flatMap mO)::L) w) (λgg=>x.ql.length-gg.1) (0,x.qa,b,e) [0,4,18,19,20] zk ⟨⟨Nat.zero_le _,hr⟩,Qc (c8.dr 2) (show(l++wd x.vw)++([(IntKind.u8.wrap (x.ql.length:Nat):Int)])=(l++(wd x.vw++[IntKind.u8.wrap (x.ql.length:Nat)]))++(x.ql.take 0).flatMap mO by simp only [List.append_assoc,List.take_zero,List.flatMap_nil,List.append_nil])⟩ ?_))
 rintro⟨k,aq,a7,c1⟩ f4 ⟨hp,f⟩
 dsimp only at hp f
 have hw:=hp.2
 refine En (Lq (Ls (Dz (Zi ((k:Int)<(x.ql.length:Nat)) (λd1=>?_) (λd1=>?_)))))
 ·have hk:k<x.ql.length:=za
  have hpk:=hx.ql _ (bJ (d:=bG) hk)
  have htk:(x.ql.take k).length=k:=by rw [List.length_take];omega
  have hfk:=jb (x.ql.take k)
  obtain⟨i,o,rfl⟩:=aC.isSome (hw _ (f.drop 1)) za
  refine Zk (Zt (Zs (Zb (Zs (dZ [2,3] (Hx 0 (k:Int) (x.ql.length:Int) i o 2 (Hg 1 (.agg (bu.cells (x.ql.getD k bG))) [.prop (Array.size (bu.cells (x.ql.getD k bG))=2),.cells ⟨i,o+(k*2),none⟩ (bu.cells (x.ql.getD k bG))] (aJ zk (iN (aC.mj (hw _ (f.drop 1)) zo (Nat.le_of_ble_eq_true zk) zk) aR)) Hz)) (tW (bu.cells bG) f λa8 f5 d2=>Lo (Dz (Zu 0 0 (bu.cells (x.ql.getD k bG)) d2 λf6 d3=>Lo (Ld (Lt (Dz (ZD (gE [0,1,2,3,6,7] (.ef 4 (.ef 5 (.ef 8 (.rd 9 .done))))) d3 λf7 z f8=>Zj (Hl 2 0 0 z (Hl 7 0 1 z Hz)) (CB Rs aF [(IntKind.u8.wrap ((x.ql.getD k bG).rp):Int)] z λf9 g0 a9=>⟨gR (n:=[.cell ⟨a8,1,none⟩ (.int .u64 ((x.ql.getD k bG).nm))]) zk (bE (a9.cell 1 rfl zk) aR),(sD Rs aF (0:Int) (a9.pl 2) zn λg5 g7 g8 b0=>⟨gR (n:=[.cell ⟨a8,1,none⟩ (.int .u64 ((x.ql.getD k bG).nm))]) zk (bE (b0.cell 2 rfl zk) aR),Zc (eU (((l++(wd x.vw++[IntKind.u8.wrap (x.ql.length:Nat)]))++(x.ql.take k).flatMap mO)++([(IntKind.u8.wrap ((x.ql.getD k bG).rp):Int)])) ((x.ql.getD k bG).nm) ze za b0) ?_⟩)⟩)))))))))))))
  rintro g9 h0 ⟨a0,a1,rfl,d5⟩
  refine Lo (cI (Lm (Lt (Dz (dE (eT 0 ((k:Nat)+1) Hz) ?_)))))
  have d6:=((d5.pl 0).pl 2).pl 2
  exact aS.pick [20,0,4,18,19] (S':=[(20,.int .i64 ((k:Nat)+1)),(0,.slice a0 ((((l++(wd x.vw++[IntKind.u8.wrap (x.ql.length:Nat)]))++(x.ql.take k).flatMap mO)++([(IntKind.u8.wrap ((x.ql.getD k bG).rp):Int)])++wd ((x.ql.getD k bG).nm)).length) a1),(4,.slice none 0 0),(18,zL i o x.ql.length x.qc),(19,.int .i64 (x.ql.length:Nat))]) zk (aS.gL (S':=[(20,.int .i64 ((k:Nat)+1)),(0,.slice a0 (((l++(wd x.vw++[IntKind.u8.wrap (x.ql.length:Nat)]))++(x.ql.take (k+1)).flatMap mO).length) a1),(4,.slice none 0 0),(18,zL i o x.ql.length x.qc),(19,.int .i64 (x.ql.length:Nat))]) (by rw [(show((l++(wd x.vw++[IntKind.u8.wrap (x.ql.length:Nat)]))++(x.ql.take k).flatMap mO)++([(IntKind.u8.wrap ((x.ql.getD k bG).rp):Int)])++wd ((x.ql.getD k bG).nm)=(l++(wd x.vw++[IntKind.u8.wrap (x.ql.length:Nat)]))++(x.ql.take (k+1)).flatMap mO by rw [bL (d:=bG) hk,List.flatMap_append];simp only [List.append_assoc,List.flatMap_cons,List.flatMap_nil,List.append_nil,mO])]) (aS.back (k+1,some ⟨i,o,none⟩,a0,a1) [0,4,18,19,20] zk (by show x.ql.length-(k+1)<x.ql.length-k;omega) ⟨⟨za,hw⟩,Qc (d6.dr 2) (show((l++(wd x.vw++[IntKind.u8.wrap (x.ql.length:Nat)]))++(x.ql.take k).flatMap mO)++([(IntKind.u8.wrap ((x.ql.getD k bG).rp):Int)])++wd ((x.ql.getD k bG).nm)=(l++(wd x.vw++[IntKind.u8.wrap (x.ql.length:Nat)]))++(x.ql.take (k+1)).flatMap mO by rw [bL (d:=bG) hk,List.flatMap_append];simp only [List.append_assoc,List.flatMap_cons,List.flatMap_nil,List.append_nil,mO])⟩))
 ·have hke:x.ql.take k=x.ql:=List.take_of_length_le za
  refine En (Lx (mM (mN (Lh (Lt (Lq (Le (Dz (bY (v:=.slice a7 (((l++(wd x.vw++[IntKind.u8.wrap (x.ql.length:Nat)]))++(x.ql.take k).flatMap mO).length) c1) ?_)))))))))
  have h9:(l++(wd x.vw++[IntKind.u8.wrap (x.ql.length:Nat)]))++(x.ql.take k).flatMap mO=l++Ij x:=by rw [hke];simp only [Ij,List.append_assoc]
  exact⟨a7,c1,by rw [h9],by rw [<- h9];exact f⟩
end
section
variable {w0 w : World} {L : List bA} {c : Nat} {az : Option Addr} {cz : Nat}
def g1 (s:CS):aH×CS :=
 let a:=jn s
 let b:=OO a.2
 (⟨1,a.1,0,b.1,none,0,[],aI⟩,b.2)
def g2 (s:CS):aH×CS :=
 let a:=jn s
 let b:=jn a.2
 (⟨2,a.1,b.1,cP,none,0,[],aI⟩,b.2)
def g3 (kd:Int) (s:CS):aH×CS :=
 let a:=jn s
 (⟨kd,a.1,0,cP,none,0,[],aI⟩,a.2)
def yg:Nat->CS->List bu->List bu×CS
 | 0,s,q=>(q,s)
 | n+1,s,q=>if s.2=true then (q,s) else yg n (jn (kK s).2).2 (q++[⟨(kK s).1,(jn (kK s).2).1⟩])
def g4 (s:CS):aH×CS :=
 let a:=jn s
 let n:=kK a.2
 let q:=yg n.1.toNat n.2 []
 (⟨4,a.1,0,cP,none,0,q.1,aI⟩,q.2)
def g6 (s:CS):aH×CS :=
 let a:=jn s
 let b:=ua a.2
 (⟨6,0,a.1,cP,none,0,[],b.1⟩,b.2)
def iA (kd:Int) (s:CS):aH×CS:=if kd=1 then g1 s else if kd=2 then g2 s else if kd=4 then g4 s else if kd=6 then g6 s else g3 kd s
def qS (x:aH):aH:=⟨x.kd,x.vw,x.k,x.rq,none,0,x.ql,x.dg⟩
theorem du:∀ z∈aI.toList,0<=z/\z<256:=zb
theorem fZ:mW cP:=⟨zb,zb,zb,zb,du⟩
theorem Fq {y:Nat}Q r sp kd (hQ:∀ w,St w0 L w->Q.holds w) (hq:cQ Q az r cz) (hkr:0<=kd/\kd<=255) (hkd:kd=1) (hs:St w0 (aB c #[.slice az r.length cz,.bool sp] 316::aB y (aH.cells (⟨kd,0,0,cP,none,0,[],aI⟩:aH)) 53::L) w):Cs Tryz.prog 262 #[zP c 0,zP y 0] w λrv w'=>∃ yy2 rr2 sp2 az2 cz2,rv=.tuple #[]/\iA kd (r,sp)=(qS yy2,(rr2,sp2))/\iK yy2/\cQ Q az2 rr2 cz2/\St w0 (aB y (aH.cells yy2) 53::Sl yy2.qa yy2.qc 174 2 bu.cells yy2.ql::aB c #[.slice az2 rr2.length cz2,.bool sp2] 316::L) w':=by
 refine dF Tryz.func262 Tryz.ntmps262 (En (Lg [3,5,8,11] (Lw (Zc (cJ Q r sp (λw h=>hQ w (h.drop 1)) hq hs) ?_))))
 rintro a8 a9 ⟨b,rr2,e,b0,b1,rfl,f,b2,i,o⟩
 refine Lo (Lw (Zc (nG Q rr2 e (λw h=>hQ w (h.drop 1)) i o) ?_))
 rintro b3 b4 ⟨d,q,u,x,z,rfl,a0,a1,a2,a3⟩
 refine Lo (Lw (Zu 1 1 (aH.cells (⟨kd,b,0,cP,none,0,[],aI⟩:aH)) a3 λb5 a4=>Lo (Lw (Zu 1 3 (aH.cells (⟨kd,b,0,d,none,0,[],aI⟩:aH)) a4 λb6 a5=>Lo (Ld (Dz (aS.done (.inr rfl) (λa hf=>results0 rfl a hf) ?_)))))))
 have a6:=St.eB a5 174 2 bu.cells
 exact⟨(⟨kd,b,0,d,none,0,[],aI⟩:aH),q,u,x,z,rfl,(if_pos hkd:iA kd (r,sp)=g1 (r,sp)).trans (by unfold g1;simp only [f,a0];rw [hkd];rfl),⟨hkr,zu,zx,a1,(λp hp=>by cases hp),du,Nat.zero_le _⟩,a2,((a6.pl 1).pl 1).pl 2⟩
theorem Fs {y:Nat}Q r sp kd (hQ:∀ w,St w0 L w->Q.holds w) (hq:cQ Q az r cz) (hkr:0<=kd/\kd<=255) (hkd:kd=2) (hs:St w0 (aB c #[.slice az r.length cz,.bool sp] 316::aB y (aH.cells (⟨kd,0,0,cP,none,0,[],aI⟩:aH)) 53::L) w):Cs Tryz.prog 266 #[zP c 0,zP y 0] w λrv w'=>∃ yy2 rr2 sp2 az2 cz2,rv=.tuple #[]/\iA kd (r,sp)=(qS yy2,(rr2,sp2))/\iK yy2/\cQ Q az2 rr2 cz2/\St w0 (aB y (aH.cells yy2) 53::Sl yy2.qa yy2.qc 174 2 bu.cells yy2.ql::aB c #[.slice az2 rr2.length cz2,.bool sp2] 316::L) w':=by
 refine dF Tryz.func266 Tryz.ntmps266 (En (Lg [3,5,8,11] (Lw (Zc (cJ Q r sp (λw h=>hQ w (h.drop 1)) hq hs) ?_))))
 rintro a7 a8 ⟨b,rr2,e,a9,b0,rfl,f,b1,i,o⟩
 refine Lo (Lw (Zc (cJ Q rr2 e (λw h=>hQ w (h.drop 1)) i o) ?_))
 rintro b2 b3 ⟨d,q,u,x,z,rfl,a0,b4,a1,a2⟩
 refine Lo (Lw (Zu 1 1 (aH.cells (⟨kd,b,0,cP,none,0,[],aI⟩:aH)) a2 λb5 a3=>Lo (Lw (Zu 1 2 (aH.cells (⟨kd,b,d,cP,none,0,[],aI⟩:aH)) a3 λb6 a4=>Lo (Ld (Dz (aS.done (.inr rfl) (λa hf=>results0 rfl a hf) ?_)))))))
 have a5:=St.eB a4 174 2 bu.cells
 exact⟨(⟨kd,b,d,cP,none,0,[],aI⟩:aH),q,u,x,z,rfl,((if_neg za).trans (if_pos hkd):iA kd (r,sp)=g2 (r,sp)).trans (by unfold g2;simp only [f,a0];rw [hkd];rfl),⟨hkr,zu,zu,fZ,(λp hp=>by cases hp),du,Nat.zero_le _⟩,a1,((a5.pl 1).pl 1).pl 2⟩
theorem vQ {y:Nat}Q r sp kd (hQ:∀ w,St w0 L w->Q.holds w) (hq:cQ Q az r cz) (hkr:0<=kd/\kd<=255) (hkd:kd=3\/kd=5) (hs:St w0 (aB c #[.slice az r.length cz,.bool sp] 316::aB y (aH.cells (⟨kd,0,0,cP,none,0,[],aI⟩:aH)) 53::L) w):Cs Tryz.prog 319 #[zP c 0,zP y 0] w λrv w'=>∃ yy2 rr2 sp2 az2 cz2,rv=.tuple #[]/\iA kd (r,sp)=(qS yy2,(rr2,sp2))/\iK yy2/\cQ Q az2 rr2 cz2/\St w0 (aB y (aH.cells yy2) 53::Sl yy2.qa yy2.qc 174 2 bu.cells yy2.ql::aB c #[.slice az2 rr2.length cz2,.bool sp2] 316::L) w':=by
 refine dF Tryz.func319 Tryz.ntmps319 (En (Lg [2,5] (Lw (Zc (cJ Q r sp (λw h=>hQ w (h.drop 1)) hq hs) ?_))))
 rintro a0 a1 ⟨b,rr2,d,e,f,rfl,i,a2,o,q⟩
 refine Lo (Lw (Zu 1 1 (aH.cells (⟨kd,b,0,cP,none,0,[],aI⟩:aH)) q λa3 u=>Lo (Ld (Dz (aS.done (.inr rfl) (λa hf=>results0 rfl a hf) ?_)))))
 have x:=St.eB u 174 2 bu.cells
 exact⟨(⟨kd,b,0,cP,none,0,[],aI⟩:aH),rr2,d,e,f,rfl,((if_neg za).trans ((if_neg za).trans ((if_neg za).trans (if_neg za))):iA kd (r,sp)=g3 kd (r,sp)).trans (by unfold g3;simp only [i];rfl),⟨hkr,zu,zx,fZ,(λp hp=>by cases hp),du,Nat.zero_le _⟩,o,((x.pl 1).pl 1).pl 2⟩
theorem Ft {y:Nat}Q r sp kd (hQ:∀ w,St w0 L w->Q.holds w) (hq:cQ Q az r cz) (hkr:0<=kd/\kd<=255) (hkd:kd=6) (hs:St w0 (aB c #[.slice az r.length cz,.bool sp] 316::aB y (aH.cells (⟨kd,0,0,cP,none,0,[],aI⟩:aH)) 53::L) w):Cs Tryz.prog 275 #[zP c 0,zP y 0] w λrv w'=>∃ yy2 rr2 sp2 az2 cz2,rv=.tuple #[]/\iA kd (r,sp)=(qS yy2,(rr2,sp2))/\iK yy2/\cQ Q az2 rr2 cz2/\St w0 (aB y (aH.cells yy2) 53::Sl yy2.qa yy2.qc 174 2 bu.cells yy2.ql::aB c #[.slice az2 rr2.length cz2,.bool sp2] 316::L) w':=by
 refine dF Tryz.func275 Tryz.ntmps275 (En (Lg [3,5,8,11] (Lw (Zc (cJ Q r sp (λw h=>hQ w (h.drop 1)) hq hs) ?_))))
 rintro a8 a9 ⟨b,rr2,e,b0,b1,rfl,f,b2,i,o⟩
 refine Lo (Lw (Zc (sI Q rr2 e (λw h=>hQ w (h.drop 1)) i o) ?_))
 rintro b3 b4 ⟨d,q,u,x,z,rfl,a0,a1,a2,a3⟩
 refine Lo (Lw (Zu 1 2 (aH.cells (⟨kd,0,b,cP,none,0,[],aI⟩:aH)) a3 λb5 a4=>Lo (Lw (Zu 1 44 (aH.cells (⟨kd,0,b,cP,none,0,[],d⟩:aH)) a4 λb6 a5=>Lo (Ld (Dz (aS.done (.inr rfl) (λa hf=>results0 rfl a hf) ?_)))))))
 have a6:=St.eB a5 174 2 bu.cells
 exact⟨(⟨kd,0,b,cP,none,0,[],d⟩:aH),q,u,x,z,rfl,((if_neg za).trans ((if_neg za).trans ((if_neg za).trans (if_pos hkd))):iA kd (r,sp)=g6 (r,sp)).trans (by unfold g6;simp only [f,a0];rw [hkd];rfl),⟨hkr,zx,zu,fZ,(λp hp=>by cases hp),a1,Nat.zero_le _⟩,a2,((a6.pl 1).pl 1).pl 2⟩
theorem Fu {y:Nat}{og:Int}{nr:Int}{dp:aP}{tg:bW}Q r sp kd (hQ:∀ w,St w0 L w->Q.holds w) (hq:cQ Q az r cz) (hkr:0<=kd/\kd<=255) (hkd:kd=1) (hs:St w0 (aB c #[.slice az r.length cz,.bool sp] 316::aB y (aK.cells (⟨og,nr,dp,(⟨kd,0,0,cP,none,0,[],aI⟩:aH),tg⟩:aK)) 55::L) w):Cs Tryz.prog 262 #[zP c 0,zP y 13] w λrv w'=>∃ yy2 rr2 sp2 az2 cz2,rv=.tuple #[]/\iA kd (r,sp)=(qS yy2,(rr2,sp2))/\iK yy2/\cQ Q az2 rr2 cz2/\St w0 (aB y (aK.cells (⟨og,nr,dp,yy2,tg⟩:aK)) 55::Sl yy2.qa yy2.qc 174 2 bu.cells yy2.ql::aB c #[.slice az2 rr2.length cz2,.bool sp2] 316::L) w':=by
 refine dF Tryz.func262 Tryz.ntmps262 (En (Lg [3,5,8,11] (Lw (Zc (cJ Q r sp (λw h=>hQ w (h.drop 1)) hq hs) ?_))))
 rintro a8 a9 ⟨b,rr2,e,b0,b1,rfl,f,b2,i,o⟩
 refine Lo (Lw (Zc (nG Q rr2 e (λw h=>hQ w (h.drop 1)) i o) ?_))
 rintro b3 b4 ⟨d,q,u,x,z,rfl,a0,a1,a2,a3⟩
 refine Lo (Lw (Zu 1 14 (aK.cells (⟨og,nr,dp,(⟨kd,b,0,cP,none,0,[],aI⟩:aH),tg⟩:aK)) a3 λb5 a4=>Lo (Lw (Zu 1 16 (aK.cells (⟨og,nr,dp,(⟨kd,b,0,d,none,0,[],aI⟩:aH),tg⟩:aK)) a4 λb6 a5=>Lo (Ld (Dz (aS.done (.inr rfl) (λa hf=>results0 rfl a hf) ?_)))))))
 have a6:=St.eB a5 174 2 bu.cells
 exact⟨(⟨kd,b,0,d,none,0,[],aI⟩:aH),q,u,x,z,rfl,(if_pos hkd:iA kd (r,sp)=g1 (r,sp)).trans (by unfold g1;simp only [f,a0];rw [hkd];rfl),⟨hkr,zu,zx,a1,(λp hp=>by cases hp),du,Nat.zero_le _⟩,a2,((a6.pl 1).pl 1).pl 2⟩
theorem Fv {y:Nat}{og:Int}{nr:Int}{dp:aP}{tg:bW}Q r sp kd (hQ:∀ w,St w0 L w->Q.holds w) (hq:cQ Q az r cz) (hkr:0<=kd/\kd<=255) (hkd:kd=2) (hs:St w0 (aB c #[.slice az r.length cz,.bool sp] 316::aB y (aK.cells (⟨og,nr,dp,(⟨kd,0,0,cP,none,0,[],aI⟩:aH),tg⟩:aK)) 55::L) w):Cs Tryz.prog 266 #[zP c 0,zP y 13] w λrv w'=>∃ yy2 rr2 sp2 az2 cz2,rv=.tuple #[]/\iA kd (r,sp)=(qS yy2,(rr2,sp2))/\iK yy2/\cQ Q az2 rr2 cz2/\St w0 (aB y (aK.cells (⟨og,nr,dp,yy2,tg⟩:aK)) 55::Sl yy2.qa yy2.qc 174 2 bu.cells yy2.ql::aB c #[.slice az2 rr2.length cz2,.bool sp2] 316::L) w':=by
 refine dF Tryz.func266 Tryz.ntmps266 (En (Lg [3,5,8,11] (Lw (Zc (cJ Q r sp (λw h=>hQ w (h.drop 1)) hq hs) ?_))))
 rintro a7 a8 ⟨b,rr2,e,a9,b0,rfl,f,b1,i,o⟩
 refine Lo (Lw (Zc (cJ Q rr2 e (λw h=>hQ w (h.drop 1)) i o) ?_))
 rintro b2 b3 ⟨d,q,u,x,z,rfl,a0,b4,a1,a2⟩
 refine Lo (Lw (Zu 1 14 (aK.cells (⟨og,nr,dp,(⟨kd,b,0,cP,none,0,[],aI⟩:aH),tg⟩:aK)) a2 λb5 a3=>Lo (Lw (Zu 1 15 (aK.cells (⟨og,nr,dp,(⟨kd,b,d,cP,none,0,[],aI⟩:aH),tg⟩:aK)) a3 λb6 a4=>Lo (Ld (Dz (aS.done (.inr rfl) (λa hf=>results0 rfl a hf) ?_)))))))
 have a5:=St.eB a4 174 2 bu.cells
 exact⟨(⟨kd,b,d,cP,none,0,[],aI⟩:aH),q,u,x,z,rfl,((if_neg za).trans (if_pos hkd):iA kd (r,sp)=g2 (r,sp)).trans (by unfold g2;simp only [f,a0];rw [hkd];rfl),⟨hkr,zu,zu,fZ,(λp hp=>by cases hp),du,Nat.zero_le _⟩,a1,((a5.pl 1).pl 1).pl 2⟩
theorem vR {y:Nat}{og:Int}{nr:Int}{dp:aP}{tg:bW}Q r sp kd (hQ:∀ w,St w0 L w->Q.holds w) (hq:cQ Q az r cz) (hkr:0<=kd/\kd<=255) (hkd:kd=3\/kd=5) (hs:St w0 (aB c #[.slice az r.length cz,.bool sp] 316::aB y (aK.cells (⟨og,nr,dp,(⟨kd,0,0,cP,none,0,[],aI⟩:aH),tg⟩:aK)) 55::L) w):Cs Tryz.prog 319 #[zP c 0,zP y 13] w λrv w'=>∃ yy2 rr2 sp2 az2 cz2,rv=.tuple #[]/\iA kd (r,sp)=(qS yy2,(rr2,sp2))/\iK yy2/\cQ Q az2 rr2 cz2/\St w0 (aB y (aK.cells (⟨og,nr,dp,yy2,tg⟩:aK)) 55::Sl yy2.qa yy2.qc 174 2 bu.cells yy2.ql::aB c #[.slice az2 rr2.length cz2,.bool sp2] 316::L) w':=by
 refine dF Tryz.func319 Tryz.ntmps319 (En (Lg [2,5] (Lw (Zc (cJ Q r sp (λw h=>hQ w (h.drop 1)) hq hs) ?_))))
 rintro a0 a1 ⟨b,rr2,d,e,f,rfl,i,a2,o,q⟩
 refine Lo (Lw (Zu 1 14 (aK.cells (⟨og,nr,dp,(⟨kd,b,0,cP,none,0,[],aI⟩:aH),tg⟩:aK)) q λa3 u=>Lo (Ld (Dz (aS.done (.inr rfl) (λa hf=>results0 rfl a hf) ?_)))))
 have x:=St.eB u 174 2 bu.cells
 exact⟨(⟨kd,b,0,cP,none,0,[],aI⟩:aH),rr2,d,e,f,rfl,((if_neg za).trans ((if_neg za).trans ((if_neg za).trans (if_neg za))):iA kd (r,sp)=g3 kd (r,sp)).trans (by unfold g3;simp only [i];rfl),⟨hkr,zu,zx,fZ,(λp hp=>by cases hp),du,Nat.zero_le _⟩,o,((x.pl 1).pl 1).pl 2⟩
theorem Fw {y:Nat}{og:Int}{nr:Int}{dp:aP}{tg:bW}Q r sp kd (hQ:∀ w,St w0 L w->Q.holds w) (hq:cQ Q az r cz) (hkr:0<=kd/\kd<=255) (hkd:kd=6) (hs:St w0 (aB c #[.slice az r.length cz,.bool sp] 316::aB y (aK.cells (⟨og,nr,dp,(⟨kd,0,0,cP,none,0,[],aI⟩:aH),tg⟩:aK)) 55::L) w):Cs Tryz.prog 275 #[zP c 0,zP y 13] w λrv w'=>∃ yy2 rr2 sp2 az2 cz2,rv=.tuple #[]/\iA kd (r,sp)=(qS yy2,(rr2,sp2))/\iK yy2/\cQ Q az2 rr2 cz2/\St w0 (aB y (aK.cells (⟨og,nr,dp,yy2,tg⟩:aK)) 55::Sl yy2.qa yy2.qc 174 2 bu.cells yy2.ql::aB c #[.slice az2 rr2.length cz2,.bool sp2] 316::L) w':=by
 refine dF Tryz.func275 Tryz.ntmps275 (En (Lg [3,5,8,11] (Lw (Zc (cJ Q r sp (λw h=>hQ w (h.drop 1)) hq hs) ?_))))
 rintro a8 a9 ⟨b,rr2,e,b0,b1,rfl,f,b2,i,o⟩
 refine Lo (Lw (Zc (sI Q rr2 e (λw h=>hQ w (h.drop 1)) i o) ?_))
 rintro b3 b4 ⟨d,q,u,x,z,rfl,a0,a1,a2,a3⟩
 refine Lo (Lw (Zu 1 15 (aK.cells (⟨og,nr,dp,(⟨kd,0,b,cP,none,0,[],aI⟩:aH),tg⟩:aK)) a3 λb5 a4=>Lo (Lw (Zu 1 57 (aK.cells (⟨og,nr,dp,(⟨kd,0,b,cP,none,0,[],d⟩:aH),tg⟩:aK)) a4 λb6 a5=>Lo (Ld (Dz (aS.done (.inr rfl) (λa hf=>results0 rfl a hf) ?_)))))))
 have a6:=St.eB a5 174 2 bu.cells
 exact⟨(⟨kd,0,b,cP,none,0,[],d⟩:aH),q,u,x,z,rfl,((if_neg za).trans ((if_neg za).trans ((if_neg za).trans (if_pos hkd))):iA kd (r,sp)=g6 (r,sp)).trans (by unfold g6;simp only [f,a0];rw [hkd];rfl),⟨hkr,zx,zu,fZ,(λp hp=>by cases hp),a1,Nat.zero_le _⟩,a2,((a6.pl 1).pl 1).pl 2⟩
theorem M9 {n:Nat}(h:n+1<=255):Value.int .u8 (IntKind.u8.wrap ((n+1:Nat)-1))=.int .u8 (n:Nat):=by
 congr 1
 show(((n+1:Nat):Int)-1) % 256=_
 omega
theorem sJ {n:Nat}{r r1 r2:List Int}{sp p1 p2:Bool}{q:List bu}{a b:Int}(h0:sp=false) (h1:kK (r,sp)=(a,(r1,p1))) (h2:jn (r1,p1)=(b,(r2,p2))):yg (n+1) (r,sp) q=yg n (r2,p2) (q++[⟨a,b⟩]):=by
 show(if sp=true then (q,(r,sp)) else _)=_
 rw [if_neg (by rw [h0];decide)]
 simp only [h1,h2]
theorem rB {n:Nat}{r:List Int}{sp:Bool}{q:List bu}(h:n=0\/sp=true):yg n (r,sp) q=(q,(r,sp)):=by
 cases n with
 | zero=>rfl
 | succ n =>
  obtain h|h:=h
  ·cases h
  ·show(if sp=true then (q,(r,sp)) else _)=_
   rw [if_pos h]
theorem Fx {y:Nat}Q r sp kd (hQ:∀ w,St w0 L w->Q.holds w) (hq:cQ Q az r cz) (hkr:0<=kd/\kd<=255) (hkd:kd=4) (hs:St w0 (aB c #[.slice az r.length cz,.bool sp] 316::aB y (aH.cells (⟨kd,0,0,cP,none,0,[],aI⟩:aH)) 53::L) w):Cs Tryz.prog 270 #[zP c 0,zP y 0] w λrv w'=>∃ yy2 rr2 sp2 az2 cz2,rv=.tuple #[]/\iA kd (r,sp)=(qS yy2,(rr2,sp2))/\iK yy2/\cQ Q az2 rr2 cz2/\St w0 (aB y (aH.cells yy2) 53::Sl yy2.qa yy2.qc 174 2 bu.cells yy2.ql::aB c #[.slice az2 rr2.length cz2,.bool sp2] 316::L) w':=by
 refine dF Tryz.func270 Tryz.ntmps270 (En (Ls (Lg [2,5] (Lw (Zc (cJ Q r sp (λw h=>hQ w (h.drop 1)) hq hs) ?_)))))
 rintro f4 f5 ⟨o,rr2,c4,f6,f7,rfl,a7,f8,c5,c6⟩
 refine Lo (Lw (Zu 1 1 (aH.cells (⟨kd,o,0,cP,none,0,[],aI⟩:aH)) c6 λf9 c7=>Lo (Ld (Lt (Ls (Lg [1] (Lw (Zc (iz Q rr2 c4 (λw h=>hQ w (h.drop 1)) c5 c7) ?_))))))))
 rintro g0 c8 ⟨a8,a2,a3,a9,b0,rfl,a4,g5,c9,d0⟩
 refine Lz (Lb (Dz ?_))
 have hnr:=sH a4
 obtain⟨nb,rfl⟩:∃ m:Nat,a8=(m:Int):=⟨a8.toNat,za⟩
 have d1:=St.eB d0 174 2 bu.cells
 have d2:=((d1.pl 1).pl 2).pl 2
 have d3:St w0 (Sl none 0 174 2 bu.cells ([]:List bu)::aB y (aH.cells (⟨kd,o,0,cP,none,0,([]:List bu),aI⟩:aH)) 53::aB c #[.slice a9 a2.length b0,.bool a3] 316::L) c8:=d2
 refine aX.loop (T:=Nat×(List Int)×Bool×(Option Addr)×Nat×(Option Addr)×Nat×(List bu)) (λgg=>[(0,zP c 0),(1,zP y 0),(4,.int .u8 (gg.1:Nat))]) (λgg w=>(gg.1<=255/\yg nb (a2,a3) []=yg gg.1 (gg.2.1,gg.2.2.1) gg.2.2.2.2.2.2.2/\cQ Q gg.2.2.2.1 gg.2.1 gg.2.2.2.2.1/\(∀ p∈gg.2.2.2.2.2.2.2,(-9223372036854775808<=p.rp/\p.rp<=9223372036854775807)/\(0<=p.nm/\p.nm<=18446744073709551615))/\gg.2.2.2.2.2.2.2.length+gg.1<=255)/\St w0 (Sl gg.2.2.2.2.2.1 gg.2.2.2.2.2.2.1 174 2 bu.cells gg.2.2.2.2.2.2.2::aB y (aH.cells (⟨kd,o,0,cP,gg.2.2.2.2.2.1,gg.2.2.2.2.2.2.1,gg.2.2.2.2.2.2.2,aI⟩:aH)) 53::aB c #[.slice gg.2.2.2.1 gg.2.1.length gg.2.2.2.2.1,.bool gg.2.2.1] 316::L) w) (λgg=>gg.1) (nb,a2,a3,a9,b0,none,0,([]:List bu)) [0,1,4] zk ⟨⟨za,rfl,c9,λp hp=>(by cases hp),by simp only [List.length_nil];omega⟩,d3⟩ ?_
 rintro⟨n2,a1,i,b1,b2,q,u,b⟩ g7 ⟨hp,a5⟩
 dsimp only at hp a5
 refine En (Ls (Ls (Lg [4] (Dz (Zr 0 3 [] (LY 14 ((n2:Int)>0) (λd4=>?_) (λd4=>?_)))))))
 ·have g8:0<n2:=za
  refine En (Lw (CH (vM a1 i (a5.pl 2)) λh0 b3=>Lz (Dz (eZ (t:=!i) (λa6=>?_) (λa6=>?_)))))
  ·have hsf:i=false:=by simpa using a6
   obtain⟨x,rfl⟩:∃ m,n2=m+1:=⟨n2-1,za⟩
   refine Zk (Zt (Zs (Zb (ZD (gE [0,1,2,3,4,5,8] (.ef 6 (.rd 7 (.ef 9 (.rd 10 (.ef 11 (.ef 12 (gE [13,14] (.ef 15 .done))))))))) b3 λh1 b4 h2=>Zj (Hl 4 2 43 b4 Hz) (Zc (iz Q a1 i (λw h=>hQ w (h.drop 2)) hp.2.2.1 b4) ?_)))))
   rintro h3 h4 ⟨d,d6,d7,h5,h6,rfl,d8,h7,d9,b5⟩
   refine⟨gR (n:=[.cell ⟨y,43,none⟩ (.slice q b.length u)]) zk (bE (b5.cell 2 rfl zk) aR),Zj (eT 7 d Hz) (Zc (cJ Q d6 d7 (λw h=>hQ w (h.drop 2)) d9 b5) ?_)⟩
   rintro h8 i0 ⟨a0,b6,b7,b8,b9,rfl,e0,i1,e1,c0⟩
   refine⟨gR (n:=[.prop (Value.int .i64 (IntKind.i64.wrap d)=Value.int .i64 d),.cell ⟨y,43,none⟩ (.slice q b.length u)]) zk (aJ (iD za za) (bE (c0.cell 2 rfl zk) aR)),En (Lw (aL.bU rfl zk (t:=51) (e:=174) (n:=1) (ps:=[(0,.agg (bu.cells (⟨d,a0⟩:bu)))]) zk zk (ti:=Tryz.t174) (z:=.agg (bu.cells bG)) zk zk zb zb (cs:=bu.cells (⟨d,a0⟩:bu)) zk c0 λe2 e3 e4 e5=>?_))⟩
   have c1:St w0 (Sl (some ⟨e2,0,none⟩) 1 174 2 bu.cells ([((⟨d,a0⟩:bu):bu)])::aB c #[.slice b8 b6.length b9,.bool b7] 316::Sl q u 174 2 bu.cells b::aB y (aH.cells (⟨kd,o,0,cP,q,u,b,aI⟩:aH)) 53::L) e3:=St.iw (l:=[((⟨d,a0⟩:bu):bu)]) (f:=bu.cells) e4 e5 sF.size zf zk
   refine⟨gR (n:=[.cell ⟨y,43,none⟩ (.slice q b.length u)]) zk (bE (c1.cell 3 rfl zk) aR),(sD GP sF bG (c1.pl 2) zt λc2 c3 i2 e7=>Lo (Lw (Zu 3 43 (aH.cells (⟨kd,o,0,cP,c2,c3,(b++([((⟨d,a0⟩:bu):bu)])),aI⟩:aH)) e7 λi3 e8=>Lo (Ld (Lm (Lt (Dz (dE (Hg 1 (.dH (.int .u8 (x:Nat)) (.gen [])) [.prop (Value.int .u8 (IntKind.u8.wrap (((x+1):Nat)-1))=Value.int .u8 (x:Nat))] (aJ (M9 za) aR) Hz) ?_))))))))⟩
   have e9:=(((e8.pl 2).pl 3).pl 2).pl 3
   exact aS.back (x,b6,b7,b8,b9,c2,c3,(b++[(⟨d,a0⟩:bu)])) [0,1,4] zk (by show x<(x+1);omega) ⟨⟨za,by rw [hp.2.1,sJ hsf d8 e0],e1,λp f1=>(List.mem_append.1 f1).elim (hp.2.2.2.1 p) (λh9=>by rw [List.mem_singleton.1 h9];exact⟨zx,zx⟩),by show(b++[_]).length+x<=255;have:=hp.2.2.2.2;simp only [List.length_append,List.length_cons,List.length_nil];omega⟩,e9.dr 1⟩
  ·have hend:n2=0\/i=true:=.inr (by simpa using a6)
   exact Zx (aS.eQ (aS.eR (aS.kI (aS.done (.inr rfl) (λa hf=>results0 rfl a hf) ⟨(⟨kd,o,0,cP,q,u,b,aI⟩:aH),a1,i,b1,b2,rfl,((if_neg za).trans ((if_neg za).trans (if_pos hkd)):iA kd (r,sp)=g4 (r,sp)).trans (by unfold g4;simp only [a7,a4,Int.toNat_natCast];rw [hp.2.1,rB hend,hkd];rfl),⟨hkr,zu,zx,fZ,hp.2.2.2.1,du,(by have:=hp.2.2.2.2;dsimp only;omega)⟩,hp.2.2.1,((b3.pl 0).pl 1).pl 2⟩))))
 ·have hend:n2=0\/i=true:=.inl za
  exact En (Lw (qR (En (cI (Lt (LF (Lx (mM (mN (Lh (Dz (aS.done (.inr rfl) (λa hf=>results0 rfl a hf) ⟨(⟨kd,o,0,cP,q,u,b,aI⟩:aH),a1,i,b1,b2,rfl,((if_neg za).trans ((if_neg za).trans (if_pos hkd)):iA kd (r,sp)=g4 (r,sp)).trans (by unfold g4;simp only [a7,a4,Int.toNat_natCast];rw [hp.2.1,rB hend,hkd];rfl),⟨hkr,zu,zx,fZ,hp.2.2.2.1,du,(by have:=hp.2.2.2.2;dsimp only;omega)⟩,hp.2.2.1,((a5.pl 2).pl 1).pl 2⟩))))))))))))
theorem Fy {y:Nat}{og:Int}{nr:Int}{dp:aP}{tg:bW}Q r sp kd (hQ:∀ w,St w0 L w->Q.holds w) (hq:cQ Q az r cz) (hkr:0<=kd/\kd<=255) (hkd:kd=4) (hs:St w0 (aB c #[.slice az r.length cz,.bool sp] 316::aB y (aK.cells (⟨og,nr,dp,(⟨kd,0,0,cP,none,0,[],aI⟩:aH),tg⟩:aK)) 55::L) w):Cs Tryz.prog 270 #[zP c 0,zP y 13] w λrv w'=>∃ yy2 rr2 sp2 az2 cz2,rv=.tuple #[]/\iA kd (r,sp)=(qS yy2,(rr2,sp2))/\iK yy2/\cQ Q az2 rr2 cz2/\St w0 (aB y (aK.cells (⟨og,nr,dp,yy2,tg⟩:aK)) 55::Sl yy2.qa yy2.qc 174 2 bu.cells yy2.ql::aB c #[.slice az2 rr2.length cz2,.bool sp2] 316::L) w':=by
 refine dF Tryz.func270 Tryz.ntmps270 (En (Ls (Lg [2,5] (Lw (Zc (cJ Q r sp (λw h=>hQ w (h.drop 1)) hq hs) ?_)))))
 rintro f4 f5 ⟨o,rr2,c4,f6,f7,rfl,a7,f8,c5,c6⟩
 refine Lo (Lw (Zu 1 14 (aK.cells (⟨og,nr,dp,(⟨kd,o,0,cP,none,0,[],aI⟩:aH),tg⟩:aK)) c6 λf9 c7=>Lo (Ld (Lt (Ls (Lg [1] (Lw (Zc (iz Q rr2 c4 (λw h=>hQ w (h.drop 1)) c5 c7) ?_))))))))
 rintro g0 c8 ⟨a8,a2,a3,a9,b0,rfl,a4,g5,c9,d0⟩
 refine Lz (Lb (Dz ?_))
 have hnr:=sH a4
 obtain⟨nb,rfl⟩:∃ m:Nat,a8=(m:Int):=⟨a8.toNat,za⟩
 have d1:=St.eB d0 174 2 bu.cells
 have d2:=((d1.pl 1).pl 2).pl 2
 have d3:St w0 (Sl none 0 174 2 bu.cells ([]:List bu)::aB y (aK.cells (⟨og,nr,dp,(⟨kd,o,0,cP,none,0,([]:List bu),aI⟩:aH),tg⟩:aK)) 55::aB c #[.slice a9 a2.length b0,.bool a3] 316::L) c8:=d2
 refine aX.loop (T:=Nat×(List Int)×Bool×(Option Addr)×Nat×(Option Addr)×Nat×(List bu)) (λgg=>[(0,zP c 0),(1,zP y 13),(4,.int .u8 (gg.1:Nat))]) (λgg w=>(gg.1<=255/\yg nb (a2,a3) []=yg gg.1 (gg.2.1,gg.2.2.1) gg.2.2.2.2.2.2.2/\cQ Q gg.2.2.2.1 gg.2.1 gg.2.2.2.2.1/\(∀ p∈gg.2.2.2.2.2.2.2,(-9223372036854775808<=p.rp/\p.rp<=9223372036854775807)/\(0<=p.nm/\p.nm<=18446744073709551615))/\gg.2.2.2.2.2.2.2.length+gg.1<=255)/\St w0 (Sl gg.2.2.2.2.2.1 gg.2.2.2.2.2.2.1 174 2 bu.cells gg.2.2.2.2.2.2.2::aB y (aK.cells (⟨og,nr,dp,(⟨kd,o,0,cP,gg.2.2.2.2.2.1,gg.2.2.2.2.2.2.1,gg.2.2.2.2.2.2.2,aI⟩:aH),tg⟩:aK)) 55::aB c #[.slice gg.2.2.2.1 gg.2.1.length gg.2.2.2.2.1,.bool gg.2.2.1] 316::L) w) (λgg=>gg.1) (nb,a2,a3,a9,b0,none,0,([]:List bu)) [0,1,4] zk ⟨⟨za,rfl,c9,λp hp=>(by cases hp),by simp only [List.length_nil];omega⟩,d3⟩ ?_
 rintro⟨n2,a1,i,b1,b2,q,u,b⟩ g7 ⟨hp,a5⟩
 dsimp only at hp a5
 refine En (Ls (Ls (Lg [4] (Dz (Zr 0 3 [] (LY 14 ((n2:Int)>0) (λd4=>?_) (λd4=>?_)))))))
 ·have g8:0<n2:=za
  refine En (Lw (CH (vM a1 i (a5.pl 2)) λh0 b3=>Lz (Dz (eZ (t:=!i) (λa6=>?_) (λa6=>?_)))))
  ·have hsf:i=false:=by simpa using a6
   obtain⟨x,rfl⟩:∃ m,n2=m+1:=⟨n2-1,za⟩
   refine Zk (Zt (Zs (Zb (ZD (gE [0,1,2,3,4,5,8] (.ef 6 (.rd 7 (.ef 9 (.rd 10 (.ef 11 (.ef 12 (gE [13,14] (.ef 15 .done))))))))) b3 λh1 b4 h2=>Zj (Hl 4 2 56 b4 Hz) (Zc (iz Q a1 i (λw h=>hQ w (h.drop 2)) hp.2.2.1 b4) ?_)))))
   rintro h3 h4 ⟨d,d6,d7,h5,h6,rfl,d8,h7,d9,b5⟩
   refine⟨gR (n:=[.cell ⟨y,56,none⟩ (.slice q b.length u)]) zk (bE (b5.cell 2 rfl zk) aR),Zj (eT 7 d Hz) (Zc (cJ Q d6 d7 (λw h=>hQ w (h.drop 2)) d9 b5) ?_)⟩
   rintro h8 i0 ⟨a0,b6,b7,b8,b9,rfl,e0,i1,e1,c0⟩
   refine⟨gR (n:=[.prop (Value.int .i64 (IntKind.i64.wrap d)=Value.int .i64 d),.cell ⟨y,56,none⟩ (.slice q b.length u)]) zk (aJ (iD za za) (bE (c0.cell 2 rfl zk) aR)),En (Lw (aL.bU rfl zk (t:=51) (e:=174) (n:=1) (ps:=[(0,.agg (bu.cells (⟨d,a0⟩:bu)))]) zk zk (ti:=Tryz.t174) (z:=.agg (bu.cells bG)) zk zk zb zb (cs:=bu.cells (⟨d,a0⟩:bu)) zk c0 λe2 e3 e4 e5=>?_))⟩
   have c1:St w0 (Sl (some ⟨e2,0,none⟩) 1 174 2 bu.cells ([((⟨d,a0⟩:bu):bu)])::aB c #[.slice b8 b6.length b9,.bool b7] 316::Sl q u 174 2 bu.cells b::aB y (aK.cells (⟨og,nr,dp,(⟨kd,o,0,cP,q,u,b,aI⟩:aH),tg⟩:aK)) 55::L) e3:=St.iw (l:=[((⟨d,a0⟩:bu):bu)]) (f:=bu.cells) e4 e5 sF.size zf zk
   refine⟨gR (n:=[.cell ⟨y,56,none⟩ (.slice q b.length u)]) zk (bE (c1.cell 3 rfl zk) aR),(sD GP sF bG (c1.pl 2) zt λc2 c3 i2 e7=>Lo (Lw (Zu 3 56 (aK.cells (⟨og,nr,dp,(⟨kd,o,0,cP,c2,c3,(b++([((⟨d,a0⟩:bu):bu)])),aI⟩:aH),tg⟩:aK)) e7 λi3 e8=>Lo (Ld (Lm (Lt (Dz (dE (Hg 1 (.dH (.int .u8 (x:Nat)) (.gen [])) [.prop (Value.int .u8 (IntKind.u8.wrap (((x+1):Nat)-1))=Value.int .u8 (x:Nat))] (aJ (M9 za) aR) Hz) ?_))))))))⟩
   have e9:=(((e8.pl 2).pl 3).pl 2).pl 3
   exact aS.back (x,b6,b7,b8,b9,c2,c3,(b++[(⟨d,a0⟩:bu)])) [0,1,4] zk (by show x<(x+1);omega) ⟨⟨za,by rw [hp.2.1,sJ hsf d8 e0],e1,λp f1=>(List.mem_append.1 f1).elim (hp.2.2.2.1 p) (λh9=>by rw [List.mem_singleton.1 h9];exact⟨zx,zx⟩),by show(b++[_]).length+x<=255;have:=hp.2.2.2.2;simp only [List.length_append,List.length_cons,List.length_nil];omega⟩,e9.dr 1⟩
  ·have hend:n2=0\/i=true:=.inr (by simpa using a6)
   exact Zx (aS.eQ (aS.eR (aS.kI (aS.done (.inr rfl) (λa hf=>results0 rfl a hf) ⟨(⟨kd,o,0,cP,q,u,b,aI⟩:aH),a1,i,b1,b2,rfl,((if_neg za).trans ((if_neg za).trans (if_pos hkd)):iA kd (r,sp)=g4 (r,sp)).trans (by unfold g4;simp only [a7,a4,Int.toNat_natCast];rw [hp.2.1,rB hend,hkd];rfl),⟨hkr,zu,zx,fZ,hp.2.2.2.1,du,(by have:=hp.2.2.2.2;dsimp only;omega)⟩,hp.2.2.1,((b3.pl 0).pl 1).pl 2⟩))))
 ·have hend:n2=0\/i=true:=.inl za
  exact En (Lw (qR (En (cI (Lt (LF (Lx (mM (mN (Lh (Dz (aS.done (.inr rfl) (λa hf=>results0 rfl a hf) ⟨(⟨kd,o,0,cP,q,u,b,aI⟩:aH),a1,i,b1,b2,rfl,((if_neg za).trans ((if_neg za).trans (if_pos hkd)):iA kd (r,sp)=g4 (r,sp)).trans (by unfold g4;simp only [a7,a4,Int.toNat_natCast];rw [hp.2.1,rB hend,hkd];rfl),⟨hkr,zu,zx,fZ,hp.2.2.2.1,du,(by have:=hp.2.2.2.2;dsimp only;omega)⟩,hp.2.2.1,((a5.pl 2).pl 1).pl 2⟩))))))))))))
end
section
variable {w0 w : World} {L : List bA} {ay : Option Addr} {cy : Nat} {ax : Option Addr} {cx : Nat}
theorem C0 x y (hll:x.length<=9223372036854775807) (hr1:Rw w0 L bu.cells 2 bG ax x) (hr2:Rw w0 L bu.cells 2 bG ay y) (hs:St w0 L w):Cs Tryz.prog 277 #[.slice ax x.length cx,.slice ay y.length cy] w λrv w'=>rv=.bool (decide (x=y))/\St w0 L w':=by
 refine dF Tryz.func277 Tryz.ntmps277 (En (Lq (Ls (Lq (Dz (eZ (t:=(x.length:Int) != (y.length:Nat)) (λh1=>?_) (λh1=>?_)))))))
 ·have a4:=E2 h1
  exact En (Lq (Le (Ly (Dz (bY (v:=.bool false) ⟨(by rw [decide_eq_false λh9=>absurd (congrArg List.length h9) za]),hs⟩)))))
 ·have a4:=E3 h1
  have hln:x.length=y.length:=za
  refine En (Lk (Lt (Ls (Lq (Lb (Dz (aX.loop (T:=Nat×(Option Addr)×(Option Addr)) (λgg=>[(0,.slice gg.2.1 x.length cx),(1,.slice gg.2.2 y.length cy),(12,.int .i64 (x.length:Nat)),(13,.int .i64 (gg.1:Nat))]) (λgg w=>(gg.1<=x.length/\x.take gg.1=y.take gg.1/\(∀ w,St w0 L w->aC w gg.2.1 x.length 2 (λq=>bu.cells (x.getD q bG)))/\(∀ w,St w0 L w->aC w gg.2.2 y.length 2 (λq=>bu.cells (y.getD q bG))))/\St w0 L w) (λgg=>x.length-gg.1) (0,ax,ay) [0,1,12,13] zk ⟨⟨Nat.zero_le _,rfl,hr1,hr2⟩,hs⟩ ?_)))))))
  rintro⟨k,aq,bq⟩ w2 ⟨hp,a⟩
  dsimp only at hp a
  have a1:=hp.2.2.1
  have a2:=hp.2.2.2
  refine En (Lq (Ls (Dz (Zi ((k:Int)<(x.length:Nat)) (λa5=>?_) (λa5=>?_)))))
  ·have hkx:k<x.length:=za
   have hky:k<y.length:=za
   obtain⟨e,f,rfl⟩:=aC.isSome (a1 _ (a.drop 0)) za
   obtain⟨o,u,rfl⟩:=aC.isSome (a2 _ (a.drop 0)) za
   refine En (Lk (Lt (Ls (Lb (Lq (Ls (Dz (ZD (gE [0,1,2,3,4,5,6,7,8] .done) a λa6 a0 a7=>Zp 0 8 [(2,.dH (zP e (f+(k*2))) .at_),(3,.agg (bu.cells (x.getD k bG))),(6,.dH (zP o (u+(k*2))) .at_),(7,.agg (bu.cells (y.getD k bG)))] [(2,[.prop (0<=(k:Int)/\(k:Int)<(x.length:Int)),.prop (Value.pointer (some (Addr.add ⟨e,f,none⟩ (Int.toNat (k:Nat)*2)))=Value.pointer (some ⟨e,f+(k*2),none⟩))]),(3,[.prop (Array.size (bu.cells (x.getD k bG))=2),.cells ⟨e,f+(k*2),none⟩ (bu.cells (x.getD k bG))]),(6,[.prop (0<=(k:Int)/\(k:Int)<(y.length:Int)),.prop (Value.pointer (some (Addr.add ⟨o,u,none⟩ (Int.toNat (k:Nat)*2)))=Value.pointer (some ⟨o,u+(k*2),none⟩))]),(7,[.prop (Array.size (bu.cells (y.getD k bG))=2),.cells ⟨o,u+(k*2),none⟩ (bu.cells (y.getD k bG))])] (ak (aJ za (aJ (aU _ _ _) aR)) (ak (aJ zk (iN (aC.mj (a1 _ (a0.drop 0)) zo (Nat.le_of_ble_eq_true zk) zk) aR)) (ak (aJ za (aJ (aU _ _ _) aR)) (ak (aJ zk (iN (aC.mj (a2 _ (a0.drop 0)) zo (Nat.le_of_ble_eq_true zk) zk) aR)) iF)))) (aL.vC rfl zk (b:=false) (t:=174) (xs:=bu.cells (x.getD k bG)) (ys:=bu.cells (y.getD k bG)) (m:=2) zk zk zb zk (r:=!(decide ((x.getD k bG)=(y.getD k bG)))) (M6  (OL (x.getD k bG) (y.getD k bG))) (Zd (Zt (eZ (t:=!(decide ((x.getD k bG)=(y.getD k bG)))) (λz=>?_) (λz=>?_)))))))))))))
   ·have a3:=sA z
    have hne:¬ (x.getD k bG=y.getD k bG):=by simpa using z
    exact En (Lq (Le (Ll (Ly (E5 (Ll (Ly (Dz (bY (v:=.bool false) ⟨(by rw [decide_eq_false λh9=>hne (by rw [h9])]),a0⟩)))))))))
   ·have a3:=pK z
    have heq:x.getD k bG=y.getD k bG:=by simpa using z
    exact Zk (Zm (Zt (dE (eT 0 ((k:Nat)+1) Hz) (aS.back (k+1,some ⟨e,f,none⟩,some ⟨o,u,none⟩) [0,1,12,13] zk (by show x.length-(k+1)<x.length-k;omega) ⟨⟨za,by rw [bL (d:=bG) hkx,bL (d:=bG) hky,hp.2.1,heq],a1,a2⟩,a0⟩))))
  ·have hxy:x=y:=by rw [<- List.take_of_length_le (i:=k) (l:=x) za,<- List.take_of_length_le (i:=k) (l:=y) za];exact hp.2.1
   exact En (Lx (mM (mN (Lh (Lt (Lq (Le (Dz (bY (v:=.bool true) ⟨(by rw [decide_eq_true hxy]),a⟩)))))))))
def mC (x:aH) (y:aH):Bool :=
 if ((x.kd:Int) == y.kd)=true then
  if ((x.vw:Int) == y.vw)=true then
   if ((x.k:Int) == y.k)=true then
    if (decide (x.rq=y.rq))=true then
     if (decide (x.ql=y.ql))=true then
      decide (x.dg=y.dg)
     else
      false
    else
     false
   else
    false
  else
   false
 else
  false
theorem Ir x y (hqn:x.ql.length<=9223372036854775807) (hr1:Rw w0 L bu.cells 2 bG x.qa x.ql) (hr2:Rw w0 L bu.cells 2 bG y.qa y.ql) (hs:St w0 L w):Cs Tryz.prog 213 #[.agg (aH.cells x),.agg (aH.cells y)] w λrv w'=>rv=.bool (mC x y)/\St w0 L w':=by
 refine dF Tryz.func213 Tryz.ntmps213 (En (Ls (Lg [0,1] (Dz (mT (aH.cells x) hs λz w2 a6=>Lo (Dz (mT (aH.cells y) a6 λb4 w5 a=>Lz (Ls (Lg [31] (Dz (kJ 0 6 (Hl 1 1 0 a (Hl 3 0 0 a Hz)) (iy 10 ((x.kd:Int) == y.kd) (λd=>?_) (λd=>?_)))))))))))))
 ·refine kJ 6 7 (Hl 7 1 1 a (Hl 9 0 1 a Hz)) (iy 17 ((x.vw:Int) == y.vw) (λe=>?_) (λe=>?_))
  ·refine kJ 13 7 (Hl 14 1 2 a (Hl 16 0 2 a Hz)) (iy 24 ((x.k:Int) == y.k) (λi=>?_) (λi=>?_))
   ·refine Zp 20 4 [(21,.agg (bC.cells x.rq)),(23,.agg (bC.cells y.rq))] [(21,[.prop (Array.size (bC.cells x.rq)=40),.cells ⟨z,3,none⟩ (bC.cells x.rq)]),(23,[.prop (Array.size (bC.cells y.rq)=40),.cells ⟨b4,3,none⟩ (bC.cells y.rq)])] (ak (aJ zk (iN (a.cells 1 3 rfl zk) aR)) (ak (aJ zk (iN (a.cells 0 3 rfl zk) aR)) iF)) (aL.vC rfl zk (b:=true) (t:=41) (xs:=bC.cells x.rq) (ys:=bC.cells y.rq) (m:=3) zk zk zb zk (r:=decide (x.rq=y.rq)) (CL  (OM x.rq y.rq)) (Zr 25 2 [] (iy 31 (decide (x.rq=y.rq)) (λo=>?_) (λo=>?_))))
    ·refine Zj (Hl 28 1 43 a (Hl 30 0 43 a Hz)) (dJ (f:=277) (args:=#[.slice x.qa x.ql.length x.qc,.slice y.qa y.ql.length y.qc]) Tryz.call277 (C0 x.ql y.ql zc (λw h=>hr1 _ (h.drop 2)) (λw h=>hr2 _ (h.drop 2)) a) ?_)
     rintro b2 b3 ⟨rfl,q⟩
     refine Lo (Dz (Zr 32 2 [] (iy 38 (decide (x.ql=y.ql)) (λu=>?_) (λu=>?_))))
     ·exact Zp 34 4 [(35,.agg (bW.cells x.dg)),(37,.agg (bW.cells y.dg))] [(35,[.prop (Array.size (bW.cells x.dg)=32),.cells ⟨z,44,none⟩ (bW.cells x.dg)]),(37,[.prop (Array.size (bW.cells y.dg)=32),.cells ⟨b4,44,none⟩ (bW.cells y.dg)])] (ak (aJ zk (iN (q.cells 1 44 rfl zk) aR)) (ak (aJ zk (iN (q.cells 0 44 rfl zk) aR)) iF)) (aL.vC rfl zk (b:=true) (t:=39) (xs:=bW.cells x.dg) (ys:=bW.cells y.dg) (m:=2) zk zk zb zk (r:=decide (x.dg=y.dg)) (CL  (JS x.dg y.dg)) (En (cI (Lt (Le (Dz (bY (v:=.bool (decide (x.dg=y.dg))) (E8 (by rw [mC,if_pos d,if_pos e,if_pos i,if_pos o,if_pos u]) (q.dr 2)))))))))
     ·exact En (cI (Lt (Le (Dz (bY (v:=.bool false) (E8 (by rw [mC,if_pos d,if_pos e,if_pos i,if_pos o,nI u]) (q.dr 2)))))))
    ·exact En (Lw (qR (En (cI (Lt (Le (Dz (bY (v:=.bool false) (E8 (by rw [mC,if_pos d,if_pos e,if_pos i,nI o]) (a.dr 2))))))))))
   ·exact En (Lw (qR (En (cI (Lt (Le (Dz (bY (v:=.bool false) (E8 (by rw [mC,if_pos d,if_pos e,nI i]) (a.dr 2))))))))))
  ·exact En (Lw (qR (En (cI (Lt (Le (Dz (bY (v:=.bool false) (E8 (by rw [mC,if_pos d,nI e]) (a.dr 2))))))))))
 ·exact En (Lw (qR (En (cI (Lt (Le (Dz (bY (v:=.bool false) (E8 (by rw [mC,nI d]) (a.dr 2))))))))))
structure mD where
 p:Value
 g:Value
 m:Value
def mD.cells (x:mD):Array Value:=#[x.p,x.g,x.m]
abbrev C1:mD:=⟨.nilFunc,.nilFunc,.nilFunc⟩
abbrev QV (a b c:Nat):mD:=⟨.func (.func a) #[] #[],.func (.func b) #[] #[],.func (.func c) #[] #[]⟩
abbrev EW:Int->Value:=Value.int .u8
abbrev yV:mD->Value:=λv=>.agg (mD.cells v)
theorem nH:gG Tryz.prog 344 EW yV 5 342 :=
 gG.now zk ⟨.int .u8,zk,λa b=>by simp [Instr.sameNow,EW,ib],.inl ⟨_,rfl⟩⟩ (λa=>by simp [Instr.sameBits,EW]) (λem a w=>rfl)
theorem yW (hs:St w0 L w):Cs Tryz.prog 268 #[] w λrv w'=>rv=.agg #[.func (.func 318) #[] #[],.func (.func 319) #[] #[],.func (.func 320) #[] #[]]/\St w0 L w':=by
 exact dF Tryz.func268 Tryz.ntmps268 (En (Ls (Lg [0] (Dz (tW (mD.cells C1) hs λe f b=>Lo (Ld (Lt (Ls (Lg [1] (Lw (Zu 0 0 #[.func (.func 318) #[] #[],.func (.func 319) #[] #[],.func (.func 320) #[] #[]] b λi a=>Lo (Ld (Lt (Le (Dz (CI 0 a ⟨rfl,a.dr 1⟩))))))))))))))))
def vS:List (Int×mD):=hY (hY (hY (hY (hY (hY ([]) 1 (⟨.func (.func 261) #[] #[],.func (.func 262) #[] #[],.func (.func 264) #[] #[]⟩:mD)) 2 (⟨.func (.func 265) #[] #[],.func (.func 266) #[] #[],.func (.func 267) #[] #[]⟩:mD)) 3 (⟨.func (.func 318) #[] #[],.func (.func 319) #[] #[],.func (.func 320) #[] #[]⟩:mD)) 5 (⟨.func (.func 318) #[] #[],.func (.func 319) #[] #[],.func (.func 320) #[] #[]⟩:mD)) 4 (⟨.func (.func 269) #[] #[],.func (.func 270) #[] #[],.func (.func 272) #[] #[]⟩:mD)) 6 (⟨.func (.func 274) #[] #[],.func (.func 275) #[] #[],.func (.func 267) #[] #[]⟩:mD)
theorem jc (hs:St w0 L w):Cs Tryz.prog 212 #[] w λrv w'=>∃ r,rv=.map (some r)/\St w0 (bR EW yV r vS::L) w':=by
 exact dF Tryz.func212 Tryz.ntmps212 (En (Lq (Ls (Lg [0,2,4,5,6,7,8,10,12] (Dz (aL.makeMap (α:=Int) (β:=mD) rfl rfl zk EW yV hs λr1 x a=>Lo (Lw (aL.insert rfl zk nH (r:=r1) (k:=1) (v:=(⟨.func (.func 261) #[] #[],.func (.func 262) #[] #[],.func (.func 264) #[] #[]⟩:mD)) zk a 0 rfl λz b=>Lo (Lw (aL.insert rfl zk nH (r:=r1) (k:=2) (v:=(⟨.func (.func 265) #[] #[],.func (.func 266) #[] #[],.func (.func 267) #[] #[]⟩:mD)) zk b 0 rfl λw6 d=>Lo (Dz (CH (yW d) λa0 e=>Lo (Dz (aL.insert rfl zk nH (r:=r1) (k:=3) (v:=(⟨.func (.func 318) #[] #[],.func (.func 319) #[] #[],.func (.func 320) #[] #[]⟩:mD)) zk e 0 rfl λa1 f=>Lo (Dz (CH (yW f) λa3 i=>Lo (Dz (aL.insert rfl zk nH (r:=r1) (k:=5) (v:=(⟨.func (.func 318) #[] #[],.func (.func 319) #[] #[],.func (.func 320) #[] #[]⟩:mD)) zk i 0 rfl λa4 o=>Lo (Lw (aL.insert rfl zk nH (r:=r1) (k:=4) (v:=(⟨.func (.func 269) #[] #[],.func (.func 270) #[] #[],.func (.func 272) #[] #[]⟩:mD)) zk o 0 rfl λa5 q=>Lo (Lw (aL.insert rfl zk nH (r:=r1) (k:=6) (v:=(⟨.func (.func 274) #[] #[],.func (.func 275) #[] #[],.func (.func 267) #[] #[]⟩:mD)) zk q 0 rfl λa6 u=>Lz (Le (Dz (bY (v:=.map (some r1)) ⟨r1,rfl,u⟩)))))))))))))))))))))))))
end
structure ub (kd:Int) (fp fg fm:Nat):Prop where
 cp:∀ (args:Array Value) (w:World),(callFunc fp args).run Tryz.prog w=.ok (.enter fp args) w
 cg:∀ (args:Array Value) (w:World),(callFunc fg args).run Tryz.prog w=.ok (.enter fg args) w
 cm:∀ (args:Array Value) (w:World),(callFunc fm args).run Tryz.prog w=.ok (.enter fm args) w
 may:∀ {w0 w:World}{L:List bA}(x:aH) (hkd:x.kd=kd) (hqn:x.ql.length<=9223372036854775807) (hr:∀ w,St w0 L w->aC w x.qa x.ql.length 2 (λk=>bu.cells (x.ql.getD k bG))) (hs:St w0 L w),Calls Tryz.prog fm #[.agg (aH.cells x)] w (eD λrv w'=>rv=.bool (iR x)/\St w0 L w')
 put:∀ {w0 w:World}{L:List bA}{ad:Option Addr}{c:Nat}(l:List Int) (x:aH) (hkd:x.kd=kd) (hl:l.length<=90000) (hx:iK x) (hm:iR x=true) (hlq:x.ql.length<=1000) (hr:∀ w,St w0 L w->aC w x.qa x.ql.length 2 (λk=>bu.cells (x.ql.getD k bG))) (hs:St w0 (Sl ad c 5 1 aD l::L) w),Calls Tryz.prog fp #[.slice ad l.length c,.agg (aH.cells x)] w (eD λrv w'=>∃ (ao:Option Addr) (co:Nat),rv=.slice ao ((l++ow x).length) co/\St w0 (Sl ao co 5 1 aD (l++ow x)::L) w')
 Fz:∀ {w0 w:World}{L:List bA}{c:Nat}{az:Option Addr}{cz:Nat}{y:Nat}(Q:bA) (r:List Int) (sp:Bool) (hQ:∀ w,St w0 L w->Q.holds w) (hq:cQ Q az r cz) (hkr:0<=kd/\kd<=255) (hs:St w0 (aB c #[.slice az r.length cz,.bool sp] 316::aB y (aH.cells (⟨kd,0,0,cP,none,0,[],aI⟩:aH)) 53::L) w),Calls Tryz.prog fg #[zP c 0,zP y 0] w (eD λrv w'=>∃ (yy2:aH) (rr2:List Int) (sp2:Bool) (az2:Option Addr) (cz2:Nat),rv=.tuple #[]/\iA kd (r,sp)=(qS yy2,(rr2,sp2))/\iK yy2/\cQ Q az2 rr2 cz2/\St w0 (aB y (aH.cells yy2) 53::Sl yy2.qa yy2.qc 174 2 bu.cells yy2.ql::aB c #[.slice az2 rr2.length cz2,.bool sp2] 316::L) w')
 getM:∀ {w0 w:World}{L:List bA}{c:Nat}{az:Option Addr}{cz:Nat}{y:Nat}{og:Int}{nr:Int}{dp:aP}{tg:bW}(Q:bA) (r:List Int) (sp:Bool) (hQ:∀ w,St w0 L w->Q.holds w) (hq:cQ Q az r cz) (hkr:0<=kd/\kd<=255) (hs:St w0 (aB c #[.slice az r.length cz,.bool sp] 316::aB y (aK.cells (⟨og,nr,dp,(⟨kd,0,0,cP,none,0,[],aI⟩:aH),tg⟩:aK)) 55::L) w),Calls Tryz.prog fg #[zP c 0,zP y 13] w (eD λrv w'=>∃ (yy2:aH) (rr2:List Int) (sp2:Bool) (az2:Option Addr) (cz2:Nat),rv=.tuple #[]/\iA kd (r,sp)=(qS yy2,(rr2,sp2))/\iK yy2/\cQ Q az2 rr2 cz2/\St w0 (aB y (aK.cells (⟨og,nr,dp,yy2,tg⟩:aK)) 55::Sl yy2.qa yy2.qc 174 2 bu.cells yy2.ql::aB c #[.slice az2 rr2.length cz2,.bool sp2] 316::L) w')
theorem NM:ub 1 261 262 264 where
 cp:=Tryz.call261
 cg:=Tryz.call262
 cm:=Tryz.call264
 may:=λx hkd hqn hr hs=>by
  rw [show iR x=dC x.rq from if_pos za]
  exact Ik x hs
 put:=λl x hkd hl hx hm hlq hr hs=>by
  rw [show ow x=Js x from if_pos za]
  exact Im l x hl hx (kX (by rw [show iR x=dC x.rq from if_pos za] at hm;exact hm)) hs
 Fz:=λQ r sp hQ hq hkr hs=>Fq Q r sp 1 hQ hq hkr rfl hs
 getM:=λQ r sp hQ hq hkr hs=>Fu Q r sp 1 hQ hq hkr rfl hs
theorem NN:ub 2 265 266 267 where
 cp:=Tryz.call265
 cg:=Tryz.call266
 cm:=Tryz.call267
 may:=λx hkd hqn hr hs=>by
  rw [show iR x=kB x from(if_neg za).trans (if_pos za)]
  exact JY x hs
 put:=λl x hkd hl hx hm hlq hr hs=>by
  rw [show ow x=Jt x from(if_neg za).trans (if_pos za)]
  exact Io l x hl hx hs
 Fz:=λQ r sp hQ hq hkr hs=>Fs Q r sp 2 hQ hq hkr rfl hs
 getM:=λQ r sp hQ hq hkr hs=>Fv Q r sp 2 hQ hq hkr rfl hs
theorem NO:ub 3 318 319 320 where
 cp:=Tryz.call318
 cg:=Tryz.call319
 cm:=Tryz.call320
 may:=λx hkd hqn hr hs=>by
  rw [show iR x=decide ((x.vw:Int) >= 1) from(if_neg za).trans ((if_neg za).trans (if_neg za))]
  exact yT x hs
 put:=λl x hkd hl hx hm hlq hr hs=>by
  rw [show ow x=wd x.vw from(if_neg za).trans ((if_neg za).trans ((if_neg za).trans (if_neg za)))]
  exact yU l x hl hx hs
 Fz:=λQ r sp hQ hq hkr hs=>vQ Q r sp 3 hQ hq hkr zb hs
 getM:=λQ r sp hQ hq hkr hs=>vR Q r sp 3 hQ hq hkr zb hs
theorem NP:ub 4 269 270 272 where
 cp:=Tryz.call269
 cg:=Tryz.call270
 cm:=Tryz.call272
 may:=λx hkd hqn hr hs=>by
  rw [show iR x=(decide ((x.vw:Int) >= 1) && oq x.ql) from(if_neg za).trans ((if_neg za).trans (if_pos za))]
  exact Il x hqn hr hs
 put:=λl x hkd hl hx hm hlq hr hs=>by
  rw [show ow x=Ij x from(if_neg za).trans ((if_neg za).trans (if_pos za))]
  exact Iq l x hl hx hlq hr hs
 Fz:=λQ r sp hQ hq hkr hs=>Fx Q r sp 4 hQ hq hkr rfl hs
 getM:=λQ r sp hQ hq hkr hs=>Fy Q r sp 4 hQ hq hkr rfl hs
theorem NQ:ub 5 318 319 320 where
 cp:=Tryz.call318
 cg:=Tryz.call319
 cm:=Tryz.call320
 may:=λx hkd hqn hr hs=>by
  rw [show iR x=decide ((x.vw:Int) >= 1) from(if_neg za).trans ((if_neg za).trans (if_neg za))]
  exact yT x hs
 put:=λl x hkd hl hx hm hlq hr hs=>by
  rw [show ow x=wd x.vw from(if_neg za).trans ((if_neg za).trans ((if_neg za).trans (if_neg za)))]
  exact yU l x hl hx hs
 Fz:=λQ r sp hQ hq hkr hs=>vQ Q r sp 5 hQ hq hkr zb hs
 getM:=λQ r sp hQ hq hkr hs=>vR Q r sp 5 hQ hq hkr zb hs
theorem NR:ub 6 274 275 267 where
 cp:=Tryz.call274
 cg:=Tryz.call275
 cm:=Tryz.call267
 may:=λx hkd hqn hr hs=>by
  rw [show iR x=kB x from(if_neg za).trans (if_pos za)]
  exact JY x hs
 put:=λl x hkd hl hx hm hlq hr hs=>by
  rw [show ow x=Ju x from(if_neg za).trans ((if_neg za).trans ((if_neg za).trans (if_pos za)))]
  exact Ip l x hl hx hs
 Fz:=λQ r sp hQ hq hkr hs=>Ft Q r sp 6 hQ hq hkr rfl hs
 getM:=λQ r sp hQ hq hkr hs=>Fw Q r sp 6 hQ hq hkr rfl hs
theorem vT {kd:Int}(h:1<=kd/\kd<=6):∃ fp fg fm,jA vS kd=some (QV fp fg fm)/\ub kd fp fg fm:=by
 obtain rfl|rfl|rfl|rfl|rfl|rfl:kd=1\/kd=2\/kd=3\/kd=4\/kd=5\/kd=6:=za
 ·exact⟨261,262,264,rfl,NM⟩
 ·exact⟨265,266,267,rfl,NN⟩
 ·exact⟨318,319,320,rfl,NO⟩
 ·exact⟨269,270,272,rfl,NP⟩
 ·exact⟨318,319,320,rfl,NQ⟩
 ·exact⟨274,275,267,rfl,NR⟩
theorem C2 {kd:Int}(h:¬ (1<=kd/\kd<=6)):jA vS kd=none:=by
 have hn:vS.find? (λx=>decide (x.1=kd))=none:=by
  refine List.find?_eq_none.2 λx hx a=>h ?_
  have hk:∀ x∈vS,1<=x.1/\x.1<=6:=λx hx=>by
   have e:vS.map (λx=>x.1)=[1,2,3,5,4,6]:=rfl
   have b:=e▸List.mem_map_of_mem (f:=λx:Int×mD=>x.1) hx
   simp only [List.mem_cons,List.not_mem_nil,or_false] at b
   omega
  rw [<- of_decide_eq_true a]
  exact hk x hx
 show(vS.find? λx=>decide (x.1=kd)).map (·.2)=none
 rw [hn]
 rfl
theorem uc (kd:Int):(jA vS kd).isSome=decide (1<=kd/\kd<=6):=by
 by_cases h:1<=kd/\kd<=6
 ·obtain⟨fp,fg,fm,hc,-⟩:=vT h
  rw [hc,decide_eq_true h]
  rfl
 ·rw [C2 h,decide_eq_false h]
  rfl
section
variable {w0 w : World} {L : List bA}
theorem mo (n:Int):∀ z∈wd n,0<=z/\z<256:=by
 intro x hx
 obtain⟨k,-,rfl⟩:=List.mem_map.1 hx
 exact lh _
def oz (l:List Int):Prop:=∀ z∈l,0<=z/\z<256
theorem oz.app {l m:List Int}(h:oz l) (h2:oz m):oz (l++m):=λx hx=>(List.mem_append.1 hx).elim (h x) (h2 x)
theorem oz.one {v:Int}(h:0<=v/\v<256):oz [v]:=λz hz=>by rw [List.mem_singleton.1 hz];exact h
theorem oz.nil:oz []:=λz hz=>by cases hz
theorem A4 (s:ByteArray):oz (tx s):=oz.app (λz hz=>by
 rcases List.mem_cons.1 hz with rfl|hz
 ·exact lh _
 ·rw [List.mem_singleton.1 hz];exact lh _) (λx hx=>by
 obtain⟨b,-,rfl⟩:=List.mem_map.1 hx
 have:=b.toNat_lt
 omega)
theorem GW {r:bC}(h:mW r):oz (oo r):=by
 have:=h.kd
 refine oz.app (λz hz=>?_) (oz.app (mo _) (oz.app (mo _) (oz.app (A4 _) (oz.app (A4 _) (oz.app (A4 _) (A4 _))))))
 rcases List.mem_cons.1 hz with rfl|hz
 ·exact lh _
 ·rw [List.mem_singleton.1 hz];omega
theorem GX {x:aH}(h:iK x):oz (ow x):=by
 unfold ow
 split
 ·exact oz.app (mo _) (oz.app (GW h.rq) h.rq.tg)
 ·split
  ·exact oz.app (mo _) (mo _)
  ·split
   ·refine oz.app (mo _) (oz.app (oz.one (lh _)) λz hz=>?_)
    obtain⟨p,-,hp⟩:=List.mem_flatMap.1 hz
    exact oz.app (oz.one (lh _)) (mo _) z hp
   ·split
    ·exact oz.app (mo _) h.dg
    ·exact mo _
theorem A5 {x:aH}(hm:iR x=true) (hq:x.ql.length<=11):8<=(ow x).length/\(ow x).length<=600:=by
 unfold ow
 split
 ·rename_i a
  have hz:=ln (kX (by rw [show iR x=dC x.rq from if_pos a] at hm;exact hm))
  simp only [Js,List.length_append,dV,bW.len]
  omega
 ·repeat' split
  all_goals simp only [Jt,Ij,Ju,List.length_append,List.length_cons,List.length_nil,dV,bW.len,jb]
  all_goals omega
def jd (x:aH):Bool:=if 1<=x.kd/\x.kd<=6 then (if x.vw >= 1073741824 then false else if iR x=false then false else if x.ql.length>11 then false else mC x (iA x.kd (ow x,false)).1) else false
theorem GY {kd:Int}{v:mD}(h:jA vS kd=some v):1<=kd/\kd<=6:=by
 have a:=uc kd
 rw [h] at a
 exact of_decide_eq_true a.symm
theorem OP {kd:Int}(h:jA vS kd=none):¬ (1<=kd/\kd<=6):=by
 have a:=uc kd
 rw [h] at a
 exact of_decide_eq_false a.symm
theorem Me x fp fg fm (hc:jA vS x.kd=some (QV fp fg fm)) (C:ub x.kd fp fg fm) (hx:iK x) (hr:Rw w0 L bu.cells 2 bG x.qa x.ql) (hs:St w0 L w):Cs Tryz.prog 148 #[.agg (aH.cells x)] w λrv w'=>rv=.bool (jd x)/\St w0 L w':=by
 refine dF Tryz.func148 Tryz.ntmps148 (En (Ls (Lg [0] (Dz (mT (aH.cells x) hs λa w2 b3=>Lz (Ls (Dz (aX.join (T:=Nat×Nat) (E:=λjx=>[(1,zP a 0),(2,.bool false),(3,zP jx.1 0),(4,.bool true)]) (F:=λjx w=>St w0 (aB jx.1 (mD.cells (⟨.func (.func fp) #[] #[],.func (.func fg) #[] #[],.func (.func fm) #[] #[]⟩:mD)) 342::bR EW yV jx.2 vS::aB a (aH.cells x) 53::L) w) ?_ ?_))))))))
 ·refine aX.fI [0,0,2,7,15,31,31,0,191,511] (.rd 1 (.rd 2 (.alt (.ef 0 (.rd 3 (.rd 4 (.rd 5 (.rd 6 (.ef 7 (.ef 8 (.rd 9 .done)))))))) (.ef 7 (.ef 0 (.rd 3 (.rd 4 (.rd 5 (.rd 6 (.ef 8 (.rd 9 .done))))))))))) zk zk aZ zk b3 λw4 u d6=>kJ 1 2 (Hl 2 0 0 u Hz) (aL.alt ?_ ?_)
  ·refine Zc (jc u) ?_
   rintro v9 d7 ⟨r7,rfl,a0⟩
   exact⟨gR (n:=[.cell ⟨a,0,none⟩ (.int .u8 x.kd)]) zk (bE (a0.cell 1 rfl zk) aR),aL.lookup rfl zk nH (r:=r7) (k:=x.kd) (ok:=true) zk a0 0 rfl (z:=yV C1) zk (v:=.tuple #[.agg #[.func (.func fp) #[] #[],.func (.func fg) #[] #[],.func (.func fm) #[] #[]],.bool true]) (by rw [hc];rfl) (Zr 4 3 [] (tW (mD.cells C1) a0 λb4 d8 a1=>⟨gR (n:=[.holds (bR EW yV r7 vS).holds,.cell ⟨a,0,none⟩ (.int .u8 x.kd)]) zk (OJ (a1.at_ 1 rfl) (bE (a1.cell 2 rfl zk) aR)),(Zu 0 0 (mD.cells (⟨.func (.func fp) #[] #[],.func (.func fg) #[] #[],.func (.func fm) #[] #[]⟩:mD)) a1 λd9 b5=>Lo (Dz (Zr 9 1 [] (Zd (vB [1,2,3,4] (b4,r7) b5)))))⟩))⟩
  refine tW (mD.cells C1) u λb6 e0 a9=>⟨gR (n:=[.cell ⟨a,0,none⟩ (.int .u8 x.kd)]) zk (bE (a9.cell 1 rfl zk) aR),Zc (jc a9) ?_⟩
  rintro e1 e2 ⟨b0,rfl,a2⟩
  exact⟨gR (n:=[.cell ⟨a,0,none⟩ (.int .u8 x.kd)]) zk (bE (a2.cell 2 rfl zk) aR),aL.lookup rfl zk nH (r:=b0) (k:=x.kd) (ok:=true) zk a2 0 rfl (z:=yV C1) zk (v:=.tuple #[.agg #[.func (.func fp) #[] #[],.func (.func fg) #[] #[],.func (.func fm) #[] #[]],.bool true]) (by rw [hc];rfl) (Zr 4 3 [] (Zu 1 0 (mD.cells (⟨.func (.func fp) #[] #[],.func (.func fg) #[] #[],.func (.func fm) #[] #[]⟩:mD)) a2 λe3 b7=>Lo (Dz (Zr 9 1 [] (Zd (vB [1,2,3,4] (b6,b0) (((b7.pl 2).pl 1).pl 2)))))))⟩
 rintro⟨i,b9⟩ c0 c1
 have b:St w0 (aB i (mD.cells (⟨.func (.func fp) #[] #[],.func (.func fg) #[] #[],.func (.func fm) #[] #[]⟩:mD)) 342::bR EW yV b9 vS::aB a (aH.cells x) 53::L) c0:=c1
 refine aS.gL (S':=[(1,zP a 0),(2,.bool false),(3,zP i 0),(4,.bool true)]) rfl (En (Lt (Ls (Ls (Lg [11] (Dz (kJ 0 8 (Hl 4 2 1 b Hz) (LY 20 ((x.vw:Int) >= 1073741824) (λd=>?_) (λd=>?_)))))))))
 ·exact En (Lw (qR (En (cI (Lt (LT (Lq (Le (Ly (Dz (bY (v:=.bool false) ⟨(by unfold jd;rw [if_pos (GY hc),if_pos d]),b.dr 3⟩)))))))))))
 ·refine Zj (Hl 9 0 2 b (hP 10 2 0 76 (aH.cells x) b Hz)) (dJ (f:=fm) (args:=#[.agg (aH.cells x)]) C.cm (C.may x rfl hx.qn (λw h=>hr _ (h.drop 3)) b) ?_)
  rintro e4 e5 ⟨rfl,e⟩
  refine Lo (Dz (Zr 12 3 [] (iy 27 (!(iR x)) (λo=>?_) (λo=>?_))))
  ·exact En (cI (Lt (LT (Lq (Le (Ly (Dz (bY (v:=.bool false) ⟨(by unfold jd;rw [if_pos (GY hc),if_neg d,if_pos (by simpa using o)]),e.dr 3⟩))))))))
  ·have b2:=pK o
   have hm:iR x=true:=b2
   refine kV (Hl 16 2 43 e Hz) (Zt (Zi ((x.ql.length:Int)>11) (λc4=>?_) (λc4=>?_)))
   ·exact En (Lq (Le (Ly (Dz (bY (v:=.bool false) ⟨(by unfold jd;rw [if_pos (GY hc),if_neg d,if_neg (by rw [hm];decide),if_pos za]),e.dr 3⟩)))))
   ·refine Zk (Zt (Zs (dZ [3,4] (Hl 1 2 0 e Hz) (tW (aH.cells qx) e λc6 e6 c7=>Lo (Dz (Zu 0 0 (aH.cells (⟨x.kd,0,0,cP,none,0,[],aI⟩:aH)) c7 λe7 c8=>Lo (Ld (Lt (Ls (Dz (ZD (gE [0,1,2,3,4] (.ef 5 (.ef 6 (.ef 7 .done)))) c8 λe8 q e9=>Zj (Hl 1 1 1 q (Hl 3 1 0 q (hP 4 3 0 76 (aH.cells x) q Hz))) (dJ (f:=fp) (args:=#[.slice none (([]:List Int).length) 0,.agg (aH.cells x)]) C.cp (C.put ([]:List Int) x rfl (by first|omega|(exact Nat.zero_le _)) hx hm (by first|omega|(exact Nat.zero_le _)) (λw h=>hr _ (h.drop 4)) (St.eB q 5 1 aD)) ?_))))))))))))
    rintro f0 f1 ⟨f2,f3,rfl,a3⟩
    refine⟨gR (n:=[.cell ⟨i,1,none⟩ (.func (.func fg) #[] #[])]) zk (bE (a3.cell 2 rfl zk) aR),Zc (CW (([]:List Int)++ow x) (by have:=A5 hm za;rw [List.nil_append];omega) (GR a3 0 rfl) (λw h=>h.rows 0 rfl aF.size _) a3) ?_⟩
    rintro f4 f5 ⟨d0,a4,a5,rfl,a6⟩
    have d1:cQ (Sl a4 a5 5 1 aD (([]:List Int)++ow x)) a4 (([]:List Int)++ow x) a5:=cQ.new a6 (j:=1) rfl (oz.app oz.nil (GX hx)) (by have:=A5 hm za;rw [List.nil_append];omega)
    refine⟨gR (n:=[.cell ⟨i,1,none⟩ (.func (.func fg) #[] #[])]) zk (bE (a6.cell 4 rfl zk) aR),dJ (f:=fg) (args:=#[zP d0 0,zP c6 0]) C.cg (C.Fz (Sl a4 a5 5 1 aD (([]:List Int)++ow x)) (([]:List Int)++ow x) false (λw h=>h.at_ 0 rfl) d1 hx.kd ((a6.pl 3).pl 1)) ?_⟩
    rintro f6 f7 ⟨a7,f8,f9,g0,g5,rfl,d3,g7,g8,a8⟩
    exact Lo (Ld (Lt (Ls (Dz (dZ [2] (hP 0 7 0 76 (aH.cells x) a8 (hP 1 0 0 76 (aH.cells a7) a8 Hz)) (CH (Ir x a7 hx.qn (λw h=>hr _ (h.drop 8)) (λw h=>h.rows 1 rfl sF.size _) a8) λh0 d4=>Lz (Le (Dz (bY (v:=.bool (mC x a7)) ⟨(by unfold jd;rw [if_pos (GY hc),if_neg d,if_neg (by rw [hm];decide),if_neg za,show iA x.kd (ow x,false)=_ from d3];rfl),d4.dr 8⟩)))))))))
theorem Mf x (hc:jA vS x.kd=none) (hx:iK x) (hr:Rw w0 L bu.cells 2 bG x.qa x.ql) (hs:St w0 L w):Cs Tryz.prog 148 #[.agg (aH.cells x)] w λrv w'=>rv=.bool (jd x)/\St w0 L w':=by
 refine dF Tryz.func148 Tryz.ntmps148 (En (Ls (Lg [0] (Dz (mT (aH.cells x) hs λa w2 a0=>Lz (Ls (Dz (aX.join (T:=Nat×Nat) (E:=λjx=>[(1,zP a 0),(2,.bool false),(3,zP jx.1 0),(4,.bool false)]) (F:=λjx w=>St w0 (aB jx.1 (mD.cells C1) 342::bR EW yV jx.2 vS::aB a (aH.cells x) 53::L) w) ?_ ?_))))))))
 ·refine aX.fI [0,0,2,7,15,31,31,0,191,511] (.rd 1 (.rd 2 (.alt (.ef 0 (.rd 3 (.rd 4 (.rd 5 (.rd 6 (.ef 7 (.ef 8 (.rd 9 .done)))))))) (.ef 7 (.ef 0 (.rd 3 (.rd 4 (.rd 5 (.rd 6 (.ef 8 (.rd 9 .done))))))))))) zk zk aZ zk a0 λw4 b b2=>kJ 1 2 (Hl 2 0 0 b Hz) (aL.alt ?_ ?_)
  ·refine Zc (jc b) ?_
   rintro v9 b3 ⟨d,rfl,e⟩
   exact⟨gR (n:=[.cell ⟨a,0,none⟩ (.int .u8 x.kd)]) zk (bE (e.cell 1 rfl zk) aR),aL.lookup rfl zk nH (r:=d) (k:=x.kd) (ok:=true) zk e 0 rfl (z:=yV C1) zk (v:=.tuple #[.agg (mD.cells C1),.bool false]) (by rw [hc];rfl) (Zr 4 3 [] (tW (mD.cells C1) e λa1 b4 f=>⟨gR (n:=[.holds (bR EW yV d vS).holds,.cell ⟨a,0,none⟩ (.int .u8 x.kd)]) zk (OJ (f.at_ 1 rfl) (bE (f.cell 2 rfl zk) aR)),(Zu 0 0 (mD.cells C1) f λb5 a2=>Lo (Dz (Zr 9 1 [] (Zd (vB [1,2,3,4] (a1,d) a2)))))⟩))⟩
  refine tW (mD.cells C1) b λa3 b6 o=>⟨gR (n:=[.cell ⟨a,0,none⟩ (.int .u8 x.kd)]) zk (bE (o.cell 1 rfl zk) aR),Zc (jc o) ?_⟩
  rintro b7 b8 ⟨q,rfl,i⟩
  exact⟨gR (n:=[.cell ⟨a,0,none⟩ (.int .u8 x.kd)]) zk (bE (i.cell 2 rfl zk) aR),aL.lookup rfl zk nH (r:=q) (k:=x.kd) (ok:=true) zk i 0 rfl (z:=yV C1) zk (v:=.tuple #[.agg (mD.cells C1),.bool false]) (by rw [hc];rfl) (Zr 4 3 [] (Zu 1 0 (mD.cells C1) i λb9 a4=>Lo (Dz (Zr 9 1 [] (Zd (vB [1,2,3,4] (a3,q) (((a4.pl 2).pl 1).pl 2)))))))⟩
 rintro⟨u,a6⟩ a7 a8
 have a9:St w0 (aB u (mD.cells C1) 342::bR EW yV a6 vS::aB a (aH.cells x) 53::L) a7:=a8
 exact aS.gL (S':=[(1,zP a 0),(2,.bool false),(3,zP u 0),(4,.bool false)]) rfl (En (Lt (Ls (Ls (Lg [11] (Lw (qR (En (cI (Lt (LT (Lq (Le (Ly (Dz (bY (v:=.bool false) ⟨(by unfold jd;rw [if_neg (OP hc)]),a9.dr 3⟩))))))))))))))))
theorem Is x (hx:iK x) (hr:Rw w0 L bu.cells 2 bG x.qa x.ql) (hs:St w0 L w):Cs Tryz.prog 148 #[.agg (aH.cells x)] w λrv w'=>rv=.bool (jd x)/\St w0 L w':=by
 by_cases h:1<=x.kd/\x.kd<=6
 ·obtain⟨fp,fg,fm,hc,C⟩:=vT h
  exact Me x fp fg fm hc C hx hr hs
 ·exact Mf x (C2 h) hx hr hs
end
end Go.Proofs.YthfpmlpoiocfdaaGreatDoor
