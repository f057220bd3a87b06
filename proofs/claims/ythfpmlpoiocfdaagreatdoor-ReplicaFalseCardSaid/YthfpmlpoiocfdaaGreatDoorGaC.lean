/-
  Several texts in one: TbL, TbM, TbN, TcD, TbT, TcE, TcF, ShaA.
-/
import Derived.Test.YthfpmlpoiocfdaaGreatDoorGaB
namespace Go.Proofs.YthfpmlpoiocfdaaGreatDoor
open Go.RowKit Go.Sx
set_option linter.unusedVariables false
set_option linter.unusedSimpArgs false
set_option linter.unnecessarySimpa false
set_option maxRecDepth 100000
section
variable {w0 w : World} {L : List bA} {ad : Option Addr} {c : Nat}
theorem Mg {l:List Int}(h:0<l.length):l.getD 0 0<=65536↔∀ x∈l.take 1,x<=65536:=by
 cases l with
 | nil=>cases h
 | cons a l=>simp
theorem JZ {l:List Int}{k:Nat}{v:Int}(hk:k<l.length) (h:v<=65536↔∀ x∈l.take k,x<=65536):max v (l.getD k 0)<=65536↔∀ x∈l.take (k+1),x<=65536:=by
 rw [bL (d:=(0:Int)) hk]
 simp only [List.mem_append,List.mem_singleton]
 constructor
 ·intro a z hz
  rcases hz with hz|rfl
  ·exact h.1 za z hz
  ·omega
 ·intro a
  have b:=h.2 λz hz=>a z (.inl hz)
  have e:=a _ (.inr rfl)
  omega
theorem J0 l (hl:0<l.length) (hll:l.length<=1000) (hr:Rw w0 L vK 1 0 ad l) (hs:St w0 L w):Cs Tryz.prog 147 #[.slice ad l.length c] w λrv w'=>∃ v,rv=.int .u64 v/\(v<=65536↔∀ x∈l,x<=65536)/\St w0 L w':=by
 refine dF Tryz.func147 Tryz.ntmps147 (En (Lq (Ls (Lq (Dz (Zi ((l.length:Int)<1) (λe=>?_) (λe=>?_)))))))
 ·exfalso;omega
 ·obtain⟨a,b,rfl⟩:=aC.isSome (hr _ (hs.drop 0)) za
  refine Zk (Zt (Zs (dE (Hx 1 (0:Int) (l.length:Int) a b 1 (Hg 2 (.gen [.int .u64 (l.getD 0 0)]) [.cell ⟨a,b+(0*1),none⟩ (.int .u64 (l.getD 0 0))] (bE (aC.cV (hr _ (hs.drop 0)) (k:=0) zo (j:=0) zb zk) aR) Hz)) (En (Lt (Ls (Lq (Lb (Dz (aX.loop (T:=Nat×Int) (λgg=>[(0,zL a b l.length c),(2,.int .u64 0),(3,.int .u64 gg.2),(4,.int .i64 (gg.1:Nat))]) (λgg w=>(1<=gg.1/\gg.1<=l.length/\(gg.2<=65536↔∀ x∈l.take gg.1,x<=65536))/\St w0 L w) (λgg=>l.length-gg.1) (1,(l.getD 0 0)) [0,2,3,4] zk ⟨⟨Nat.le_refl _,hl,Mg hl⟩,hs⟩ ?_))))))))))
  rintro⟨k,v⟩ i ⟨hp,d⟩
  dsimp only at hp d
  refine En (Ls (Lq (Dz (Zi ((k:Int)<(l.length:Nat)) (λf=>?_) (λf=>?_)))))
  ·have hk:k<l.length:=za
   exact Zk (Zt (Zs (Zb (dE (Hx 3 (k:Int) (l.length:Int) a b 1 (Hg 4 (.gen [.int .u64 (l.getD k 0)]) [.cell ⟨a,b+(k*1),none⟩ (.int .u64 (l.getD k 0))] (bE (aC.cV (hr _ (d.drop 0)) (k:=k) zo (j:=0) zb zk) aR) (Hg 5 (.dH (.int .u64 (max v (l.getD k 0))) (.gen [])) [.prop (Value.int .u64 (if (l.getD k 0)>v then (l.getD k 0) else v)=Value.int .u64 (max v (l.getD k 0)))] (aJ GU aR) Hz))) (Zm (Zt (dE (eT 1 ((k:Nat)+1) Hz) (aS.back (k+1,max v (l.getD k 0)) [0,2,3,4] zk (by show l.length-(k+1)<l.length-k;omega) ⟨⟨za,za,JZ hk hp.2.2⟩,d⟩))))))))
  ·have hke:l.take k=l:=List.take_of_length_le za
   exact En (Lx (mM (mN (Lh (Lt (Lq (Le (Dz (bY (v:=.int .u64 v) ⟨v,rfl,(hke▸hp.2.2),d⟩)))))))))
structure lP (m:aK):Prop where
 og:-9223372036854775808<=m.og/\m.og<=9223372036854775807
 nr:0<=m.nr/\m.nr<=18446744073709551615
 dp:∀ x∈m.dp.toList,0<=x/\x<=18446744073709551615
 bd:iK m.bd
 tg:∀ z∈m.tg.toList,0<=z/\z<256
instance:DecidablePred λd:aP=>∀ x∈d.toList,x<=65536:=λd=>inferInstance
def yh (m:aK):Bool:=((((decide ((m.og:Int)<1)) || (decide ((m.og:Int)>11))) || (decide ((m.nr:Int)<1))) || (decide ((m.nr:Int)>65536))) || (((m.dp.toList.getD (Int.toNat (m.og-1)) 0):Int) != (m.nr-1))
def gv (m:aK):Bool:=if yh m=true then false else if ∀ x∈m.dp.toList,x<=65536 then jd m.bd else false
theorem C3 m (hm:lP m) (hr:Rw w0 L bu.cells 2 bG m.bd.qa m.bd.ql) (hs:St w0 L w):Cs Tryz.prog 93 #[.agg (aK.cells m)] w λrv w'=>rv=.bool (gv m)/\St w0 L w':=by
 refine dF Tryz.func93 Tryz.ntmps93 (Zs ?_)
 have g1:=hm.og
 have g2:=hm.nr
 refine Zg [0] (mT (aK.cells m) hs λb w2 a3=>Lz (Ls (Ls (Dz (aX.join (T:=Unit) (E:=λ_=>[(32,.bool (((((decide ((m.og:Int)<1)) || (decide ((m.og:Int)>11))) || (decide ((m.nr:Int)<1))) || (decide ((m.nr:Int)>65536))) || (((m.dp.toList.getD (Int.toNat (m.og-1)) 0):Int) != (m.nr-1)))),(2,.bool false),(1,zP b 0)]) (F:=λ_ w=>St w0 (aB b (aK.cells m) 55::L) w) ?_ ?_)))))
 ·refine ZD (gE [0,1,2,3,4,5,6,7,8,9,10,11,12,13,14,15,16,17,18,19,20,21,22,23,24,25,26,27,28,29] .done) a3 λw4 a b5=>kJ 0 4 (Hl 1 0 0 a Hz) (iy 6 (decide ((m.og:Int)<1)) (λe=>?_) (λe=>?_))
  ·have a4:=of_decide_eq_true e
   exact En (cI (Dz (lM [32,2,1] () true (by first|rfl|simp [Hb,e]) a)))
  ·have a4:=of_decide_eq_false e
   refine kJ 4 5 (Hl 5 0 0 a Hz) (iy 11 (decide ((m.og:Int)>11)) (λo=>?_) (λo=>?_))
   ·have a5:=of_decide_eq_true o
    exact En (cI (Dz (lM [32,2,1] () true (by first|rfl|simp [Hb,e,o]) a)))
   ·have a5:=of_decide_eq_false o
    refine kJ 9 5 (Hl 10 0 1 a Hz) (iy 16 (decide ((m.nr:Int)<1)) (λi=>?_) (λi=>?_))
    ·have a6:=of_decide_eq_true i
     exact En (cI (Dz (lM [32,2,1] () true (by first|rfl|simp [Hb,e,o,i]) a)))
    ·have a6:=of_decide_eq_false i
     refine kJ 14 5 (Hl 15 0 1 a Hz) (iy 21 (decide ((m.nr:Int)>65536)) (λu=>?_) (λu=>?_))
     ·have a7:=of_decide_eq_true u
      exact En (cI (Dz (lM [32,2,1] () true (by first|rfl|simp [Hb,e,o,i,u]) a)))
     ·have a7:=of_decide_eq_false u
      exact kV (Hl 20 0 0 a (eT 21 (m.og-1) (Hx 23 ((m.og-1):Int) (11:Int) b 2 1 (Hg 24 (.gen [.int .u64 (m.dp.toList.getD (Int.toNat (m.og-1)) 0)]) [.cell ⟨b,2+((Int.toNat (m.og-1))*1),none⟩ (.int .u64 (m.dp.toList.getD (Int.toNat (m.og-1)) 0))] (bE (a.cell 0 rfl (aP.ry (off:=2) (d:=m.dp) zk za)) aR) (Hl 26 0 1 a (Cz 27 (m.nr-1) Hz)))))) (lM [32,2,1] () (((m.dp.toList.getD (Int.toNat (m.og-1)) 0):Int) != (m.nr-1)) (by first|rfl|simp [Hb,e,o,i,u]) a)
 intro _ b6 a0
 refine Zt (eZ (t:=((((decide ((m.og:Int)<1)) || (decide ((m.og:Int)>11))) || (decide ((m.nr:Int)<1))) || (decide ((m.nr:Int)>65536))) || (((m.dp.toList.getD (Int.toNat (m.og-1)) 0):Int) != (m.nr-1))) (λq=>?_) (λq=>?_))
 ·exact En (Lq (Le (Ly (Dz (bY (v:=.bool false) ⟨(by unfold gv;rw [if_pos (show yh m=true from q)]),a0.dr 1⟩)))))
 ·have a1:=(Bool.or_eq_false_iff.1 q).1
  have h13aa:=(Bool.or_eq_false_iff.1 a1).1
  have h13aaa:=(Bool.or_eq_false_iff.1 h13aa).1
  have h13aaaa:=(Bool.or_eq_false_iff.1 h13aaa).1
  have h13aaab:(decide ((m.og:Int)>11))=false:=(Bool.or_eq_false_iff.1 h13aaa).2
  have h13aab:(decide ((m.nr:Int)<1))=false:=(Bool.or_eq_false_iff.1 h13aa).2
  have h13ab:(decide ((m.nr:Int)>65536))=false:=(Bool.or_eq_false_iff.1 a1).2
  have a9:(((m.dp.toList.getD (Int.toNat (m.og-1)) 0):Int) != (m.nr-1))=false:=(Bool.or_eq_false_iff.1 q).2
  refine Zk (Zt (Zs (dZ [2,7] (Hg 1 (.dH (zL b 2 m.dp.toList.length 11) (.sub 0 11)) [.prop (((none:Option Operand)=none->(0:Nat)=0)/\((none:Option Operand)=none->(11:Nat)=11)/\(0:Nat)<=11/\(11:Nat)<=11),.prop (Value.slice (some (if 11=0 then Addr.mk b 2 none else (Addr.mk b 2 none).add (0*1))) (11-0) (11-0)=Value.slice (some ⟨b,2,none⟩) m.dp.toList.length 11)] (aJ ⟨(by first|(intro _;rfl)|(intro hc;cases hc)),(by first|(intro _;rfl)|(intro hc;cases hc)),za,za⟩ (aJ (by rw [aP.len];exact eM _ _ _ _ _ zb) aR)) Hz) (dJ (f:=147) (args:=#[zL b 2 m.dp.toList.length 11]) Tryz.call147 (J0 m.dp.toList (by rw [aP.len];decide) (by rw [aP.len];decide) (λw h=>aP.lk h 0 2 m.dp rfl zk) a0) ?_))))
  rintro b8 b9 ⟨b0,rfl,a2,x⟩
  refine Lo (Dz (Zr 3 2 [] (LY 37 ((b0:Int)<=65536) (λz=>?_) (λz=>?_))))
  ·exact Zj (hP 6 0 13 76 (aH.cells m.bd) x Hz) (CH (Is m.bd hm.bd (λw h=>hr _ (h.drop 1)) x) λc1 b2=>Lz (Le (Dz (bY (v:=.bool (jd m.bd)) ⟨(by unfold gv;rw [if_neg (ne_true_of_eq_false (show yh m=false from q)),if_pos (a2.1 z)]),b2.dr 1⟩))))
  ·exact En (Lw (qR (En (cI (Lt (Le (Dz (bY (v:=.bool false) ⟨(by unfold gv;rw [if_neg (ne_true_of_eq_false (show yh m=false from q)),if_neg (λi=>z (a2.2 i))]),x.dr 1⟩))))))))
end
section
variable {w0 w : World} {L : List bA}
def iO (m:aK) (k:Nat):List Int:=[IntKind.u8.wrap m.og]++(m.dp.toList.take k).flatMap wd
theorem oA (m:aK){k:Nat}(hk:k<11):iO m (k+1)=iO m k++wd (m.dp.toList.getD k 0):=by
 rw [iO,iO,bL (d:=(0:Int)) (by rw [aP.len];exact hk),List.flatMap_append,List.append_assoc]
 simp
theorem jF (m:aK):∀ k,k<=11->(iO m k).length=1+8*k
 | 0,_=>rfl
 | k+1,h=>by rw [oA m za,List.length_append,dV,jF m k za];omega
def pZ (m:aK):List Int:=(iO m 11++[m.bd.kd])++ow m.bd
def pN (m:aK):List Int:=if gv m=true then pZ m else []
theorem pB {m:aK}(h:gv m=true):jd m.bd=true:=by
 unfold gv at h
 split at h
 ·cases h
 ·split at h
  ·exact h
  ·cases h
theorem lq {x:aH}(h:jd x=true):(1<=x.kd/\x.kd<=6)/\iR x=true/\x.ql.length<=11:=by
 unfold jd at h
 split at h
 ·rename_i a
  split at h
  ·cases h
  ·split at h
   ·cases h
   ·rename_i b
    split at h
    ·cases h
    ·exact⟨a,by simpa using b,za⟩
 ·cases h
theorem vU {m:aK}(h:gv m=true):98<=(pZ m).length/\(pZ m).length<=700:=by
 obtain⟨d,a,b⟩:=lq (pB h)
 have:=A5 a b
 rw [pZ,List.length_append,List.length_append,jF m _ (Nat.le_refl _),List.length_cons,List.length_nil]
 omega
theorem GZ {m:aK}(hm:lP m):oz (pZ m):=by
 have:=hm.bd.kd
 refine oz.app (oz.app (oz.app (oz.one (lh _)) λz hz=>?_) (oz.one za)) (GX hm.bd)
 obtain⟨y,-,hy⟩:=List.mem_flatMap.1 hz
 exact mo _ z hy
theorem C4 m (hm:lP m) (hb:gv m=true) (hr:Rw w0 L bu.cells 2 bG m.bd.qa m.bd.ql) (hs:St w0 L w):Cs Tryz.prog 194 #[.agg (aK.cells m)] w λrv w'=>∃ ao co,rv=.slice ao ((pZ m).length) co/\St w0 (Sl ao co 5 1 aD (pZ m)::L) w':=by
 refine dF Tryz.func194 Tryz.ntmps194 (Zs ?_)
 have hin:=lq (pB hb)
 obtain⟨fp,fg,fm,hc,C⟩:=vT hin.1
 refine Zg [0] (mT (aK.cells m) hs λa w2 a7=>Lz (Ls (Dz (dZ [3] (Hl 1 0 0 a7 Hz) (CB Rs aF [(IntKind.u8.wrap m.og:Int)] a7 λb4 w5 a8=>Lz (Ls (Ls (Dz (dE (hP 1 1 2 11 (aP.cells m.dp) a8 Hz) (Zt (Zb ?_)))))))))))
 have b2:St w0 (Sl (some ⟨b4,0,none⟩) 1 5 1 aD (iO m 0)::aB a (aK.cells m) 55::L) w5:=a8
 refine aX.loop (T:=Nat×(Option Addr)×Nat) (λgg=>[(1,zP a 0),(2,.slice none 0 0),(3,.slice gg.2.1 ((iO m gg.1).length) gg.2.2),(11,.agg (aP.cells m.dp)),(12,.int .i64 (gg.1:Nat))]) (λgg w=>(gg.1<=11)/\St w0 (Sl gg.2.1 gg.2.2 5 1 aD (iO m gg.1)::aB a (aK.cells m) 55::L) w) (λgg=>11-gg.1) (0,some ⟨b4,0,none⟩,1) [1,2,3,11,12] zk ⟨Nat.zero_le _,b2⟩ ?_
 rintro⟨k,ad,c⟩ d8 ⟨hp,a4⟩
 dsimp only at hp a4
 refine En (Lq (Ls (Dz (Zi ((k:Int)<11) (λb3=>?_) (λb3=>?_)))))
 ·have hk:k<11:=za
  have hkl:=jF m k za
  have hdk:=hm.dp (m.dp.toList.getD k 0) (bJ (d:=(0:Int)) (by rw [aP.len];exact hk))
  refine Zk (Zt (Zs (Zb (Zs (dE (Hg 0 (.elem (.int .u64 (m.dp.toList.getD k 0))) [.prop (0<=(k:Int)/\(k:Int)<(11:Int)),.prop ((aP.cells m.dp)[Int.toNat (k:Nat)*1]?=some (.int .u64 (m.dp.toList.getD k 0)))] (aJ za (aJ (by rw [Nat.mul_one];exact aP.at_ _ k za) aR)) Hz) (En (Lt (Lg [2] (Lw (Zc (eU (iO m k) (m.dp.toList.getD k 0) ze za a4) ?_))))))))))
  rintro d9 b5 ⟨o,q,rfl,b6⟩
  refine Lo (cI (Lm (Lt (Dz (dE (eT 0 ((k:Nat)+1) Hz) ?_)))))
  have b7:St w0 (Sl o q 5 1 aD (iO m (k+1))::aB a (aK.cells m) 55::L) b5:=(by rw [oA m hk];exact b6)
  exact aS.pick [12,3,1,2,11] (S':=[(12,.int .i64 ((k:Nat)+1)),(3,.slice o ((iO m k++wd (m.dp.toList.getD k 0)).length) q),(1,zP a 0),(2,.slice none 0 0),(11,.agg (aP.cells m.dp))]) zk (aS.gL (S':=[(12,.int .i64 ((k:Nat)+1)),(3,.slice o ((iO m (k+1)).length) q),(1,zP a 0),(2,.slice none 0 0),(11,.agg (aP.cells m.dp))]) (by rw [oA m hk]) (aS.back (k+1,o,q) [1,2,3,11,12] zk (by show 11-(k+1)<11-k;omega) ⟨za,b7⟩))
 ·have hke:k=11:=za
  subst hke
  have hkl:=jF m 11 za
  refine Zx (aS.eQ (aS.eR (aS.kI (Zt (Zs (aX.join (T:=Option Addr×Nat×Nat×Nat) (E:=λjx=>[(2,.slice jx.1 ((((iO m 11)++([(m.bd.kd:Int)]))++ow m.bd).length) jx.2.1)]) (F:=λjx w=>St w0 (Sl jx.1 jx.2.1 5 1 aD (((iO m 11)++([(m.bd.kd:Int)]))++ow m.bd)::Sl (some ⟨jx.2.2.1,0,none⟩) 1 5 1 aD ([(m.bd.kd:Int)])::bR EW yV jx.2.2.2 vS::aB a (aK.cells m) 55::L) w) ?_ ?_))))))
  ·refine aX.fI [0,0,2,6,15,31,0,0,128,384,896,1985,0,4096,16383,32767] (.rd 1 (.rd 2 (.rd 3 (.rd 6 (.rd 7 (.rd 8 (.rd 9 (.rd 12 (.rd 13 (.alt (.ef 0 (.rd 4 (.rd 5 (.ef 10 (.ef 11 (.ef 14 (.rd 15 .done))))))) (.ef 10 (.ef 0 (.rd 4 (.rd 5 (.ef 11 (.ef 14 (.rd 15 .done))))))))))))))))) zk zk aZ zk a4 λe0 b e1=>Zh [(1,.gen []),(2,.gen []),(3,.gen [.int .u8 m.bd.kd]),(6,.gen []),(7,.gen []),(8,.gen []),(9,.gen [.int .u8 m.bd.kd]),(12,.gen []),(13,.agg (aH.cells m.bd))] [(3,[.cell ⟨a,13,none⟩ (.int .u8 m.bd.kd)]),(9,[.cell ⟨a,13,none⟩ (.int .u8 m.bd.kd)]),(13,[.prop (Array.size (aH.cells m.bd)=76),.cells ⟨a,13,none⟩ (aH.cells m.bd)])] (ak (bE (b.cell 1 rfl zk) aR) (ak (bE (b.cell 1 rfl zk) aR) (ak (aJ zk (iN (b.cells 1 13 rfl zk) aR)) iF))) (aL.alt ?_ ?_)
   ·refine Zc (jc b) ?_
    rintro e2 e3 ⟨u,rfl,e⟩
    refine⟨gR (n:=[.prop (Array.size (aH.cells m.bd)=76),.cells ⟨a,13,none⟩ (aH.cells m.bd),.cell ⟨a,13,none⟩ (.int .u8 m.bd.kd),.cell ⟨a,13,none⟩ (.int .u8 m.bd.kd)]) zk (aJ zk (iN (e.cells 2 13 rfl zk) (bE (e.cell 2 rfl zk) (bE (e.cell 2 rfl zk) aR)))),aL.lookup rfl zk nH (r:=u) (k:=m.bd.kd) (ok:=false) zk e 0 rfl (z:=yV C1) zk (v:=.agg #[.func (.func fp) #[] #[],.func (.func fg) #[] #[],.func (.func fm) #[] #[]]) (by rw [hc];rfl) (Zr 5 1 [] (CB Rs aF [(m.bd.kd:Int)] e λb8 e4 x=>⟨gR (n:=[.holds (bR EW yV u vS).holds,.prop (Array.size (aH.cells m.bd)=76),.cells ⟨a,13,none⟩ (aH.cells m.bd),.cell ⟨a,13,none⟩ (.int .u8 m.bd.kd)]) zk (OJ (x.at_ 1 rfl) (aJ zk (iN (x.cells 3 13 rfl zk) (bE (x.cell 3 rfl zk) aR)))),(sD Rs aF (0:Int) (x.pl 2) zi λc0 c1 e5 a0=>⟨gR (n:=[.holds (bR EW yV u vS).holds,.prop (Array.size (aH.cells m.bd)=76),.cells ⟨a,13,none⟩ (aH.cells m.bd),.cell ⟨a,13,none⟩ (.int .u8 m.bd.kd)]) zk (OJ (a0.at_ 2 rfl) (aJ zk (iN (a0.cells 3 13 rfl zk) (bE (a0.cell 3 rfl zk) aR)))),dJ (f:=fp) (args:=#[.slice c0 (((iO m 11)++([(m.bd.kd:Int)])).length) c1,.agg (aH.cells m.bd)]) C.cp (C.put ((iO m 11)++([(m.bd.kd:Int)])) m.bd rfl zi hm.bd hin.2.1 (by have:=hin.2.2;omega) (λw h=>hr _ (h.drop 3)) a0) ?_⟩)⟩))⟩
    rintro e6 e7 ⟨c2,c3,rfl,c4⟩
    exact Lo (Dz (Zr 15 1 [] (Zd (vB [2] (c2,c3,b8,u) c4))))
   refine CB Rs aF [(m.bd.kd:Int)] b λa9 e8 a5=>⟨gR (n:=[.prop (Array.size (aH.cells m.bd)=76),.cells ⟨a,13,none⟩ (aH.cells m.bd),.cell ⟨a,13,none⟩ (.int .u8 m.bd.kd)]) zk (aJ zk (iN (a5.cells 2 13 rfl zk) (bE (a5.cell 2 rfl zk) aR))),Zc (jc a5) ?_⟩
   rintro e9 f0 ⟨a6,rfl,i⟩
   refine⟨gR (n:=[.prop (Array.size (aH.cells m.bd)=76),.cells ⟨a,13,none⟩ (aH.cells m.bd),.cell ⟨a,13,none⟩ (.int .u8 m.bd.kd),.cell ⟨a,13,none⟩ (.int .u8 m.bd.kd)]) zk (aJ zk (iN (i.cells 3 13 rfl zk) (bE (i.cell 3 rfl zk) (bE (i.cell 3 rfl zk) aR)))),aL.lookup rfl zk nH (r:=a6) (k:=m.bd.kd) (ok:=false) zk i 0 rfl (z:=yV C1) zk (v:=.agg #[.func (.func fp) #[] #[],.func (.func fg) #[] #[],.func (.func fm) #[] #[]]) (by rw [hc];rfl) (Zr 5 1 [] ?_)⟩
   have b0:=i.pl 2
   refine aL.append rfl zk Rs aF (ad:=ad) (c:=c) (xs:=iO m 11) (ys:=[(m.bd.kd:Int)]) (adx:=some ⟨a9,0,none⟩) (cx:=1) (0:Int) zk b0 (b0.rows 2 rfl aF.size (0:Int)) (λh=>nomatch h) zi zi λc5 c6 f1 a1=>⟨gR (n:=[.holds (bR EW yV a6 vS).holds,.prop (Array.size (aH.cells m.bd)=76),.cells ⟨a,13,none⟩ (aH.cells m.bd),.cell ⟨a,13,none⟩ (.int .u8 m.bd.kd)]) zk (OJ (a1.at_ 1 rfl) (aJ zk (iN (a1.cells 3 13 rfl zk) (bE (a1.cell 3 rfl zk) aR)))),dJ (f:=fp) (args:=#[.slice c5 (((iO m 11)++([(m.bd.kd:Int)])).length) c6,.agg (aH.cells m.bd)]) C.cp (C.put ((iO m 11)++([(m.bd.kd:Int)])) m.bd rfl zi hm.bd hin.2.1 (by have:=hin.2.2;omega) (λw h=>hr _ (h.drop 3)) a1) ?_⟩
   rintro f2 f3 ⟨c7,c8,rfl,c9⟩
   exact Lo (Dz (Zr 15 1 [] (Zd (vB [2] (c7,c8,a9,a6) ((((c9.pl 3).pl 2).pl 3).pl 3)))))
  rintro⟨a2,a3,d1,d2⟩ d3 d4
  have d5:St w0 (Sl a2 a3 5 1 aD (((iO m 11)++([(m.bd.kd:Int)]))++ow m.bd)::Sl (some ⟨d1,0,none⟩) 1 5 1 aD ([(m.bd.kd:Int)])::bR EW yV d2 vS::aB a (aK.cells m) 55::L) d3:=d4
  refine aS.gL (S':=[(2,.slice a2 ((((iO m 11)++([(m.bd.kd:Int)]))++ow m.bd).length) a3)]) rfl (Zt (Ze (bY (v:=.slice a2 ((((iO m 11)++([(m.bd.kd:Int)]))++ow m.bd).length) a3) ?_)))
  have d6:=(((d5.pl 0).pl 3).pl 3).pl 3
  exact⟨a2,a3,rfl,d6.dr 3⟩
end
def Qf (s:CS):Nat->CS
 | 0=>s
 | k+1=>(jn (Qf s k)).2
def Qg (s:CS) (k:Nat):Int:=(jn (Qf s k)).1
def Qh (f:Nat->Int) (k:Nat):aP:=Vector.ofFn λi=>if i.val<k then f i.val else 0
def ofM (i n:Int) (b:List Int) (t:bW):aK×Int :=
 let a:=kK (b,false)
 let k:=kK (Qf a.2 11)
 if ¬ (1<=k.1/\k.1<=6) then (fE,5) else if a.1≠i then (fE,5) else
 let g:=iA k.1 k.2
 let m:aK:=⟨a.1,n,Qh (Qg a.2) 11,g.1,t⟩
 if g.2.2=true then (fE,5) else if g.2.1.length>0 then (fE,5) else if pN m=b then (m,0) else (fE,5)
def getM (l:List Int):aK×Int :=
 if l.length<=40 then (fE,5) else
 let w:=jn (l,false)
 let o:=tk (l.length-40) w.2
 let h:=ua o.2
 ofM (o.1.getD 0 0) w.1 o.1 h.1
section
variable {w0 w : World} {L : List bA} {ay : Option Addr} {cy : Nat} {ax : Option Addr} {cx : Nat}
theorem FA x y (hll:x.length<=9223372036854775807) (hr1:Rw w0 L bu.cells 2 bG ax x) (hr2:Rw w0 L bu.cells 2 bG ay y) (hs:St w0 L w):Cs Tryz.prog 223 #[.slice ax x.length cx,.slice ay y.length cy] w λrv w'=>rv=.bool (decide (x=y))/\St w0 L w':=by
 refine dF Tryz.func223 Tryz.ntmps223 (En (Lq (Ls (Lq (Dz (eZ (t:=(x.length:Int) != (y.length:Nat)) (λh1=>?_) (λh1=>?_)))))))
 ·have a4:=E2 h1
  exact En (Lq (Le (Ly (Dz (bY (v:=.bool false) ⟨(by rw [decide_eq_false λh9=>absurd (congrArg List.length h9) za]),hs⟩)))))
 ·have a4:=E3 h1
  have hln:x.length=y.length:=za
  refine En (Lk (Lt (Ls (Lq (Lb (Dz (aX.loop (T:=Nat×(Option Addr)×(Option Addr)) (λgg=>[(0,.slice gg.2.1 x.length cx),(1,.slice gg.2.2 y.length cy),(5,.int .i64 (gg.1:Nat))]) (λgg w=>(gg.1<=x.length/\x.take gg.1=y.take gg.1/\(∀ w,St w0 L w->aC w gg.2.1 x.length 2 (λq=>bu.cells (x.getD q bG)))/\(∀ w,St w0 L w->aC w gg.2.2 y.length 2 (λq=>bu.cells (y.getD q bG))))/\St w0 L w) (λgg=>x.length-gg.1) (0,ax,ay) [0,1,5] zk ⟨⟨Nat.zero_le _,rfl,hr1,hr2⟩,hs⟩ ?_)))))))
  rintro⟨k,aq,bq⟩ w2 ⟨hp,a⟩
  dsimp only at hp a
  have a1:=hp.2.2.1
  have a2:=hp.2.2.2
  refine En (Ls (Lq (Dz (Zi ((k:Int)<(x.length:Nat)) (λa5=>?_) (λa5=>?_)))))
  ·have hkx:k<x.length:=za
   have hky:k<y.length:=za
   obtain⟨e,f,rfl⟩:=aC.isSome (a1 _ (a.drop 0)) za
   obtain⟨o,u,rfl⟩:=aC.isSome (a2 _ (a.drop 0)) za
   refine Zk (Zt (Zs (Zb (Zs (ZD (gE [0,1,2,3,4,5,6,7,8] .done) a λa6 a0 a7=>Zp 0 8 [(2,.dH (zP e (f+(k*2))) .at_),(3,.agg (bu.cells (x.getD k bG))),(6,.dH (zP o (u+(k*2))) .at_),(7,.agg (bu.cells (y.getD k bG)))] [(2,[.prop (0<=(k:Int)/\(k:Int)<(x.length:Int)),.prop (Value.pointer (some (Addr.add ⟨e,f,none⟩ (Int.toNat (k:Nat)*2)))=Value.pointer (some ⟨e,f+(k*2),none⟩))]),(3,[.prop (Array.size (bu.cells (x.getD k bG))=2),.cells ⟨e,f+(k*2),none⟩ (bu.cells (x.getD k bG))]),(6,[.prop (0<=(k:Int)/\(k:Int)<(y.length:Int)),.prop (Value.pointer (some (Addr.add ⟨o,u,none⟩ (Int.toNat (k:Nat)*2)))=Value.pointer (some ⟨o,u+(k*2),none⟩))]),(7,[.prop (Array.size (bu.cells (y.getD k bG))=2),.cells ⟨o,u+(k*2),none⟩ (bu.cells (y.getD k bG))])] (ak (aJ za (aJ (aU _ _ _) aR)) (ak (aJ zk (iN (aC.mj (a1 _ (a0.drop 0)) zo (Nat.le_of_ble_eq_true zk) zk) aR)) (ak (aJ za (aJ (aU _ _ _) aR)) (ak (aJ zk (iN (aC.mj (a2 _ (a0.drop 0)) zo (Nat.le_of_ble_eq_true zk) zk) aR)) iF)))) (aL.vC rfl zk (b:=false) (t:=174) (xs:=bu.cells (x.getD k bG)) (ys:=bu.cells (y.getD k bG)) (m:=2) zk zk zb zk (r:=!(decide ((x.getD k bG)=(y.getD k bG)))) (M6  (OL (x.getD k bG) (y.getD k bG))) (Zd (Zt (eZ (t:=!(decide ((x.getD k bG)=(y.getD k bG)))) (λz=>?_) (λz=>?_))))))))))
   ·have a3:=sA z
    have hne:¬ (x.getD k bG=y.getD k bG):=by simpa using z
    exact En (Lq (Le (Ll (Ly (E5 (Ll (Ly (Dz (bY (v:=.bool false) ⟨(by rw [decide_eq_false λh9=>hne (by rw [h9])]),a0⟩)))))))))
   ·have a3:=pK z
    have heq:x.getD k bG=y.getD k bG:=by simpa using z
    exact Zk (Zm (Zt (dE (eT 1 ((k:Nat)+1) Hz) (aS.back (k+1,some ⟨e,f,none⟩,some ⟨o,u,none⟩) [0,1,5] zk (by show x.length-(k+1)<x.length-k;omega) ⟨⟨za,by rw [bL (d:=bG) hkx,bL (d:=bG) hky,hp.2.1,heq],a1,a2⟩,a0⟩))))
  ·have hxy:x=y:=by rw [<- List.take_of_length_le (i:=k) (l:=x) za,<- List.take_of_length_le (i:=k) (l:=y) za];exact hp.2.1
   exact En (Lx (mM (mN (Lh (Lt (Lq (Le (Dz (bY (v:=.bool true) ⟨(by rw [decide_eq_true hxy]),a⟩)))))))))
def jG (x:aH) (y:aH):Bool :=
 if ((x.kd:Int) == y.kd)=true then
  if ((x.vw:Int) == y.vw)=true then
   if ((x.k:Int) == y.k)=true then
    if (decide (x.rq=y.rq))=true then
     if (decide (x.ql=y.ql))=true then
      decide (x.dg=y.dg)
     else
      false
    else
     false
   else
    false
  else
   false
 else
  false
theorem vV x y (hqn:x.ql.length<=9223372036854775807) (hr1:Rw w0 L bu.cells 2 bG x.qa x.ql) (hr2:Rw w0 L bu.cells 2 bG y.qa y.ql) (hs:St w0 L w):Cs Tryz.prog 156 #[.agg (aH.cells x),.agg (aH.cells y)] w λrv w'=>rv=.bool (jG x y)/\St w0 L w':=by
 refine dF Tryz.func156 Tryz.ntmps156 (En (Ls (Lg [0,1] (Dz (mT (aH.cells x) hs λz w2 a6=>Lo (Dz (mT (aH.cells y) a6 λb4 w5 a=>Lz (Ls (Lg [31] (Dz (kJ 0 6 (Hl 1 1 0 a (Hl 3 0 0 a Hz)) (iy 10 ((x.kd:Int) == y.kd) (λd=>?_) (λd=>?_)))))))))))))
 ·refine kJ 6 7 (Hl 7 1 1 a (Hl 9 0 1 a Hz)) (iy 17 ((x.vw:Int) == y.vw) (λe=>?_) (λe=>?_))
  ·refine kJ 13 7 (Hl 14 1 2 a (Hl 16 0 2 a Hz)) (iy 24 ((x.k:Int) == y.k) (λi=>?_) (λi=>?_))
   ·refine Zp 20 4 [(21,.agg (bC.cells x.rq)),(23,.agg (bC.cells y.rq))] [(21,[.prop (Array.size (bC.cells x.rq)=40),.cells ⟨z,3,none⟩ (bC.cells x.rq)]),(23,[.prop (Array.size (bC.cells y.rq)=40),.cells ⟨b4,3,none⟩ (bC.cells y.rq)])] (ak (aJ zk (iN (a.cells 1 3 rfl zk) aR)) (ak (aJ zk (iN (a.cells 0 3 rfl zk) aR)) iF)) (aL.vC rfl zk (b:=true) (t:=41) (xs:=bC.cells x.rq) (ys:=bC.cells y.rq) (m:=3) zk zk zb zk (r:=decide (x.rq=y.rq)) (CL  (OM x.rq y.rq)) (Zr 25 2 [] (iy 31 (decide (x.rq=y.rq)) (λo=>?_) (λo=>?_))))
    ·refine Zj (Hl 28 1 43 a (Hl 30 0 43 a Hz)) (dJ (f:=223) (args:=#[.slice x.qa x.ql.length x.qc,.slice y.qa y.ql.length y.qc]) Tryz.call223 (FA x.ql y.ql zc (λw h=>hr1 _ (h.drop 2)) (λw h=>hr2 _ (h.drop 2)) a) ?_)
     rintro b2 b3 ⟨rfl,q⟩
     refine Lo (Dz (Zr 32 2 [] (iy 38 (decide (x.ql=y.ql)) (λu=>?_) (λu=>?_))))
     ·exact Zp 34 4 [(35,.agg (bW.cells x.dg)),(37,.agg (bW.cells y.dg))] [(35,[.prop (Array.size (bW.cells x.dg)=32),.cells ⟨z,44,none⟩ (bW.cells x.dg)]),(37,[.prop (Array.size (bW.cells y.dg)=32),.cells ⟨b4,44,none⟩ (bW.cells y.dg)])] (ak (aJ zk (iN (q.cells 1 44 rfl zk) aR)) (ak (aJ zk (iN (q.cells 0 44 rfl zk) aR)) iF)) (aL.vC rfl zk (b:=true) (t:=39) (xs:=bW.cells x.dg) (ys:=bW.cells y.dg) (m:=2) zk zk zb zk (r:=decide (x.dg=y.dg)) (CL  (JS x.dg y.dg)) (En (cI (Lt (Le (Dz (bY (v:=.bool (decide (x.dg=y.dg))) (E8 (by rw [jG,if_pos d,if_pos e,if_pos i,if_pos o,if_pos u]) (q.dr 2)))))))))
     ·exact En (cI (Lt (Le (Dz (bY (v:=.bool false) (E8 (by rw [jG,if_pos d,if_pos e,if_pos i,if_pos o,nI u]) (q.dr 2)))))))
    ·exact En (Lw (qR (En (cI (Lt (Le (Dz (bY (v:=.bool false) (E8 (by rw [jG,if_pos d,if_pos e,if_pos i,nI o]) (a.dr 2))))))))))
   ·exact En (Lw (qR (En (cI (Lt (Le (Dz (bY (v:=.bool false) (E8 (by rw [jG,if_pos d,if_pos e,nI i]) (a.dr 2))))))))))
  ·exact En (Lw (qR (En (cI (Lt (Le (Dz (bY (v:=.bool false) (E8 (by rw [jG,if_pos d,nI e]) (a.dr 2))))))))))
 ·exact En (Lw (qR (En (cI (Lt (Le (Dz (bY (v:=.bool false) (E8 (by rw [jG,nI d]) (a.dr 2))))))))))
def gw (x:aH):aH :=
 if ((x.kd:Int) == 1)=true then
  (⟨x.kd,x.vw,0,x.rq,none,0,[],aI⟩:aH)
 else
  if ((x.kd:Int) == 2)=true then
   (⟨x.kd,x.vw,x.k,cP,none,0,[],aI⟩:aH)
  else
   if ((x.kd:Int) == 3)=true then
    (⟨x.kd,x.vw,0,cP,none,0,[],aI⟩:aH)
   else
    if ((x.kd:Int) == 5)=true then
     (⟨x.kd,x.vw,0,cP,none,0,[],aI⟩:aH)
    else
     if ((x.kd:Int) == 4)=true then
      (⟨x.kd,x.vw,0,cP,x.qa,x.qc,x.ql,aI⟩:aH)
     else
      if ((x.kd:Int) == 6)=true then
       (⟨x.kd,0,x.k,cP,none,0,[],x.dg⟩:aH)
      else
       (⟨x.kd,0,0,cP,none,0,[],aI⟩:aH)
theorem J1 x (hs:St w0 L w):Cs Tryz.prog 157 #[.agg (aH.cells x)] w λrv w'=>rv=.agg (aH.cells (gw x))/\St w0 L w':=by
 refine dF Tryz.func157 Tryz.ntmps157 (En (Ls (Lg [0,1] (Dz (mT (aH.cells x) hs λb1 w2 c5=>Lo (Dz (tW (aH.cells qx) c5 λb4 w5 q=>Lo (Ld (Lt (Ls (Dz (dZ [3,4] (Hl 1 1 0 q Hz) (tW (aH.cells qx) q λb7 w8 c6=>Lo (Dz (Zu 0 0 (aH.cells (⟨x.kd,0,0,cP,none,0,[],aI⟩:aH)) c6 λd3 a=>Lo (Ld (Lt (Ls (Ls (Dz (dE (Hl 1 2 0 a Hz) (En (Lt (Lb (Lq (Dz (eZ (t:=(x.kd:Int) == 1) (λb=>?_) (λb=>?_))))))))))))))))))))))))))))
 ·have c7:=kr b
  refine Zs (dZ [3] (Hl 1 2 1 a Hz) (Zu 0 1 (aH.cells (⟨x.kd,x.vw,0,cP,none,0,[],aI⟩:aH)) a λd4 u=>Lo (Ld (Lt (Dz (dZ [3] (hP 1 2 3 40 (bC.cells x.rq) u Hz) (Zu 0 3 (aH.cells (⟨x.kd,x.vw,0,x.rq,none,0,[],aI⟩:aH)) u λd5 z=>Lo (Ld (Lm (Lt (Ls (Dz (dZ [1] (hP 0 0 0 76 (aH.cells (⟨x.kd,x.vw,0,x.rq,none,0,[],aI⟩:aH)) z Hz) (Zu 1 0 (aH.cells (⟨x.kd,x.vw,0,x.rq,none,0,[],aI⟩:aH)) z λd6 a0=>Lo (Ld (Lt (Le (Dz (CI 1 a0 ?_)))))))))))))))))))
  have hr:gw x=(⟨x.kd,x.vw,0,x.rq,none,0,[],aI⟩:aH):=by rw [gw,if_pos b]
  have a1:=a0.dr 3
  exact⟨(by first|rfl|(rw [hr];done)|(rw [hr];rfl)),(by first|exact a1|(rw [hr];exact a1))⟩
 ·have c7:=lf b
  refine En (Lq (Dz (eZ (t:=(x.kd:Int) == 2) (λd=>?_) (λd=>?_))))
  ·have c8:=kr d
   refine Zs (dZ [3] (Hl 1 2 1 a Hz) (Zu 0 1 (aH.cells (⟨x.kd,x.vw,0,cP,none,0,[],aI⟩:aH)) a λd7 a2=>Lo (Ld (Lt (Dz (dZ [3] (Hl 1 2 2 a2 Hz) (Zu 0 2 (aH.cells (⟨x.kd,x.vw,x.k,cP,none,0,[],aI⟩:aH)) a2 λd8 a3=>Lo (Ld (Lm (Lt (Ls (Dz (dZ [1] (hP 0 0 0 76 (aH.cells (⟨x.kd,x.vw,x.k,cP,none,0,[],aI⟩:aH)) a3 Hz) (Zu 1 0 (aH.cells (⟨x.kd,x.vw,x.k,cP,none,0,[],aI⟩:aH)) a3 λd9 a4=>Lo (Ld (Lt (Le (Dz (CI 1 a4 ?_)))))))))))))))))))
   have hr:gw x=(⟨x.kd,x.vw,x.k,cP,none,0,[],aI⟩:aH):=by rw [gw,nI b,if_pos d]
   have a5:=a4.dr 3
   exact⟨(by first|rfl|(rw [hr];done)|(rw [hr];rfl)),(by first|exact a5|(rw [hr];exact a5))⟩
  ·have c8:=lf d
   refine En (Ls (Lq (Dz (eZ (t:=(x.kd:Int) == 3) (λe=>?_) (λe=>?_)))))
   ·have c9:=kr e
    refine Zk (Zt (eZ (t:=(x.kd:Int) == 3) (λ_=>dZ [3] (Hl 1 2 1 a Hz) (Zu 0 1 (aH.cells (⟨x.kd,x.vw,0,cP,none,0,[],aI⟩:aH)) a λe0 a6=>Lo (Ld (Lm (Lt (Ls (Dz (dZ [1] (hP 0 0 0 76 (aH.cells (⟨x.kd,x.vw,0,cP,none,0,[],aI⟩:aH)) a6 Hz) (Zu 1 0 (aH.cells (⟨x.kd,x.vw,0,cP,none,0,[],aI⟩:aH)) a6 λe1 a7=>Lo (Ld (Lt (Le (Dz (CI 1 a7 ?_)))))))))))))) (λhc=>absurd (e.symm.trans hc) zb)))
    have hr:gw x=(⟨x.kd,x.vw,0,cP,none,0,[],aI⟩:aH):=by rw [gw,nI b,nI d,if_pos e]
    have a8:=a7.dr 3
    exact⟨(by first|rfl|(rw [hr];done)|(rw [hr];rfl)),(by first|exact a8|(rw [hr];exact a8))⟩
   ·have c9:=lf e
    refine Za (Zt (eZ (t:=(x.kd:Int) == 5) (λf=>?_) (λf=>?_)))
    ·have d0:=kr f
     refine dZ [3] (Hl 1 2 1 a Hz) (Zu 0 1 (aH.cells (⟨x.kd,x.vw,0,cP,none,0,[],aI⟩:aH)) a λe2 a9=>Lo (Ld (Lm (Lt (Ls (Dz (dZ [1] (hP 0 0 0 76 (aH.cells (⟨x.kd,x.vw,0,cP,none,0,[],aI⟩:aH)) a9 Hz) (Zu 1 0 (aH.cells (⟨x.kd,x.vw,0,cP,none,0,[],aI⟩:aH)) a9 λe3 b0=>Lo (Ld (Lt (Le (Dz (CI 1 b0 ?_)))))))))))))
     have hr:gw x=(⟨x.kd,x.vw,0,cP,none,0,[],aI⟩:aH):=by rw [gw,nI b,nI d,nI e,if_pos f]
     have b2:=b0.dr 3
     exact⟨(by first|rfl|(rw [hr];done)|(rw [hr];rfl)),(by first|exact b2|(rw [hr];exact b2))⟩
    ·have d0:=lf f
     refine En (Lq (Dz (eZ (t:=(x.kd:Int) == 4) (λi=>?_) (λi=>?_))))
     ·have d1:=kr i
      refine Zs (dZ [3] (Hl 1 2 1 a Hz) (Zu 0 1 (aH.cells (⟨x.kd,x.vw,0,cP,none,0,[],aI⟩:aH)) a λe4 b3=>Lo (Ld (Lt (Dz (dZ [3] (Hl 1 2 43 b3 Hz) (Zu 0 43 (aH.cells (⟨x.kd,x.vw,0,cP,x.qa,x.qc,x.ql,aI⟩:aH)) b3 λe5 b5=>Lo (Ld (Lm (Lt (Ls (Dz (dZ [1] (hP 0 0 0 76 (aH.cells (⟨x.kd,x.vw,0,cP,x.qa,x.qc,x.ql,aI⟩:aH)) b5 Hz) (Zu 1 0 (aH.cells (⟨x.kd,x.vw,0,cP,x.qa,x.qc,x.ql,aI⟩:aH)) b5 λe6 b6=>Lo (Ld (Lt (Le (Dz (CI 1 b6 ?_)))))))))))))))))))
      have hr:gw x=(⟨x.kd,x.vw,0,cP,x.qa,x.qc,x.ql,aI⟩:aH):=by rw [gw,nI b,nI d,nI e,nI f,if_pos i]
      have b8:=b6.dr 3
      exact⟨(by first|rfl|(rw [hr];done)|(rw [hr];rfl)),(by first|exact b8|(rw [hr];exact b8))⟩
     ·have d1:=lf i
      refine En (Lq (Dz (eZ (t:=(x.kd:Int) == 6) (λo=>?_) (λo=>?_))))
      ·have d2:=kr o
       refine Zs (dZ [3] (Hl 1 2 2 a Hz) (Zu 0 2 (aH.cells (⟨x.kd,0,x.k,cP,none,0,[],aI⟩:aH)) a λe7 b9=>Lo (Ld (Lt (Dz (dZ [3] (hP 1 2 44 32 (bW.cells x.dg) b9 Hz) (Zu 0 44 (aH.cells (⟨x.kd,0,x.k,cP,none,0,[],x.dg⟩:aH)) b9 λe8 c0=>Lo (Ld (Lm (Lt (Ls (Dz (dZ [1] (hP 0 0 0 76 (aH.cells (⟨x.kd,0,x.k,cP,none,0,[],x.dg⟩:aH)) c0 Hz) (Zu 1 0 (aH.cells (⟨x.kd,0,x.k,cP,none,0,[],x.dg⟩:aH)) c0 λe9 c1=>Lo (Ld (Lt (Le (Dz (CI 1 c1 ?_)))))))))))))))))))
       have hr:gw x=(⟨x.kd,0,x.k,cP,none,0,[],x.dg⟩:aH):=by rw [gw,nI b,nI d,nI e,nI f,nI i,if_pos o]
       have c2:=c1.dr 3
       exact⟨(by first|rfl|(rw [hr];done)|(rw [hr];rfl)),(by first|exact c2|(rw [hr];exact c2))⟩
      ·have d2:=lf o
       refine Zk (Zm (Zt (Zs (dZ [1] (hP 0 0 0 76 (aH.cells (⟨x.kd,0,0,cP,none,0,[],aI⟩:aH)) a Hz) (Zu 1 0 (aH.cells (⟨x.kd,0,0,cP,none,0,[],aI⟩:aH)) a λf0 c3=>Lo (Ld (Lt (Le (Dz (CI 1 c3 ?_))))))))))
       have hr:gw x=(⟨x.kd,0,0,cP,none,0,[],aI⟩:aH):=by rw [gw,nI b,nI d,nI e,nI f,nI i,nI o]
       have c4:=c3.dr 3
       exact⟨(by first|rfl|(rw [hr];done)|(rw [hr];rfl)),(by first|exact c4|(rw [hr];exact c4))⟩
theorem Na (x:aH):(gw x).qa=x.qa/\(gw x).ql=x.ql\/(gw x).qa=none/\(gw x).ql=[]:=by
 unfold gw
 repeat' split
 all_goals first|exact .inr ⟨rfl,rfl⟩|exact .inl ⟨rfl,rfl⟩
theorem J2 {w:World}{x:aH}(h:aC w x.qa x.ql.length 2 (λk=>bu.cells (x.ql.getD k bG))):aC w (gw x).qa (gw x).ql.length 2 (λk=>bu.cells ((gw x).ql.getD k bG)):=by
 rcases Na x with⟨a,b⟩|⟨a,b⟩
 ·rw [a,b];exact h
 ·rw [a,b];exact aC.nil _ _ _
theorem J3 {x:aH}{n:Nat}(h:x.ql.length<=n):(gw x).ql.length<=n:=by
 rcases Na x with⟨b,a⟩|⟨b,a⟩
 ·rw [a];exact h
 ·rw [a];exact Nat.zero_le _
def lr (x:aH):Bool :=
 if jG (gw x) x=false then false else if x.vw >= 1073741824 then false
 else if x.kd=1 then dC x.rq else if x.kd=2 then decide (x.k >= 1) && decide (x.k<=4611686018427387904)
 else if x.kd=6 then decide (x.k >= 1) && decide (x.k<=4611686018427387904) else if x.kd=3 then decide (x.vw >= 1) else if x.kd=5 then decide (x.vw >= 1)
 else if x.kd=4 then kL 0 x.ql && (decide (x.vw >= 1) && decide ((x.ql.length:Int) >= 1)) else false
theorem J4 {rp nm was prev:Int}{k:Nat}(h1:k=0->was=0) (h2:0<k->1<=was/\was=prev):(((((decide (rp<1)) || (decide (rp>11))) || ((decide ((k:Int)>0)) && (decide (rp<=prev)))) || (decide (nm<1))) || (decide (nm>65536)))=decide (rp<=was\/rp>11\/nm<1\/nm>65536):=by
 rw [Bool.eq_iff_iff]
 simp only [Bool.or_eq_true,Bool.and_eq_true,decide_eq_true_eq]
 by_cases hk:k=0
 ·have:=h1 hk;omega
 ·have:=h2 za;omega
theorem FB x (hx:iK x) (hr:Rw w0 L bu.cells 2 bG x.qa x.ql) (hs:St w0 L w):Cs Tryz.prog 98 #[.agg (aH.cells x)] w λrv w'=>rv=.bool (lr x)/\St w0 L w':=by
 refine dF Tryz.func98 Tryz.ntmps98 (Zs ?_)
 have hqn:=hx.qn
 refine Zg [0] (mT (aH.cells x) hs λf w2 d2=>Lz (Ls (Ls (Dz (ZD (gE [0,2] (.ef 1 (.ef 3 (gE [4,5,6,7,8,9] .done)))) d2 λw4 c0 g8=>Zj (hP 0 0 0 76 (aH.cells x) c0 (hP 2 0 0 76 (aH.cells x) c0 Hz)) (CH (J1 x c0) λw9 c6=>⟨gR (n:=[.prop (Array.size (aH.cells x)=76),.cells ⟨f,0,none⟩ (aH.cells x)]) zk (aJ zk (iN (c6.cells 0 0 rfl zk) aR)),(CH (vV (gw x) x (J3 hx.qn) (λw h=>J2 (hr _ (h.drop 1))) (λw h=>hr _ (h.drop 1)) c6) λd3 e=>Lo (Dz (Zr 4 2 [] (iy 10 (!(jG (gw x) x)) (λb=>?_) (λb=>?_)))))⟩))))))
 ·have d:=sA b
  exact En (cI (Lt (LT (Lq (Le (Ly (Dz (bY (v:=.bool false) ⟨(by unfold lr;rw [if_pos (by simpa using b)]),e.dr 1⟩))))))))
 ·have d:=pK b
  refine kV (Hl 7 0 1 e Hz) (Zt (Zi ((x.vw:Int) >= 1073741824) (λa0=>?_) (λa0=>?_)))
  ·exact En (Lq (Le (Ly (Dz (bY (v:=.bool false) ⟨(by unfold lr;rw [if_neg (by simpa using b),if_pos a0]),e.dr 1⟩)))))
  ·refine Zk (Zt (Zs (Zs (dE (Hl 1 0 0 e Hz) (En (Lt (Lb (Lq (Dz (eZ (t:=(x.kd:Int) == 1) (λc1=>?_) (λc1=>?_)))))))))))
   ·exact Zs (dZ [2] (hP 1 0 3 40 (bC.cells x.rq) e Hz) (CH (ov x.rq e) λh1 d6=>Lz (Le (Ll (Ly (Dz (bY (v:=.bool (ou x.rq)) ⟨(by unfold lr;rw [if_neg (by simpa using b),if_neg a0,if_pos (kr c1)];rw [pA]),d6.dr 1⟩)))))))
   ·have a4:=lf c1
    refine En (Ls (Lq (Dz (eZ (t:=(x.kd:Int) == 2) (λb7=>?_) (λb7=>?_)))))
    ·refine Zk (Zt (eZ (t:=(x.kd:Int) == 2) (λ_=>Zs (aX.join (T:=Unit) (E:=λ_=>[(2,.bool ((decide ((x.k:Int) >= 1)) && (decide ((x.k:Int)<=4611686018427387904))))]) (F:=λ_ w=>St w0 (aB f (aH.cells x) 53::L) w) ?_ ?_)) (λhc=>absurd (b7.symm.trans hc) zb)))
     ·refine Zg [] (kJ 0 4 (Hl 1 0 2 e Hz) (iy 28 (decide ((x.k:Int) >= 1)) (λb2=>?_) (λb2=>?_)))
      ·exact kV (Hl 5 0 2 e Hz) (lM [2] () (decide ((x.k:Int)<=4611686018427387904)) (by first|rfl|simp [Hb,b,d,b2]) e)
      ·exact En (cI (Dz (lM [2] () false (by first|rfl|simp [Hb,b,d,b2]) e)))
     intro _ h2 d9
     exact Zt (Ze (Zl (Zy (bY (v:=.bool ((decide ((x.k:Int) >= 1)) && (decide ((x.k:Int)<=4611686018427387904)))) ⟨(by unfold lr;rw [if_neg (by simpa using b),if_neg a0,if_neg a4,if_pos (kr b7)]),d9.dr 1⟩))))
    ·have a6:=lf b7
     refine Za (Zt (eZ (t:=(x.kd:Int) == 6) (λc2=>?_) (λc2=>?_)))
     ·refine Zs (aX.join (T:=Unit) (E:=λ_=>[(2,.bool ((decide ((x.k:Int) >= 1)) && (decide ((x.k:Int)<=4611686018427387904))))]) (F:=λ_ w=>St w0 (aB f (aH.cells x) 53::L) w) ?_ ?_)
      ·refine Zg [] (kJ 0 4 (Hl 1 0 2 e Hz) (iy 28 (decide ((x.k:Int) >= 1)) (λb3=>?_) (λb3=>?_)))
       ·exact kV (Hl 5 0 2 e Hz) (lM [2] () (decide ((x.k:Int)<=4611686018427387904)) (by first|rfl|simp [Hb,b,d,b3]) e)
       ·exact En (cI (Dz (lM [2] () false (by first|rfl|simp [Hb,b,d,b3]) e)))
      intro _ h3 e2
      exact Zt (Ze (Zl (Zy (bY (v:=.bool ((decide ((x.k:Int) >= 1)) && (decide ((x.k:Int)<=4611686018427387904)))) ⟨(by unfold lr;rw [if_neg (by simpa using b),if_neg a0,if_neg a4,if_neg a6,if_pos (kr c2)]),e2.dr 1⟩))))
     ·have a7:=lf c2
      refine En (Ls (Lq (Dz (eZ (t:=(x.kd:Int) == 3) (λb8=>?_) (λb8=>?_)))))
      ·exact Zk (Zt (eZ (t:=(x.kd:Int) == 3) (λ_=>Zs (dE (Hl 1 0 1 e Hz) (Zt (Ze (Zl (Zy (bY (v:=.bool (decide ((x.vw:Int) >= 1))) ⟨(by unfold lr;rw [if_neg (by simpa using b),if_neg a0,if_neg a4,if_neg a6,if_neg a7,if_pos (kr b8)]),e.dr 1⟩))))))) (λhc=>absurd (b8.symm.trans hc) zb)))
      ·have b0:=lf b8
       refine Za (Zt (eZ (t:=(x.kd:Int) == 5) (λc3=>?_) (λc3=>?_)))
       ·exact Zs (dE (Hl 1 0 1 e Hz) (Zt (Ze (Zl (Zy (bY (v:=.bool (decide ((x.vw:Int) >= 1))) ⟨(by unfold lr;rw [if_neg (by simpa using b),if_neg a0,if_neg a4,if_neg a6,if_neg a7,if_neg b0,if_pos (kr c3)]),e.dr 1⟩))))))
       ·have b4:=lf c3
        refine En (Lq (Dz (eZ (t:=(x.kd:Int) == 4) (λc4=>?_) (λc4=>?_))))
        ·have b9:=kr c4
         refine En (Ls (Lq (Lb (Dz ?_))))
         obtain⟨c7,c8⟩:∃ a,a=x.qa:=⟨_,rfl⟩
         have e6:St w0 (aB f (aH.cells (⟨x.kd,x.vw,x.k,x.rq,c7,x.qc,x.ql,x.dg⟩:aH)) 53::L) d3:=(by rw [c8];exact e)
         refine aX.loop (T:=Nat×Int×(Option Addr)) (λgg=>[(1,zP f 0),(3,.int .i64 (gg.1:Nat))]) (λgg w=>(gg.1<=x.ql.length/\kL 0 x.ql=kL gg.2.1 (x.ql.drop gg.1)/\(gg.1=0->gg.2.1=0)/\(0<gg.1->1<=gg.2.1/\gg.2.1=(x.ql.getD (Int.toNat ((gg.1:Nat)-1)) bG).rp)/\∀ w,St w0 L w->aC w gg.2.2 x.ql.length 2 (λq=>bu.cells (x.ql.getD q bG)))/\St w0 (aB f (aH.cells (⟨x.kd,x.vw,x.k,x.rq,gg.2.2,x.qc,x.ql,x.dg⟩:aH)) 53::L) w) (λgg=>x.ql.length-gg.1) (0,0,c7) [1,3] zk ⟨⟨Nat.zero_le _,rfl,λ_=>rfl,λh9=>absurd h9 (Nat.lt_irrefl 0),by rw [c8];exact hr⟩,e6⟩ ?_
         rintro⟨k,was,aq⟩ h4 ⟨hp,a1⟩
         dsimp only at hp a1
         have hw:=hp.2.2.2.2
         refine Zs (Zs (dE (Hl 2 0 43 a1 Hz) (Zt (Zi ((k:Int)<(x.ql.length:Nat)) (λe7=>?_) (λe7=>?_)))))
         ·have hk:k<x.ql.length:=za
          obtain⟨a2,a3,rfl⟩:=aC.isSome (hw _ (a1.drop 1)) za
          refine Zk (Zt (Zs (Zb (Zs (dZ [5,6] (Hl 1 0 43 a1 (Hx 3 (k:Int) (x.ql.length:Int) a2 a3 2 (Hg 4 (.agg (bu.cells (x.ql.getD k bG))) [.prop (Array.size (bu.cells (x.ql.getD k bG))=2),.cells ⟨a2,a3+(k*2),none⟩ (bu.cells (x.ql.getD k bG))] (aJ zk (iN (aC.mj (hw _ (a1.drop 1)) zo (Nat.le_of_ble_eq_true zk) zk) aR)) Hz))) (tW (bu.cells bG) a1 λc9 h5 e8=>Lo (Dz (Zu 0 0 (bu.cells (x.ql.getD k bG)) e8 λh6 e9=>Lo (Ld (Lt (Ls (Dz (aX.join (T:=Unit) (E:=λ_=>[(86,.bool (((((decide (((x.ql.getD k bG).rp:Int)<1)) || (decide (((x.ql.getD k bG).rp:Int)>11))) || ((decide ((k:Int)>0)) && (decide (((x.ql.getD k bG).rp:Int)<=((x.ql.getD (Int.toNat ((k:Nat)-1)) bG).rp))))) || (decide (((x.ql.getD k bG).nm:Int)<1))) || (decide (((x.ql.getD k bG).nm:Int)>65536)))),(1,zP f 0),(3,.int .i64 (k:Nat))]) (F:=λ_ w=>St w0 (aB c9 (bu.cells (x.ql.getD k bG)) 174::aB f (aH.cells (⟨x.kd,x.vw,x.k,x.rq,some ⟨a2,a3,none⟩,x.qc,x.ql,x.dg⟩:aH)) 53::L) w) ?_ ?_)))))))))))))
          ·refine ZD (gE [0,1,2,3,4,5,6,7,8,9,10,11,12,13,14,15,16,17,18,19,20,21,22,23,24,25,26,27,28,29,30,31,32,33] .done) e9 λh7 o h8=>kJ 0 4 (Hl 1 0 0 o Hz) (iy 56 (decide (((x.ql.getD k bG).rp:Int)<1)) (λi=>?_) (λi=>?_))
           ·have f0:=of_decide_eq_true i
            exact En (cI (Dz (aS.pick [86,1,3] (S':=[(86,.bool true),(1,zP f 0),(3,.int .i64 (k:Nat))]) zk (aS.eF () (by first|rfl|(simp only [b,d,i,Bool.not_true,Bool.not_false,Bool.true_or,Bool.false_or,Bool.true_and,Bool.false_and,Bool.or_true,Bool.or_false,Bool.and_true,Bool.and_false];done)|(simp [b,d,i];done)) o))))
           ·have f0:=of_decide_eq_false i
            refine kJ 4 5 (Hl 5 0 0 o Hz) (iy 61 (decide (((x.ql.getD k bG).rp:Int)>11)) (λu=>?_) (λu=>?_))
            ·have f1:=of_decide_eq_true u
             exact En (cI (Dz (aS.pick [86,1,3] (S':=[(86,.bool true),(1,zP f 0),(3,.int .i64 (k:Nat))]) zk (aS.eF () (by first|rfl|(simp only [b,d,i,u,Bool.not_true,Bool.not_false,Bool.true_or,Bool.false_or,Bool.true_and,Bool.false_and,Bool.or_true,Bool.or_false,Bool.and_true,Bool.and_false];done)|(simp [b,d,i,u];done)) o))))
            ·have f1:=of_decide_eq_false u
             refine Zr 9 3 [] (iy 64 (decide ((k:Int)>0)) (λz=>?_) (λz=>?_))
             ·have f2:=of_decide_eq_true z
              refine Zp 12 13 [(13,.gen [.int .i64 ((x.ql.getD k bG).rp)]),(15,.gen [zL a2 a3 x.ql.length x.qc]),(17,.dH (.int .i64 ((k:Nat)-1)) (.gen [])),(18,.dH (zP a2 (a3+((Int.toNat ((k:Nat)-1))*2))) .at_),(20,.gen [.int .i64 ((x.ql.getD (Int.toNat ((k:Nat)-1)) bG).rp)])] [(13,[.cell ⟨c9,0,none⟩ (.int .i64 ((x.ql.getD k bG).rp))]),(15,[.cell ⟨f,43,none⟩ (zL a2 a3 x.ql.length x.qc)]),(17,[.prop (Value.int .i64 (IntKind.i64.wrap ((k:Nat)-1))=Value.int .i64 ((k:Nat)-1))]),(18,[.prop (0<=(((k:Nat)-1):Int)/\(((k:Nat)-1):Int)<(x.ql.length:Int)),.prop (Value.pointer (some (Addr.add ⟨a2,a3,none⟩ (Int.toNat ((k:Nat)-1)*2)))=Value.pointer (some ⟨a2,a3+((Int.toNat ((k:Nat)-1))*2),none⟩))]),(20,[.cell ⟨a2,a3+((Int.toNat ((k:Nat)-1))*2),none⟩ (.int .i64 ((x.ql.getD (Int.toNat ((k:Nat)-1)) bG).rp))])] (ak (bE (o.cell 0 rfl zk) aR) (ak (bE (o.cell 1 rfl zk) aR) (ak (aJ (iD za za) aR) (ak (aJ za (aJ (aU _ _ _) aR)) (ak (bE (aC.cV (hw _ (o.drop 2)) (k:=Int.toNat ((k:Nat)-1)) zo (j:=0) zb zk) aR) iF))))) (iy 77 (decide (((x.ql.getD k bG).rp:Int)<=((x.ql.getD (Int.toNat ((k:Nat)-1)) bG).rp))) (λa5=>?_) (λa5=>?_))
              ·exact En (cI (Dz (aS.pick [86,1,3] (S':=[(86,.bool true),(1,zP f 0),(3,.int .i64 (k:Nat))]) zk (aS.eF () (by first|rfl|(simp only [b,d,i,u,z,a5,Bool.not_true,Bool.not_false,Bool.true_or,Bool.false_or,Bool.true_and,Bool.false_and,Bool.or_true,Bool.or_false,Bool.and_true,Bool.and_false];done)|(simp [b,d,i,u,z,a5];done)) o))))
              ·refine kJ 25 5 (Hl 26 0 1 o Hz) (iy 82 (decide (((x.ql.getD k bG).nm:Int)<1)) (λa8=>?_) (λa8=>?_))
               ·exact En (cI (Dz (aS.pick [86,1,3] (S':=[(86,.bool true),(1,zP f 0),(3,.int .i64 (k:Nat))]) zk (aS.eF () (by first|rfl|(simp only [b,d,i,u,z,a5,a8,Bool.not_true,Bool.not_false,Bool.true_or,Bool.false_or,Bool.true_and,Bool.false_and,Bool.or_true,Bool.or_false,Bool.and_true,Bool.and_false];done)|(simp [b,d,i,u,z,a5,a8];done)) o))))
               ·exact kV (Hl 31 0 1 o Hz) (aS.pick [86,1,3] (S':=[(86,.bool (decide (((x.ql.getD k bG).nm:Int)>65536))),(1,zP f 0),(3,.int .i64 (k:Nat))]) zk (aS.eF () (by first|rfl|(simp only [b,d,i,u,z,a5,a8,Bool.not_true,Bool.not_false,Bool.true_or,Bool.false_or,Bool.true_and,Bool.false_and,Bool.or_true,Bool.or_false,Bool.and_true,Bool.and_false];done)|(simp [b,d,i,u,z,a5,a8];done)) o))
             ·refine kJ 12 18 (Hl 26 0 1 o Hz) (iy 82 (decide (((x.ql.getD k bG).nm:Int)<1)) (λa9=>?_) (λa9=>?_))
              ·exact En (cI (Dz (aS.pick [86,1,3] (S':=[(86,.bool true),(1,zP f 0),(3,.int .i64 (k:Nat))]) zk (aS.eF () (by first|rfl|(simp only [b,d,i,u,z,a9,Bool.not_true,Bool.not_false,Bool.true_or,Bool.false_or,Bool.true_and,Bool.false_and,Bool.or_true,Bool.or_false,Bool.and_true,Bool.and_false];done)|(simp [b,d,i,u,z,a9];done)) o))))
              ·exact kV (Hl 31 0 1 o Hz) (aS.pick [86,1,3] (S':=[(86,.bool (decide (((x.ql.getD k bG).nm:Int)>65536))),(1,zP f 0),(3,.int .i64 (k:Nat))]) zk (aS.eF () (by first|rfl|(simp only [b,d,i,u,z,a9,Bool.not_true,Bool.not_false,Bool.true_or,Bool.false_or,Bool.true_and,Bool.false_and,Bool.or_true,Bool.or_false,Bool.and_true,Bool.and_false];done)|(simp [b,d,i,u,z,a9];done)) o))
          intro _ i0 d0
          refine Zt (eZ (t:=((((decide (((x.ql.getD k bG).rp:Int)<1)) || (decide (((x.ql.getD k bG).rp:Int)>11))) || ((decide ((k:Int)>0)) && (decide (((x.ql.getD k bG).rp:Int)<=((x.ql.getD (Int.toNat ((k:Nat)-1)) bG).rp))))) || (decide (((x.ql.getD k bG).nm:Int)<1))) || (decide (((x.ql.getD k bG).nm:Int)>65536))) (λb5=>?_) (λb5=>?_))
          ·exact En (Lq (Le (Ll (Ly (E5 (Ll (Ly (Ll (Ly (Dz (bY (v:=.bool false) ⟨(by unfold lr;rw [if_neg (by simpa using b),if_neg a0,if_neg a4,if_neg a6,if_neg a7,if_neg b0,if_neg b4,if_pos b9];rw [hp.2.1,rA hk,if_pos (of_decide_eq_true ((J4 hp.2.2.1 hp.2.2.2.1).symm.trans b5))];rfl),d0.dr 2⟩)))))))))))
          ·have d1:=(Bool.or_eq_false_iff.1 b5).1
           have h60aa:=(Bool.or_eq_false_iff.1 d1).1
           have h60aaa:=(Bool.or_eq_false_iff.1 h60aa).1
           have h60aaaa:=(Bool.or_eq_false_iff.1 h60aaa).1
           have h60aaaa':=of_decide_eq_false h60aaaa
           have h60aaab:=(Bool.or_eq_false_iff.1 h60aaa).2
           have h60aaab':=of_decide_eq_false h60aaab
           have h60ab:(decide (((x.ql.getD k bG).nm:Int)<1))=false:=(Bool.or_eq_false_iff.1 d1).2
           have h60ab':=of_decide_eq_false h60ab
           have f7:=(Bool.or_eq_false_iff.1 b5).2
           exact Zk (Zm (Zt (dE (eT 1 ((k:Nat)+1) Hz) (aS.back (k+1,(x.ql.getD k bG).rp,some ⟨a2,a3,none⟩) [1,3] zk (by show x.ql.length-(k+1)<x.ql.length-k;omega) ⟨⟨za,by rw [hp.2.1,rA hk,if_neg (of_decide_eq_false ((J4 hp.2.2.1 hp.2.2.2.1).symm.trans b5))],λh9=>by omega,λh9=>⟨by show 1<=(x.ql.getD k bG).rp;omega,by rw [show Int.toNat (((k+1:Nat):Int)-1)=k from by omega]⟩,hw⟩,d0.dr 1⟩))))
         ·have hke:x.ql.drop k=[]:=List.drop_of_length_le za
          refine Zx (aS.eQ (aS.eR (aS.kI (Zt (Zs (aX.join (T:=Unit) (E:=λ_=>[(2,.bool ((decide ((x.vw:Int) >= 1)) && (decide ((x.ql.length:Int) >= 1))))]) (F:=λ_ w=>St w0 (aB f (aH.cells (⟨x.kd,x.vw,x.k,x.rq,aq,x.qc,x.ql,x.dg⟩:aH)) 53::L) w) ?_ ?_))))))
          ·refine Zg [] (kJ 0 4 (Hl 1 0 1 a1 Hz) (iy 90 (decide ((x.vw:Int) >= 1)) (λb6=>?_) (λb6=>?_)))
           ·exact kV (Hl 5 0 43 a1 Hz) (lM [2] () (decide ((x.ql.length:Int) >= 1)) (by first|rfl|simp [Hb,b,d,b6]) a1)
           ·exact En (cI (Dz (lM [2] () false (by first|rfl|simp [Hb,b,d,b6]) a1)))
          intro _ i2 g0
          exact Zt (Ze (Zl (Zy (bY (v:=.bool ((decide ((x.vw:Int) >= 1)) && (decide ((x.ql.length:Int) >= 1)))) ⟨(by unfold lr;rw [if_neg (by simpa using b),if_neg a0,if_neg a4,if_neg a6,if_neg a7,if_neg b0,if_neg b4,if_pos b9];rw [hp.2.1,hke];rfl),g0.dr 1⟩))))
        ·exact En (Lk (Lm (Lt (Lq (Le (Dz (bY (v:=.bool false) ⟨(by unfold lr;rw [if_neg (by simpa using b),if_neg a0,if_neg a4,if_neg a6,if_neg a7,if_neg b0,if_neg b4,if_neg (lf c4)]),e.dr 1⟩)))))))
end
theorem qd {c x:Bool}(h:(if c=true then x else false)=true):c=true/\x=true:=by
 cases c with
 | true=>exact⟨rfl,h⟩
 | false=>cases h
theorem A6 {n:Nat}{l e:List Int}(h:l.length=n):tk n (l++e,false)=(l,(e,false)):=by
 rw [GS rfl (by rw [List.length_append];omega),List.take_left' h,List.drop_left' h]
theorem jo {n:Int}{e:List Int}(h:0<=n/\n<18446744073709551616):jn (wd n++e,false)=(n,(e,false)):=by
 unfold jn JV
 rw [A6 (dV n),Ma h]
theorem rC {n:Int}{e:List Int}(h:0<=n/\n<256):kK (n::e,false)=(n,(e,false)):=by
 unfold kK
 rw [show n::e=[n]++e from rfl,A6 (n:=1) (l:=[n]) rfl,JU h,GQ h]
theorem J5 {n:Nat}{e:List Int}(h:n<65536):pW (hf (n:Nat)++e,false)=(n,(e,false)):=by
 unfold pW
 rw [A6 (gU _),Mc ⟨za,za⟩,NI ⟨za,za⟩,Int.toNat_natCast]
theorem vW (s:ByteArray):(cH s).length=s.size:=by
 have h:=pw s
 unfold tx at h
 rw [List.length_append,gU] at h
 omega
theorem rD {most:Int}{s:ByteArray}{e:List Int}(h:(s.size:Int)<=most) (h2:s.size<65536):pX most (tx s++e,false)=(s,(e,false)):=by
 unfold tx
 rw [List.append_assoc]
 rw [CU (J5 h2) h (by rw [List.length_append,vW];omega),List.take_left' (vW s),List.drop_left' (vW s),Fh]
theorem C5 {d:bW}{e:List Int}:ua (d.toList++e,false)=(d,(e,false)):=by
 unfold ua
 rw [A6 (bW.len d),oh]
theorem NS {r:bC}{e:List Int}(h:dC r=true) (hr:mW r):OO (oo r++(r.tg.toList++e),false)=(r,(e,false)):=by
 have a:=hr.kd
 have b:=hr.am
 unfold dC at h
 simp only [Bool.and_eq_true,decide_eq_true_eq] at h
 obtain⟨⟨⟨⟨⟨d,f⟩,i⟩,o⟩,q⟩,u⟩:=h
 unfold OO oo
 have ec:IntKind.u8.wrap r.cl=r.cl:=GQ za
 simp only [List.append_assoc,List.cons_append,List.nil_append,ec]
 rw [rC za]
 simp only []
 rw [rC za]
 simp only []
 rw [jo za]
 simp only []
 rw [jo za]
 simp only []
 rw [rD za za]
 simp only []
 rw [rD za za]
 simp only []
 rw [rD za za]
 simp only []
 rw [rD za za]
 simp only []
 rw [C5]
theorem G0 (e:List Int):∀ (l q:List bu),(∀ p∈l,(0<=p.rp/\p.rp<256)/\(0<=p.nm/\p.nm<18446744073709551616))->yg l.length (l.flatMap mO++e,false) q=(q++l,(e,false))
 | [],q,_=>by rw [List.append_nil];rfl
 | p::l,q,h=>by
  obtain⟨h1,h2⟩:=h p (List.mem_cons_self ..)
  rw [List.length_cons,List.flatMap_cons]
  rw [show mO p=p.rp::wd p.nm from by unfold mO;rw [GQ h1];rfl,List.cons_append,List.cons_append,List.append_assoc]
  rw [sJ rfl (rC h1) (jo h2),G0 e l _ λx hx=>h x (List.mem_cons_of_mem _ hx),List.append_assoc]
  rfl
theorem C6:∀ (l:List bu) (was:Int),0<=was->kL was l=true->∀ p∈l,(0<=p.rp/\p.rp<256)/\(0<=p.nm/\p.nm<18446744073709551616)
 | [],_,_,_,p,hp=>by cases hp
 | a::l,was,hw,h,p,hp=>by
  unfold kL at h
  split at h
  ·cases h
  ·rcases List.mem_cons.1 hp with rfl|hp
   ·exact⟨za,za⟩
   ·exact C6 l a.rp za h p hp
theorem vX {x:aH}(hk:1<=x.kd/\x.kd<=6) (hx:iK x) (hm:iR x=true) (hq:x.ql.length<=11):iA x.kd (ow x,false)=(qS (gw x),([],false)):=by
 have o:=hx.vw
 have q:=hx.k
 unfold iA ow
 by_cases a:x.kd=1
 ·rw [if_pos a,if_pos a,show gw x=⟨x.kd,x.vw,0,x.rq,none,0,[],aI⟩ from by simp [gw,a]]
  unfold iR at hm
  rw [if_pos a] at hm
  have e:=NS (e:=[]) hm hx.rq
  rw [List.append_nil] at e
  unfold g1 Js
  simp only []
  rw [jo za]
  simp only []
  rw [e,a]
  rfl
 rw [if_neg a,if_neg a]
 by_cases f:x.kd=2
 ·rw [if_pos f,if_pos f,show gw x=⟨x.kd,x.vw,x.k,cP,none,0,[],aI⟩ from by simp [gw,f]]
  unfold g2 Jt
  simp only []
  have e:=jo (n:=x.k) (e:=[]) za
  rw [List.append_nil] at e
  rw [jo za]
  simp only []
  rw [e,f]
  rfl
 rw [if_neg f,if_neg f]
 by_cases b:x.kd=4
 ·rw [if_pos b,if_pos b,show gw x=⟨x.kd,x.vw,0,cP,x.qa,x.qc,x.ql,aI⟩ from by simp [gw,b]]
  unfold iR at hm
  rw [if_neg a,if_neg za,if_pos b,Bool.and_eq_true] at hm
  unfold oq at hm
  rw [Bool.and_eq_true] at hm
  unfold g4 Ij
  simp only []
  rw [jo za]
  simp only []
  rw [GQ za,List.cons_append,List.nil_append,rC za]
  simp only [Int.toNat_natCast]
  have e:=G0 [] x.ql [] (C6 x.ql 0 za hm.2.1)
  rw [List.append_nil] at e
  rw [e,b]
  rfl
 rw [if_neg b,if_neg b]
 by_cases i:x.kd=6
 ·rw [if_pos i,if_pos i,show gw x=⟨x.kd,0,x.k,cP,none,0,[],x.dg⟩ from by simp [gw,i]]
  unfold g6 Ju
  simp only []
  have e:=C5 (d:=x.dg) (e:=[])
  rw [List.append_nil] at e
  rw [jo za]
  simp only []
  rw [e,i]
  rfl
 ·rw [if_neg i,if_neg i,show gw x=⟨x.kd,x.vw,0,cP,none,0,[],aI⟩ from by rcases(by omega:x.kd=3\/x.kd=5) with c|c<;>simp [gw,c]]
  unfold g3
  simp only []
  have e:=jo (n:=x.vw) (e:=[]) za
  rw [List.append_nil] at e
  rw [e]
  rfl
theorem J6 {x:aH}(hk:1<=x.kd/\x.kd<=6) (hx:iK x) (hm:iR x=true) (hq:x.ql.length<=11):(iA x.kd (ow x,false)).2=([],false):=by rw [vX hk hx hm hq]
theorem J7 (kd:Int) (s:CS):qS (iA kd s).1=(iA kd s).1:=by
 unfold iA
 repeat' split
 all_goals rfl
theorem J8 {x y:aH}(h:mC x y=true):qS x=qS y:=by
 unfold mC at h
 obtain⟨a,h⟩:=qd h
 obtain⟨b,h⟩:=qd h
 obtain⟨d,h⟩:=qd h
 obtain⟨e,h⟩:=qd h
 obtain⟨f,h⟩:=qd h
 simp only [beq_iff_eq,decide_eq_true_eq] at a b d e f h
 unfold qS
 rw [a,b,d,e,f,h]
theorem J9 {x:aH}(h:jd x=true) (hx:iK x):iA x.kd (ow x,false)=(qS x,([],false)):=by
 obtain⟨hk,hm,hq⟩:=lq h
 unfold jd at h
 rw [if_pos hk] at h
 split at h
 ·cases h
 split at h
 ·cases h
 split at h
 ·cases h
 have a:=J8 h
 rw [J7] at a
 exact Prod.ext a.symm (J6 hk hx hm hq)
theorem vY {m:aK}(h:gv m=true):(1<=m.og/\m.og<=11)/\(1<=m.nr/\m.nr<=65536):=by
 unfold gv at h
 split at h
 ·cases h
 rename_i a
 unfold yh at a
 simp only [Bool.or_eq_true,decide_eq_true_eq,not_or] at a
 omega
theorem It {x y:aH}(h:jG x y=true):qS x=qS y:=by
 unfold jG at h
 obtain⟨a,h⟩:=qd h
 obtain⟨b,h⟩:=qd h
 obtain⟨d,h⟩:=qd h
 obtain⟨e,h⟩:=qd h
 obtain⟨f,h⟩:=qd h
 simp only [beq_iff_eq,decide_eq_true_eq] at a b d e f h
 unfold qS
 rw [a,b,d,e,f,h]
theorem A7 {x y:aH}(h:qS x=qS y):x.kd=y.kd/\x.vw=y.vw/\x.k=y.k/\x.rq=y.rq/\x.ql=y.ql/\x.dg=y.dg:=by
 unfold qS at h
 simp only [aH.mk.injEq] at h
 simp only [h,and_self]
theorem Iu {x y:aH}(h:qS x=qS y):jG x y=true:=by
 obtain⟨a,b,d,e,f,i⟩:=A7 h
 unfold jG
 simp [a,b,d,e,f,i]
theorem Ka {x y:aH}(h:qS x=qS y):mC x y=true:=by
 obtain⟨a,b,d,e,f,i⟩:=A7 h
 unfold mC
 simp [a,b,d,e,f,i]
theorem yX:∀ (l:List bu) (was:Int),was<=11->kL was l=true->(l.length:Int)+was<=11
 | [],_,h,_=>by simpa using h
 | a::l,was,_,h=>by
  unfold kL at h
  split at h
  ·cases h
  ·have:=yX l a.rp za h
   rw [List.length_cons]
   omega
theorem Kb {x:aH}(hx:iK x):lr x=jd x:=by
 rw [Bool.eq_iff_iff]
 constructor
 ·intro h
  unfold lr at h
  split at h
  ·cases h
  rename_i z
  split at h
  ·cases h
  rename_i w
  have hc:=It (by simpa using z)
  have key:(1<=x.kd/\x.kd<=6)->iR x=true->x.ql.length<=11->jd x=true:=λd a q=>by
   unfold jd
   rw [if_pos d,if_neg za,if_neg (by rw [a];decide),if_neg za,vX d hx a q]
   exact Ka hc.symm
  have f:x.kd≠4->x.ql=[]:=λh4=>by
   have e:=(A7 hc).2.2.2.2.1
   rw [<- e]
   unfold gw
   repeat' split
   all_goals first|rfl|(exfalso;simp_all)
  split at h
  ·rename_i c;exact key za (by unfold iR;rw [if_pos c];exact h) (by rw [f za];decide)
  rename_i b
  split at h
  ·rename_i c;exact key za (by unfold iR;rw [if_neg b,if_pos (.inl c)];exact h) (by rw [f za];decide)
  rename_i i
  split at h
  ·rename_i c;exact key za (by unfold iR;rw [if_neg b,if_pos (.inr c)];exact h) (by rw [f za];decide)
  rename_i o
  split at h
  ·rename_i c;exact key za (by unfold iR;rw [if_neg b,if_neg za,if_neg za];exact h) (by rw [f za];decide)
  rename_i c3
  split at h
  ·rename_i c;exact key za (by unfold iR;rw [if_neg b,if_neg za,if_neg za];exact h) (by rw [f za];decide)
  rename_i c5
  split at h
  ·rename_i c
   simp only [Bool.and_eq_true,decide_eq_true_eq] at h
   have hl:=yX x.ql 0 zb h.1
   refine key za ?_ za
   unfold iR oq
   rw [if_neg b,if_neg za,if_pos c]
   simp only [Bool.and_eq_true,decide_eq_true_eq]
   exact⟨h.2.1,h.1,za⟩
  ·cases h
 ·intro h
  obtain⟨d,a,q⟩:=lq h
  have hb:=h
  unfold jd at h
  rw [if_pos d] at h
  split at h
  ·cases h
  rename_i w
  have hc:qS x=qS (gw x):=by
   have e:=J9 hb hx
   rw [vX d hx a q] at e
   exact(Prod.mk.inj e).1.symm
  unfold lr
  rw [if_neg (by rw [Iu hc.symm];decide),if_neg w]
  unfold iR at a
  by_cases b:x.kd=1
  ·rw [if_pos b] at a ⊢;exact a
  rw [if_neg b] at a ⊢
  by_cases i:x.kd=2
  ·rw [if_pos (.inl i)] at a;rw [if_pos i];exact a
  by_cases o:x.kd=6
  ·rw [if_pos (.inr o)] at a;rw [if_neg i,if_pos o];exact a
  rw [if_neg za] at a
  rw [if_neg i,if_neg o]
  by_cases u:x.kd=4
  ·rw [if_pos u] at a
   unfold oq at a
   simp only [Bool.and_eq_true,decide_eq_true_eq] at a
   rw [if_neg za,if_neg za,if_pos u]
   simp only [Bool.and_eq_true,decide_eq_true_eq]
   exact⟨a.2.1,a.1,za⟩
  ·rw [if_neg u] at a
   rcases(by omega:x.kd=3\/x.kd=5) with c|c
   ·rw [if_pos c];exact a
   ·rw [if_neg za,if_pos c];exact a
section
variable {w0 w : World} {L : List bA}
theorem Mh {m:aK}{k:Nat}(hk:k<11) (h:∀ z∈m.dp.toList.take k,z<=65536) (hx:m.dp.toList.getD k 0<=65536):∀ z∈m.dp.toList.take (k+1),z<=65536:=by
 rw [bL (d:=(0:Int)) (by rw [aP.len];exact hk)]
 intro z hz
 rcases List.mem_append.1 hz with hz|hz
 ·exact h z hz
 ·rw [List.mem_singleton.1 hz];exact hx
theorem pC m (hm:lP m) (hr:Rw w0 L bu.cells 2 bG m.bd.qa m.bd.ql) (hs:St w0 L w):Cs Tryz.prog 50 #[.agg (aK.cells m)] w λrv w'=>rv=.bool (gv m)/\St w0 L w':=by
 refine dF Tryz.func50 Tryz.ntmps50 (Zs ?_)
 have g1:=hm.og
 have g2:=hm.nr
 refine Zg [0] (mT (aK.cells m) hs λb w2 a1=>Lz (Ls (Ls (Dz (aX.join (T:=Unit) (E:=λ_=>[(33,.bool (((((decide ((m.og:Int)<1)) || (decide ((m.og:Int)>11))) || (decide ((m.nr:Int)<1))) || (decide ((m.nr:Int)>65536))) || (((m.dp.toList.getD (Int.toNat (m.og-1)) 0):Int) != (m.nr-1)))),(2,.bool false),(1,zP b 0)]) (F:=λ_ w=>St w0 (aB b (aK.cells m) 55::L) w) ?_ ?_)))))
 ·refine ZD (gE [0,1,2,3,4,5,6,7,8,9,10,11,12,13,14,15,16,17,18,19,20,21,22,23,24,25,26,27,28,29] .done) a1 λw4 a b4=>kJ 0 4 (Hl 1 0 0 a Hz) (iy 7 (decide ((m.og:Int)<1)) (λe=>?_) (λe=>?_))
  ·have a2:=of_decide_eq_true e
   exact En (cI (Dz (lM [33,2,1] () true (by first|rfl|simp [Hb,e]) a)))
  ·have a2:=of_decide_eq_false e
   refine kJ 4 5 (Hl 5 0 0 a Hz) (iy 12 (decide ((m.og:Int)>11)) (λi=>?_) (λi=>?_))
   ·have a3:=of_decide_eq_true i
    exact En (cI (Dz (lM [33,2,1] () true (by first|rfl|simp [Hb,e,i]) a)))
   ·have a3:=of_decide_eq_false i
    refine kJ 9 5 (Hl 10 0 1 a Hz) (iy 17 (decide ((m.nr:Int)<1)) (λf=>?_) (λf=>?_))
    ·have a4:=of_decide_eq_true f
     exact En (cI (Dz (lM [33,2,1] () true (by first|rfl|simp [Hb,e,i,f]) a)))
    ·have a4:=of_decide_eq_false f
     refine kJ 14 5 (Hl 15 0 1 a Hz) (iy 22 (decide ((m.nr:Int)>65536)) (λq=>?_) (λq=>?_))
     ·have a5:=of_decide_eq_true q
      exact En (cI (Dz (lM [33,2,1] () true (by first|rfl|simp [Hb,e,i,f,q]) a)))
     ·have a5:=of_decide_eq_false q
      exact kV (Hl 20 0 0 a (eT 21 (m.og-1) (Hx 23 ((m.og-1):Int) (11:Int) b 2 1 (Hg 24 (.gen [.int .u64 (m.dp.toList.getD (Int.toNat (m.og-1)) 0)]) [.cell ⟨b,2+((Int.toNat (m.og-1))*1),none⟩ (.int .u64 (m.dp.toList.getD (Int.toNat (m.og-1)) 0))] (bE (a.cell 0 rfl (aP.ry (off:=2) (d:=m.dp) zk za)) aR) (Hl 26 0 1 a (Cz 27 (m.nr-1) Hz)))))) (lM [33,2,1] () (((m.dp.toList.getD (Int.toNat (m.og-1)) 0):Int) != (m.nr-1)) (by first|rfl|simp [Hb,e,i,f,q]) a)
 intro _ b5 x
 refine Zt (eZ (t:=((((decide ((m.og:Int)<1)) || (decide ((m.og:Int)>11))) || (decide ((m.nr:Int)<1))) || (decide ((m.nr:Int)>65536))) || (((m.dp.toList.getD (Int.toNat (m.og-1)) 0):Int) != (m.nr-1))) (λo=>?_) (λo=>?_))
 ·exact En (Lq (Le (Ly (Dz (bY (v:=.bool false) ⟨(by unfold gv;rw [if_pos (show yh m=true from o)]),x.dr 1⟩)))))
 ·have a0:=(Bool.or_eq_false_iff.1 o).1
  have h13aa:=(Bool.or_eq_false_iff.1 a0).1
  have h13aaa:=(Bool.or_eq_false_iff.1 h13aa).1
  have h13aaaa:=(Bool.or_eq_false_iff.1 h13aaa).1
  have h13aaab:(decide ((m.og:Int)>11))=false:=(Bool.or_eq_false_iff.1 h13aaa).2
  have h13aab:(decide ((m.nr:Int)<1))=false:=(Bool.or_eq_false_iff.1 h13aa).2
  have h13ab:(decide ((m.nr:Int)>65536))=false:=(Bool.or_eq_false_iff.1 a0).2
  have a7:(((m.dp.toList.getD (Int.toNat (m.og-1)) 0):Int) != (m.nr-1))=false:=(Bool.or_eq_false_iff.1 o).2
  refine En (Lk (Lt (Ls (Lq (Lb (Dz (aX.loop (T:=Nat) (λgg=>[(1,zP b 0),(3,.int .i64 (gg:Nat))]) (λgg w=>(gg<=11/\∀ z∈m.dp.toList.take gg,z<=65536)/\St w0 (aB b (aK.cells m) 55::L) w) (λgg=>11-gg) 0 [1,3] zk ⟨⟨Nat.zero_le _,λz hz=>by cases hz⟩,x⟩ ?_)))))))
  rintro k b7 ⟨hp,u⟩
  refine En (Ls (Lq (Dz (Zi ((k:Int)<11) (λa8=>?_) (λa8=>?_)))))
  ·have hk:k<11:=za
   refine Zk (Zt (Zs (Zb (Zs (dE (Hx 2 (k:Int) (11:Int) b 2 1 (Hg 3 (.gen [.int .u64 (m.dp.toList.getD k 0)]) [.cell ⟨b,2+(k*1),none⟩ (.int .u64 (m.dp.toList.getD k 0))] (bE (u.cell 0 rfl (aP.ry (off:=2) (d:=m.dp) zk za)) aR) Hz)) (Zt (Zi (((m.dp.toList.getD k 0):Int)>65536) (λa9=>?_) (λa9=>?_))))))))
   ·exact En (Lq (Le (Ll (Ly (E5 (Ll (Ly (Dz (bY (v:=.bool false) ⟨(by unfold gv;rw [if_neg (ne_true_of_eq_false (show yh m=false from o)),if_neg (λf=>by have:=f _ (bJ (l:=m.dp.toList) (d:=(0:Int)) (by rw [aP.len];exact hk));omega)]),u.dr 1⟩)))))))))
   ·exact Zk (Zm (Zt (dE (eT 1 ((k:Nat)+1) Hz) (aS.back (k+1) [1,3] zk (by show 11-(k+1)<11-k;omega) ⟨⟨za,Mh hk hp.2 za⟩,u⟩))))
  ·have hke:m.dp.toList.take k=m.dp.toList:=List.take_of_length_le (by rw [aP.len];omega)
   exact Zx (aS.eQ (aS.eR (aS.kI (Zt (Zs (dZ [2] (hP 1 0 13 76 (aH.cells m.bd) u Hz) (CH (FB m.bd hm.bd (λw h=>hr _ (h.drop 1)) u) λb9 b2=>Lz (Le (Dz (bY (v:=.bool (lr m.bd)) ⟨(by unfold gv;rw [if_neg (ne_true_of_eq_false (show yh m=false from o)),if_pos (by rw [<- hke];exact hp.2),Kb hm.bd]),b2.dr 1⟩))))))))))
theorem zh {p:Prop}(h:p:=by first|omega|(simp only [List.length_append,List.length_cons,List.length_nil,dV,gU,bW.len,jb] at *;omega)):p:=h
theorem C7 m (hm:lP m) (hr:Rw w0 L bu.cells 2 bG m.bd.qa m.bd.ql) (hs:St w0 L w):Cs Tryz.prog 52 #[.agg (aK.cells m)] w λrv w'=>∃ ao co,rv=.slice ao ((pN m).length) co/\St w0 (Sl ao co 5 1 aD (pN m)::L) w':=by
 refine dF Tryz.func52 Tryz.ntmps52 (En (Ls (Lg [0] (Dz (mT (aK.cells m) hs λo w2 c3=>Lz (Ls (Ls (Dz (dZ [1] (hP 0 0 0 121 (aK.cells m) c3 Hz) (CH (pC m hm (λw h=>hr _ (h.drop 1)) c3) λw6 a8=>Lz (Dz (eZ (t:=!(gv m)) (λh7=>?_) (λh7=>?_)))))))))))))
 ·have a3:=sA h7
  refine En (Lq (Le (Ly (Dz (bY (v:=.slice none 0 0) ?_)))))
  have e3:=St.eB a8 5 1 aD
  have e4:=(e3.pl 0).pl 1
  exact⟨none,0,by rw [(show pN m=[] from if_neg (by rw [a3];decide))];rfl,by rw [(show pN m=[] from if_neg (by rw [a3];decide))];exact(e4.dr 1)⟩
 ·have a3:=pK h7
  have hb:gv m=true:=a3
  have hin:=lq (pB hb)
  have g1:=hm.bd.vw
  have g2:=hm.bd.k
  have g3:=hm.bd.kd
  refine Zk (Zt (Zs (dZ [3] (Hl 1 0 0 a8 Hz) (CB Rs aF [(IntKind.u8.wrap m.og:Int)] a8 λc4 e6 e7=>Lz (Ls (Lq (Lb (Dz ?_))))))))
  have e8:St w0 (Sl (some ⟨c4,0,none⟩) 1 5 1 aD (iO m 0)::aB o (aK.cells m) 55::L) e6:=e7
  refine aX.loop (T:=Nat×(Option Addr)×Nat) (λgg=>[(1,zP o 0),(2,.slice none 0 0),(3,.slice gg.2.1 ((iO m gg.1).length) gg.2.2),(4,.int .i64 (gg.1:Nat))]) (λgg w=>(gg.1<=11)/\St w0 (Sl gg.2.1 gg.2.2 5 1 aD (iO m gg.1)::aB o (aK.cells m) 55::L) w) (λgg=>11-gg.1) (0,some ⟨c4,0,none⟩,1) [1,2,3,4] zk ⟨Nat.zero_le _,e8⟩ ?_
  rintro⟨k,ad,c⟩ k2 ⟨hp,x⟩
  dsimp only at hp x
  refine En (Ls (Lq (Dz (Zi ((k:Int)<11) (λe9=>?_) (λe9=>?_)))))
  ·have hk:k<11:=za
   have hkl:=jF m k za
   refine Zk (Zt (Zs (Zb (dZ [5] (Hx 3 (k:Int) (11:Int) o 2 1 (Hg 4 (.gen [.int .u64 (m.dp.toList.getD k 0)]) [.cell ⟨o,2+(k*1),none⟩ (.int .u64 (m.dp.toList.getD k 0))] (bE (x.cell 1 rfl (aP.ry (off:=2) (d:=m.dp) zk za)) aR) Hz)) (Zc (ig (iO m k) (m.dp.toList.getD k 0) zh (hm.dp (m.dp.toList.getD k 0) (bJ (d:=(0:Int)) (by rw [aP.len];exact hk))) x) ?_)))))
   rintro k3 f0 ⟨a4,a5,rfl,f1⟩
   refine Lo (cI (Lm (Lt (Dz (dE (eT 1 ((k:Nat)+1) Hz) ?_)))))
   have f2:St w0 (Sl a4 a5 5 1 aD (iO m (k+1))::aB o (aK.cells m) 55::L) f0:=(by rw [oA m hk];exact f1)
   exact aS.pick [4,3,1,2] (S':=[(4,.int .i64 ((k:Nat)+1)),(3,.slice a4 (((iO m k)++wd (m.dp.toList.getD k 0)).length) a5),(1,zP o 0),(2,.slice none 0 0)]) zk (aS.gL (S':=[(4,.int .i64 ((k:Nat)+1)),(3,.slice a4 ((iO m (k+1)).length) a5),(1,zP o 0),(2,.slice none 0 0)]) (by rw [oA m hk]) (aS.back (k+1,a4,a5) [1,2,3,4] zk (by show 11-(k+1)<11-k;omega) ⟨za,f2⟩))
  ·have hke:k=11:=za
   subst hke
   have hkl:=jF m 11 za
   refine Zx (aS.eQ (aS.eR (aS.kI (Zt (Zs (dZ [2,3] (hP 1 1 13 76 (aH.cells m.bd) x Hz) (tW (aH.cells qx) x λb k4 f3=>Lo (Dz (Zu 0 0 (aH.cells m.bd) f3 λk5 c5=>Lo (Ld (Lt (Ls (Dz (dZ [3,4] (Hl 2 0 0 c5 Hz) (CB Rs aF [(m.bd.kd:Int)] c5 λk6 k7 f4=>Lo (Dz (sD Rs aF (0:Int) (f4.pl 2) zh λk8 k9 l0 z=>Lz (Ls (Ls (Dz (dE (Hl 1 2 0 z Hz) (Zt (eZ (t:=(m.bd.kd:Int) != 6) (λa0=>?_) (λa0=>?_))))))))))))))))))))))))
   ·have f6:=E2 a0
    have h6:¬ m.bd.kd=6:=by simpa using a0
    refine dZ [3] (Hl 2 2 1 z Hz) (Zc (ig ((iO m 11)++([(m.bd.kd:Int)])) m.bd.vw zh hm.bd.vw z) ?_)
    rintro l1 l2 ⟨c6,c7,rfl,u⟩
    refine Lz (Ls (Ls (Dz (dE (Hl 1 2 0 u Hz) (En (Lt (Lb (Lq (Dz (eZ (t:=(m.bd.kd:Int) == 1) (λa9=>?_) (λa9=>?_)))))))))))
    ·have c8:=kr a9
     have c9:=hin.2.1
     rw [show iR m.bd=dC m.bd.rq from if_pos c8] at c9
     have hz:=kX c9
     have hrl:=ln hz
     refine ZD (gE [0,1,2,4,5,6] (.ef 3 (.ef 7 (.rd 8 .done)))) u λl3 d0 l4=>Zj (hP 2 2 3 40 (bC.cells m.bd.rq) d0 (Hg 6 (.dH (zL b 11 m.bd.rq.tg.toList.length 32) (.sub 0 32)) [.prop (((none:Option Operand)=none->(0:Nat)=0)/\((none:Option Operand)=none->(32:Nat)=32)/\(0:Nat)<=32/\(32:Nat)<=32),.prop (Value.slice (some (if 32=0 then Addr.mk b 11 none else (Addr.mk b 11 none).add (0*1))) (32-0) (32-0)=Value.slice (some ⟨b,11,none⟩) m.bd.rq.tg.toList.length 32)] (aJ ⟨(by first|(intro _;rfl)|(intro hc;cases hc)),(by first|(intro _;rfl)|(intro hc;cases hc)),za,za⟩ (aJ (by rw [bW.len];exact eM _ _ _ _ _ zb) aR)) Hz)) (Zc (pY (((iO m 11)++([(m.bd.kd:Int)]))++wd m.bd.vw) m.bd.rq zh hm.bd.rq hz d0) ?_)
     rintro l5 l6 ⟨f7,f8,rfl,d1⟩
     refine⟨gR (n:=[.prop (((none:Option Operand)=none->(0:Nat)=0)/\((none:Option Operand)=none->(32:Nat)=32)/\(0:Nat)<=32/\(32:Nat)<=32),.prop (Value.slice (some (if 32=0 then Addr.mk b 11 none else (Addr.mk b 11 none).add (0*1))) (32-0) (32-0)=Value.slice (some ⟨b,11,none⟩) m.bd.rq.tg.toList.length 32)]) zk (aJ ⟨(by first|(intro _;rfl)|(intro hc;cases hc)),(by first|(intro _;rfl)|(intro hc;cases hc)),za,za⟩ (aJ (by rw [bW.len];exact eM _ _ _ _ _ zb) aR)),(aL.append rfl zk Rs aF (ad:=f7) (c:=f8) (xs:=(((iO m 11)++([(m.bd.kd:Int)]))++wd m.bd.vw)++oo m.bd.rq) (ys:=m.bd.rq.tg.toList) (adx:=some ⟨b,11,none⟩) (cx:=32) (0:Int) zk d1 (bW.lk d1 2 11 m.bd.rq.tg rfl zk) (λh=>nomatch h) zh zh λd2 d3 l7 f9=>Lo (cI (Lm (Lt (Lq (Le (Dz (bY (v:=.slice d2 ((((((iO m 11)++([(m.bd.kd:Int)]))++wd m.bd.vw)++oo m.bd.rq)++m.bd.rq.tg.toList).length) d3) ?_))))))))⟩
     have g0:=(((f9.pl 0).pl 3).pl 3).pl 3
     have e:((((iO m 11)++([(m.bd.kd:Int)]))++wd m.bd.vw)++oo m.bd.rq)++m.bd.rq.tg.toList=pN m:=by
      rw [show pN m=pZ m from if_pos hb]
      unfold pZ ow
      rw [if_pos za,Js]
      all_goals simp only [List.append_assoc]
     exact⟨d2,d3,by rw [<- e],by rw [<- e];exact(g0.dr 3)⟩
    ·have c8:=lf a9
     refine En (Lq (Dz (eZ (t:=(m.bd.kd:Int) == 2) (λb0=>?_) (λb0=>?_))))
     ·have g7:=kr b0
      refine dZ [3] (Hl 2 2 2 u Hz) (Zc (ig (((iO m 11)++([(m.bd.kd:Int)]))++wd m.bd.vw) m.bd.k zh hm.bd.k u) ?_)
      rintro l8 l9 ⟨d4,d5,rfl,g8⟩
      refine Lo (cI (Lm (Lt (Lq (Le (Dz (bY (v:=.slice d4 (((((iO m 11)++([(m.bd.kd:Int)]))++wd m.bd.vw)++wd m.bd.k).length) d5) ?_)))))))
      have g9:=(((g8.pl 0).pl 3).pl 3).pl 3
      have e:(((iO m 11)++([(m.bd.kd:Int)]))++wd m.bd.vw)++wd m.bd.k=pN m:=by
       rw [show pN m=pZ m from if_pos hb]
       unfold pZ ow
       rw [if_neg za,if_pos za,Jt]
       all_goals simp only [List.append_assoc]
      exact⟨d4,d5,by rw [<- e],by rw [<- e];exact(g9.dr 3)⟩
     ·have g7:=lf b0
      refine En (Lq (Dz (eZ (t:=(m.bd.kd:Int) == 4) (λb2=>?_) (λb2=>?_))))
      ·have h1:=kr b2
       refine Zs (dZ [5,6] (Hl 2 2 43 u Hz) (CB Rs aF [(IntKind.u8.wrap (m.bd.ql.length:Nat):Int)] u λm0 m1 h2=>Lo (Dz (sD Rs aF (0:Int) (h2.pl 1) zh λa6 a7 h4 h5=>Lz (Lq (Lb (Dz ?_)))))))
       obtain⟨d6,d7⟩:∃ a,a=m.bd.qa:=⟨_,rfl⟩
       have h8:=((((h5.pl 3).pl 1).pl 4).pl 4).pl 4
       have i0:=h8.dr 3
       have i1:St w0 (Sl a6 a7 5 1 aD ((iO m 11++([(m.bd.kd:Int)]++(wd m.bd.vw++[IntKind.u8.wrap (m.bd.ql.length:Nat)])))++(m.bd.ql.take 0).flatMap mO)::aB b (aH.cells (⟨m.bd.kd,m.bd.vw,m.bd.k,m.bd.rq,d6,m.bd.qc,m.bd.ql,m.bd.dg⟩:aH)) 53::L) h4:=(by rw [d7,<- (show(((iO m 11)++([(m.bd.kd:Int)]))++wd m.bd.vw)++([(IntKind.u8.wrap (m.bd.ql.length:Nat):Int)])=(iO m 11++([(m.bd.kd:Int)]++(wd m.bd.vw++[IntKind.u8.wrap (m.bd.ql.length:Nat)])))++(m.bd.ql.take 0).flatMap mO by simp only [List.append_assoc,List.take_zero,List.flatMap_nil,List.append_nil])];exact i0)
       refine Zn [(6,.int .i64 0),(3,.slice a6 (((((iO m 11)++([(m.bd.kd:Int)]))++wd m.bd.vw)++([(IntKind.u8.wrap (m.bd.ql.length:Nat):Int)])).length) a7),(5,zP b 0),(2,.slice none 0 0)] (aX.gL (S':=[(6,.int .i64 0),(3,.slice a6 (((iO m 11++([(m.bd.kd:Int)]++(wd m.bd.vw++[IntKind.u8.wrap (m.bd.ql.length:Nat)])))++(m.bd.ql.take 0).flatMap mO).length) a7),(5,zP b 0),(2,.slice none 0 0)]) (by rw [(show(((iO m 11)++([(m.bd.kd:Int)]))++wd m.bd.vw)++([(IntKind.u8.wrap (m.bd.ql.length:Nat):Int)])=(iO m 11++([(m.bd.kd:Int)]++(wd m.bd.vw++[IntKind.u8.wrap (m.bd.ql.length:Nat)])))++(m.bd.ql.take 0).flatMap mO by simp only [List.append_assoc,List.take_zero,List.flatMap_nil,List.append_nil])]) (aX.loop (T:=Nat×(Option Addr)×(Option Addr)×Nat) (λgg=>[(2,.slice none 0 0),(3,.slice gg.2.2.1 (((iO m 11++([(m.bd.kd:Int)]++(wd m.bd.vw++[IntKind.u8.wrap (m.bd.ql.length:Nat)])))++(m.bd.ql.take gg.1).flatMap mO).length) gg.2.2.2),(5,zP b 0),(6,.int .i64 (gg.1:Nat))]) (λgg w=>(gg.1<=m.bd.ql.length/\∀ w,St w0 L w->aC w gg.2.1 m.bd.ql.length 2 (λq=>bu.cells (m.bd.ql.getD q bG)))/\St w0 (Sl gg.2.2.1 gg.2.2.2 5 1 aD ((iO m 11++([(m.bd.kd:Int)]++(wd m.bd.vw++[IntKind.u8.wrap (m.bd.ql.length:Nat)])))++(m.bd.ql.take gg.1).flatMap mO)::aB b (aH.cells (⟨m.bd.kd,m.bd.vw,m.bd.k,m.bd.rq,gg.2.1,m.bd.qc,m.bd.ql,m.bd.dg⟩:aH)) 53::L) w) (λgg=>m.bd.ql.length-gg.1) (0,d6,a6,a7) [2,3,5,6] zk ⟨⟨Nat.zero_le _,by rw [d7];exact hr⟩,i1⟩ ?_))
       rintro⟨k,aq,d8,c1⟩ m2 ⟨hp,a1⟩
       dsimp only at hp a1
       have hw:=hp.2
       refine Zs (Zs (dE (Hl 2 1 43 a1 Hz) (Zt (Zi ((k:Int)<(m.bd.ql.length:Nat)) (λi2=>?_) (λi2=>?_)))))
       ·have hk:k<m.bd.ql.length:=za
        have hpk:=hm.bd.ql _ (bJ (d:=bG) hk)
        have htk:(m.bd.ql.take k).length=k:=by rw [List.length_take];omega
        have hfk:=jb (m.bd.ql.take k)
        obtain⟨f,i,rfl⟩:=aC.isSome (hw _ (a1.drop 2)) za
        refine Zk (Zt (Zs (Zb (ZD (gE [0,1,2,3,4,5,6,7,10,11,12,13,14,15] (.ef 8 (.ef 9 (.ef 16 (.rd 17 .done))))) a1 λm3 a2 m4=>Zj (Hl 2 1 43 a2 (Hx 4 (k:Int) (m.bd.ql.length:Int) f i 2 (Hg 6 (.gen [.int .i64 ((m.bd.ql.getD k bG).rp)]) [.cell ⟨f,i+(k*2),none⟩ (.int .i64 ((m.bd.ql.getD k bG).rp))] (bE (aC.cV (hw _ (a2.drop 2)) (k:=k) zo (j:=0) zb zk) aR) (Hl 11 1 43 a2 (Hx 13 (k:Int) (m.bd.ql.length:Int) f i 2 (Hg 15 (.gen [.int .u64 ((m.bd.ql.getD k bG).nm)]) [.cell ⟨f,i+(k*2)+1,none⟩ (.int .u64 ((m.bd.ql.getD k bG).nm))] (bE (aC.cV (hw _ (a2.drop 2)) (k:=k) zo (j:=1) zb zk) aR) Hz)))))) (CB Rs aF [(IntKind.u8.wrap ((m.bd.ql.getD k bG).rp):Int)] a2 λm5 m6 b3=>⟨gR (n:=[.cell ⟨f,i+(k*2)+1,none⟩ (.int .u64 ((m.bd.ql.getD k bG).nm)),.prop (0<=(k:Int)/\(k:Int)<(m.bd.ql.length:Int)),.prop (Value.pointer (some (Addr.add ⟨f,i,none⟩ (Int.toNat (k:Nat)*2)))=Value.pointer (some ⟨f,i+(k*2),none⟩)),.cell ⟨b,43,none⟩ (zL f i m.bd.ql.length m.bd.qc)]) zk (bE (aC.cV (hw _ (b3.drop 3)) (k:=k) zo (j:=1) zb zk) (aJ za (aJ (aU _ _ _) (bE (b3.cell 2 rfl zk) aR)))),(sD Rs aF (0:Int) (b3.pl 1) zh λm7 m8 m9 b4=>⟨gR (n:=[.cell ⟨f,i+(k*2)+1,none⟩ (.int .u64 ((m.bd.ql.getD k bG).nm)),.prop (0<=(k:Int)/\(k:Int)<(m.bd.ql.length:Int)),.prop (Value.pointer (some (Addr.add ⟨f,i,none⟩ (Int.toNat (k:Nat)*2)))=Value.pointer (some ⟨f,i+(k*2),none⟩)),.cell ⟨b,43,none⟩ (zL f i m.bd.ql.length m.bd.qc)]) zk (bE (aC.cV (hw _ (b4.drop 3)) (k:=k) zo (j:=1) zb zk) (aJ za (aJ (aU _ _ _) (bE (b4.cell 2 rfl zk) aR)))),Zc (ig (((iO m 11++([(m.bd.kd:Int)]++(wd m.bd.vw++[IntKind.u8.wrap (m.bd.ql.length:Nat)])))++(m.bd.ql.take k).flatMap mO)++([(IntKind.u8.wrap ((m.bd.ql.getD k bG).rp):Int)])) ((m.bd.ql.getD k bG).nm) zh hpk.2 b4) ?_⟩)⟩)))))
        rintro n0 n1 ⟨b5,b6,rfl,i4⟩
        refine Lo (cI (Lm (Lt (Dz (dE (eT 1 ((k:Nat)+1) Hz) ?_)))))
        have i5:=((i4.pl 2).pl 1).pl 2
        exact aS.pick [6,3,2,5] (S':=[(6,.int .i64 ((k:Nat)+1)),(3,.slice b5 (((((iO m 11++([(m.bd.kd:Int)]++(wd m.bd.vw++[IntKind.u8.wrap (m.bd.ql.length:Nat)])))++(m.bd.ql.take k).flatMap mO)++([(IntKind.u8.wrap ((m.bd.ql.getD k bG).rp):Int)]))++wd ((m.bd.ql.getD k bG).nm)).length) b6),(2,.slice none 0 0),(5,zP b 0)]) zk (aS.gL (S':=[(6,.int .i64 ((k:Nat)+1)),(3,.slice b5 (((iO m 11++([(m.bd.kd:Int)]++(wd m.bd.vw++[IntKind.u8.wrap (m.bd.ql.length:Nat)])))++(m.bd.ql.take (k+1)).flatMap mO).length) b6),(2,.slice none 0 0),(5,zP b 0)]) (by rw [(show(((iO m 11++([(m.bd.kd:Int)]++(wd m.bd.vw++[IntKind.u8.wrap (m.bd.ql.length:Nat)])))++(m.bd.ql.take k).flatMap mO)++([(IntKind.u8.wrap ((m.bd.ql.getD k bG).rp):Int)]))++wd ((m.bd.ql.getD k bG).nm)=(iO m 11++([(m.bd.kd:Int)]++(wd m.bd.vw++[IntKind.u8.wrap (m.bd.ql.length:Nat)])))++(m.bd.ql.take (k+1)).flatMap mO by rw [bL (d:=bG) hk,List.flatMap_append];simp only [List.append_assoc,List.flatMap_cons,List.flatMap_nil,List.append_nil,mO])]) (aS.back (k+1,some ⟨f,i,none⟩,b5,b6) [2,3,5,6] zk (by show m.bd.ql.length-(k+1)<m.bd.ql.length-k;omega) ⟨⟨za,hw⟩,Qc (i5.dr 1) (show(((iO m 11++([(m.bd.kd:Int)]++(wd m.bd.vw++[IntKind.u8.wrap (m.bd.ql.length:Nat)])))++(m.bd.ql.take k).flatMap mO)++([(IntKind.u8.wrap ((m.bd.ql.getD k bG).rp):Int)]))++wd ((m.bd.ql.getD k bG).nm)=(iO m 11++([(m.bd.kd:Int)]++(wd m.bd.vw++[IntKind.u8.wrap (m.bd.ql.length:Nat)])))++(m.bd.ql.take (k+1)).flatMap mO by rw [bL (d:=bG) hk,List.flatMap_append];simp only [List.append_assoc,List.flatMap_cons,List.flatMap_nil,List.append_nil,mO])⟩))
       ·have hke:m.bd.ql.take k=m.bd.ql:=List.take_of_length_le za
        refine En (Lx (mM (mN (Lh (Lm (Lt (Lq (Le (Dz (bY (v:=.slice d8 (((iO m 11++([(m.bd.kd:Int)]++(wd m.bd.vw++[IntKind.u8.wrap (m.bd.ql.length:Nat)])))++(m.bd.ql.take k).flatMap mO).length) c1) ?_))))))))))
        have i8:=(a1.pl 0).pl 1
        have e:(iO m 11++([(m.bd.kd:Int)]++(wd m.bd.vw++[IntKind.u8.wrap (m.bd.ql.length:Nat)])))++(m.bd.ql.take k).flatMap mO=pN m:=by
         rw [show pN m=pZ m from if_pos hb]
         unfold pZ ow
         rw [if_neg za,if_neg za,if_pos za,Ij]
         rw [hke]
         all_goals simp only [List.append_assoc]
        exact⟨d8,c1,by rw [<- e],by rw [<- e];exact(i8.dr 1)⟩
      ·have h1:=lf b2
       refine En (Lq (Dz (eZ (t:=(m.bd.kd:Int) == 6) (λb7=>?_) (λb7=>?_))))
       ·have j0:=kr b7
        exfalso;omega
       ·have j0:=lf b7
        refine En (Lk (Lm (Lt (Lq (Le (Dz (bY (v:=.slice c6 ((((iO m 11)++([(m.bd.kd:Int)]))++wd m.bd.vw).length) c7) ?_)))))))
        have j1:=(((u.pl 0).pl 3).pl 3).pl 3
        have e:((iO m 11)++([(m.bd.kd:Int)]))++wd m.bd.vw=pN m:=by
         rw [show pN m=pZ m from if_pos hb]
         unfold pZ ow
         rw [if_neg za,if_neg za,if_neg za,if_neg za]
         all_goals simp only [List.append_assoc]
        exact⟨c6,c7,by rw [<- e],by rw [<- e];exact(j1.dr 3)⟩
   ·have f6:=E3 a0
    have h6:m.bd.kd=6:=by simpa using a0
    refine Zk (Zt (Zs (Zs (dE (Hl 1 2 0 z Hz) (En (Lt (Lb (Lq (Dz (eZ (t:=(m.bd.kd:Int) == 1) (λb8=>?_) (λb8=>?_)))))))))))
    ·have j3:=kr b8
     exfalso;omega
    ·have j3:=lf b8
     refine En (Lq (Dz (eZ (t:=(m.bd.kd:Int) == 2) (λb9=>?_) (λb9=>?_))))
     ·have j4:=kr b9
      exfalso;omega
     ·have j4:=lf b9
      refine En (Lq (Dz (eZ (t:=(m.bd.kd:Int) == 4) (λc0=>?_) (λc0=>?_))))
      ·have j5:=kr c0
       exfalso;omega
      ·have j5:=lf c0
       refine En (Lq (Dz (eZ (t:=(m.bd.kd:Int) == 6) (λc2=>?_) (λc2=>?_))))
       ·have j6:=kr c2
        refine ZD (gE [0,1,2,4,5] (.ef 3 (.ef 6 (.rd 7 .done)))) z λn2 d9 n3=>Zj (Hl 2 2 2 d9 (Hg 5 (.dH (zL b 44 m.bd.dg.toList.length 32) (.sub 0 32)) [.prop (((none:Option Operand)=none->(0:Nat)=0)/\((none:Option Operand)=none->(32:Nat)=32)/\(0:Nat)<=32/\(32:Nat)<=32),.prop (Value.slice (some (if 32=0 then Addr.mk b 44 none else (Addr.mk b 44 none).add (0*1))) (32-0) (32-0)=Value.slice (some ⟨b,44,none⟩) m.bd.dg.toList.length 32)] (aJ ⟨(by first|(intro _;rfl)|(intro hc;cases hc)),(by first|(intro _;rfl)|(intro hc;cases hc)),za,za⟩ (aJ (by rw [bW.len];exact eM _ _ _ _ _ zb) aR)) Hz)) (Zc (ig ((iO m 11)++([(m.bd.kd:Int)])) m.bd.k zh hm.bd.k d9) ?_)
        rintro n4 n5 ⟨j7,j8,rfl,e0⟩
        refine⟨gR (n:=[.prop (((none:Option Operand)=none->(0:Nat)=0)/\((none:Option Operand)=none->(32:Nat)=32)/\(0:Nat)<=32/\(32:Nat)<=32),.prop (Value.slice (some (if 32=0 then Addr.mk b 44 none else (Addr.mk b 44 none).add (0*1))) (32-0) (32-0)=Value.slice (some ⟨b,44,none⟩) m.bd.dg.toList.length 32)]) zk (aJ ⟨(by first|(intro _;rfl)|(intro hc;cases hc)),(by first|(intro _;rfl)|(intro hc;cases hc)),za,za⟩ (aJ (by rw [bW.len];exact eM _ _ _ _ _ zb) aR)),(aL.append rfl zk Rs aF (ad:=j7) (c:=j8) (xs:=((iO m 11)++([(m.bd.kd:Int)]))++wd m.bd.k) (ys:=m.bd.dg.toList) (adx:=some ⟨b,44,none⟩) (cx:=32) (0:Int) zk e0 (bW.lk e0 2 44 m.bd.dg rfl zk) (λh=>nomatch h) zh zh λe1 e2 n6 j9=>Lo (cI (Lm (Lt (Lq (Le (Dz (bY (v:=.slice e1 (((((iO m 11)++([(m.bd.kd:Int)]))++wd m.bd.k)++m.bd.dg.toList).length) e2) ?_))))))))⟩
        have k0:=(((j9.pl 0).pl 3).pl 3).pl 3
        have e:(((iO m 11)++([(m.bd.kd:Int)]))++wd m.bd.k)++m.bd.dg.toList=pN m:=by
         rw [show pN m=pZ m from if_pos hb]
         unfold pZ ow
         rw [if_neg za,if_neg za,if_neg za,if_pos za,Ju]
         all_goals simp only [List.append_assoc]
        exact⟨e1,e2,by rw [<- e],by rw [<- e];exact(k0.dr 3)⟩
       ·have j6:=lf c2
        exfalso;omega
end
section
variable {w0 w : World} {L : List bA}
def rotl (x:Int) (k:Int):Int :=
 (jQ .u32 (cD .u32 x (ic .u64 (IntKind.u64.wrap k) 31)) (aW .u32 x (IntKind.u64.wrap (32-(ic .u64 (IntKind.u64.wrap k) 31)))))
theorem Iv x k (hs:St w0 L w):Cs Tryz.prog 339 #[.int .u32 x,.int .i64 k] w λrv w'=>rv=.int .u32 (rotl x k)/\St w0 L w':=by
 refine dF Tryz.func339 Tryz.ntmps339 (En (Lq (Lq (Ls (Dz (dE (Hg 2 (.shift (cD .u32 x (ic .u64 (IntKind.u64.wrap k) 31))) [.prop ((0:Int)<=ic .u64 (IntKind.u64.wrap k) 31/\IntKind.u32.wrap (x*2 ^ (min (Int.toNat (ic .u64 (IntKind.u64.wrap k) 31)) (IntKind.bits .u32)))=cD .u32 x (ic .u64 (IntKind.u64.wrap k) 31))] (aJ ⟨(by first|omega|exact bK rfl _),rfl⟩ aR) (Hg 6 (.shift (aW .u32 x (IntKind.u64.wrap (32-(ic .u64 (IntKind.u64.wrap k) 31))))) [.prop ((0:Int)<=IntKind.u64.wrap (32-(ic .u64 (IntKind.u64.wrap k) 31))/\Int.fdiv x (2 ^ (min (Int.toNat (IntKind.u64.wrap (32-(ic .u64 (IntKind.u64.wrap k) 31)))) (IntKind.bits .u32)))=aW .u32 x (IntKind.u64.wrap (32-(ic .u64 (IntKind.u64.wrap k) 31))))] (aJ ⟨(by first|omega|exact bK rfl _),rfl⟩ aR) Hz)) (Zt (Ze (bY (v:=.int .u32 (jQ .u32 (cD .u32 x (ic .u64 (IntKind.u64.wrap k) 31)) (aW .u32 x (IntKind.u64.wrap (32-(ic .u64 (IntKind.u64.wrap k) 31)))))) ?_)))))))))
 have hr:rotl x k=(jQ .u32 (cD .u32 x (ic .u64 (IntKind.u64.wrap k) 31)) (aW .u32 x (IntKind.u64.wrap (32-(ic .u64 (IntKind.u64.wrap k) 31))))):=by rw [rotl]
 exact⟨by first|(rw [hr];done)|(rw [hr];rfl),hs.drop 0⟩
def cK (x:Int) (n:Int):Int :=
 (rotl x (IntKind.i64.wrap (0-n)))
theorem fP x n (hs:St w0 L w):Cs Tryz.prog 325 #[.int .u32 x,.int .i64 n] w λrv w'=>rv=.int .u32 (cK x n)/\St w0 L w':=by
 refine dF Tryz.func325 Tryz.ntmps325 (En (Lq (Ls (Lg [3] (Lw (CH (Iv x (IntKind.i64.wrap (0-n))  hs) λw3 u=>Lz (Le (Dz (bY (v:=.int .u32 (rotl x (IntKind.i64.wrap (0-n)))) ?_)))))))))
 have hr:cK x n=(rotl x (IntKind.i64.wrap (0-n))):=by rw [cK]
 exact⟨by first|(rw [hr];done)|(rw [hr];rfl),u.drop 0⟩
def iter {α:Type}(f:Nat->α->α):Nat->α->α
 | 0,a=>a
 | n+1,a=>f n (iter f n a)
theorem yY {α:Type}(f:Nat->α->α) (a:α):iter f 0 a=a:=rfl
theorem dW {α:Type}(f:Nat->α->α) (n:Nat) (a:α):iter f (n+1) a=f n (iter f n a):=rfl
def aY (n:Int):Array Value:=#[.int .u32 n]
theorem bB:fD aY 1:=⟨λ_=>rfl,λ_=>rfl⟩
end
end Go.Proofs.YthfpmlpoiocfdaaGreatDoor
