/-
  Several texts in one: TagE, TagF, RsA, RsB, ShaL, RsP, RsC, RsD, RsE, RsF, RsG, ApA.
-/
import Derived.Test.YthfpmlpoiocfdaaGreatDoorGaD
namespace Go.Proofs.YthfpmlpoiocfdaaGreatDoor
open Go.RowKit Go.Sx
set_option linter.unusedVariables false
set_option linter.unusedSimpArgs false
set_option linter.unnecessarySimpa false
set_option maxRecDepth 100000
section
variable {w0 w : World} {L : List bA}
def rH (wrd:ByteArray) (i:Int):List Int:=fR (cH wrd) (([]:List Int)++wd i)
theorem lS (wrd:ByteArray) (i:Int):(rH wrd i).length=32:=cT _ _
theorem zr {p:Prop}(h:p:=by first|omega|(simp only [List.length_append,List.length_nil,dV];omega)):p:=h
theorem Df wrd i most (hi:1<=i) (him:i<=most) (hmost:most<=100) (hwz:wrd.size<=1000000000) (hTab:∀ w,St w0 L w->kA w) (hs:St w0 L w):Cs Tryz.prog 174 #[.string wrd,.int .i64 i,.int .i64 most] w λrv w'=>∃ ao co,rv=.slice ao ((rH wrd i).length) co/\St w0 (Sl ao co 5 1 aD (rH wrd i)::L) w':=by
 refine enter (args:=[.string wrd,.int .i64 i,.int .i64 most]) Tryz.func174 rfl Tryz.ntmps174 (Nat.le_of_ble_eq_true zk) (Zn [(0,.string wrd),(1,.int .i64 i),(2,.int .i64 most)] (Zs (eV (.rd 0 .done) (Zr 0 1 [] (Zd (Zt (Zs (Zs (aX.join (T:=Unit) (E:=λ_=>[(14,.bool ((decide ((i:Int)<1)) || (decide ((i:Int)>most)))),(6,.slice none 0 0),(0,.string wrd),(1,.int .i64 i)]) (F:=λ_ w=>St w0 L w) ?_ ?_)))))))))
 ·refine eV (.rd 0 (.rd 1 (.rd 2 (.rd 3 (.rd 4 (.rd 5 (.rd 6 .done))))))) (Zr 0 3 [] (iy 10 (decide ((i:Int)<1)) (λh1=>?_) (λh1=>?_)))
  ·exact Zr 3 4 [] (Zd (lM [14,6,0,1] () true (by first|rfl|simp [Hb,h1]) hs))
  ·exact Zr 3 4 [] (Zd (lM [14,6,0,1] () (decide ((i:Int)>most)) (by first|rfl|simp [Hb,h1]) hs))
 intro _ w2 a7
 refine Zt (eZ (t:=(decide ((i:Int)<1)) || (decide ((i:Int)>most))) (λh4=>?_) (λh4=>?_))
 ·exfalso;rcases Bool.or_eq_true_iff.1 h4 with h9|h9
  ·have:=of_decide_eq_true h9;omega
  ·have:=of_decide_eq_true h9;omega
 ·have a8:=(Bool.or_eq_false_iff.1 h4).1
  have a9:(decide ((i:Int)>most))=false:=(Bool.or_eq_false_iff.1 h4).2
  refine Zk (Zt (Zs (eV (.rd 0 (.ef 1 (.rd 2 (.rd 3 (.ef 4 (.ef 5 (.ef 6 (.ef 7 (.ef 8 .done))))))))) (Zr 0 1 [] (aL.De rfl zk (src:=9) (dst:=66) (e:=5) (f:=aD) rfl wrd zk zk zk zk hwz a7 λb5 m6 w7 b0=>?_)))))
  have hsb:=dK wrd
  refine⟨gS,Zp 2 2 [(3,.dH (.int .u64 i) (.gen []))] [(3,[.prop (Value.int .u64 (IntKind.u64.wrap i)=Value.int .u64 i)])] (ak (aJ (pQ za za) aR) iF) (dJ (f:=127) (args:=#[.slice none 0 0,.int .u64 i]) Tryz.call127 (eU ([]:List Int) i ze za (St.eB b0 5 1 aD)) ?_)⟩
  rintro c3 c4 ⟨a0,a1,rfl,b2⟩
  refine⟨gS,(aL.bU rfl zk (t:=361) (e:=66) (n:=2) (ps:=[(0,zL b5 0 ((cH wrd).length) ((cH wrd).length+m6)),(1,.slice a0 ((([]:List Int)++wd i).length) a1)]) zk zk (ti:=Tryz.t66) (z:=.slice none 0 0) zk zk zb zb (cs:=#[zL b5 0 ((cH wrd).length) ((cH wrd).length+m6),.slice a0 ((([]:List Int)++wd i).length) a1]) zk b2 λa2 c5 a3 c6=>⟨gS,dJ (f:=172) (args:=#[zL a2 0 2 2]) Tryz.call172 (sN (cH wrd) (([]:List Int)++wd i) zc zc zr (Sl.cap (a3.at_ 1 rfl)) zr zr (λw h=>hTab w (h.drop 2)) (λw h=>uh h 1 rfl) (λw h=>h.rows 0 rfl aF.size _) a3) ?_⟩)⟩
  rintro c7 c9 ⟨rfl,b3⟩
  refine⟨gS,(tW ko b3 λu d1 b4=>⟨gS,(aL.store rfl rfl zk (b:=u) (off:=0) (v:=.agg (aA aD (fR (cH wrd) (([]:List Int)++wd i)))) zk zk (ti:=Tryz.t39) zk b4 0 rfl (cR aF (show(fR (cH wrd) (([]:List Int)++wd i)).length=32 from(cT _ _)) zk) (eO aF) (eC aF (show(fR (cH wrd) (([]:List Int)++wd i)).length=32 from(cT _ _)) zk) (cs':=aA aD (fR (cH wrd) (([]:List Int)++wd i))) (L':=(aB u (aA aD (fR (cH wrd) (([]:List Int)++wd i))) 39)::aB a2 #[zL b5 0 ((cH wrd).length) ((cH wrd).length+m6),.slice a0 ((([]:List Int)++wd i).length) a1] 66::Sl a0 a1 5 1 aD (([]:List Int)++wd i)::aB b5 (aA aD (cH wrd++List.replicate m6 0)) 5::L) (fA aF (show(fR (cH wrd) (([]:List Int)++wd i)).length=32 from(cT _ _)) zk) rfl λd2 b6=>⟨gS,Zd (Zt (Zs (eV (.rd 0 (.ef 1 (.rd 2 .done))) (Zp 0 1 [(0,.dH (zL u 0 32 32) (.sub 0 32))] [(0,[.prop (((none:Option Operand)=none->(0:Nat)=0)/\((none:Option Operand)=none->(32:Nat)=32)/\(0:Nat)<=32/\(32:Nat)<=32),.prop (Value.slice (some (if 32=0 then Addr.mk u 0 none else (Addr.mk u 0 none).add (0*1))) (32-0) (32-0)=Value.slice (some ⟨u,0,none⟩) 32 32)])] (ak (aJ ⟨(by first|(intro _;rfl)|(intro hc;cases hc)),(by first|(intro _;rfl)|(intro hc;cases hc)),za,za⟩ (aJ (eM _ _ _ _ _ zb) aR)) iF) (dJ (f:=177) (args:=#[zL u 0 ((fR (cH wrd) (([]:List Int)++wd i)).length) 32]) Tryz.call177 (om (fR (cH wrd) (([]:List Int)++wd i)) zQ (.inl ⟨_,_,rfl⟩) (λw h=>aG h 0 rfl aF.size _) b6) ?_)))))⟩)⟩)⟩
  rintro d3 d4 ⟨a4,a5,rfl,b7⟩
  refine⟨gS,Zr 2 1 [] (Zd (Zt (Ze (bY (v:=.slice a4 ((fR (cH wrd) (([]:List Int)++wd i)).length) a5) ?_))))⟩
  have b9:=((((b7.pl 0).pl 4).pl 4).pl 4).pl 4
  exact⟨a4,a5,rfl,b9.dr 4⟩
abbrev Qi:ByteArray:=(⟨#[114,97,116,99,104,101,116,32,114,101,112,108,105,99,97]⟩:ByteArray)
def jk (i:Int):List Int:=rH Qi i
theorem lT (i:Int):(jk i).length=32:=cT _ _
theorem rI i (hi:1<=i) (him:i<=11) (hTab:∀ w,St w0 L w->kA w) (hs:St w0 L w):Cs Tryz.prog 296 #[.int .i64 i] w λrv w'=>∃ ao co,rv=.slice ao ((jk i).length) co/\St w0 (Sl ao co 5 1 aD (jk i)::L) w':=by
 refine enter (args:=[.int .i64 i]) Tryz.func296 rfl Tryz.ntmps296 (Nat.le_of_ble_eq_true zk) (Zn [(0,.int .i64 i)] (Zs (eV (.rd 0 .done) (Zr 0 1 [] (Zd (Zt (Zs (eV (.rd 0 (.ef 1 (.rd 2 .done))) (Zr 0 1 [] (dJ (f:=174) (args:=#[.string (⟨#[114,97,116,99,104,101,116,32,114,101,112,108,105,99,97]⟩:ByteArray),.int .i64 i,.int .i64 11]) Tryz.call174 (Df (⟨#[114,97,116,99,104,101,116,32,114,101,112,108,105,99,97]⟩:ByteArray) i 11 zc zc zc zb (λw h=>hTab w (h.drop 0)) hs) ?_))))))))))
 rintro v4 w5 ⟨u,z,rfl,a0⟩
 exact⟨gS,Zr 2 1 [] (Zd (Zt (Ze (bY (v:=.slice u ((rH (⟨#[114,97,116,99,104,101,116,32,114,101,112,108,105,99,97]⟩:ByteArray) i).length) z) ⟨u,z,rfl,a0⟩))))⟩
def Bb (l1 l2:List Int):Nat->List Int
 | 0=>[]
 | 1=>l1
 | _=>l1++l2
theorem IA {bs:Nat}{a1:Option Addr}{n1:Nat}{c1:Nat}{a2:Option Addr}{n2:Nat}{c2:Nat}l1 l2 (e1:l1.length=n1) (e2:l2.length=n2) (g1:l1.length<=100000) (g2:l2.length<=100000) (hn1:a1=none->c1=0) (hn2:a2=none->c2=0) (hr1:Rw w0 L aD 1 0 a1 l1) (hr2:Rw w0 L aD 1 0 a2 l2) (hs:St w0 (aB bs #[.slice a1 n1 c1,.slice a2 n2 c2] 66::L) w):Cs Tryz.prog 297 #[zL bs 0 2 2] w λrv w'=>∃ ao co,rv=.slice ao ((l1++l2).length) co/\St w0 (aB bs #[.slice a1 n1 c1,.slice a2 n2 c2] 66::Sl ao co 5 1 aD (l1++l2)::L) w':=by
 refine enter (args:=[zL bs 0 2 2]) Tryz.func297 rfl Tryz.ntmps297 (Nat.le_of_ble_eq_true zk) (Zn [(0,zL bs 0 2 2)] (Zs ?_))
 subst e1
 subst e2
 refine eV (.rd 0 .done) (Zr 0 1 [] (Zd (Zt (Zs (eV (.rd 0 .done) (Zr 0 1 [] (Zd (Zt (Zs (Zs (eV (.rd 0 (.rd 1 (.rd 2 .done))) (Zr 0 3 [] (Zd (Zt (Zb (aX.loop (T:=Nat×Int) (λgg=>[(0,zL bs 0 2 2),(2,.slice none 0 0),(3,.int .i64 gg.2),(9,zL bs 0 2 2),(10,.int .i64 2),(11,.int .i64 (gg.1:Nat))]) (λgg w=>(gg.1<=2/\(gg.1=0->gg.2=(0:Int))/\(gg.1=1->gg.2=(0:Int)+(l1.length:Nat))/\(gg.1=2->gg.2=(0:Int)+(l1.length:Nat)+(l2.length:Nat)))/\St w0 (aB bs #[.slice a1 l1.length c1,.slice a2 l2.length c2] 66::L) w) (λgg=>2-gg.1) (0,0) [0,2,3,9,10,11] zk ⟨⟨Nat.zero_le _,λ_=>rfl,λh=>by omega,λh=>by omega⟩,hs⟩ ?_))))))))))))))))
 rintro⟨k,z⟩ w1 ⟨hp,u⟩
 dsimp only at hp u
 refine Zs (eV (.rd 0 .done) (Zr 0 1 [] (Zd (Zt (Zs (Zn [(12,.bool (decide ((k:Int)<2))),(0,zL bs 0 2 2),(2,.slice none 0 0),(3,.int .i64 z),(9,zL bs 0 2 2),(10,.int .i64 2),(11,.int .i64 (k:Nat))] (eZ (t:=decide ((k:Int)<2)) (λh4=>?_) (λh4=>?_))))))))
 ·have b1:=of_decide_eq_true h4
  have hcs:k=0\/k=1:=za
  rcases hcs with rfl|rfl
  ·have hz:z=(0:Int):=hp.2.1 rfl
   refine Zn [(12,.bool (decide (((0:Nat):Int)<2))),(0,zL bs 0 2 2),(2,.slice none 0 0),(3,.int .i64 z),(9,zL bs 0 2 2),(10,.int .i64 2),(11,.int .i64 0)] (Zk (Zt (Zs (Zb (Zs (eV (.rd 0 (.rd 1 (.rd 2 .done))) (Zp 0 3 [(0,.dH (zP bs 0) .at_),(1,.gen [.slice a1 l1.length c1])] [(0,[.prop (0<=(0:Int)/\(0:Int)<(2:Int)),.prop (Value.pointer (some (Addr.add ⟨bs,0,none⟩ (Int.toNat 0*1)))=Value.pointer (some ⟨bs,0,none⟩))]),(1,[.cell ⟨bs,0,none⟩ (.slice a1 l1.length c1)])] (ak (aJ za (aJ (aU _ _ _) aR)) (ak (bE (u.cell 0 rfl zk) aR) iF)) (Zd (Zt (Zs (eV (.rd 0 (.rd 1 (.rd 2 (.rd 3 (.rd 4 .done))))) (Zp 0 5 [(3,.dH (.int .i64 (z+(l1.length:Nat))) (.gen []))] [(3,[.prop (Value.int .i64 (IntKind.i64.wrap (z+(l1.length:Nat)))=Value.int .i64 (z+(l1.length:Nat)))])] (ak (aJ (iD za za) aR) iF) (Zd (Zt (Zs (eV (.rd 0 (.rd 1 .done)) (Zr 0 2 [] (Zd (Zt (eZ (t:=decide ((z+(l1.length:Nat):Int)<0)) (λh5=>?_) (λh5=>?_)))))))))))))))))))))
   ·have b2:=of_decide_eq_true h5
    exfalso;omega
   ·exact Zk (Zm (Zt (eV (.rd 0 (.rd 1 .done)) (Zr 0 2 [] (Zd (aS.back (1,z+(l1.length:Nat)) [0,2,3,9,10,11] zk (by show 2-1<2-0;omega) ⟨⟨za,za,za,za⟩,u⟩))))))
  ·have hz:z=(0:Int)+(l1.length:Nat):=hp.2.2.1 rfl
   refine Zn [(12,.bool (decide (((1:Nat):Int)<2))),(0,zL bs 0 2 2),(2,.slice none 0 0),(3,.int .i64 z),(9,zL bs 0 2 2),(10,.int .i64 2),(11,.int .i64 1)] (Zk (Zt (Zs (Zb (Zs (eV (.rd 0 (.rd 1 (.rd 2 .done))) (Zp 0 3 [(0,.dH (zP bs 1) .at_),(1,.gen [.slice a2 l2.length c2])] [(0,[.prop (0<=(1:Int)/\(1:Int)<(2:Int)),.prop (Value.pointer (some (Addr.add ⟨bs,0,none⟩ (Int.toNat 1*1)))=Value.pointer (some ⟨bs,1,none⟩))]),(1,[.cell ⟨bs,1,none⟩ (.slice a2 l2.length c2)])] (ak (aJ za (aJ (aU _ _ _) aR)) (ak (bE (u.cell 0 rfl zk) aR) iF)) (Zd (Zt (Zs (eV (.rd 0 (.rd 1 (.rd 2 (.rd 3 (.rd 4 .done))))) (Zp 0 5 [(3,.dH (.int .i64 (z+(l2.length:Nat))) (.gen []))] [(3,[.prop (Value.int .i64 (IntKind.i64.wrap (z+(l2.length:Nat)))=Value.int .i64 (z+(l2.length:Nat)))])] (ak (aJ (iD za za) aR) iF) (Zd (Zt (Zs (eV (.rd 0 (.rd 1 .done)) (Zr 0 2 [] (Zd (Zt (eZ (t:=decide ((z+(l2.length:Nat):Int)<0)) (λh6=>?_) (λh6=>?_)))))))))))))))))))))
   ·have b3:=of_decide_eq_true h6
    exfalso;omega
   ·exact Zk (Zm (Zt (eV (.rd 0 (.rd 1 .done)) (Zr 0 2 [] (Zd (aS.back (2,z+(l2.length:Nat)) [0,2,3,9,10,11] zk (by show 2-2<2-1;omega) ⟨⟨za,za,za,za⟩,u⟩))))))
 ·have b1:=of_decide_eq_false h4
  have hkn:k=2:=za
  subst hkn
  have hz:z=(0:Int)+(l1.length:Nat)+(l2.length:Nat):=hp.2.2.2 rfl
  have hzn:z=((l1.length+l2.length:Nat):Int):=za
  refine Zn [(12,.bool (decide (((2:Nat):Int)<2))),(0,zL bs 0 2 2),(2,.slice none 0 0),(3,.int .i64 z),(9,zL bs 0 2 2),(10,.int .i64 2),(11,.int .i64 (2:Nat))] (aX.gL (S':=[(12,.bool (decide (((2:Nat):Int)<2))),(0,zL bs 0 2 2),(2,.slice none 0 0),(3,.int .i64 (l1.length+l2.length:Nat)),(9,zL bs 0 2 2),(10,.int .i64 2),(11,.int .i64 (2:Nat))]) (by rw [hzn]) (Zn [(12,.bool (decide (((2:Nat):Int)<2))),(0,zL bs 0 2 2),(2,.slice none 0 0),(3,.int .i64 (l1.length+l2.length:Nat)),(9,zL bs 0 2 2),(10,.int .i64 2),(11,.int .i64 (2:Nat))] (Zx (aS.eQ (aS.eR (aS.kI (Zt (Zs (eV (.rd 0 (.ef 1 (.rd 2 .done))) (Zr 0 1 [] (dJ (f:=234) (args:=#[.slice none 0 0,.int .i64 (l1.length+l2.length:Nat)]) Tryz.call234 (qv ([]:List Int) (l1.length+l2.length:Nat) ze za (St.eB u 5 1 aD)) ?_)))))))))))
  rintro d2 d3 ⟨b5,b6,rfl,b7⟩
  refine⟨gS,Zr 2 1 [] (Zd (Zt (Zs (Zs (eV (.rd 0 (.rd 1 (.rd 2 .done))) (Zr 0 3 [] (Zd (Zt (Zb (aX.loop (T:=Nat×(Option Addr)×Nat) (λgg=>[(2,.slice none 0 0),(6,.slice gg.2.1 ((Bb l1 l2 gg.1).length) gg.2.2),(25,zL bs 0 2 2),(26,.int .i64 2),(27,.int .i64 (gg.1:Nat))]) (λgg w=>(gg.1<=2)/\St w0 (Sl gg.2.1 gg.2.2 5 1 aD (Bb l1 l2 gg.1)::aB bs #[.slice a1 l1.length c1,.slice a2 l2.length c2] 66::L) w) (λgg=>2-gg.1) (0,b5,b6) [2,6,25,26,27] zk ⟨Nat.zero_le _,b7⟩ ?_))))))))))⟩
  rintro⟨k,ad,c⟩ a7 ⟨hq,a0⟩
  dsimp only at hq a0
  refine Zs (eV (.rd 0 .done) (Zr 0 1 [] (Zd (Zt (Zs (Zn [(28,.bool (decide ((k:Int)<2))),(2,.slice none 0 0),(6,.slice ad ((Bb l1 l2 k).length) c),(25,zL bs 0 2 2),(26,.int .i64 2),(27,.int .i64 (k:Nat))] (eZ (t:=decide ((k:Int)<2)) (λa8=>?_) (λa8=>?_))))))))
  ·have b9:=of_decide_eq_true a8
   have hcs:k=0\/k=1:=za
   rcases hcs with rfl|rfl
   ·have a9:St w0 (Sl ad c 5 1 aD ([]:List Int)::aB bs #[.slice a1 l1.length c1,.slice a2 l2.length c2] 66::L) a7:=a0
    refine Zn [(28,.bool (decide (((0:Nat):Int)<2))),(2,.slice none 0 0),(6,.slice ad (([]:List Int).length) c),(25,zL bs 0 2 2),(26,.int .i64 2),(27,.int .i64 0)] (Zk (Zt (Zs (Zb (Zs (eV (.rd 0 (.rd 1 (.rd 2 .done))) (Zp 0 3 [(0,.dH (zP bs 0) .at_),(1,.gen [.slice a1 l1.length c1])] [(0,[.prop (0<=(0:Int)/\(0:Int)<(2:Int)),.prop (Value.pointer (some (Addr.add ⟨bs,0,none⟩ (Int.toNat 0*1)))=Value.pointer (some ⟨bs,0,none⟩))]),(1,[.cell ⟨bs,0,none⟩ (.slice a1 l1.length c1)])] (ak (aJ za (aJ (aU _ _ _) aR)) (ak (bE (a9.cell 1 rfl zk) aR) iF)) (Zd (Zt (eV (.rd 0 (.rd 1 (.ef 2 (.rd 3 .done)))) (Zr 0 2 [] (aL.append rfl zk Rs aF (ad:=ad) (c:=c) (xs:=([]:List Int)) (ys:=l1) (adx:=a1) (cx:=c1) (0:Int) zk a9 (hr1 _ (a9.drop 2)) hn1 zy zy λa3 a4 c0 c3=>⟨gS,Zr 3 1 [] (Zd (Zm (Zt (eV (.rd 0 (.rd 1 .done)) (Zr 0 2 [] (Zd ?_))))))⟩))))))))))))
    have c4:St w0 (Sl a3 a4 5 1 aD (Bb l1 l2 1)::aB bs #[.slice a1 l1.length c1,.slice a2 l2.length c2] 66::L) c0:=c3
    exact aS.pick [27,6,2,25,26] (S':=[(27,.int .i64 1),(6,.slice a3 l1.length a4),(2,.slice none 0 0),(25,zL bs 0 2 2),(26,.int .i64 2)]) zk (aS.gL (S':=[(27,.int .i64 1),(6,.slice a3 ((Bb l1 l2 1).length) a4),(2,.slice none 0 0),(25,zL bs 0 2 2),(26,.int .i64 2)]) (by rfl) (aS.back (1,a3,a4) [2,6,25,26,27] zk (by show 2-1<2-0;omega) ⟨za,c4⟩))
   ·have b0:St w0 (Sl ad c 5 1 aD l1::aB bs #[.slice a1 l1.length c1,.slice a2 l2.length c2] 66::L) a7:=a0
    refine Zn [(28,.bool (decide (((1:Nat):Int)<2))),(2,.slice none 0 0),(6,.slice ad l1.length c),(25,zL bs 0 2 2),(26,.int .i64 2),(27,.int .i64 1)] (Zk (Zt (Zs (Zb (Zs (eV (.rd 0 (.rd 1 (.rd 2 .done))) (Zp 0 3 [(0,.dH (zP bs 1) .at_),(1,.gen [.slice a2 l2.length c2])] [(0,[.prop (0<=(1:Int)/\(1:Int)<(2:Int)),.prop (Value.pointer (some (Addr.add ⟨bs,0,none⟩ (Int.toNat 1*1)))=Value.pointer (some ⟨bs,1,none⟩))]),(1,[.cell ⟨bs,1,none⟩ (.slice a2 l2.length c2)])] (ak (aJ za (aJ (aU _ _ _) aR)) (ak (bE (b0.cell 1 rfl zk) aR) iF)) (Zd (Zt (eV (.rd 0 (.rd 1 (.ef 2 (.rd 3 .done)))) (Zr 0 2 [] (aL.append rfl zk Rs aF (ad:=ad) (c:=c) (xs:=l1) (ys:=l2) (adx:=a2) (cx:=c2) (0:Int) zk b0 (hr2 _ (b0.drop 2)) hn2 zy zy λa5 a6 c5 c6=>⟨gS,Zr 3 1 [] (Zd (Zm (Zt (eV (.rd 0 (.rd 1 .done)) (Zr 0 2 [] (Zd ?_))))))⟩))))))))))))
    have c7:St w0 (Sl a5 a6 5 1 aD (Bb l1 l2 2)::aB bs #[.slice a1 l1.length c1,.slice a2 l2.length c2] 66::L) c5:=c6
    exact aS.pick [27,6,2,25,26] (S':=[(27,.int .i64 2),(6,.slice a5 ((l1++l2).length) a6),(2,.slice none 0 0),(25,zL bs 0 2 2),(26,.int .i64 2)]) zk (aS.gL (S':=[(27,.int .i64 2),(6,.slice a5 ((Bb l1 l2 2).length) a6),(2,.slice none 0 0),(25,zL bs 0 2 2),(26,.int .i64 2)]) (by rfl) (aS.back (2,a5,a6) [2,6,25,26,27] zk (by show 2-2<2-1;omega) ⟨za,c7⟩))
  ·have b9:=of_decide_eq_false a8
   have hkn:k=2:=za
   subst hkn
   have c9:St w0 (Sl ad c 5 1 aD (l1++l2)::aB bs #[.slice a1 l1.length c1,.slice a2 l2.length c2] 66::L) a7:=a0
   exact Zn [(28,.bool (decide (((2:Nat):Int)<2))),(2,.slice none 0 0),(6,.slice ad ((l1++l2).length) c),(25,zL bs 0 2 2),(26,.int .i64 2),(27,.int .i64 (2:Nat))] (Zx (aS.eQ (aS.eR (aS.kI (Zt (Zs (eV (.rd 0 (.rd 1 .done)) (Zr 0 2 [] (Zd (Zt (Ze (bY (v:=.slice ad ((l1++l2).length) c) ⟨ad,c,rfl,(c9.pl 0).pl 1⟩))))))))))))
end
section
variable {w0 w : World} {L : List bA}
def Ml (i n:Int) (bl:List Int):List Int:=gP (jk i) ((([]:List Int)++wd n)++bl)
theorem oF (i n:Int) (bl:List Int):(Ml i n bl).length=32:=cT _ _
def mE (i n:Int) (bl:List Int):bW:=jV (Ml i n bl)
theorem yo {adb:Option Addr}{cb:Nat}i n bl (hi:1<=i) (him:i<=11) (hn:0<=n/\n<18446744073709551616) (hb:bl.length<=2000) (hnb:adb=none->cb=0) (hbc:bl.length<=cb) (hTab:∀ w,St w0 L w->kA w) (hr:Rw w0 L aD 1 0 adb bl) (hs:St w0 L w):Cs Tryz.prog 240 #[.int .i64 i,.int .u64 n,.slice adb bl.length cb] w λrv w'=>rv=.agg (aA aD (Ml i n bl))/\St w0 L w':=by
 refine enter (args:=[.int .i64 i,.int .u64 n,.slice adb bl.length cb]) Tryz.func240 rfl Tryz.ntmps240 (Nat.le_of_ble_eq_true zk) (Zn [(0,.int .i64 i),(1,.int .u64 n),(2,.slice adb bl.length cb)] (Zs (eV (.ef 0 .done) (tW ko hs λb1 w2 a9=>⟨gS,Zd (Zt (Zs (eV (.rd 0 (.ef 1 (.rd 2 (.ef 3 (.rd 4 (.ef 5 (.ef 6 (.ef 7 (.ef 8 .done))))))))) (Zr 0 1 [] (dJ (f:=296) (args:=#[.int .i64 i]) Tryz.call296 (rI i zc zc (λw h=>hTab w (h.drop 1)) a9) ?_)))))⟩))))
 rintro v7 w8 ⟨a2,a3,rfl,b0⟩
 refine⟨gS,Zr 2 1 [] (dJ (f:=127) (args:=#[.slice none 0 0,.int .u64 n]) Tryz.call127 (eU ([]:List Int) n ze za (St.eB b0 5 1 aD)) ?_)⟩
 rintro b6 b7 ⟨u,a0,rfl,b3⟩
 refine⟨gS,Zr 4 1 [] (aL.bU rfl zk (t:=361) (e:=66) (n:=2) (ps:=[(0,.slice u ((([]:List Int)++wd n).length) a0),(1,.slice adb bl.length cb)]) zk zk (ti:=Tryz.t66) (z:=.slice none 0 0) zk zk zb zb (cs:=#[.slice u ((([]:List Int)++wd n).length) a0,.slice adb bl.length cb]) zk b3 λa4 b9 a5 c0=>⟨gS,dJ (f:=297) (args:=#[zL a4 0 2 2]) Tryz.call297 (IA (([]:List Int)++wd n) bl zc rfl zr zr (a5.hZ 1 rfl) hnb (λw h=>h.rows 0 rfl aF.size _) (λw h=>hr _ (h.drop 3)) a5) ?_⟩)⟩
 rintro c1 c2 ⟨a6,a7,rfl,a1⟩
 refine⟨gS,dJ (f:=114) (args:=#[.slice a2 ((jk i).length) a3,.slice a6 (((([]:List Int)++wd n)++bl).length) a7]) Tryz.call114 (wg (jk i) ((([]:List Int)++wd n)++bl) (by rw [lT];decide) (a1.hZ 3 rfl) (Sl.cap (a1.at_ 1 rfl)) zr (λw h=>hTab w (h.drop 5)) (λw h=>h.rows 3 rfl aF.size _) (λw h=>h.rows 1 rfl aF.size _) a1) ?_⟩
 rintro c3 c4 ⟨rfl,b4⟩
 exact⟨gS,(aL.store rfl rfl zk (b:=b1) (off:=0) (v:=.agg (aA aD (gP (jk i) ((([]:List Int)++wd n)++bl)))) zk zk (ti:=Tryz.t39) zk b4 4 rfl (cR aF (show(gP (jk i) ((([]:List Int)++wd n)++bl)).length=32 from(eJ _ _)) zk) (eO aF) (eC aF (show(gP (jk i) ((([]:List Int)++wd n)++bl)).length=32 from(eJ _ _)) zk) (cs':=aA aD (gP (jk i) ((([]:List Int)++wd n)++bl))) (L':=(aB a4 #[.slice u ((([]:List Int)++wd n).length) a0,.slice adb bl.length cb] 66)::Sl a6 a7 5 1 aD ((([]:List Int)++wd n)++bl)::Sl u a0 5 1 aD (([]:List Int)++wd n)::Sl a2 a3 5 1 aD (jk i)::aB b1 (aA aD (gP (jk i) ((([]:List Int)++wd n)++bl))) 39::L) (fA aF (show(gP (jk i) ((([]:List Int)++wd n)++bl)).length=32 from(eJ _ _)) zk) rfl λc5 a8=>⟨gS,Zd (Zt (Ze (aS.done (.inl rfl) (v:=.agg (aA aD (gP (jk i) ((([]:List Int)++wd n)++bl)))) (λa hf=>dS rfl zk (ti:=Tryz.t39) zk zk (vs:=aA aD (gP (jk i) ((([]:List Int)++wd n)++bl))) (bS aF (show(gP (jk i) ((([]:List Int)++wd n)++bl)).length=32 from(eJ _ _)) zk) (a8.cells 4 0 rfl zw) a hf) ⟨rfl,a8.dr 5⟩)))⟩)⟩
theorem wk {adb:Option Addr}{cb:Nat}(i n:Int) bl (hi:1<=i) (him:i<=11) (hn:0<=n/\n<18446744073709551616) (hb:bl.length<=2000) (hnb:adb=none->cb=0) (hbc:bl.length<=cb) (hTab:∀ w,St w0 L w->kA w) (hr:Rw w0 L aD 1 0 adb bl) (hs:St w0 L w) :
 Cs Tryz.prog 240 #[.int .i64 i,.int .u64 n,.slice adb bl.length cb] w λrv w'=>rv=.agg (bW.cells (mE i n bl))/\St w0 L w':=by
 rw [mE,<- Mb (oF i n bl)]
 exact yo i n bl hi him hn hb hnb hbc hTab hr hs
theorem IB i (hi:1<=i) (him:i<=11) (hTab:∀ w,St w0 L w->kA w) (hs:St w0 L w):Cs Tryz.prog 238 #[.int .i64 i] w λrv w'=>rv=.bool true/\St w0 L w':=by
 refine enter (args:=[.int .i64 i]) Tryz.func238 rfl Tryz.ntmps238 (Nat.le_of_ble_eq_true zk) (Zn [(0,.int .i64 i)] (Zs (eV (.rd 0 .done) (Zr 0 1 [] (Zd (Zt (Zs (eV (.rd 0 (.ef 1 (.rd 2 (.rd 3 (.rd 4 .done))))) (Zr 0 1 [] (dJ (f:=296) (args:=#[.int .i64 i]) Tryz.call296 (rI i zc zc (λw h=>hTab w (h.drop 0)) hs) ?_))))))))))
 rintro v4 w5 ⟨a0,a1,rfl,u⟩
 exact⟨gS,Zr 2 3 [] (Zd (Zt (Ze (bY (v:=.bool (decide (((jk i).length:Int)>0))) ⟨(by rw [lT];rfl),u.dr 1⟩))))⟩
theorem IC n (hn1:1<=n) (hn2:n<=65536) (hs:St w0 L w):Cs Tryz.prog 239 #[.int .u64 n] w λrv w'=>rv=.bool true/\St w0 L w':=by
 refine enter (args:=[.int .u64 n]) Tryz.func239 rfl Tryz.ntmps239 (Nat.le_of_ble_eq_true zk) (Zn [(0,.int .u64 n)] (Zs (eV (.rd 0 .done) (Zr 0 1 [] (Zd (Zt (Zs (aX.join (T:=Unit) (E:=λ_=>[(2,.bool ((decide ((n:Int) >= 1)) && (decide ((n:Int)<=65536))))]) (F:=λ_ w=>St w0 L w) ?_ ?_))))))))
 ·refine eV (.rd 0 (.rd 1 (.rd 2 (.rd 3 (.rd 4 (.rd 5 (.rd 6 .done))))))) (Zr 0 3 [] (iy 5 (decide ((n:Int) >= 1)) (λu=>?_) (λu=>?_)))
  ·have z:=of_decide_eq_true u
   exact Zr 3 4 [] (Zd (lM [2] () (decide ((n:Int)<=65536)) (by first|rfl|simp [Hb,u]) hs))
  ·have z:=of_decide_eq_false u
   exfalso;omega
 intro _ w2 a0
 exact Zt (Ze (bY (v:=.bool ((decide ((n:Int) >= 1)) && (decide ((n:Int)<=65536)))) ⟨(by rw [decide_eq_true (show n >= 1 by omega),decide_eq_true (show n<=65536 by omega)];rfl),a0⟩))
theorem ID {adb:Option Addr}{cb:Nat}i n bl t (hi:1<=i) (him:i<=11) (hn1:1<=n) (hn2:n<=65536) (hb:bl.length<=1024) (hnb:adb=none->cb=0) (hbc:bl.length<=cb) (hTab:∀ w,St w0 L w->kA w) (hr:Rw w0 L aD 1 0 adb bl) (hs:St w0 L w):Cs Tryz.prog 193 #[.int .i64 i,.int .u64 n,.slice adb bl.length cb,.agg (bW.cells t)] w λrv w'=>rv=.bool (ui t.toList (mE i n bl).toList)/\St w0 L w':=by
 refine enter (args:=[.int .i64 i,.int .u64 n,.slice adb bl.length cb,.agg (bW.cells t)]) Tryz.func193 rfl Tryz.ntmps193 (Nat.le_of_ble_eq_true zk) (Zn [(0,.int .i64 i),(1,.int .u64 n),(2,.slice adb bl.length cb),(3,.agg (bW.cells t))] (Zs (eV (.ef 0 (.rd 1 .done)) (mT (bW.cells t) hs λu w2 a1=>⟨gS,Zr 1 1 [] (Zd (Zt (Zs (ZD (.rd 0 (.ef 1 (gE [2,3] (.ef 4 (gE [5,6,7,8,9,10,11,12,13,14,15] (.ef 16 (.ef 17 (gE [18,19] .done)))))))) a1 λw4 a2 a7=>Zr 0 1 [] (dJ (f:=238) (args:=#[.int .i64 i]) Tryz.call238 (IB i za za (λw h=>hTab w (h.drop 1)) a2) ?_)))))⟩))))
 rintro v8 w9 ⟨rfl,a3⟩
 refine⟨gS,Zr 2 2 [] (dJ (f:=239) (args:=#[.int .u64 n]) Tryz.call239 (IC n za za a3) ?_)⟩
 rintro a8 a9 ⟨rfl,z⟩
 refine⟨gS,Zr 5 7 [] (LY 20 ((bl.length:Int)<=1024) (λa4=>?_) (λa4=>?_))⟩
 ·refine Zp 12 4 [(12,.agg (bW.cells t))] [(12,[.prop (Array.size (bW.cells t)=32),.cells ⟨u,0,none⟩ (bW.cells t)])] (ak (aJ zk (iN (z.cells 0 0 rfl zk) aR)) iF) (dJ (f:=240) (args:=#[.int .i64 i,.int .u64 n,.slice adb bl.length cb]) Tryz.call240 (wk i n bl za za za zr hnb zr (λw h=>hTab w (h.drop 1)) (λw h=>hr _ (h.drop 1)) z) ?_)
  rintro b0 b2 ⟨rfl,a0⟩
  refine⟨gR (n:=[.prop (Array.size (bW.cells t)=32),.cells ⟨u,0,none⟩ (bW.cells t)]) zk (aJ zk (iN (a0.cells 0 0 rfl zk) aR)),dJ (f:=66) (args:=#[.agg (bW.cells t),.agg (bW.cells (mE i n bl))]) Tryz.call66 (wj t (mE i n bl) a0) ?_⟩
  rintro b3 b4 ⟨rfl,a5⟩
  exact⟨gS,Zr 18 2 [] (Zd (Zt (Ze (bY (v:=.bool (ui t.toList (mE i n bl).toList)) ⟨rfl,a5.dr 1⟩))))⟩
 ·exfalso;omega
end
section
variable {w0 w : World} {L : List bA}
def jl (x:Int) (n:Int):Int :=
 (jQ .u32 (aW .u32 x n) (cD .u32 x (IntKind.u64.wrap (32-n))))
theorem gV x n (hn:(0)<=n) (hs:St w0 L w):Cs Tryz.prog 227 #[.int .u32 x,.int .u64 n] w λrv w'=>rv=.int .u32 (jl x n)/\St w0 L w':=by
 refine dF Tryz.func227 Tryz.ntmps227 (En (Lq (Ls (Dz (dE (Hg 2 (.shift (aW .u32 x n)) [.prop ((0:Int)<=n/\Int.fdiv x (2 ^ (min (Int.toNat n) (IntKind.bits .u32)))=aW .u32 x n)] (aJ ⟨(by first|omega|exact bK rfl _),rfl⟩ aR) (Hg 6 (.shift (cD .u32 x (IntKind.u64.wrap (32-n)))) [.prop ((0:Int)<=IntKind.u64.wrap (32-n)/\IntKind.u32.wrap (x*2 ^ (min (Int.toNat (IntKind.u64.wrap (32-n))) (IntKind.bits .u32)))=cD .u32 x (IntKind.u64.wrap (32-n)))] (aJ ⟨(by first|omega|exact bK rfl _),rfl⟩ aR) Hz)) (Zt (Ze (bY (v:=.int .u32 (jQ .u32 (aW .u32 x n) (cD .u32 x (IntKind.u64.wrap (32-n))))) ?_))))))))
 have hr:jl x n=(jQ .u32 (aW .u32 x n) (cD .u32 x (IntKind.u64.wrap (32-n)))):=by rw [jl]
 exact⟨by first|(rw [hr];done)|(rw [hr];rfl),hs.drop 0⟩
theorem Mm (hs:St w0 L w):Cs Tryz.prog 228 #[] w λrv w'=>rv=.agg NC/\St w0 L w':=by
 exact dF Tryz.func228 Tryz.ntmps228 (En (Ls (Lg [0] (Dz (tW OH hs λb1 w2 z=>Lo (Ld (Lt (Ls (Lg [1] (Lw (Zu 0 0 NC z λw4 u=>Lo (Ld (Lt (Le (Dz (CI 0 u ⟨rfl,u.dr 1⟩))))))))))))))))
theorem Dg (hs:St w0 L w):Cs Tryz.prog 169 #[] w λrv w'=>rv=.agg QN/\St w0 L w':=by
 exact dF Tryz.func169 Tryz.ntmps169 (En (Ls (Lg [0] (Dz (tW vz hs λb1 w2 z=>Lo (Ld (Lt (Ls (Lg [1] (Lw (Zu 0 0 QN z λw4 u=>Lo (Ld (Lt (Le (Dz (CI 0 u ⟨rfl,u.dr 1⟩))))))))))))))))
end
section
variable {w0 w : World} {L : List bA}
def wo (bl:List Int) (k0:Nat) (x0:List Int):List Int:=x0.set k0 (jQ .u32 (jQ .u32 (jQ .u32 (cD .u32 (IntKind.u32.wrap (bl.getD (4*k0) 0)) 24) (cD .u32 (IntKind.u32.wrap (bl.getD (4*k0+1) 0)) 16)) (cD .u32 (IntKind.u32.wrap (bl.getD (4*k0+2) 0)) 8)) (IntKind.u32.wrap (bl.getD (4*k0+3) 0)))
def rJ (bl:List Int):List Int:=iter (wo bl) 16 (List.replicate 64 0)
def pE (k1:Nat) (x1:List Int):List Int:=x1.set k1 (IntKind.u32.wrap ((IntKind.u32.wrap ((IntKind.u32.wrap ((x1.getD (k1-16) 0)+(bX .u32 (bX .u32 (jl (x1.getD (k1-15) 0) 7) (jl (x1.getD (k1-15) 0) 18)) (aW .u32 (x1.getD (k1-15) 0) 3))))+(x1.getD (k1-7) 0)))+(bX .u32 (bX .u32 (jl (x1.getD (k1-2) 0) 17) (jl (x1.getD (k1-2) 0) 19)) (aW .u32 (x1.getD (k1-2) 0) 10))))
def Bc (bl:List Int):List Int:=iter (λn=>pE (n+16)) 48 (rJ bl)
def nJ (x1:List Int) (k2:Nat) (x2:List Int):List Int:=[IntKind.u32.wrap ((IntKind.u32.wrap ((IntKind.u32.wrap ((IntKind.u32.wrap ((IntKind.u32.wrap ((x2.getD 7 0)+(bX .u32 (bX .u32 (jl (x2.getD 4 0) 6) (jl (x2.getD 4 0) 11)) (jl (x2.getD 4 0) 25))))+(bX .u32 (ic .u32 (x2.getD 4 0) (x2.getD 5 0)) (ic .u32 (H4 .u32 (x2.getD 4 0)) (x2.getD 6 0)))))+(shaT.getD k2 0)))+(x1.getD k2 0)))+(IntKind.u32.wrap ((bX .u32 (bX .u32 (jl (x2.getD 0 0) 2) (jl (x2.getD 0 0) 13)) (jl (x2.getD 0 0) 22))+(bX .u32 (bX .u32 (ic .u32 (x2.getD 0 0) (x2.getD 1 0)) (ic .u32 (x2.getD 0 0) (x2.getD 2 0))) (ic .u32 (x2.getD 1 0) (x2.getD 2 0)))))),x2.getD 0 0,x2.getD 1 0,x2.getD 2 0,IntKind.u32.wrap ((x2.getD 3 0)+(IntKind.u32.wrap ((IntKind.u32.wrap ((IntKind.u32.wrap ((IntKind.u32.wrap ((x2.getD 7 0)+(bX .u32 (bX .u32 (jl (x2.getD 4 0) 6) (jl (x2.getD 4 0) 11)) (jl (x2.getD 4 0) 25))))+(bX .u32 (ic .u32 (x2.getD 4 0) (x2.getD 5 0)) (ic .u32 (H4 .u32 (x2.getD 4 0)) (x2.getD 6 0)))))+(shaT.getD k2 0)))+(x1.getD k2 0)))),x2.getD 4 0,x2.getD 5 0,x2.getD 6 0]
def rK (s bl:List Int):List Int:=iter (nJ (Bc bl)) 64 s
def G4 (s:List Int) (k3:Nat) (x3:List Int):List Int:=x3.set k3 (IntKind.u32.wrap ((x3.getD k3 0)+(s.getD k3 0)))
def Be (s bl:List Int):List Int:=iter (G4 s) 8 (rK s bl)
abbrev Qj (k1:Nat) (x1:List Int):Int:=IntKind.u32.wrap ((IntKind.u32.wrap ((IntKind.u32.wrap ((x1.getD (k1-16) 0)+(bX .u32 (bX .u32 (jl (x1.getD (k1-15) 0) 7) (jl (x1.getD (k1-15) 0) 18)) (aW .u32 (x1.getD (k1-15) 0) 3))))+(x1.getD (k1-7) 0)))+(bX .u32 (bX .u32 (jl (x1.getD (k1-2) 0) 17) (jl (x1.getD (k1-2) 0) 19)) (aW .u32 (x1.getD (k1-2) 0) 10)))
abbrev Qk (bl:List Int) (k0:Nat):Int:=jQ .u32 (jQ .u32 (jQ .u32 (cD .u32 (IntKind.u32.wrap (bl.getD (4*k0) 0)) 24) (cD .u32 (IntKind.u32.wrap (bl.getD (4*k0+1) 0)) 16)) (cD .u32 (IntKind.u32.wrap (bl.getD (4*k0+2) 0)) 8)) (IntKind.u32.wrap (bl.getD (4*k0+3) 0))
abbrev Mn:Array Value:=OH
abbrev Bf:Array Value:=vz
theorem zd {p:Prop}(h:p:=by first|omega|(simp only [List.length_set];omega)|(simp only [List.length_set,List.length_append,List.length_cons,List.length_nil];omega)|(simp only [ud];omega)):p:=h
theorem Dh s bl (hs8:s.length=8) (hb:bl.length=64) (hs:St w0 L w):Cs Tryz.prog 170 #[.agg (aA aY s),.agg (aA aD bl)] w λrv w'=>rv=.agg (aA aY (Be s bl))/\St w0 L w':=by
 refine dF Tryz.func170 Tryz.ntmps170 (En (Ls (Lg [0,1,2] (Dz (mT (aA aY s) hs λb1 w2 c9=>Lo (Dz (mT (aA aD bl) c9 λb4 w5 d1=>Lo (Dz (tW Bf d1 λb7 w8 d2=>Lo (Ld (Lt (Ls (Lg [0] (Dz (tW Mn d2 λa0 d3 d4=>Lo (Ld (Lt (Ls (Lq (Lb (Dz ?_)))))))))))))))))))))
 have d5:St w0 (aB a0 (aA aY (List.replicate 64 0)) 358::aB b7 Bf 306::aB b4 (aA aD bl) 308::aB b1 (aA aY s) 306::L) d3:=Eq.mp zk d4
 refine aX.loop (T:=Nat×(List Int)) (λgg=>[(2,zP b1 0),(3,zP b4 0),(4,zP b7 0),(5,zP a0 0),(6,.int .i64 (gg.1:Nat))]) (λgg w=>(gg.1<=16/\gg.2=iter (wo bl) gg.1 (List.replicate 64 0)/\gg.2.length=64)/\St w0 (aB a0 (aA aY gg.2) 358::aB b7 Bf 306::aB b4 (aA aD bl) 308::aB b1 (aA aY s) 306::L) w) (λgg=>16-gg.1) (0,(List.replicate 64 0)) [2,3,4,5,6] zk ⟨⟨Nat.le_of_ble_eq_true rfl,rfl,rfl⟩,d5⟩ ?_
 rintro⟨k0,x0⟩ f2 ⟨hpa,c0⟩
 dsimp only at hpa c0
 refine En (Ls (Lq (Dz (Zi ((k0:Int)<16) (λd6=>?_) (λd6=>?_)))))
 ·exact Zk (Zt (Zs (Zb (ZD (gE [0,1,2,3,4,5,6,7,8,9,10,11,12,13,14,15,16,17,18,19,20,21,22,23,24,25,26,27,28,29,30] (.ef 31 .done)) c0 λf3 a7 f4=>Zj (eT 2 (4*(k0:Nat)) (Hx 3 ((4*(k0:Nat)):Int) (64:Int) b4 0 1 (Hg 4 (.gen [.int .u8 (bl.getD (4*k0) 0)]) [.cell ⟨b4,0+((4*k0)*1),none⟩ (.int .u8 (bl.getD (4*k0) 0))] (bE (aC.cV (aG a7 2 rfl aF.size (0:Int)) (k:=(4*k0)) zd (j:=0) zb zk) aR) (Hg 6 (.shift (cD .u32 (IntKind.u32.wrap (bl.getD (4*k0) 0)) 24)) [.prop ((0:Int)<=24/\IntKind.u32.wrap ((IntKind.u32.wrap (bl.getD (4*k0) 0))*2 ^ (min (Int.toNat 24) (IntKind.bits .u32)))=cD .u32 (IntKind.u32.wrap (bl.getD (4*k0) 0)) 24)] (aJ ⟨(by first|omega|exact bK rfl _),rfl⟩ aR) (eT 8 (4*(k0:Nat)) (eT 9 ((4*(k0:Nat))+1) (Hx 10 (((4*(k0:Nat))+1):Int) (64:Int) b4 0 1 (Hg 11 (.gen [.int .u8 (bl.getD (4*k0+1) 0)]) [.cell ⟨b4,0+((4*k0+1)*1),none⟩ (.int .u8 (bl.getD (4*k0+1) 0))] (bE (aC.cV (aG a7 2 rfl aF.size (0:Int)) (k:=(4*k0+1)) zd (j:=0) zb zk) aR) (Hg 13 (.shift (cD .u32 (IntKind.u32.wrap (bl.getD (4*k0+1) 0)) 16)) [.prop ((0:Int)<=16/\IntKind.u32.wrap ((IntKind.u32.wrap (bl.getD (4*k0+1) 0))*2 ^ (min (Int.toNat 16) (IntKind.bits .u32)))=cD .u32 (IntKind.u32.wrap (bl.getD (4*k0+1) 0)) 16)] (aJ ⟨(by first|omega|exact bK rfl _),rfl⟩ aR) (eT 16 (4*(k0:Nat)) (eT 17 ((4*(k0:Nat))+2) (Hx 18 (((4*(k0:Nat))+2):Int) (64:Int) b4 0 1 (Hg 19 (.gen [.int .u8 (bl.getD (4*k0+2) 0)]) [.cell ⟨b4,0+((4*k0+2)*1),none⟩ (.int .u8 (bl.getD (4*k0+2) 0))] (bE (aC.cV (aG a7 2 rfl aF.size (0:Int)) (k:=(4*k0+2)) zd (j:=0) zb zk) aR) (Hg 21 (.shift (cD .u32 (IntKind.u32.wrap (bl.getD (4*k0+2) 0)) 8)) [.prop ((0:Int)<=8/\IntKind.u32.wrap ((IntKind.u32.wrap (bl.getD (4*k0+2) 0))*2 ^ (min (Int.toNat 8) (IntKind.bits .u32)))=cD .u32 (IntKind.u32.wrap (bl.getD (4*k0+2) 0)) 8)] (aJ ⟨(by first|omega|exact bK rfl _),rfl⟩ aR) (eT 24 (4*(k0:Nat)) (eT 25 ((4*(k0:Nat))+3) (Hx 26 (((4*(k0:Nat))+3):Int) (64:Int) b4 0 1 (Hg 27 (.gen [.int .u8 (bl.getD (4*k0+3) 0)]) [.cell ⟨b4,0+((4*k0+3)*1),none⟩ (.int .u8 (bl.getD (4*k0+3) 0))] (bE (aC.cV (aG a7 2 rfl aF.size (0:Int)) (k:=(4*k0+3)) zd (j:=0) zb zk) aR) (Hx 30 (k0:Int) (64:Int) a0 0 1 Hz))))))))))))))))))) (aL.store rfl rfl zk (b:=a0) (off:=0+(k0*1)) (v:=.int .u32 (Qk bl k0)) zk zk (ti:=Tryz.t305) zk a7 0 rfl zk zk (by rw [Nat.zero_add];exact gN (f:=aY) (size:=1) (l:=x0) (k:=k0) bB.size zd) (cs':=aA aY (wo bl k0 x0)) (L':=(aB a0 (aA aY (wo bl k0 x0)) 358)::aB b7 Bf 306::aB b4 (aA aD bl) 308::aB b1 (aA aY s) 306::L) (by rw [Nat.zero_add];exact fO (f:=aY) (size:=1) (l:=x0) (k:=k0) bB.size zd (Qk bl k0)) rfl λf5 d7=>Lo (Ld (Lm (Lt (Dz (dE (eT 1 ((k0:Nat)+1) Hz) (aS.back (k0+1,x0.set k0 (Qk bl k0)) [2,3,4,5,6] zk (by show 16-(k0+1)<16-k0;omega) ⟨⟨za,by rw [dW,<- hpa.2.1];rfl,by first|rfl|(simp only [List.length_set];omega)⟩,d7⟩)))))))))))
 ·refine En (Lx (mM (mN (Lh (Lt (Ls (Lq (Lb (Dz (aX.loop (T:=Nat×(List Int)) (λgg=>[(2,zP b1 0),(4,zP b7 0),(5,zP a0 0),(7,.int .i64 (gg.1:Nat))]) (λgg w=>(16<=gg.1/\gg.1<=64/\gg.2=iter (λn=>pE (n+16)) (gg.1-16) (rJ bl)/\gg.2.length=64)/\St w0 (aB a0 (aA aY gg.2) 358::aB b7 Bf 306::aB b4 (aA aD bl) 308::aB b1 (aA aY s) 306::L) w) (λgg=>64-gg.1) (16,x0) [2,4,5,7] zk ⟨⟨Nat.le_refl _,Nat.le_of_ble_eq_true rfl,(by rw [Nat.sub_self,yY,hpa.2.1,show k0=16 by omega];rfl),zm⟩,c0⟩ ?_))))))))))
  rintro⟨u,x1⟩ f6 ⟨hpb,b3⟩
  dsimp only at hpb b3
  refine En (Ls (Lq (Dz (Zi ((u:Int)<64) (λd8=>?_) (λd8=>?_)))))
  ·exact Zk (Zt (Zs (Zb (Zs (ZD (gE [0,1,2,3,5,6,7,8,11,12,13,14,15] (.ef 4 (.ef 9 (gE [10,16,17] .done)))) b3 λf7 b5 f8=>Zj (Hg 1 (.dH (.int .i64 (u-15:Nat)) (.gen [])) [.prop (Value.int .i64 (IntKind.i64.wrap ((u:Nat)-15))=Value.int .i64 (u-15:Nat))] (aJ (ct za za za) aR) (Hx 2 ((u-15:Nat):Int) (64:Int) a0 0 1 (Hg 3 (.gen [.int .u32 (x1.getD (u-15) 0)]) [.cell ⟨a0,0+((u-15)*1),none⟩ (.int .u32 (x1.getD (u-15) 0))] (bE (aC.cV (aG b5 0 rfl bB.size (0:Int)) (k:=(u-15)) zd (j:=0) zb zk) aR) (Hg 6 (.dH (.int .i64 (u-15:Nat)) (.gen [])) [.prop (Value.int .i64 (IntKind.i64.wrap ((u:Nat)-15))=Value.int .i64 (u-15:Nat))] (aJ (ct za za za) aR) (Hx 7 ((u-15:Nat):Int) (64:Int) a0 0 1 (Hg 8 (.gen [.int .u32 (x1.getD (u-15) 0)]) [.cell ⟨a0,0+((u-15)*1),none⟩ (.int .u32 (x1.getD (u-15) 0))] (bE (aC.cV (aG b5 0 rfl bB.size (0:Int)) (k:=(u-15)) zd (j:=0) zb zk) aR) (Hg 12 (.dH (.int .i64 (u-15:Nat)) (.gen [])) [.prop (Value.int .i64 (IntKind.i64.wrap ((u:Nat)-15))=Value.int .i64 (u-15:Nat))] (aJ (ct za za za) aR) (Hx 13 ((u-15:Nat):Int) (64:Int) a0 0 1 (Hg 14 (.gen [.int .u32 (x1.getD (u-15) 0)]) [.cell ⟨a0,0+((u-15)*1),none⟩ (.int .u32 (x1.getD (u-15) 0))] (bE (aC.cV (aG b5 0 rfl bB.size (0:Int)) (k:=(u-15)) zd (j:=0) zb zk) aR) (Hg 15 (.shift (aW .u32 (x1.getD (u-15) 0) 3)) [.prop ((0:Int)<=3/\Int.fdiv (x1.getD (u-15) 0) (2 ^ (min (Int.toNat 3) (IntKind.bits .u32)))=aW .u32 (x1.getD (u-15) 0) 3)] (aJ ⟨(by first|omega|exact bK rfl _),rfl⟩ aR) Hz)))))))))) (CH (gV (x1.getD (u-15) 0) 7 zb b5) λg0 c1=>⟨gR (n:=[.prop ((0:Int)<=3/\Int.fdiv (x1.getD (u-15) 0) (2 ^ (min (Int.toNat 3) (IntKind.bits .u32)))=aW .u32 (x1.getD (u-15) 0) 3),.cell ⟨a0,0+((u-15)*1),none⟩ (.int .u32 (x1.getD (u-15) 0)),.prop (0<=((u-15:Nat):Int)/\((u-15:Nat):Int)<(64:Int)),.prop (Value.pointer (some (Addr.add ⟨a0,0,none⟩ (Int.toNat (u-15:Nat)*1)))=Value.pointer (some ⟨a0,0+((u-15)*1),none⟩)),.prop (Value.int .i64 (IntKind.i64.wrap ((u:Nat)-15))=Value.int .i64 (u-15:Nat)),.cell ⟨a0,0+((u-15)*1),none⟩ (.int .u32 (x1.getD (u-15) 0)),.prop (0<=((u-15:Nat):Int)/\((u-15:Nat):Int)<(64:Int)),.prop (Value.pointer (some (Addr.add ⟨a0,0,none⟩ (Int.toNat (u-15:Nat)*1)))=Value.pointer (some ⟨a0,0+((u-15)*1),none⟩)),.prop (Value.int .i64 (IntKind.i64.wrap ((u:Nat)-15))=Value.int .i64 (u-15:Nat))]) zk (aJ ⟨(by first|omega|exact bK rfl _),rfl⟩ (bE (aC.cV (aG c1 0 rfl bB.size (0:Int)) (k:=(u-15)) zd (j:=0) zb zk) (aJ za (aJ (aU _ _ _) (aJ (ct za za za) (bE (aC.cV (aG c1 0 rfl bB.size (0:Int)) (k:=(u-15)) zd (j:=0) zb zk) (aJ za (aJ (aU _ _ _) (aJ (ct za za za) aR))))))))),(CH (gV (x1.getD (u-15) 0) 18 zb c1) λg9 c5=>⟨gR (n:=[.prop ((0:Int)<=3/\Int.fdiv (x1.getD (u-15) 0) (2 ^ (min (Int.toNat 3) (IntKind.bits .u32)))=aW .u32 (x1.getD (u-15) 0) 3),.cell ⟨a0,0+((u-15)*1),none⟩ (.int .u32 (x1.getD (u-15) 0)),.prop (0<=((u-15:Nat):Int)/\((u-15:Nat):Int)<(64:Int)),.prop (Value.pointer (some (Addr.add ⟨a0,0,none⟩ (Int.toNat (u-15:Nat)*1)))=Value.pointer (some ⟨a0,0+((u-15)*1),none⟩)),.prop (Value.int .i64 (IntKind.i64.wrap ((u:Nat)-15))=Value.int .i64 (u-15:Nat))]) zk (aJ ⟨(by first|omega|exact bK rfl _),rfl⟩ (bE (aC.cV (aG c5 0 rfl bB.size (0:Int)) (k:=(u-15)) zd (j:=0) zb zk) (aJ za (aJ (aU _ _ _) (aJ (ct za za za) aR))))),En (cI (Lt (Ls (Dz (ZD (gE [0,1,2,3,5,6,7,8,11,12,13,14,15] (.ef 4 (.ef 9 (gE [10,16,17] .done)))) c5 λh1 b6 h2=>Zj (Hg 1 (.dH (.int .i64 (u-2:Nat)) (.gen [])) [.prop (Value.int .i64 (IntKind.i64.wrap ((u:Nat)-2))=Value.int .i64 (u-2:Nat))] (aJ (ct za za za) aR) (Hx 2 ((u-2:Nat):Int) (64:Int) a0 0 1 (Hg 3 (.gen [.int .u32 (x1.getD (u-2) 0)]) [.cell ⟨a0,0+((u-2)*1),none⟩ (.int .u32 (x1.getD (u-2) 0))] (bE (aC.cV (aG b6 0 rfl bB.size (0:Int)) (k:=(u-2)) zd (j:=0) zb zk) aR) (Hg 6 (.dH (.int .i64 (u-2:Nat)) (.gen [])) [.prop (Value.int .i64 (IntKind.i64.wrap ((u:Nat)-2))=Value.int .i64 (u-2:Nat))] (aJ (ct za za za) aR) (Hx 7 ((u-2:Nat):Int) (64:Int) a0 0 1 (Hg 8 (.gen [.int .u32 (x1.getD (u-2) 0)]) [.cell ⟨a0,0+((u-2)*1),none⟩ (.int .u32 (x1.getD (u-2) 0))] (bE (aC.cV (aG b6 0 rfl bB.size (0:Int)) (k:=(u-2)) zd (j:=0) zb zk) aR) (Hg 12 (.dH (.int .i64 (u-2:Nat)) (.gen [])) [.prop (Value.int .i64 (IntKind.i64.wrap ((u:Nat)-2))=Value.int .i64 (u-2:Nat))] (aJ (ct za za za) aR) (Hx 13 ((u-2:Nat):Int) (64:Int) a0 0 1 (Hg 14 (.gen [.int .u32 (x1.getD (u-2) 0)]) [.cell ⟨a0,0+((u-2)*1),none⟩ (.int .u32 (x1.getD (u-2) 0))] (bE (aC.cV (aG b6 0 rfl bB.size (0:Int)) (k:=(u-2)) zd (j:=0) zb zk) aR) (Hg 15 (.shift (aW .u32 (x1.getD (u-2) 0) 10)) [.prop ((0:Int)<=10/\Int.fdiv (x1.getD (u-2) 0) (2 ^ (min (Int.toNat 10) (IntKind.bits .u32)))=aW .u32 (x1.getD (u-2) 0) 10)] (aJ ⟨(by first|omega|exact bK rfl _),rfl⟩ aR) Hz)))))))))) (CH (gV (x1.getD (u-2) 0) 17 zb b6) λh4 c2=>⟨gR (n:=[.prop ((0:Int)<=10/\Int.fdiv (x1.getD (u-2) 0) (2 ^ (min (Int.toNat 10) (IntKind.bits .u32)))=aW .u32 (x1.getD (u-2) 0) 10),.cell ⟨a0,0+((u-2)*1),none⟩ (.int .u32 (x1.getD (u-2) 0)),.prop (0<=((u-2:Nat):Int)/\((u-2:Nat):Int)<(64:Int)),.prop (Value.pointer (some (Addr.add ⟨a0,0,none⟩ (Int.toNat (u-2:Nat)*1)))=Value.pointer (some ⟨a0,0+((u-2)*1),none⟩)),.prop (Value.int .i64 (IntKind.i64.wrap ((u:Nat)-2))=Value.int .i64 (u-2:Nat)),.cell ⟨a0,0+((u-2)*1),none⟩ (.int .u32 (x1.getD (u-2) 0)),.prop (0<=((u-2:Nat):Int)/\((u-2:Nat):Int)<(64:Int)),.prop (Value.pointer (some (Addr.add ⟨a0,0,none⟩ (Int.toNat (u-2:Nat)*1)))=Value.pointer (some ⟨a0,0+((u-2)*1),none⟩)),.prop (Value.int .i64 (IntKind.i64.wrap ((u:Nat)-2))=Value.int .i64 (u-2:Nat))]) zk (aJ ⟨(by first|omega|exact bK rfl _),rfl⟩ (bE (aC.cV (aG c2 0 rfl bB.size (0:Int)) (k:=(u-2)) zd (j:=0) zb zk) (aJ za (aJ (aU _ _ _) (aJ (ct za za za) (bE (aC.cV (aG c2 0 rfl bB.size (0:Int)) (k:=(u-2)) zd (j:=0) zb zk) (aJ za (aJ (aU _ _ _) (aJ (ct za za za) aR))))))))),(CH (gV (x1.getD (u-2) 0) 19 zb c2) λh6 c6=>⟨gR (n:=[.prop ((0:Int)<=10/\Int.fdiv (x1.getD (u-2) 0) (2 ^ (min (Int.toNat 10) (IntKind.bits .u32)))=aW .u32 (x1.getD (u-2) 0) 10),.cell ⟨a0,0+((u-2)*1),none⟩ (.int .u32 (x1.getD (u-2) 0)),.prop (0<=((u-2:Nat):Int)/\((u-2:Nat):Int)<(64:Int)),.prop (Value.pointer (some (Addr.add ⟨a0,0,none⟩ (Int.toNat (u-2:Nat)*1)))=Value.pointer (some ⟨a0,0+((u-2)*1),none⟩)),.prop (Value.int .i64 (IntKind.i64.wrap ((u:Nat)-2))=Value.int .i64 (u-2:Nat))]) zk (aJ ⟨(by first|omega|exact bK rfl _),rfl⟩ (bE (aC.cV (aG c6 0 rfl bB.size (0:Int)) (k:=(u-2)) zd (j:=0) zb zk) (aJ za (aJ (aU _ _ _) (aJ (ct za za za) aR))))),En (cI (Lt (Dz (ZD (gE [0,1,2,3,4,5,6,7,8,9,10,11,12,13,14] (.ef 15 .done)) c6 λh7 c3 h8=>Zj (Hg 2 (.dH (.int .i64 (u-16:Nat)) (.gen [])) [.prop (Value.int .i64 (IntKind.i64.wrap ((u:Nat)-16))=Value.int .i64 (u-16:Nat))] (aJ (ct za za za) aR) (Hx 3 ((u-16:Nat):Int) (64:Int) a0 0 1 (Hg 4 (.gen [.int .u32 (x1.getD (u-16) 0)]) [.cell ⟨a0,0+((u-16)*1),none⟩ (.int .u32 (x1.getD (u-16) 0))] (bE (aC.cV (aG c3 0 rfl bB.size (0:Int)) (k:=(u-16)) zd (j:=0) zb zk) aR) (Hg 8 (.dH (.int .i64 (u-7:Nat)) (.gen [])) [.prop (Value.int .i64 (IntKind.i64.wrap ((u:Nat)-7))=Value.int .i64 (u-7:Nat))] (aJ (ct za za za) aR) (Hx 9 ((u-7:Nat):Int) (64:Int) a0 0 1 (Hg 10 (.gen [.int .u32 (x1.getD (u-7) 0)]) [.cell ⟨a0,0+((u-7)*1),none⟩ (.int .u32 (x1.getD (u-7) 0))] (bE (aC.cV (aG c3 0 rfl bB.size (0:Int)) (k:=(u-7)) zd (j:=0) zb zk) aR) (Hx 14 (u:Int) (64:Int) a0 0 1 Hz))))))) (aL.store rfl rfl zk (b:=a0) (off:=0+(u*1)) (v:=.int .u32 (Qj u x1)) zk zk (ti:=Tryz.t305) zk c3 0 rfl zk zk (by rw [Nat.zero_add];exact gN (f:=aY) (size:=1) (l:=x1) (k:=u) bB.size zd) (cs':=aA aY (pE u x1)) (L':=(aB a0 (aA aY (pE u x1)) 358)::aB b7 Bf 306::aB b4 (aA aD bl) 308::aB b1 (aA aY s) 306::L) (by rw [Nat.zero_add];exact fO (f:=aY) (size:=1) (l:=x1) (k:=u) bB.size zd (Qj u x1)) rfl λh9 d9=>Lo (Ld (Lm (Lt (Dz (dE (eT 1 ((u:Nat)+1) Hz) (aS.back (u+1,x1.set u (Qj u x1)) [2,4,5,7] zk (by show 64-(u+1)<64-u;omega) ⟨⟨za,za,by rw [show u+1-16=(u-16)+1 by omega,dW,<- hpb.2.2.1,show u-16+16=u by omega];rfl,by first|rfl|(simp only [List.length_set];omega)⟩,d9⟩)))))))))))⟩)⟩))))))⟩)⟩))))))
  ·refine Zx (aS.eQ (aS.eR (aS.kI (Zt (Zs (dZ [1,2] (Hg 0 (.agg (aA aY s)) [.prop (Array.size (aA aY s)=8),.cells ⟨b1,0,none⟩ (aA aY s)] (aJ (bS bB (show(s).length=8 from zm) rfl) (iN (b3.cells 3 0 rfl zw) aR)) Hz) (tW Bf b3 λz i0 e0=>Lo (Dz (aL.store rfl rfl zk (b:=z) (off:=0) (v:=.agg (aA aY s)) zk zk (ti:=Tryz.t306) zk e0 0 rfl (cR bB (show(s).length=8 from zm) zk) (eO bB) (eC bB (show(s).length=8 from zm) zk) (cs':=aA aY s) (L':=(aB z (aA aY s) 306)::aB a0 (aA aY x1) 358::aB b7 Bf 306::aB b4 (aA aD bl) 308::aB b1 (aA aY s) 306::L) (fA bB (show(s).length=8 from zm) zk) rfl λi1 e1=>Lo (Ld (Lt (Ls (Lg [0,1,2] (Dz (CH (Mm e1) λi3 e2=>Lo (Dz (tW Mn e2 λa1 i4 e3=>Lo (Dz (Zu 0 0 NC e3 λe4 e5=>Lo (Ld (Lt (Ls (Lq (Lb (Dz ?_)))))))))))))))))))))))))
   have e6:St w0 (aB a1 (aA aY shaT) 358::aB z (aA aY s) 306::aB a0 (aA aY x1) 358::aB b7 Bf 306::aB b4 (aA aD bl) 308::aB b1 (aA aY s) 306::L) e4:=Eq.mp zk e5
   refine aX.loop (T:=Nat×(List Int)) (λgg=>[(2,zP b1 0),(4,zP b7 0),(5,zP a0 0),(10,zP z 0),(11,zP a1 0),(12,.int .i64 (gg.1:Nat))]) (λgg w=>(gg.1<=64/\gg.2=iter (nJ x1) gg.1 s/\gg.2.length=8)/\St w0 (aB a1 (aA aY shaT) 358::aB z (aA aY gg.2) 306::aB a0 (aA aY x1) 358::aB b7 Bf 306::aB b4 (aA aD bl) 308::aB b1 (aA aY s) 306::L) w) (λgg=>64-gg.1) (0,s) [2,4,5,10,11,12] zk ⟨⟨Nat.le_of_ble_eq_true rfl,rfl,zm⟩,e6⟩ ?_
   rintro⟨k2,x2⟩ i5 ⟨hpc,a8⟩
   dsimp only at hpc a8
   refine En (Ls (Lq (Dz (Zi ((k2:Int)<64) (λe7=>?_) (λe7=>?_)))))
   ·exact Zk (Zt (Zs (Zb (Zs (dE (Hx 0 (4:Int) (8:Int) z 0 1 (Hg 1 (.gen [.int .u32 (x2.getD 4 0)]) [.cell ⟨z,4,none⟩ (.int .u32 (x2.getD 4 0))] (bE (aC.cV (aG a8 1 rfl bB.size (0:Int)) (k:=4) zd (j:=0) zb zk) aR) Hz)) (Zt (Zs (dE (Hx 0 (0:Int) (8:Int) z 0 1 (Hg 1 (.gen [.int .u32 (x2.getD 0 0)]) [.cell ⟨z,0,none⟩ (.int .u32 (x2.getD 0 0))] (bE (aC.cV (aG a8 1 rfl bB.size (0:Int)) (k:=0) zd (j:=0) zb zk) aR) Hz)) (Zt (Zs (ZD (gE [0,1,2,4,7,11,12,13,14,15,16,17,18,19,20,22,23,24,26,27,28] (.ef 3 (.ef 5 (.rd 6 (.ef 8 (gE [9,10,21,25,29,30] .done)))))) a8 λi6 a3 i7=>Zj (Hx 0 (7:Int) (8:Int) z 0 1 (Hg 1 (.gen [.int .u32 (x2.getD 7 0)]) [.cell ⟨z,7,none⟩ (.int .u32 (x2.getD 7 0))] (bE (aC.cV (aG a3 1 rfl bB.size (0:Int)) (k:=7) zd (j:=0) zb zk) aR) (Hx 12 (5:Int) (8:Int) z 0 1 (Hg 13 (.gen [.int .u32 (x2.getD 5 0)]) [.cell ⟨z,5,none⟩ (.int .u32 (x2.getD 5 0))] (bE (aC.cV (aG a3 1 rfl bB.size (0:Int)) (k:=5) zd (j:=0) zb zk) aR) (Hx 17 (6:Int) (8:Int) z 0 1 (Hg 18 (.gen [.int .u32 (x2.getD 6 0)]) [.cell ⟨z,6,none⟩ (.int .u32 (x2.getD 6 0))] (bE (aC.cV (aG a3 1 rfl bB.size (0:Int)) (k:=6) zd (j:=0) zb zk) aR) (Hx 23 (k2:Int) (64:Int) a1 0 1 (Hg 24 (.gen [.int .u32 (shaT.getD k2 0)]) [.cell ⟨a1,0+(k2*1),none⟩ (.int .u32 (shaT.getD k2 0))] (bE (aC.cV (aG a3 0 rfl bB.size (0:Int)) (k:=k2) zd (j:=0) zb zk) aR) (Hx 27 (k2:Int) (64:Int) a0 0 1 (Hg 28 (.gen [.int .u32 (x1.getD k2 0)]) [.cell ⟨a0,0+(k2*1),none⟩ (.int .u32 (x1.getD k2 0))] (bE (aC.cV (aG a3 2 rfl bB.size (0:Int)) (k:=k2) zd (j:=0) zb zk) aR) Hz)))))))))) (CH (gV (x2.getD 4 0) 6 zb a3) λi9 a4=>⟨gR (n:=[.cell ⟨a0,0+(k2*1),none⟩ (.int .u32 (x1.getD k2 0)),.prop (0<=(k2:Int)/\(k2:Int)<(64:Int)),.prop (Value.pointer (some (Addr.add ⟨a0,0,none⟩ (Int.toNat (k2:Nat)*1)))=Value.pointer (some ⟨a0,0+(k2*1),none⟩)),.cell ⟨a1,0+(k2*1),none⟩ (.int .u32 (shaT.getD k2 0)),.prop (0<=(k2:Int)/\(k2:Int)<(64:Int)),.prop (Value.pointer (some (Addr.add ⟨a1,0,none⟩ (Int.toNat (k2:Nat)*1)))=Value.pointer (some ⟨a1,0+(k2*1),none⟩)),.cell ⟨z,6,none⟩ (.int .u32 (x2.getD 6 0)),.prop (0<=(6:Int)/\(6:Int)<(8:Int)),.prop (Value.pointer (some (Addr.add ⟨z,0,none⟩ (Int.toNat 6*1)))=Value.pointer (some ⟨z,6,none⟩)),.cell ⟨z,5,none⟩ (.int .u32 (x2.getD 5 0)),.prop (0<=(5:Int)/\(5:Int)<(8:Int)),.prop (Value.pointer (some (Addr.add ⟨z,0,none⟩ (Int.toNat 5*1)))=Value.pointer (some ⟨z,5,none⟩)),.cell ⟨z,7,none⟩ (.int .u32 (x2.getD 7 0)),.prop (0<=(7:Int)/\(7:Int)<(8:Int)),.prop (Value.pointer (some (Addr.add ⟨z,0,none⟩ (Int.toNat 7*1)))=Value.pointer (some ⟨z,7,none⟩))]) zk (bE (aC.cV (aG a4 2 rfl bB.size (0:Int)) (k:=k2) zd (j:=0) zb zk) (aJ za (aJ (aU _ _ _) (bE (aC.cV (aG a4 0 rfl bB.size (0:Int)) (k:=k2) zd (j:=0) zb zk) (aJ za (aJ (aU _ _ _) (bE (aC.cV (aG a4 1 rfl bB.size (0:Int)) (k:=6) zd (j:=0) zb zk) (aJ za (aJ (aU _ _ _) (bE (aC.cV (aG a4 1 rfl bB.size (0:Int)) (k:=5) zd (j:=0) zb zk) (aJ za (aJ (aU _ _ _) (bE (aC.cV (aG a4 1 rfl bB.size (0:Int)) (k:=7) zd (j:=0) zb zk) (aJ za (aJ (aU _ _ _) aR))))))))))))))),(CH (gV (x2.getD 4 0) 11 zb a4) λj1 a5=>⟨gR (n:=[.cell ⟨a0,0+(k2*1),none⟩ (.int .u32 (x1.getD k2 0)),.prop (0<=(k2:Int)/\(k2:Int)<(64:Int)),.prop (Value.pointer (some (Addr.add ⟨a0,0,none⟩ (Int.toNat (k2:Nat)*1)))=Value.pointer (some ⟨a0,0+(k2*1),none⟩)),.cell ⟨a1,0+(k2*1),none⟩ (.int .u32 (shaT.getD k2 0)),.prop (0<=(k2:Int)/\(k2:Int)<(64:Int)),.prop (Value.pointer (some (Addr.add ⟨a1,0,none⟩ (Int.toNat (k2:Nat)*1)))=Value.pointer (some ⟨a1,0+(k2*1),none⟩)),.cell ⟨z,6,none⟩ (.int .u32 (x2.getD 6 0)),.prop (0<=(6:Int)/\(6:Int)<(8:Int)),.prop (Value.pointer (some (Addr.add ⟨z,0,none⟩ (Int.toNat 6*1)))=Value.pointer (some ⟨z,6,none⟩)),.cell ⟨z,5,none⟩ (.int .u32 (x2.getD 5 0)),.prop (0<=(5:Int)/\(5:Int)<(8:Int)),.prop (Value.pointer (some (Addr.add ⟨z,0,none⟩ (Int.toNat 5*1)))=Value.pointer (some ⟨z,5,none⟩)),.cell ⟨z,7,none⟩ (.int .u32 (x2.getD 7 0)),.prop (0<=(7:Int)/\(7:Int)<(8:Int)),.prop (Value.pointer (some (Addr.add ⟨z,0,none⟩ (Int.toNat 7*1)))=Value.pointer (some ⟨z,7,none⟩))]) zk (bE (aC.cV (aG a5 2 rfl bB.size (0:Int)) (k:=k2) zd (j:=0) zb zk) (aJ za (aJ (aU _ _ _) (bE (aC.cV (aG a5 0 rfl bB.size (0:Int)) (k:=k2) zd (j:=0) zb zk) (aJ za (aJ (aU _ _ _) (bE (aC.cV (aG a5 1 rfl bB.size (0:Int)) (k:=6) zd (j:=0) zb zk) (aJ za (aJ (aU _ _ _) (bE (aC.cV (aG a5 1 rfl bB.size (0:Int)) (k:=5) zd (j:=0) zb zk) (aJ za (aJ (aU _ _ _) (bE (aC.cV (aG a5 1 rfl bB.size (0:Int)) (k:=7) zd (j:=0) zb zk) (aJ za (aJ (aU _ _ _) aR))))))))))))))),En (Lw (CH (gV (x2.getD 4 0) 25 zb a5) λj3 a6=>⟨gR (n:=[.cell ⟨a0,0+(k2*1),none⟩ (.int .u32 (x1.getD k2 0)),.prop (0<=(k2:Int)/\(k2:Int)<(64:Int)),.prop (Value.pointer (some (Addr.add ⟨a0,0,none⟩ (Int.toNat (k2:Nat)*1)))=Value.pointer (some ⟨a0,0+(k2*1),none⟩)),.cell ⟨a1,0+(k2*1),none⟩ (.int .u32 (shaT.getD k2 0)),.prop (0<=(k2:Int)/\(k2:Int)<(64:Int)),.prop (Value.pointer (some (Addr.add ⟨a1,0,none⟩ (Int.toNat (k2:Nat)*1)))=Value.pointer (some ⟨a1,0+(k2*1),none⟩)),.cell ⟨z,6,none⟩ (.int .u32 (x2.getD 6 0)),.prop (0<=(6:Int)/\(6:Int)<(8:Int)),.prop (Value.pointer (some (Addr.add ⟨z,0,none⟩ (Int.toNat 6*1)))=Value.pointer (some ⟨z,6,none⟩)),.cell ⟨z,5,none⟩ (.int .u32 (x2.getD 5 0)),.prop (0<=(5:Int)/\(5:Int)<(8:Int)),.prop (Value.pointer (some (Addr.add ⟨z,0,none⟩ (Int.toNat 5*1)))=Value.pointer (some ⟨z,5,none⟩)),.cell ⟨z,7,none⟩ (.int .u32 (x2.getD 7 0)),.prop (0<=(7:Int)/\(7:Int)<(8:Int)),.prop (Value.pointer (some (Addr.add ⟨z,0,none⟩ (Int.toNat 7*1)))=Value.pointer (some ⟨z,7,none⟩))]) zk (bE (aC.cV (aG a6 2 rfl bB.size (0:Int)) (k:=k2) zd (j:=0) zb zk) (aJ za (aJ (aU _ _ _) (bE (aC.cV (aG a6 0 rfl bB.size (0:Int)) (k:=k2) zd (j:=0) zb zk) (aJ za (aJ (aU _ _ _) (bE (aC.cV (aG a6 1 rfl bB.size (0:Int)) (k:=6) zd (j:=0) zb zk) (aJ za (aJ (aU _ _ _) (bE (aC.cV (aG a6 1 rfl bB.size (0:Int)) (k:=5) zd (j:=0) zb zk) (aJ za (aJ (aU _ _ _) (bE (aC.cV (aG a6 1 rfl bB.size (0:Int)) (k:=7) zd (j:=0) zb zk) (aJ za (aJ (aU _ _ _) aR))))))))))))))),En (cI (Lt (Ls (Dz (ZD (gE [0,2,5,8,9,10,11,12,13,14,15,16,17,18,19,20,21,22] (.ef 1 (.ef 3 (.rd 4 (.ef 6 (gE [7,23,24] .done)))))) a6 λj4 a9 j5=>Zj (Hx 9 (1:Int) (8:Int) z 0 1 (Hg 10 (.gen [.int .u32 (x2.getD 1 0)]) [.cell ⟨z,1,none⟩ (.int .u32 (x2.getD 1 0))] (bE (aC.cV (aG a9 1 rfl bB.size (0:Int)) (k:=1) zd (j:=0) zb zk) aR) (Hx 13 (2:Int) (8:Int) z 0 1 (Hg 14 (.gen [.int .u32 (x2.getD 2 0)]) [.cell ⟨z,2,none⟩ (.int .u32 (x2.getD 2 0))] (bE (aC.cV (aG a9 1 rfl bB.size (0:Int)) (k:=2) zd (j:=0) zb zk) aR) (Hx 17 (1:Int) (8:Int) z 0 1 (Hg 18 (.gen [.int .u32 (x2.getD 1 0)]) [.cell ⟨z,1,none⟩ (.int .u32 (x2.getD 1 0))] (bE (aC.cV (aG a9 1 rfl bB.size (0:Int)) (k:=1) zd (j:=0) zb zk) aR) (Hx 19 (2:Int) (8:Int) z 0 1 (Hg 20 (.gen [.int .u32 (x2.getD 2 0)]) [.cell ⟨z,2,none⟩ (.int .u32 (x2.getD 2 0))] (bE (aC.cV (aG a9 1 rfl bB.size (0:Int)) (k:=2) zd (j:=0) zb zk) aR) Hz)))))))) (CH (gV (x2.getD 0 0) 2 zb a9) λj7 b0=>⟨gR (n:=[.cell ⟨z,2,none⟩ (.int .u32 (x2.getD 2 0)),.prop (0<=(2:Int)/\(2:Int)<(8:Int)),.prop (Value.pointer (some (Addr.add ⟨z,0,none⟩ (Int.toNat 2*1)))=Value.pointer (some ⟨z,2,none⟩)),.cell ⟨z,1,none⟩ (.int .u32 (x2.getD 1 0)),.prop (0<=(1:Int)/\(1:Int)<(8:Int)),.prop (Value.pointer (some (Addr.add ⟨z,0,none⟩ (Int.toNat 1*1)))=Value.pointer (some ⟨z,1,none⟩)),.cell ⟨z,2,none⟩ (.int .u32 (x2.getD 2 0)),.prop (0<=(2:Int)/\(2:Int)<(8:Int)),.prop (Value.pointer (some (Addr.add ⟨z,0,none⟩ (Int.toNat 2*1)))=Value.pointer (some ⟨z,2,none⟩)),.cell ⟨z,1,none⟩ (.int .u32 (x2.getD 1 0)),.prop (0<=(1:Int)/\(1:Int)<(8:Int)),.prop (Value.pointer (some (Addr.add ⟨z,0,none⟩ (Int.toNat 1*1)))=Value.pointer (some ⟨z,1,none⟩))]) zk (bE (aC.cV (aG b0 1 rfl bB.size (0:Int)) (k:=2) zd (j:=0) zb zk) (aJ za (aJ (aU _ _ _) (bE (aC.cV (aG b0 1 rfl bB.size (0:Int)) (k:=1) zd (j:=0) zb zk) (aJ za (aJ (aU _ _ _) (bE (aC.cV (aG b0 1 rfl bB.size (0:Int)) (k:=2) zd (j:=0) zb zk) (aJ za (aJ (aU _ _ _) (bE (aC.cV (aG b0 1 rfl bB.size (0:Int)) (k:=1) zd (j:=0) zb zk) (aJ za (aJ (aU _ _ _) aR)))))))))))),(CH (gV (x2.getD 0 0) 13 zb b0) λj9 b2=>⟨gR (n:=[.cell ⟨z,2,none⟩ (.int .u32 (x2.getD 2 0)),.prop (0<=(2:Int)/\(2:Int)<(8:Int)),.prop (Value.pointer (some (Addr.add ⟨z,0,none⟩ (Int.toNat 2*1)))=Value.pointer (some ⟨z,2,none⟩)),.cell ⟨z,1,none⟩ (.int .u32 (x2.getD 1 0)),.prop (0<=(1:Int)/\(1:Int)<(8:Int)),.prop (Value.pointer (some (Addr.add ⟨z,0,none⟩ (Int.toNat 1*1)))=Value.pointer (some ⟨z,1,none⟩)),.cell ⟨z,2,none⟩ (.int .u32 (x2.getD 2 0)),.prop (0<=(2:Int)/\(2:Int)<(8:Int)),.prop (Value.pointer (some (Addr.add ⟨z,0,none⟩ (Int.toNat 2*1)))=Value.pointer (some ⟨z,2,none⟩)),.cell ⟨z,1,none⟩ (.int .u32 (x2.getD 1 0)),.prop (0<=(1:Int)/\(1:Int)<(8:Int)),.prop (Value.pointer (some (Addr.add ⟨z,0,none⟩ (Int.toNat 1*1)))=Value.pointer (some ⟨z,1,none⟩))]) zk (bE (aC.cV (aG b2 1 rfl bB.size (0:Int)) (k:=2) zd (j:=0) zb zk) (aJ za (aJ (aU _ _ _) (bE (aC.cV (aG b2 1 rfl bB.size (0:Int)) (k:=1) zd (j:=0) zb zk) (aJ za (aJ (aU _ _ _) (bE (aC.cV (aG b2 1 rfl bB.size (0:Int)) (k:=2) zd (j:=0) zb zk) (aJ za (aJ (aU _ _ _) (bE (aC.cV (aG b2 1 rfl bB.size (0:Int)) (k:=1) zd (j:=0) zb zk) (aJ za (aJ (aU _ _ _) aR)))))))))))),En (Lw (CH (gV (x2.getD 0 0) 22 zb b2) λk5 a2=>⟨gR (n:=[.cell ⟨z,2,none⟩ (.int .u32 (x2.getD 2 0)),.prop (0<=(2:Int)/\(2:Int)<(8:Int)),.prop (Value.pointer (some (Addr.add ⟨z,0,none⟩ (Int.toNat 2*1)))=Value.pointer (some ⟨z,2,none⟩)),.cell ⟨z,1,none⟩ (.int .u32 (x2.getD 1 0)),.prop (0<=(1:Int)/\(1:Int)<(8:Int)),.prop (Value.pointer (some (Addr.add ⟨z,0,none⟩ (Int.toNat 1*1)))=Value.pointer (some ⟨z,1,none⟩)),.cell ⟨z,2,none⟩ (.int .u32 (x2.getD 2 0)),.prop (0<=(2:Int)/\(2:Int)<(8:Int)),.prop (Value.pointer (some (Addr.add ⟨z,0,none⟩ (Int.toNat 2*1)))=Value.pointer (some ⟨z,2,none⟩)),.cell ⟨z,1,none⟩ (.int .u32 (x2.getD 1 0)),.prop (0<=(1:Int)/\(1:Int)<(8:Int)),.prop (Value.pointer (some (Addr.add ⟨z,0,none⟩ (Int.toNat 1*1)))=Value.pointer (some ⟨z,1,none⟩))]) zk (bE (aC.cV (aG a2 1 rfl bB.size (0:Int)) (k:=2) zd (j:=0) zb zk) (aJ za (aJ (aU _ _ _) (bE (aC.cV (aG a2 1 rfl bB.size (0:Int)) (k:=1) zd (j:=0) zb zk) (aJ za (aJ (aU _ _ _) (bE (aC.cV (aG a2 1 rfl bB.size (0:Int)) (k:=2) zd (j:=0) zb zk) (aJ za (aJ (aU _ _ _) (bE (aC.cV (aG a2 1 rfl bB.size (0:Int)) (k:=1) zd (j:=0) zb zk) (aJ za (aJ (aU _ _ _) aR)))))))))))),En (cI (Lt (Dz (dZ [20] (Hx 3 (0:Int) (8:Int) z 0 1 (Hg 4 (.gen [.int .u32 (x2.getD 0 0)]) [.cell ⟨z,0,none⟩ (.int .u32 (x2.getD 0 0))] (bE (aC.cV (aG a2 1 rfl bB.size (0:Int)) (k:=0) zd (j:=0) zb zk) aR) (Hx 5 (1:Int) (8:Int) z 0 1 (Hg 6 (.gen [.int .u32 (x2.getD 1 0)]) [.cell ⟨z,1,none⟩ (.int .u32 (x2.getD 1 0))] (bE (aC.cV (aG a2 1 rfl bB.size (0:Int)) (k:=1) zd (j:=0) zb zk) aR) (Hx 7 (2:Int) (8:Int) z 0 1 (Hg 8 (.gen [.int .u32 (x2.getD 2 0)]) [.cell ⟨z,2,none⟩ (.int .u32 (x2.getD 2 0))] (bE (aC.cV (aG a2 1 rfl bB.size (0:Int)) (k:=2) zd (j:=0) zb zk) aR) (Hx 9 (3:Int) (8:Int) z 0 1 (Hg 10 (.gen [.int .u32 (x2.getD 3 0)]) [.cell ⟨z,3,none⟩ (.int .u32 (x2.getD 3 0))] (bE (aC.cV (aG a2 1 rfl bB.size (0:Int)) (k:=3) zd (j:=0) zb zk) aR) (Hx 13 (4:Int) (8:Int) z 0 1 (Hg 14 (.gen [.int .u32 (x2.getD 4 0)]) [.cell ⟨z,4,none⟩ (.int .u32 (x2.getD 4 0))] (bE (aC.cV (aG a2 1 rfl bB.size (0:Int)) (k:=4) zd (j:=0) zb zk) aR) (Hx 15 (5:Int) (8:Int) z 0 1 (Hg 16 (.gen [.int .u32 (x2.getD 5 0)]) [.cell ⟨z,5,none⟩ (.int .u32 (x2.getD 5 0))] (bE (aC.cV (aG a2 1 rfl bB.size (0:Int)) (k:=5) zd (j:=0) zb zk) aR) (Hx 17 (6:Int) (8:Int) z 0 1 (Hg 18 (.gen [.int .u32 (x2.getD 6 0)]) [.cell ⟨z,6,none⟩ (.int .u32 (x2.getD 6 0))] (bE (aC.cV (aG a2 1 rfl bB.size (0:Int)) (k:=6) zd (j:=0) zb zk) aR) Hz)))))))))))))) (aL.store rfl rfl zk (b:=z) (off:=0) (v:=.agg (aA aY (nJ x1 k2 x2))) zk zk (ti:=Tryz.t306) zk a2 1 rfl (cR bB (show((nJ x1 k2 x2):List Int).length=8 from rfl) zk) (eO bB) (eC bB (show((nJ x1 k2 x2):List Int).length=8 from rfl) (by rw [bS bB (show(x2).length=8 from zm) (m:=8) rfl];rfl)) (cs':=aA aY (nJ x1 k2 x2)) (L':=(aB a1 (aA aY shaT) 358)::aB z (aA aY (nJ x1 k2 x2)) 306::aB a0 (aA aY x1) 358::aB b7 Bf 306::aB b4 (aA aD bl) 308::aB b1 (aA aY s) 306::L) (fA bB (show((nJ x1 k2 x2):List Int).length=8 from rfl) (by rw [bS bB (show(x2).length=8 from zm) (m:=8) rfl];rfl)) rfl λk6 e8=>Lo (Ld (Lm (Lt (Dz (dE (eT 1 ((k2:Nat)+1) Hz) (aS.back (k2+1,(nJ x1 k2 x2)) [2,4,5,10,11,12] zk (by show 64-(k2+1)<64-k2;omega) ⟨⟨za,by rw [dW,<- hpc.2.1],by first|rfl|(simp only [List.length_set];omega)⟩,e8⟩)))))))))))⟩))⟩)⟩))))))⟩))⟩)⟩))))))))))))
   ·refine En (Lx (mM (mN (Lh (Lt (Ls (Lq (Lb (Dz (aX.loop (T:=Nat×(List Int)) (λgg=>[(2,zP b1 0),(4,zP b7 0),(10,zP z 0),(17,.int .i64 (gg.1:Nat))]) (λgg w=>(gg.1<=8/\gg.2=iter (G4 s) gg.1 (rK s bl)/\gg.2.length=8)/\St w0 (aB a1 (aA aY shaT) 358::aB z (aA aY gg.2) 306::aB a0 (aA aY x1) 358::aB b7 Bf 306::aB b4 (aA aD bl) 308::aB b1 (aA aY s) 306::L) w) (λgg=>8-gg.1) (0,x2) [2,4,10,17] zk ⟨⟨Nat.le_of_ble_eq_true rfl,(by rw [hpc.2.1,show k2=64 by omega,hpb.2.2.1,show u=64 by omega];rfl),zm⟩,a8⟩ ?_))))))))))
    rintro⟨k3,x3⟩ k7 ⟨hpd,b9⟩
    dsimp only at hpd b9
    refine En (Ls (Lq (Dz (Zi ((k3:Int)<8) (λe9=>?_) (λe9=>?_)))))
    ·exact Zk (Zt (Zs (Zb (ZD (gE [0,1,2,3,4,5,6,7,8] (.ef 9 .done)) b9 λk8 c4 k9=>Zj (Hx 2 (k3:Int) (8:Int) z 0 1 (Hg 3 (.gen [.int .u32 (x3.getD k3 0)]) [.cell ⟨z,0+(k3*1),none⟩ (.int .u32 (x3.getD k3 0))] (bE (aC.cV (aG c4 1 rfl bB.size (0:Int)) (k:=k3) zd (j:=0) zb zk) aR) (Hx 5 (k3:Int) (8:Int) b1 0 1 (Hg 6 (.gen [.int .u32 (s.getD k3 0)]) [.cell ⟨b1,0+(k3*1),none⟩ (.int .u32 (s.getD k3 0))] (bE (aC.cV (aG c4 5 rfl bB.size (0:Int)) (k:=k3) zd (j:=0) zb zk) aR) (Hx 8 (k3:Int) (8:Int) z 0 1 Hz))))) (aL.store rfl rfl zk (b:=z) (off:=0+(k3*1)) (v:=.int .u32 (IntKind.u32.wrap ((x3.getD k3 0)+(s.getD k3 0)))) zk zk (ti:=Tryz.t305) zk c4 1 rfl zk zk (by rw [Nat.zero_add];exact gN (f:=aY) (size:=1) (l:=x3) (k:=k3) bB.size zd) (cs':=aA aY (x3.set k3 (IntKind.u32.wrap ((x3.getD k3 0)+(s.getD k3 0))))) (L':=(aB a1 (aA aY shaT) 358)::aB z (aA aY (x3.set k3 (IntKind.u32.wrap ((x3.getD k3 0)+(s.getD k3 0))))) 306::aB a0 (aA aY x1) 358::aB b7 Bf 306::aB b4 (aA aD bl) 308::aB b1 (aA aY s) 306::L) (by rw [Nat.zero_add];exact fO (f:=aY) (size:=1) (l:=x3) (k:=k3) bB.size zd (IntKind.u32.wrap ((x3.getD k3 0)+(s.getD k3 0)))) rfl λl0 f0=>Lo (Ld (Lm (Lt (Dz (dE (eT 1 ((k3:Nat)+1) Hz) (aS.back (k3+1,x3.set k3 (IntKind.u32.wrap ((x3.getD k3 0)+(s.getD k3 0)))) [2,4,10,17] zk (by show 8-(k3+1)<8-k3;omega) ⟨⟨za,by rw [dW,<- hpd.2.1];rfl,by first|rfl|(simp only [List.length_set];omega)⟩,f0⟩)))))))))))
    ·exact Zx (aS.eQ (aS.eR (aS.kI (Zt (Zs (dZ [1] (Hg 0 (.agg (aA aY x3)) [.prop (Array.size (aA aY x3)=8),.cells ⟨z,0,none⟩ (aA aY x3)] (aJ (bS bB (show(x3).length=8 from zm) rfl) (iN (b9.cells 1 0 rfl zw) aR)) Hz) (aL.store rfl rfl zk (b:=b7) (off:=0) (v:=.agg (aA aY x3)) zk zk (ti:=Tryz.t306) zk b9 3 rfl (cR bB (show(x3).length=8 from zm) zk) (eO bB) (eC bB (show(x3).length=8 from zm) zk) (cs':=aA aY x3) (L':=(aB a1 (aA aY shaT) 358)::aB z (aA aY x3) 306::aB a0 (aA aY x1) 358::aB b7 (aA aY x3) 306::aB b4 (aA aD bl) 308::aB b1 (aA aY s) 306::L) (fA bB (show(x3).length=8 from zm) zk) rfl λl1 c7=>Lo (Ld (Lt (Le (Dz (aS.done (.inl rfl) (v:=.agg (aA aY x3)) (λa hf=>dS rfl zk (ti:=Tryz.t306) zk zk (vs:=aA aY x3) (bS bB (show(x3).length=8 from zm) zk) (c7.cells 3 0 rfl zw) a hf) ⟨(by rw [hpd.2.1,show k3=8 by omega];rfl),c7.dr 6⟩))))))))))))
end
end Go.Proofs.YthfpmlpoiocfdaaGreatDoor
namespace Go.Proofs.YthfpmlpoiocfdaaGreatDoor
open Go.RowKit Go.Sx
set_option linter.unusedVariables false
set_option linter.unusedSimpArgs false
set_option maxRecDepth 100000
theorem IE {p ys:List Int}{n:Nat}{x:Int}(hp:p.length=64) (h:n+ys.length<64):cG (cG p n ys) (n+ys.length) [x]=cG p n (ys++[x]):=by
 have h0:(p.take n++ys).length=n+ys.length:=by rw [List.length_append,List.length_take];omega
 unfold cG
 rw [List.take_left' h0,<- List.drop_drop,List.drop_left' h0,List.drop_drop,List.length_append]
 simp only [List.append_assoc,Nat.add_assoc]
def EX (h:HS) (x:Int):HS:=jq h [x]
theorem Kj {s p:List Int}{n:Nat}(x:Int) (h:n<64):EX (s,p,n) x=if n+1=64 then (dA s (cG p n [x]),cG p n [x],0) else (s,cG p n [x],n+1):=by
 have hk:uW (s,p,n) [x]=1:=by unfold uW;simp only [List.length_cons,List.length_nil];omega
 unfold EX jq oD
 rw [hk]
 rfl
theorem FL {h:HS}(ok:qT h) (x:Int):qT (EX h x):=jH ok _
theorem FM {l:List Int}:∀ {h:HS},qT h->qT (l.foldl EX h):=by
 induction l with
 | nil=>exact λok=>ok
 | cons x l ih=>exact λok=>ih (FL ok x)
theorem Bg {s p:List Int}{n:Nat}(hp:p.length=64) (hn:n<64) (l:List Int):∀ k,k<l.length->n+k<64->(l.take (k+1)).foldl EX (s,p,n)=if n+(k+1)=64 then (dA s (cG p n (l.take (k+1))),cG p n (l.take (k+1)),0) else (s,cG p n (l.take (k+1)),n+(k+1))
 | 0,hk,_=>by
  rw [bL (d:=(0:Int)) hk,List.take_zero,List.nil_append,List.foldl_cons,List.foldl_nil,Kj _ hn]
 | k+1,hk,h=>by
  rw [bL (d:=(0:Int)) hk,List.foldl_append,Bg hp hn l k za za,if_neg za,List.foldl_cons,List.foldl_nil,Kj _ za]
  have h0:(l.take (k+1)).length=k+1:=by rw [List.length_take];omega
  have e:=IE (x:=l.getD (k+1) 0) (ys:=l.take (k+1)) (n:=n) hp za
  rw [h0] at e
  rw [e]
  simp only [Nat.add_assoc]
theorem IF {h:HS}(ok:qT h){l:List Int}(hl:0<l.length):jq h l=(l.take (uW h l)).foldl EX h:=by
 obtain⟨s,p,n⟩:=h
 have hn:n<64:=ok.n
 have hk:uW (s,p,n) l=min l.length (64-n):=rfl
 obtain⟨k,hk1⟩:∃ k,uW (s,p,n) l=k+1:=⟨uW (s,p,n) l-1,za⟩
 have e:=Bg (s:=s) ok.part hn l k za za
 rw [hk1,e]
 unfold jq oD
 rw [hk1]
theorem Di:∀ (f:Nat){h:HS}{l:List Int},qT h->l.length<=f->mq h l=l.foldl EX h
 | f,h,[],ok,_=>G3 zw
 | 0,h,x::l,_,hf=>by simp at hf
 | f+1,h,x::l,ok,hf=>by
  have hk:1<=uW h (x::l):=by unfold uW;have:=ok.n;simp only [List.length_cons];omega
  rw [vZ ok zw,Di f (jH ok _) zM,IF ok zw,<- List.foldl_append,List.take_append_drop]
theorem RE {h:HS}(ok:qT h) (l:List Int):mq h l=l.foldl EX h:=Di l.length ok (Nat.le_refl _)
def cN (m:List Int) (k:Nat):List Int:=(m.drop (64*k)).take 64
def Dj (m:List Int) (k:Nat) (s:List Int):List Int:=iter (λi s=>dA s (cN m i)) k s
theorem Kl {s p c:List Int}(hp:p.length=64) (hc:c.length=64):c.foldl EX (s,p,0)=(dA s c,c,0):=by
 have h:=Bg (s:=s) hp (show 0<64 by omega) c 63 za za
 rw [List.take_of_length_le za,if_pos rfl] at h
 have e:cG p 0 c=c:=by unfold cG;rw [List.take_zero,List.nil_append,List.drop_of_length_le za,List.append_nil]
 rw [h,e]
theorem zT {m s p:List Int}(hp:p.length=64):∀ k,64*k<=m.length->∃ p',p'.length=64/\(m.take (64*k)).foldl EX (s,p,0)=(Dj m k s,p',0)
 | 0,_=>⟨p,hp,by rw [Nat.mul_zero,List.take_zero];rfl⟩
 | k+1,h=>by
  obtain⟨p',h1,h2⟩:=zT (m:=m) (s:=s) hp k za
  have hb:(cN m k).length=64:=by unfold cN;rw [List.length_take,List.length_drop];omega
  refine⟨cN m k,hb,?_⟩
  rw [show 64*(k+1)=64*k+64 by omega,List.take_add,List.foldl_append,h2]
  exact Kl h1 hb
theorem zU:∀ (f:Nat){h:HS},qT h->NT f h=(List.replicate f (0:Int)).foldl EX h
 | 0,h,_=>rfl
 | f+1,h,ok=>(zU f (FL ok 0):_)
def nK (n:Int) (y:Nat):List Int:=(List.range y).map (FF n)
theorem wu (n:Int) (y:Nat):nK n (y+1)=nK n y++[FF n y]:=by
 unfold nK
 rw [List.range_succ,List.map_append]
 rfl
theorem zV (n:Int){h:HS}:∀ y,FG n y h=(nK n y).foldl EX h
 | 0=>rfl
 | y+1=>by
  rw [zS,wu,List.foldl_append,<- zV n y]
  rfl
theorem OR {l:List Int}:∀ {h:HS},qT h->(l.foldl EX h).2.2=(h.2.2+l.length) % 64:=by
 induction l with
 | nil=>exact λ{h} ok=>(Nat.mod_eq_of_lt ok.n).symm
 | cons x l ih =>
  intro h ok
  have h1:=sL ok x
  have h2:=ok.n
  rw [List.foldl_cons,ih (FL ok x),show(EX h x).2.2=_ from h1,List.length_cons]
  split<;>omega
def sO (l:List Int):List Int:=(l++[128])++List.replicate ((120-(l.length+1) % 64) % 64) 0
def allM (l:List Int):List Int:=sO l++nK (IntKind.u64.wrap ((l.length:Int)*8)) 8
theorem Dk (l:List Int):(sO l).length=l.length+1+(120-(l.length+1) % 64) % 64:=by
 unfold sO
 simp only [List.length_append,List.length_cons,List.length_nil,List.length_replicate]
theorem Bh (n:Int) (y:Nat):(nK n y).length=y:=by unfold nK;rw [List.length_map,List.length_range]
theorem uj (l:List Int):(allM l).length=l.length+1+(120-(l.length+1) % 64) % 64+8:=by
 unfold allM
 rw [List.length_append,Dk,Bh]
theorem FN {n:Nat}(h:n<1000000000000000000):IntKind.u64.wrap (0+(IntKind.u64.wrap (n:Nat)))=(n:Nat):=by
 show(0+(n:Int) % 18446744073709551616) % 18446744073709551616=_
 omega
theorem Mo {l:List Int}(hl:l.length<1000000000000000000):eX l=ym (Dj (allM l) ((allM l).length / 64) kC) 8:=by
 have hz:=uj l
 have hk:64*((allM l).length / 64)=(allM l).length:=za
 obtain⟨p',h1,h2⟩:=zT (m:=allM l) (s:=kC) (p:=List.replicate 64 0) (by rw [List.length_replicate]) _ (Nat.le_of_eq hk)
 rw [hk,List.take_length] at h2
 unfold eX rG
 rw [FN hl,zV,RE fB,RE (FM fB)]
 unfold pad
 have h3:((l++[128]).foldl EX Db).2.2=(l.length+1) % 64:=by
  rw [OR fB,List.length_append]
  show(0+(l.length+1)) % 64=_
  rw [Nat.zero_add]
 rw [<- List.foldl_append,zU _ (FM fB),h3,<- List.foldl_append,<- List.foldl_append]
 have h4:(allM l).foldl EX Db=(Dj (allM l) ((allM l).length / 64) kC,p',0):=h2
 unfold allM sO at h4 ⊢
 rw [<- List.append_assoc (l++[128]),h4]
theorem Mp {h:HS}(ok:qT h) (a b:List Int):mq (mq h a) b=mq h (a++b):=by
 rw [RE ok,RE (FM ok),RE ok,List.foldl_append]
end Go.Proofs.YthfpmlpoiocfdaaGreatDoor
namespace Go.Proofs.YthfpmlpoiocfdaaGreatDoor
open Go.RowKit Go.Sx
set_option linter.unusedVariables false
set_option linter.unusedSimpArgs false
set_option linter.unnecessarySimpa false
set_option maxRecDepth 100000
theorem iL (k:IntKind) (a b:Int):jQ k a b=jQ k b a:=by
 unfold jQ
 rw [BitVec.or_comm]
theorem OS (x:Int):jl x 2=cK x 2:=iL .u32 (aW .u32 x 2) (cD .u32 x 30)
theorem OT (x:Int):jl x 6=cK x 6:=iL .u32 (aW .u32 x 6) (cD .u32 x 26)
theorem OU (x:Int):jl x 7=cK x 7:=iL .u32 (aW .u32 x 7) (cD .u32 x 25)
theorem Nc (x:Int):jl x 11=cK x 11:=iL .u32 (aW .u32 x 11) (cD .u32 x 21)
theorem Nd (x:Int):jl x 13=cK x 13:=iL .u32 (aW .u32 x 13) (cD .u32 x 19)
theorem Nf (x:Int):jl x 17=cK x 17:=iL .u32 (aW .u32 x 17) (cD .u32 x 15)
theorem Ng (x:Int):jl x 18=cK x 18:=iL .u32 (aW .u32 x 18) (cD .u32 x 14)
theorem Nh (x:Int):jl x 19=cK x 19:=iL .u32 (aW .u32 x 19) (cD .u32 x 13)
theorem Ni (x:Int):jl x 22=cK x 22:=iL .u32 (aW .u32 x 22) (cD .u32 x 10)
theorem Nj (x:Int):jl x 25=cK x 25:=iL .u32 (aW .u32 x 25) (cD .u32 x 7)
theorem FO {A B i:Nat}(hB:B<2 ^ i) (h:2 ^ i*A+B<4294967296):jQ .u32 ((2 ^ i*A:Nat):Int) ((B:Nat):Int)=((2 ^ i*A+B:Nat):Int):=by
 show IntKind.u32.wrap (((BitVec.ofInt 32 ((2 ^ i*A:Nat):Int) ||| BitVec.ofInt 32 ((B:Nat):Int)).toNat:Nat):Int)=_
 rw [BitVec.ofInt_natCast,BitVec.ofInt_natCast,BitVec.toNat_or,BitVec.toNat_ofNat,BitVec.toNat_ofNat,Nat.mod_eq_of_lt za,Nat.mod_eq_of_lt za,<- Nat.two_pow_add_eq_or_of_lt hB A]
 show((2 ^ i*A+B:Nat):Int) % 4294967296=_
 omega
theorem zW {A i:Nat}(hi:i<=32) (h:2 ^ i*A<4294967296):cD .u32 ((A:Nat):Int) ((i:Nat):Int)=((2 ^ i*A:Nat):Int):=by
 show IntKind.u32.wrap ((A:Int)*2 ^ (min (Int.toNat (i:Int)) 32))=_
 rw [Int.toNat_natCast,Nat.min_eq_left hi,show((A:Int)*2 ^ i)=((2 ^ i*A:Nat):Int) by rw [Int.natCast_mul,Int.natCast_pow,Int.mul_comm];rfl]
 show((2 ^ i*A:Nat):Int) % 4294967296=_
 omega
theorem Mq {a b c d:Int}(ha:0<=a/\a<256) (hb:0<=b/\b<256) (hc:0<=c/\c<256) (hd:0<=d/\d<256):jQ .u32 (cD .u32 (jQ .u32 (cD .u32 (jQ .u32 (cD .u32 (jQ .u32 (cD .u32 0 8) a) 8) b) 8) c) 8) d=jQ .u32 (jQ .u32 (jQ .u32 (cD .u32 a 24) (cD .u32 b 16)) (cD .u32 c 8)) d:=by
 obtain⟨a,rfl⟩:∃ n:Nat,a=n:=⟨a.toNat,za⟩
 obtain⟨b,rfl⟩:∃ n:Nat,b=n:=⟨b.toNat,za⟩
 obtain⟨c,rfl⟩:∃ n:Nat,c=n:=⟨c.toNat,za⟩
 obtain⟨d,rfl⟩:∃ n:Nat,d=n:=⟨d.toNat,za⟩
 have e0:jQ .u32 (cD .u32 0 8) (a:Int)=(a:Int):=by
  rw [show cD .u32 0 8=((2 ^ 8*0:Nat):Int) from rfl,FO za za]
  omega
 have s1:=zW (A:=a) (i:=8) za za
 have o1:=FO (A:=a) (B:=b) (i:=8) za za
 have s2:=zW (A:=2 ^ 8*a+b) (i:=8) za za
 have o2:=FO (A:=2 ^ 8*a+b) (B:=c) (i:=8) za za
 have s3:=zW (A:=2 ^ 8*(2 ^ 8*a+b)+c) (i:=8) za za
 have o3:=FO (A:=2 ^ 8*(2 ^ 8*a+b)+c) (B:=d) (i:=8) za za
 have t1:=zW (A:=a) (i:=24) za za
 have t2:=zW (A:=b) (i:=16) za za
 have t3:=zW (A:=c) (i:=8) za za
 have p1:=FO (A:=a) (B:=2 ^ 16*b) (i:=24) za za
 have p2:=FO (A:=2 ^ 8*a+b) (B:=2 ^ 8*c) (i:=16) za za
 have p3:=FO (A:=2 ^ 8*(2 ^ 8*a+b)+c) (B:=d) (i:=8) za za
 rw [show(8:Int)=((8:Nat):Int) from rfl,show(24:Int)=((24:Nat):Int) from rfl,show(16:Int)=((16:Nat):Int) from rfl]
 rw [show((8:Nat):Int)=(8:Int) from rfl,e0,show(8:Int)=((8:Nat):Int) from rfl,s1,o1,s2,o2,s3,o3,t1,t2,t3,p1,show 2 ^ 24*a+2 ^ 16*b=2 ^ 16*(2 ^ 8*a+b) by omega,p2,show 2 ^ 16*(2 ^ 8*a+b)+2 ^ 8*c=2 ^ 8*(2 ^ 8*(2 ^ 8*a+b)+c) by omega,p3]
def eW (bl:List Int) (k:Nat):Int:=jQ .u32 (cD .u32 (jQ .u32 (cD .u32 (jQ .u32 (cD .u32 (jQ .u32 (cD .u32 0 8) (IntKind.u32.wrap (bl.getD (4*k) 0))) 8) (IntKind.u32.wrap (bl.getD (4*k+1) 0))) 8) (IntKind.u32.wrap (bl.getD (4*k+2) 0))) 8) (IntKind.u32.wrap (bl.getD (4*k+3) 0))
def fW (bl:List Int) (k:Nat):Int:=jQ .u32 (jQ .u32 (jQ .u32 (cD .u32 (IntKind.u32.wrap (bl.getD (4*k) 0)) 24) (cD .u32 (IntKind.u32.wrap (bl.getD (4*k+1) 0)) 16)) (cD .u32 (IntKind.u32.wrap (bl.getD (4*k+2) 0)) 8)) (IntKind.u32.wrap (bl.getD (4*k+3) 0))
theorem FP (bl:List Int):oB bl=(List.range 16).map (eW bl)++List.replicate 48 0:=zk
theorem Dl (bl:List Int):rJ bl=(List.range 16).map (fW bl)++List.replicate 48 0:=zk
theorem FQ {bl:List Int}(h:∀ z∈bl,0<=z/\z<256) (hl:bl.length=64):rJ bl=oB bl:=by
 rw [FP,Dl]
 congr 1
 refine List.map_congr_left λk hk=>?_
 have hk':k<16:=List.mem_range.1 hk
 have hz:∀ j,j<64->(0<=bl.getD j 0/\bl.getD j 0<256)/\IntKind.u32.wrap (bl.getD j 0)=bl.getD j 0:=λj hj=>by
  have h1:=h _ (bJ (d:=(0:Int)) (l:=bl) (k:=j) za)
  refine⟨h1,?_⟩
  show bl.getD j 0 % 4294967296=_
  omega
 unfold fW eW
 rw [(hz _ za).2,(hz (4*k+1) za).2,(hz (4*k+2) za).2,(hz (4*k+3) za).2]
 exact(Mq (hz _ za).1 (hz _ za).1 (hz _ za).1 (hz _ za).1).symm
theorem wx {α:Type}{f g:Nat->α->α}(h:∀ n a,f n a=g n a) (a:α):∀ n,iter f n a=iter g n a
 | 0=>rfl
 | n+1=>by rw [dW,dW,wx h a n,h]
theorem FT {bl:List Int}(h:∀ z∈bl,0<=z/\z<256) (hl:bl.length=64):Bc bl=iG bl:=by
 unfold Bc iG
 rw [FQ h hl]
 exact wx (λn a=>by unfold pE sK;simp only [OS,OT,OU,Nc,Nd,Nf,Ng,Nh,Ni,Nj]) _ 48
theorem IG {l:List Int}(h:l.length=8):l=[l.getD 0 0,l.getD 1 0,l.getD 2 0,l.getD 3 0,l.getD 4 0,l.getD 5 0,l.getD 6 0,l.getD 7 0]:=by
 have h2:=Kh l
 rw [h] at h2
 exact h2
theorem uk (ws:List Int) (t:T8):∀ k,iter (nJ ws) k (ue t)=ue (iter (C8 ws) k t)
 | 0=>rfl
 | k+1=>by
  rw [dW,dW,uk ws t k]
  generalize iter (C8 ws) k t=u
  unfold nJ C8
  simp only [OS,OT,OU,Nc,Nd,Nf,Ng,Nh,Ni,Nj]
  rfl
theorem FU {s bl:List Int}(hs:s.length=8) (h:∀ z∈bl,0<=z/\z<256) (hl:bl.length=64):Be s bl=dA s bl:=by
 unfold Be dA rK
 rw [FT h hl]
 have e:s=ue (s.getD 0 0,s.getD 1 0,s.getD 2 0,s.getD 3 0,s.getD 4 0,s.getD 5 0,s.getD 6 0,s.getD 7 0):=IG hs
 generalize hT:(s.getD 0 0,s.getD 1 0,s.getD 2 0,s.getD 3 0,s.getD 4 0,s.getD 5 0,s.getD 6 0,s.getD 7 0)=t at e ⊢
 rw [e,uk]
 generalize iter (C8 (iG bl)) 64 t=u
 have q1:iter (G4 (ue t)) 8 (ue u)=[IntKind.u32.wrap (u.1+t.1),IntKind.u32.wrap (u.2.1+t.2.1),IntKind.u32.wrap (u.2.2.1+t.2.2.1),IntKind.u32.wrap (u.2.2.2.1+t.2.2.2.1),IntKind.u32.wrap (u.2.2.2.2.1+t.2.2.2.2.1),IntKind.u32.wrap (u.2.2.2.2.2.1+t.2.2.2.2.2.1),IntKind.u32.wrap (u.2.2.2.2.2.2.1+t.2.2.2.2.2.2.1),IntKind.u32.wrap (u.2.2.2.2.2.2.2+t.2.2.2.2.2.2.2)]:=rfl
 have q2:iter (Iw (ue u)) 8 (ue t)=[IntKind.u32.wrap (t.1+u.1),IntKind.u32.wrap (t.2.1+u.2.1),IntKind.u32.wrap (t.2.2.1+u.2.2.1),IntKind.u32.wrap (t.2.2.2.1+u.2.2.2.1),IntKind.u32.wrap (t.2.2.2.2.1+u.2.2.2.2.1),IntKind.u32.wrap (t.2.2.2.2.2.1+u.2.2.2.2.2.1),IntKind.u32.wrap (t.2.2.2.2.2.2.1+u.2.2.2.2.2.2.1),IntKind.u32.wrap (t.2.2.2.2.2.2.2+u.2.2.2.2.2.2.2)]:=rfl
 rw [q1,q2]
 simp only [Int.add_comm]
section
variable {w0 w : World} {L : List bA} {ad : Option Addr} {c : Nat}
theorem Bi s bl (hs8:s.length=8) (hb:bl.length=64) (hbb:∀ z∈bl,0<=z/\z<256) (hs:St w0 L w) :
 Cs Tryz.prog 170 #[.agg (aA aY s),.agg (aA aD bl)] w λrv w'=>rv=.agg (aA aY (dA s bl))/\St w0 L w':=by
 rw [<- FU hs8 hbb hb]
 exact Dh s bl hs8 hb hs
def Bj (q:List Int):List Int:=q++List.replicate ((120-q.length % 64) % 64) 0
theorem II (l:List Int):Bj (l++[128])=sO l:=by
 unfold Bj sO
 rw [List.length_append]
 rfl
theorem IJ {q:List Int}(h:q.length % 64≠56):Bj (q++[0])=Bj q:=by
 unfold Bj
 rw [List.length_append,List.append_assoc,show(120-q.length % 64) % 64=(120-(q.length+[(0:Int)].length) % 64) % 64+1 by simp only [List.length_cons,List.length_nil];omega,List.replicate_succ]
 rfl
theorem Km {q:List Int}(h:q.length % 64=56):Bj q=q:=by
 unfold Bj
 rw [h]
 exact List.append_nil q
theorem FV {l:List Int}{y:Nat}{z:Int}(hl:l.length<=100000) (hy:y<8) (hz:z=7-(y:Nat)):nK (IntKind.u64.wrap ((l.length:Int)*8)) y++[IntKind.u8.wrap (aW .u64 (IntKind.u64.wrap ((IntKind.u64.wrap (l.length:Nat))*8)) (IntKind.u64.wrap (8*z)))]=nK (IntKind.u64.wrap ((l.length:Int)*8)) (y+1):=by
 rw [wu]
 unfold FF
 rw [show IntKind.u64.wrap (l.length:Nat)=(l.length:Nat) from lj za za,show IntKind.u64.wrap (8*z)=8*(7-(y:Int)) from by rw [lj za za,hz]]
theorem Kn {l:List Int}(h:∀ z∈l,0<=z/\z<256):∀ z∈allM l,0<=z/\z<256:=by
 intro z hz
 unfold allM sO nK at hz
 simp only [List.mem_append,List.mem_cons,List.not_mem_nil,or_false,List.mem_replicate,List.mem_map] at hz
 rcases hz with((hz|rfl)|⟨-,rfl⟩)|⟨y,-,rfl⟩
 ·exact h z hz
 ·omega
 ·omega
 ·unfold FF
  show 0<=(_:Int) % 256/\(_:Int) % 256<256
  omega
def OV (q:List Int) (m2 k3:Nat) (x3s:List Int):List Int:=x3s.set k3 (q.getD (m2+k3) 0)
theorem G5 {q:List Int}{m:Nat}(h:m+64<=q.length):∀ k,k<=64->iter (OV q m) k (List.replicate 64 0)=(q.drop m).take k++List.replicate (64-k) 0
 | 0,_=>by rw [List.take_zero];rfl
 | k+1,hk=>by
  rw [dW,G5 h k za]
  unfold OV
  have h0:((q.drop m).take k).length=k:=by rw [List.length_take,List.length_drop];omega
  rw [List.set_append_right _ _ za,h0,Nat.sub_self,show 64-k=(64-(k+1))+1 by omega,List.replicate_succ,List.set_cons_zero,bL (d:=(0:Int)) zM,List.append_assoc,show(q.drop m).getD k 0=q.getD (m+k) 0 from by rw [List.getD_eq_getElem?_getD,List.getD_eq_getElem?_getD,List.getElem?_drop]]
  rfl
theorem Dm {q:List Int}{m:Nat}(h:m+64<=q.length):iter (OV q m) 64 (List.replicate 64 0)=(q.drop m).take 64:=by
 rw [G5 h 64 (Nat.le_refl _)]
 exact List.append_nil _
def G6 (s2:List Int) (k4:Nat) (x4:List Int):List Int:=x4.set k4 (IntKind.u8.wrap (aW .u32 (s2.getD (Int.toNat ((k4:Nat) / 4)) (0:Int)) (IntKind.u64.wrap (24-(8*((k4:Nat) % 4))))))
def Ko (x:Int):List Int:=[IntKind.u8.wrap (aW .u32 x 24),IntKind.u8.wrap (aW .u32 x 16),IntKind.u8.wrap (aW .u32 x 8),IntKind.u8.wrap (aW .u32 x 0)]
theorem Kp (x:Int):Ko x=Dc x:=by
 unfold Ko Dc
 rw [show aW .u32 x 0=x from by show x.fdiv (2 ^ 0)=x;exact Int.fdiv_one ..]
def Nk (s:List Int) (k:Nat):List Int:=iter (λi l=>cG l (4*i) (Ko (s.getD i 0))) k (List.replicate 32 0)
theorem Kq (s:List Int):iter (G6 s) 32 (List.replicate 32 0)=Nk s 8:=zk
theorem Mr (s:List Int):iter (G6 s) 32 (List.replicate 32 0)=ym s 8:=by
 rw [Kq]
 unfold Nk ym
 simp only [Kp]
theorem zp {p:Prop}(h:p:=by first|omega|(simp only [List.length_append,List.length_cons,List.length_nil,dK];omega)):p:=h
theorem sP l (hl:l.length<=100000) (hn:ad=none->c=0) (hb:∀ z∈l,0<=z/\z<256) (hr:Rw w0 L aD 1 0 ad l) (hs:St w0 L w):Cs Tryz.prog 110 #[.slice ad l.length c] w λrv w'=>rv=.agg (aA aD (eX l))/\St w0 L w':=by
 refine dF Tryz.func110 Tryz.ntmps110 (En (Ls (Lg [0] (Dz (tW ko hs λb1 w2 b6=>Lo (Ld (Lt (Ls (Lg [0,2,3,4] (Dz (Rj Rs aF b6 λb4 w5 b2=>Lo (Lw (aL.append rfl zk Rs aF (ad:=some ⟨b4,0,none⟩) (c:=0) (xs:=([]:List Int)) (ys:=l) (adx:=ad) (cx:=c) (0:Int) zk b2 (hr _ (b2.drop 2)) hn zp zp λh6 h7 w9 b7=>Lo (Dz (CB Rs aF [(128:Int)] b7 λh8 h9 b9=>Lo (Dz (sD Rs aF (0:Int) (b9.pl 1) zp λc3 c4 i0 c5=>Lz (Ls (Lb (Dz ?_))))))))))))))))))))
 have c6:=((c5.pl 2).pl 1).pl 2
 refine aX.loop (T:=(List Int)×(Option Addr)×Nat) (λgg=>[(0,.slice ad l.length c),(2,zP b1 0),(3,.slice gg.2.1 gg.1.length gg.2.2)]) (λgg w=>(gg.1.length+(120-gg.1.length % 64) % 64<=l.length+64/\Bj gg.1=sO l)/\St w0 (Sl gg.2.1 gg.2.2 5 1 aD gg.1::aB b1 ko 39::L) w) (λgg=>(120-gg.1.length % 64) % 64) ((l++([(128:Int)])),c3,c4) [0,2,3] zk ⟨⟨zi,II l⟩,c6.dr 1⟩ ?_
 rintro⟨q0,c9,c0⟩ i1 ⟨hpa,a6⟩
 dsimp only at hpa a6
 refine Zs (Zs (dE (Hg 2 (.div ((q0.length:Nat) % 64)) [.prop (IntKind.i64=IntKind.i64/\(64:Int)≠0/\Int.tmod (q0.length:Nat) 64=(q0.length:Nat) % 64)] (aJ ⟨rfl,zb,Int.tmod_eq_emod_of_nonneg (by first|omega|exact Int.natCast_nonneg _)⟩ aR) Hz) (Zt (eZ (t:=(((q0.length:Nat) % 64):Int) != 56) (λa7=>?_) (λa7=>?_)))))
 ·have d1:=E2 a7
  refine En (Lk (Lt (Lb (Lg [1,2] (Lw (CB Rs aF [(0:Int)] a6 λi2 i3 d2=>Lo (Dz (sD Rs aF (0:Int) (d2.pl 1) zp λd4 d5 i4 d6=>Lo (cI (Lm (Dz ?_)))))))))))
  have d7:=((d6.pl 2).pl 1).pl 2
  exact aS.back (q0++([(0:Int)]),d4,d5) [0,2,3] zk (by show(120-(q0++([(0:Int)])).length % 64) % 64<(120-q0.length % 64) % 64;simp only [List.length_append,List.length_cons,List.length_nil];omega) ⟨⟨zi,(IJ za).trans hpa.2⟩,d7.dr 1⟩
 ·have d1:=E3 a7
  refine En (Lx (mM (mN (Lh (Lt (Lq (Ls (Lq (Lb (Dz ?_))))))))))
  have d9:q0=sO l:=(Km za).symm.trans hpa.2
  refine aX.loop (T:=Nat×Int×(List Int)×(Option Addr)×Nat) (λgg=>[(2,zP b1 0),(3,.slice gg.2.2.2.1 gg.2.2.1.length gg.2.2.2.2),(4,.int .u64 (IntKind.u64.wrap ((IntKind.u64.wrap (l.length:Nat))*8))),(5,.int .i64 gg.2.1)]) (λgg w=>(gg.1<=8/\gg.2.1=7-(gg.1:Nat)/\gg.2.2.1=sO l++nK (IntKind.u64.wrap ((l.length:Int)*8)) gg.1/\gg.2.2.1.length=q0.length+gg.1)/\St w0 (Sl gg.2.2.2.1 gg.2.2.2.2 5 1 aD gg.2.2.1::aB b1 ko 39::L) w) (λgg=>8-gg.1) (0,7,q0,c9,c0) [2,3,4,5] zk ⟨⟨by first|omega|(simp only;omega),by first|omega|(simp only;omega),by rw [d9];exact(List.append_nil _).symm,rfl⟩,a6⟩ ?_
  rintro⟨y1,z1,q1,i5,c1⟩ i6 ⟨hpb,a8⟩
  dsimp only at hpb a8
  refine En (Ls (Lq (Dz (Zi ((z1:Int) >= 0) (λe0=>?_) (λe0=>?_)))))
  ·refine Zk (Zt (Zs (Zb (dZ [7,8] (eT 3 (8*z1) (Hg 5 (.shift (aW .u64 (IntKind.u64.wrap ((IntKind.u64.wrap (l.length:Nat))*8)) (IntKind.u64.wrap (8*z1)))) [.prop ((0:Int)<=IntKind.u64.wrap (8*z1)/\Int.fdiv (IntKind.u64.wrap ((IntKind.u64.wrap (l.length:Nat))*8)) (2 ^ (min (Int.toNat (IntKind.u64.wrap (8*z1))) (IntKind.bits .u64)))=aW .u64 (IntKind.u64.wrap ((IntKind.u64.wrap (l.length:Nat))*8)) (IntKind.u64.wrap (8*z1)))] (aJ ⟨(by first|omega|exact bK rfl _),rfl⟩ aR) Hz)) (CB Rs aF [(IntKind.u8.wrap (aW .u64 (IntKind.u64.wrap ((IntKind.u64.wrap (l.length:Nat))*8)) (IntKind.u64.wrap (8*z1))):Int)] a8 λi7 i8 e1=>Lo (Dz (sD Rs aF (0:Int) (e1.pl 1) zp λe3 e4 i9 e5=>Lo (cI (Lm (Lt (Dz (dE (eT 1 (z1-1) Hz) ?_))))))))))))
   have e6:=((e5.pl 2).pl 1).pl 2
   exact aS.back (y1+1,z1-1,q1++([(IntKind.u8.wrap (aW .u64 (IntKind.u64.wrap ((IntKind.u64.wrap (l.length:Nat))*8)) (IntKind.u64.wrap (8*z1))):Int)]),e3,e4) [2,3,4,5] zk (by show 8-(y1+1)<8-y1;omega) ⟨(by refine⟨by first|omega|(simp only;omega),by first|omega|(simp only;omega),?_⟩;refine⟨?_,by simp only [List.length_append,List.length_cons,List.length_nil];omega⟩;show q1++_=_;rw [hpb.2.2.1,List.append_assoc];exact congrArg (sO l++·) (FV hl za hpb.2.1)),e6.dr 1⟩
  ·refine En (Lx (mM (mN (Lh (Lt (Ls (Lg [0,1,2] (Dz (CH (Dg a8) λj1 e8=>Lo (Dz (tW vz e8 λa0 j2 e9=>Lo (Dz (Zu 0 0 QN e9 λf0 b3=>Lo (Ld (Lt (Ls (Lq (Lb (Dz ?_)))))))))))))))))))
   have a9:q1=allM l:=by rw [hpb.2.2.1,show y1=8 by omega];rfl
   have hqb:∀ z∈q1,0<=z/\z<256:=by rw [a9];exact Kn hb
   have f1:=uj l
   rw [<- a9] at f1
   have j3:q1.length % 64=0/\0<q1.length/\q1.length<=1000000000:=za
   obtain⟨a1,rfl⟩:=Sl.isSome (b3.at_ 1 rfl) za
   have f2:St w0 (aB a0 (aA aY kC) 306::Sl (some ⟨a1,0,none⟩) c1 5 1 aD q1::aB b1 ko 39::L) f0:=Eq.mp zk b3
   refine aX.loop (T:=Nat×(List Int)) (λgg=>[(2,zP b1 0),(3,zL a1 0 q1.length c1),(6,zP a0 0),(7,.int .i64 (gg.1:Nat))]) (λgg w=>(gg.1 % 64=0/\gg.1<=q1.length/\gg.2=Dj q1 (gg.1 / 64) kC/\gg.2.length=8)/\St w0 (aB a0 (aA aY gg.2) 306::Sl (some ⟨a1,0,none⟩) c1 5 1 aD q1::aB b1 ko 39::L) w) (λgg=>q1.length-gg.1) (0,kC) [2,3,6,7] zk ⟨⟨rfl,Nat.zero_le _,rfl,rfl⟩,f2⟩ ?_
   rintro⟨m2,s2⟩ j4 ⟨hpc,b0⟩
   dsimp only at hpc b0
   refine En (Ls (Lq (Dz (Zi ((m2:Int)<(q1.length:Nat)) (λf3=>?_) (λf3=>?_)))))
   ·refine En (Lk (Lt (Ls (Lb (Ls (Lg [0] (Dz (tW #[.int .u8 0,.int .u8 0,.int .u8 0,.int .u8 0,.int .u8 0,.int .u8 0,.int .u8 0,.int .u8 0,.int .u8 0,.int .u8 0,.int .u8 0,.int .u8 0,.int .u8 0,.int .u8 0,.int .u8 0,.int .u8 0,.int .u8 0,.int .u8 0,.int .u8 0,.int .u8 0,.int .u8 0,.int .u8 0,.int .u8 0,.int .u8 0,.int .u8 0,.int .u8 0,.int .u8 0,.int .u8 0,.int .u8 0,.int .u8 0,.int .u8 0,.int .u8 0,.int .u8 0,.int .u8 0,.int .u8 0,.int .u8 0,.int .u8 0,.int .u8 0,.int .u8 0,.int .u8 0,.int .u8 0,.int .u8 0,.int .u8 0,.int .u8 0,.int .u8 0,.int .u8 0,.int .u8 0,.int .u8 0,.int .u8 0,.int .u8 0,.int .u8 0,.int .u8 0,.int .u8 0,.int .u8 0,.int .u8 0,.int .u8 0,.int .u8 0,.int .u8 0,.int .u8 0,.int .u8 0,.int .u8 0,.int .u8 0,.int .u8 0,.int .u8 0] b0 λa2 f4 f5=>Lo (Ld (Lt (Ls (Lq (Lb (Dz ?_))))))))))))))
    have f6:St w0 (aB a2 (aA aD (List.replicate 64 0)) 308::aB a0 (aA aY s2) 306::Sl (some ⟨a1,0,none⟩) c1 5 1 aD q1::aB b1 ko 39::L) f4:=Eq.mp zk f5
    refine aX.loop (T:=Nat×(List Int)) (λgg=>[(2,zP b1 0),(3,zL a1 0 q1.length c1),(6,zP a0 0),(7,.int .i64 (m2:Nat)),(8,zP a2 0),(9,.int .i64 (gg.1:Nat))]) (λgg w=>(gg.1<=64/\gg.2=iter (OV q1 m2) gg.1 (List.replicate 64 0)/\gg.2.length=64)/\St w0 (aB a2 (aA aD gg.2) 308::aB a0 (aA aY s2) 306::Sl (some ⟨a1,0,none⟩) c1 5 1 aD q1::aB b1 ko 39::L) w) (λgg=>64-gg.1) (0,(List.replicate 64 0)) [2,3,6,7,8,9] zk ⟨⟨Nat.le_of_ble_eq_true rfl,rfl,rfl⟩,f6⟩ ?_
    rintro⟨k3,x3s⟩ j5 ⟨hpd,a4⟩
    dsimp only at hpd a4
    refine En (Ls (Lq (Dz (Zi ((k3:Int)<64) (λf7=>?_) (λf7=>?_)))))
    ·exact Zk (Zt (Zs (Zb (dZ [8] (eT 4 ((m2:Nat)+(k3:Nat)) (Hx 5 (((m2:Nat)+(k3:Nat)):Int) (q1.length:Int) a1 0 1 (Hg 6 (.gen [.int .u8 (q1.getD (m2+k3) 0)]) [.cell ⟨a1,0+((m2+k3)*1),none⟩ (.int .u8 (q1.getD (m2+k3) 0))] (bE (aC.cV (a4.rows 2 rfl aF.size (0:Int)) (k:=(m2+k3)) zo (j:=0) zb zk) aR) (Hx 7 (k3:Int) (64:Int) a2 0 1 Hz)))) (aL.store rfl rfl zk (b:=a2) (off:=0+(k3*1)) (v:=.int .u8 (q1.getD (m2+k3) 0)) zk zk (ti:=Tryz.t5) zk a4 0 rfl zk zk (by rw [Nat.zero_add];exact gN (f:=aD) (size:=1) (l:=x3s) (k:=k3) aF.size zo) (cs':=aA aD (x3s.set k3 (q1.getD (m2+k3) 0))) (L':=(aB a2 (aA aD (x3s.set k3 (q1.getD (m2+k3) 0))) 308)::aB a0 (aA aY s2) 306::Sl (some ⟨a1,0,none⟩) c1 5 1 aD q1::aB b1 ko 39::L) (by rw [Nat.zero_add];exact fO (f:=aD) (size:=1) (l:=x3s) (k:=k3) aF.size zo (q1.getD (m2+k3) 0)) rfl λj6 f8=>Lo (Ld (Lm (Lt (Dz (dE (eT 1 ((k3:Nat)+1) Hz) (aS.back (k3+1,x3s.set k3 (q1.getD (m2+k3) 0)) [2,3,6,7,8,9] zk (by show 64-(k3+1)<64-k3;omega) ⟨⟨za,by rw [dW,<- hpd.2.1];rfl,by first|rfl|(simp only [List.length_set];omega)⟩,f8⟩)))))))))))
    ·refine Zx (aS.eQ (aS.eR (aS.kI (Zt (dZ [2,3] (Hg 0 (.agg (aA aY s2)) [.prop (Array.size (aA aY s2)=8),.cells ⟨a0,0,none⟩ (aA aY s2)] (aJ (bS bB (show(s2).length=8 from zm) rfl) (iN (a4.cells 1 0 rfl zw) aR)) (Hg 1 (.agg (aA aD x3s)) [.prop (Array.size (aA aD x3s)=64),.cells ⟨a2,0,none⟩ (aA aD x3s)] (aJ (bS aF (show(x3s).length=64 from zm) rfl) (iN (a4.cells 0 0 rfl zw) aR)) Hz)) (dJ (f:=170) (args:=#[.agg (aA aY s2),.agg (aA aD x3s)]) Tryz.call170 (Bi s2 x3s (by first|assumption|omega|(simp only [List.length_set];omega)|rfl) (by first|assumption|omega|(simp only [List.length_set];omega)|rfl) (by rw [hpd.2.1,show k3=64 by omega,Dm za];exact λz hz=>hqb z (List.mem_of_mem_drop (List.mem_of_mem_take hz))) a4) ?_))))))
     rintro j7 j8 ⟨rfl,f9⟩
     exact Lo (Dz (aL.store rfl rfl zk (b:=a0) (off:=0) (v:=.agg (aA aY (dA s2 x3s))) zk zk (ti:=Tryz.t306) zk f9 1 rfl (cR bB (show(dA s2 x3s).length=8 from dR hpc.2.2.2 _) zk) (eO bB) (eC bB (show(dA s2 x3s).length=8 from dR hpc.2.2.2 _) (by rw [bS bB (show(s2).length=8 from zm) (m:=8) rfl];rfl)) (cs':=aA aY (dA s2 x3s)) (L':=(aB a2 (aA aD x3s) 308)::aB a0 (aA aY (dA s2 x3s)) 306::Sl (some ⟨a1,0,none⟩) c1 5 1 aD q1::aB b1 ko 39::L) (fA bB (show(dA s2 x3s).length=8 from dR hpc.2.2.2 _) (by rw [bS bB (show(s2).length=8 from zm) (m:=8) rfl];rfl)) rfl λj9 g0=>Lo (Ld (Lm (Lt (Dz (dE (eT 1 ((m2:Nat)+64) Hz) (aS.back (m2+64,dA s2 x3s) [2,3,6,7] zk (by show q1.length-(m2+64)<q1.length-m2;omega) ⟨⟨za,za,by show dA s2 x3s=_;rw [hpd.2.1,show k3=64 by omega,Dm za,hpc.2.2.1,show(m2+64) / 64=m2 / 64+1 by omega];show dA _ ((q1.drop m2).take 64)=dA _ ((q1.drop (64*(m2 / 64))).take 64);rw [show 64*(m2 / 64)=m2 by omega];rfl,by first|omega|exact dR hpc.2.2.2 _⟩,g0.dr 1⟩))))))))
   ·refine En (Lx (mM (mN (Lh (Lt (Ls (Lg [0] (Dz (tW ko b0 λa3 g9 h1=>Lo (Ld (Lt (Ls (Lq (Lb (Dz ?_)))))))))))))))
    have h2:St w0 (aB a3 (aA aD (List.replicate 32 0)) 39::aB a0 (aA aY s2) 306::Sl (some ⟨a1,0,none⟩) c1 5 1 aD q1::aB b1 ko 39::L) g9:=Eq.mp zk h1
    refine aX.loop (T:=Nat×(List Int)) (λgg=>[(2,zP b1 0),(6,zP a0 0),(10,zP a3 0),(11,.int .i64 (gg.1:Nat))]) (λgg w=>(gg.1<=32/\gg.2=iter (G6 s2) gg.1 (List.replicate 32 0)/\gg.2.length=32)/\St w0 (aB a3 (aA aD gg.2) 39::aB a0 (aA aY s2) 306::Sl (some ⟨a1,0,none⟩) c1 5 1 aD q1::aB b1 ko 39::L) w) (λgg=>32-gg.1) (0,(List.replicate 32 0)) [2,6,10,11] zk ⟨⟨Nat.le_of_ble_eq_true rfl,rfl,rfl⟩,h2⟩ ?_
    rintro⟨u,x4⟩ k0 ⟨hpe,a5⟩
    dsimp only at hpe a5
    refine En (Ls (Lq (Dz (Zi ((u:Int)<32) (λh3=>?_) (λh3=>?_)))))
    ·exact Zk (Zt (Zs (Zb (dZ [13] (Hg 2 (.div ((u:Nat) / 4)) [.prop (IntKind.i64=IntKind.i64/\(4:Int)≠0/\IntKind.i64.wrap (Int.tdiv (u:Nat) 4)=(u:Nat) / 4)] (aJ ⟨rfl,zb,by rw [Int.tdiv_eq_ediv_of_nonneg za];exact uP za za⟩ aR) (Hx 3 (((u:Nat) / 4):Int) (8:Int) a0 0 1 (Hg 4 (.gen [.int .u32 (s2.getD (Int.toNat ((u:Nat) / 4)) (0:Int))]) [.cell ⟨a0,0+((Int.toNat ((u:Nat) / 4))*1),none⟩ (.int .u32 (s2.getD (Int.toNat ((u:Nat) / 4)) (0:Int)))] (bE (aC.cV (aG a5 1 rfl bB.size (0:Int)) (k:=Int.toNat ((u:Nat) / 4)) zo (j:=0) zb zk) aR) (Hg 6 (.div ((u:Nat) % 4)) [.prop (IntKind.i64=IntKind.i64/\(4:Int)≠0/\Int.tmod (u:Nat) 4=(u:Nat) % 4)] (aJ ⟨rfl,zb,Int.tmod_eq_emod_of_nonneg (by first|omega|exact Int.natCast_nonneg _)⟩ aR) (eT 7 (8*((u:Nat) % 4)) (eT 8 (24-(8*((u:Nat) % 4))) (Hg 10 (.shift (aW .u32 (s2.getD (Int.toNat ((u:Nat) / 4)) (0:Int)) (IntKind.u64.wrap (24-(8*((u:Nat) % 4)))))) [.prop ((0:Int)<=IntKind.u64.wrap (24-(8*((u:Nat) % 4)))/\Int.fdiv (s2.getD (Int.toNat ((u:Nat) / 4)) (0:Int)) (2 ^ (min (Int.toNat (IntKind.u64.wrap (24-(8*((u:Nat) % 4))))) (IntKind.bits .u32)))=aW .u32 (s2.getD (Int.toNat ((u:Nat) / 4)) (0:Int)) (IntKind.u64.wrap (24-(8*((u:Nat) % 4)))))] (aJ ⟨(by first|omega|exact bK rfl _),rfl⟩ aR) (Hx 12 (u:Int) (32:Int) a3 0 1 Hz)))))))) (aL.store rfl rfl zk (b:=a3) (off:=0+(u*1)) (v:=.int .u8 (IntKind.u8.wrap (aW .u32 (s2.getD (Int.toNat ((u:Nat) / 4)) (0:Int)) (IntKind.u64.wrap (24-(8*((u:Nat) % 4))))))) zk zk (ti:=Tryz.t5) zk a5 0 rfl zk zk (by rw [Nat.zero_add];exact gN (f:=aD) (size:=1) (l:=x4) (k:=u) aF.size zo) (cs':=aA aD (x4.set u (IntKind.u8.wrap (aW .u32 (s2.getD (Int.toNat ((u:Nat) / 4)) (0:Int)) (IntKind.u64.wrap (24-(8*((u:Nat) % 4)))))))) (L':=(aB a3 (aA aD (x4.set u (IntKind.u8.wrap (aW .u32 (s2.getD (Int.toNat ((u:Nat) / 4)) (0:Int)) (IntKind.u64.wrap (24-(8*((u:Nat) % 4)))))))) 39)::aB a0 (aA aY s2) 306::Sl (some ⟨a1,0,none⟩) c1 5 1 aD q1::aB b1 ko 39::L) (by rw [Nat.zero_add];exact fO (f:=aD) (size:=1) (l:=x4) (k:=u) aF.size zo (IntKind.u8.wrap (aW .u32 (s2.getD (Int.toNat ((u:Nat) / 4)) (0:Int)) (IntKind.u64.wrap (24-(8*((u:Nat) % 4))))))) rfl λk1 h4=>Lo (Ld (Lm (Lt (Dz (dE (eT 1 ((u:Nat)+1) Hz) (aS.back (u+1,x4.set u (IntKind.u8.wrap (aW .u32 (s2.getD (Int.toNat ((u:Nat) / 4)) (0:Int)) (IntKind.u64.wrap (24-(8*((u:Nat) % 4))))))) [2,6,10,11] zk (by show 32-(u+1)<32-u;omega) ⟨⟨za,by rw [dW,<- hpe.2.1];rfl,by first|rfl|(simp only [List.length_set];omega)⟩,h4⟩)))))))))))
    ·exact Zx (aS.eQ (aS.eR (aS.kI (Zt (Zs (dZ [1] (Hg 0 (.agg (aA aD x4)) [.prop (Array.size (aA aD x4)=32),.cells ⟨a3,0,none⟩ (aA aD x4)] (aJ (bS aF (show(x4).length=32 from zm) rfl) (iN (a5.cells 0 0 rfl zw) aR)) Hz) (aL.store rfl rfl zk (b:=b1) (off:=0) (v:=.agg (aA aD x4)) zk zk (ti:=Tryz.t39) zk a5 3 rfl (cR aF (show(x4).length=32 from zm) zk) (eO aF) (eC aF (show(x4).length=32 from zm) zk) (cs':=aA aD x4) (L':=(aB a3 (aA aD x4) 39)::aB a0 (aA aY s2) 306::Sl (some ⟨a1,0,none⟩) c1 5 1 aD q1::aB b1 (aA aD x4) 39::L) (fA aF (show(x4).length=32 from zm) zk) rfl λk2 b5=>Lo (Ld (Lt (Le (Dz (aS.done (.inl rfl) (v:=.agg (aA aD x4)) (λa hf=>dS rfl zk (ti:=Tryz.t39) zk zk (vs:=aA aD x4) (bS aF (show(x4).length=32 from zm) zk) (b5.cells 3 0 rfl zw) a hf) ⟨(by rw [hpe.2.1,show u=32 by omega,Mr,hpc.2.2.1,show m2=q1.length by omega,a9,<- Mo za]),b5.dr 4⟩))))))))))))
end
section
variable {w0 w : World} {L : List bA} {ad : Option Addr} {c : Nat}
theorem lB (s:List Int):∀ k,∀ z∈ym s k,0<=z/\z<256
 | 0,z,h=>by
  have:=List.eq_of_mem_replicate (show z∈List.replicate 32 (0:Int) from h)
  omega
 | k+1,z,h=>by
  rw [sM] at h
  unfold cG at h
  have w:∀ x:Int,0<=IntKind.u8.wrap x/\IntKind.u8.wrap x<256:=λx=>by
   show 0<=x % 256/\x % 256<256
   omega
  rcases List.mem_append.1 h with h|h
  ·rcases List.mem_append.1 h with h|h
   ·exact lB s k z (List.mem_of_mem_take h)
   ·simp only [Dc,List.mem_cons,List.not_mem_nil,or_false] at h
    rcases h with rfl|rfl|rfl|rfl<;>exact w _
  ·exact lB s k z (List.mem_of_mem_drop h)
theorem Kr (l:List Int):∀ z∈eX l,0<=z/\z<256:=lB _ 8
theorem Bk {a b:List Int}(ha:a.length<=1000000000) (hb:b.length<=1000000000):fR a b=eX (a++b):=by
 unfold fR eX
 show rG (mq (mq Db a) b) (IntKind.u64.wrap ((IntKind.u64.wrap (0+(IntKind.u64.wrap (a.length:Nat))))+(IntKind.u64.wrap (b.length:Nat))))=_
 rw [Mp fB,List.length_append,FN za,show IntKind.u64.wrap (b.length:Nat)=(b.length:Nat) from lj za za,lj za za,FN za]
 rfl
theorem G7 {l:List Int}(h:l.length<=64):FI l=l++List.replicate (64-l.length) 0:=by
 unfold FI kz
 rw [Nat.min_eq_left h,List.take_length,List.take_zero,List.nil_append,Nat.zero_add,List.drop_replicate]
theorem wy {l:List Int}{bv:Int}(h:l.length<=64) (hb:∀ z∈l,0<=z/\z<256):∀ k,∀ z∈mr l bv k,0<=z/\z<256
 | 0,z,hz=>by
  have hz':z∈FI l:=hz
  rw [G7 h] at hz'
  rcases List.mem_append.1 hz' with h1|h1
  ·exact hb z h1
  ·have:=List.eq_of_mem_replicate h1
   omega
 | k+1,z,hz=>by
  have hz':z∈(mr l bv k).set k (bX .u8 ((mr l bv k).getD k 0) bv):=hz
  rcases List.mem_or_eq_of_mem_set hz' with h1|rfl
  ·exact wy h hb k z h1
  ·show 0<=(_:Int) % 256/\(_:Int) % 256<256
   omega
theorem wz l bv (hl:l.length<=64) (hn:ad=none->c=0) (hr:Rw w0 L aD 1 0 ad l) (hs:St w0 L w):Cs Tryz.prog 111 #[.slice ad l.length c,.int .u8 bv] w λrv w'=>∃ ao co,rv=.slice ao ((cU l bv).length) co/\St w0 (Sl ao co 5 1 aD (cU l bv)::L) w':=by
 refine dF Tryz.func111 Tryz.ntmps111 (En (Lq (Ls (Lg [0,2] (Dz (Rj Rs aF hs λb1 w2 a4=>Lo (Lw (aL.append rfl zk Rs aF (ad:=some ⟨b1,0,none⟩) (c:=0) (xs:=([]:List Int)) (ys:=l) (adx:=ad) (cx:=c) (0:Int) zk a4 (hr _ (a4.drop 1)) hn zi zi λa6 c9 w6 a7=>Lz (Ls (Lq (Dz (Zi ((l.length:Int)>64) (λa8=>?_) (λa8=>?_)))))))))))))
 ·exfalso;omega
 ·refine Zk (Zt (Zs (Zb (aX.loop (T:=(List Int)×(Option Addr)×Nat) (λgg=>[(1,.int .u8 bv),(4,.slice none 0 0),(5,.slice gg.2.1 gg.1.length gg.2.2)]) (λgg w=>(l.length<=gg.1.length/\gg.1.length<=64/\gg.1=l++List.replicate (gg.1.length-l.length) 0)/\St w0 (Sl gg.2.1 gg.2.2 5 1 aD gg.1::L) w) (λgg=>64-gg.1.length) (l,a6,c9) [1,4,5] zk ⟨⟨zi,zi,by simp only [List.nil_append,Nat.sub_self,List.replicate_zero,List.append_nil]⟩,a7⟩ ?_))))
  rintro⟨z,c2,c0⟩ c3 ⟨hpa,a1⟩
  dsimp only at hpa a1
  refine En (Ls (Lq (Dz (Zi ((z.length:Int)<64) (λa9=>?_) (λa9=>?_)))))
  ·refine En (Lk (Lt (Lb (Lg [1,2] (Lw (CB Rs aF [(0:Int)] a1 λc4 c5 b0=>Lo (Dz (sD Rs aF (0:Int) (b0.pl 1) zi λb3 b4 c6 b5=>Lo (cI (Lm (Dz ?_)))))))))))
   have b6:=(b5.pl 0).pl 1
   exact aS.back (z++([(0:Int)]),b3,b4) [1,4,5] zk (by show 64-(z++([(0:Int)])).length<64-z.length;simp only [List.length_append,List.length_cons,List.length_nil];omega) ⟨⟨zi,zi,by rw [show(z++[(0:Int)]).length-l.length=(z.length-l.length)+1 by(simp only [List.length_append,List.length_cons,List.length_nil];omega),List.replicate_succ',<- List.append_assoc,<- hpa.2.2]⟩,b6.dr 1⟩
  ·refine En (Lx (mM (mN (Lh (Lt (Ls (Lq (Lb (Dz ?_)))))))))
   have a3:z.length=64:=za
   have hqk:z=FI l:=by rw [G7 hl,hpa.2.2,a3]
   obtain⟨a0,rfl⟩:=Sl.isSome (a1.at_ 0 rfl) za
   refine aX.loop (T:=Nat×(List Int)) (λgg=>[(1,.int .u8 bv),(4,.slice none 0 0),(5,zL a0 0 z.length c0),(7,.int .i64 (gg.1:Nat))]) (λgg w=>(gg.1<=64/\gg.2=mr l bv gg.1/\gg.2.length=64)/\St w0 (Sl (some ⟨a0,0,none⟩) c0 5 1 aD gg.2::L) w) (λgg=>64-gg.1) (0,z) [1,4,5,7] zk ⟨⟨Nat.zero_le _,hqk,a3⟩,a1⟩ ?_
   rintro⟨u,x1⟩ c7 ⟨hpb,a2⟩
   dsimp only at hpb a2
   refine En (Ls (Lq (Dz (Zi ((u:Int)<64) (λb9=>?_) (λb9=>?_)))))
   ·exact Zk (Zt (Zs (Zb (dZ [9] (Hx 4 (u:Int) (z.length:Int) a0 0 1 (Hg 5 (.gen [.int .u8 (x1.getD u 0)]) [.cell ⟨a0,0+(u*1),none⟩ (.int .u8 (x1.getD u 0))] (bE (aC.cV (a2.rows 0 rfl aF.size (0:Int)) (k:=u) zo (j:=0) zb zk) aR) (Hx 8 (u:Int) (z.length:Int) a0 0 1 Hz))) (aL.kO rfl rfl zk (b:=a0) (off:=0+(u*1)) (v:=.int .u8 (bX .u8 (x1.getD u 0) bv)) zk zk (ti:=Tryz.t5) zk a2 0 aF.size rfl zk zk (by rw [Nat.zero_add];exact gI (f:=aD) (size:=1) (l:=x1) (k:=u) (o:=0) (n:=1) aF.size zo zb) (List.length_set ..) (xs':=x1.set u (bX .u8 (x1.getD u 0) bv)) (by rw [Nat.zero_add];exact eN (f:=aD) (size:=1) (l:=x1) (k:=u) (o:=0) aF.size zo (0:Int) (bX .u8 (x1.getD u 0) bv) (Nat.le_of_ble_eq_true rfl) zk) (L':=(Sl (some ⟨a0,0,none⟩) c0 5 1 aD (x1.set u (bX .u8 (x1.getD u 0) bv)))::L) rfl λd1 c1=>Lo (Ld (Lm (Lt (Dz (dE (eT 1 ((u:Nat)+1) Hz) (aS.back (u+1,x1.set u (bX .u8 (x1.getD u 0) bv)) [1,4,5,7] zk (by show 64-(u+1)<64-u;omega) ⟨⟨za,by rw [hpb.2.1];rfl,by simp only [List.length_set];omega⟩,c1⟩)))))))))))
   ·refine En (Lx (mM (mN (Lh (Lt (Lq (Le (Dz (bY (v:=zL a0 0 z.length c0) ?_)))))))))
    have a5:x1=cU l bv:=by rw [hpb.2.1,show u=64 by omega];rfl
    exact⟨some ⟨a0,0,none⟩,c0,by rw [<- a5,hpb.2.2,a3],by rw [<- a5];exact a2⟩
end
section
variable {w0 w : World} {L : List bA}
theorem Ms {key bl:List Int}(hb:bl.length<=100000):eX (cU key 92++eX (cU key 54++bl))=gP key bl:=by
 unfold gP
 rw [Bk zI zQ,Bk zI za]
theorem rL {a b:List Int}(ha:∀ z∈a,0<=z/\z<256) (hb:∀ z∈b,0<=z/\z<256):∀ z∈a++b,0<=z/\z<256:=λz hz=>(List.mem_append.1 hz).elim (ha z) (hb z)
theorem Ks (s:ByteArray):∀ z∈cH s,0<=z/\z<256:=by
 intro z hz
 unfold cH at hz
 obtain⟨x,-,rfl⟩:=List.mem_map.1 hz
 have:=x.toNat_lt
 omega
theorem G8 (n:Int):∀ z∈wd n,0<=z/\z<256:=by
 have w:∀ x:Int,0<=IntKind.u8.wrap x/\IntKind.u8.wrap x<256:=λx=>by
  show 0<=x % 256/\x % 256<256
  omega
 intro z hz
 have h:wd n=[H6 n 0,H6 n 1,H6 n 2,H6 n 3,H6 n 4,H6 n 5,H6 n 6,H6 n 7]:=rfl
 rw [h] at hz
 simp only [List.mem_cons,List.not_mem_nil,or_false] at hz
 rcases hz with rfl|rfl|rfl|rfl|rfl|rfl|rfl|rfl<;>exact w _
theorem zg {p:Prop}(h:p:=by first|omega|(simp only [List.length_append,List.length_cons,List.length_nil,jW,dL,dV,lS,lT,dK];omega)|assumption|decide):p:=h
theorem zj {p:Prop}(h:p:=by first|omega|(simp only [List.length_append,List.length_cons,List.length_nil,jW,dL,dV,lS,lT,dK];omega)):p:=h
theorem Dn {adk:Option Addr}{ck:Nat}{adb:Option Addr}{cb:Nat}key bl (hkl:key.length<=64) (hnk:adk=none->ck=0) (hbl:bl.length<=50000) (hnb:adb=none->cb=0) (hb1:∀ z∈key,0<=z/\z<256) (hb2:∀ z∈bl,0<=z/\z<256) (hr1:Rw w0 L aD 1 0 adk key) (hr2:Rw w0 L aD 1 0 adb bl) (hs:St w0 L w):Cs Tryz.prog 62 #[.slice adk key.length ck,.slice adb bl.length cb] w λrv w'=>rv=.agg (aA aD (gP key bl))/\St w0 L w':=by
 refine dF Tryz.func62 Tryz.ntmps62 (En (Ls (Lg [0] (Dz (tW (bW.cells aI) hs λb1 w2 a7=>Lo (Ld (Lt (Ls (Lg [1,3,4,5,6] (Lw (Zc (wz key 54 zg hnk (λw h=>hr1 _ (h.drop 1)) a7) ?_)))))))))))
 rintro v7 w8 ⟨a8,a9,rfl,a0⟩
 refine Lo (Lw (aL.append rfl zk Rs aF (ad:=a8) (c:=a9) (xs:=cU key 54) (ys:=bl) (adx:=adb) (cx:=cb) (0:Int) zk a0 (hr2 _ (a0.drop 2)) hnb zj zj λa1 a2 w9 a3=>Lo (Dz (CH (sP ((cU key 54)++bl) zg (a3.hZ 0 rfl) (rL (wy (by first|omega|assumption) hb1 64) hb2) (λw h=>h.rows 0 rfl aF.size _) a3) λc3 b0=>Lo (Dz (tW (bW.cells aI) b0 λu c4 b2=>Lo (Dz (aL.store rfl rfl zk (b:=u) (off:=0) (v:=.agg (aA aD (eX ((cU key 54)++bl)))) zk zk (ti:=Tryz.t39) zk b2 0 rfl (cR aF (show(eX ((cU key 54)++bl)).length=32 from(dL _)) zk) (eO aF) (eC aF (show(eX ((cU key 54)++bl)).length=32 from(dL _)) zk) (cs':=aA aD (eX ((cU key 54)++bl))) (L':=(aB u (aA aD (eX ((cU key 54)++bl))) 39)::Sl a1 a2 5 1 aD ((cU key 54)++bl)::aB b1 (bW.cells aI) 39::L) (fA aF (show(eX ((cU key 54)++bl)).length=32 from(dL _)) zk) rfl λc5 b3=>Lo (Ld (Lt (Ls (Dz (ZD (gE [0,2] (.ef 1 (.ef 3 (.ef 4 (.ef 5 .done))))) b3 λc6 b4 c7=>Zj (Hg 2 (.dH (zL u 0 32 32) (.sub 0 32)) [.prop (((none:Option Operand)=none->(0:Nat)=0)/\((none:Option Operand)=none->(32:Nat)=32)/\(0:Nat)<=32/\(32:Nat)<=32),.prop (Value.slice (some (if 32=0 then Addr.mk u 0 none else (Addr.mk u 0 none).add (0*1))) (32-0) (32-0)=Value.slice (some ⟨u,0,none⟩) 32 32)] (aJ ⟨(by first|(intro _;rfl)|(intro hc;cases hc)),(by first|(intro _;rfl)|(intro hc;cases hc)),za,za⟩ (aJ (eM _ _ _ _ _ zb) aR)) Hz) (Zc (wz key 92 zg hnk (λw h=>hr1 _ (h.drop 3)) b4) ?_))))))))))))))
 rintro c9 d1 ⟨b5,b6,rfl,a4⟩
 exact⟨gR (n:=[.prop (((none:Option Operand)=none->(0:Nat)=0)/\((none:Option Operand)=none->(32:Nat)=32)/\(0:Nat)<=32/\(32:Nat)<=32),.prop (Value.slice (some (if 32=0 then Addr.mk u 0 none else (Addr.mk u 0 none).add (0*1))) (32-0) (32-0)=Value.slice (some ⟨u,0,none⟩) 32 32)]) zk (aJ ⟨(by first|(intro _;rfl)|(intro hc;cases hc)),(by first|(intro _;rfl)|(intro hc;cases hc)),za,za⟩ (aJ (eM _ _ _ _ _ zb) aR)),(aL.append rfl zk Rs aF (ad:=b5) (c:=b6) (xs:=cU key 92) (ys:=eX ((cU key 54)++bl)) (adx:=some ⟨u,0,none⟩) (cx:=32) (0:Int) zk a4 (aG a4 1 rfl aF.size (0:Int)) (λh=>nomatch h) zj zj λb7 b9 d2 a5=>Lo (Dz (CH (sP ((cU key 92)++(eX ((cU key 54)++bl))) zg (a5.hZ 0 rfl) (rL (wy (by first|omega|assumption) hb1 64) (Kr _)) (λw h=>h.rows 0 rfl aF.size _) a5) λd4 c0=>Lo (Dz (aL.store rfl rfl zk (b:=b1) (off:=0) (v:=.agg (aA aD (eX ((cU key 92)++(eX ((cU key 54)++bl)))))) zk zk (ti:=Tryz.t39) zk c0 3 rfl (cR aF (show(eX ((cU key 92)++(eX ((cU key 54)++bl)))).length=32 from(dL _)) zk) (eO aF) (eC aF (show(eX ((cU key 92)++(eX ((cU key 54)++bl)))).length=32 from(dL _)) zk) (cs':=aA aD (eX ((cU key 92)++(eX ((cU key 54)++bl))))) (L':=(Sl b7 b9 5 1 aD ((cU key 92)++(eX ((cU key 54)++bl))))::aB u (aA aD (eX ((cU key 54)++bl))) 39::Sl a1 a2 5 1 aD ((cU key 54)++bl)::aB b1 (aA aD (eX ((cU key 92)++(eX ((cU key 54)++bl))))) 39::L) (fA aF (show(eX ((cU key 92)++(eX ((cU key 54)++bl)))).length=32 from(dL _)) zk) rfl λd5 a6=>Lo (Ld (Lt (Le (Dz (aS.done (.inl rfl) (v:=.agg (aA aD (eX ((cU key 92)++(eX ((cU key 54)++bl)))))) (λa hf=>dS rfl zk (ti:=Tryz.t39) zk zk (vs:=aA aD (eX ((cU key 92)++(eX ((cU key 54)++bl))))) (bS aF (show(eX ((cU key 92)++(eX ((cU key 54)++bl)))).length=32 from(dL _)) zk) (a6.cells 3 0 rfl zw) a hf) ⟨(by rw [Ms za]),a6.dr 4⟩))))))))))⟩
end
section
variable {w0 w : World} {L : List bA} {ad : Option Addr} {c : Nat}
theorem FW l n (hl:l.length<=900000) (hn0:ad=none->c=0) (hn:0<=n/\n<=18446744073709551615) (hr:Rw w0 L aD 1 0 ad l) (hs:St w0 L w):Cs Tryz.prog 158 #[.slice ad l.length c,.int .u64 n,.int .i64 8] w λrv w'=>∃ ao co,rv=.slice ao ((l++wd n).length) co/\St w0 (Sl ao co 5 1 aD (l++wd n)::L) w':=by
 refine enter (args:=[.slice ad l.length c,.int .u64 n,.int .i64 8]) Tryz.func158 rfl Tryz.ntmps158 (Nat.le_of_ble_eq_true zk) (Zn [(0,.slice ad l.length c),(1,.int .u64 n),(2,.int .i64 8)] (Zs (eV (.rd 0 .done) (Zr 0 1 [] (Zd (Zt (Zs (eV (.ef 0 (.rd 1 (.ef 2 (.rd 3 .done)))) (Rj Rs aF hs λb1 w2 a1=>⟨gS,Zr 1 1 [] (aL.append rfl zk Rs aF (ad:=some ⟨b1,0,none⟩) (c:=0) (xs:=([]:List Int)) (ys:=l) (adx:=ad) (cx:=c) (0:Int) zk a1 (hr _ (a1.drop 1)) hn0 (by first|omega|(simp only [List.length_nil];omega)|(rw [hp.2.2,List.length_append,gJ];simp only [List.length_cons,List.length_nil];omega)) (by first|omega|(simp only [List.length_nil];omega)|(rw [hp.2.2,List.length_append,gJ];simp only [List.length_cons,List.length_nil];omega)) λa3 c9 w6 a4=>⟨gS,Zr 3 1 [] (Zd (Zt (Zs (Zs (eV (.rd 0 (.rd 1 (.rd 2 .done))) (Zr 0 3 [] (Zd (Zt (Zb (aX.loop (T:=Nat×Int×(List Int)×(Option Addr)×Nat) (λgg=>[(1,.int .u64 n),(6,.slice none 0 0),(7,.slice gg.2.2.2.1 gg.2.2.1.length gg.2.2.2.2),(8,.int .i64 gg.2.1)]) (λgg w=>(gg.1<=8/\gg.2.1=7-(gg.1:Nat)/\gg.2.2.1=l++CP n gg.1)/\St w0 (Sl gg.2.2.2.1 gg.2.2.2.2 5 1 aD gg.2.2.1::L) w) (λgg=>8-gg.1) (0,7,l,a3,c9) [1,6,7,8] zk ⟨⟨by first|omega|(simp only;omega),by first|omega|(simp only;omega),by simp only [List.nil_append];exact(List.append_nil _).symm⟩,a4⟩ ?_))))))))))⟩)⟩)))))))))
 rintro⟨x,z,q,a2,c1⟩ b4 ⟨hp,u⟩
 dsimp only at hp u
 refine Zs (Zs (eV (.rd 0 (.rd 1 .done)) (Zr 0 2 [] (Zd (Zt (eZ (t:=decide ((z:Int) >= 0)) (λa0=>?_) (λa0=>?_)))))))
 ·have a5:=of_decide_eq_true a0
  refine Zk (Zt (Zs (Zb (eV (.rd 0 (.rd 1 (.rd 2 (.rd 3 (.rd 4 (.rd 5 (.rd 6 (.ef 7 (.ef 8 (.rd 9 .done)))))))))) (Zp 0 7 [(3,.dH (.int .i64 (8*z)) (.gen [])),(5,.shift (aW .u64 n (IntKind.u64.wrap (8*z))))] [(3,[.prop (Value.int .i64 (IntKind.i64.wrap (8*z))=Value.int .i64 (8*z))]),(5,[.prop ((0:Int)<=IntKind.u64.wrap (8*z)/\Int.fdiv n (2 ^ (min (Int.toNat (IntKind.u64.wrap (8*z))) (IntKind.bits .u64)))=aW .u64 n (IntKind.u64.wrap (8*z)))])] (ak (aJ (iD za za) aR) (ak (aJ ⟨(by first|omega|exact bK rfl _),rfl⟩ aR) iF)) (CB Rs aF [(IntKind.u8.wrap (aW .u64 n (IntKind.u64.wrap (8*z))):Int)] u λb5 b6 a6=>⟨gS,(sD Rs aF (0:Int) (a6.pl 1) (by first|omega|(simp only [List.length_nil];omega)|(rw [hp.2.2,List.length_append,gJ];simp only [List.length_cons,List.length_nil];omega)) λa8 a9 b7 b0=>⟨gS,Zr 9 1 [] (Zd (Zm (Zt (eV (.rd 0 (.rd 1 (.rd 2 .done))) (Zp 0 3 [(1,.dH (.int .i64 (z-1)) (.gen []))] [(1,[.prop (Value.int .i64 (IntKind.i64.wrap (z-1))=Value.int .i64 (z-1))])] (ak (aJ (iD za za) aR) iF) (Zd ?_))))))⟩)⟩))))))
  have b2:=(b0.pl 0).pl 1
  exact aS.back (x+1,z-1,q++([(IntKind.u8.wrap (aW .u64 n (IntKind.u64.wrap (8*z))):Int)]),a8,a9) [1,6,7,8] zk (by show 8-(x+1)<8-x;omega) ⟨(by refine⟨by first|omega|(simp only;omega),by first|omega|(simp only;omega),?_⟩;rw [hp.2.2,List.append_assoc,hp.2.1];exact congrArg (l++·) (CY n x za)),b2.dr 1⟩
 ·have a5:=of_decide_eq_false a0
  refine Zx (aS.eQ (aS.eR (aS.kI (Zt (Zs (eV (.rd 0 (.rd 1 .done)) (Zr 0 2 [] (Zd (Zt (Ze (bY (v:=.slice a2 q.length c1) ?_)))))))))))
  have hx:x=8:=za
  have hq:q=l++wd n:=by rw [hp.2.2,hx];rfl
  subst hq
  exact⟨a2,c1,rfl,u⟩
theorem Dp l n (hl:l.length<=900000) (hn0:ad=none->c=0) (hn:0<=n/\n<=18446744073709551615) (hr:Rw w0 L aD 1 0 ad l) (hs:St w0 L w):Cs Tryz.prog 100 #[.slice ad l.length c,.int .u64 n] w λrv w'=>∃ ao co,rv=.slice ao ((l++wd n).length) co/\St w0 (Sl ao co 5 1 aD (l++wd n)::L) w':=by
 refine enter (args:=[.slice ad l.length c,.int .u64 n]) Tryz.func100 rfl Tryz.ntmps100 (Nat.le_of_ble_eq_true zk) (Zn [(0,.slice ad l.length c),(1,.int .u64 n)] (Zs (eV (.rd 0 .done) (Zr 0 1 [] (Zd (Zt (Zs (eV (.rd 0 (.rd 1 (.ef 2 (.rd 3 .done)))) (Zr 0 2 [] (dJ (f:=158) (args:=#[.slice ad l.length c,.int .u64 n,.int .i64 8]) Tryz.call158 (FW l n zg hn0 za (λw h=>hr _ (h.drop 0)) hs) ?_))))))))))
 rintro v4 w5 ⟨u,z,rfl,a0⟩
 exact⟨gS,Zr 3 1 [] (Zd (Zt (Ze (bY (v:=.slice u ((l++wd n).length) z) ⟨u,z,rfl,a0⟩))))⟩
theorem G9 {wrd:ByteArray}{i:Int}(h:wrd.size<=1000):eX (cH wrd++wd i)=rH wrd i:=by
 unfold rH
 rw [Bk (by rw [dK];omega) (by rw [List.nil_append,dV];decide),List.nil_append]
theorem Kt (wrd:ByteArray) (i:Int):∀ z∈rH wrd i,0<=z/\z<256:=lB _ 8
theorem zX wrd i most (hi:1<=i) (him:i<=most) (hmost:most<=100) (hws:wrd.size<=1000) (hwz:wrd.size<=1000000000) (hs:St w0 L w):Cs Tryz.prog 112 #[.string wrd,.int .i64 i,.int .i64 most] w λrv w'=>∃ ao co,rv=.slice ao ((rH wrd i).length) co/\St w0 (Sl ao co 5 1 aD (rH wrd i)::L) w':=by
 refine enter (args:=[.string wrd,.int .i64 i,.int .i64 most]) Tryz.func112 rfl Tryz.ntmps112 (Nat.le_of_ble_eq_true zk) (Zn [(0,.string wrd),(1,.int .i64 i),(2,.int .i64 most)] (Zs (eV (.rd 0 .done) (Zr 0 1 [] (Zd (Zt (Zs (Zs (aX.join (T:=Unit) (E:=λ_=>[(14,.bool ((decide ((i:Int)<1)) || (decide ((i:Int)>most)))),(6,.slice none 0 0),(0,.string wrd),(1,.int .i64 i)]) (F:=λ_ w=>St w0 L w) ?_ ?_)))))))))
 ·refine eV (.rd 0 (.rd 1 (.rd 2 (.rd 3 (.rd 4 (.rd 5 (.rd 6 .done))))))) (Zr 0 3 [] (iy 10 (decide ((i:Int)<1)) (λh1=>?_) (λh1=>?_)))
  ·exact Zr 3 4 [] (Zd (lM [14,6,0,1] () true (by first|rfl|simp [Hb,h1]) hs))
  ·exact Zr 3 4 [] (Zd (lM [14,6,0,1] () (decide ((i:Int)>most)) (by first|rfl|simp [Hb,h1]) hs))
 intro _ w2 a7
 refine Zt (eZ (t:=(decide ((i:Int)<1)) || (decide ((i:Int)>most))) (λh4=>?_) (λh4=>?_))
 ·exfalso;rcases Bool.or_eq_true_iff.1 h4 with z|z
  ·have:=of_decide_eq_true z;omega
  ·have:=of_decide_eq_true z;omega
 ·have a8:=(Bool.or_eq_false_iff.1 h4).1
  have a9:(decide ((i:Int)>most))=false:=(Bool.or_eq_false_iff.1 h4).2
  refine Zk (Zt (Zs (eV (.rd 0 (.ef 1 (.rd 2 (.rd 3 (.ef 4 (.ef 5 (.ef 6 (.ef 7 .done)))))))) (Zr 0 1 [] (aL.De rfl zk (src:=9) (dst:=66) (e:=5) (f:=aD) rfl wrd zk zk zk zk hwz a7 λb5 m6 w7 b0=>?_)))))
  have hsb:=dK wrd
  refine⟨gS,Zp 2 2 [(3,.dH (.int .u64 i) (.gen []))] [(3,[.prop (Value.int .u64 (IntKind.u64.wrap i)=Value.int .u64 i)])] (ak (aJ (pQ za za) aR) iF) (dJ (f:=100) (args:=#[zL b5 0 ((cH wrd).length) ((cH wrd).length+m6),.int .u64 i]) Tryz.call100 (Dp (cH wrd) i zg (λh=>nomatch h) za (λw h=>uh h 0 rfl) b0) ?_)⟩
  rintro c2 c3 ⟨a0,a1,rfl,a2⟩
  refine⟨gS,dJ (f:=110) (args:=#[.slice a0 (((cH wrd)++wd i).length) a1]) Tryz.call110 (sP ((cH wrd)++wd i) zg (a2.hZ 0 rfl) (rL (Ks _) (G8 _)) (λw h=>h.rows 0 rfl aF.size _) a2) ?_⟩
  rintro c4 c5 ⟨rfl,b1⟩
  refine⟨gS,(tW (bW.cells aI) b1 λu c6 b2=>⟨gS,(aL.store rfl rfl zk (b:=u) (off:=0) (v:=.agg (aA aD (eX ((cH wrd)++wd i)))) zk zk (ti:=Tryz.t39) zk b2 0 rfl (cR aF (show(eX ((cH wrd)++wd i)).length=32 from(dL _)) zk) (eO aF) (eC aF (show(eX ((cH wrd)++wd i)).length=32 from(dL _)) zk) (cs':=aA aD (eX ((cH wrd)++wd i))) (L':=(aB u (aA aD (eX ((cH wrd)++wd i))) 39)::Sl a0 a1 5 1 aD ((cH wrd)++wd i)::aB b5 (aA aD (cH wrd++List.replicate m6 0)) 5::L) (fA aF (show(eX ((cH wrd)++wd i)).length=32 from(dL _)) zk) rfl λc7 b3=>⟨gS,Zd (Zt (Zs (eV (.ef 0 (.rd 1 (.ef 2 (.rd 3 .done)))) (Rj Rs aF b3 λb4 c9 a3=>⟨gS,Zp 1 1 [(1,.dH (zL u 0 32 32) (.sub 0 32))] [(1,[.prop (((none:Option Operand)=none->(0:Nat)=0)/\((none:Option Operand)=none->(32:Nat)=32)/\(0:Nat)<=32/\(32:Nat)<=32),.prop (Value.slice (some (if 32=0 then Addr.mk u 0 none else (Addr.mk u 0 none).add (0*1))) (32-0) (32-0)=Value.slice (some ⟨u,0,none⟩) 32 32)])] (ak (aJ ⟨(by first|(intro _;rfl)|(intro hc;cases hc)),(by first|(intro _;rfl)|(intro hc;cases hc)),za,za⟩ (aJ (eM _ _ _ _ _ zb) aR)) iF) (aL.append rfl zk Rs aF (ad:=some ⟨b4,0,none⟩) (c:=0) (xs:=([]:List Int)) (ys:=eX ((cH wrd)++wd i)) (adx:=some ⟨u,0,none⟩) (cx:=32) (0:Int) zk a3 (aG a3 1 rfl aF.size (0:Int)) (λh=>nomatch h) zj zj λa4 a5 d1 b6=>⟨gS,Zr 3 1 [] (Zd (Zt (Ze (bY (v:=.slice a4 ((eX ((cH wrd)++wd i)).length) a5) ?_))))⟩)⟩))))⟩)⟩)⟩
  have b7:=(((b6.pl 0).pl 3).pl 3).pl 3
  exact⟨a4,a5,by simp only [G9 hws,lS,dL,List.length_append,List.length_nil,Nat.zero_add],by have z:=(b7.dr 3);rw [List.nil_append,G9 hws] at z;exact z⟩
end
section
variable {w0 w : World} {L : List bA}
theorem IK i (hi:1<=i) (him:i<=11) (hs:St w0 L w):Cs Tryz.prog 99 #[.int .i64 i] w λrv w'=>∃ ao co,rv=.slice ao ((jk i).length) co/\St w0 (Sl ao co 5 1 aD (jk i)::L) w':=by
 refine dF Tryz.func99 Tryz.ntmps99 (En (Lq (Ls (Lg [1] (Lw (Zc (zX (⟨#[114,97,116,99,104,101,116,32,114,101,112,108,105,99,97]⟩:ByteArray) i 11 za za za zb zb hs) ?_))))))
 rintro v4 w5 ⟨u,z,rfl,a0⟩
 exact Lz (Le (Dz (bY (v:=.slice u ((rH (⟨#[114,97,116,99,104,101,116,32,114,101,112,108,105,99,97]⟩:ByteArray) i).length) z) ⟨u,z,rfl,a0⟩)))
theorem IL {adb:Option Addr}{cb:Nat}i n bl (hi:1<=i) (him:i<=11) (hn:0<=n/\n<18446744073709551616) (hb:bl.length<=2000) (hnb:adb=none->cb=0) (hb2:∀ z∈bl,0<=z/\z<256) (hr:Rw w0 L aD 1 0 adb bl) (hs:St w0 L w):Cs Tryz.prog 51 #[.int .i64 i,.int .u64 n,.slice adb bl.length cb] w λrv w'=>rv=.agg (aA aD (Ml i n bl))/\St w0 L w':=by
 refine dF Tryz.func51 Tryz.ntmps51 (En (Ls (Lg [0] (Dz (tW (bW.cells aI) hs λb1 w2 a2=>Lo (Ld (Lt (Ls (Lg [1,3,5,6,7] (Lw (Zc (IK i za za a2) ?_)))))))))))
 rintro v7 w8 ⟨a3,a4,rfl,a5⟩
 refine Lo (Lw (dJ (f:=100) (args:=#[.slice none (([]:List Int).length) 0,.int .u64 n]) Tryz.call100 (ig ([]:List Int) n zg za (St.eB a5 5 1 aD)) ?_))
 rintro b4 b5 ⟨a7,a8,rfl,a0⟩
 exact Lo (Lw (aL.append rfl zk Rs aF (ad:=a7) (c:=a8) (xs:=([]:List Int)++wd n) (ys:=bl) (adx:=adb) (cx:=cb) (0:Int) zk a0 (hr _ (a0.drop 3)) hnb zj zj λa9 b0 b6 u=>Lo (Dz (CH (Dn (jk i) ((([]:List Int)++wd n)++bl) zg (u.hZ 1 rfl) zg (u.hZ 0 rfl) (Kt _ _) (rL (rL (λz hz=>nomatch hz) (G8 _)) hb2) (λw h=>h.rows 1 rfl aF.size _) (λw h=>h.rows 0 rfl aF.size _) u) λb9 b2=>Lo (Dz (aL.store rfl rfl zk (b:=b1) (off:=0) (v:=.agg (aA aD (gP (jk i) ((([]:List Int)++wd n)++bl)))) zk zk (ti:=Tryz.t39) zk b2 2 rfl (cR aF (show(gP (jk i) ((([]:List Int)++wd n)++bl)).length=32 from(eJ _ _)) zk) (eO aF) (eC aF (show(gP (jk i) ((([]:List Int)++wd n)++bl)).length=32 from(eJ _ _)) zk) (cs':=aA aD (gP (jk i) ((([]:List Int)++wd n)++bl))) (L':=(Sl a9 b0 5 1 aD ((([]:List Int)++wd n)++bl))::Sl a3 a4 5 1 aD (jk i)::aB b1 (aA aD (gP (jk i) ((([]:List Int)++wd n)++bl))) 39::L) (fA aF (show(gP (jk i) ((([]:List Int)++wd n)++bl)).length=32 from(eJ _ _)) zk) rfl λc0 a1=>Lo (Ld (Lt (Le (Dz (aS.done (.inl rfl) (v:=.agg (aA aD (gP (jk i) ((([]:List Int)++wd n)++bl)))) (λa hf=>dS rfl zk (ti:=Tryz.t39) zk zk (vs:=aA aD (gP (jk i) ((([]:List Int)++wd n)++bl))) (bS aF (show(gP (jk i) ((([]:List Int)++wd n)++bl)).length=32 from(eJ _ _)) zk) (a1.cells 2 0 rfl zw) a hf) ⟨rfl,a1.dr 3⟩)))))))))))
theorem FX {adb:Option Addr}{cb:Nat}(i n:Int) bl (hi:1<=i) (him:i<=11) (hn:0<=n/\n<18446744073709551616) (hb:bl.length<=2000) (hnb:adb=none->cb=0) (hb2:∀ z∈bl,0<=z/\z<256) (hr:Rw w0 L aD 1 0 adb bl) (hs:St w0 L w) :
 Cs Tryz.prog 51 #[.int .i64 i,.int .u64 n,.slice adb bl.length cb] w λrv w'=>rv=.agg (bW.cells (mE i n bl))/\St w0 L w':=by
 rw [mE,<- Mb (oF i n bl)]
 exact IL i n bl hi him hn hb hnb hb2 hr hs
end
section
variable {w0 w : World} {L : List bA}
def kD (m:aK):Bool:=if gv m=true then decide (m.tg=mE m.og m.nr (pZ m)) else false
theorem Ql {a b:Int}(ha:0<=a/\a<256) (hb:0<=b/\b<256):0<=bX .u8 a b/\bX .u8 a b<256/\(bX .u8 a b=0↔a=b):=by
 obtain⟨a,rfl⟩:∃ n:Nat,a=n:=⟨a.toNat,za⟩
 obtain⟨b,rfl⟩:∃ n:Nat,b=n:=⟨b.toNat,za⟩
 have e:bX .u8 (a:Int) (b:Int)=((a ^^^ b:Nat):Int):=by
  show IntKind.u8.wrap (((BitVec.ofInt 8 (a:Int) ^^^ BitVec.ofInt 8 (b:Int)).toNat:Nat):Int)=_
  rw [BitVec.ofInt_natCast,BitVec.ofInt_natCast,BitVec.toNat_xor,BitVec.toNat_ofNat,BitVec.toNat_ofNat,Nat.mod_eq_of_lt za,Nat.mod_eq_of_lt za]
  have h:=Nat.xor_lt_two_pow (n:=8) (x:=a) (y:=b) za za
  show((a ^^^ b:Nat):Int) % 256=_
  omega
 have h:=Nat.xor_lt_two_pow (n:=8) (x:=a) (y:=b) za za
 rw [e]
 refine⟨za,za,⟨λh0=>?_,λh0=>?_⟩⟩
 ·have u:a ^^^ b=0:=za
  have w:a ^^^ (a ^^^ b)=b:=by rw [<- Nat.xor_assoc,Nat.xor_self,Nat.zero_xor]
  rw [u,Nat.xor_zero] at w
  omega
 ·have:a=b:=za
  subst this
  rw [Nat.xor_self]
  rfl
theorem Rg {a b:Int}(ha:0<=a/\a<256) (hb:0<=b/\b<256):0<=jQ .u8 a b/\jQ .u8 a b<256/\(jQ .u8 a b=0↔a=0/\b=0):=by
 obtain⟨a,rfl⟩:∃ n:Nat,a=n:=⟨a.toNat,za⟩
 obtain⟨b,rfl⟩:∃ n:Nat,b=n:=⟨b.toNat,za⟩
 have h:=Nat.or_lt_two_pow (n:=8) (x:=a) (y:=b) za za
 have e:jQ .u8 (a:Int) (b:Int)=((a ||| b:Nat):Int):=by
  show IntKind.u8.wrap (((BitVec.ofInt 8 (a:Int) ||| BitVec.ofInt 8 (b:Int)).toNat:Nat):Int)=_
  rw [BitVec.ofInt_natCast,BitVec.ofInt_natCast,BitVec.toNat_or,BitVec.toNat_ofNat,BitVec.toNat_ofNat,Nat.mod_eq_of_lt za,Nat.mod_eq_of_lt za]
  show((a ||| b:Nat):Int) % 256=_
  omega
 rw [e]
 refine⟨za,za,⟨λh0=>?_,λh0=>?_⟩⟩
 ·have u:a ||| b=0:=za
  have w:a<=a ||| b:=Nat.left_le_or
  have z:b<=a ||| b:=Nat.right_le_or
  omega
 ·have u:a=0:=za
  have w:b=0:=za
  subst u w
  rfl
theorem Dq {x y:List Int}(hx:∀ j,0<=x.getD j 0/\x.getD j 0<256) (hy:∀ j,0<=y.getD j 0/\y.getD j 0<256):∀ k,(0<=we x y k/\we x y k<256)/\(we x y k=0↔∀ j,j<k->x.getD j 0=y.getD j 0)
 | 0=>⟨by show(0:Int)<=0/\(0:Int)<256;omega,λ_ j h=>absurd h (Nat.not_lt_zero _),λ_=>rfl⟩
 | k+1=>by
  have ih:=Dq hx hy k
  have h1:=Ql (hx k) (hy k)
  have h2:=Rg ih.1 ⟨h1.1,h1.2.1⟩
  refine⟨⟨h2.1,h2.2.1⟩,?_⟩
  show jQ .u8 (we x y k) (bX .u8 (x.getD k 0) (y.getD k 0))=0↔_
  rw [h2.2.2,ih.2,h1.2.2]
  constructor
  ·intro h j hj
   by_cases e:j=k
   ·subst e;exact h.2
   ·exact h.1 j za
  ·exact λh=>⟨λj hj=>h j za,h k za⟩
theorem Dt {l:List Int}(h:∀ z∈l,0<=z/\z<256) (j:Nat):0<=l.getD j 0/\l.getD j 0<256:=by
 by_cases hj:j<l.length
 ·exact h _ (bJ (d:=(0:Int)) hj)
 ·rw [List.getD_eq_getElem?_getD,List.getElem?_eq_none za]
  decide
theorem oG {t v:bW}(ht:∀ z∈t.toList,0<=z/\z<256) (hv:∀ z∈v.toList,0<=z/\z<256):ui t.toList v.toList=decide (t=v):=by
 have h:=(Dq (Dt ht) (Dt hv) 32).2
 unfold ui
 by_cases e:t=v
 ·subst e
  rw [decide_eq_true rfl,h.2 λ_ _=>rfl]
  rfl
 ·rw [decide_eq_false e]
  refine beq_eq_false_iff_ne.2 λh0=>e ?_
  have u:=h.1 h0
  have w:t.toList=v.toList:=List.ext_getElem (by rw [bW.len,bW.len]) λj hj hj'=>by
   rw [bW.len] at hj
   have:=u j hj
   rw [List.getD_eq_getElem?_getD,List.getD_eq_getElem?_getD,List.getElem?_eq_getElem (by rw [bW.len];exact hj),List.getElem?_eq_getElem (by rw [bW.len];exact hj)] at this
   exact this
  exact(oh t).symm.trans ((congrArg jV w).trans (oh v))
theorem Ha {l:List Int}(h:l.length=32):(jV l).toList=l:=by
 unfold jV
 exact List.take_left' h
theorem Du (i n:Int) (bl:List Int):∀ z∈(mE i n bl).toList,0<=z/\z<256:=by
 unfold mE
 rw [Ha (oF i n bl)]
 exact lB _ 8
theorem FY m (hm:lP m) (hTab:∀ w,St w0 L w->kA w) (hr:Rw w0 L bu.cells 2 bG m.bd.qa m.bd.ql) (hs:St w0 L w):Cs Tryz.prog 132 #[.agg (aK.cells m)] w λrv w'=>rv=.bool (kD m)/\St w0 L w':=by
 refine dF Tryz.func132 Tryz.ntmps132 (En (Ls (Lg [0] (Dz (mT (aK.cells m) hs λb1 w2 a3=>Lz (Ls (Dz (ZD (.rd 0 (.ef 1 (gE [2,3,4,5,6,7,9,10] (.ef 8 (.ef 11 (gE [12,13] .done)))))) a3 λw4 a2 a7=>Zj (hP 0 0 0 121 (aK.cells m) a2 Hz) (dJ (f:=93) (args:=#[.agg (aK.cells m)]) Tryz.call93 (C3 m zc (λw h=>hr _ (h.drop 1)) a2) ?_)))))))))
 rintro v8 w9 ⟨rfl,u⟩
 refine Lo (Dz (Zr 2 1 [] (iy 5 (gv m) (λa1=>?_) (λa1=>?_))))
 ·have hmt:=vY a1
  have htl:=vU a1
  have htb:∀ z∈pZ m,0<=z/\z<256:=GZ hm
  have hby:pN m=pZ m:=if_pos a1
  have hbl:(pN m).length<=1024:=by rw [hby];omega
  refine Zj (Hl 4 0 0 u (Hl 6 0 1 u (hP 7 0 0 121 (aK.cells m) u (hP 10 0 89 32 (bW.cells m.tg) u Hz)))) (dJ (f:=194) (args:=#[.agg (aK.cells m)]) Tryz.call194 (C4 m zc (by assumption) (λw h=>hr _ (h.drop 1)) u) ?_)
  rintro a8 a9 ⟨b0,b2,rfl,a0⟩
  exact⟨gR (n:=[.prop (Array.size (bW.cells m.tg)=32),.cells ⟨b1,89,none⟩ (bW.cells m.tg),.cell ⟨b1,1,none⟩ (.int .u64 m.nr),.cell ⟨b1,0,none⟩ (.int .i64 m.og)]) zk (aJ zk (iN (a0.cells 1 89 rfl zk) (bE (a0.cell 1 rfl zk) (bE (a0.cell 1 rfl zk) aR)))),(CH (ID m.og m.nr (pZ m) m.tg za za za za za (a0.hZ 0 rfl) (Sl.cap (a0.at_ 0 rfl)) (λw h=>hTab w (h.drop 2)) (λw h=>h.rows 0 rfl aF.size _) a0) λb4 a4=>Lz (Le (Dz (bY (v:=.bool (ui m.tg.toList (mE m.og m.nr (pZ m)).toList)) ⟨(by unfold kD;rw [if_pos (by assumption),oG hm.tg (Du _ _ _)]),a4.dr 2⟩))))⟩
 ·exact En (Lw (qR (qR (En (cI (Lt (Le (Dz (bY (v:=.bool false) ⟨(by unfold kD;rw [if_neg (by simp [*])]),u.dr 1⟩)))))))))
end
end Go.Proofs.YthfpmlpoiocfdaaGreatDoor
