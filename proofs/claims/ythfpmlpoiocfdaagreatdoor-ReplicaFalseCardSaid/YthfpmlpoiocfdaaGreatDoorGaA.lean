/-
  Several texts in one: OctA, SxS, OctB, OctW, OctN, TbA, TbB, TbC, TbD, TcA, TbE.
-/
import Derived.Test.YthfpmlpoiocfdaaGreatDoorProg
import Derived.Test.YthfpmlpoiocfdaaGreatDoorSxVx
namespace Go.Proofs.YthfpmlpoiocfdaaGreatDoor
open Go.RowKit Go.Sx
set_option linter.unusedVariables false
set_option linter.unusedSimpArgs false
set_option linter.unnecessarySimpa false
set_option maxRecDepth 100000
section
variable {w0 w : World} {L : List bA}
def aD (n:Int):Array Value:=#[.int .u8 n]
theorem aF:fD aD 1:=⟨λ_=>rfl,λ_=>rfl⟩
theorem Rs:hU Tryz.prog 66 5 1 1:=⟨zk,⟨Tryz.t5,.int .u8 0,zk,zk,zk,zk,zk⟩,zb⟩
theorem CM {b:Nat}{c:Nat}l (hl:l.length<=1000000000000) (hs:St w0 (Sl (some ⟨b,0,none⟩) c 5 1 aD l::L) w):Cs Tryz.prog 177 #[zL b 0 l.length c] w λrv w'=>∃ ao co,rv=.slice ao l.length co/\St w0 (Sl ao co 5 1 aD l::Sl (some ⟨b,0,none⟩) c 5 1 aD l::L) w':=by
 refine dF Tryz.func177 Tryz.ntmps177 (En (Lq (Ls (Lq (LF (Lk (Lt (Ls (Lg [0,2] (Dz (aL.gT rfl zk (t:=66) (e:=5) zk zk (ti:=Tryz.t5) zk hs λi o q u=>?_)))))))))))
 have x:St w0 (Sl (some ⟨i,0,none⟩) 0 5 1 aD ([]:List Int)::Sl (some ⟨b,0,none⟩) c 5 1 aD l::L) o:=St.iw (l:=([]:List Int)) (f:=aD) q u aF.size zf zk
 exact Lo (Lw (sD Rs aF (0:Int) x zt λa d w6 z=>Lz (Le (Dz (bY (v:=.slice a l.length d) ⟨a,d,zw,z⟩)))))
theorem od (hs:St w0 L w):Cs Tryz.prog 177 #[.slice none 0 0] w λrv w'=>rv=.slice none 0 0/\St w0 L w':=by
 exact dF Tryz.func177 Tryz.ntmps177 (En (Lq (Ls (Lq (LT (Lq (Le (Ly (Dz (bY (v:=.slice none 0 0) ⟨rfl,hs⟩))))))))))
end
end Go.Proofs.YthfpmlpoiocfdaaGreatDoor
namespace Go.Proofs.YthfpmlpoiocfdaaGreatDoor
open Go.RowKit Go.Sx
set_option linter.unusedVariables false
set_option linter.unusedSimpArgs false
set_option maxRecDepth 100000
section
variable {P : Program} {w : World}
def ml {α:Type}:Nat->List α->List α
 | 0,_=>[]
 | n+1,z=>z++ml n z
def GN:Option TypeDesc->Bool
 | some (.int _)=>true
 | _=>false
theorem jU {α:Type}(z:List α):∀ n,(ml n z).length=n*z.length
 | 0=>by simp [ml]
 | n+1=>by simp [ml,jU z n,Nat.add_mul,Nat.add_comm]
theorem CN {α:Type}(z:List α) (hz:0<z.length):∀ (n i:Nat),i<n*z.length->(ml n z)[i]?=z[i % z.length]?
 | 0,i,h=>by simp at h
 | n+1,i,h=>by
  simp only [ml]
  by_cases hi:i<z.length
  ·rw [List.getElem?_append_left hi,Nat.mod_eq_of_lt hi]
  ·rw [List.getElem?_append_right za,CN z hz n (i-z.length) (by rw [Nat.add_mul] at h;omega)]
   congr 1
   exact(Nat.mod_eq_sub_mod za).symm
theorem H5 {zs:Array Value}(n:Nat) (hz:0<zs.size):(Array.range (n*zs.size)).map (λi=>zs[i % zs.size]!)=(ml n zs.toList).toArray:=by
 apply Array.ext_getElem?
 intro i
 by_cases hi:i<n*zs.size
 ·have h1:i % zs.size<zs.size:=Nat.mod_lt _ hz
  have:=CN zs.toList (by simpa using hz) n i (by simpa using hi)
  simp only [List.getElem?_toArray,this,Array.getElem?_map]
  simp [hi,h1]
 ·have h2:(ml n zs.toList).length=n*zs.size:=by rw [jU];simp
  rw [Array.getElem?_eq_none zO,Array.getElem?_eq_none (by simp [h2];omega)]
theorem yf {zs:Array Value}(n:Nat) (hz:0<zs.size):Builtin.zeroCells zs n=(ml n zs.toList).toArray:=H5 n hz
theorem oe (e:TypeId) (cs:Array Value) (w1:World):(newRow e cs).run P w1=.ok ⟨w1.heap.size,0,none⟩ { w1 with heap:=w1.heap.push (.cells cs e) }:=rfl
theorem Fb {ts:Array TypeId}{t t' e ty:TypeId}{d:TypeDesc}{ie:TypeInfo}{z:Value}{base:Option Addr}{sLen sCap:Nat}{x:Value}{n:Nat}{us:List Value}
 (h0:ts[0]?=some t) (h1:ts[1]?=some t') (hu:P.underlying t=some (.slice e)) (hu':P.underlying t'=some d) (hi:P.info? e=some ie) (hz:ie.zero=some z)
 (hpos:0<ie.size) (hzs:z.cells.size=ie.size) (hlen:us.length=n*ie.size) (hbig:(sLen+n)*(ie.bytes+1)<=1000000000)
 (hx:(GN (some d)=true/\(∃ k,x=.int k (n:Int))/\us=ml n z.cells.toList) \/
  (GN (some d)=false/\(∀ w1:World,(Builtin.lenOf x).run P w1=.ok n w1)/\∀ w1:World,w1.heap=w.heap->(Builtin.firstCells ie.size n x).run P w1=.ok us.toArray w1)) :
 (sLen+n<=sCap->(Builtin.append_ ts ty #[.slice base sLen sCap,x]).run P w=((match base with
  | some ad=>storeCells (ad.add (sLen*ie.size)) us
  | none=>pure ()).run P w).andThen λ_ w'=>.ok (.slice base (sLen+n) sCap) w') /\
 (sCap<sLen+n->∀ olds:List Value,olds.length=sLen*ie.size->(∀ w1:World,w1.heap=w.heap->(Builtin.firstCells ie.size sLen (.slice base sLen sCap)).run P w1=.ok olds.toArray w1) ->
  ∃ cap,sLen+n<=cap/\cap<=9223372036854775807/\(Builtin.append_ ts ty #[.slice base sLen sCap,x]).run P w=.ok (.slice (some ⟨w.heap.size,0,none⟩) (sLen+n) cap)
   { w with drawn:=w.drawn+1,heap:=w.heap.push (.cells (olds++us++ml (cap-(sLen+n)) z.cells.toList).toArray e) }):=by
 have hb1:sLen+n<=1000000000:=Nat.le_trans (Nat.le_mul_of_pos_right _ za) hbig
 have hb2:(sLen+n)*ie.bytes<=1000000000:=Nat.le_trans (Nat.mul_le_mul_left _ za) hbig
 have hn2:n*ie.bytes<=1000000000:=Nat.le_trans (Nat.mul_le_mul_right _ za) hb2
 have ask:∀ b w,(askRoom b).run P w=.ok () w:=by
  intro b w
  unfold askRoom
  split<;>simp [mark,Sem.run]
 have hzc:∀ k,Builtin.zeroCells z.cells k=(ml k z.cells.toList).toArray:=λk=>yf k za
 rcases hx with⟨hint,⟨k,rfl⟩,rfl⟩|⟨hint,hlo,hfc⟩
 ·obtain⟨k',rfl⟩:∃ k',d=.int k':=by
   cases d<;>first|exact⟨_,rfl⟩|cases hint
  have w1:IntKind.i64.wrap (n:Int)=(n:Int):=uP za za
  have t1:¬ ((n:Int)<0):=za
  have t2:¬ ((n:Int)*(ie.bytes:Int)>2 ^ 48):=by
   rw [<- Int.natCast_mul];omega
  have hmatch:(TypeDesc.int k' matches .int _)=true:=rfl
  have t2':¬ (281474976710656<(n:Int)*(ie.bytes:Int)):=by
   rw [<- Int.natCast_mul];omega
  constructor
  ·intro hfit
   by_cases hz0:n*ie.size=0
   ·have hn0:n=0:=by
     rcases Nat.mul_eq_zero.1 hz0 with h|h
     ·exact h
     ·omega
    simp [Builtin.append_,h0,h1,run_underlying hu,run_underlying hu',sizeOf,typeInfo,hi,asInt,asIntOf,w1,t1,t2',hfit,hz0]
    cases base<;>simp [hn0,ml,storeCells]
   ·simp [Builtin.append_,h0,h1,run_underlying hu,run_underlying hu',sizeOf,typeInfo,zeroValue,hi,hz,asInt,asIntOf,w1,t1,t2',hfit,hz0,hzc]
    cases base<;>simp
  ·intro hno olds hol hold
   have hns:¬ (sLen+n<=sCap):=za
   have hnc:Builtin.nextslicecap (sLen+n) sCap*ie.bytes<=281474976710656:=growslice_fits hno za
   have hnc':¬ (281474976710656<Builtin.nextslicecap (sLen+n) sCap*ie.bytes):=za
   have hmx:¬ (9223372036854775807<(sLen:Int)+(n:Int)):=za
   refine⟨grownCap w (sLen+n) sCap e,grownCap_ge w (sLen+n) sCap e,grownCap_le_maxLen w (sLen+n) sCap e zH,?_⟩
   by_cases hz0:n*ie.size=0
   ·have hn0:n=0:=by
     rcases Nat.mul_eq_zero.1 hz0 with h|h
     ·exact h
     ·omega
    simp [Builtin.append_,h0,h1,run_underlying hu,run_underlying hu',sizeOf,typeInfo,zeroValue,hi,hz,asInt,asIntOf,w1,t1,t2',hns,hz0,hzc,hnc',hmx,Question.forced,ask,hold w.drew rfl]
    have hr0:ml n z.cells.toList=[]:=by rw [hn0];rfl
    simp only [oe,Result.andThen_ok,List.append_assoc,hr0,List.nil_append]
    rfl
   ·simp [Builtin.append_,h0,h1,run_underlying hu,run_underlying hu',sizeOf,typeInfo,zeroValue,hi,hz,asInt,asIntOf,w1,t1,t2',hns,hz0,hzc,hnc',hmx,Question.forced,ask,hold w.drew rfl]
    simp only [oe,Result.andThen_ok,List.append_assoc]
    rfl
 ·have hint2:∀ k,d≠.int k:=λk e=>by rw [e] at hint;cases hint
  have hm:(match d with | .int _=>true|_=>false)=false:=by cases d<;>first|rfl|exact absurd rfl (hint2 _)
  constructor
  ·intro hfit
   simp [Builtin.append_,h0,h1,run_underlying hu,run_underlying hu',sizeOf,typeInfo,hi,hm,hlo,hfit,hfc w rfl]
   cases base<;>simp
  ·intro hno olds hol hold
   have hns:¬ (sLen+n<=sCap):=za
   have hnc:Builtin.nextslicecap (sLen+n) sCap*ie.bytes<=281474976710656:=growslice_fits hno za
   have hnc':¬ (281474976710656<Builtin.nextslicecap (sLen+n) sCap*ie.bytes):=za
   have hmx:¬ (9223372036854775807<(sLen:Int)+(n:Int)):=za
   refine⟨grownCap w (sLen+n) sCap e,grownCap_ge w (sLen+n) sCap e,grownCap_le_maxLen w (sLen+n) sCap e zH,?_⟩
   simp [Builtin.append_,h0,h1,run_underlying hu,run_underlying hu',sizeOf,typeInfo,zeroValue,hi,hz,hm,hlo,hns,hzc,hnc',hmx,Question.forced,ask,hold w.drew rfl,hfc w.drew rfl]
   simp only [oe,Result.andThen_ok,List.append_assoc]
   rfl
end
theorem OK (base:Option Addr) (c h:Nat) (hb:∀ ad,base=some ad->ad.spot=none):Value.slice (if c=0 then base else base.map (·.add (0*1))) (h-0) (c-0)=.slice base h c:=by
 have:(if c=0 then base else base.map (·.add (0*1)))=base:=by
  split
  ·rfl
  ·cases base with
   | none=>rfl
   | some ad=>simp [Addr.add]
 rw [this]
 simp
def Grown (w0:World) (L:List bA) (w:World) (base:Option Addr) (len c n:Nat) (all:List Value) (v:Value) (w':World):Prop :=
 (n+len<=c/\v=.slice base len c/\w'=w)\/∃ cap rest,len<=cap/\cap<=9223372036854775807/\v=.slice (some ⟨w.heap.size,0,none⟩) len cap/\(all++rest).length=cap/\w'={ w with drawn:=w.drawn+1,heap:=w.heap.push (.cells (all++rest).toArray 5) }
theorem pt {w0 w:World}{L:List bA}{base:Option Addr}{len c n:Nat}{all:List Value}(hs:St w0 L w) (hb:∀ ad,base=some ad->ad.spot=none) (hlc:len<=c) (hc:c<=9223372036854775807) (hn:n<=1000000) (hl:len<=1000000) (hall:all.length=c)
 (hf:∀ w1:World,w1.heap=w.heap->(Builtin.firstCells 1 c (.slice base c c)).run Tryz.prog w1=.ok all.toArray w1) :
 Calls Tryz.prog 234 #[.slice base len c,.int .i64 n] w (eD (Grown w0 L w base len c n all)):=by
 refine enter (args:=[.slice base len c,.int .i64 n]) Tryz.func234 rfl Tryz.ntmps234 (Nat.le_of_ble_eq_true zk) ?_
 refine aX.gL (S':=[(0,.slice base len c),(1,.int .i64 n)]) rfl ?_
 refine aX.seq ?_
 refine aX.jT [1] (.rd 0 .done) zk zk ?_
 refine aL.nW [(0,.gen [])] [4,0,1] [] [(4,.slice none 0 0),(0,.slice base len c),(1,.int .i64 n)] zk rfl iF ?_
 refine aL.done (aS.qo (aX.seq (aX.seq ?_)))
 refine aX.jT [3,3] (.rd 0 (.rd 1 .done)) zk zk ?_
 refine aL.nW [(0,.gen []),(1,.gen [])] [6,4,0,1] [] [(6,.bool (decide ((n:Int)<0))),(4,.slice none 0 0),(0,.slice base len c),(1,.int .i64 n)] zk rfl iF ?_
 refine aL.done (aS.qo ?_)
 refine aX.cond (t:=decide ((n:Int)<0)) zk (λh1=>?_) (λh1=>?_)
 ·exact absurd (of_decide_eq_true h1) za
 refine aX.skip (aS.qo (aX.seq (aX.seq ?_)))
 have e1:IntKind.i64.wrap ((c:Int)-(len:Int))=(c:Int)-(len:Int):=uP za za
 have e2:IntKind.i64.wrap ((n:Int)-((c:Int)-(len:Int)))=(n:Int)-((c:Int)-(len:Int)):=uP za za
 refine aX.jT [] (.rd 0 (.rd 1 (.rd 2 (.rd 3 (.rd 4 (.rd 5 (.rd 6 (.rd 7 .done)))))))) zk zk ?_
 refine aL.nW [(0,.gen []),(1,.gen []),(2,.gen []),(3,.gen []),(4,.gen []),(5,.dH (.int .i64 ((c:Int)-(len:Int))) (.gen [])),(6,.dH (.int .i64 ((n:Int)-((c:Int)-(len:Int)))) (.gen [])),(7,.gen [])] [1,0]
  [(5,[.prop (Value.int .i64 (IntKind.i64.wrap ((c:Int)-(len:Int)))=.int .i64 ((c:Int)-(len:Int)))]),(6,[.prop (Value.int .i64 (IntKind.i64.wrap ((n:Int)-((c:Int)-(len:Int))))=.int .i64 ((n:Int)-((c:Int)-(len:Int))))])]
  [(1,.int .i64 ((n:Int)-((c:Int)-(len:Int)))),(0,.slice base len c)] zk rfl (ak (aJ (by rw [e1]) aR) (ak (aJ (by rw [e2]) aR) iF)) ?_
 refine aL.done (aS.qo (aX.seq ?_))
 refine aX.jT [] (.rd 0 (.rd 1 .done)) zk zk ?_
 refine aL.nW [(0,.gen []),(1,.gen [])] [16,1,0] [] [(16,.bool (decide ((n:Int)-((c:Int)-(len:Int))>0))),(1,.int .i64 ((n:Int)-((c:Int)-(len:Int)))),(0,.slice base len c)] zk rfl iF ?_
 refine aL.done (aS.qo ?_)
 refine aX.cond (t:=decide ((n:Int)-((c:Int)-(len:Int))>0)) zk (λh2=>?_) (λh2=>?_)
 ·have h2':=of_decide_eq_true h2
  obtain⟨k,hk⟩:∃ k:Nat,(k:Int)=(n:Int)-((c:Int)-(len:Int)):=⟨(n+len)-c,za⟩
  rw [<- hk]
  have hkp:0<k:=za
  have hck:c+k=n+len:=za
  refine aX.jT [0,0,0,0,0,255] (.rd 0 (.rd 1 (.rd 2 (.rd 3 (.rd 4 (.ef 5 (.rd 6 (.rd 7 (.rd 8 (.rd 9 .done)))))))))) zk zk ?_
  refine aL.nW [(0,.gen []),(1,.gen []),(2,.gen []),(3,.dH (.slice base c c) (.sub 0 c)),(4,.gen [])] [21,20,1,0]
   [(3,[.prop ((c:Int)=(c:Int)),.prop (((none:Option Operand)=none->0=0)/\(some (Operand.tmp 19)=none->c=len)/\0<=c/\c<=c),.prop (Value.slice (if c=0 then base else base.map (·.add (0*1))) (c-0) (c-0)=.slice base c c)])]
   [(21,.int .i64 k),(20,.slice base c c),(1,.int .i64 k),(0,.slice base len c)] zk rfl (ak (aJ rfl (aJ ⟨λ_=>rfl,(λh=>by cases h),Nat.zero_le _,Nat.le_refl _⟩ (aJ (OK base c c hb) aR))) iF) ?_
  obtain⟨r1,r2⟩:=Fb (P:=Tryz.prog) (w:=w) (ts:=#[66,3]) (t:=66) (t':=3) (e:=5) (ty:=66) (d:=.int .i64) (ie:=Tryz.t5) (z:=.int .u8 0) (base:=base) (sLen:=c) (sCap:=c) (x:=.int .i64 k) (n:=k) (us:=ml k [.int .u8 0]) rfl rfl zk zk zk zk zb zk
   (by rw [jU];rfl) (by show(c+k)*(1+1)<=1000000000;omega) (.inl ⟨rfl,⟨.i64,rfl⟩,rfl⟩)
  obtain⟨cap,g1,g2,g3⟩:=r2 za all (by rw [hall];exact(Nat.mul_one c).symm) hf
  have g4:(all++ml k [Value.int .u8 0]++ml (cap-(c+k)) [Value.int .u8 0]).length=cap:=by
   rw [List.length_append,List.length_append,jU,jU,hall]
   simp only [List.length_cons,List.length_nil]
   omega
  generalize hw2:({ w with drawn:=w.drawn+1,heap:=w.heap.push (.cells (all++ml k [Value.int .u8 0]++ml (cap-(c+k)) [Value.int .u8 0]).toArray 5) }:World)=w2
  have g3':(Builtin.append_ #[66,3] 66 #[Value.slice base c c,.int .i64 k]).run Tryz.prog w=.ok (.slice (some ⟨w.heap.size,0,none⟩) (c+k) cap) w2:=by rw [<- hw2];exact g3
  refine aL.run rfl zk (.slice (some ⟨w.heap.size,0,none⟩) (c+k) cap) w2 (λa hfit=>.inl ?_) (yc zk) ?_
  ·obtain⟨cs,hrun⟩:=kW (P:=Tryz.prog) hfit (b:=.append) (ts:=[66,3]) (vs:=[.slice base c c,.int .i64 k]) zk w
   rw [hrun]
   simp only [builtin,Sem.run_bind]
   erw [g3']
   rfl
  ·refine aL.nW [(6,.gen []),(7,.gen []),(8,.dH (.slice (some ⟨w.heap.size,0,none⟩) len cap) (.sub 0 len)),(9,.gen [])] [0]
    [(8,[.prop ((len:Int)=(len:Int)),.prop (((none:Option Operand)=none->0=0)/\(some (Operand.tmp 24)=none->len=c+k)/\0<=len/\len<=cap),.prop (Value.slice (if cap=0 then some ⟨w.heap.size,0,none⟩ else (some (Addr.mk w.heap.size 0 none)).map (·.add (0*1))) (len-0) (cap-0)=.slice (some ⟨w.heap.size,0,none⟩) len cap)])]
    [(0,.slice (some ⟨w.heap.size,0,none⟩) len cap)] zk rfl (ak (aJ rfl (aJ ⟨λ_=>rfl,(λh=>by cases h),Nat.zero_le _,za⟩ (aJ (OK _ cap len (λad h=>by cases h;rfl)) aR))) iF) ?_
   refine aL.done (aS.qo (aX.seq ?_))
   refine aX.jT [] (.rd 0 (.rd 1 .done)) zk zk ?_
   refine aL.nW [(0,.gen []),(1,.gen [])] [4] [] [(4,.slice (some ⟨w.heap.size,0,none⟩) len cap)] zk rfl iF ?_
   refine aL.done (aS.qo (aX.ret ?_))
   refine aS.done (.inl rfl) (v:=.slice (some ⟨w.heap.size,0,none⟩) len cap) (λa hf=>results1 rfl zk a hf) ?_
   refine .inr ⟨cap,ml k [Value.int .u8 0]++ml (cap-(c+k)) [Value.int .u8 0],za,g2,rfl,by rw [<- List.append_assoc];exact g4,?_⟩
   rw [<- hw2,List.append_assoc]
 ·have h2':=of_decide_eq_false h2
  refine aX.skip (aS.qo (aX.seq ?_))
  refine aX.jT [] (.rd 0 (.rd 1 .done)) zk zk ?_
  refine aL.nW [(0,.gen []),(1,.gen [])] [4] [] [(4,.slice base len c)] zk rfl iF ?_
  refine aL.done (aS.qo (aX.ret ?_))
  refine aS.done (.inl rfl) (v:=.slice base len c) (λa hf=>results1 rfl zk a hf) ?_
  exact .inl ⟨za,rfl,rfl⟩
end Go.Proofs.YthfpmlpoiocfdaaGreatDoor
namespace Go.Proofs.YthfpmlpoiocfdaaGreatDoor
open Go.RowKit Go.Sx
set_option linter.unusedVariables false
set_option linter.unusedSimpArgs false
set_option linter.unnecessarySimpa false
set_option maxRecDepth 100000
theorem CO {w0 w w':World}{L:List bA}{ad base:Option Addr}{c n:Nat}{l:List Int}{all:List Value}{v:Value}(hs:St w0 (Sl ad c 5 1 aD l::L) w) (hb:base=ad) (hx:all.take l.length=l.flatMap λx=>(aD x).toList) (h:Grown w0 (Sl ad c 5 1 aD l::L) w base l.length c n all v w') :
 ∃ (ao:Option Addr) (co:Nat),v=.slice ao l.length co/\St w0 (Sl ao co 5 1 aD l::L) w':=by
 subst hb
 rcases h with⟨-,rfl,rfl⟩|⟨cap,rest,e1,e2,rfl,e3,rfl⟩
 ·exact⟨_,_,rfl,hs⟩
 ·have hf:=bQ (f:=aD) (size:=1) (λ_=>rfl) l
  have hd:St w0 L { w with drawn:=w.drawn+1 }:=hs.tail.drew
  refine⟨_,_,rfl,St.new hd rfl rfl rfl zw (λb hb=>?_) ?_ (λb hb=>?_)⟩
  ·have hb':b<w.heap.size:=hb
   simp only [Array.getElem?_push];rw [if_neg za]
  ·refine⟨hf,.inr ⟨w.heap.size,cap,(all++rest).toArray,rfl,Nat.zero_le _,by simp,e1,by simp only [maxLen];omega,by simpa using e3,?_⟩⟩
   have hl:l.length<=all.length:=by
    have:=congrArg List.length hx
    rw [List.length_take,hf] at this
    omega
   rw [Nat.mul_one,List.take_append_of_le_length hl,hx]
  ·have:some w.heap.size=some b:=hb
   cases this
   simp
theorem Fc {w0 w:World}{L:List bA}{b c:Nat}(l:List Int) (n:Nat) (hl:l.length<=1000000) (hn:n<=1000000) (hs:St w0 (Sl (some ⟨b,0,none⟩) c 5 1 aD l::L) w) :
 Calls Tryz.prog 234 #[zL b 0 l.length c,.int .i64 n] w (eD λrv w'=>∃ (ao:Option Addr) (co:Nat),rv=.slice ao l.length co/\St w0 (Sl ao co 5 1 aD l::L) w'):=by
 obtain⟨h1,h2⟩:=hs.holds _ (List.mem_cons_self ..)
 rcases h2 with⟨h2,-⟩|⟨g,cap,cur,h2,-,h4,h5,h6,h7,h8⟩
 ·cases h2
 ·cases h2
  refine Calls.ret (pt (all:=cur.toList) (n:=n) hs (λad h=>by cases h;rfl) h5 (by simp only [maxLen] at h6;omega) hn hl (by rw [Array.length_toList];omega) λw1 hw=>?_) (λv w' h=>CO hs rfl (by rw [<- h8,Nat.mul_one]) h)
  simp only [Builtin.firstCells,loadCells]
  refine fT _ _ (by simpa using h7) λi hi=>?_
  rw [dI,Nat.zero_add]
  simp only [World.cell?,hw,h4]
  simp
theorem Fe {w0 w:World}{L:List bA}{c:Nat}(n:Nat) (hn:n<=1000000) (hs:St w0 (Sl none 0 5 1 aD []::L) w) :
 Calls Tryz.prog 234 #[.slice none 0 0,.int .i64 n] w (eD λrv w'=>∃ (ao:Option Addr) (co:Nat),rv=.slice ao (([]:List Int).length) co/\St w0 (Sl ao co 5 1 aD []::L) w') :=
 Calls.ret (pt (all:=[]) (n:=n) (len:=0) (c:=0) (base:=none) hs (λad h=>by cases h) (Nat.le_refl _) za hn za rfl (λw1 _=>by simp [Builtin.firstCells])) (λv w' h=>CO (l:=[]) hs rfl rfl h)
theorem tX {w0 w:World}{L:List bA}{ad:Option Addr}{c:Nat}(l:List Int) (hl:l.length<=1000000) (hs:St w0 (Sl ad c 5 1 aD l::L) w) :
 Calls Tryz.prog 177 #[.slice ad l.length c] w (eD λrv w'=>∃ (ao:Option Addr) (co:Nat),rv=.slice ao l.length co/\St w0 (Sl ao co 5 1 aD l::L) w'):=by
 obtain⟨h1,h2⟩:=hs.holds _ (List.mem_cons_self ..)
 rcases h2 with⟨h2,h3⟩|⟨g,cap,cur,h2,-⟩
 ·obtain rfl:l=[]:=List.length_eq_zero_iff.1 h3
  cases h2
  refine Calls.ret (od hs) ?_
  rintro v w' ⟨rfl,h⟩
  exact⟨none,0,rfl,h⟩
 ·cases h2
  refine Calls.ret (CM l za hs) ?_
  rintro v w' ⟨ao,co,rfl,h⟩
  exact⟨ao,co,rfl,h.sub (List.Sublist.cons_cons _ (List.Sublist.cons _ (List.Sublist.refl _)))⟩
theorem qv {w0 w:World}{L:List bA}{ad:Option Addr}{c:Nat}(l:List Int) (n:Nat) (hl:l.length<=1000000) (hn:n<=1000000) (hs:St w0 (Sl ad c 5 1 aD l::L) w) :
 Calls Tryz.prog 234 #[.slice ad l.length c,.int .i64 n] w (eD λrv w'=>∃ (ao:Option Addr) (co:Nat),rv=.slice ao l.length co/\St w0 (Sl ao co 5 1 aD l::L) w'):=by
 obtain⟨h1,h2⟩:=hs.holds _ (List.mem_cons_self ..)
 rcases h2 with⟨h2,h3⟩|⟨g,cap,cur,h2,-⟩
 ·obtain rfl:l=[]:=List.length_eq_zero_iff.1 h3
  cases h2
  exact Fe (c:=0) n hn hs
 ·cases h2
  exact Fc l n hl hn hs
section
variable {w0 w : World} {L : List bA} {ad : Option Addr} {c : Nat}
def H6 (n:Int) (x:Nat):Int:=(λz:Int=>IntKind.u8.wrap (aW .u64 n (8*z))) (7-(x:Nat))
def CP (n:Int) (x:Nat):List Int:=(List.range x).map (H6 n)
theorem vG (n:Int) (x:Nat):CP n (x+1)=CP n x++[H6 n x]:=by simp [CP,List.range_succ]
theorem gJ (n:Int) (x:Nat):(CP n x).length=x:=by simp [CP]
def wd (n:Int):List Int:=CP n 8
theorem dV (n:Int):(wd n).length=8:=gJ n 8
theorem ze {p:Prop}(h:p:=by first|omega|(simp only [List.length_append,List.length_cons,List.length_nil,dV] at *;omega)):p:=h
theorem H7 l n (hl:l.length<=900000) (hn:0<=n/\n<=18446744073709551615) (hs:St w0 (Sl ad c 5 1 aD l::L) w):Cs Tryz.prog 185 #[.slice ad l.length c,.int .u64 n,.int .i64 8] w λrv w'=>∃ ao co,rv=.slice ao ((l++wd n).length) co/\St w0 (Sl ao co 5 1 aD (l++wd n)::L) w':=by
 refine dF Tryz.func185 Tryz.ntmps185 (En (Lq (Ls (Lg [1,3] (Lw (dJ (f:=177) (args:=#[.slice ad l.length c]) Tryz.call177 (tX l ze hs) ?_))))))
 rintro v4 w5 ⟨b,d,rfl,e⟩
 refine Lo (Lw (dJ (f:=234) (args:=#[.slice b l.length d,.int .i64 8]) Tryz.call234 (qv l 8 ze za e) ?_))
 rintro v9 a8 ⟨i,o,rfl,u⟩
 refine Lz (Ls (Lq (Lb (Dz (aX.loop (T:=Nat×Int×(List Int)×(Option Addr)×Nat) (λgg=>[(1,.int .u64 n),(6,.slice none 0 0),(7,.slice gg.2.2.2.1 gg.2.2.1.length gg.2.2.2.2),(8,.int .i64 gg.2.1)]) (λgg w=>(gg.1<=8/\gg.2.1=7-(gg.1:Nat)/\gg.2.2.1=l++CP n gg.1)/\St w0 (Sl gg.2.2.2.1 gg.2.2.2.2 5 1 aD gg.2.2.1::L) w) (λgg=>8-gg.1) (0,7,l,i,o) [1,6,7,8] zk ⟨⟨by first|omega|(simp only;omega),by first|omega|(simp only;omega),by simp [CP]⟩,u⟩ ?_)))))
 rintro⟨x,z,q,ad,c⟩ a9 ⟨hp,a⟩
 dsimp only at hp a
 refine En (Ls (Lq (Dz (Zi ((z:Int) >= 0) (λa0=>?_) (λa0=>?_)))))
 ·refine Zk (Zt (Zs (Zb (dZ [6,7] (eT 3 (8*z) (Hg 4 (.shift (aW .u64 n (8*z))) [.prop ((0:Int)<=8*z/\Int.fdiv n (2 ^ (min (Int.toNat (8*z)) (IntKind.bits .u64)))=aW .u64 n (8*z))] (aJ ⟨(by first|omega|exact bK rfl _),rfl⟩ aR) Hz)) (CB Rs aF [(IntKind.u8.wrap (aW .u64 n (8*z)):Int)] a λb0 b1 a1=>Lo (Dz (sD Rs aF (0:Int) (a1.pl 1) (by rw [hp.2.2,List.length_append,gJ];simp only [List.length_cons,List.length_nil];omega) λa3 a4 b2 a5=>Lo (cI (Lm (Lt (Dz (dE (eT 1 (z-1) Hz) ?_))))))))))))
  have a6:=(a5.pl 0).pl 1
  exact aS.back (x+1,z-1,q++([(IntKind.u8.wrap (aW .u64 n (8*z)):Int)]),a3,a4) [1,6,7,8] zk (by show 8-(x+1)<8-x;omega) ⟨(by refine⟨by first|omega|(simp only;omega),by first|omega|(simp only;omega),?_⟩;rw [hp.2.2,List.append_assoc,hp.2.1];exact congrArg (l++·) (vG n x).symm),a6.dr 1⟩
 ·refine En (Lx (mM (mN (Lh (Lt (Lq (Le (Dz (bY (v:=.slice ad q.length c) ?_)))))))))
  have hx:x=8:=za
  have hq:q=l++wd n:=by rw [hp.2.2,hx];rfl
  subst hq
  exact⟨ad,c,rfl,a⟩
theorem eU l n (hl:l.length<=900000) (hn:0<=n/\n<=18446744073709551615) (hs:St w0 (Sl ad c 5 1 aD l::L) w):Cs Tryz.prog 127 #[.slice ad l.length c,.int .u64 n] w λrv w'=>∃ ao co,rv=.slice ao ((l++wd n).length) co/\St w0 (Sl ao co 5 1 aD (l++wd n)::L) w':=by
 refine dF Tryz.func127 Tryz.ntmps127 (En (Lq (Ls (Lg [2] (Lw (Zc (H7 l n ze za hs) ?_))))))
 rintro e f ⟨a,b,rfl,d⟩
 exact Lz (Le (Dz (bY (v:=.slice a ((l++wd n).length) b) ⟨a,b,rfl,d⟩)))
end
end Go.Proofs.YthfpmlpoiocfdaaGreatDoor
namespace Go.Proofs.YthfpmlpoiocfdaaGreatDoor
open Go.RowKit Go.Sx
set_option linter.unusedVariables false
set_option linter.unusedSimpArgs false
def jE (l:List Int):Int:=l.foldl (λn x=>jQ .u64 (cD .u64 n 8) (IntKind.u64.wrap x)) 0
theorem Ia {l:List Int}{k:Nat}(hk:k<l.length):jE (l.take (k+1))=jQ .u64 (cD .u64 (jE (l.take k)) 8) (IntKind.u64.wrap (l.getD k 0)):=by
 rw [bL (d:=(0:Int)) hk]
 simp only [jE,List.foldl_append,List.foldl_cons,List.foldl_nil]
theorem lj {n:Int}(h0:0<=n) (h1:n<18446744073709551616):IntKind.u64.wrap n=n:=OG h0 za
theorem PR {a b:Int}(ha:0<=a) (hb:0<=b/\b<256) (h:a*256+b<18446744073709551616):jQ .u64 (cD .u64 a 8) b=a*256+b:=by
 obtain⟨A,rfl⟩:∃ A:Nat,a=A:=⟨a.toNat,za⟩
 obtain⟨B,rfl⟩:∃ B:Nat,b=B:=⟨b.toNat,za⟩
 have e1:cD .u64 (A:Int) 8=((A*256:Nat):Int):=by
  show IntKind.u64.wrap ((A:Int)*2 ^ 8)=_
  rw [show((A:Int)*2 ^ 8)=((A*256:Nat):Int) by omega]
  exact lj za za
 rw [e1]
 show IntKind.u64.wrap (((BitVec.ofInt 64 ((A*256:Nat):Int) ||| BitVec.ofInt 64 ((B:Nat):Int)).toNat:Nat):Int)=_
 rw [BitVec.ofInt_natCast,BitVec.ofInt_natCast,BitVec.toNat_or,BitVec.toNat_ofNat,BitVec.toNat_ofNat,Nat.mod_eq_of_lt za,Nat.mod_eq_of_lt za]
 have e2:=Nat.two_pow_add_eq_or_of_lt (i:=8) (b:=B) za A
 rw [show A*256=2 ^ 8*A by omega,<- e2,lj za za]
 omega
theorem JP (n:Nat) (k:Nat) (hk:k<=64):aW .u64 (n:Int) (k:Int)=((n / 2 ^ k:Nat):Int):=by
 show(n:Int).fdiv (2 ^ (min (Int.toNat (k:Int)) 64))=_
 rw [Int.toNat_natCast,Nat.min_eq_left hk,Int.fdiv_eq_ediv_of_nonneg _ (by exact Int.pow_nonneg zb)]
 rw [Int.natCast_ediv,Int.natCast_pow]
 rfl
theorem L9 (n:Nat) (x:Nat) (hx:x<8):H6 (n:Int) x=((n / 2 ^ (8*(7-x)) % 256:Nat):Int):=by
 show IntKind.u8.wrap (aW .u64 (n:Int) (8*((7:Int)-(x:Nat))))=_
 rw [show(8*((7:Int)-(x:Nat)))=((8*(7-x):Nat):Int) by omega,JP n _ za]
 show((n / 2 ^ (8*(7-x)):Nat):Int) % 256=_
 omega
theorem CQ (n:Nat) (hn:n<18446744073709551616):∀ k,k<=8->jE (CP (n:Int) k)=((n / 2 ^ (8*(8-k)):Nat):Int)
 | 0,_=>by
  show(0:Int)=_
  rw [Nat.div_eq_of_lt (by exact hn)]
  rfl
 | k+1,hk=>by
  have ih:=CQ n hn k za
  rw [vG]
  have e:jE (CP (n:Int) k++[H6 (n:Int) k])=jQ .u64 (cD .u64 (jE (CP (n:Int) k)) 8) (IntKind.u64.wrap (H6 (n:Int) k)):=by
   simp only [jE,List.foldl_append,List.foldl_cons,List.foldl_nil]
  have hdiv:n / 2 ^ (8*(8-k))=n / 2 ^ (8*(8-(k+1))) / 256:=by
   rw [Nat.div_div_eq_div_mul,show 8*(8-k)=8*(8-(k+1))+8 by omega,Nat.pow_add]
  have hle:n / 2 ^ (8*(8-(k+1)))<=n:=Nat.div_le_self ..
  rw [e,ih,L9 n k za,lj za za,show 8*(7-k)=8*(8-(k+1)) by omega,hdiv]
  generalize n / 2 ^ (8*(8-(k+1)))=q at hle ⊢
  rw [PR za za za]
  omega
theorem Ma {v:Int}(h:0<=v/\v<18446744073709551616):jE (wd v)=v:=by
 obtain⟨n,rfl⟩:∃ n:Nat,v=n:=⟨v.toNat,za⟩
 rw [wd,CQ n za 8 (Nat.le_refl _)]
 simp
theorem Fg {ad:Option Addr}{c lo size:Nat}(h:∃ b off,ad=some ⟨b,off,none⟩):∃ b off,ja ad c lo size=some ⟨b,off,none⟩:=by
 obtain⟨b,off,rfl⟩:=h
 unfold ja
 split
 ·exact⟨_,_,rfl⟩
 ·exact⟨b,off+lo*size,by simp [Addr.add]⟩
theorem Fh (s:ByteArray):strOf (cH s)=s:=by
 unfold strOf cH
 rw [List.map_map]
 have e:(s.data.toList.map (fY ∘ λb:UInt8=>(b.toNat:Int)))=s.data.toList:=by
  conv=>rhs;rw [<- List.map_id s.data.toList]
  refine List.map_congr_left λb _=>?_
  show fY (b.toNat:Int)=b
  apply UInt8.toNat_inj.1
  have h:=qu (x:=(b.toNat:Int)) za (by have:=b.toNat_lt;omega)
  omega
 rw [e]
end Go.Proofs.YthfpmlpoiocfdaaGreatDoor
namespace Go.Proofs.YthfpmlpoiocfdaaGreatDoor
open Go.RowKit Go.Sx
set_option linter.unusedVariables false
set_option linter.unusedSimpArgs false
set_option linter.unnecessarySimpa false
set_option maxRecDepth 100000
section
variable {w0 w : World} {L : List bA}
theorem ib (a b:Int):(a == b)=decide (a=b):=by
 by_cases h:a=b
 ·simp [h]
 ·simp [h]
def vK (n:Int):Array Value:=#[.int .u64 n]
abbrev bW:=Vector Int 32
def bW.cells (v:bW):Array Value:=#[.int .u8 v[0],.int .u8 v[1],.int .u8 v[2],.int .u8 v[3],.int .u8 v[4],.int .u8 v[5],.int .u8 v[6],.int .u8 v[7],.int .u8 v[8],.int .u8 v[9],.int .u8 v[10],.int .u8 v[11],.int .u8 v[12],.int .u8 v[13],.int .u8 v[14],.int .u8 v[15],.int .u8 v[16],.int .u8 v[17],.int .u8 v[18],.int .u8 v[19],.int .u8 v[20],.int .u8 v[21],.int .u8 v[22],.int .u8 v[23],.int .u8 v[24],.int .u8 v[25],.int .u8 v[26],.int .u8 v[27],.int .u8 v[28],.int .u8 v[29],.int .u8 v[30],.int .u8 v[31]]
abbrev aI:bW:=#v[0,0,0,0,0,0,0,0,0,0,0,0,0,0,0,0,0,0,0,0,0,0,0,0,0,0,0,0,0,0,0,0]
theorem bW.Ow (v:bW):bW.cells v=v.toArray.map (Value.int .u8):=by
 apply Array.ext
 ·rw [Array.size_map,v.size_toArray];rfl
 ·intro i a b
  rw [Array.getElem_map]
  have h:i<32:=a
  match i,h with
  | 0,_=>rfl
  | 1,_=>rfl
  | 2,_=>rfl
  | 3,_=>rfl
  | 4,_=>rfl
  | 5,_=>rfl
  | 6,_=>rfl
  | 7,_=>rfl
  | 8,_=>rfl
  | 9,_=>rfl
  | 10,_=>rfl
  | 11,_=>rfl
  | 12,_=>rfl
  | 13,_=>rfl
  | 14,_=>rfl
  | 15,_=>rfl
  | 16,_=>rfl
  | 17,_=>rfl
  | 18,_=>rfl
  | 19,_=>rfl
  | 20,_=>rfl
  | 21,_=>rfl
  | 22,_=>rfl
  | 23,_=>rfl
  | 24,_=>rfl
  | 25,_=>rfl
  | 26,_=>rfl
  | 27,_=>rfl
  | 28,_=>rfl
  | 29,_=>rfl
  | 30,_=>rfl
  | 31,_=>rfl
  | m+32,h=>omega
theorem bW.len (v:bW):v.toList.length=32:=by simp
theorem bW.at_ (d:bW) (i:Nat) (h:i<32):(bW.cells d)[i]?=some (.int .u8 (d.toList.getD i 0)):=by
 rw [bW.Ow,Array.getElem?_map]
 simp [Vector.toList,h]
theorem bW.lk (hs:St w0 L w) (j:Nat){b:Nat}{cs:Array Value}{T:TypeId}(off:Nat) (d:bW) (hj:L[j]?=some (aB b cs T)) (he:cs.extract off (off+32)=bW.cells d):aC w (some ⟨b,off,none⟩) d.toList.length 1 (λk=>aD (d.toList.getD k 0)):=by
 refine λ_=>⟨b,off,rfl,λk hk i hi=>?_⟩
 have a:k<32:=by rw [bW.len] at hk;exact hk
 obtain rfl:i=0:=za
 have e:cs[off+k]?=(bW.cells d)[k]?:=by
  rw [<- he,Array.getElem?_extract,if_pos]
  have f:=congrArg Array.size he
  rw [Array.size_extract] at f
  have o:(bW.cells d).size=32:=rfl
  omega
 rw [Nat.mul_one,Nat.add_zero,hs.cell j (off:=off+k) hj (e.trans (bW.at_ d k a))]
 rfl
theorem bW.ry {cs:Array Value}{off k:Nat}{d:bW}(he:cs.extract off (off+32)=bW.cells d) (hk:k<32):cs[off+k*1]?=some (.int .u8 (d.toList.getD k 0)):=by
 have a:cs[off+k]?=(bW.cells d)[k]?:=by
  rw [<- he,Array.getElem?_extract,if_pos]
  have b:=congrArg Array.size he
  rw [Array.size_extract] at b
  have e:(bW.cells d).size=32:=rfl
  omega
 rw [Nat.mul_one]
 exact a.trans (bW.at_ d k hk)
def bW.JQ (a b:bW):Bool:=a[0] == b[0] && (a[1] == b[1] && (a[2] == b[2] && (a[3] == b[3] && (a[4] == b[4] && (a[5] == b[5] && (a[6] == b[6] && (a[7] == b[7] && (a[8] == b[8] && (a[9] == b[9] && (a[10] == b[10] && (a[11] == b[11] && (a[12] == b[12] && (a[13] == b[13] && (a[14] == b[14] && (a[15] == b[15] && (a[16] == b[16] && (a[17] == b[17] && (a[18] == b[18] && (a[19] == b[19] && (a[20] == b[20] && (a[21] == b[21] && (a[22] == b[22] && (a[23] == b[23] && (a[24] == b[24] && (a[25] == b[25] && (a[26] == b[26] && (a[27] == b[27] && (a[28] == b[28] && (a[29] == b[29] && (a[30] == b[30] && (a[31] == b[31] && true)))))))))))))))))))))))))))))))
theorem bW.Fi (a b:bW):bW.JQ a b=decide (a=b):=by
 by_cases h:a=b
 ·subst h;simp [bW.JQ]
 ·rw [decide_eq_false h]
  cases ht:bW.JQ a b with
  | false=>rfl
  | true =>
   exfalso
   apply h
   simp only [bW.JQ,Bool.and_eq_true,beq_iff_eq] at ht
   obtain⟨d,e,f,o,q,u,w,x,z,h9,a0,a1,a2,a3,a4,a5,a6,a7,a8,a9,b0,b1,b2,b3,b4,b5,b6,b7,b8,b9,c0,c1,-⟩:=ht
   apply Vector.ext
   intro i hi
   match i,hi with
   | 0,_=>exact d
   | 1,_=>exact e
   | 2,_=>exact f
   | 3,_=>exact o
   | 4,_=>exact q
   | 5,_=>exact u
   | 6,_=>exact w
   | 7,_=>exact x
   | 8,_=>exact z
   | 9,_=>exact h9
   | 10,_=>exact a0
   | 11,_=>exact a1
   | 12,_=>exact a2
   | 13,_=>exact a3
   | 14,_=>exact a4
   | 15,_=>exact a5
   | 16,_=>exact a6
   | 17,_=>exact a7
   | 18,_=>exact a8
   | 19,_=>exact a9
   | 20,_=>exact b0
   | 21,_=>exact b1
   | 22,_=>exact b2
   | 23,_=>exact b3
   | 24,_=>exact b4
   | 25,_=>exact b5
   | 26,_=>exact b6
   | 27,_=>exact b7
   | 28,_=>exact b8
   | 29,_=>exact b9
   | 30,_=>exact c0
   | 31,_=>exact c1
   | m+32,h=>omega
abbrev aP:=Vector Int 11
def aP.cells (v:aP):Array Value:=#[.int .u64 v[0],.int .u64 v[1],.int .u64 v[2],.int .u64 v[3],.int .u64 v[4],.int .u64 v[5],.int .u64 v[6],.int .u64 v[7],.int .u64 v[8],.int .u64 v[9],.int .u64 v[10]]
abbrev dB:aP:=#v[0,0,0,0,0,0,0,0,0,0,0]
theorem aP.Ow (v:aP):aP.cells v=v.toArray.map (Value.int .u64):=by
 apply Array.ext
 ·rw [Array.size_map,v.size_toArray];rfl
 ·intro i a b
  rw [Array.getElem_map]
  have h:i<11:=a
  match i,h with
  | 0,_=>rfl
  | 1,_=>rfl
  | 2,_=>rfl
  | 3,_=>rfl
  | 4,_=>rfl
  | 5,_=>rfl
  | 6,_=>rfl
  | 7,_=>rfl
  | 8,_=>rfl
  | 9,_=>rfl
  | 10,_=>rfl
  | m+11,h=>omega
theorem aP.len (v:aP):v.toList.length=11:=by simp
theorem aP.at_ (d:aP) (i:Nat) (h:i<11):(aP.cells d)[i]?=some (.int .u64 (d.toList.getD i 0)):=by
 rw [aP.Ow,Array.getElem?_map]
 simp [Vector.toList,h]
theorem aP.lk (hs:St w0 L w) (j:Nat){b:Nat}{cs:Array Value}{T:TypeId}(off:Nat) (d:aP) (hj:L[j]?=some (aB b cs T)) (he:cs.extract off (off+11)=aP.cells d):aC w (some ⟨b,off,none⟩) d.toList.length 1 (λk=>vK (d.toList.getD k 0)):=by
 refine λ_=>⟨b,off,rfl,λk hk i hi=>?_⟩
 have a:k<11:=by rw [aP.len] at hk;exact hk
 obtain rfl:i=0:=za
 have e:cs[off+k]?=(aP.cells d)[k]?:=by
  rw [<- he,Array.getElem?_extract,if_pos]
  have f:=congrArg Array.size he
  rw [Array.size_extract] at f
  have o:(aP.cells d).size=11:=rfl
  omega
 rw [Nat.mul_one,Nat.add_zero,hs.cell j (off:=off+k) hj (e.trans (aP.at_ d k a))]
 rfl
theorem aP.ry {cs:Array Value}{off k:Nat}{d:aP}(he:cs.extract off (off+11)=aP.cells d) (hk:k<11):cs[off+k*1]?=some (.int .u64 (d.toList.getD k 0)):=by
 have a:cs[off+k]?=(aP.cells d)[k]?:=by
  rw [<- he,Array.getElem?_extract,if_pos]
  have b:=congrArg Array.size he
  rw [Array.size_extract] at b
  have e:(aP.cells d).size=11:=rfl
  omega
 rw [Nat.mul_one]
 exact a.trans (aP.at_ d k hk)
def aP.JQ (a b:aP):Bool:=a[0] == b[0] && (a[1] == b[1] && (a[2] == b[2] && (a[3] == b[3] && (a[4] == b[4] && (a[5] == b[5] && (a[6] == b[6] && (a[7] == b[7] && (a[8] == b[8] && (a[9] == b[9] && (a[10] == b[10] && true))))))))))
theorem aP.Fi (a b:aP):aP.JQ a b=decide (a=b):=by
 by_cases h:a=b
 ·subst h;simp [aP.JQ]
 ·rw [decide_eq_false h]
  cases ht:aP.JQ a b with
  | false=>rfl
  | true =>
   exfalso
   apply h
   simp only [aP.JQ,Bool.and_eq_true,beq_iff_eq] at ht
   obtain⟨d,e,f,o,q,u,w,x,z,h9,a0,-⟩:=ht
   apply Vector.ext
   intro i hi
   match i,hi with
   | 0,_=>exact d
   | 1,_=>exact e
   | 2,_=>exact f
   | 3,_=>exact o
   | 4,_=>exact q
   | 5,_=>exact u
   | 6,_=>exact w
   | 7,_=>exact x
   | 8,_=>exact z
   | 9,_=>exact h9
   | 10,_=>exact a0
   | m+11,h=>omega
structure bu where
 rp:Int
 nm:Int
deriving DecidableEq
def bu.cells (x:bu):Array Value:=#[.int .i64 x.rp,.int .u64 x.nm]
abbrev bG:bu:=⟨0,0⟩
theorem sF:fD bu.cells 2:=⟨λ_=>rfl,λ_=>rfl⟩
structure pv where
 kd:Int
 ky:ByteArray
 va:ByteArray
 ol:ByteArray
 tx:ByteArray
 am:Int
deriving DecidableEq
def pv.cells (x:pv):Array Value:=#[.int .u8 x.kd,.string x.ky,.string x.va,.string x.ol,.string x.tx,.int .u64 x.am]
abbrev QS:pv:=⟨0,⟨#[]⟩,⟨#[]⟩,⟨#[]⟩,⟨#[]⟩,0⟩
structure QT where
 er:Int
 vl:ByteArray
deriving DecidableEq
def QT.cells (x:QT):Array Value:=#[.int .i64 x.er,.string x.vl]
structure bC where
 cl:Int
 tm:Int
 op:pv
 tg:bW
deriving DecidableEq
def bC.cells (x:bC):Array Value:=#[.int .i64 x.cl,.int .u64 x.tm,.int .u8 x.op.kd,.string x.op.ky,.string x.op.va,.string x.op.ol,.string x.op.tx,.int .u64 x.op.am,.int .u8 (x.tg[0]),.int .u8 (x.tg[1]),.int .u8 (x.tg[2]),.int .u8 (x.tg[3]),.int .u8 (x.tg[4]),.int .u8 (x.tg[5]),.int .u8 (x.tg[6]),.int .u8 (x.tg[7]),.int .u8 (x.tg[8]),.int .u8 (x.tg[9]),.int .u8 (x.tg[10]),.int .u8 (x.tg[11]),.int .u8 (x.tg[12]),.int .u8 (x.tg[13]),.int .u8 (x.tg[14]),.int .u8 (x.tg[15]),.int .u8 (x.tg[16]),.int .u8 (x.tg[17]),.int .u8 (x.tg[18]),.int .u8 (x.tg[19]),.int .u8 (x.tg[20]),.int .u8 (x.tg[21]),.int .u8 (x.tg[22]),.int .u8 (x.tg[23]),.int .u8 (x.tg[24]),.int .u8 (x.tg[25]),.int .u8 (x.tg[26]),.int .u8 (x.tg[27]),.int .u8 (x.tg[28]),.int .u8 (x.tg[29]),.int .u8 (x.tg[30]),.int .u8 (x.tg[31])]
abbrev cP:bC:=⟨0,0,QS,aI⟩
theorem CR:fD bC.cells 40:=⟨λ_=>rfl,λ_=>rfl⟩
structure aH where
 kd:Int
 vw:Int
 k:Int
 rq:bC
 qa:Option Addr
 qc:Nat
 ql:List bu
 dg:bW
def aH.cells (x:aH):Array Value:=#[.int .u8 x.kd,.int .u64 x.vw,.int .u64 x.k,.int .i64 x.rq.cl,.int .u64 x.rq.tm,.int .u8 x.rq.op.kd,.string x.rq.op.ky,.string x.rq.op.va,.string x.rq.op.ol,.string x.rq.op.tx,.int .u64 x.rq.op.am,.int .u8 (x.rq.tg[0]),.int .u8 (x.rq.tg[1]),.int .u8 (x.rq.tg[2]),.int .u8 (x.rq.tg[3]),.int .u8 (x.rq.tg[4]),.int .u8 (x.rq.tg[5]),.int .u8 (x.rq.tg[6]),.int .u8 (x.rq.tg[7]),.int .u8 (x.rq.tg[8]),.int .u8 (x.rq.tg[9]),.int .u8 (x.rq.tg[10]),.int .u8 (x.rq.tg[11]),.int .u8 (x.rq.tg[12]),.int .u8 (x.rq.tg[13]),.int .u8 (x.rq.tg[14]),.int .u8 (x.rq.tg[15]),.int .u8 (x.rq.tg[16]),.int .u8 (x.rq.tg[17]),.int .u8 (x.rq.tg[18]),.int .u8 (x.rq.tg[19]),.int .u8 (x.rq.tg[20]),.int .u8 (x.rq.tg[21]),.int .u8 (x.rq.tg[22]),.int .u8 (x.rq.tg[23]),.int .u8 (x.rq.tg[24]),.int .u8 (x.rq.tg[25]),.int .u8 (x.rq.tg[26]),.int .u8 (x.rq.tg[27]),.int .u8 (x.rq.tg[28]),.int .u8 (x.rq.tg[29]),.int .u8 (x.rq.tg[30]),.int .u8 (x.rq.tg[31]),.slice x.qa x.ql.length x.qc,.int .u8 (x.dg[0]),.int .u8 (x.dg[1]),.int .u8 (x.dg[2]),.int .u8 (x.dg[3]),.int .u8 (x.dg[4]),.int .u8 (x.dg[5]),.int .u8 (x.dg[6]),.int .u8 (x.dg[7]),.int .u8 (x.dg[8]),.int .u8 (x.dg[9]),.int .u8 (x.dg[10]),.int .u8 (x.dg[11]),.int .u8 (x.dg[12]),.int .u8 (x.dg[13]),.int .u8 (x.dg[14]),.int .u8 (x.dg[15]),.int .u8 (x.dg[16]),.int .u8 (x.dg[17]),.int .u8 (x.dg[18]),.int .u8 (x.dg[19]),.int .u8 (x.dg[20]),.int .u8 (x.dg[21]),.int .u8 (x.dg[22]),.int .u8 (x.dg[23]),.int .u8 (x.dg[24]),.int .u8 (x.dg[25]),.int .u8 (x.dg[26]),.int .u8 (x.dg[27]),.int .u8 (x.dg[28]),.int .u8 (x.dg[29]),.int .u8 (x.dg[30]),.int .u8 (x.dg[31])]
abbrev qx:aH:=⟨0,0,0,cP,none,0,[],aI⟩
structure aK where
 og:Int
 nr:Int
 dp:aP
 bd:aH
 tg:bW
def aK.cells (x:aK):Array Value:=#[.int .i64 x.og,.int .u64 x.nr,.int .u64 (x.dp[0]),.int .u64 (x.dp[1]),.int .u64 (x.dp[2]),.int .u64 (x.dp[3]),.int .u64 (x.dp[4]),.int .u64 (x.dp[5]),.int .u64 (x.dp[6]),.int .u64 (x.dp[7]),.int .u64 (x.dp[8]),.int .u64 (x.dp[9]),.int .u64 (x.dp[10]),.int .u8 x.bd.kd,.int .u64 x.bd.vw,.int .u64 x.bd.k,.int .i64 x.bd.rq.cl,.int .u64 x.bd.rq.tm,.int .u8 x.bd.rq.op.kd,.string x.bd.rq.op.ky,.string x.bd.rq.op.va,.string x.bd.rq.op.ol,.string x.bd.rq.op.tx,.int .u64 x.bd.rq.op.am,.int .u8 (x.bd.rq.tg[0]),.int .u8 (x.bd.rq.tg[1]),.int .u8 (x.bd.rq.tg[2]),.int .u8 (x.bd.rq.tg[3]),.int .u8 (x.bd.rq.tg[4]),.int .u8 (x.bd.rq.tg[5]),.int .u8 (x.bd.rq.tg[6]),.int .u8 (x.bd.rq.tg[7]),.int .u8 (x.bd.rq.tg[8]),.int .u8 (x.bd.rq.tg[9]),.int .u8 (x.bd.rq.tg[10]),.int .u8 (x.bd.rq.tg[11]),.int .u8 (x.bd.rq.tg[12]),.int .u8 (x.bd.rq.tg[13]),.int .u8 (x.bd.rq.tg[14]),.int .u8 (x.bd.rq.tg[15]),.int .u8 (x.bd.rq.tg[16]),.int .u8 (x.bd.rq.tg[17]),.int .u8 (x.bd.rq.tg[18]),.int .u8 (x.bd.rq.tg[19]),.int .u8 (x.bd.rq.tg[20]),.int .u8 (x.bd.rq.tg[21]),.int .u8 (x.bd.rq.tg[22]),.int .u8 (x.bd.rq.tg[23]),.int .u8 (x.bd.rq.tg[24]),.int .u8 (x.bd.rq.tg[25]),.int .u8 (x.bd.rq.tg[26]),.int .u8 (x.bd.rq.tg[27]),.int .u8 (x.bd.rq.tg[28]),.int .u8 (x.bd.rq.tg[29]),.int .u8 (x.bd.rq.tg[30]),.int .u8 (x.bd.rq.tg[31]),.slice x.bd.qa x.bd.ql.length x.bd.qc,.int .u8 (x.bd.dg[0]),.int .u8 (x.bd.dg[1]),.int .u8 (x.bd.dg[2]),.int .u8 (x.bd.dg[3]),.int .u8 (x.bd.dg[4]),.int .u8 (x.bd.dg[5]),.int .u8 (x.bd.dg[6]),.int .u8 (x.bd.dg[7]),.int .u8 (x.bd.dg[8]),.int .u8 (x.bd.dg[9]),.int .u8 (x.bd.dg[10]),.int .u8 (x.bd.dg[11]),.int .u8 (x.bd.dg[12]),.int .u8 (x.bd.dg[13]),.int .u8 (x.bd.dg[14]),.int .u8 (x.bd.dg[15]),.int .u8 (x.bd.dg[16]),.int .u8 (x.bd.dg[17]),.int .u8 (x.bd.dg[18]),.int .u8 (x.bd.dg[19]),.int .u8 (x.bd.dg[20]),.int .u8 (x.bd.dg[21]),.int .u8 (x.bd.dg[22]),.int .u8 (x.bd.dg[23]),.int .u8 (x.bd.dg[24]),.int .u8 (x.bd.dg[25]),.int .u8 (x.bd.dg[26]),.int .u8 (x.bd.dg[27]),.int .u8 (x.bd.dg[28]),.int .u8 (x.bd.dg[29]),.int .u8 (x.bd.dg[30]),.int .u8 (x.bd.dg[31]),.int .u8 (x.tg[0]),.int .u8 (x.tg[1]),.int .u8 (x.tg[2]),.int .u8 (x.tg[3]),.int .u8 (x.tg[4]),.int .u8 (x.tg[5]),.int .u8 (x.tg[6]),.int .u8 (x.tg[7]),.int .u8 (x.tg[8]),.int .u8 (x.tg[9]),.int .u8 (x.tg[10]),.int .u8 (x.tg[11]),.int .u8 (x.tg[12]),.int .u8 (x.tg[13]),.int .u8 (x.tg[14]),.int .u8 (x.tg[15]),.int .u8 (x.tg[16]),.int .u8 (x.tg[17]),.int .u8 (x.tg[18]),.int .u8 (x.tg[19]),.int .u8 (x.tg[20]),.int .u8 (x.tg[21]),.int .u8 (x.tg[22]),.int .u8 (x.tg[23]),.int .u8 (x.tg[24]),.int .u8 (x.tg[25]),.int .u8 (x.tg[26]),.int .u8 (x.tg[27]),.int .u8 (x.tg[28]),.int .u8 (x.tg[29]),.int .u8 (x.tg[30]),.int .u8 (x.tg[31])]
abbrev fE:aK:=⟨0,0,dB,qx,aI⟩
theorem JR:fD aK.cells 121:=⟨λ_=>rfl,λ_=>rfl⟩
theorem JS (a b:bW):gF Tryz.prog 2 39 (.agg (bW.cells a)) (.agg (bW.cells b))=decide (a=b):=by
 have h:gF Tryz.prog 2 39 (.agg (bW.cells a)) (.agg (bW.cells b))=bW.JQ a b:=zk
 rw [h,bW.Fi]
theorem OL (a b:bu):gF Tryz.prog 2 174 (.agg a.cells) (.agg b.cells)=decide (a=b):=by
 have h:gF Tryz.prog 2 174 (.agg a.cells) (.agg b.cells)=(a.rp == b.rp && (a.nm == b.nm && true)):=zk
 rw [h,ib,ib,Bool.and_true]
 obtain⟨d,e⟩:=a
 obtain⟨f,i⟩:=b
 simp only [bu.mk.injEq,Bool.decide_and]
theorem Qd (a b:pv):gF Tryz.prog 2 38 (.agg a.cells) (.agg b.cells)=decide (a=b):=by
 have h:gF Tryz.prog 2 38 (.agg a.cells) (.agg b.cells)=(a.kd == b.kd && (a.ky.toList == b.ky.toList && (a.va.toList == b.va.toList && (a.ol.toList == b.ol.toList && (a.tx.toList == b.tx.toList && (a.am == b.am && true)))))):=zk
 rw [h,ib,CG,CG,CG,CG,ib,Bool.and_true]
 obtain⟨d,e,f,i,o,q⟩:=a
 obtain⟨u,w,x,z,b4,b5⟩:=b
 simp only [pv.mk.injEq,Bool.decide_and]
theorem OM (a b:bC):gF Tryz.prog 3 41 (.agg a.cells) (.agg b.cells)=decide (a=b):=by
 have h:gF Tryz.prog 3 41 (.agg a.cells) (.agg b.cells)=(a.cl == b.cl && (a.tm == b.tm && (gF Tryz.prog 2 38 (.agg a.op.cells) (.agg b.op.cells) && (bW.JQ a.tg b.tg && true)))):=zk
 rw [h,ib,ib,Qd,bW.Fi,Bool.and_true]
 obtain⟨d,e,f,i⟩:=a
 obtain⟨o,q,u,w⟩:=b
 simp only [bC.mk.injEq,Bool.decide_and]
theorem GP:hU Tryz.prog 51 174 2 16:=⟨zk,⟨Tryz.t174,.agg (bu.cells bG),zk,zk,zk,zk,zk⟩,zb⟩
theorem NH:hU Tryz.prog 32 55 121 344:=⟨zk,⟨Tryz.t55,.agg (aK.cells fE),zk,zk,zk,zk,zk⟩,zb⟩
theorem Fj (l:List Int):(l.flatMap λx=>(aD x).toList)=l.map (Value.int .u8):=by
 induction l with
 | nil=>rfl
 | cons a l ih=>simp only [List.flatMap_cons,List.map_cons,ih];rfl
theorem sG (l:List Int):(aA aD l)=(l.map (Value.int .u8)).toArray:=by
 apply Array.ext'
 simp only [aA]
 exact Fj l
def jV (l:List Int):bW:=⟨((l++List.replicate 32 0).take 32).toArray,by rw [List.size_toArray,List.length_take,List.length_append,List.length_replicate];omega⟩
theorem Mb {l:List Int}(h:l.length=32):aA aD l=bW.cells (jV l):=by
 rw [bW.Ow,sG]
 apply Array.ext'
 have e:(l++List.replicate 32 0).take 32=l:=List.take_left' h
 show l.map (Value.int .u8)=(((l++List.replicate 32 0).take 32).toArray.map (Value.int .u8)).toList
 rw [e]
 simp
theorem ON (v:bW):bW.cells v=aA aD v.toList:=by
 rw [bW.Ow,sG]
 apply Array.ext'
 simp [Vector.toList]
theorem oh (v:bW):jV v.toList=v:=by
 have e:(v.toList++List.replicate 32 0).take 32=v.toList:=List.take_left' (bW.len v)
 apply Vector.toArray_inj.1
 show((v.toList++List.replicate 32 0).take 32).toArray=v.toArray
 rw [e]
 simp [Vector.toList]
end
section
variable {w0 w : World} {L : List bA} {ad : Option Addr} {c : Nat}
def hf (n:Int):List Int:=[IntKind.u8.wrap (aW .u16 n 8),IntKind.u8.wrap (aW .u16 n 0)]
theorem JT {l:List Int}{n:Int}:(l++([(IntKind.u8.wrap (aW .u16 n 8):Int)]))++([(IntKind.u8.wrap (aW .u16 n 0):Int)])=l++hf n:=by rw [List.append_assoc];rfl
theorem gU (n:Int):(hf n).length=2:=rfl
theorem Ic l n (hl:l.length<=900000) (hn:0<=n/\n<65536) (hs:St w0 (Sl ad c 5 1 aD l::L) w):Cs Tryz.prog 286 #[.slice ad l.length c,.int .u16 n,.int .i64 2] w λrv w'=>∃ ao co,rv=.slice ao ((l++hf n).length) co/\St w0 (Sl ao co 5 1 aD (l++hf n)::L) w':=by
 refine dF Tryz.func286 Tryz.ntmps286 (En (Lq (Ls (Lg [1,3] (Lw (dJ (f:=177) (args:=#[.slice ad l.length c]) Tryz.call177 (tX l ze hs) ?_))))))
 rintro v4 w5 ⟨d,e,rfl,i⟩
 refine Lo (Lw (dJ (f:=234) (args:=#[.slice d l.length e,.int .i64 2]) Tryz.call234 (qv l 2 ze za i) ?_))
 rintro v9 a4 ⟨a5,a6,rfl,o⟩
 refine Lz (Ls (Lq (Lb (Dz (aX.qw 3 (En (Ls (Lq (LT (Lk (Lt (Ls (Lb (Dz (dZ [6,7] (Hg 4 (.shift (aW .u16 n 8)) [.prop ((0:Int)<=8/\Int.fdiv n (2 ^ (min (Int.toNat 8) (IntKind.bits .u16)))=aW .u16 n 8)] (aJ ⟨(by first|omega|exact bK rfl _),rfl⟩ aR) Hz) (CB Rs aF [(IntKind.u8.wrap (aW .u16 n 8):Int)] o λa7 a8 q=>Lo (Dz (sD Rs aF (0:Int) (q.pl 1) zt λa9 b0 b1 x=>Lo (cI (Lm (Lt (La (Dz (aS.again (En (Ls (Lq (LT (Lk (Lt (Ls (Lb (Dz (dZ [6,7] (Hg 4 (.shift (aW .u16 n 0)) [.prop ((0:Int)<=0/\Int.fdiv n (2 ^ (min (Int.toNat 0) (IntKind.bits .u16)))=aW .u16 n 0)] (aJ ⟨(by first|omega|exact bK rfl _),rfl⟩ aR) Hz) (CB Rs aF [(IntKind.u8.wrap (aW .u16 n 0):Int)] x λb2 b3 z=>Lo (Dz (sD Rs aF (0:Int) (z.pl 1) zt λa b b4 a1=>Lo (cI (Lm (Lt (La (Dz (aS.again (En (Ls (Lq (LF (Lx (mM (mN (Lh (Lt (Lq (Le (Dz (bY (v:=.slice a (((l++([(IntKind.u8.wrap (aW .u16 n 8):Int)]))++([(IntKind.u8.wrap (aW .u16 n 0):Int)])).length) b) ?_))))))))))))))))))))))))))))))))))))))))))))))))))))))))
 have a2:=((a1.pl 0).pl 2).pl 2
 exact⟨a,b,by rw [<- JT],by rw [<- JT];exact(a2.dr 2)⟩
theorem Ie l n (hl:l.length<=900000) (hn:0<=n/\n<65536) (hs:St w0 (Sl ad c 5 1 aD l::L) w):Cs Tryz.prog 232 #[.slice ad l.length c,.int .u16 n] w λrv w'=>∃ ao co,rv=.slice ao ((l++hf n).length) co/\St w0 (Sl ao co 5 1 aD (l++hf n)::L) w':=by
 refine dF Tryz.func232 Tryz.ntmps232 (En (Lq (Ls (Lg [2] (Lw (Zc (Ic l n zc zc hs) ?_))))))
 rintro e f ⟨a,b,rfl,d⟩
 exact Lz (Le (Dz (bY (v:=.slice a ((l++hf n).length) b) ⟨a,b,rfl,d⟩)))
def tx (s:ByteArray):List Int:=hf (s.size:Nat)++cH s
theorem pw (s:ByteArray):(tx s).length=2+s.size:=by rw [tx,List.length_append,gU,dK]
theorem py l s (hl:l.length<=800000) (hsz:s.size<65536) (hs:St w0 (Sl ad c 5 1 aD l::L) w):Cs Tryz.prog 175 #[.slice ad l.length c,.string s] w λrv w'=>∃ ao co,rv=.tuple #[.slice ao ((l++tx s).length) co,.int .i64 0]/\St w0 (Sl ao co 5 1 aD (l++tx s)::L) w':=by
 refine dF Tryz.func175 Tryz.ntmps175 (En (Lq (Ls (Lq (Dz (Zi ((s.size:Int) >= 65536) (λd=>?_) (λd=>?_)))))))
 ·exfalso;omega
 ·refine Zk (Zt (Zs (dZ [4,6] (Hg 3 (.dH (.int .u16 (s.size:Nat)) (.gen [])) [.prop (Value.int .u16 (IntKind.u16.wrap (s.size:Nat))=Value.int .u16 (s.size:Nat))] (aJ (M5 za za) aR) Hz) (Zc (Ie l (s.size:Nat) za za hs) ?_))))
  rintro x z ⟨e,i,rfl,o⟩
  exact Lo (Lw (aL.yQ rfl zk Rs (u:=9) zk (f:=aD) rfl (ad:=e) (c:=i) (xs:=l++hf (s.size:Nat)) (s:=s) zk o (by simp only [List.length_append,gU];omega) λa b w7 q=>Lz (Le (Dz (Jq (v:=.slice a (((l++hf (s.size:Nat))++cH s).length) b) (v':=.int .i64 0) ⟨a,b,by rw [(show(l++hf (s.size:Nat))++cH s=l++tx s from List.append_assoc ..)],by rw [<- (show(l++hf (s.size:Nat))++cH s=l++tx s from List.append_assoc ..)];exact q⟩)))))
theorem Mc {v:Int}(h:0<=v/\v<65536):jE (hf v)=v:=by
 obtain⟨n,rfl⟩:∃ n:Nat,v=n:=⟨v.toNat,za⟩
 have b:IntKind.u8.wrap (aW .u16 (n:Int) 8)=((n / 256:Nat):Int):=by
  show((n:Int).fdiv (2 ^ (min (Int.toNat (8:Int)) 16))) % 256=_
  show((n:Int).fdiv 256) % 256=_
  rw [Int.fdiv_eq_ediv_of_nonneg _ zb]
  omega
 have d:IntKind.u8.wrap (aW .u16 (n:Int) 0)=((n % 256:Nat):Int):=by
  show((n:Int).fdiv (2 ^ (min (Int.toNat (0:Int)) 16))) % 256=_
  show((n:Int).fdiv 1) % 256=_
  rw [Int.fdiv_eq_ediv_of_nonneg _ zb]
  omega
 rw [hf,b,d]
 show jQ .u64 (cD .u64 (jQ .u64 (cD .u64 0 8) (IntKind.u64.wrap ((n / 256:Nat):Int))) 8) (IntKind.u64.wrap ((n % 256:Nat):Int))=_
 have e:jQ .u64 (cD .u64 0 8) ((n / 256:Nat):Int)=((n / 256:Nat):Int):=by
  rw [PR (a:=0) za za za]
  omega
 rw [lj za za,lj za za,e,PR za za za]
 omega
theorem NI {v:Int}(h:0<=v/\v<65536):IntKind.u16.wrap v=v:=by
 show v % 65536=v
 omega
theorem JU {v:Int}(h:0<=v/\v<256):jE [v]=v:=by
 show jQ .u64 (cD .u64 0 8) (IntKind.u64.wrap v)=v
 rw [lj za za,PR za h za]
 omega
theorem GQ {v:Int}(h:0<=v/\v<256):IntKind.u8.wrap v=v:=by
 show v % 256=v
 omega
end
section
variable {w0 w : World} {L : List bA} {ad : Option Addr} {c : Nat} {az : Option Addr} {cz : Nat}
abbrev CS:=List Int×Bool
def tk (n:Nat) (s:CS):List Int×CS:=if s.2=true\/s.1.length<n then ([],(s.1,true)) else (s.1.take n,(s.1.drop n,false))
def JV (n:Nat) (s:CS):Int×CS:=(jE (tk n s).1,(tk n s).2)
def kK (s:CS):Int×CS:=(IntKind.u8.wrap (jE (tk 1 s).1),(tk 1 s).2)
def pW (s:CS):Nat×CS:=((IntKind.u16.wrap (jE (tk 2 s).1)).toNat,(tk 2 s).2)
def jn (s:CS):Int×CS:=JV 8 s
def pX (most:Int) (s:CS):ByteArray×CS :=
 let h:=pW s
 let t:=tk h.1 (h.2.1,h.2.2 || (decide ((h.1:Int)>most)))
 if t.2.2=true then (⟨#[]⟩,(s.1,true)) else (strOf t.1,t.2)
def Md (ad:Option Addr) (c:Nat):Prop:=(∃ b off,ad=some ⟨b,off,none⟩)\/(ad=none/\c=0)
theorem Md.nn (h:Md ad c) (e:ad=none):c=0:=by
 rcases h with⟨b,o,h⟩|h
 ·rw [e] at h;cases h
 ·exact h.2
theorem Md.sub {c n:Nat}(h:Md ad c):Md (ja ad c n 1) (c-n):=by
 rcases h with h|⟨rfl,rfl⟩
 ·exact .inl (Fg h)
 ·refine .inr ⟨?_,za⟩
  unfold ja
  split<;>rfl
theorem GR {α:Type}{w0 w:World}{L:List bA}{ad:Option Addr}{c size:Nat}{e:TypeId}{f:α->Array Value}{l:List α}(hs:St w0 L w) (i:Nat) (hi:L[i]?=some (Sl ad c e size f l)):Md ad c:=by
 have h:w.ownsRow 0 e size (.slice ad l.length c) l.length (l.flatMap λx=>(f x).toList):=hs.at_ i hi
 rcases h.2 with⟨a,b⟩|⟨g,cap,cur,hv,_⟩
 ·simp only [Value.slice.injEq] at a
  exact .inr ⟨a.1,a.2.2⟩
 ·simp only [Value.slice.injEq] at hv
  exact .inl ⟨g,0,hv.1⟩
structure cQ (Q:bA) (az:Option Addr) (r:List Int) (cz:Nat):Prop where
 cap:r.length<=cz
 QU:Md az cz
 row:∀ w,Q.holds w->aC w az r.length 1 (λk=>aD (r.getD k 0))
 Qe:∀ z∈r,0<=z/\z<256
 len:r.length<=1000000
theorem cQ.drop {Q:bA}{az:Option Addr}{r:List Int}{cz:Nat}(h:cQ Q az r cz){n:Nat}(hn:n<=r.length):cQ Q (ja az cz n 1) (r.drop n) (cz-n) :=
 ⟨by have:=h.cap;rw [List.length_drop];omega,h.QU.sub,λw hw=>aC.JO (h.row w hw) h.cap hn,λz hz=>h.Qe z (List.mem_of_mem_drop hz),by have:=h.len;rw [List.length_drop];omega⟩
theorem Fk {n:Nat}{r:List Int}{sp:Bool}(h:sp=true\/r.length<n):tk n (r,sp)=([],(r,true)):=if_pos h
theorem GS {n:Nat}{r:List Int}{sp:Bool}(h1:sp=false) (h2:n<=r.length):tk n (r,sp)=(r.take n,(r.drop n,false)):=if_neg (by rw [h1];simp;omega)
theorem JW:∀ (l:List Int),0<=jE l/\jE l<18446744073709551616:=by
 intro l
 rcases List.eq_nil_or_concat l with rfl|⟨q,x,rfl⟩
 ·exact⟨Int.le_refl 0,zb⟩
 ·have e:jE (q++[x])=jQ .u64 (cD .u64 (jE q) 8) (IntKind.u64.wrap x):=by simp only [jE,List.foldl_append,List.foldl_cons,List.foldl_nil]
  rw [List.concat_eq_append,e]
  show 0<=IntKind.u64.wrap _/\IntKind.u64.wrap _<_
  exact⟨Int.emod_nonneg _ zb,Int.emod_lt_of_pos _ zb⟩
theorem pz Q r sp n (hQ:∀ w,St w0 L w->Q.holds w) (hq:cQ Q az r cz) (hs:St w0 (aB c #[.slice az r.length cz,.bool sp] 316::L) w):Cs Tryz.prog 178 #[zP c 0,.int .i64 (n:Nat)] w λrv w'=>(rv=.slice az ((r.take n).length) cz/\sp=false/\n<=r.length/\St w0 (aB c #[.slice (ja az cz n 1) ((r.drop n).length) (cz-n),.bool false] 316::L) w')\/(rv=.slice none 0 0/\(sp=true\/r.length<n)/\St w0 (aB c #[.slice az r.length cz,.bool true] 316::L) w'):=by
 refine dF Tryz.func178 Tryz.ntmps178 (Zs ?_)
 have hcap:=hq.cap
 refine En (La (Lt (Ls (Lq (LF (Lk (Lt (Ls (Ls (Lg [20] (Dz (kJ 0 6 (Hl 4 0 1 hs Hz) (iy 13 sp (λd=>?_) (λd=>?_))))))))))))))
 ·exact En (Lw (Zu 0 1 #[.slice az r.length cz,.bool true] hs λq f=>Lo (Ld (Lt (Ls (Dz (dE (Hl 3 0 1 f Hz) (En (Lt (LT (Lq (Le (Ly (Dz (bY (v:=.slice none 0 0) (.inr (⟨rfl,.inl d,f⟩)))))))))))))))))
 ·refine Zr 6 4 [] (LY 17 ((n:Int)<0) (λo=>?_) (λo=>?_))
  ·exfalso;omega
  ·refine Zj (Hl 14 0 0 hs Hz) (Zu 0 1 #[.slice az r.length cz,.bool (decide ((n:Int)>(r.length:Nat)))] hs λu b=>Lo (Ld (Lt (Ls (Dz (dE (Hl 3 0 1 b Hz) (Zt (Zi ((n:Int)>(r.length:Nat)) (λe=>?_) (λe=>?_)))))))))
   ·refine En (Lq (Le (Ly (Dz (bY (v:=.slice none 0 0) ?_)))))
    rw [decide_eq_true e] at b
    exact .inr (⟨rfl,.inr za,b⟩)
   ·refine Zk (Zt (Zs (dE (Hl 3 0 0 b (Hg 5 (.dH (.slice az ((r.take n).length) cz) (.sub 0 n)) [.prop ((n:Int)=(n:Int)),.prop (((none:Option Operand)=none->(0:Nat)=0)/\(some (Operand.tmp 36)=none->(n:Nat)=r.length)/\(0:Nat)<=n/\(n:Nat)<=cz),.prop (Value.slice (if cz=0 then az else (az:Option Addr).map (λa=>a.add (0*1))) (n-0) (cz-0)=Value.slice az ((r.take n).length) cz)] (aJ za (aJ ⟨(by first|(intro _;rfl)|(intro hc;cases hc)),(by first|(intro _;rfl)|(intro hc;cases hc)),za,za⟩ (aJ (JN zE) aR))) Hz)) (Zt (Zs (dZ [9] (Hl 4 0 0 b (Hg 6 (.dH (.slice (ja az cz n 1) ((r.drop n).length) (cz-n)) (.sub n r.length)) [.prop ((n:Int)=(n:Int)),.prop ((some (Operand.tmp 43)=none->(n:Nat)=0)/\((none:Option Operand)=none->(r.length:Nat)=r.length)/\(n:Nat)<=r.length/\(r.length:Nat)<=cz),.prop (Value.slice (if cz=n then az else (az:Option Addr).map (λa=>a.add (n*1))) (r.length-n) (cz-n)=Value.slice (ja az cz n 1) ((r.drop n).length) (cz-n))] (aJ za (aJ ⟨(by first|(intro _;rfl)|(intro hc;cases hc)),(by first|(intro _;rfl)|(intro hc;cases hc)),za,za⟩ (aJ (M7 zE) aR))) Hz)) (Zu 0 0 #[.slice (ja az cz n 1) ((r.drop n).length) (cz-n),.bool (decide ((n:Int)>(r.length:Nat)))] b λx i=>Lo (Ld (Lt (Lq (Le (Dz (bY (v:=.slice az ((r.take n).length) cz) ?_)))))))))))))
    rw [decide_eq_false e] at i
    exact .inl ⟨rfl,d,za,i⟩
theorem vL Q r sp n (hQ:∀ w,St w0 L w->Q.holds w) (hq:cQ Q az r cz) (hs:St w0 (aB c #[.slice az r.length cz,.bool sp] 316::L) w):Cs Tryz.prog 179 #[.func (.func 178) #[zP c 0] #[],.int .i64 (n:Nat)] w λrv w'=>∃ vv2 rr2 sp2 az2 cz2,rv=.int .u64 vv2/\JV n (r,sp)=(vv2,(rr2,sp2))/\cQ Q az2 rr2 cz2/\St w0 (aB c #[.slice az2 rr2.length cz2,.bool sp2] 316::L) w':=by
 refine dF Tryz.func179 Tryz.ntmps179 (Zs ?_)
 have hrl:=hq.len
 refine En (La (Lt (Ls (Ls (Lg [2] (Lw (Zc (pz Q r sp n (λw h=>hQ w (h.drop 0)) zc hs) ?_)))))))
 rintro x w7 (⟨rfl,f,b,i⟩|⟨rfl,o,q⟩)
 ·refine Lz (Lb (Dz (aX.loop (T:=Nat×Int×(Option Addr)) (λgg=>[(4,.int .u64 gg.2.1),(9,.slice gg.2.2 ((r.take n).length) cz),(10,.int .i64 ((r.take n).length:Nat)),(11,.int .i64 (gg.1:Nat))]) (λgg w=>(gg.1<=(r.take n).length/\gg.2.1=jE ((r.take n).take gg.1)/\∀ w,St w0 L w->aC w gg.2.2 (r.take n).length 1 (λk=>aD ((r.take n).getD k 0)))/\St w0 (aB c #[.slice (ja az cz n 1) ((r.drop n).length) (cz-n),.bool false] 316::L) w) (λgg=>(r.take n).length-gg.1) (0,0,az) [4,9,10,11] zk ⟨⟨Nat.zero_le _,rfl,λw h=>aC.GM (hq.row w (hQ w h)) n b⟩,i⟩ ?_)))
  rintro⟨jj,z,aq⟩ w8 ⟨hp,a⟩
  dsimp only at hp a
  have hw:=hp.2.2
  have htl:(r.take n).length=n:=by rw [List.length_take];omega
  refine En (Lq (Ls (Dz (Zi ((jj:Int)<((r.take n).length:Nat)) (λu=>?_) (λu=>?_)))))
  ·obtain⟨d,e,rfl⟩:=aC.isSome (hw _ (a.drop 1)) za
   exact Zk (Zt (Zs (Zb (Zs (dE (Hx 0 (jj:Int) ((r.take n).length:Int) d e 1 (Hg 1 (.gen [.int .u8 ((r.take n).getD jj 0)]) [.cell ⟨d,e+(jj*1),none⟩ (.int .u8 ((r.take n).getD jj 0))] (bE (aC.cV (hw _ (a.drop 1)) (k:=jj) zo (j:=0) zb zk) aR) Hz)) (Zt (dE (Hg 1 (.shift (cD .u64 z 8)) [.prop ((0:Int)<=8/\IntKind.u64.wrap (z*2 ^ (min (Int.toNat 8) (IntKind.bits .u64)))=cD .u64 z 8)] (aJ ⟨(by first|omega|exact bK rfl _),rfl⟩ aR) Hz) (Zm (Zt (dE (eT 0 ((jj:Nat)+1) Hz) (aS.back (jj+1,jQ .u64 (cD .u64 z 8) (IntKind.u64.wrap ((r.take n).getD jj 0)),some ⟨d,e,none⟩) [4,9,10,11] zk (by show(r.take n).length-(jj+1)<(r.take n).length-jj;omega) ⟨⟨za,by rw [Ia za,<- hp.2.1],hw⟩,a⟩)))))))))))
  ·have hke:jj=(r.take n).length:=za
   exact En (Lx (mM (mN (Lh (Lt (Lq (Le (Dz (bY (v:=.int .u64 z) ⟨jE (r.take n),r.drop n,false,ja az cz n 1,(cz-n),(by rw [hp.2.1,hke,List.take_length]),(show(jE (tk n (r,sp)).1,(tk n (r,sp)).2)=_ by rw [GS f b]),hq.drop b,a⟩)))))))))
 ·exact Lz (Lb (Dz (aX.qw 1 (En (Lq (Ls (LF (Lx (mM (mN (Lh (Lt (Lq (Le (Dz (bY (v:=.int .u64 0) ⟨0,r,true,az,cz,rfl,(show(jE (tk n (r,sp)).1,(tk n (r,sp)).2)=_ by rw [Fk o];rfl),hq,q⟩))))))))))))))))
theorem Ig {s:CS}{v:Int}{s2:CS}(h:jn s=(v,s2)):0<=v/\v<18446744073709551616:=by
 have a:(jn s).1=v:=by rw [h]
 rw [<- a]
 exact JW _
theorem sH {s:CS}{v:Int}{s2:CS}(h:kK s=(v,s2)):0<=v/\v<256:=by
 have a:(kK s).1=v:=by rw [h]
 rw [<- a]
 show 0<=jE _ % 256/\jE _ % 256<256
 omega
theorem Ih {s:CS}{v:Nat}{s2:CS}(h:pW s=(v,s2)):v<65536:=by
 have a:(pW s).1=v:=by rw [h]
 rw [<- a]
 show(jE _ % 65536).toNat<65536
 omega
theorem cJ Q r sp (hQ:∀ w,St w0 L w->Q.holds w) (hq:cQ Q az r cz) (hs:St w0 (aB c #[.slice az r.length cz,.bool sp] 316::L) w):Cs Tryz.prog 119 #[zP c 0] w λrv w'=>∃ vv2 rr2 sp2 az2 cz2,rv=.int .u64 vv2/\jn (r,sp)=(vv2,(rr2,sp2))/\(0<=vv2/\vv2<18446744073709551616)/\cQ Q az2 rr2 cz2/\St w0 (aB c #[.slice az2 rr2.length cz2,.bool sp2] 316::L) w':=by
 refine dF Tryz.func119 Tryz.ntmps119 (En (Lq (Lq (Ls (Lg [1] (Lw (Zc (vL Q r sp 8 (λw h=>hQ w (h.drop 0)) zc hs) ?_)))))))
 rintro q u ⟨a,rr2,d,e,f,rfl,b,i,o⟩
 exact Lz (Le (Dz (bY (v:=.int .u64 a) ⟨a,rr2,d,e,f,rfl,b,Ig b,i,o⟩)))
theorem iz Q r sp (hQ:∀ w,St w0 L w->Q.holds w) (hq:cQ Q az r cz) (hs:St w0 (aB c #[.slice az r.length cz,.bool sp] 316::L) w):Cs Tryz.prog 271 #[zP c 0] w λrv w'=>∃ vv2 rr2 sp2 az2 cz2,rv=.int .u8 vv2/\kK (r,sp)=(vv2,(rr2,sp2))/\(0<=vv2/\vv2<256)/\cQ Q az2 rr2 cz2/\St w0 (aB c #[.slice az2 rr2.length cz2,.bool sp2] 316::L) w':=by
 refine dF Tryz.func271 Tryz.ntmps271 (En (Lq (Lq (Ls (Lg [1] (Lw (Zc (vL Q r sp 1 (λw h=>hQ w (h.drop 0)) zc hs) ?_)))))))
 rintro u x ⟨b,rr2,d,e,f,rfl,i,o,q⟩
 refine Lz (Le (Dz (bY (v:=.int .u8 (IntKind.u8.wrap b)) ?_)))
 obtain⟨ha,hb⟩:jE (tk 1 (r,sp)).1=b/\(tk 1 (r,sp)).2=(rr2,d):=by
  have a:=i
  unfold JV at a
  exact Prod.mk.inj a
 have a:kK (r,sp)=(IntKind.u8.wrap b,(rr2,d)):=by unfold kK;rw [ha,hb]
 exact⟨IntKind.u8.wrap b,rr2,d,e,f,rfl,a,(sH a),o,q⟩
theorem A2 Q r sp (hQ:∀ w,St w0 L w->Q.holds w) (hq:cQ Q az r cz) (hs:St w0 (aB c #[.slice az r.length cz,.bool sp] 316::L) w):Cs Tryz.prog 338 #[zP c 0] w λrv w'=>∃ nn2 rr2 sp2 az2 cz2,rv=.int .u16 (nn2:Nat)/\pW (r,sp)=(nn2,(rr2,sp2))/\nn2<65536/\cQ Q az2 rr2 cz2/\St w0 (aB c #[.slice az2 rr2.length cz2,.bool sp2] 316::L) w':=by
 refine dF Tryz.func338 Tryz.ntmps338 (En (Lq (Lq (Ls (Lg [1] (Lw (Zc (vL Q r sp 2 (λw h=>hQ w (h.drop 0)) zc hs) ?_)))))))
 rintro x z ⟨a,rr2,d,e,f,rfl,i,o,q⟩
 refine Lz (Le (Dz (bY (v:=.int .u16 (IntKind.u16.wrap a)) ?_)))
 obtain⟨ha,hb⟩:jE (tk 2 (r,sp)).1=a/\(tk 2 (r,sp)).2=(rr2,d):=by
  have b:=i
  unfold JV at b
  exact Prod.mk.inj b
 have b:pW (r,sp)=((IntKind.u16.wrap a).toNat,(rr2,d)):=by unfold pW;rw [ha,hb]
 have u:0<=IntKind.u16.wrap a:=Int.emod_nonneg _ zb
 exact⟨(IntKind.u16.wrap a).toNat,rr2,d,e,f,(by rw [Int.toNat_of_nonneg u]),b,Ih b,o,q⟩
theorem vM (r:List Int) (sp:Bool) (hs:St w0 (aB c #[.slice az r.length cz,.bool sp] 316::L) w):Cs Tryz.prog 121 #[zP c 0] w λrv w'=>rv=.bool (!sp)/\St w0 (aB c #[.slice az r.length cz,.bool sp] 316::L) w':=by
 exact dF Tryz.func121 Tryz.ntmps121 (En (Lq (Ls (Dz (dE (Hl 6 0 1 hs Hz) (Zt (Ze (bY (v:=.bool (!sp)) ⟨rfl,hs⟩))))))))
end
section
variable {w0 w : World} {L : List bA} {ad : Option Addr} {c : Nat} {az : Option Addr} {cz : Nat} {ay : Option Addr} {cy : Nat} {ax : Option Addr} {cx : Nat} {ab : Nat} {aoff : Nat} {ca : Nat}
theorem CT {ac:Nat}l (hl:l.length<=1000000000) (hrow:Rw w0 L aD 1 0 (some ⟨ab,aoff,none⟩) l) (hs:St w0 L w):Cs Tryz.prog 177 #[zL ab aoff l.length ac] w λrv w'=>∃ ao co,rv=.slice ao l.length co/\St w0 (Sl ao co 5 1 aD l::L) w':=by
 refine dF Tryz.func177 Tryz.ntmps177 (En (Lq (Ls (Lq (LF (Lk (Lt (Ls (Lg [0,2] (Dz (aL.gT rfl zk (t:=66) (e:=5) zk zk (ti:=Tryz.t5) zk hs λa o q u=>?_)))))))))))
 have b:St w0 (Sl (some ⟨a,0,none⟩) 0 5 1 aD ([]:List Int)::L) o:=St.iw (l:=([]:List Int)) (f:=aD) q u aF.size zf zk
 exact Lo (Lw (aL.append rfl zk Rs aF (ad:=some ⟨a,0,none⟩) (c:=0) (xs:=([]:List Int)) (ys:=l) (adx:=some ⟨ab,aoff,none⟩) (cx:=ac) (0:Int) zk b (hrow _ (b.drop 1)) (λh=>nomatch h) (by simp only [List.length_nil];omega) (by simp only [List.length_nil];omega) λd i z x=>Lz (Le (Dz (bY (v:=.slice d l.length i) ⟨d,i,zw,x⟩)))))
theorem om l (hl:l.length<=1000000000) (hsm:Md ad c) (hr:Rw w0 L aD 1 0 ad l) (hs:St w0 L w) :
 Cs Tryz.prog 177 #[.slice ad l.length c] w λrv w'=>∃ ao co,rv=.slice ao l.length co/\St w0 (Sl ao co 5 1 aD l::L) w':=by
 rcases hsm with⟨b,off,rfl⟩|⟨rfl,rfl⟩
 ·exact CT l hl hr hs
 ·have a:l=[]:=by
   cases l with
   | nil=>rfl
   | cons x q=>obtain⟨b,off,e⟩:=aC.isSome (hr _ hs) (Nat.succ_pos _);cases e
  subst a
  refine Calls.ret (od hs) ?_
  rintro v d ⟨rfl,h⟩
  exact⟨none,0,rfl,St.eB h 5 1 aD⟩
theorem yR {most:Int}{s:CS}{n:Nat}{r1:List Int}{p1:Bool}(h:pW s=(n,(r1,p1))) (hb:(p1 || decide ((n:Int)>most))=true\/r1.length<n):pX most s=(⟨#[]⟩,(s.1,true)):=by
 unfold pX
 rw [h]
 simp only []
 rw [Fk hb]
 rfl
theorem CU {most:Int}{s:CS}{n:Nat}{r1:List Int}(h:pW s=(n,(r1,false))) (hm:(n:Int)<=most) (hn:n<=r1.length):pX most s=(strOf (r1.take n),(r1.drop n,false)):=by
 unfold pX
 rw [h]
 simp only []
 rw [GS zO hn]
 rfl
theorem kP Q r sp most (hQ:∀ w,St w0 L w->Q.holds w) (hq:cQ Q az r cz) (hs:St w0 (aB c #[.slice az r.length cz,.bool sp] 316::L) w):Cs Tryz.prog 317 #[zP c 0,.int .i64 most] w λrv w'=>∃ ss2 rr2 sp2 az2 cz2,rv=.string ss2/\pX most (r,sp)=(ss2,(rr2,sp2))/\cQ Q az2 rr2 cz2/\St w0 (aB c #[.slice az2 rr2.length cz2,.bool sp2] 316::L) w':=by
 refine dF Tryz.func317 Tryz.ntmps317 (En (Lq (Ls (Lq (LF (Lk (Lt (Ls (Dz (dE (Hl 3 0 0 hs Hz) (En (Lt (Ls (Lg [1] (Lw (Zc (A2 Q r sp (λw h=>hQ w (h.drop 0)) hq hs) ?_))))))))))))))))
 rintro b5 b6 ⟨a,rr2,b,q,o,rfl,u,b7,x,a0⟩
 refine P6 (eT 2 (a:Nat) Hz) (Zt (Zs (Zs (aX.join (T:=Unit) (E:=λ_=>[(26,.bool ((!b) && (decide ((a:Int)>most)))),(6,.int .i64 (a:Nat)),(5,.slice az r.length cz),(4,.string ku),(0,zP c 0)]) (F:=λ_ w=>St w0 (aB c #[.slice q rr2.length o,.bool b] 316::L) w) ?_ ?_))))
 ·refine Zg [] (kJ 0 6 (Hl 3 0 1 a0 Hz) ?_)
  rcases Bool.eq_false_or_eq_true (!b) with d|d
  ·exact nQ 22 true d (En (cI (Dz (lM [26,6,5,4,0] () (decide ((a:Int)>most)) (by first|rfl|simp [Hb,d,sA d]) a0))))
  ·exact nQ 22 false d (En (cI (Dz (lM [26,6,5,4,0] () false (by first|rfl|simp [Hb,d,pK d]) a0))))
 intro _ b8 a3
 refine Zt (eZ (t:=(!b) && (decide ((a:Int)>most))) (λi=>?_) (λi=>?_))
 ·have a8:=(Bool.and_eq_true_iff.1 i).1
  have a9:(decide ((a:Int)>most))=true:=(Bool.and_eq_true_iff.1 i).2
  refine En (Lg [3] (Lw (Zu 0 1 #[.slice q rr2.length o,.bool true] a3 λc1 b0=>Lo (Ld (Lt (Ls (Lg [2] (Lw (Zc (pz Q rr2 true a (λw h=>hQ w (h.drop 0)) x b0) ?_)))))))))
  rintro c2 c3 (⟨rfl,b1,c4,c5⟩|⟨rfl,c6,a4⟩)
  ·cases b1
  ·exact Lz (Ls (Ls (Dz (dE (Hl 3 0 1 a4 Hz) (En (Lt (LT (Ls (Lg [4] (Lw (Zu 0 0 #[.slice az r.length cz,.bool true] a4 λc7 b2=>Lo (Ld (Lt (Lq (Le (Ly (Dz (bY (v:=.string ku) ⟨⟨#[]⟩,r,true,az,cz,rfl,yR u (.inl (by rw [Bool.and_eq_true] at i;rw [i.2,Bool.or_true])),hq,b2⟩))))))))))))))))))
 ·refine En (Lk (Lt (Ls (Lg [2] (Lw (Zc (pz Q rr2 b a (λw h=>hQ w (h.drop 0)) x a3) ?_))))))
  rintro c8 c9 (⟨rfl,a5,a6,a2⟩|⟨rfl,b3,a7⟩)
  ·exact Lz (Ls (Ls (Dz (dE (Hl 3 0 1 a2 Hz) (En (Lt (LF (Lk (Lt (Ls (Lg [] (Dz (Zr 0 1 [] (aL.H9 rfl zk (src:=66) (dst:=9) (e:=5) (ad:=q) (n:=(rr2.take a).length) (cap:=o) (f:=aD) rfl (rr2.take a) rfl zk zk zk zk (λz hz=>cQ.Qe (by assumption) z (List.mem_of_mem_take hz)) (aC.GM (x.row _ (hQ _ (a2.drop 1))) _ za) (En (cI (Lt (Le (Dz (bY (v:=.string (strOf (rr2.take a))) ⟨strOf (rr2.take a),rr2.drop a,false,ja q o a 1,o-a,rfl,CU (a5▸u) (by rw [a5] at i;simp at i;omega) a6,cQ.drop (by assumption) a6,a2⟩))))))))))))))))))))
  ·exact Lz (Ls (Ls (Dz (dE (Hl 3 0 1 a7 Hz) (En (Lt (LT (Ls (Lg [4] (Lw (Zu 0 0 #[.slice az r.length cz,.bool true] a7 λd0 b4=>Lo (Ld (Lt (Lq (Le (Ly (Dz (bY (v:=.string ku) ⟨⟨#[]⟩,r,true,az,cz,rfl,yR u (b3.elim (λh=>.inl (by rw [h];rfl)) .inr),hq,b4⟩))))))))))))))))))
theorem CV Q r sp n (hQ:∀ w,St w0 L w->Q.holds w) (hq:cQ Q az r cz) (hs:St w0 (aB c #[.slice az r.length cz,.bool sp] 316::L) w):Cs Tryz.prog 180 #[zP c 0,.int .i64 (n:Nat)] w λrv w'=>∃ ao2 co2 ll2 rr2 sp2 az2 cz2,rv=.slice ao2 ll2.length co2/\tk n (r,sp)=(ll2,(rr2,sp2))/\cQ Q az2 rr2 cz2/\St w0 (Sl ao2 co2 5 1 aD ll2::aB c #[.slice az2 rr2.length cz2,.bool sp2] 316::L) w':=by
 refine dF Tryz.func180 Tryz.ntmps180 (En (Lq (Ls (Lg [2,3] (Lw (Zc (pz Q r sp n (λw h=>hQ w (h.drop 0)) hq hs) ?_))))))
 rintro v6 w7 (⟨rfl,e,a,i⟩|⟨rfl,o,q⟩)
 ·refine Lo (Dz (dJ (f:=177) (args:=#[.slice az ((r.take n).length) cz]) Tryz.call177 (om (r.take n) (by have:=hq.len;rw [List.length_take];omega) hq.QU (λw h=>aC.GM (hq.row w (hQ w (h.drop 1))) _ za) i) ?_))
  rintro a0 a1 ⟨b,d,rfl,u⟩
  exact Lz (Le (Dz (bY (v:=.slice b ((r.take n).length) d) ⟨b,d,r.take n,r.drop n,false,ja az cz n 1,cz-n,rfl,GS e a,hq.drop a,u⟩)))
 ·exact Lo (Dz (CH (od q) λa3 x=>Lz (Le (Dz (bY (v:=.slice none 0 0) ⟨none,0,([]:List Int),r,true,az,cz,rfl,Fk o,hq,St.eB x 5 1 aD⟩)))))
theorem CW F (hFl:F.length<=1000000000) (hsm:Md ad ca) (hr:Rw w0 L aD 1 0 ad F) (hs:St w0 L w):Cs Tryz.prog 118 #[.slice ad F.length ca] w λrv w'=>∃ cc ao co,rv=zP cc 0/\St w0 (aB cc #[.slice ao F.length co,.bool false] 316::Sl ao co 5 1 aD F::L) w':=by
 refine dF Tryz.func118 Tryz.ntmps118 (En (Lq (Ls (Lg [1,3] (Lw (dJ (f:=177) (args:=#[.slice ad F.length ca]) Tryz.call177 (om F zc zc (λw h=>hr _ (h.drop 0)) hs) ?_))))))
 rintro o q ⟨a,b,rfl,e⟩
 exact Lo (Lw (mT #[.slice a F.length b,.bool false] e λd u i=>Lz (Le (Dz (bY (v:=zP d 0) ⟨d,a,b,rfl,i⟩)))))
theorem cQ.new {ao:Option Addr}{co j:Nat}{F:List Int}(hs:St w0 L w) (hj:L[j]?=some (Sl ao co 5 1 aD F)) (hb:∀ z∈F,0<=z/\z<256) (hl:F.length<=1000000):cQ (Sl ao co 5 1 aD F) ao F co :=
 ⟨Sl.cap (hs.at_ j hj),GR hs j hj,λw h=>Sl.rows aF.size h (0:Int),hb,hl⟩
end
section
variable {w0 w : World} {L : List bA} {ad : Option Addr} {c : Nat}
theorem CY (n:Int) (x:Nat) (h:x<8):CP n x++[IntKind.u8.wrap (aW .u64 n (IntKind.u64.wrap (8*(7-(x:Nat)))))]=CP n (x+1):=by
 rw [vG,show IntKind.u64.wrap (8*(7-(x:Nat)))=8*(7-(x:Nat)) from lj za za]
 rfl
theorem Fl l n (hl:l.length<=900000) (hn:0<=n/\n<=18446744073709551615) (hs:St w0 (Sl ad c 5 1 aD l::L) w):Cs Tryz.prog 158 #[.slice ad l.length c,.int .u64 n,.int .i64 8] w λrv w'=>∃ ao co,rv=.slice ao ((l++wd n).length) co/\St w0 (Sl ao co 5 1 aD (l++wd n)::L) w':=by
 refine dF Tryz.func158 Tryz.ntmps158 (En (Lq (Ls (Lg [0,2] (Dz (aL.gT rfl zk (t:=66) (e:=5) zk zk (ti:=Tryz.t5) zk hs λd i o u=>?_))))))
 have a:St w0 (Sl (some ⟨d,0,none⟩) 0 5 1 aD ([]:List Int)::Sl ad c 5 1 aD l::L) i:=St.iw (l:=([]:List Int)) (f:=aD) o u aF.size zf zk
 refine Lo (Lw (aL.append rfl zk Rs aF (ad:=some ⟨d,0,none⟩) (c:=0) (xs:=([]:List Int)) (ys:=l) (adx:=ad) (cx:=c) (0:Int) zk a (a.rows 1 rfl aF.size (0:Int)) (a.hZ 1 rfl) (by first|(simp only [List.length_nil];omega)|(rw [hp.2.2,List.length_append,gJ];simp only [List.length_cons,List.length_nil];omega)) (by first|(simp only [List.length_nil];omega)|(rw [hp.2.2,List.length_append,gJ];simp only [List.length_cons,List.length_nil];omega)) λa0 c9 w6 a1=>Lz (Ls (Lq (Lb (Dz ?_))))))
 have a2:=(a1.pl 0).pl 1
 refine aX.loop (T:=Nat×Int×(List Int)×(Option Addr)×Nat) (λgg=>[(1,.int .u64 n),(6,.slice none 0 0),(7,.slice gg.2.2.2.1 gg.2.2.1.length gg.2.2.2.2),(8,.int .i64 gg.2.1)]) (λgg w=>(gg.1<=8/\gg.2.1=7-(gg.1:Nat)/\gg.2.2.1=l++CP n gg.1)/\St w0 (Sl gg.2.2.2.1 gg.2.2.2.2 5 1 aD gg.2.2.1::L) w) (λgg=>8-gg.1) (0,7,l,a0,c9) [1,6,7,8] zk ⟨⟨by first|omega|(simp only;omega),by first|omega|(simp only;omega),by simp [CP]⟩,a2.dr 1⟩ ?_
 rintro⟨x,z,q,ad,c⟩ b3 ⟨hp,b⟩
 dsimp only at hp b
 refine En (Ls (Lq (Dz (Zi ((z:Int) >= 0) (λa4=>?_) (λa4=>?_)))))
 ·refine Zk (Zt (Zs (Zb (dZ [7,8] (eT 3 (8*z) (Hg 5 (.shift (aW .u64 n (IntKind.u64.wrap (8*z)))) [.prop ((0:Int)<=IntKind.u64.wrap (8*z)/\Int.fdiv n (2 ^ (min (Int.toNat (IntKind.u64.wrap (8*z))) (IntKind.bits .u64)))=aW .u64 n (IntKind.u64.wrap (8*z)))] (aJ ⟨(by first|omega|exact bK rfl _),rfl⟩ aR) Hz)) (CB Rs aF [(IntKind.u8.wrap (aW .u64 n (IntKind.u64.wrap (8*z))):Int)] b λb4 b5 a5=>Lo (Dz (sD Rs aF (0:Int) (a5.pl 1) (by first|(simp only [List.length_nil];omega)|(rw [hp.2.2,List.length_append,gJ];simp only [List.length_cons,List.length_nil];omega)) λa7 a8 b6 a9=>Lo (cI (Lm (Lt (Dz (dE (eT 1 (z-1) Hz) ?_))))))))))))
  have b0:=(a9.pl 0).pl 1
  exact aS.back (x+1,z-1,q++([(IntKind.u8.wrap (aW .u64 n (IntKind.u64.wrap (8*z))):Int)]),a7,a8) [1,6,7,8] zk (by show 8-(x+1)<8-x;omega) ⟨(by refine⟨by first|omega|(simp only;omega),by first|omega|(simp only;omega),?_⟩;rw [hp.2.2,List.append_assoc,hp.2.1];exact congrArg (l++·) (CY n x za)),b0.dr 1⟩
 ·refine En (Lx (mM (mN (Lh (Lt (Lq (Le (Dz (bY (v:=.slice ad q.length c) ?_)))))))))
  have hx:x=8:=za
  have hq:q=l++wd n:=by rw [hp.2.2,hx];rfl
  subst hq
  exact⟨ad,c,rfl,b⟩
theorem GV {l:List Int}{n:Int}(h:0<=n/\n<65536):(l++([(IntKind.u8.wrap (aW .u64 n 8):Int)]))++([(IntKind.u8.wrap (aW .u64 n 0):Int)])=l++hf n:=by
 obtain⟨m,rfl⟩:∃ m:Nat,n=m:=⟨n.toNat,za⟩
 have a:∀ k:Nat,k<=16->aW .u64 (m:Int) (k:Nat)=aW .u16 (m:Int) (k:Nat):=λk hk=>by
  show(m:Int).fdiv (2 ^ (min (Int.toNat (k:Int)) 64))=(m:Int).fdiv (2 ^ (min (Int.toNat (k:Int)) 16))
  rw [Int.toNat_natCast,Nat.min_eq_left za,Nat.min_eq_left za]
 have b:=a 8 za
 have d:=a 0 za
 simp only [hf,List.append_assoc,List.cons_append,List.nil_append]
 rw [show aW .u64 (m:Int) 8=aW .u16 (m:Int) 8 from b,show aW .u64 (m:Int) 0=aW .u16 (m:Int) 0 from d]
theorem zq {p:Prop}(h:p:=by first|omega|(simp only [List.length_append,List.length_cons,List.length_nil,dV,gU,pw,dK] at *;omega)):p:=h
theorem Fm l n (hl:l.length<=900000) (hn:0<=n/\n<65536) (hs:St w0 (Sl ad c 5 1 aD l::L) w):Cs Tryz.prog 158 #[.slice ad l.length c,.int .u64 n,.int .i64 2] w λrv w'=>∃ ao co,rv=.slice ao ((l++hf n).length) co/\St w0 (Sl ao co 5 1 aD (l++hf n)::L) w':=by
 refine dF Tryz.func158 Tryz.ntmps158 (En (Lq (Ls (Lg [0,2] (Dz (aL.gT rfl zk (t:=66) (e:=5) zk zk (ti:=Tryz.t5) zk hs λb o q u=>?_))))))
 have a:St w0 (Sl (some ⟨b,0,none⟩) 0 5 1 aD ([]:List Int)::Sl ad c 5 1 aD l::L) o:=St.iw (l:=([]:List Int)) (f:=aD) q u aF.size zf zk
 refine Lo (Lw (aL.append rfl zk Rs aF (ad:=some ⟨b,0,none⟩) (c:=0) (xs:=([]:List Int)) (ys:=l) (adx:=ad) (cx:=c) (0:Int) zk a (a.rows 1 rfl aF.size (0:Int)) (a.hZ 1 rfl) zq zq λa7 c9 w6 x=>Lz (Ls (Lq (Lb (Dz (aX.qw 3 (En (Ls (Lq (LT (Lk (Lt (Ls (Lb (Dz (dZ [7,8] (Hg 5 (.shift (aW .u64 n 8)) [.prop ((0:Int)<=8/\Int.fdiv n (2 ^ (min (Int.toNat 8) (IntKind.bits .u64)))=aW .u64 n 8)] (aJ ⟨(by first|omega|exact bK rfl _),rfl⟩ aR) Hz) (CB Rs aF [(IntKind.u8.wrap (aW .u64 n 8):Int)] x λa8 a9 z=>Lo (Dz (sD Rs aF (0:Int) (z.pl 1) zq λb0 b2 b3 a1=>Lo (cI (Lm (Lt (La (Dz (aS.again (En (Ls (Lq (LT (Lk (Lt (Ls (Lb (Dz (dZ [7,8] (Hg 5 (.shift (aW .u64 n 0)) [.prop ((0:Int)<=0/\Int.fdiv n (2 ^ (min (Int.toNat 0) (IntKind.bits .u64)))=aW .u64 n 0)] (aJ ⟨(by first|omega|exact bK rfl _),rfl⟩ aR) Hz) (CB Rs aF [(IntKind.u8.wrap (aW .u64 n 0):Int)] a1 λb4 b5 a2=>Lo (Dz (sD Rs aF (0:Int) (a2.pl 1) zq λd i b6 a4=>Lo (cI (Lm (Lt (La (Dz (aS.again (En (Ls (Lq (LF (Lx (mM (mN (Lh (Lt (Lq (Le (Dz (bY (v:=.slice d (((l++([(IntKind.u8.wrap (aW .u64 n 8):Int)]))++([(IntKind.u8.wrap (aW .u64 n 0):Int)])).length) i) ?_))))))))))))))))))))))))))))))))))))))))))))))))))))))))))
 have a5:=(((a4.pl 0).pl 3).pl 3).pl 3
 exact⟨d,i,by rw [GV hn],by rw [<- GV hn];exact(a5.dr 3)⟩
theorem zD {p:Prop}(h:p:=by first|omega|(simp only [List.length_append,List.length_cons,List.length_nil,dV,gU] at *;omega)):p:=h
theorem ig l n (hl:l.length<=900000) (hn:0<=n/\n<=18446744073709551615) (hs:St w0 (Sl ad c 5 1 aD l::L) w):Cs Tryz.prog 100 #[.slice ad l.length c,.int .u64 n] w λrv w'=>∃ ao co,rv=.slice ao ((l++wd n).length) co/\St w0 (Sl ao co 5 1 aD (l++wd n)::L) w':=by
 refine dF Tryz.func100 Tryz.ntmps100 (En (Lq (Ls (Lg [2] (Lw (Zc (Fl l n zD zc hs) ?_))))))
 rintro e f ⟨a,b,rfl,d⟩
 exact Lz (Le (Dz (bY (v:=.slice a ((l++wd n).length) b) ⟨a,b,rfl,d⟩)))
theorem Fo l n (hl:l.length<=900000) (hn:0<=n/\n<65536) (hs:St w0 (Sl ad c 5 1 aD l::L) w):Cs Tryz.prog 171 #[.slice ad l.length c,.int .u16 n] w λrv w'=>∃ ao co,rv=.slice ao ((l++hf n).length) co/\St w0 (Sl ao co 5 1 aD (l++hf n)::L) w':=by
 refine dF Tryz.func171 Tryz.ntmps171 (En (Lq (Ls (Dz (dZ [3] (Cz 2 n Hz) (Zc (Fm l n zD zc hs) ?_))))))
 rintro e f ⟨a,b,rfl,d⟩
 exact Lz (Le (Dz (bY (v:=.slice a ((l++hf n).length) b) ⟨a,b,rfl,d⟩)))
theorem mV l s (hl:l.length<=800000) (hsz:s.size<65536) (hs:St w0 (Sl ad c 5 1 aD l::L) w):Cs Tryz.prog 113 #[.slice ad l.length c,.string s] w λrv w'=>∃ ao co,rv=.tuple #[.slice ao ((l++tx s).length) co,.int .i64 0]/\St w0 (Sl ao co 5 1 aD (l++tx s)::L) w':=by
 refine dF Tryz.func113 Tryz.ntmps113 (En (Lq (Ls (Lq (Dz (Zi ((s.size:Int)>65535) (λd=>?_) (λd=>?_)))))))
 ·exfalso;omega
 ·refine Zk (Zt (Zs (dZ [4,6] (Hg 3 (.dH (.int .u16 (s.size:Nat)) (.gen [])) [.prop (Value.int .u16 (IntKind.u16.wrap (s.size:Nat))=Value.int .u16 (s.size:Nat))] (aJ (M5 za za) aR) Hz) (Zc (Fo l (s.size:Nat) za za hs) ?_))))
  rintro x z ⟨e,i,rfl,o⟩
  exact Lo (Lw (aL.yQ rfl zk Rs (u:=9) zk (f:=aD) rfl (ad:=e) (c:=i) (xs:=l++hf (s.size:Nat)) (s:=s) zk o (by simp only [List.length_append,gU];omega) λa b w7 q=>Lz (Le (Dz (Jq (v:=.slice a (((l++hf (s.size:Nat))++cH s).length) b) (v':=.int .i64 0) ⟨a,b,by rw [(show(l++hf (s.size:Nat))++cH s=l++tx s from List.append_assoc ..)],by rw [<- (show(l++hf (s.size:Nat))++cH s=l++tx s from List.append_assoc ..)];exact q⟩)))))
end
section
variable {w0 w : World} {L : List bA} {c : Nat} {az : Option Addr} {cz : Nat}
def ua (s:CS):bW×CS:=(jV (tk 32 s).1,(tk 32 s).2)
theorem NJ (n:Nat) (s:CS):(tk n s).1.length<=n:=by
 unfold tk
 split
 ·exact Nat.zero_le _
 ·rw [List.length_take];omega
theorem NK {n:Nat}{s:CS}(h:∀ z∈s.1,0<=z/\z<256):∀ z∈(tk n s).1,0<=z/\z<256:=by
 unfold tk
 split
 ·intro z hz;cases hz
 ·exact λz hz=>h z (List.mem_of_mem_take hz)
theorem NL {l:List Int}(h:l.length<=32):aA aD (kz (List.replicate 32 (0:Int)) 0 (l.take (min l.length 32)))=bW.cells (jV l):=by
 have a:l.take (min l.length 32)=l:=List.take_of_length_le za
 have b:kz (List.replicate 32 (0:Int)) 0 l=(l++List.replicate 32 0).take 32:=by
  show List.take 0 _++l++List.drop (0+l.length) _=_
  rw [List.take_zero,List.nil_append,List.drop_replicate,List.take_append,List.take_of_length_le h,List.take_replicate]
  congr 2
  omega
 rw [a,b,bW.Ow,sG]
 apply Array.ext'
 show((l++List.replicate 32 0).take 32).map (Value.int .u8)=(((l++List.replicate 32 0).take 32).toArray.map (Value.int .u8)).toList
 simp
theorem vO (l:List Int):(kz (List.replicate 32 (0:Int)) 0 (l.take (min l.length 32))).length=32:=by rw [tZ zB,List.length_replicate]
theorem JX {l:List Int}(h:∀ z∈l,0<=z/\z<256):∀ z∈(jV l).toList,0<=z/\z<256:=by
 intro z hz
 have e:(jV l).toList=(l++List.replicate 32 0).take 32:=by
  show(((l++List.replicate 32 0).take 32).toArray).toList=_
  simp
 rw [e] at hz
 rcases List.mem_append.1 (List.mem_of_mem_take hz) with a|a
 ·exact h z a
 ·rw [List.eq_of_mem_replicate a];omega
theorem sI Q r sp (hQ:∀ w,St w0 L w->Q.holds w) (hq:cQ Q az r cz) (hs:St w0 (aB c #[.slice az r.length cz,.bool sp] 316::L) w):Cs Tryz.prog 276 #[zP c 0] w λrv w'=>∃ dd2 rr2 sp2 az2 cz2,rv=.agg (bW.cells dd2)/\ua (r,sp)=(dd2,(rr2,sp2))/\(∀ z∈dd2.toList,0<=z/\z<256)/\cQ Q az2 rr2 cz2/\St w0 (aB c #[.slice az2 rr2.length cz2,.bool sp2] 316::L) w':=by
 refine dF Tryz.func276 Tryz.ntmps276 (En (Ls (Lg [0] (Dz (tW (aA aD (List.replicate 32 (0:Int))) hs λe w2 a4=>Lo (Ld (Lt (Ls (Dz (ZD (gE [0,1] (.ef 2 (.ef 3 .done))) a4 λw4 a5 b0=>Zj (Hg 0 (.dH (zL e 0 32 32) (.sub 0 32)) [.prop (((none:Option Operand)=none->(0:Nat)=0)/\((none:Option Operand)=none->(32:Nat)=32)/\(0:Nat)<=32/\(32:Nat)<=32),.prop (Value.slice (some (if 32=0 then Addr.mk e 0 none else (Addr.mk e 0 none).add (0*1))) (32-0) (32-0)=Value.slice (some ⟨e,0,none⟩) 32 32)] (aJ ⟨(by first|(intro _;rfl)|(intro hc;cases hc)),(by first|(intro _;rfl)|(intro hc;cases hc)),za,za⟩ (aJ (eM _ _ _ _ _ zb) aR)) Hz) (Zc (CV Q r sp 32 (λw h=>hQ w (h.drop 1)) hq (a5.pl 1)) ?_)))))))))))
 rintro b2 b3 ⟨q,u,d,f,i,x,a0,rfl,o,a7,a8⟩
 refine⟨gR (n:=[.prop (((none:Option Operand)=none->(0:Nat)=0)/\((none:Option Operand)=none->(32:Nat)=32)/\(0:Nat)<=32/\(32:Nat)<=32),.prop (Value.slice (some (if 32=0 then Addr.mk e 0 none else (Addr.mk e 0 none).add (0*1))) (32-0) (32-0)=Value.slice (some ⟨e,0,none⟩) 32 32)]) zk (aJ ⟨(by first|(intro _;rfl)|(intro hc;cases hc)),(by first|(intro _;rfl)|(intro hc;cases hc)),za,za⟩ (aJ (eM _ _ _ _ _ zb) aR)),?_⟩
 have a1:=a8.pl 2
 refine aL.M8 rfl zk Rs aF (b:=e) (off:=0) (dLen:=32) (dCap:=32) (ys:=d) (adx:=q) (cx:=u) (0:Int) rfl zk a1 (a1.rows 1 rfl aF.size (0:Int)) (by rw [eI aF.size];simp only [List.length_replicate,Nat.zero_add];exact Nat.mul_le_mul_right _ za) (cs':=aA aD (kz (List.replicate 32 (0:Int)) 0 (d.take (min d.length 32)))) (by show aV _ (0*1) _=_;exact CX aF.size zB) λb4 a2=>Lo (Ld (Lt (Ls (Dz (dZ [1] (Hg 0 (.agg (aA aD (kz (List.replicate 32 (0:Int)) 0 (d.take (min d.length 32))))) [.prop (Array.size (aA aD (kz (List.replicate 32 (0:Int)) 0 (d.take (min d.length 32))))=32),.cells ⟨e,0,none⟩ (aA aD (kz (List.replicate 32 (0:Int)) 0 (d.take (min d.length 32))))] (aJ (bS aF (show(kz (List.replicate 32 (0:Int)) 0 (d.take (min d.length 32))).length=32 from(vO _)) rfl) (iN (a2.cells 0 0 rfl zw) aR)) Hz) (aL.store rfl rfl zk (b:=e) (off:=0) (v:=.agg (aA aD (kz (List.replicate 32 (0:Int)) 0 (d.take (min d.length 32))))) zk zk (ti:=Tryz.t39) zk a2 0 rfl (cR aF (show(kz (List.replicate 32 (0:Int)) 0 (d.take (min d.length 32))).length=32 from(vO _)) zk) (eO aF) (eC aF (show(kz (List.replicate 32 (0:Int)) 0 (d.take (min d.length 32))).length=32 from(vO _)) (by rw [bS aF (show(kz (List.replicate 32 (0:Int)) 0 (d.take (min d.length 32))).length=32 from(vO _)) (m:=32) rfl];rfl)) (cs':=aA aD (kz (List.replicate 32 (0:Int)) 0 (d.take (min d.length 32)))) (L':=(aB e (aA aD (kz (List.replicate 32 (0:Int)) 0 (d.take (min d.length 32)))) 39)::Sl q u 5 1 aD d::aB c #[.slice x f.length a0,.bool i] 316::L) (fA aF (show(kz (List.replicate 32 (0:Int)) 0 (d.take (min d.length 32))).length=32 from(vO _)) (by rw [bS aF (show(kz (List.replicate 32 (0:Int)) 0 (d.take (min d.length 32))).length=32 from(vO _)) (m:=32) rfl];rfl)) rfl λb5 a3=>Lo (Ld (Lt (Le (Dz (aS.done (.inl rfl) (v:=.agg (aA aD (kz (List.replicate 32 (0:Int)) 0 (d.take (min d.length 32))))) (λa hf=>dS rfl zk (ti:=Tryz.t39) zk zk (vs:=aA aD (kz (List.replicate 32 (0:Int)) 0 (d.take (min d.length 32)))) (bS aF (show(kz (List.replicate 32 (0:Int)) 0 (d.take (min d.length 32))).length=32 from(vO _)) zk) (a3.cells 0 0 rfl zw) a hf) ?_)))))))))))
 have h6:=NK (n:=32) (s:=(r,sp)) hq.Qe
 rw [o] at h6
 have h9:ua (r,sp)=(jV d,(f,i)):=by unfold ua;rw [o]
 have h8:d.length<=32:=by have h7:=NJ 32 (r,sp);rw [o] at h7;exact h7
 exact⟨jV d,f,i,x,a0,congrArg Value.agg (NL h8),h9,JX h6,a7,a3.dr 2⟩
def OO (s:CS):bC×CS :=
 let a:=kK s
 let b:=kK a.2
 let c:=jn b.2
 let d:=jn c.2
 let e:=pX 32 d.2
 let f:=pX 128 e.2
 let g:=pX 128 f.2
 let h:=pX 32 g.2
 let i:=ua h.2
 (⟨a.1,c.1,⟨b.1,e.1,f.1,g.1,h.1,d.1⟩,i.1⟩,i.2)
structure mW (r:bC):Prop where
 cl:-9223372036854775808<=r.cl/\r.cl<=9223372036854775807
 tm:0<=r.tm/\r.tm<=18446744073709551615
 kd:0<=r.op.kd/\r.op.kd<=255
 am:0<=r.op.am/\r.op.am<=18446744073709551615
 tg:∀ z∈r.tg.toList,0<=z/\z<256
theorem nG Q r sp (hQ:∀ w,St w0 L w->Q.holds w) (hq:cQ Q az r cz) (hs:St w0 (aB c #[.slice az r.length cz,.bool sp] 316::L) w):Cs Tryz.prog 263 #[zP c 0] w λrv w'=>∃ xq2 rr2 sp2 az2 cz2,rv=.agg (bC.cells xq2)/\OO (r,sp)=(xq2,(rr2,sp2))/\mW xq2/\cQ Q az2 rr2 cz2/\St w0 (aB c #[.slice az2 rr2.length cz2,.bool sp2] 316::L) w':=by
 refine dF Tryz.func263 Tryz.ntmps263 (En (Ls (Lg [0] (Dz (tW (bC.cells cP) hs λb1 w2 a0=>Lo (Ld (Lt (Ls (Lg [1,4,6,9] (Lw (Zc (iz Q r sp (λw h=>hQ w (h.drop 1)) hq (a0.pl 1)) ?_)))))))))))
 rintro g5 g7 ⟨a,a2,a3,g8,g9,rfl,a4,h0,a5,a6⟩
 refine QP (eT 2 a Hz) (Zc (iz Q a2 a3 (λw h=>hQ w (h.drop 1)) a5 a6) ?_)
 rintro h1 h2 ⟨b,a7,a8,h3,h4,rfl,a9,h5,b0,b2⟩
 refine Lo (Lw (Zu 1 0 (bC.cells (⟨a,0,QS,aI⟩:bC)) b2 λh6 b3=>Lo (Lw (Zu 1 2 (bC.cells (⟨a,0,(⟨b,ku,ku,ku,ku,0⟩:pv),aI⟩:bC)) b3 λh7 b4=>Lo (Ld (Lt (Ls (Lg [1,3,5,8] (Lw (Zc (cJ Q a7 a8 (λw h=>hQ w (h.drop 1)) b0 b4) ?_))))))))))
 rintro h8 h9 ⟨d,b5,b6,i0,i1,rfl,b7,i2,b8,b9⟩
 refine Lo (Lw (Zc (cJ Q b5 b6 (λw h=>hQ w (h.drop 1)) b8 b9) ?_))
 rintro i3 i4 ⟨e,c0,c1,i5,i6,rfl,c2,i7,c3,c4⟩
 refine Lo (Lw (Zu 1 1 (bC.cells (⟨a,d,(⟨b,ku,ku,ku,ku,0⟩:pv),aI⟩:bC)) c4 λi8 c5=>Lo (Lw (Zu 1 7 (bC.cells (⟨a,d,(⟨b,ku,ku,ku,ku,e⟩:pv),aI⟩:bC)) c5 λi9 c6=>Lo (Ld (Lt (Ls (Lg [1,3,6,9] (Lw (Zc (kP Q c0 c1 32 (λw h=>hQ w (h.drop 1)) c3 c6) ?_))))))))))
 rintro j0 j1 ⟨f,c7,c8,j2,j3,rfl,c9,d0,d1⟩
 refine Lo (Lw (Zc (kP Q c7 c8 128 (λw h=>hQ w (h.drop 1)) d0 d1) ?_))
 rintro j4 j5 ⟨i,d2,d3,j6,j7,rfl,d4,d5,d6⟩
 refine Lo (Lw (Zu 1 3 (bC.cells (⟨a,d,(⟨b,f,ku,ku,ku,e⟩:pv),aI⟩:bC)) d6 λj8 d7=>Lo (Lw (Zu 1 4 (bC.cells (⟨a,d,(⟨b,f,i,ku,ku,e⟩:pv),aI⟩:bC)) d7 λj9 d8=>Lo (Ld (Lt (Ls (Lg [1,3,6,9] (Lw (Zc (kP Q d2 d3 128 (λw h=>hQ w (h.drop 1)) d5 d8) ?_))))))))))
 rintro k0 k1 ⟨o,d9,e0,k2,k3,rfl,e1,e2,e3⟩
 refine Lo (Lw (Zc (kP Q d9 e0 32 (λw h=>hQ w (h.drop 1)) e2 e3) ?_))
 rintro k4 k5 ⟨q,e4,e5,k6,k7,rfl,e6,e7,e8⟩
 refine Lo (Lw (Zu 1 5 (bC.cells (⟨a,d,(⟨b,f,i,o,ku,e⟩:pv),aI⟩:bC)) e8 λk8 e9=>Lo (Lw (Zu 1 6 (bC.cells (⟨a,d,(⟨b,f,i,o,q,e⟩:pv),aI⟩:bC)) e9 λk9 f0=>Lo (Ld (Lt (Ls (Lg [1,3] (Lw (Zc (sI Q e4 e5 (λw h=>hQ w (h.drop 1)) e7 f0) ?_))))))))))
 rintro l0 l1 ⟨u,f1,f2,f3,f4,rfl,f5,f6,f7,f8⟩
 refine Lo (Lw (Zu 1 8 (bC.cells (⟨a,d,(⟨b,f,i,o,q,e⟩:pv),u⟩:bC)) f8 λl2 x=>Lo (Ld (Lt (Ls (Dz (dZ [1] (hP 0 1 0 40 (bC.cells (⟨a,d,(⟨b,f,i,o,q,e⟩:pv),u⟩:bC)) x Hz) (Zu 1 0 (bC.cells (⟨a,d,(⟨b,f,i,o,q,e⟩:pv),u⟩:bC)) x λl3 z=>Lo (Ld (Lt (Le (Dz (CI 1 z ?_)))))))))))))
 have f9:=(z.pl 0).pl 1
 exact⟨(⟨a,d,(⟨b,f,i,o,q,e⟩:pv),u⟩:bC),f1,f2,f3,f4,rfl,(by unfold OO;simp only [a4,a9,b7,c2,c9,d4,e1,e6,f5]),⟨zx,zx,zx,zx,f6⟩,f7,f9.dr 1⟩
end
end Go.Proofs.YthfpmlpoiocfdaaGreatDoor
