/-
  Several texts in one: OctA, SxS, OctB, OctW, OctN, TbA, TbB, TbC, TbD, TcA, TbE, TcB, TbF, TcC, TbG, TbH, TbI, TbJ, TbK, TbL, TbM, TbN.
-/
import Derived.Test.YtkmhmeldgfpfeaaGreatDoorSxT
import Derived.Test.YtkmhmeldgfpfeaaGreatDoorProg
namespace Go.Proofs.YtkmhmeldgfpfeaaGreatDoor
open Go.RowKit Go.Sx
set_option linter.unusedVariables false
set_option linter.unusedSimpArgs false
set_option linter.unnecessarySimpa false
set_option maxRecDepth 100000
section
variable {w0 w : World} {L : List cA}
def aA (n:Int):Array Value:=#[.int .u8 n]
theorem aF:gX aA 1:=⟨λ_=>rfl,λ_=>rfl⟩
theorem aP:jZ Tryz.prog 25 5 1 1:=⟨zk,⟨Tryz.t5,.int .u8 0,zk,zk,zk,zk,zk⟩,zf⟩
theorem BV {b:Nat}{c:Nat}l (hl:l.length<=1000000000000) (hs:St w0 (Sl (some ⟨b,0,none⟩) c 5 1 aA l::L) w):Cs Tryz.prog 113 #[zL b 0 l.length c] w λrv w'=>∃ ao co,rv=.slice ao l.length co/\St w0 (Sl ao co 5 1 aA l::Sl (some ⟨b,0,none⟩) c 5 1 aA l::L) w':=by
 refine cL Tryz.func113 Tryz.ntmps113 (En (Lq (Ls (Lq (LF (Lk (Lt (Ls (Lg [0,2] (Dz (aU.nL rfl zk (t:=25) (e:=5) zk zk (ti:=Tryz.t5) zk hs λi o q u=>?_)))))))))))
 have x:St w0 (Sl (some ⟨i,0,none⟩) 0 5 1 aA ([]:List Int)::Sl (some ⟨b,0,none⟩) c 5 1 aA l::L) o:=St.lS (l:=([]:List Int)) (f:=aA) q u aF.size zl zk
 exact Lo (Lw (oV aP aF (0:Int) x zj λa d w6 z=>Lz (Le (Dz (bL (v:=.slice a l.length d) ⟨a,d,zG,z⟩)))))
theorem ov (hs:St w0 L w):Cs Tryz.prog 113 #[.slice none 0 0] w λrv w'=>rv=.slice none 0 0/\St w0 L w':=by
 exact cL Tryz.func113 Tryz.ntmps113 (En (Lq (Ls (Lq (LT (Lq (Le (Ly (Dz (bL (v:=.slice none 0 0) ⟨rfl,hs⟩))))))))))
end
end Go.Proofs.YtkmhmeldgfpfeaaGreatDoor
namespace Go.Proofs.YtkmhmeldgfpfeaaGreatDoor
open Go.RowKit Go.Sx
set_option linter.unusedVariables false
set_option linter.unusedSimpArgs false
set_option maxRecDepth 100000
section
variable {P : Program} {w : World}
def oL {α:Type}:Nat->List α->List α
 | 0,_=>[]
 | n+1,z=>z++oL n z
def EX:Option TypeDesc->Bool
 | some (.int _)=>true
 | _=>false
theorem mM {α:Type}(z:List α):∀ n,(oL n z).length=n*z.length
 | 0=>by simp [oL]
 | n+1=>by simp [oL,mM z n,Nat.add_mul,Nat.add_comm]
theorem BW {α:Type}(z:List α) (hz:0<z.length):∀ (n i:Nat),i<n*z.length->(oL n z)[i]?=z[i % z.length]?
 | 0,i,h=>by simp at h
 | n+1,i,h=>by
  simp only [oL]
  by_cases hi:i<z.length
  ·rw [List.getElem?_append_left hi,Nat.mod_eq_of_lt hi]
  ·rw [List.getElem?_append_right za,BW z hz n (i-z.length) (by rw [Nat.add_mul] at h;omega)]
   congr 1
   exact(Nat.mod_eq_sub_mod za).symm
theorem FT {zs:Array Value}(n:Nat) (hz:0<zs.size):(Array.range (n*zs.size)).map (λi=>zs[i % zs.size]!)=(oL n zs.toList).toArray:=by
 apply Array.ext_getElem?
 intro i
 by_cases hi:i<n*zs.size
 ·have h1:i % zs.size<zs.size:=Nat.mod_lt _ hz
  have:=BW zs.toList (by simpa using hz) n i (by simpa using hi)
  simp only [List.getElem?_toArray,this,Array.getElem?_map]
  simp [hi,h1]
 ·have h2:(oL n zs.toList).length=n*zs.size:=by rw [mM];simp
  rw [Array.getElem?_eq_none (by simp;omega),Array.getElem?_eq_none (by simp [h2];omega)]
theorem xX {zs:Array Value}(n:Nat) (hz:0<zs.size):Builtin.zeroCells zs n=(oL n zs.toList).toArray:=FT n hz
theorem qw (e:TypeId) (cs:Array Value) (w1:World):(newRow e cs).run P w1=.ok ⟨w1.heap.size,0,none⟩ { w1 with heap:=w1.heap.push (.cells cs e) }:=rfl
theorem Dm {ts:Array TypeId}{t t' e ty:TypeId}{d:TypeDesc}{ie:TypeInfo}{z:Value}{base:Option Addr}{sLen sCap:Nat}{x:Value}{n:Nat}{us:List Value}
 (h0:ts[0]?=some t) (h1:ts[1]?=some t') (hu:P.underlying t=some (.slice e)) (hu':P.underlying t'=some d) (hi:P.info? e=some ie) (hz:ie.zero=some z)
 (hpos:0<ie.size) (hzs:z.cells.size=ie.size) (hlen:us.length=n*ie.size) (hbig:(sLen+n)*(ie.bytes+1)<=1000000000)
 (hx:(EX (some d)=true/\(∃ k,x=.int k (n:Int))/\us=oL n z.cells.toList) \/
  (EX (some d)=false/\(∀ w1:World,(Builtin.lenOf x).run P w1=.ok n w1)/\∀ w1:World,w1.heap=w.heap->(Builtin.firstCells ie.size n x).run P w1=.ok us.toArray w1)) :
 (sLen+n<=sCap->(Builtin.append_ ts ty #[.slice base sLen sCap,x]).run P w=((match base with
  | some ad=>storeCells (ad.add (sLen*ie.size)) us
  | none=>pure ()).run P w).andThen λ_ w'=>.ok (.slice base (sLen+n) sCap) w') /\
 (sCap<sLen+n->∀ olds:List Value,olds.length=sLen*ie.size->(∀ w1:World,w1.heap=w.heap->(Builtin.firstCells ie.size sLen (.slice base sLen sCap)).run P w1=.ok olds.toArray w1) ->
  ∃ cap,sLen+n<=cap/\cap<=9223372036854775807/\(Builtin.append_ ts ty #[.slice base sLen sCap,x]).run P w=.ok (.slice (some ⟨w.heap.size,0,none⟩) (sLen+n) cap)
   { w with drawn:=w.drawn+1,heap:=w.heap.push (.cells (olds++us++oL (cap-(sLen+n)) z.cells.toList).toArray e) }):=by
 have hb1:sLen+n<=1000000000:=Nat.le_trans (Nat.le_mul_of_pos_right _ za) hbig
 have hb2:(sLen+n)*ie.bytes<=1000000000:=Nat.le_trans (Nat.mul_le_mul_left _ za) hbig
 have hn2:n*ie.bytes<=1000000000:=Nat.le_trans (Nat.mul_le_mul_right _ za) hb2
 have ask:∀ b w,(askRoom b).run P w=.ok () w:=by
  intro b w
  unfold askRoom
  split<;>simp [mark,Sem.run]
 have hzc:∀ k,Builtin.zeroCells z.cells k=(oL k z.cells.toList).toArray:=λk=>xX k za
 rcases hx with⟨hint,⟨k,rfl⟩,rfl⟩|⟨hint,hlo,hfc⟩
 ·obtain⟨k',rfl⟩:∃ k',d=.int k':=by
   cases d<;>first|exact⟨_,rfl⟩|cases hint
  have w1:IntKind.i64.wrap (n:Int)=(n:Int):=rN za za
  have t1:¬ ((n:Int)<0):=za
  have t2:¬ ((n:Int)*(ie.bytes:Int)>2 ^ 48):=by
   rw [<- Int.natCast_mul];omega
  have hmatch:(TypeDesc.int k' matches .int _)=true:=rfl
  have t2':¬ (281474976710656<(n:Int)*(ie.bytes:Int)):=by
   rw [<- Int.natCast_mul];omega
  constructor
  ·intro hfit
   by_cases hz0:n*ie.size=0
   ·have hn0:n=0:=by
     rcases Nat.mul_eq_zero.1 hz0 with h|h
     ·exact h
     ·omega
    simp [Builtin.append_,h0,h1,run_underlying hu,run_underlying hu',sizeOf,typeInfo,hi,asInt,asIntOf,w1,t1,t2',hfit,hz0]
    cases base<;>simp [hn0,oL,storeCells]
   ·simp [Builtin.append_,h0,h1,run_underlying hu,run_underlying hu',sizeOf,typeInfo,zeroValue,hi,hz,asInt,asIntOf,w1,t1,t2',hfit,hz0,hzc]
    cases base<;>simp
  ·intro hno olds hol hold
   have hns:¬ (sLen+n<=sCap):=za
   have hnc:Builtin.nextslicecap (sLen+n) sCap*ie.bytes<=281474976710656:=growslice_fits hno za
   have hnc':¬ (281474976710656<Builtin.nextslicecap (sLen+n) sCap*ie.bytes):=za
   have hmx:¬ (9223372036854775807<(sLen:Int)+(n:Int)):=za
   refine⟨grownCap w (sLen+n) sCap e,grownCap_ge w (sLen+n) sCap e,grownCap_le_maxLen w (sLen+n) sCap e zQ,?_⟩
   by_cases hz0:n*ie.size=0
   ·have hn0:n=0:=by
     rcases Nat.mul_eq_zero.1 hz0 with h|h
     ·exact h
     ·omega
    simp [Builtin.append_,h0,h1,run_underlying hu,run_underlying hu',sizeOf,typeInfo,zeroValue,hi,hz,asInt,asIntOf,w1,t1,t2',hns,hz0,hzc,hnc',hmx,Question.forced,ask,hold w.drew rfl]
    have hr0:oL n z.cells.toList=[]:=by rw [hn0];rfl
    simp only [qw,Result.andThen_ok,List.append_assoc,hr0,List.nil_append]
    rfl
   ·simp [Builtin.append_,h0,h1,run_underlying hu,run_underlying hu',sizeOf,typeInfo,zeroValue,hi,hz,asInt,asIntOf,w1,t1,t2',hns,hz0,hzc,hnc',hmx,Question.forced,ask,hold w.drew rfl]
    simp only [qw,Result.andThen_ok,List.append_assoc]
    rfl
 ·have hint2:∀ k,d≠.int k:=λk e=>by rw [e] at hint;cases hint
  have hm:(match d with | .int _=>true|_=>false)=false:=by cases d<;>first|rfl|exact absurd rfl (hint2 _)
  constructor
  ·intro hfit
   simp [Builtin.append_,h0,h1,run_underlying hu,run_underlying hu',sizeOf,typeInfo,hi,hm,hlo,hfit,hfc w rfl]
   cases base<;>simp
  ·intro hno olds hol hold
   have hns:¬ (sLen+n<=sCap):=za
   have hnc:Builtin.nextslicecap (sLen+n) sCap*ie.bytes<=281474976710656:=growslice_fits hno za
   have hnc':¬ (281474976710656<Builtin.nextslicecap (sLen+n) sCap*ie.bytes):=za
   have hmx:¬ (9223372036854775807<(sLen:Int)+(n:Int)):=za
   refine⟨grownCap w (sLen+n) sCap e,grownCap_ge w (sLen+n) sCap e,grownCap_le_maxLen w (sLen+n) sCap e zQ,?_⟩
   simp [Builtin.append_,h0,h1,run_underlying hu,run_underlying hu',sizeOf,typeInfo,zeroValue,hi,hz,hm,hlo,hns,hzc,hnc',hmx,Question.forced,ask,hold w.drew rfl,hfc w.drew rfl]
   simp only [qw,Result.andThen_ok,List.append_assoc]
   rfl
end
theorem MI (base:Option Addr) (c h:Nat) (hb:∀ ad,base=some ad->ad.spot=none):Value.slice (if c=0 then base else base.map (·.add (0*1))) (h-0) (c-0)=.slice base h c:=by
 have:(if c=0 then base else base.map (·.add (0*1)))=base:=by
  split
  ·rfl
  ·cases base with
   | none=>rfl
   | some ad=>simp [Addr.add]
 rw [this]
 simp
def Grown (w0:World) (L:List cA) (w:World) (base:Option Addr) (len c n:Nat) (all:List Value) (v:Value) (w':World):Prop :=
 (n+len<=c/\v=.slice base len c/\w'=w)\/∃ cap rest,len<=cap/\cap<=9223372036854775807/\v=.slice (some ⟨w.heap.size,0,none⟩) len cap/\(all++rest).length=cap/\w'={ w with drawn:=w.drawn+1,heap:=w.heap.push (.cells (all++rest).toArray 5) }
theorem yt {w0 w:World}{L:List cA}{base:Option Addr}{len c n:Nat}{all:List Value}(hs:St w0 L w) (hb:∀ ad,base=some ad->ad.spot=none) (hlc:len<=c) (hc:c<=9223372036854775807) (hn:n<=1000000) (hl:len<=1000000) (hall:all.length=c)
 (hf:∀ w1:World,w1.heap=w.heap->(Builtin.firstCells 1 c (.slice base c c)).run Tryz.prog w1=.ok all.toArray w1) :
 Calls Tryz.prog 138 #[.slice base len c,.int .i64 n] w (pE (Grown w0 L w base len c n all)):=by
 refine enter (args:=[.slice base len c,.int .i64 n]) Tryz.func138 rfl Tryz.ntmps138 (Nat.le_of_ble_eq_true zk) ?_
 refine bH.fK (S':=[(0,.slice base len c),(1,.int .i64 n)]) rfl ?_
 refine bH.seq ?_
 refine bH.Aq [1] (.rd 0 .done) zk zk ?_
 refine aU.qq [(0,.gen [])] [4,0,1] [] [(4,.slice none 0 0),(0,.slice base len c),(1,.int .i64 n)] zk rfl gQ ?_
 refine aU.done (aN.JN (bH.seq (bH.seq ?_)))
 refine bH.Aq [3,3] (.rd 0 (.rd 1 .done)) zk zk ?_
 refine aU.qq [(0,.gen []),(1,.gen [])] [6,4,0,1] [] [(6,.bool (decide ((n:Int)<0))),(4,.slice none 0 0),(0,.slice base len c),(1,.int .i64 n)] zk rfl gQ ?_
 refine aU.done (aN.JN ?_)
 refine bH.cond (t:=decide ((n:Int)<0)) zk (λh1=>?_) (λh1=>?_)
 ·exact absurd (of_decide_eq_true h1) za
 refine bH.skip (aN.JN (bH.seq (bH.seq ?_)))
 have e1:IntKind.i64.wrap ((c:Int)-(len:Int))=(c:Int)-(len:Int):=rN za za
 have e2:IntKind.i64.wrap ((n:Int)-((c:Int)-(len:Int)))=(n:Int)-((c:Int)-(len:Int)):=rN za za
 refine bH.Aq [] (.rd 0 (.rd 1 (.rd 2 (.rd 3 (.rd 4 (.rd 5 (.rd 6 (.rd 7 .done)))))))) zk zk ?_
 refine aU.qq [(0,.gen []),(1,.gen []),(2,.gen []),(3,.gen []),(4,.gen []),(5,.eJ (.int .i64 ((c:Int)-(len:Int))) (.gen [])),(6,.eJ (.int .i64 ((n:Int)-((c:Int)-(len:Int)))) (.gen [])),(7,.gen [])] [1,0]
  [(5,[.prop (Value.int .i64 (IntKind.i64.wrap ((c:Int)-(len:Int)))=.int .i64 ((c:Int)-(len:Int)))]),(6,[.prop (Value.int .i64 (IntKind.i64.wrap ((n:Int)-((c:Int)-(len:Int))))=.int .i64 ((n:Int)-((c:Int)-(len:Int))))])]
  [(1,.int .i64 ((n:Int)-((c:Int)-(len:Int)))),(0,.slice base len c)] zk rfl (ak (aL (by rw [e1]) aO) (ak (aL (by rw [e2]) aO) gQ)) ?_
 refine aU.done (aN.JN (bH.seq ?_))
 refine bH.Aq [] (.rd 0 (.rd 1 .done)) zk zk ?_
 refine aU.qq [(0,.gen []),(1,.gen [])] [16,1,0] [] [(16,.bool (decide ((n:Int)-((c:Int)-(len:Int))>0))),(1,.int .i64 ((n:Int)-((c:Int)-(len:Int)))),(0,.slice base len c)] zk rfl gQ ?_
 refine aU.done (aN.JN ?_)
 refine bH.cond (t:=decide ((n:Int)-((c:Int)-(len:Int))>0)) zk (λh2=>?_) (λh2=>?_)
 ·have h2':=of_decide_eq_true h2
  obtain⟨k,hk⟩:∃ k:Nat,(k:Int)=(n:Int)-((c:Int)-(len:Int)):=⟨(n+len)-c,za⟩
  rw [<- hk]
  have hkp:0<k:=za
  have hck:c+k=n+len:=za
  refine bH.Aq [0,0,0,0,0,255] (.rd 0 (.rd 1 (.rd 2 (.rd 3 (.rd 4 (.ef 5 (.rd 6 (.rd 7 (.rd 8 (.rd 9 .done)))))))))) zk zk ?_
  refine aU.qq [(0,.gen []),(1,.gen []),(2,.gen []),(3,.eJ (.slice base c c) (.sub 0 c)),(4,.gen [])] [21,20,1,0]
   [(3,[.prop ((c:Int)=(c:Int)),.prop (((none:Option Operand)=none->0=0)/\(some (Operand.tmp 19)=none->c=len)/\0<=c/\c<=c),.prop (Value.slice (if c=0 then base else base.map (·.add (0*1))) (c-0) (c-0)=.slice base c c)])]
   [(21,.int .i64 k),(20,.slice base c c),(1,.int .i64 k),(0,.slice base len c)] zk rfl (ak (aL rfl (aL ⟨λ_=>rfl,(λh=>by cases h),Nat.zero_le _,Nat.le_refl _⟩ (aL (MI base c c hb) aO))) gQ) ?_
  obtain⟨r1,r2⟩:=Dm (P:=Tryz.prog) (w:=w) (ts:=#[25,3]) (t:=25) (t':=3) (e:=5) (ty:=25) (d:=.int .i64) (ie:=Tryz.t5) (z:=.int .u8 0) (base:=base) (sLen:=c) (sCap:=c) (x:=.int .i64 k) (n:=k) (us:=oL k [.int .u8 0]) rfl rfl zk zk zk zk zf zk
   (by rw [mM];rfl) (by show(c+k)*(1+1)<=1000000000;omega) (.inl ⟨rfl,⟨.i64,rfl⟩,rfl⟩)
  obtain⟨cap,g1,g2,g3⟩:=r2 za all (by rw [hall];exact(Nat.mul_one c).symm) hf
  have g4:(all++oL k [Value.int .u8 0]++oL (cap-(c+k)) [Value.int .u8 0]).length=cap:=by
   rw [List.length_append,List.length_append,mM,mM,hall]
   simp only [List.length_cons,List.length_nil]
   omega
  generalize hw2:({ w with drawn:=w.drawn+1,heap:=w.heap.push (.cells (all++oL k [Value.int .u8 0]++oL (cap-(c+k)) [Value.int .u8 0]).toArray 5) }:World)=w2
  have g3':(Builtin.append_ #[25,3] 25 #[Value.slice base c c,.int .i64 k]).run Tryz.prog w=.ok (.slice (some ⟨w.heap.size,0,none⟩) (c+k) cap) w2:=by rw [<- hw2];exact g3
  refine aU.run rfl zk (.slice (some ⟨w.heap.size,0,none⟩) (c+k) cap) w2 (λa hfit=>.inl ?_) (Mx zk) ?_
  ·obtain⟨cs,hrun⟩:=nK (P:=Tryz.prog) hfit (b:=.append) (ts:=[25,3]) (vs:=[.slice base c c,.int .i64 k]) zk w
   rw [hrun]
   simp only [builtin,Sem.run_bind]
   erw [g3']
   rfl
  ·refine aU.qq [(6,.gen []),(7,.gen []),(8,.eJ (.slice (some ⟨w.heap.size,0,none⟩) len cap) (.sub 0 len)),(9,.gen [])] [0]
    [(8,[.prop ((len:Int)=(len:Int)),.prop (((none:Option Operand)=none->0=0)/\(some (Operand.tmp 24)=none->len=c+k)/\0<=len/\len<=cap),.prop (Value.slice (if cap=0 then some ⟨w.heap.size,0,none⟩ else (some (Addr.mk w.heap.size 0 none)).map (·.add (0*1))) (len-0) (cap-0)=.slice (some ⟨w.heap.size,0,none⟩) len cap)])]
    [(0,.slice (some ⟨w.heap.size,0,none⟩) len cap)] zk rfl (ak (aL rfl (aL ⟨λ_=>rfl,(λh=>by cases h),Nat.zero_le _,za⟩ (aL (MI _ cap len (λad h=>by cases h;rfl)) aO))) gQ) ?_
   refine aU.done (aN.JN (bH.seq ?_))
   refine bH.Aq [] (.rd 0 (.rd 1 .done)) zk zk ?_
   refine aU.qq [(0,.gen []),(1,.gen [])] [4] [] [(4,.slice (some ⟨w.heap.size,0,none⟩) len cap)] zk rfl gQ ?_
   refine aU.done (aN.JN (bH.ret ?_))
   refine aN.done (.inl rfl) (v:=.slice (some ⟨w.heap.size,0,none⟩) len cap) (λa hf=>results1 rfl zk a hf) ?_
   refine .inr ⟨cap,oL k [Value.int .u8 0]++oL (cap-(c+k)) [Value.int .u8 0],za,g2,rfl,by rw [<- List.append_assoc];exact g4,?_⟩
   rw [<- hw2,List.append_assoc]
 ·have h2':=of_decide_eq_false h2
  refine bH.skip (aN.JN (bH.seq ?_))
  refine bH.Aq [] (.rd 0 (.rd 1 .done)) zk zk ?_
  refine aU.qq [(0,.gen []),(1,.gen [])] [4] [] [(4,.slice base len c)] zk rfl gQ ?_
  refine aU.done (aN.JN (bH.ret ?_))
  refine aN.done (.inl rfl) (v:=.slice base len c) (λa hf=>results1 rfl zk a hf) ?_
  exact .inl ⟨za,rfl,rfl⟩
end Go.Proofs.YtkmhmeldgfpfeaaGreatDoor
namespace Go.Proofs.YtkmhmeldgfpfeaaGreatDoor
open Go.RowKit Go.Sx
set_option linter.unusedVariables false
set_option linter.unusedSimpArgs false
set_option linter.unnecessarySimpa false
set_option maxRecDepth 100000
theorem BX {w0 w w':World}{L:List cA}{ad base:Option Addr}{c n:Nat}{l:List Int}{all:List Value}{v:Value}(hs:St w0 (Sl ad c 5 1 aA l::L) w) (hb:base=ad) (hx:all.take l.length=l.flatMap λx=>(aA x).toList) (h:Grown w0 (Sl ad c 5 1 aA l::L) w base l.length c n all v w') :
 ∃ (ao:Option Addr) (co:Nat),v=.slice ao l.length co/\St w0 (Sl ao co 5 1 aA l::L) w':=by
 subst hb
 rcases h with⟨-,rfl,rfl⟩|⟨cap,rest,e1,e2,rfl,e3,rfl⟩
 ·exact⟨_,_,rfl,hs⟩
 ·have hf:=bV (f:=aA) (size:=1) (λ_=>rfl) l
  have hd:St w0 L { w with drawn:=w.drawn+1 }:=hs.tail.drew
  refine⟨_,_,rfl,St.new hd rfl rfl rfl zG (λb hb=>?_) ?_ (λb hb=>?_)⟩
  ·have hb':b<w.heap.size:=hb
   simp only [Array.getElem?_push];rw [if_neg za]
  ·refine⟨hf,.inr ⟨w.heap.size,cap,(all++rest).toArray,rfl,Nat.zero_le _,by simp,e1,by simp only [maxLen];omega,by simpa using e3,?_⟩⟩
   have hl:l.length<=all.length:=by
    have:=congrArg List.length hx
    rw [List.length_take,hf] at this
    omega
   rw [Nat.mul_one,List.take_append_of_le_length hl,hx]
  ·have:some w.heap.size=some b:=hb
   cases this
   simp
theorem Dn {w0 w:World}{L:List cA}{b c:Nat}(l:List Int) (n:Nat) (hl:l.length<=1000000) (hn:n<=1000000) (hs:St w0 (Sl (some ⟨b,0,none⟩) c 5 1 aA l::L) w) :
 Calls Tryz.prog 138 #[zL b 0 l.length c,.int .i64 n] w (pE λrv w'=>∃ (ao:Option Addr) (co:Nat),rv=.slice ao l.length co/\St w0 (Sl ao co 5 1 aA l::L) w'):=by
 obtain⟨h1,h2⟩:=hs.holds _ (List.mem_cons_self ..)
 rcases h2 with⟨h2,-⟩|⟨g,cap,cur,h2,-,h4,h5,h6,h7,h8⟩
 ·cases h2
 ·cases h2
  refine Calls.ret (yt (all:=cur.toList) (n:=n) hs (λad h=>by cases h;rfl) h5 (by simp only [maxLen] at h6;omega) hn hl (by rw [Array.length_toList];omega) λw1 hw=>?_) (λv w' h=>BX hs rfl (by rw [<- h8,Nat.mul_one]) h)
  simp only [Builtin.firstCells,loadCells]
  refine nS _ _ (by simpa using h7) λi hi=>?_
  rw [jM,Nat.zero_add]
  simp only [World.cell?,hw,h4]
  simp
theorem Dp {w0 w:World}{L:List cA}{c:Nat}(n:Nat) (hn:n<=1000000) (hs:St w0 (Sl none 0 5 1 aA []::L) w) :
 Calls Tryz.prog 138 #[.slice none 0 0,.int .i64 n] w (pE λrv w'=>∃ (ao:Option Addr) (co:Nat),rv=.slice ao (([]:List Int).length) co/\St w0 (Sl ao co 5 1 aA []::L) w') :=
 Calls.ret (yt (all:=[]) (n:=n) (len:=0) (c:=0) (base:=none) hs (λad h=>by cases h) (Nat.le_refl _) za hn za rfl (λw1 _=>by simp [Builtin.firstCells])) (λv w' h=>BX (l:=[]) hs rfl rfl h)
theorem uR {w0 w:World}{L:List cA}{ad:Option Addr}{c:Nat}(l:List Int) (hl:l.length<=1000000) (hs:St w0 (Sl ad c 5 1 aA l::L) w) :
 Calls Tryz.prog 113 #[.slice ad l.length c] w (pE λrv w'=>∃ (ao:Option Addr) (co:Nat),rv=.slice ao l.length co/\St w0 (Sl ao co 5 1 aA l::L) w'):=by
 obtain⟨h1,h2⟩:=hs.holds _ (List.mem_cons_self ..)
 rcases h2 with⟨h2,h3⟩|⟨g,cap,cur,h2,-⟩
 ·obtain rfl:l=[]:=List.length_eq_zero_iff.1 h3
  cases h2
  refine Calls.ret (ov hs) ?_
  rintro v w' ⟨rfl,h⟩
  exact⟨none,0,rfl,h⟩
 ·cases h2
  refine Calls.ret (BV l za hs) ?_
  rintro v w' ⟨ao,co,rfl,h⟩
  exact⟨ao,co,rfl,h.sub (List.Sublist.cons_cons _ (List.Sublist.cons _ (List.Sublist.refl _)))⟩
theorem pI {w0 w:World}{L:List cA}{ad:Option Addr}{c:Nat}(l:List Int) (n:Nat) (hl:l.length<=1000000) (hn:n<=1000000) (hs:St w0 (Sl ad c 5 1 aA l::L) w) :
 Calls Tryz.prog 138 #[.slice ad l.length c,.int .i64 n] w (pE λrv w'=>∃ (ao:Option Addr) (co:Nat),rv=.slice ao l.length co/\St w0 (Sl ao co 5 1 aA l::L) w'):=by
 obtain⟨h1,h2⟩:=hs.holds _ (List.mem_cons_self ..)
 rcases h2 with⟨h2,h3⟩|⟨g,cap,cur,h2,-⟩
 ·obtain rfl:l=[]:=List.length_eq_zero_iff.1 h3
  cases h2
  exact Dp (c:=0) n hn hs
 ·cases h2
  exact Dn l n hl hn hs
section
variable {w0 w : World} {L : List cA} {ad : Option Addr} {c : Nat}
def FU (n:Int) (x:Nat):Int:=(λz:Int=>IntKind.u8.wrap (bF .u64 n (8*z))) (7-(x:Nat))
def AA (n:Int) (x:Nat):List Int:=(List.range x).map (FU n)
theorem td (n:Int) (x:Nat):AA n (x+1)=AA n x++[FU n x]:=by simp [AA,List.range_succ]
theorem iP (n:Int) (x:Nat):(AA n x).length=x:=by simp [AA]
def wd (n:Int):List Int:=AA n 8
theorem aZ (n:Int):(wd n).length=8:=iP n 8
theorem zg {p:Prop}(h:p:=by first|omega|(simp only [List.length_append,List.length_cons,List.length_nil,aZ] at *;omega)):p:=h
theorem FV l n (hl:l.length<=900000) (hn:0<=n/\n<=18446744073709551615) (hs:St w0 (Sl ad c 5 1 aA l::L) w):Cs Tryz.prog 96 #[.slice ad l.length c,.int .u64 n,.int .i64 8] w λrv w'=>∃ ao co,rv=.slice ao ((l++wd n).length) co/\St w0 (Sl ao co 5 1 aA (l++wd n)::L) w':=by
 refine cL Tryz.func96 Tryz.ntmps96 (En (Lq (Ls (Lg [1,3] (Lw (dE (f:=113) (args:=#[.slice ad l.length c]) Tryz.call113 (uR l zg hs) ?_))))))
 rintro v4 w5 ⟨b,d,rfl,e⟩
 refine Lo (Lw (dE (f:=138) (args:=#[.slice b l.length d,.int .i64 8]) Tryz.call138 (pI l 8 zg za e) ?_))
 rintro v9 a8 ⟨i,o,rfl,u⟩
 refine Lz (Ls (Lq (Lb (Dz (bH.loop (T:=Nat×Int×(List Int)×(Option Addr)×Nat) (λgg=>[(1,.int .u64 n),(6,.slice none 0 0),(7,.slice gg.2.2.2.1 gg.2.2.1.length gg.2.2.2.2),(8,.int .i64 gg.2.1)]) (λgg w=>(gg.1<=8/\gg.2.1=7-(gg.1:Nat)/\gg.2.2.1=l++AA n gg.1)/\St w0 (Sl gg.2.2.2.1 gg.2.2.2.2 5 1 aA gg.2.2.1::L) w) (λgg=>8-gg.1) (0,7,l,i,o) [1,6,7,8] zk ⟨⟨by first|omega|(simp only;omega),by first|omega|(simp only;omega),by simp [AA]⟩,u⟩ ?_)))))
 rintro⟨x,z,q,ad,c⟩ a9 ⟨hp,a⟩
 dsimp only at hp a
 refine En (Ls (Lq (Dz (Zi ((z:Int) >= 0) (λa0=>?_) (λa0=>?_)))))
 ·refine Zk (Zt (Zs (Zb (bX [6,7] (dW 3 (8*z) (Hg 4 (.shift (bF .u64 n (8*z))) [.prop ((0:Int)<=8*z/\Int.fdiv n (2 ^ (min (Int.toNat (8*z)) (IntKind.bits .u64)))=bF .u64 n (8*z))] (aL ⟨(by first|omega|exact bW rfl _),rfl⟩ aO) Hz)) (tQ aP aF [(IntKind.u8.wrap (bF .u64 n (8*z)):Int)] a λb0 b1 a1=>Lo (Dz (oV aP aF (0:Int) (a1.pl 1) (by rw [hp.2.2,List.length_append,iP];simp only [List.length_cons,List.length_nil];omega) λa3 a4 b2 a5=>Lo (bO (Lm (Lt (Dz (cS (dW 1 (z-1) Hz) ?_))))))))))))
  have a6:=(a5.pl 0).pl 1
  exact aN.back (x+1,z-1,q++([(IntKind.u8.wrap (bF .u64 n (8*z)):Int)]),a3,a4) [1,6,7,8] zk (by show 8-(x+1)<8-x;omega) ⟨(by refine⟨by first|omega|(simp only;omega),by first|omega|(simp only;omega),?_⟩;rw [hp.2.2,List.append_assoc,hp.2.1];exact congrArg (l++·) (td n x).symm),a6.dr 1⟩
 ·refine En (Lx (kD (kE (Lh (Lt (Lq (Le (Dz (bL (v:=.slice ad q.length c) ?_)))))))))
  have hx:x=8:=za
  have hq:q=l++wd n:=by rw [hp.2.2,hx];rfl
  subst hq
  exact⟨ad,c,rfl,a⟩
theorem eU l n (hl:l.length<=900000) (hn:0<=n/\n<=18446744073709551615) (hs:St w0 (Sl ad c 5 1 aA l::L) w):Cs Tryz.prog 38 #[.slice ad l.length c,.int .u64 n] w λrv w'=>∃ ao co,rv=.slice ao ((l++wd n).length) co/\St w0 (Sl ao co 5 1 aA (l++wd n)::L) w':=by
 refine cL Tryz.func38 Tryz.ntmps38 (En (Lq (Ls (Lg [2] (Lw (Zc (FV l n zg za hs) ?_))))))
 rintro e f ⟨a,b,rfl,d⟩
 exact Lz (Le (Dz (bL (v:=.slice a ((l++wd n).length) b) ⟨a,b,rfl,d⟩)))
end
end Go.Proofs.YtkmhmeldgfpfeaaGreatDoor
namespace Go.Proofs.YtkmhmeldgfpfeaaGreatDoor
open Go.RowKit Go.Sx
set_option linter.unusedVariables false
set_option linter.unusedSimpArgs false
def fR (l:List Int):Int:=l.foldl (λn x=>mL .u64 (dY .u64 n 8) (IntKind.u64.wrap x)) 0
theorem ru {l:List Int}{k:Nat}(hk:k<l.length):fR (l.take (k+1))=mL .u64 (dY .u64 (fR (l.take k)) 8) (IntKind.u64.wrap (l.getD k 0)):=by
 rw [bA (d:=(0:Int)) hk]
 simp only [fR,List.foldl_append,List.foldl_cons,List.foldl_nil]
theorem kn {n:Int}(h0:0<=n) (h1:n<18446744073709551616):IntKind.u64.wrap n=n:=HD h0 za
theorem MJ {a b:Int}(ha:0<=a) (hb:0<=b/\b<256) (h:a*256+b<18446744073709551616):mL .u64 (dY .u64 a 8) b=a*256+b:=by
 obtain⟨A,rfl⟩:∃ A:Nat,a=A:=⟨a.toNat,za⟩
 obtain⟨B,rfl⟩:∃ B:Nat,b=B:=⟨b.toNat,za⟩
 have e1:dY .u64 (A:Int) 8=((A*256:Nat):Int):=by
  show IntKind.u64.wrap ((A:Int)*2 ^ 8)=_
  rw [show((A:Int)*2 ^ 8)=((A*256:Nat):Int) by omega]
  exact kn za za
 rw [e1]
 show IntKind.u64.wrap (((BitVec.ofInt 64 ((A*256:Nat):Int) ||| BitVec.ofInt 64 ((B:Nat):Int)).toNat:Nat):Int)=_
 rw [BitVec.ofInt_natCast,BitVec.ofInt_natCast,BitVec.toNat_or,BitVec.toNat_ofNat,BitVec.toNat_ofNat,Nat.mod_eq_of_lt za,Nat.mod_eq_of_lt za]
 have e2:=Nat.two_pow_add_eq_or_of_lt (i:=8) (b:=B) za A
 rw [show A*256=2 ^ 8*A by omega,<- e2,kn za za]
 omega
theorem HN (n:Nat) (k:Nat) (hk:k<=64):bF .u64 (n:Int) (k:Int)=((n / 2 ^ k:Nat):Int):=by
 show(n:Int).fdiv (2 ^ (min (Int.toNat (k:Int)) 64))=_
 rw [Int.toNat_natCast,Nat.min_eq_left hk,Int.fdiv_eq_ediv_of_nonneg _ (by exact Int.pow_nonneg zf)]
 rw [Int.natCast_ediv,Int.natCast_pow]
 rfl
theorem JW (n:Nat) (x:Nat) (hx:x<8):FU (n:Int) x=((n / 2 ^ (8*(7-x)) % 256:Nat):Int):=by
 show IntKind.u8.wrap (bF .u64 (n:Int) (8*((7:Int)-(x:Nat))))=_
 rw [show(8*((7:Int)-(x:Nat)))=((8*(7-x):Nat):Int) by omega,HN n _ za]
 show((n / 2 ^ (8*(7-x)):Nat):Int) % 256=_
 omega
theorem BZ (n:Nat) (hn:n<18446744073709551616):∀ k,k<=8->fR (AA (n:Int) k)=((n / 2 ^ (8*(8-k)):Nat):Int)
 | 0,_=>by
  show(0:Int)=_
  rw [Nat.div_eq_of_lt (by exact hn)]
  rfl
 | k+1,hk=>by
  have ih:=BZ n hn k za
  rw [td]
  have e:fR (AA (n:Int) k++[FU (n:Int) k])=mL .u64 (dY .u64 (fR (AA (n:Int) k)) 8) (IntKind.u64.wrap (FU (n:Int) k)):=by
   simp only [fR,List.foldl_append,List.foldl_cons,List.foldl_nil]
  have hdiv:n / 2 ^ (8*(8-k))=n / 2 ^ (8*(8-(k+1))) / 256:=by
   rw [Nat.div_div_eq_div_mul,show 8*(8-k)=8*(8-(k+1))+8 by omega,Nat.pow_add]
  have hle:n / 2 ^ (8*(8-(k+1)))<=n:=Nat.div_le_self ..
  rw [e,ih,JW n k za,kn za za,show 8*(7-k)=8*(8-(k+1)) by omega,hdiv]
  generalize n / 2 ^ (8*(8-(k+1)))=q at hle ⊢
  rw [MJ za za za]
  omega
theorem EY {v:Int}(h:0<=v/\v<18446744073709551616):fR (wd v)=v:=by
 obtain⟨n,rfl⟩:∃ n:Nat,v=n:=⟨v.toNat,za⟩
 rw [wd,BZ n za 8 (Nat.le_refl _)]
 simp
theorem Dr {ad:Option Addr}{c lo size:Nat}(h:∃ b off,ad=some ⟨b,off,none⟩):∃ b off,eA ad c lo size=some ⟨b,off,none⟩:=by
 obtain⟨b,off,rfl⟩:=h
 unfold eA
 split
 ·exact⟨_,_,rfl⟩
 ·exact⟨b,off+lo*size,by simp [Addr.add]⟩
theorem Ds (s:ByteArray):strOf (cV s)=s:=by
 unfold strOf cV
 rw [List.map_map]
 have e:(s.data.toList.map (jR ∘ λb:UInt8=>(b.toNat:Int)))=s.data.toList:=by
  conv=>rhs;rw [<- List.map_id s.data.toList]
  refine List.map_congr_left λb _=>?_
  show jR (b.toNat:Int)=b
  apply UInt8.toNat_inj.1
  have h:=pH (x:=(b.toNat:Int)) za (by have:=b.toNat_lt;omega)
  omega
 rw [e]
end Go.Proofs.YtkmhmeldgfpfeaaGreatDoor
namespace Go.Proofs.YtkmhmeldgfpfeaaGreatDoor
open Go.RowKit Go.Sx
set_option linter.unusedVariables false
set_option linter.unusedSimpArgs false
set_option linter.unnecessarySimpa false
set_option maxRecDepth 100000
section
variable {w0 w : World} {L : List cA}
theorem ib (a b:Int):(a == b)=decide (a=b):=by
 by_cases h:a=b
 ·simp [h]
 ·simp [h]
def pa (n:Int):Array Value:=#[.int .u64 n]
theorem B0:gX pa 1:=⟨λ_=>rfl,λ_=>rfl⟩
abbrev bI:=Vector Int 32
def bI.cells (v:bI):Array Value:=#[.int .u8 v[0],.int .u8 v[1],.int .u8 v[2],.int .u8 v[3],.int .u8 v[4],.int .u8 v[5],.int .u8 v[6],.int .u8 v[7],.int .u8 v[8],.int .u8 v[9],.int .u8 v[10],.int .u8 v[11],.int .u8 v[12],.int .u8 v[13],.int .u8 v[14],.int .u8 v[15],.int .u8 v[16],.int .u8 v[17],.int .u8 v[18],.int .u8 v[19],.int .u8 v[20],.int .u8 v[21],.int .u8 v[22],.int .u8 v[23],.int .u8 v[24],.int .u8 v[25],.int .u8 v[26],.int .u8 v[27],.int .u8 v[28],.int .u8 v[29],.int .u8 v[30],.int .u8 v[31]]
abbrev aK:bI:=#v[0,0,0,0,0,0,0,0,0,0,0,0,0,0,0,0,0,0,0,0,0,0,0,0,0,0,0,0,0,0,0,0]
theorem bI.JX (v:bI):bI.cells v=v.toArray.map (Value.int .u8):=by
 apply Array.ext
 ·rw [Array.size_map,v.size_toArray];rfl
 ·intro i a b
  rw [Array.getElem_map]
  have h:i<32:=a
  match i,h with
  | 0,_=>rfl
  | 1,_=>rfl
  | 2,_=>rfl
  | 3,_=>rfl
  | 4,_=>rfl
  | 5,_=>rfl
  | 6,_=>rfl
  | 7,_=>rfl
  | 8,_=>rfl
  | 9,_=>rfl
  | 10,_=>rfl
  | 11,_=>rfl
  | 12,_=>rfl
  | 13,_=>rfl
  | 14,_=>rfl
  | 15,_=>rfl
  | 16,_=>rfl
  | 17,_=>rfl
  | 18,_=>rfl
  | 19,_=>rfl
  | 20,_=>rfl
  | 21,_=>rfl
  | 22,_=>rfl
  | 23,_=>rfl
  | 24,_=>rfl
  | 25,_=>rfl
  | 26,_=>rfl
  | 27,_=>rfl
  | 28,_=>rfl
  | 29,_=>rfl
  | 30,_=>rfl
  | 31,_=>rfl
  | m+32,h=>omega
theorem bI.len (v:bI):v.toList.length=32:=by simp
theorem bI.at_ (d:bI) (i:Nat) (h:i<32):(bI.cells d)[i]?=some (.int .u8 (d.toList.getD i 0)):=by
 rw [bI.JX,Array.getElem?_map]
 simp [Vector.toList,h]
theorem bI.sM (hs:St w0 L w) (j:Nat){b:Nat}{cs:Array Value}{T:TypeId}(off:Nat) (d:bI) (hj:L[j]?=some (aC b cs T)) (he:cs.extract off (off+32)=bI.cells d):aB w (some ⟨b,off,none⟩) d.toList.length 1 (λk=>aA (d.toList.getD k 0)):=by
 refine λ_=>⟨b,off,rfl,λk hk i hi=>?_⟩
 have a:k<32:=by rw [bI.len] at hk;exact hk
 obtain rfl:i=0:=za
 have e:cs[off+k]?=(bI.cells d)[k]?:=by
  rw [<- he,Array.getElem?_extract,if_pos]
  have f:=congrArg Array.size he
  rw [Array.size_extract] at f
  have o:(bI.cells d).size=32:=rfl
  omega
 rw [Nat.mul_one,Nat.add_zero,hs.cell j (off:=off+k) hj (e.trans (bI.at_ d k a))]
 rfl
theorem bI.HO {cs:Array Value}{off k:Nat}{d:bI}(he:cs.extract off (off+32)=bI.cells d) (hk:k<32):cs[off+k*1]?=some (.int .u8 (d.toList.getD k 0)):=by
 have a:cs[off+k]?=(bI.cells d)[k]?:=by
  rw [<- he,Array.getElem?_extract,if_pos]
  have b:=congrArg Array.size he
  rw [Array.size_extract] at b
  have e:(bI.cells d).size=32:=rfl
  omega
 rw [Nat.mul_one]
 exact a.trans (bI.at_ d k hk)
def bI.Hu (a b:bI):Bool:=a[0] == b[0] && (a[1] == b[1] && (a[2] == b[2] && (a[3] == b[3] && (a[4] == b[4] && (a[5] == b[5] && (a[6] == b[6] && (a[7] == b[7] && (a[8] == b[8] && (a[9] == b[9] && (a[10] == b[10] && (a[11] == b[11] && (a[12] == b[12] && (a[13] == b[13] && (a[14] == b[14] && (a[15] == b[15] && (a[16] == b[16] && (a[17] == b[17] && (a[18] == b[18] && (a[19] == b[19] && (a[20] == b[20] && (a[21] == b[21] && (a[22] == b[22] && (a[23] == b[23] && (a[24] == b[24] && (a[25] == b[25] && (a[26] == b[26] && (a[27] == b[27] && (a[28] == b[28] && (a[29] == b[29] && (a[30] == b[30] && (a[31] == b[31] && true)))))))))))))))))))))))))))))))
theorem bI.AB (a b:bI):bI.Hu a b=decide (a=b):=by
 by_cases h:a=b
 ·subst h;simp [bI.Hu]
 ·rw [decide_eq_false h]
  cases ht:bI.Hu a b with
  | false=>rfl
  | true =>
   exfalso
   apply h
   simp only [bI.Hu,Bool.and_eq_true,beq_iff_eq] at ht
   obtain⟨d,e,f,o,q,u,w,x,z,h9,a0,a1,a2,a3,a4,a5,a6,a7,a8,a9,b0,b1,b2,b3,b4,b5,b6,b7,b8,b9,c0,c1,-⟩:=ht
   apply Vector.ext
   intro i hi
   match i,hi with
   | 0,_=>exact d
   | 1,_=>exact e
   | 2,_=>exact f
   | 3,_=>exact o
   | 4,_=>exact q
   | 5,_=>exact u
   | 6,_=>exact w
   | 7,_=>exact x
   | 8,_=>exact z
   | 9,_=>exact h9
   | 10,_=>exact a0
   | 11,_=>exact a1
   | 12,_=>exact a2
   | 13,_=>exact a3
   | 14,_=>exact a4
   | 15,_=>exact a5
   | 16,_=>exact a6
   | 17,_=>exact a7
   | 18,_=>exact a8
   | 19,_=>exact a9
   | 20,_=>exact b0
   | 21,_=>exact b1
   | 22,_=>exact b2
   | 23,_=>exact b3
   | 24,_=>exact b4
   | 25,_=>exact b5
   | 26,_=>exact b6
   | 27,_=>exact b7
   | 28,_=>exact b8
   | 29,_=>exact b9
   | 30,_=>exact c0
   | 31,_=>exact c1
   | m+32,h=>omega
abbrev cW:=Vector Int 11
def cW.cells (v:cW):Array Value:=#[.int .u64 v[0],.int .u64 v[1],.int .u64 v[2],.int .u64 v[3],.int .u64 v[4],.int .u64 v[5],.int .u64 v[6],.int .u64 v[7],.int .u64 v[8],.int .u64 v[9],.int .u64 v[10]]
abbrev qk:cW:=#v[0,0,0,0,0,0,0,0,0,0,0]
theorem cW.JX (v:cW):cW.cells v=v.toArray.map (Value.int .u64):=by
 apply Array.ext
 ·rw [Array.size_map,v.size_toArray];rfl
 ·intro i a b
  rw [Array.getElem_map]
  have h:i<11:=a
  match i,h with
  | 0,_=>rfl
  | 1,_=>rfl
  | 2,_=>rfl
  | 3,_=>rfl
  | 4,_=>rfl
  | 5,_=>rfl
  | 6,_=>rfl
  | 7,_=>rfl
  | 8,_=>rfl
  | 9,_=>rfl
  | 10,_=>rfl
  | m+11,h=>omega
theorem cW.len (v:cW):v.toList.length=11:=by simp
theorem cW.at_ (d:cW) (i:Nat) (h:i<11):(cW.cells d)[i]?=some (.int .u64 (d.toList.getD i 0)):=by
 rw [cW.JX,Array.getElem?_map]
 simp [Vector.toList,h]
theorem cW.sM (hs:St w0 L w) (j:Nat){b:Nat}{cs:Array Value}{T:TypeId}(off:Nat) (d:cW) (hj:L[j]?=some (aC b cs T)) (he:cs.extract off (off+11)=cW.cells d):aB w (some ⟨b,off,none⟩) d.toList.length 1 (λk=>pa (d.toList.getD k 0)):=by
 refine λ_=>⟨b,off,rfl,λk hk i hi=>?_⟩
 have a:k<11:=by rw [cW.len] at hk;exact hk
 obtain rfl:i=0:=za
 have e:cs[off+k]?=(cW.cells d)[k]?:=by
  rw [<- he,Array.getElem?_extract,if_pos]
  have f:=congrArg Array.size he
  rw [Array.size_extract] at f
  have o:(cW.cells d).size=11:=rfl
  omega
 rw [Nat.mul_one,Nat.add_zero,hs.cell j (off:=off+k) hj (e.trans (cW.at_ d k a))]
 rfl
theorem cW.HO {cs:Array Value}{off k:Nat}{d:cW}(he:cs.extract off (off+11)=cW.cells d) (hk:k<11):cs[off+k*1]?=some (.int .u64 (d.toList.getD k 0)):=by
 have a:cs[off+k]?=(cW.cells d)[k]?:=by
  rw [<- he,Array.getElem?_extract,if_pos]
  have b:=congrArg Array.size he
  rw [Array.size_extract] at b
  have e:(cW.cells d).size=11:=rfl
  omega
 rw [Nat.mul_one]
 exact a.trans (cW.at_ d k hk)
def cW.Hu (a b:cW):Bool:=a[0] == b[0] && (a[1] == b[1] && (a[2] == b[2] && (a[3] == b[3] && (a[4] == b[4] && (a[5] == b[5] && (a[6] == b[6] && (a[7] == b[7] && (a[8] == b[8] && (a[9] == b[9] && (a[10] == b[10] && true))))))))))
theorem cW.AB (a b:cW):cW.Hu a b=decide (a=b):=by
 by_cases h:a=b
 ·subst h;simp [cW.Hu]
 ·rw [decide_eq_false h]
  cases ht:cW.Hu a b with
  | false=>rfl
  | true =>
   exfalso
   apply h
   simp only [cW.Hu,Bool.and_eq_true,beq_iff_eq] at ht
   obtain⟨d,e,f,o,q,u,w,x,z,h9,a0,-⟩:=ht
   apply Vector.ext
   intro i hi
   match i,hi with
   | 0,_=>exact d
   | 1,_=>exact e
   | 2,_=>exact f
   | 3,_=>exact o
   | 4,_=>exact q
   | 5,_=>exact u
   | 6,_=>exact w
   | 7,_=>exact x
   | 8,_=>exact z
   | 9,_=>exact h9
   | 10,_=>exact a0
   | m+11,h=>omega
structure bS where
 rp:Int
 nm:Int
deriving DecidableEq
def bS.cells (x:bS):Array Value:=#[.int .i64 x.rp,.int .u64 x.nm]
abbrev cD:bS:=⟨0,0⟩
theorem vu:gX bS.cells 2:=⟨λ_=>rfl,λ_=>rfl⟩
structure lP where
 kd:Int
 ky:ByteArray
 va:ByteArray
 ol:ByteArray
 tx:ByteArray
 am:Int
deriving DecidableEq
def lP.cells (x:lP):Array Value:=#[.int .u8 x.kd,.string x.ky,.string x.va,.string x.ol,.string x.tx,.int .u64 x.am]
abbrev Nf:lP:=⟨0,⟨#[]⟩,⟨#[]⟩,⟨#[]⟩,⟨#[]⟩,0⟩
structure NV where
 er:Int
 vl:ByteArray
deriving DecidableEq
def NV.cells (x:NV):Array Value:=#[.int .i64 x.er,.string x.vl]
structure eG where
 cl:Int
 tm:Int
 op:lP
 tg:bI
deriving DecidableEq
def eG.cells (x:eG):Array Value:=#[.int .i64 x.cl,.int .u64 x.tm,.int .u8 x.op.kd,.string x.op.ky,.string x.op.va,.string x.op.ol,.string x.op.tx,.int .u64 x.op.am,.int .u8 (x.tg[0]),.int .u8 (x.tg[1]),.int .u8 (x.tg[2]),.int .u8 (x.tg[3]),.int .u8 (x.tg[4]),.int .u8 (x.tg[5]),.int .u8 (x.tg[6]),.int .u8 (x.tg[7]),.int .u8 (x.tg[8]),.int .u8 (x.tg[9]),.int .u8 (x.tg[10]),.int .u8 (x.tg[11]),.int .u8 (x.tg[12]),.int .u8 (x.tg[13]),.int .u8 (x.tg[14]),.int .u8 (x.tg[15]),.int .u8 (x.tg[16]),.int .u8 (x.tg[17]),.int .u8 (x.tg[18]),.int .u8 (x.tg[19]),.int .u8 (x.tg[20]),.int .u8 (x.tg[21]),.int .u8 (x.tg[22]),.int .u8 (x.tg[23]),.int .u8 (x.tg[24]),.int .u8 (x.tg[25]),.int .u8 (x.tg[26]),.int .u8 (x.tg[27]),.int .u8 (x.tg[28]),.int .u8 (x.tg[29]),.int .u8 (x.tg[30]),.int .u8 (x.tg[31])]
abbrev cN:eG:=⟨0,0,Nf,aK⟩
structure aV where
 kd:Int
 vw:Int
 k:Int
 rq:eG
 qa:Option Addr
 qc:Nat
 ql:List bS
 dg:bI
def aV.cells (x:aV):Array Value:=#[.int .u8 x.kd,.int .u64 x.vw,.int .u64 x.k,.int .i64 x.rq.cl,.int .u64 x.rq.tm,.int .u8 x.rq.op.kd,.string x.rq.op.ky,.string x.rq.op.va,.string x.rq.op.ol,.string x.rq.op.tx,.int .u64 x.rq.op.am,.int .u8 (x.rq.tg[0]),.int .u8 (x.rq.tg[1]),.int .u8 (x.rq.tg[2]),.int .u8 (x.rq.tg[3]),.int .u8 (x.rq.tg[4]),.int .u8 (x.rq.tg[5]),.int .u8 (x.rq.tg[6]),.int .u8 (x.rq.tg[7]),.int .u8 (x.rq.tg[8]),.int .u8 (x.rq.tg[9]),.int .u8 (x.rq.tg[10]),.int .u8 (x.rq.tg[11]),.int .u8 (x.rq.tg[12]),.int .u8 (x.rq.tg[13]),.int .u8 (x.rq.tg[14]),.int .u8 (x.rq.tg[15]),.int .u8 (x.rq.tg[16]),.int .u8 (x.rq.tg[17]),.int .u8 (x.rq.tg[18]),.int .u8 (x.rq.tg[19]),.int .u8 (x.rq.tg[20]),.int .u8 (x.rq.tg[21]),.int .u8 (x.rq.tg[22]),.int .u8 (x.rq.tg[23]),.int .u8 (x.rq.tg[24]),.int .u8 (x.rq.tg[25]),.int .u8 (x.rq.tg[26]),.int .u8 (x.rq.tg[27]),.int .u8 (x.rq.tg[28]),.int .u8 (x.rq.tg[29]),.int .u8 (x.rq.tg[30]),.int .u8 (x.rq.tg[31]),.slice x.qa x.ql.length x.qc,.int .u8 (x.dg[0]),.int .u8 (x.dg[1]),.int .u8 (x.dg[2]),.int .u8 (x.dg[3]),.int .u8 (x.dg[4]),.int .u8 (x.dg[5]),.int .u8 (x.dg[6]),.int .u8 (x.dg[7]),.int .u8 (x.dg[8]),.int .u8 (x.dg[9]),.int .u8 (x.dg[10]),.int .u8 (x.dg[11]),.int .u8 (x.dg[12]),.int .u8 (x.dg[13]),.int .u8 (x.dg[14]),.int .u8 (x.dg[15]),.int .u8 (x.dg[16]),.int .u8 (x.dg[17]),.int .u8 (x.dg[18]),.int .u8 (x.dg[19]),.int .u8 (x.dg[20]),.int .u8 (x.dg[21]),.int .u8 (x.dg[22]),.int .u8 (x.dg[23]),.int .u8 (x.dg[24]),.int .u8 (x.dg[25]),.int .u8 (x.dg[26]),.int .u8 (x.dg[27]),.int .u8 (x.dg[28]),.int .u8 (x.dg[29]),.int .u8 (x.dg[30]),.int .u8 (x.dg[31])]
abbrev vC:aV:=⟨0,0,0,cN,none,0,[],aK⟩
structure aD where
 og:Int
 nr:Int
 dp:cW
 bd:aV
 tg:bI
def aD.cells (x:aD):Array Value:=#[.int .i64 x.og,.int .u64 x.nr,.int .u64 (x.dp[0]),.int .u64 (x.dp[1]),.int .u64 (x.dp[2]),.int .u64 (x.dp[3]),.int .u64 (x.dp[4]),.int .u64 (x.dp[5]),.int .u64 (x.dp[6]),.int .u64 (x.dp[7]),.int .u64 (x.dp[8]),.int .u64 (x.dp[9]),.int .u64 (x.dp[10]),.int .u8 x.bd.kd,.int .u64 x.bd.vw,.int .u64 x.bd.k,.int .i64 x.bd.rq.cl,.int .u64 x.bd.rq.tm,.int .u8 x.bd.rq.op.kd,.string x.bd.rq.op.ky,.string x.bd.rq.op.va,.string x.bd.rq.op.ol,.string x.bd.rq.op.tx,.int .u64 x.bd.rq.op.am,.int .u8 (x.bd.rq.tg[0]),.int .u8 (x.bd.rq.tg[1]),.int .u8 (x.bd.rq.tg[2]),.int .u8 (x.bd.rq.tg[3]),.int .u8 (x.bd.rq.tg[4]),.int .u8 (x.bd.rq.tg[5]),.int .u8 (x.bd.rq.tg[6]),.int .u8 (x.bd.rq.tg[7]),.int .u8 (x.bd.rq.tg[8]),.int .u8 (x.bd.rq.tg[9]),.int .u8 (x.bd.rq.tg[10]),.int .u8 (x.bd.rq.tg[11]),.int .u8 (x.bd.rq.tg[12]),.int .u8 (x.bd.rq.tg[13]),.int .u8 (x.bd.rq.tg[14]),.int .u8 (x.bd.rq.tg[15]),.int .u8 (x.bd.rq.tg[16]),.int .u8 (x.bd.rq.tg[17]),.int .u8 (x.bd.rq.tg[18]),.int .u8 (x.bd.rq.tg[19]),.int .u8 (x.bd.rq.tg[20]),.int .u8 (x.bd.rq.tg[21]),.int .u8 (x.bd.rq.tg[22]),.int .u8 (x.bd.rq.tg[23]),.int .u8 (x.bd.rq.tg[24]),.int .u8 (x.bd.rq.tg[25]),.int .u8 (x.bd.rq.tg[26]),.int .u8 (x.bd.rq.tg[27]),.int .u8 (x.bd.rq.tg[28]),.int .u8 (x.bd.rq.tg[29]),.int .u8 (x.bd.rq.tg[30]),.int .u8 (x.bd.rq.tg[31]),.slice x.bd.qa x.bd.ql.length x.bd.qc,.int .u8 (x.bd.dg[0]),.int .u8 (x.bd.dg[1]),.int .u8 (x.bd.dg[2]),.int .u8 (x.bd.dg[3]),.int .u8 (x.bd.dg[4]),.int .u8 (x.bd.dg[5]),.int .u8 (x.bd.dg[6]),.int .u8 (x.bd.dg[7]),.int .u8 (x.bd.dg[8]),.int .u8 (x.bd.dg[9]),.int .u8 (x.bd.dg[10]),.int .u8 (x.bd.dg[11]),.int .u8 (x.bd.dg[12]),.int .u8 (x.bd.dg[13]),.int .u8 (x.bd.dg[14]),.int .u8 (x.bd.dg[15]),.int .u8 (x.bd.dg[16]),.int .u8 (x.bd.dg[17]),.int .u8 (x.bd.dg[18]),.int .u8 (x.bd.dg[19]),.int .u8 (x.bd.dg[20]),.int .u8 (x.bd.dg[21]),.int .u8 (x.bd.dg[22]),.int .u8 (x.bd.dg[23]),.int .u8 (x.bd.dg[24]),.int .u8 (x.bd.dg[25]),.int .u8 (x.bd.dg[26]),.int .u8 (x.bd.dg[27]),.int .u8 (x.bd.dg[28]),.int .u8 (x.bd.dg[29]),.int .u8 (x.bd.dg[30]),.int .u8 (x.bd.dg[31]),.int .u8 (x.tg[0]),.int .u8 (x.tg[1]),.int .u8 (x.tg[2]),.int .u8 (x.tg[3]),.int .u8 (x.tg[4]),.int .u8 (x.tg[5]),.int .u8 (x.tg[6]),.int .u8 (x.tg[7]),.int .u8 (x.tg[8]),.int .u8 (x.tg[9]),.int .u8 (x.tg[10]),.int .u8 (x.tg[11]),.int .u8 (x.tg[12]),.int .u8 (x.tg[13]),.int .u8 (x.tg[14]),.int .u8 (x.tg[15]),.int .u8 (x.tg[16]),.int .u8 (x.tg[17]),.int .u8 (x.tg[18]),.int .u8 (x.tg[19]),.int .u8 (x.tg[20]),.int .u8 (x.tg[21]),.int .u8 (x.tg[22]),.int .u8 (x.tg[23]),.int .u8 (x.tg[24]),.int .u8 (x.tg[25]),.int .u8 (x.tg[26]),.int .u8 (x.tg[27]),.int .u8 (x.tg[28]),.int .u8 (x.tg[29]),.int .u8 (x.tg[30]),.int .u8 (x.tg[31])]
abbrev aJ:aD:=⟨0,0,qk,vC,aK⟩
theorem dJ:gX aD.cells 121:=⟨λ_=>rfl,λ_=>rfl⟩
theorem yv (a b:bI):fY Tryz.prog 2 44 (.agg (bI.cells a)) (.agg (bI.cells b))=decide (a=b):=by
 have h:fY Tryz.prog 2 44 (.agg (bI.cells a)) (.agg (bI.cells b))=bI.Hu a b:=zk
 rw [h,bI.AB]
theorem MK (a b:cW):fY Tryz.prog 2 41 (.agg (cW.cells a)) (.agg (cW.cells b))=decide (a=b):=by
 have h:fY Tryz.prog 2 41 (.agg (cW.cells a)) (.agg (cW.cells b))=cW.Hu a b:=zk
 rw [h,cW.AB]
theorem ML (a b:bS):fY Tryz.prog 2 190 (.agg a.cells) (.agg b.cells)=decide (a=b):=by
 have h:fY Tryz.prog 2 190 (.agg a.cells) (.agg b.cells)=(a.rp == b.rp && (a.nm == b.nm && true)):=zk
 rw [h,ib,ib,Bool.and_true]
 obtain⟨d,e⟩:=a
 obtain⟨f,i⟩:=b
 simp only [bS.mk.injEq,Bool.decide_and]
theorem Nz (a b:lP):fY Tryz.prog 2 43 (.agg a.cells) (.agg b.cells)=decide (a=b):=by
 have h:fY Tryz.prog 2 43 (.agg a.cells) (.agg b.cells)=(a.kd == b.kd && (a.ky.toList == b.ky.toList && (a.va.toList == b.va.toList && (a.ol.toList == b.ol.toList && (a.tx.toList == b.tx.toList && (a.am == b.am && true)))))):=zk
 rw [h,ib,nT,nT,nT,nT,ib,Bool.and_true]
 obtain⟨d,e,f,i,o,q⟩:=a
 obtain⟨u,w,x,z,b4,b5⟩:=b
 simp only [lP.mk.injEq,Bool.decide_and]
theorem MM (a b:eG):fY Tryz.prog 3 46 (.agg a.cells) (.agg b.cells)=decide (a=b):=by
 have h:fY Tryz.prog 3 46 (.agg a.cells) (.agg b.cells)=(a.cl == b.cl && (a.tm == b.tm && (fY Tryz.prog 2 43 (.agg a.op.cells) (.agg b.op.cells) && (bI.Hu a.tg b.tg && true)))):=zk
 rw [h,ib,ib,Nz,bI.AB,Bool.and_true]
 obtain⟨d,e,f,i⟩:=a
 obtain⟨o,q,u,w⟩:=b
 simp only [eG.mk.injEq,Bool.decide_and]
theorem HP:jZ Tryz.prog 47 190 2 16:=⟨zk,⟨Tryz.t190,.agg (bS.cells cD),zk,zk,zk,zk,zk⟩,zf⟩
theorem eH:jZ Tryz.prog 24 51 121 344:=⟨zk,⟨Tryz.t51,.agg (aD.cells aJ),zk,zk,zk,zk,zk⟩,zf⟩
theorem Dt (l:List Int):(l.flatMap λx=>(aA x).toList)=l.map (Value.int .u8):=by
 induction l with
 | nil=>rfl
 | cons a l ih=>simp only [List.flatMap_cons,List.map_cons,ih];rfl
theorem ry (l:List Int):(af aA l)=(l.map (Value.int .u8)).toArray:=by
 apply Array.ext'
 simp only [af]
 exact Dt l
def oN (l:List Int):bI:=⟨((l++List.replicate 32 0).take 32).toArray,by rw [List.size_toArray,List.length_take,List.length_append,List.length_replicate];omega⟩
theorem HQ {l:List Int}(h:l.length=32):af aA l=bI.cells (oN l):=by
 rw [bI.JX,ry]
 apply Array.ext'
 have e:(l++List.replicate 32 0).take 32=l:=List.take_left' h
 show l.map (Value.int .u8)=(((l++List.replicate 32 0).take 32).toArray.map (Value.int .u8)).toList
 rw [e]
 simp
theorem MN (v:bI):bI.cells v=af aA v.toList:=by
 rw [bI.JX,ry]
 apply Array.ext'
 simp [Vector.toList]
theorem qx (v:bI):oN v.toList=v:=by
 have e:(v.toList++List.replicate 32 0).take 32=v.toList:=List.take_left' (bI.len v)
 apply Vector.toArray_inj.1
 show((v.toList++List.replicate 32 0).take 32).toArray=v.toArray
 rw [e]
 simp [Vector.toList]
end
section
variable {w0 w : World} {L : List cA} {ad : Option Addr} {c : Nat}
def hf (n:Int):List Int:=[IntKind.u8.wrap (bF .u16 n 8),IntKind.u8.wrap (bF .u16 n 0)]
theorem HR {l:List Int}{n:Int}:(l++([(IntKind.u8.wrap (bF .u16 n 8):Int)]))++([(IntKind.u8.wrap (bF .u16 n 0):Int)])=l++hf n:=by rw [List.append_assoc];rfl
theorem fU (n:Int):(hf n).length=2:=rfl
theorem FY l n (hl:l.length<=900000) (hn:0<=n/\n<65536) (hs:St w0 (Sl ad c 5 1 aA l::L) w):Cs Tryz.prog 97 #[.slice ad l.length c,.int .u16 n,.int .i64 2] w λrv w'=>∃ ao co,rv=.slice ao ((l++hf n).length) co/\St w0 (Sl ao co 5 1 aA (l++hf n)::L) w':=by
 refine cL Tryz.func97 Tryz.ntmps97 (En (Lq (Ls (Lg [1,3] (Lw (dE (f:=113) (args:=#[.slice ad l.length c]) Tryz.call113 (uR l zg hs) ?_))))))
 rintro v4 w5 ⟨d,e,rfl,i⟩
 refine Lo (Lw (dE (f:=138) (args:=#[.slice d l.length e,.int .i64 2]) Tryz.call138 (pI l 2 zg za i) ?_))
 rintro v9 a4 ⟨a5,a6,rfl,o⟩
 refine Lz (Ls (Lq (Lb (Dz (bH.tY 3 (En (Ls (Lq (LT (Lk (Lt (Ls (Lb (Dz (bX [6,7] (Hg 4 (.shift (bF .u16 n 8)) [.prop ((0:Int)<=8/\Int.fdiv n (2 ^ (min (Int.toNat 8) (IntKind.bits .u16)))=bF .u16 n 8)] (aL ⟨(by first|omega|exact bW rfl _),rfl⟩ aO) Hz) (tQ aP aF [(IntKind.u8.wrap (bF .u16 n 8):Int)] o λa7 a8 q=>Lo (Dz (oV aP aF (0:Int) (q.pl 1) zj λa9 b0 b1 x=>Lo (bO (Lm (Lt (La (Dz (aN.again (En (Ls (Lq (LT (Lk (Lt (Ls (Lb (Dz (bX [6,7] (Hg 4 (.shift (bF .u16 n 0)) [.prop ((0:Int)<=0/\Int.fdiv n (2 ^ (min (Int.toNat 0) (IntKind.bits .u16)))=bF .u16 n 0)] (aL ⟨(by first|omega|exact bW rfl _),rfl⟩ aO) Hz) (tQ aP aF [(IntKind.u8.wrap (bF .u16 n 0):Int)] x λb2 b3 z=>Lo (Dz (oV aP aF (0:Int) (z.pl 1) zj λa b b4 a1=>Lo (bO (Lm (Lt (La (Dz (aN.again (En (Ls (Lq (LF (Lx (kD (kE (Lh (Lt (Lq (Le (Dz (bL (v:=.slice a (((l++([(IntKind.u8.wrap (bF .u16 n 8):Int)]))++([(IntKind.u8.wrap (bF .u16 n 0):Int)])).length) b) ?_))))))))))))))))))))))))))))))))))))))))))))))))))))))))
 have a2:=((a1.pl 0).pl 2).pl 2
 exact⟨a,b,by rw [<- HR],by rw [<- HR];exact(a2.dr 2)⟩
theorem zm {p:Prop}(h:p:=by first|omega|(simp only [List.length_append,aZ,bY,cM,List.length_cons,List.length_nil] at *;omega)):p:=h
theorem tZ l n (hl:l.length<=900000) (hn:0<=n/\n<65536) (hs:St w0 (Sl ad c 5 1 aA l::L) w):Cs Tryz.prog 39 #[.slice ad l.length c,.int .u16 n] w λrv w'=>∃ ao co,rv=.slice ao ((l++hf n).length) co/\St w0 (Sl ao co 5 1 aA (l++hf n)::L) w':=by
 refine cL Tryz.func39 Tryz.ntmps39 (En (Lq (Ls (Lg [2] (Lw (Zc (FY l n zm zc hs) ?_))))))
 rintro e f ⟨a,b,rfl,d⟩
 exact Lz (Le (Dz (bL (v:=.slice a ((l++hf n).length) b) ⟨a,b,rfl,d⟩)))
def tx (s:ByteArray):List Int:=hf (s.size:Nat)++cV s
theorem rz (s:ByteArray):(tx s).length=2+s.size:=by rw [tx,List.length_append,fU,bY]
theorem rA l s (hl:l.length<=800000) (hsz:s.size<65536) (hs:St w0 (Sl ad c 5 1 aA l::L) w):Cs Tryz.prog 215 #[.slice ad l.length c,.string s] w λrv w'=>∃ ao co,rv=.tuple #[.slice ao ((l++tx s).length) co,.int .i64 0]/\St w0 (Sl ao co 5 1 aA (l++tx s)::L) w':=by
 refine cL Tryz.func215 Tryz.ntmps215 (En (Lq (Ls (Lq (Dz (Zi ((s.size:Int) >= 65536) (λd=>?_) (λd=>?_)))))))
 ·exfalso;omega
 ·refine Zk (Zt (Zs (bX [4,6] (Hg 3 (.eJ (.int .u16 (s.size:Nat)) (.gen [])) [.prop (Value.int .u16 (IntKind.u16.wrap (s.size:Nat))=Value.int .u16 (s.size:Nat))] (aL (vW za za) aO) Hz) (Zc (tZ l (s.size:Nat) za za hs) ?_))))
  rintro x z ⟨e,i,rfl,o⟩
  exact Lo (Lw (aU.rr rfl zk aP (u:=9) zk (f:=aA) rfl (ad:=e) (c:=i) (xs:=l++hf (s.size:Nat)) (s:=s) zk o (by simp only [List.length_append,fU];omega) λa b w7 q=>Lz (Le (Dz (om (v:=.slice a (((l++hf (s.size:Nat))++cV s).length) b) (v':=.int .i64 0) ⟨a,b,by rw [(show(l++hf (s.size:Nat))++cV s=l++tx s from List.append_assoc ..)],by rw [<- (show(l++hf (s.size:Nat))++cV s=l++tx s from List.append_assoc ..)];exact q⟩)))))
theorem JY {v:Int}(h:0<=v/\v<65536):fR (hf v)=v:=by
 obtain⟨n,rfl⟩:∃ n:Nat,v=n:=⟨v.toNat,za⟩
 have b:IntKind.u8.wrap (bF .u16 (n:Int) 8)=((n / 256:Nat):Int):=by
  show((n:Int).fdiv (2 ^ (min (Int.toNat (8:Int)) 16))) % 256=_
  show((n:Int).fdiv 256) % 256=_
  rw [Int.fdiv_eq_ediv_of_nonneg _ zf]
  omega
 have d:IntKind.u8.wrap (bF .u16 (n:Int) 0)=((n % 256:Nat):Int):=by
  show((n:Int).fdiv (2 ^ (min (Int.toNat (0:Int)) 16))) % 256=_
  show((n:Int).fdiv 1) % 256=_
  rw [Int.fdiv_eq_ediv_of_nonneg _ zf]
  omega
 rw [hf,b,d]
 show mL .u64 (dY .u64 (mL .u64 (dY .u64 0 8) (IntKind.u64.wrap ((n / 256:Nat):Int))) 8) (IntKind.u64.wrap ((n % 256:Nat):Int))=_
 have e:mL .u64 (dY .u64 0 8) ((n / 256:Nat):Int)=((n / 256:Nat):Int):=by
  rw [MJ (a:=0) za za za]
  omega
 rw [kn za za,kn za za,e,MJ za za za]
 omega
theorem L0 {v:Int}(h:0<=v/\v<65536):IntKind.u16.wrap v=v:=by
 show v % 65536=v
 omega
theorem HT {v:Int}(h:0<=v/\v<256):fR [v]=v:=by
 show mL .u64 (dY .u64 0 8) (IntKind.u64.wrap v)=v
 rw [kn za za,MJ za h za]
 omega
theorem yw {v:Int}(h:0<=v/\v<256):IntKind.u8.wrap v=v:=by
 show v % 256=v
 omega
end
section
variable {w0 w : World} {L : List cA} {ad : Option Addr} {c : Nat} {az : Option Addr} {cz : Nat}
abbrev CS:=List Int×Bool
def tk (n:Nat) (s:CS):List Int×CS:=if s.2=true\/s.1.length<n then ([],(s.1,true)) else (s.1.take n,(s.1.drop n,false))
def AD (n:Nat) (s:CS):Int×CS:=(fR (tk n s).1,(tk n s).2)
def cG (s:CS):Int×CS:=(IntKind.u8.wrap (fR (tk 1 s).1),(tk 1 s).2)
def jF (s:CS):Nat×CS:=((IntKind.u16.wrap (fR (tk 2 s).1)).toNat,(tk 2 s).2)
def aW (s:CS):Int×CS:=AD 8 s
def mN (most:Int) (s:CS):ByteArray×CS :=
 let h:=jF s
 let t:=tk h.1 (h.2.1,h.2.2 || (decide ((h.1:Int)>most)))
 if t.2.2=true then (⟨#[]⟩,(s.1,true)) else (strOf t.1,t.2)
def xP (ad:Option Addr) (c:Nat):Prop:=(∃ b off,ad=some ⟨b,off,none⟩)\/(ad=none/\c=0)
theorem xP.nn (h:xP ad c) (e:ad=none):c=0:=by
 rcases h with⟨b,o,h⟩|h
 ·rw [e] at h;cases h
 ·exact h.2
theorem xP.sub {c n:Nat}(h:xP ad c):xP (eA ad c n 1) (c-n):=by
 rcases h with h|⟨rfl,rfl⟩
 ·exact .inl (Dr h)
 ·refine .inr ⟨?_,za⟩
  unfold eA
  split<;>rfl
theorem rB {α:Type}{w0 w:World}{L:List cA}{ad:Option Addr}{c size:Nat}{e:TypeId}{f:α->Array Value}{l:List α}(hs:St w0 L w) (i:Nat) (hi:L[i]?=some (Sl ad c e size f l)):xP ad c:=by
 have h:w.ownsRow 0 e size (.slice ad l.length c) l.length (l.flatMap λx=>(f x).toList):=hs.at_ i hi
 rcases h.2 with⟨a,b⟩|⟨g,cap,cur,hv,_⟩
 ·simp only [Value.slice.injEq] at a
  exact .inr ⟨a.1,a.2.2⟩
 ·simp only [Value.slice.injEq] at hv
  exact .inl ⟨g,0,hv.1⟩
structure bG (Q:cA) (az:Option Addr) (r:List Int) (cz:Nat):Prop where
 cap:r.length<=cz
 L1:xP az cz
 row:∀ w,Q.holds w->aB w az r.length 1 (λk=>aA (r.getD k 0))
 nV:∀ z∈r,0<=z/\z<256
 len:r.length<=1000000
theorem bG.drop {Q:cA}{az:Option Addr}{r:List Int}{cz:Nat}(h:bG Q az r cz){n:Nat}(hn:n<=r.length):bG Q (eA az cz n 1) (r.drop n) (cz-n) :=
 ⟨by have:=h.cap;rw [List.length_drop];omega,h.L1.sub,λw hw=>aB.yr (h.row w hw) h.cap hn,λz hz=>h.nV z (List.mem_of_mem_drop hz),by have:=h.len;rw [List.length_drop];omega⟩
theorem sr {n:Nat}{r:List Int}{sp:Bool}(h:sp=true\/r.length<n):tk n (r,sp)=([],(r,true)):=if_pos h
theorem qf {n:Nat}{r:List Int}{sp:Bool}(h1:sp=false) (h2:n<=r.length):tk n (r,sp)=(r.take n,(r.drop n,false)):=if_neg (by rw [h1];simp;omega)
theorem HU:∀ (l:List Int),0<=fR l/\fR l<18446744073709551616:=by
 intro l
 rcases List.eq_nil_or_concat l with rfl|⟨q,x,rfl⟩
 ·exact⟨Int.le_refl 0,zf⟩
 ·have e:fR (q++[x])=mL .u64 (dY .u64 (fR q) 8) (IntKind.u64.wrap x):=by simp only [fR,List.foldl_append,List.foldl_cons,List.foldl_nil]
  rw [List.concat_eq_append,e]
  show 0<=IntKind.u64.wrap _/\IntKind.u64.wrap _<_
  exact⟨Int.emod_nonneg _ zf,Int.emod_lt_of_pos _ zf⟩
theorem rC Q r sp n (hQ:∀ w,St w0 L w->Q.holds w) (hq:bG Q az r cz) (hs:St w0 (aC c #[.slice az r.length cz,.bool sp] 173::L) w):Cs Tryz.prog 114 #[zP c 0,.int .i64 (n:Nat)] w λrv w'=>(rv=.slice az ((r.take n).length) cz/\sp=false/\n<=r.length/\St w0 (aC c #[.slice (eA az cz n 1) ((r.drop n).length) (cz-n),.bool false] 173::L) w')\/(rv=.slice none 0 0/\(sp=true\/r.length<n)/\St w0 (aC c #[.slice az r.length cz,.bool true] 173::L) w'):=by
 refine cL Tryz.func114 Tryz.ntmps114 (Zs ?_)
 have hcap:=hq.cap
 refine En (La (Lt (Ls (Lq (LF (Lk (Lt (Ls (Ls (Lg [20] (Dz (gS 0 6 (Hl 4 0 1 hs Hz) (dB 13 sp (λd=>?_) (λd=>?_))))))))))))))
 ·exact En (Lw (Zu 0 1 #[.slice az r.length cz,.bool true] hs λq f=>Lo (Ld (Lt (Ls (Dz (cS (Hl 3 0 1 f Hz) (En (Lt (LT (Lq (Le (Ly (Dz (bL (v:=.slice none 0 0) (.inr (⟨rfl,.inl d,f⟩)))))))))))))))))
 ·refine Zr 6 4 [] (C9 17 ((n:Int)<0) (λo=>?_) (λo=>?_))
  ·exfalso;omega
  ·refine Zj (Hl 14 0 0 hs Hz) (Zu 0 1 #[.slice az r.length cz,.bool (decide ((n:Int)>(r.length:Nat)))] hs λu b=>Lo (Ld (Lt (Ls (Dz (cS (Hl 3 0 1 b Hz) (Zt (Zi ((n:Int)>(r.length:Nat)) (λe=>?_) (λe=>?_)))))))))
   ·refine En (Lq (Le (Ly (Dz (bL (v:=.slice none 0 0) ?_)))))
    rw [decide_eq_true e] at b
    exact .inr (⟨rfl,.inr za,b⟩)
   ·refine Zk (Zt (Zs (cS (Hl 3 0 0 b (Hg 5 (.eJ (.slice az ((r.take n).length) cz) (.sub 0 n)) [.prop ((n:Int)=(n:Int)),.prop (((none:Option Operand)=none->(0:Nat)=0)/\(some (Operand.tmp 36)=none->(n:Nat)=r.length)/\(0:Nat)<=n/\(n:Nat)<=cz),.prop (Value.slice (if cz=0 then az else (az:Option Addr).map (λa=>a.add (0*1))) (n-0) (cz-0)=Value.slice az ((r.take n).length) cz)] (aL za (aL ⟨(by first|(intro _;rfl)|(intro hc;cases hc)),(by first|(intro _;rfl)|(intro hc;cases hc)),za,za⟩ (aL (so zw) aO))) Hz)) (Zt (Zs (bX [9] (Hl 4 0 0 b (Hg 6 (.eJ (.slice (eA az cz n 1) ((r.drop n).length) (cz-n)) (.sub n r.length)) [.prop ((n:Int)=(n:Int)),.prop ((some (Operand.tmp 43)=none->(n:Nat)=0)/\((none:Option Operand)=none->(r.length:Nat)=r.length)/\(n:Nat)<=r.length/\(r.length:Nat)<=cz),.prop (Value.slice (if cz=n then az else (az:Option Addr).map (λa=>a.add (n*1))) (r.length-n) (cz-n)=Value.slice (eA az cz n 1) ((r.drop n).length) (cz-n))] (aL za (aL ⟨(by first|(intro _;rfl)|(intro hc;cases hc)),(by first|(intro _;rfl)|(intro hc;cases hc)),za,za⟩ (aL (rT zw) aO))) Hz)) (Zu 0 0 #[.slice (eA az cz n 1) ((r.drop n).length) (cz-n),.bool (decide ((n:Int)>(r.length:Nat)))] b λx i=>Lo (Ld (Lt (Lq (Le (Dz (bL (v:=.slice az ((r.take n).length) cz) ?_)))))))))))))
    rw [decide_eq_false e] at i
    exact .inl ⟨rfl,d,za,i⟩
theorem wj Q r sp n (hQ:∀ w,St w0 L w->Q.holds w) (hq:bG Q az r cz) (hs:St w0 (aC c #[.slice az r.length cz,.bool sp] 173::L) w):Cs Tryz.prog 115 #[.func (.func 114) #[zP c 0] #[],.int .i64 (n:Nat)] w λrv w'=>∃ vv2 rr2 sp2 az2 cz2,rv=.int .u64 vv2/\AD n (r,sp)=(vv2,(rr2,sp2))/\bG Q az2 rr2 cz2/\St w0 (aC c #[.slice az2 rr2.length cz2,.bool sp2] 173::L) w':=by
 refine cL Tryz.func115 Tryz.ntmps115 (Zs ?_)
 have hrl:=hq.len
 refine En (La (Lt (Ls (Ls (Lg [2] (Lw (Zc (rC Q r sp n (λw h=>hQ w (h.drop 0)) zc hs) ?_)))))))
 rintro x w7 (⟨rfl,f,b,i⟩|⟨rfl,o,q⟩)
 ·refine Lz (Lb (Dz (bH.loop (T:=Nat×Int×(Option Addr)) (λgg=>[(4,.int .u64 gg.2.1),(9,.slice gg.2.2 ((r.take n).length) cz),(10,.int .i64 ((r.take n).length:Nat)),(11,.int .i64 (gg.1:Nat))]) (λgg w=>(gg.1<=(r.take n).length/\gg.2.1=fR ((r.take n).take gg.1)/\∀ w,St w0 L w->aB w gg.2.2 (r.take n).length 1 (λk=>aA ((r.take n).getD k 0)))/\St w0 (aC c #[.slice (eA az cz n 1) ((r.drop n).length) (cz-n),.bool false] 173::L) w) (λgg=>(r.take n).length-gg.1) (0,0,az) [4,9,10,11] zk ⟨⟨Nat.zero_le _,rfl,λw h=>aB.tc (hq.row w (hQ w h)) n b⟩,i⟩ ?_)))
  rintro⟨jj,z,aq⟩ w8 ⟨hp,a⟩
  dsimp only at hp a
  have hw:=hp.2.2
  have htl:(r.take n).length=n:=by rw [List.length_take];omega
  refine En (Lq (Ls (Dz (Zi ((jj:Int)<((r.take n).length:Nat)) (λu=>?_) (λu=>?_)))))
  ·obtain⟨d,e,rfl⟩:=aB.isSome (hw _ (a.drop 1)) za
   exact Zk (Zt (Zs (Zb (Zs (cS (Hx 0 (jj:Int) ((r.take n).length:Int) d e 1 (Hg 1 (.gen [.int .u8 ((r.take n).getD jj 0)]) [.cell ⟨d,e+(jj*1),none⟩ (.int .u8 ((r.take n).getD jj 0))] (bP (aB.dX (hw _ (a.drop 1)) (k:=jj) zo (j:=0) zf zk) aO) Hz)) (Zt (cS (Hg 1 (.shift (dY .u64 z 8)) [.prop ((0:Int)<=8/\IntKind.u64.wrap (z*2 ^ (min (Int.toNat 8) (IntKind.bits .u64)))=dY .u64 z 8)] (aL ⟨(by first|omega|exact bW rfl _),rfl⟩ aO) Hz) (Zm (Zt (cS (dW 0 ((jj:Nat)+1) Hz) (aN.back (jj+1,mL .u64 (dY .u64 z 8) (IntKind.u64.wrap ((r.take n).getD jj 0)),some ⟨d,e,none⟩) [4,9,10,11] zk (by show(r.take n).length-(jj+1)<(r.take n).length-jj;omega) ⟨⟨za,by rw [ru za,<- hp.2.1],hw⟩,a⟩)))))))))))
  ·have hke:jj=(r.take n).length:=za
   exact En (Lx (kD (kE (Lh (Lt (Lq (Le (Dz (bL (v:=.int .u64 z) ⟨fR (r.take n),r.drop n,false,eA az cz n 1,(cz-n),(by rw [hp.2.1,hke,List.take_length]),(show(fR (tk n (r,sp)).1,(tk n (r,sp)).2)=_ by rw [qf f b]),hq.drop b,a⟩)))))))))
 ·exact Lz (Lb (Dz (bH.tY 1 (En (Lq (Ls (LF (Lx (kD (kE (Lh (Lt (Lq (Le (Dz (bL (v:=.int .u64 0) ⟨0,r,true,az,cz,rfl,(show(fR (tk n (r,sp)).1,(tk n (r,sp)).2)=_ by rw [sr o];rfl),hq,q⟩))))))))))))))))
theorem cC {s:CS}{v:Int}{s2:CS}(h:aW s=(v,s2)):0<=v/\v<18446744073709551616:=by
 have a:(aW s).1=v:=by rw [h]
 rw [<- a]
 exact HU _
theorem gT {s:CS}{v:Int}{s2:CS}(h:cG s=(v,s2)):0<=v/\v<256:=by
 have a:(cG s).1=v:=by rw [h]
 rw [<- a]
 show 0<=fR _ % 256/\fR _ % 256<256
 omega
theorem lV {s:CS}{v:Nat}{s2:CS}(h:jF s=(v,s2)):v<65536:=by
 have a:(jF s).1=v:=by rw [h]
 rw [<- a]
 show(fR _ % 65536).toNat<65536
 omega
theorem bT Q r sp (hQ:∀ w,St w0 L w->Q.holds w) (hq:bG Q az r cz) (hs:St w0 (aC c #[.slice az r.length cz,.bool sp] 173::L) w):Cs Tryz.prog 61 #[zP c 0] w λrv w'=>∃ vv2 rr2 sp2 az2 cz2,rv=.int .u64 vv2/\aW (r,sp)=(vv2,(rr2,sp2))/\(0<=vv2/\vv2<18446744073709551616)/\bG Q az2 rr2 cz2/\St w0 (aC c #[.slice az2 rr2.length cz2,.bool sp2] 173::L) w':=by
 refine cL Tryz.func61 Tryz.ntmps61 (En (Lq (Lq (Ls (Lg [1] (Lw (Zc (wj Q r sp 8 (λw h=>hQ w (h.drop 0)) zc hs) ?_)))))))
 rintro q u ⟨a,rr2,d,e,f,rfl,b,i,o⟩
 exact Lz (Le (Dz (bL (v:=.int .u64 a) ⟨a,rr2,d,e,f,rfl,b,cC b,i,o⟩)))
theorem gD Q r sp (hQ:∀ w,St w0 L w->Q.holds w) (hq:bG Q az r cz) (hs:St w0 (aC c #[.slice az r.length cz,.bool sp] 173::L) w):Cs Tryz.prog 154 #[zP c 0] w λrv w'=>∃ vv2 rr2 sp2 az2 cz2,rv=.int .u8 vv2/\cG (r,sp)=(vv2,(rr2,sp2))/\(0<=vv2/\vv2<256)/\bG Q az2 rr2 cz2/\St w0 (aC c #[.slice az2 rr2.length cz2,.bool sp2] 173::L) w':=by
 refine cL Tryz.func154 Tryz.ntmps154 (En (Lq (Lq (Ls (Lg [1] (Lw (Zc (wj Q r sp 1 (λw h=>hQ w (h.drop 0)) zc hs) ?_)))))))
 rintro u x ⟨b,rr2,d,e,f,rfl,i,o,q⟩
 refine Lz (Le (Dz (bL (v:=.int .u8 (IntKind.u8.wrap b)) ?_)))
 obtain⟨ha,hb⟩:fR (tk 1 (r,sp)).1=b/\(tk 1 (r,sp)).2=(rr2,d):=by
  have a:=i
  unfold AD at a
  exact Prod.mk.inj a
 have a:cG (r,sp)=(IntKind.u8.wrap b,(rr2,d)):=by unfold cG;rw [ha,hb]
 exact⟨IntKind.u8.wrap b,rr2,d,e,f,rfl,a,(gT a),o,q⟩
theorem pJ Q r sp (hQ:∀ w,St w0 L w->Q.holds w) (hq:bG Q az r cz) (hs:St w0 (aC c #[.slice az r.length cz,.bool sp] 173::L) w):Cs Tryz.prog 63 #[zP c 0] w λrv w'=>∃ nn2 rr2 sp2 az2 cz2,rv=.int .u16 (nn2:Nat)/\jF (r,sp)=(nn2,(rr2,sp2))/\nn2<65536/\bG Q az2 rr2 cz2/\St w0 (aC c #[.slice az2 rr2.length cz2,.bool sp2] 173::L) w':=by
 refine cL Tryz.func63 Tryz.ntmps63 (En (Lq (Lq (Ls (Lg [1] (Lw (Zc (wj Q r sp 2 (λw h=>hQ w (h.drop 0)) zc hs) ?_)))))))
 rintro x z ⟨a,rr2,d,e,f,rfl,i,o,q⟩
 refine Lz (Le (Dz (bL (v:=.int .u16 (IntKind.u16.wrap a)) ?_)))
 obtain⟨ha,hb⟩:fR (tk 2 (r,sp)).1=a/\(tk 2 (r,sp)).2=(rr2,d):=by
  have b:=i
  unfold AD at b
  exact Prod.mk.inj b
 have b:jF (r,sp)=((IntKind.u16.wrap a).toNat,(rr2,d)):=by unfold jF;rw [ha,hb]
 have u:0<=IntKind.u16.wrap a:=Int.emod_nonneg _ zf
 exact⟨(IntKind.u16.wrap a).toNat,rr2,d,e,f,(by rw [Int.toNat_of_nonneg u]),b,lV b,o,q⟩
theorem iQ (r:List Int) (sp:Bool) (hs:St w0 (aC c #[.slice az r.length cz,.bool sp] 173::L) w):Cs Tryz.prog 64 #[zP c 0] w λrv w'=>rv=.bool (!sp)/\St w0 (aC c #[.slice az r.length cz,.bool sp] 173::L) w':=by
 exact cL Tryz.func64 Tryz.ntmps64 (En (Lq (Ls (Dz (cS (Hl 6 0 1 hs Hz) (Zt (Ze (bL (v:=.bool (!sp)) ⟨rfl,hs⟩))))))))
theorem pK (r:List Int) (sp:Bool) (hs:St w0 (aC c #[.slice az r.length cz,.bool sp] 173::L) w):Cs Tryz.prog 102 #[zP c 0] w λrv w'=>rv=.int .i64 (r.length:Nat)/\St w0 (aC c #[.slice az r.length cz,.bool sp] 173::L) w':=by
 exact cL Tryz.func102 Tryz.ntmps102 (En (Lq (Ls (Lq (LF (Lk (Lt (Ls (Dz (cS (Hl 3 0 0 hs Hz) (Zt (Ze (bL (v:=.int .i64 (r.length:Nat)) ⟨rfl,hs⟩)))))))))))))
end
section
variable {w0 w : World} {L : List cA} {ad : Option Addr} {c : Nat} {az : Option Addr} {cz : Nat} {ay : Option Addr} {cy : Nat} {ax : Option Addr} {cx : Nat} {ab : Nat} {aoff : Nat} {ca : Nat}
theorem B1 {ac:Nat}l (hl:l.length<=1000000000) (hrow:Rw w0 L aA 1 0 (some ⟨ab,aoff,none⟩) l) (hs:St w0 L w):Cs Tryz.prog 113 #[zL ab aoff l.length ac] w λrv w'=>∃ ao co,rv=.slice ao l.length co/\St w0 (Sl ao co 5 1 aA l::L) w':=by
 refine cL Tryz.func113 Tryz.ntmps113 (En (Lq (Ls (Lq (LF (Lk (Lt (Ls (Lg [0,2] (Dz (aU.nL rfl zk (t:=25) (e:=5) zk zk (ti:=Tryz.t5) zk hs λa o q u=>?_)))))))))))
 have b:St w0 (Sl (some ⟨a,0,none⟩) 0 5 1 aA ([]:List Int)::L) o:=St.lS (l:=([]:List Int)) (f:=aA) q u aF.size zl zk
 exact Lo (Lw (aU.append rfl zk aP aF (ad:=some ⟨a,0,none⟩) (c:=0) (xs:=([]:List Int)) (ys:=l) (adx:=some ⟨ab,aoff,none⟩) (cx:=ac) (0:Int) zk b (hrow _ (b.drop 1)) (λh=>nomatch h) (by simp only [List.length_nil];omega) (by simp only [List.length_nil];omega) λd i z x=>Lz (Le (Dz (bL (v:=.slice d l.length i) ⟨d,i,zG,x⟩)))))
theorem qy l (hl:l.length<=1000000000) (hsm:xP ad c) (hr:Rw w0 L aA 1 0 ad l) (hs:St w0 L w) :
 Cs Tryz.prog 113 #[.slice ad l.length c] w λrv w'=>∃ ao co,rv=.slice ao l.length co/\St w0 (Sl ao co 5 1 aA l::L) w':=by
 rcases hsm with⟨b,off,rfl⟩|⟨rfl,rfl⟩
 ·exact B1 l hl hr hs
 ·have a:l=[]:=by
   cases l with
   | nil=>rfl
   | cons x q=>obtain⟨b,off,e⟩:=aB.isSome (hr _ hs) (Nat.succ_pos _);cases e
  subst a
  refine Calls.ret (ov hs) ?_
  rintro v d ⟨rfl,h⟩
  exact⟨none,0,rfl,St.bJ h 5 1 aA⟩
theorem wk (l:List Int):(strOf l).size=l.length:=by
 show((l.map jR).toArray).size=_
 simp
theorem ss {l:List Int}(h:∀ z∈l,0<=z/\z<256):cV (strOf l)=l:=by
 unfold strOf cV
 simp only [List.map_map]
 conv=>rhs;rw [<- List.map_id l]
 exact List.map_congr_left λz hz=>pH (h z hz).1 (h z hz).2
theorem ua {most:Int}{s:CS}{n:Nat}{r1:List Int}{p1:Bool}(h:jF s=(n,(r1,p1))) (hb:(p1 || decide ((n:Int)>most))=true\/r1.length<n):mN most s=(⟨#[]⟩,(s.1,true)):=by
 unfold mN
 rw [h]
 simp only []
 rw [sr hb]
 rfl
theorem wm {most:Int}{s:CS}{n:Nat}{r1:List Int}(h:jF s=(n,(r1,false))) (hm:(n:Int)<=most) (hn:n<=r1.length):mN most s=(strOf (r1.take n),(r1.drop n,false)):=by
 unfold mN
 rw [h]
 simp only []
 rw [qf (by simp;omega) hn]
 rfl
theorem nB Q r sp most (hQ:∀ w,St w0 L w->Q.holds w) (hq:bG Q az r cz) (hs:St w0 (aC c #[.slice az r.length cz,.bool sp] 173::L) w):Cs Tryz.prog 216 #[zP c 0,.int .i64 most] w λrv w'=>∃ ss2 rr2 sp2 az2 cz2,rv=.string ss2/\mN most (r,sp)=(ss2,(rr2,sp2))/\bG Q az2 rr2 cz2/\St w0 (aC c #[.slice az2 rr2.length cz2,.bool sp2] 173::L) w':=by
 refine cL Tryz.func216 Tryz.ntmps216 (En (Lq (Ls (Lq (LF (Lk (Lt (Ls (Dz (cS (Hl 3 0 0 hs Hz) (En (Lt (Ls (Lg [1] (Lw (Zc (pJ Q r sp (λw h=>hQ w (h.drop 0)) hq hs) ?_))))))))))))))))
 rintro b5 b6 ⟨a,rr2,b,q,o,rfl,u,b7,x,a0⟩
 refine BS (dW 2 (a:Nat) Hz) (Zt (Zs (Zs (bH.join (T:=Unit) (E:=λ_=>[(26,.bool ((!b) && (decide ((a:Int)>most)))),(6,.int .i64 (a:Nat)),(5,.slice az r.length cz),(4,.string aR),(0,zP c 0)]) (F:=λ_ w=>St w0 (aC c #[.slice q rr2.length o,.bool b] 173::L) w) ?_ ?_))))
 ·refine Zg [] (gS 0 6 (Hl 3 0 1 a0 Hz) ?_)
  rcases Bool.eq_false_or_eq_true (!b) with d|d
  ·exact py 22 true d (En (bO (Dz (gB [26,6,5,4,0] () (decide ((a:Int)>most)) (by first|rfl|simp [Hb,d,jV d]) a0))))
  ·exact py 22 false d (En (bO (Dz (gB [26,6,5,4,0] () false (by first|rfl|simp [Hb,d,jN d]) a0))))
 intro _ b8 a3
 refine Zt (cZ (t:=(!b) && (decide ((a:Int)>most))) (λi=>?_) (λi=>?_))
 ·have a8:=(Bool.and_eq_true_iff.1 i).1
  have a9:(decide ((a:Int)>most))=true:=(Bool.and_eq_true_iff.1 i).2
  refine En (Lg [3] (Lw (Zu 0 1 #[.slice q rr2.length o,.bool true] a3 λc1 b0=>Lo (Ld (Lt (Ls (Lg [2] (Lw (Zc (rC Q rr2 true a (λw h=>hQ w (h.drop 0)) x b0) ?_)))))))))
  rintro c2 c3 (⟨rfl,b1,c4,c5⟩|⟨rfl,c6,a4⟩)
  ·cases b1
  ·exact Lz (Ls (Ls (Dz (cS (Hl 3 0 1 a4 Hz) (En (Lt (LT (Ls (Lg [4] (Lw (Zu 0 0 #[.slice az r.length cz,.bool true] a4 λc7 b2=>Lo (Ld (Lt (Lq (Le (Ly (Dz (bL (v:=.string aR) ⟨⟨#[]⟩,r,true,az,cz,rfl,ua u (.inl (by rw [Bool.and_eq_true] at i;rw [i.2,Bool.or_true])),hq,b2⟩))))))))))))))))))
 ·refine En (Lk (Lt (Ls (Lg [2] (Lw (Zc (rC Q rr2 b a (λw h=>hQ w (h.drop 0)) x a3) ?_))))))
  rintro c8 c9 (⟨rfl,a5,a6,a2⟩|⟨rfl,b3,a7⟩)
  ·exact Lz (Ls (Ls (Dz (cS (Hl 3 0 1 a2 Hz) (En (Lt (LF (Lk (Lt (Ls (Lg [] (Dz (Zr 0 1 [] (aU.fT rfl zk (src:=25) (dst:=9) (e:=5) (ad:=q) (n:=(rr2.take a).length) (cap:=o) (f:=aA) rfl (rr2.take a) rfl zk zk zk zk (λz hz=>bG.nV (by assumption) z (List.mem_of_mem_take hz)) (aB.tc (x.row _ (hQ _ (a2.drop 1))) _ za) (En (bO (Lt (Le (Dz (bL (v:=.string (strOf (rr2.take a))) ⟨strOf (rr2.take a),rr2.drop a,false,eA q o a 1,o-a,rfl,wm (a5▸u) (by rw [a5] at i;simp at i;omega) a6,bG.drop (by assumption) a6,a2⟩))))))))))))))))))))
  ·exact Lz (Ls (Ls (Dz (cS (Hl 3 0 1 a7 Hz) (En (Lt (LT (Ls (Lg [4] (Lw (Zu 0 0 #[.slice az r.length cz,.bool true] a7 λd0 b4=>Lo (Ld (Lt (Lq (Le (Ly (Dz (bL (v:=.string aR) ⟨⟨#[]⟩,r,true,az,cz,rfl,ua u (b3.elim (λh=>.inl (by rw [h];rfl)) .inr),hq,b4⟩))))))))))))))))))
theorem mO Q r sp n (hQ:∀ w,St w0 L w->Q.holds w) (hq:bG Q az r cz) (hs:St w0 (aC c #[.slice az r.length cz,.bool sp] 173::L) w):Cs Tryz.prog 62 #[zP c 0,.int .i64 (n:Nat)] w λrv w'=>∃ ao2 co2 ll2 rr2 sp2 az2 cz2,rv=.slice ao2 ll2.length co2/\tk n (r,sp)=(ll2,(rr2,sp2))/\bG Q az2 rr2 cz2/\St w0 (Sl ao2 co2 5 1 aA ll2::aC c #[.slice az2 rr2.length cz2,.bool sp2] 173::L) w':=by
 refine cL Tryz.func62 Tryz.ntmps62 (En (Lq (Ls (Lg [2,3] (Lw (Zc (rC Q r sp n (λw h=>hQ w (h.drop 0)) hq hs) ?_))))))
 rintro v6 w7 (⟨rfl,e,a,i⟩|⟨rfl,o,q⟩)
 ·refine Lo (Dz (dE (f:=113) (args:=#[.slice az ((r.take n).length) cz]) Tryz.call113 (qy (r.take n) (by have:=hq.len;rw [List.length_take];omega) hq.L1 (λw h=>aB.tc (hq.row w (hQ w (h.drop 1))) _ za) i) ?_))
  rintro a0 a1 ⟨b,d,rfl,u⟩
  exact Lz (Le (Dz (bL (v:=.slice b ((r.take n).length) d) ⟨b,d,r.take n,r.drop n,false,eA az cz n 1,cz-n,rfl,qf e a,hq.drop a,u⟩)))
 ·exact Lo (Dz (eE (ov q) λa3 x=>Lz (Le (Dz (bL (v:=.slice none 0 0) ⟨none,0,([]:List Int),r,true,az,cz,rfl,sr o,hq,St.bJ x 5 1 aA⟩)))))
theorem mP F (hFl:F.length<=1000000000) (hsm:xP ad ca) (hr:Rw w0 L aA 1 0 ad F) (hs:St w0 L w):Cs Tryz.prog 60 #[.slice ad F.length ca] w λrv w'=>∃ cc ao co,rv=zP cc 0/\St w0 (aC cc #[.slice ao F.length co,.bool false] 173::Sl ao co 5 1 aA F::L) w':=by
 refine cL Tryz.func60 Tryz.ntmps60 (En (Lq (Ls (Lg [1,3] (Lw (dE (f:=113) (args:=#[.slice ad F.length ca]) Tryz.call113 (qy F zc zc (λw h=>hr _ (h.drop 0)) hs) ?_))))))
 rintro o q ⟨a,b,rfl,e⟩
 exact Lo (Lw (hG #[.slice a F.length b,.bool false] e λd u i=>Lz (Le (Dz (bL (v:=zP d 0) ⟨d,a,b,rfl,i⟩)))))
theorem bG.new {ao:Option Addr}{co j:Nat}{F:List Int}(hs:St w0 L w) (hj:L[j]?=some (Sl ao co 5 1 aA F)) (hb:∀ z∈F,0<=z/\z<256) (hl:F.length<=1000000):bG (Sl ao co 5 1 aA F) ao F co :=
 ⟨Sl.cap (hs.at_ j hj),rB hs j hj,λw h=>Sl.rows aF.size h (0:Int),hb,hl⟩
theorem ub {x y:List Int}(hx:∀ z∈x,0<=z/\z<256) (hy:∀ z∈y,0<=z/\z<256) (h:strOf x=strOf y):x=y:=by
 have a:=congrArg cV h
 rw [ss hx,ss hy] at a
 exact a
theorem FZ {x y:List Int}(hx:∀ z∈x,0<=z/\z<256) (hy:∀ z∈y,0<=z/\z<256):decide (strOf x=strOf y)=decide (x=y):=by
 by_cases h:x=y
 ·subst h;simp
 ·rw [decide_eq_false h,decide_eq_false λa=>h (ub hx hy a)]
theorem pL x y (hbx:∀ z∈x,0<=z/\z<256) (hby:∀ z∈y,0<=z/\z<256) (hr1:Rw w0 L aA 1 0 ax x) (hr2:Rw w0 L aA 1 0 ay y) (hs:St w0 L w):Cs Tryz.prog 66 #[.slice ax x.length cx,.slice ay y.length cy] w λrv w'=>rv=.bool (decide (x=y))/\St w0 L w':=by
 exact cL Tryz.func66 Tryz.ntmps66 (En (Lq (Ls (Lg [] (Dz (Zr 0 1 [] (aU.fT rfl zk (src:=25) (dst:=9) (e:=5) (ad:=ax) (n:=x.length) (cap:=cx) (f:=aA) rfl x rfl zk zk zk zk hbx (hr1 _ (hs.drop 0)) (Zr 2 1 [] (aU.fT rfl zk (src:=25) (dst:=9) (e:=5) (ad:=ay) (n:=y.length) (cap:=cy) (f:=aA) rfl y rfl zk zk zk zk hby (hr2 _ (hs.drop 0)) (lD (Hg 4 (.eJ (.bool (decide ((strOf x)=(strOf y)))) (.gen [])) [.prop (Value.bool ((strOf x).toList == (strOf y).toList)=Value.bool (decide ((strOf x)=(strOf y))))] (aL (seq _ _) aO) Hz) (Zt (Ze (bL (v:=.bool (decide ((strOf x)=(strOf y)))) ⟨(by rw [FZ hbx hby]),hs⟩)))))))))))))
end
section
variable {w0 w : World} {L : List cA} {ad : Option Addr} {c : Nat}
theorem B3 (n:Int) (x:Nat) (h:x<8):AA n x++[IntKind.u8.wrap (bF .u64 n (IntKind.u64.wrap (8*(7-(x:Nat)))))]=AA n (x+1):=by
 rw [td,show IntKind.u64.wrap (8*(7-(x:Nat)))=8*(7-(x:Nat)) from kn za za]
 rfl
theorem Du l n (hl:l.length<=900000) (hn:0<=n/\n<=18446744073709551615) (hs:St w0 (Sl ad c 5 1 aA l::L) w):Cs Tryz.prog 111 #[.slice ad l.length c,.int .u64 n,.int .i64 8] w λrv w'=>∃ ao co,rv=.slice ao ((l++wd n).length) co/\St w0 (Sl ao co 5 1 aA (l++wd n)::L) w':=by
 refine cL Tryz.func111 Tryz.ntmps111 (En (Lq (Ls (Lg [0,2] (Dz (aU.nL rfl zk (t:=25) (e:=5) zk zk (ti:=Tryz.t5) zk hs λd i o u=>?_))))))
 have a:St w0 (Sl (some ⟨d,0,none⟩) 0 5 1 aA ([]:List Int)::Sl ad c 5 1 aA l::L) i:=St.lS (l:=([]:List Int)) (f:=aA) o u aF.size zl zk
 refine Lo (Lw (aU.append rfl zk aP aF (ad:=some ⟨d,0,none⟩) (c:=0) (xs:=([]:List Int)) (ys:=l) (adx:=ad) (cx:=c) (0:Int) zk a (a.rows 1 rfl aF.size (0:Int)) (a.dI 1 rfl) (by first|(simp only [List.length_nil];omega)|(rw [hp.2.2,List.length_append,iP];simp only [List.length_cons,List.length_nil];omega)) (by first|(simp only [List.length_nil];omega)|(rw [hp.2.2,List.length_append,iP];simp only [List.length_cons,List.length_nil];omega)) λa0 c9 w6 a1=>Lz (Ls (Lq (Lb (Dz ?_))))))
 have a2:=(a1.pl 0).pl 1
 refine bH.loop (T:=Nat×Int×(List Int)×(Option Addr)×Nat) (λgg=>[(1,.int .u64 n),(6,.slice none 0 0),(7,.slice gg.2.2.2.1 gg.2.2.1.length gg.2.2.2.2),(8,.int .i64 gg.2.1)]) (λgg w=>(gg.1<=8/\gg.2.1=7-(gg.1:Nat)/\gg.2.2.1=l++AA n gg.1)/\St w0 (Sl gg.2.2.2.1 gg.2.2.2.2 5 1 aA gg.2.2.1::L) w) (λgg=>8-gg.1) (0,7,l,a0,c9) [1,6,7,8] zk ⟨⟨by first|omega|(simp only;omega),by first|omega|(simp only;omega),by simp [AA]⟩,a2.dr 1⟩ ?_
 rintro⟨x,z,q,ad,c⟩ b3 ⟨hp,b⟩
 dsimp only at hp b
 refine En (Ls (Lq (Dz (Zi ((z:Int) >= 0) (λa4=>?_) (λa4=>?_)))))
 ·refine Zk (Zt (Zs (Zb (bX [7,8] (dW 3 (8*z) (Hg 5 (.shift (bF .u64 n (IntKind.u64.wrap (8*z)))) [.prop ((0:Int)<=IntKind.u64.wrap (8*z)/\Int.fdiv n (2 ^ (min (Int.toNat (IntKind.u64.wrap (8*z))) (IntKind.bits .u64)))=bF .u64 n (IntKind.u64.wrap (8*z)))] (aL ⟨(by first|omega|exact bW rfl _),rfl⟩ aO) Hz)) (tQ aP aF [(IntKind.u8.wrap (bF .u64 n (IntKind.u64.wrap (8*z))):Int)] b λb4 b5 a5=>Lo (Dz (oV aP aF (0:Int) (a5.pl 1) (by first|(simp only [List.length_nil];omega)|(rw [hp.2.2,List.length_append,iP];simp only [List.length_cons,List.length_nil];omega)) λa7 a8 b6 a9=>Lo (bO (Lm (Lt (Dz (cS (dW 1 (z-1) Hz) ?_))))))))))))
  have b0:=(a9.pl 0).pl 1
  exact aN.back (x+1,z-1,q++([(IntKind.u8.wrap (bF .u64 n (IntKind.u64.wrap (8*z))):Int)]),a7,a8) [1,6,7,8] zk (by show 8-(x+1)<8-x;omega) ⟨(by refine⟨by first|omega|(simp only;omega),by first|omega|(simp only;omega),?_⟩;rw [hp.2.2,List.append_assoc,hp.2.1];exact congrArg (l++·) (B3 n x za)),b0.dr 1⟩
 ·refine En (Lx (kD (kE (Lh (Lt (Lq (Le (Dz (bL (v:=.slice ad q.length c) ?_)))))))))
  have hx:x=8:=za
  have hq:q=l++wd n:=by rw [hp.2.2,hx];rfl
  subst hq
  exact⟨ad,c,rfl,b⟩
theorem E0 {l:List Int}{n:Int}(h:0<=n/\n<65536):(l++([(IntKind.u8.wrap (bF .u64 n 8):Int)]))++([(IntKind.u8.wrap (bF .u64 n 0):Int)])=l++hf n:=by
 obtain⟨m,rfl⟩:∃ m:Nat,n=m:=⟨n.toNat,za⟩
 have a:∀ k:Nat,k<=16->bF .u64 (m:Int) (k:Nat)=bF .u16 (m:Int) (k:Nat):=λk hk=>by
  show(m:Int).fdiv (2 ^ (min (Int.toNat (k:Int)) 64))=(m:Int).fdiv (2 ^ (min (Int.toNat (k:Int)) 16))
  rw [Int.toNat_natCast,Nat.min_eq_left za,Nat.min_eq_left za]
 have b:=a 8 za
 have d:=a 0 za
 simp only [hf,List.append_assoc,List.cons_append,List.nil_append]
 rw [show bF .u64 (m:Int) 8=bF .u16 (m:Int) 8 from b,show bF .u64 (m:Int) 0=bF .u16 (m:Int) 0 from d]
theorem zy {p:Prop}(h:p:=by first|omega|(simp only [List.length_append,List.length_cons,List.length_nil,aZ,fU,rz,bY] at *;omega)):p:=h
theorem Dv l n (hl:l.length<=900000) (hn:0<=n/\n<65536) (hs:St w0 (Sl ad c 5 1 aA l::L) w):Cs Tryz.prog 111 #[.slice ad l.length c,.int .u64 n,.int .i64 2] w λrv w'=>∃ ao co,rv=.slice ao ((l++hf n).length) co/\St w0 (Sl ao co 5 1 aA (l++hf n)::L) w':=by
 refine cL Tryz.func111 Tryz.ntmps111 (En (Lq (Ls (Lg [0,2] (Dz (aU.nL rfl zk (t:=25) (e:=5) zk zk (ti:=Tryz.t5) zk hs λb o q u=>?_))))))
 have a:St w0 (Sl (some ⟨b,0,none⟩) 0 5 1 aA ([]:List Int)::Sl ad c 5 1 aA l::L) o:=St.lS (l:=([]:List Int)) (f:=aA) q u aF.size zl zk
 refine Lo (Lw (aU.append rfl zk aP aF (ad:=some ⟨b,0,none⟩) (c:=0) (xs:=([]:List Int)) (ys:=l) (adx:=ad) (cx:=c) (0:Int) zk a (a.rows 1 rfl aF.size (0:Int)) (a.dI 1 rfl) zy zy λa7 c9 w6 x=>Lz (Ls (Lq (Lb (Dz (bH.tY 3 (En (Ls (Lq (LT (Lk (Lt (Ls (Lb (Dz (bX [7,8] (Hg 5 (.shift (bF .u64 n 8)) [.prop ((0:Int)<=8/\Int.fdiv n (2 ^ (min (Int.toNat 8) (IntKind.bits .u64)))=bF .u64 n 8)] (aL ⟨(by first|omega|exact bW rfl _),rfl⟩ aO) Hz) (tQ aP aF [(IntKind.u8.wrap (bF .u64 n 8):Int)] x λa8 a9 z=>Lo (Dz (oV aP aF (0:Int) (z.pl 1) zy λb0 b2 b3 a1=>Lo (bO (Lm (Lt (La (Dz (aN.again (En (Ls (Lq (LT (Lk (Lt (Ls (Lb (Dz (bX [7,8] (Hg 5 (.shift (bF .u64 n 0)) [.prop ((0:Int)<=0/\Int.fdiv n (2 ^ (min (Int.toNat 0) (IntKind.bits .u64)))=bF .u64 n 0)] (aL ⟨(by first|omega|exact bW rfl _),rfl⟩ aO) Hz) (tQ aP aF [(IntKind.u8.wrap (bF .u64 n 0):Int)] a1 λb4 b5 a2=>Lo (Dz (oV aP aF (0:Int) (a2.pl 1) zy λd i b6 a4=>Lo (bO (Lm (Lt (La (Dz (aN.again (En (Ls (Lq (LF (Lx (kD (kE (Lh (Lt (Lq (Le (Dz (bL (v:=.slice d (((l++([(IntKind.u8.wrap (bF .u64 n 8):Int)]))++([(IntKind.u8.wrap (bF .u64 n 0):Int)])).length) i) ?_))))))))))))))))))))))))))))))))))))))))))))))))))))))))))
 have a5:=(((a4.pl 0).pl 3).pl 3).pl 3
 exact⟨d,i,by rw [E0 hn],by rw [<- E0 hn];exact(a5.dr 3)⟩
theorem zJ {p:Prop}(h:p:=by first|omega|(simp only [List.length_append,List.length_cons,List.length_nil,aZ,fU] at *;omega)):p:=h
theorem gK l n (hl:l.length<=900000) (hn:0<=n/\n<=18446744073709551615) (hs:St w0 (Sl ad c 5 1 aA l::L) w):Cs Tryz.prog 56 #[.slice ad l.length c,.int .u64 n] w λrv w'=>∃ ao co,rv=.slice ao ((l++wd n).length) co/\St w0 (Sl ao co 5 1 aA (l++wd n)::L) w':=by
 refine cL Tryz.func56 Tryz.ntmps56 (En (Lq (Ls (Lg [2] (Lw (Zc (Du l n zJ zc hs) ?_))))))
 rintro e f ⟨a,b,rfl,d⟩
 exact Lz (Le (Dz (bL (v:=.slice a ((l++wd n).length) b) ⟨a,b,rfl,d⟩)))
theorem su l n (hl:l.length<=900000) (hn:0<=n/\n<65536) (hs:St w0 (Sl ad c 5 1 aA l::L) w):Cs Tryz.prog 57 #[.slice ad l.length c,.int .u16 n] w λrv w'=>∃ ao co,rv=.slice ao ((l++hf n).length) co/\St w0 (Sl ao co 5 1 aA (l++hf n)::L) w':=by
 refine cL Tryz.func57 Tryz.ntmps57 (En (Lq (Ls (Dz (bX [3] (tP 2 n Hz) (Zc (Dv l n zJ zc hs) ?_))))))
 rintro e f ⟨a,b,rfl,d⟩
 exact Lz (Le (Dz (bL (v:=.slice a ((l++hf n).length) b) ⟨a,b,rfl,d⟩)))
theorem pM l s (hl:l.length<=800000) (hsz:s.size<65536) (hs:St w0 (Sl ad c 5 1 aA l::L) w):Cs Tryz.prog 159 #[.slice ad l.length c,.string s] w λrv w'=>∃ ao co,rv=.tuple #[.slice ao ((l++tx s).length) co,.int .i64 0]/\St w0 (Sl ao co 5 1 aA (l++tx s)::L) w':=by
 refine cL Tryz.func159 Tryz.ntmps159 (En (Lq (Ls (Lq (Dz (Zi ((s.size:Int)>65535) (λd=>?_) (λd=>?_)))))))
 ·exfalso;omega
 ·refine Zk (Zt (Zs (bX [4,6] (Hg 3 (.eJ (.int .u16 (s.size:Nat)) (.gen [])) [.prop (Value.int .u16 (IntKind.u16.wrap (s.size:Nat))=Value.int .u16 (s.size:Nat))] (aL (vW za za) aO) Hz) (Zc (su l (s.size:Nat) za za hs) ?_))))
  rintro x z ⟨e,i,rfl,o⟩
  exact Lo (Lw (aU.rr rfl zk aP (u:=9) zk (f:=aA) rfl (ad:=e) (c:=i) (xs:=l++hf (s.size:Nat)) (s:=s) zk o (by simp only [List.length_append,fU];omega) λa b w7 q=>Lz (Le (Dz (om (v:=.slice a (((l++hf (s.size:Nat))++cV s).length) b) (v':=.int .i64 0) ⟨a,b,by rw [(show(l++hf (s.size:Nat))++cV s=l++tx s from List.append_assoc ..)],by rw [<- (show(l++hf (s.size:Nat))++cV s=l++tx s from List.append_assoc ..)];exact q⟩)))))
end
section
variable {w0 w : World} {L : List cA} {c : Nat} {az : Option Addr} {cz : Nat}
def ow (s:CS):bI×CS:=(oN (tk 32 s).1,(tk 32 s).2)
theorem wq (n:Nat) (s:CS):(tk n s).1.length<=n:=by
 unfold tk
 split
 ·exact Nat.zero_le _
 ·rw [List.length_take];omega
theorem lW {n:Nat}{s:CS}(h:∀ z∈s.1,0<=z/\z<256):∀ z∈(tk n s).1,0<=z/\z<256:=by
 unfold tk
 split
 ·intro z hz;cases hz
 ·exact λz hz=>h z (List.mem_of_mem_take hz)
theorem L2 {l:List Int}(h:l.length<=32):af aA (mX (List.replicate 32 (0:Int)) 0 (l.take (min l.length 32)))=bI.cells (oN l):=by
 have a:l.take (min l.length 32)=l:=List.take_of_length_le za
 have b:mX (List.replicate 32 (0:Int)) 0 l=(l++List.replicate 32 0).take 32:=by
  show List.take 0 _++l++List.drop (0+l.length) _=_
  rw [List.take_zero,List.nil_append,List.drop_replicate,List.take_append,List.take_of_length_le h,List.take_replicate]
  congr 2
  omega
 rw [a,b,bI.JX,ry]
 apply Array.ext'
 show((l++List.replicate 32 0).take 32).map (Value.int .u8)=(((l++List.replicate 32 0).take 32).toArray.map (Value.int .u8)).toList
 simp
theorem wu (l:List Int):(mX (List.replicate 32 (0:Int)) 0 (l.take (min l.length 32))).length=32:=by rw [uT zI,List.length_replicate]
theorem te {l:List Int}(h:∀ z∈l,0<=z/\z<256):∀ z∈(oN l).toList,0<=z/\z<256:=by
 intro z hz
 have e:(oN l).toList=(l++List.replicate 32 0).take 32:=by
  show(((l++List.replicate 32 0).take 32).toArray).toList=_
  simp
 rw [e] at hz
 rcases List.mem_append.1 (List.mem_of_mem_take hz) with a|a
 ·exact h z a
 ·rw [List.eq_of_mem_replicate a];omega
theorem rD Q r sp (hQ:∀ w,St w0 L w->Q.holds w) (hq:bG Q az r cz) (hs:St w0 (aC c #[.slice az r.length cz,.bool sp] 173::L) w):Cs Tryz.prog 117 #[zP c 0] w λrv w'=>∃ dd2 rr2 sp2 az2 cz2,rv=.agg (bI.cells dd2)/\ow (r,sp)=(dd2,(rr2,sp2))/\(∀ z∈dd2.toList,0<=z/\z<256)/\bG Q az2 rr2 cz2/\St w0 (aC c #[.slice az2 rr2.length cz2,.bool sp2] 173::L) w':=by
 refine cL Tryz.func117 Tryz.ntmps117 (En (Ls (Lg [0] (Dz (eN (af aA (List.replicate 32 (0:Int))) hs λe w2 a4=>Lo (Ld (Lt (Ls (Dz (ZD (eR [0,1] (.ef 2 (.ef 3 .done))) a4 λw4 a5 b0=>Zj (Hg 0 (.eJ (zL e 0 32 32) (.sub 0 32)) [.prop (((none:Option Operand)=none->(0:Nat)=0)/\((none:Option Operand)=none->(32:Nat)=32)/\(0:Nat)<=32/\(32:Nat)<=32),.prop (Value.slice (some (if 32=0 then Addr.mk e 0 none else (Addr.mk e 0 none).add (0*1))) (32-0) (32-0)=Value.slice (some ⟨e,0,none⟩) 32 32)] (aL ⟨(by first|(intro _;rfl)|(intro hc;cases hc)),(by first|(intro _;rfl)|(intro hc;cases hc)),za,za⟩ (aL (dM _ _ _ _ _ zf) aO)) Hz) (Zc (mO Q r sp 32 (λw h=>hQ w (h.drop 1)) hq (a5.pl 1)) ?_)))))))))))
 rintro b2 b3 ⟨q,u,d,f,i,x,a0,rfl,o,a7,a8⟩
 refine⟨fM (n:=[.prop (((none:Option Operand)=none->(0:Nat)=0)/\((none:Option Operand)=none->(32:Nat)=32)/\(0:Nat)<=32/\(32:Nat)<=32),.prop (Value.slice (some (if 32=0 then Addr.mk e 0 none else (Addr.mk e 0 none).add (0*1))) (32-0) (32-0)=Value.slice (some ⟨e,0,none⟩) 32 32)]) zk (aL ⟨(by first|(intro _;rfl)|(intro hc;cases hc)),(by first|(intro _;rfl)|(intro hc;cases hc)),za,za⟩ (aL (dM _ _ _ _ _ zf) aO)),?_⟩
 have a1:=a8.pl 2
 refine aU.K9 rfl zk aP aF (b:=e) (off:=0) (dLen:=32) (dCap:=32) (ys:=d) (adx:=q) (cx:=u) (0:Int) rfl zk a1 (a1.rows 1 rfl aF.size (0:Int)) (by rw [eO aF.size];simp only [List.length_replicate,Nat.zero_add];exact Nat.mul_le_mul_right _ za) (cs':=af aA (mX (List.replicate 32 (0:Int)) 0 (d.take (min d.length 32)))) (by show bZ _ (0*1) _=_;exact B2 aF.size zI) λb4 a2=>Lo (Ld (Lt (Ls (Dz (bX [1] (Hg 0 (.agg (af aA (mX (List.replicate 32 (0:Int)) 0 (d.take (min d.length 32))))) [.prop (Array.size (af aA (mX (List.replicate 32 (0:Int)) 0 (d.take (min d.length 32))))=32),.cells ⟨e,0,none⟩ (af aA (mX (List.replicate 32 (0:Int)) 0 (d.take (min d.length 32))))] (aL (bQ aF (show(mX (List.replicate 32 (0:Int)) 0 (d.take (min d.length 32))).length=32 from(wu _)) rfl) (eM (a2.cells 0 0 rfl zG) aO)) Hz) (aU.store rfl rfl zk (b:=e) (off:=0) (v:=.agg (af aA (mX (List.replicate 32 (0:Int)) 0 (d.take (min d.length 32))))) zk zk (ti:=Tryz.t44) zk a2 0 rfl (cK aF (show(mX (List.replicate 32 (0:Int)) 0 (d.take (min d.length 32))).length=32 from(wu _)) zk) (eQ aF) (eF aF (show(mX (List.replicate 32 (0:Int)) 0 (d.take (min d.length 32))).length=32 from(wu _)) (by rw [bQ aF (show(mX (List.replicate 32 (0:Int)) 0 (d.take (min d.length 32))).length=32 from(wu _)) (m:=32) rfl];rfl)) (cs':=af aA (mX (List.replicate 32 (0:Int)) 0 (d.take (min d.length 32)))) (L':=(aC e (af aA (mX (List.replicate 32 (0:Int)) 0 (d.take (min d.length 32)))) 44)::Sl q u 5 1 aA d::aC c #[.slice x f.length a0,.bool i] 173::L) (eX aF (show(mX (List.replicate 32 (0:Int)) 0 (d.take (min d.length 32))).length=32 from(wu _)) (by rw [bQ aF (show(mX (List.replicate 32 (0:Int)) 0 (d.take (min d.length 32))).length=32 from(wu _)) (m:=32) rfl];rfl)) rfl λb5 a3=>Lo (Ld (Lt (Le (Dz (aN.done (.inl rfl) (v:=.agg (af aA (mX (List.replicate 32 (0:Int)) 0 (d.take (min d.length 32))))) (λa hf=>gW rfl zk (ti:=Tryz.t44) zk zk (vs:=af aA (mX (List.replicate 32 (0:Int)) 0 (d.take (min d.length 32)))) (bQ aF (show(mX (List.replicate 32 (0:Int)) 0 (d.take (min d.length 32))).length=32 from(wu _)) zk) (a3.cells 0 0 rfl zG) a hf) ?_)))))))))))
 have h6:=lW (n:=32) (s:=(r,sp)) hq.nV
 rw [o] at h6
 have h9:ow (r,sp)=(oN d,(f,i)):=by unfold ow;rw [o]
 have h8:d.length<=32:=by have h7:=wq 32 (r,sp);rw [o] at h7;exact h7
 exact⟨oN d,f,i,x,a0,congrArg Value.agg (L2 h8),h9,te h6,a7,a3.dr 2⟩
def MB (s:CS):eG×CS :=
 let a:=cG s
 let b:=cG a.2
 let c:=aW b.2
 let d:=aW c.2
 let e:=mN 32 d.2
 let f:=mN 128 e.2
 let g:=mN 128 f.2
 let h:=mN 32 g.2
 let i:=ow h.2
 (⟨a.1,c.1,⟨b.1,e.1,f.1,g.1,h.1,d.1⟩,i.1⟩,i.2)
structure vv (r:eG):Prop where
 cl:-9223372036854775808<=r.cl/\r.cl<=9223372036854775807
 tm:0<=r.tm/\r.tm<=18446744073709551615
 kd:0<=r.op.kd/\r.op.kd<=255
 am:0<=r.op.am/\r.op.am<=18446744073709551615
 tg:∀ z∈r.tg.toList,0<=z/\z<256
theorem qg Q r sp (hQ:∀ w,St w0 L w->Q.holds w) (hq:bG Q az r cz) (hs:St w0 (aC c #[.slice az r.length cz,.bool sp] 173::L) w):Cs Tryz.prog 173 #[zP c 0] w λrv w'=>∃ xq2 rr2 sp2 az2 cz2,rv=.agg (eG.cells xq2)/\MB (r,sp)=(xq2,(rr2,sp2))/\vv xq2/\bG Q az2 rr2 cz2/\St w0 (aC c #[.slice az2 rr2.length cz2,.bool sp2] 173::L) w':=by
 refine cL Tryz.func173 Tryz.ntmps173 (En (Ls (Lg [0] (Dz (eN (eG.cells cN) hs λb1 w2 a0=>Lo (Ld (Lt (Ls (Lg [1,4,6,9] (Lw (Zc (gD Q r sp (λw h=>hQ w (h.drop 1)) hq (a0.pl 1)) ?_)))))))))))
 rintro g5 g7 ⟨a,a2,a3,g8,g9,rfl,a4,h0,a5,a6⟩
 refine K8 (dW 2 a Hz) (Zc (gD Q a2 a3 (λw h=>hQ w (h.drop 1)) a5 a6) ?_)
 rintro h1 h2 ⟨b,a7,a8,h3,h4,rfl,a9,h5,b0,b2⟩
 refine Lo (Lw (Zu 1 0 (eG.cells (⟨a,0,Nf,aK⟩:eG)) b2 λh6 b3=>Lo (Lw (Zu 1 2 (eG.cells (⟨a,0,(⟨b,aR,aR,aR,aR,0⟩:lP),aK⟩:eG)) b3 λh7 b4=>Lo (Ld (Lt (Ls (Lg [1,3,5,8] (Lw (Zc (bT Q a7 a8 (λw h=>hQ w (h.drop 1)) b0 b4) ?_))))))))))
 rintro h8 h9 ⟨d,b5,b6,i0,i1,rfl,b7,i2,b8,b9⟩
 refine Lo (Lw (Zc (bT Q b5 b6 (λw h=>hQ w (h.drop 1)) b8 b9) ?_))
 rintro i3 i4 ⟨e,c0,c1,i5,i6,rfl,c2,i7,c3,c4⟩
 refine Lo (Lw (Zu 1 1 (eG.cells (⟨a,d,(⟨b,aR,aR,aR,aR,0⟩:lP),aK⟩:eG)) c4 λi8 c5=>Lo (Lw (Zu 1 7 (eG.cells (⟨a,d,(⟨b,aR,aR,aR,aR,e⟩:lP),aK⟩:eG)) c5 λi9 c6=>Lo (Ld (Lt (Ls (Lg [1,3,6,9] (Lw (Zc (nB Q c0 c1 32 (λw h=>hQ w (h.drop 1)) c3 c6) ?_))))))))))
 rintro j0 j1 ⟨f,c7,c8,j2,j3,rfl,c9,d0,d1⟩
 refine Lo (Lw (Zc (nB Q c7 c8 128 (λw h=>hQ w (h.drop 1)) d0 d1) ?_))
 rintro j4 j5 ⟨i,d2,d3,j6,j7,rfl,d4,d5,d6⟩
 refine Lo (Lw (Zu 1 3 (eG.cells (⟨a,d,(⟨b,f,aR,aR,aR,e⟩:lP),aK⟩:eG)) d6 λj8 d7=>Lo (Lw (Zu 1 4 (eG.cells (⟨a,d,(⟨b,f,i,aR,aR,e⟩:lP),aK⟩:eG)) d7 λj9 d8=>Lo (Ld (Lt (Ls (Lg [1,3,6,9] (Lw (Zc (nB Q d2 d3 128 (λw h=>hQ w (h.drop 1)) d5 d8) ?_))))))))))
 rintro k0 k1 ⟨o,d9,e0,k2,k3,rfl,e1,e2,e3⟩
 refine Lo (Lw (Zc (nB Q d9 e0 32 (λw h=>hQ w (h.drop 1)) e2 e3) ?_))
 rintro k4 k5 ⟨q,e4,e5,k6,k7,rfl,e6,e7,e8⟩
 refine Lo (Lw (Zu 1 5 (eG.cells (⟨a,d,(⟨b,f,i,o,aR,e⟩:lP),aK⟩:eG)) e8 λk8 e9=>Lo (Lw (Zu 1 6 (eG.cells (⟨a,d,(⟨b,f,i,o,q,e⟩:lP),aK⟩:eG)) e9 λk9 f0=>Lo (Ld (Lt (Ls (Lg [1,3] (Lw (Zc (rD Q e4 e5 (λw h=>hQ w (h.drop 1)) e7 f0) ?_))))))))))
 rintro l0 l1 ⟨u,f1,f2,f3,f4,rfl,f5,f6,f7,f8⟩
 refine Lo (Lw (Zu 1 8 (eG.cells (⟨a,d,(⟨b,f,i,o,q,e⟩:lP),u⟩:eG)) f8 λl2 x=>Lo (Ld (Lt (Ls (Dz (bX [1] (fE 0 1 0 40 (eG.cells (⟨a,d,(⟨b,f,i,o,q,e⟩:lP),u⟩:eG)) x Hz) (Zu 1 0 (eG.cells (⟨a,d,(⟨b,f,i,o,q,e⟩:lP),u⟩:eG)) x λl3 z=>Lo (Ld (Lt (Le (Dz (mJ 1 z ?_)))))))))))))
 have f9:=(z.pl 0).pl 1
 exact⟨(⟨a,d,(⟨b,f,i,o,q,e⟩:lP),u⟩:eG),f1,f2,f3,f4,rfl,(by unfold MB;simp only [a4,a9,b7,c2,c9,d4,e1,e6,f5]),⟨zq,zq,zq,zq,f6⟩,f7,f9.dr 1⟩
end
section
variable {w0 w : World} {L : List cA} {c : Nat} {az : Option Addr} {cz : Nat}
theorem qz Q r sp n (hQ:∀ w,St w0 L w->Q.holds w) (hq:bG Q az r cz) (hs:St w0 (aC c #[.slice az r.length cz,.bool sp] 115::L) w):Cs Tryz.prog 118 #[zP c 0,.int .i64 (n:Nat)] w λrv w'=>∃ vv2 rr2 sp2 az2 cz2,rv=.int .u64 vv2/\AD n (r,sp)=(vv2,(rr2,sp2))/\bG Q az2 rr2 cz2/\St w0 (aC c #[.slice az2 rr2.length cz2,.bool sp2] 115::L) w':=by
 refine cL Tryz.func118 Tryz.ntmps118 (Zs ?_)
 have hrl:=hq.len
 have hcap:=hq.cap
 refine Za (Zt (Zs (Zs (bH.join (T:=Unit) (E:=λ_=>[(19,.bool (sp || (decide ((r.length:Int)<(n:Nat))))),(4,.int .u64 0),(0,zP c 0),(1,.int .i64 (n:Nat))]) (F:=λ_ w=>St w0 (aC c #[.slice az r.length cz,.bool sp] 115::L) w) ?_ ?_))))
 ·refine Zg [] (gS 0 5 (Hl 3 0 1 hs Hz) (dB 11 sp (λe=>?_) (λe=>?_)))
  ·exact En (bO (Dz (gB [19,4,0,1] () true (by first|rfl|simp [Hb,e]) hs)))
  ·exact lD (Hl 8 0 0 hs Hz) (gB [19,4,0,1] () (decide ((r.length:Int)<(n:Nat))) (by first|rfl|simp [Hb,e]) hs)
 intro _ w2 i
 refine Zt (cZ (t:=sp || (decide ((r.length:Int)<(n:Nat)))) (λd=>?_) (λd=>?_))
 ·have hbad:sp=true\/r.length<n:=by
   rcases Bool.or_eq_true_iff.1 d with f|f
   ·exact .inl f
   ·have:=of_decide_eq_true f;exact .inr za
  exact En (Ls (Lg [3] (Lw (Zu 0 1 #[.slice az r.length cz,.bool true] i λw5 x=>Lo (Ld (Lt (Lq (Le (Ly (Dz (bL (v:=.int .u64 0) ⟨0,r,true,az,cz,rfl,(show(fR (tk n (r,sp)).1,(tk n (r,sp)).2)=_ by rw [sr hbad];rfl),hq,x⟩)))))))))))
 ·have a0:(decide ((r.length:Int)<(n:Nat)))=false:=(Bool.or_eq_false_iff.1 d).2
  have hbf:=Bool.or_eq_false_iff.1 d
  have hsf:sp=false:=hbf.1
  have hnr:n<=r.length:=by have:=of_decide_eq_false hbf.2;omega
  refine En (Lk (Lt (Lq (Ls (Lq (Lb (Dz (bH.loop (T:=Nat×Int) (λgg=>[(0,zP c 0),(1,.int .i64 (n:Nat)),(4,.int .u64 0),(5,.int .u64 gg.2),(6,.int .i64 (gg.1:Nat))]) (λgg w=>(gg.1<=n/\gg.2=fR (r.take gg.1))/\St w0 (aC c #[.slice az r.length cz,.bool sp] 115::L) w) (λgg=>n-gg.1) (0,0) [0,1,4,5,6] zk ⟨⟨Nat.zero_le _,rfl⟩,i⟩ ?_))))))))
  rintro⟨jj,z⟩ w7 ⟨hp,b⟩
  dsimp only at hp b
  have hw:∀ w,St w0 L w->aB w az r.length 1 (λk=>aA (r.getD k 0)):=λw h=>hq.row w (hQ w h)
  refine En (Ls (Lq (Dz (Zi ((jj:Int)<(n:Nat)) (λa1=>?_) (λa1=>?_)))))
  ·have hjn:jj<r.length:=za
   obtain⟨o,q,rfl⟩:=aB.isSome (hw _ (b.drop 1)) za
   exact Zk (Zt (Zs (Zb (cS (Hg 1 (.shift (dY .u64 z 8)) [.prop ((0:Int)<=8/\IntKind.u64.wrap (z*2 ^ (min (Int.toNat 8) (IntKind.bits .u64)))=dY .u64 z 8)] (aL ⟨(by first|omega|exact bW rfl _),rfl⟩ aO) (Hl 5 0 0 b (Hx 7 (jj:Int) (r.length:Int) o q 1 (Hg 8 (.gen [.int .u8 (r.getD jj 0)]) [.cell ⟨o,q+(jj*1),none⟩ (.int .u8 (r.getD jj 0))] (bP (aB.dX (hw _ (b.drop 1)) (k:=jj) zo (j:=0) zf zk) aO) Hz)))) (Zm (Zt (cS (dW 1 ((jj:Nat)+1) Hz) (aN.back (jj+1,mL .u64 (dY .u64 z 8) (IntKind.u64.wrap (r.getD jj 0))) [0,1,4,5,6] zk (by show n-(jj+1)<n-jj;omega) ⟨⟨za,by rw [ru za,<- hp.2]⟩,b⟩))))))))
  ·have hke:jj=n:=za
   refine Zx (aN.cJ (aN.fJ (aN.iT (Zt (Zs (bX [9] (Hl 4 0 0 b (Hg 6 (.eJ (.slice (eA az cz n 1) ((r.drop n).length) (cz-n)) (.sub n r.length)) [.prop ((n:Int)=(n:Int)),.prop ((some (Operand.tmp 44)=none->(n:Nat)=0)/\((none:Option Operand)=none->(r.length:Nat)=r.length)/\(n:Nat)<=r.length/\(r.length:Nat)<=cz),.prop (Value.slice (if cz=n then az else (az:Option Addr).map (λa=>a.add (n*1))) (r.length-n) (cz-n)=Value.slice (eA az cz n 1) ((r.drop n).length) (cz-n))] (aL za (aL ⟨(by first|(intro _;rfl)|(intro hc;cases hc)),(by first|(intro _;rfl)|(intro hc;cases hc)),za,za⟩ (aL (rT zw) aO))) Hz)) (Zu 0 0 #[.slice (eA az cz n 1) ((r.drop n).length) (cz-n),.bool sp] b λa4 u=>Lo (Ld (Lt (Lq (Le (Dz (bL (v:=.int .u64 z) ?_)))))))))))))
   rw [hsf] at u
   exact⟨fR (r.take n),r.drop n,false,eA az cz n 1,(cz-n),(by rw [hp.2,hke]),(show(fR (tk n (r,sp)).1,(tk n (r,sp)).2)=_ by rw [qf hsf za]),hq.drop za,u⟩
theorem hJ Q r sp (hQ:∀ w,St w0 L w->Q.holds w) (hq:bG Q az r cz) (hs:St w0 (aC c #[.slice az r.length cz,.bool sp] 115::L) w):Cs Tryz.prog 67 #[zP c 0] w λrv w'=>∃ vv2 rr2 sp2 az2 cz2,rv=.int .u64 vv2/\aW (r,sp)=(vv2,(rr2,sp2))/\(0<=vv2/\vv2<18446744073709551616)/\bG Q az2 rr2 cz2/\St w0 (aC c #[.slice az2 rr2.length cz2,.bool sp2] 115::L) w':=by
 refine cL Tryz.func67 Tryz.ntmps67 (En (Lq (Ls (Lg [1] (Lw (Zc (qz Q r sp 8 (λw h=>hQ w (h.drop 0)) hq hs) ?_))))))
 rintro q u ⟨a,rr2,d,e,f,rfl,b,i,o⟩
 exact Lz (Le (Dz (bL (v:=.int .u64 a) ⟨a,rr2,d,e,f,rfl,b,cC b,i,o⟩)))
theorem lX Q r sp (hQ:∀ w,St w0 L w->Q.holds w) (hq:bG Q az r cz) (hs:St w0 (aC c #[.slice az r.length cz,.bool sp] 115::L) w):Cs Tryz.prog 190 #[zP c 0] w λrv w'=>∃ vv2 rr2 sp2 az2 cz2,rv=.int .u8 vv2/\cG (r,sp)=(vv2,(rr2,sp2))/\(0<=vv2/\vv2<256)/\bG Q az2 rr2 cz2/\St w0 (aC c #[.slice az2 rr2.length cz2,.bool sp2] 115::L) w':=by
 refine cL Tryz.func190 Tryz.ntmps190 (En (Lq (Ls (Lg [1] (Lw (Zc (qz Q r sp 1 (λw h=>hQ w (h.drop 0)) hq hs) ?_))))))
 rintro u x ⟨b,rr2,d,e,f,rfl,i,o,q⟩
 refine Lz (Le (Dz (bL (v:=.int .u8 (IntKind.u8.wrap b)) ?_)))
 obtain⟨ha,hb⟩:fR (tk 1 (r,sp)).1=b/\(tk 1 (r,sp)).2=(rr2,d):=by
  have a:=i
  unfold AD at a
  exact Prod.mk.inj a
 have a:cG (r,sp)=(IntKind.u8.wrap b,(rr2,d)):=by unfold cG;rw [ha,hb]
 exact⟨IntKind.u8.wrap b,rr2,d,e,f,rfl,a,(gT a),o,q⟩
theorem sv Q r sp (hQ:∀ w,St w0 L w->Q.holds w) (hq:bG Q az r cz) (hs:St w0 (aC c #[.slice az r.length cz,.bool sp] 115::L) w):Cs Tryz.prog 69 #[zP c 0] w λrv w'=>∃ nn2 rr2 sp2 az2 cz2,rv=.int .u16 (nn2:Nat)/\jF (r,sp)=(nn2,(rr2,sp2))/\nn2<65536/\bG Q az2 rr2 cz2/\St w0 (aC c #[.slice az2 rr2.length cz2,.bool sp2] 115::L) w':=by
 refine cL Tryz.func69 Tryz.ntmps69 (En (Lq (Ls (Lg [1] (Lw (Zc (qz Q r sp 2 (λw h=>hQ w (h.drop 0)) hq hs) ?_))))))
 rintro x z ⟨a,rr2,d,e,f,rfl,i,o,q⟩
 refine Lz (Le (Dz (bL (v:=.int .u16 (IntKind.u16.wrap a)) ?_)))
 obtain⟨ha,hb⟩:fR (tk 2 (r,sp)).1=a/\(tk 2 (r,sp)).2=(rr2,d):=by
  have b:=i
  unfold AD at b
  exact Prod.mk.inj b
 have b:jF (r,sp)=((IntKind.u16.wrap a).toNat,(rr2,d)):=by unfold jF;rw [ha,hb]
 have u:0<=IntKind.u16.wrap a:=Int.emod_nonneg _ zf
 exact⟨(IntKind.u16.wrap a).toNat,rr2,d,e,f,(by rw [Int.toNat_of_nonneg u]),b,lV b,o,q⟩
theorem pb Q r sp n (hQ:∀ w,St w0 L w->Q.holds w) (hq:bG Q az r cz) (hs:St w0 (aC c #[.slice az r.length cz,.bool sp] 115::L) w):Cs Tryz.prog 68 #[zP c 0,.int .i64 (n:Nat)] w λrv w'=>∃ ao2 co2 ll2 rr2 sp2 az2 cz2,rv=.slice ao2 ll2.length co2/\tk n (r,sp)=(ll2,(rr2,sp2))/\bG Q az2 rr2 cz2/\St w0 (Sl ao2 co2 5 1 aA ll2::aC c #[.slice az2 rr2.length cz2,.bool sp2] 115::L) w':=by
 refine cL Tryz.func68 Tryz.ntmps68 (Zs ?_)
 have hrl:=hq.len
 have hcap:=hq.cap
 refine Za (Zt (Zs (Zs (bH.join (T:=Unit) (E:=λ_=>[(22,.bool ((sp || (decide ((n:Int)<0))) || (decide ((r.length:Int)<(n:Nat))))),(4,.slice none 0 0),(0,zP c 0),(1,.int .i64 (n:Nat))]) (F:=λ_ w=>St w0 (aC c #[.slice az r.length cz,.bool sp] 115::L) w) ?_ ?_))))
 ·refine Zg [] (gS 0 5 (Hl 3 0 1 hs Hz) (dB 10 sp (λi=>?_) (λi=>?_)))
  ·exact En (bO (Dz (gB [22,4,0,1] () true (by first|rfl|simp [Hb,i]) hs)))
  ·refine Zr 5 4 [] (dB 14 (decide ((n:Int)<0)) (λd=>?_) (λd=>?_))
   ·exact En (bO (Dz (gB [22,4,0,1] () true (by first|rfl|simp [Hb,i,d]) hs)))
   ·exact lD (Hl 12 0 0 hs Hz) (gB [22,4,0,1] () (decide ((r.length:Int)<(n:Nat))) (by first|rfl|simp [Hb,i,d]) hs)
 intro _ w3 u
 refine Zt (cZ (t:=(sp || (decide ((n:Int)<0))) || (decide ((r.length:Int)<(n:Nat)))) (λb=>?_) (λb=>?_))
 ·have hbad:sp=true\/r.length<n:=by simp only [Bool.or_eq_true,decide_eq_true_eq] at b;rcases b with(o|o)|o<;>first|exact .inl o|exact .inr za
  exact En (Ls (Lg [3] (Lw (Zu 0 1 #[.slice az r.length cz,.bool true] u λw6 a5=>Lo (Ld (Lt (Lq (Le (Ly (Dz (bL (v:=.slice none 0 0) ⟨none,0,([]:List Int),r,true,az,cz,rfl,sr hbad,hq,St.bJ a5 5 1 aA⟩)))))))))))
 ·have x:=(Bool.or_eq_false_iff.1 b).1
  have h5ab:(decide ((n:Int)<0))=false:=(Bool.or_eq_false_iff.1 x).2
  have a7:(decide ((r.length:Int)<(n:Nat)))=false:=(Bool.or_eq_false_iff.1 b).2
  have hbf:=b
  simp only [Bool.or_eq_false_iff,decide_eq_false_iff_not] at hbf
  have hsf:sp=false:=hbf.1.1
  have hnr:n<=r.length:=za
  refine En (Lk (Lt (Ls (Lg [0,7] (Dz (aU.nL rfl zk (t:=25) (e:=5) zk zk (ti:=Tryz.t5) zk u λz a8 a9 b0=>?_))))))
  have q:St w0 (Sl (some ⟨z,0,none⟩) 0 5 1 aA ([]:List Int)::aC c #[.slice az r.length cz,.bool sp] 115::L) a8:=St.lS (l:=([]:List Int)) (f:=aA) a9 b0 aF.size zl zk
  refine K8 (Hl 4 1 0 q (Hg 6 (.eJ (.slice az ((r.take n).length) cz) (.sub 0 n)) [.prop ((n:Int)=(n:Int)),.prop (((none:Option Operand)=none->(0:Nat)=0)/\(some (Operand.tmp 31)=none->(n:Nat)=r.length)/\(0:Nat)<=n/\(n:Nat)<=cz),.prop (Value.slice (if cz=0 then az else (az:Option Addr).map (λa=>a.add (0*1))) (n-0) (cz-0)=Value.slice az ((r.take n).length) cz)] (aL za (aL ⟨(by first|(intro _;rfl)|(intro hc;cases hc)),(by first|(intro _;rfl)|(intro hc;cases hc)),za,za⟩ (aL (so zw) aO))) Hz)) (aU.append rfl zk aP aF (ad:=some ⟨z,0,none⟩) (c:=0) (xs:=([]:List Int)) (ys:=r.take n) (adx:=az) (cx:=cz) (0:Int) zk q (aB.tc (hq.row _ (hQ _ (q.drop 2))) _ za) hq.L1.nn (by first|omega|(simp only [List.length_take,List.length_nil];omega)) (by first|omega|(simp only [List.length_take,List.length_nil];omega)) λa0 a1 b2 a2=>Lz (Ls (Dz (bX [9] (Hl 4 1 0 a2 (Hg 6 (.eJ (.slice (eA az cz n 1) ((r.drop n).length) (cz-n)) (.sub n r.length)) [.prop ((n:Int)=(n:Int)),.prop ((some (Operand.tmp 39)=none->(n:Nat)=0)/\((none:Option Operand)=none->(r.length:Nat)=r.length)/\(n:Nat)<=r.length/\(r.length:Nat)<=cz),.prop (Value.slice (if cz=n then az else (az:Option Addr).map (λa=>a.add (n*1))) (r.length-n) (cz-n)=Value.slice (eA az cz n 1) ((r.drop n).length) (cz-n))] (aL za (aL ⟨(by first|(intro _;rfl)|(intro hc;cases hc)),(by first|(intro _;rfl)|(intro hc;cases hc)),za,za⟩ (aL (rT zw) aO))) Hz)) (Zu 1 0 #[.slice (eA az cz n 1) ((r.drop n).length) (cz-n),.bool sp] a2 λb3 a3=>Lo (Ld (Lt (Lq (Le (Dz (bL (v:=.slice a0 ((r.take n).length) a1) ?_)))))))))))
  rw [hsf] at a3
  exact⟨a0,a1,r.take n,r.drop n,false,eA az cz n 1,(cz-n),rfl,qf hsf hnr,hq.drop hnr,a3⟩
theorem pN Q r sp most (hQ:∀ w,St w0 L w->Q.holds w) (hq:bG Q az r cz) (hs:St w0 (aC c #[.slice az r.length cz,.bool sp] 115::L) w):Cs Tryz.prog 191 #[zP c 0,.int .i64 most] w λrv w'=>∃ ss2 rr2 sp2 az2 cz2,rv=.string ss2/\mN most (r,sp)=(ss2,(rr2,sp2))/\bG Q az2 rr2 cz2/\St w0 (aC c #[.slice az2 rr2.length cz2,.bool sp2] 115::L) w':=by
 refine cL Tryz.func191 Tryz.ntmps191 (En (Lq (Ls (Dz (cS (Hl 3 0 0 hs Hz) (En (Lt (Ls (Lg [1] (Lw (Zc (sv Q r sp (λw h=>hQ w (h.drop 0)) hq hs) ?_)))))))))))
 rintro c0 c1 ⟨a,rr2,b,a6,a7,rfl,a0,c2,a1,i⟩
 refine BS (dW 2 (a:Nat) Hz) (Zt (Zs (Zs (bH.join (T:=Unit) (E:=λ_=>[(31,.bool ((b || (decide ((a:Int)>most))) || (decide ((a:Int)>(rr2.length:Nat))))),(6,.int .i64 (a:Nat)),(5,.slice az r.length cz),(4,.string aR),(0,zP c 0)]) (F:=λ_ w=>St w0 (aC c #[.slice a6 rr2.length a7,.bool b] 115::L) w) ?_ ?_))))
 ·refine Zg [] (gS 0 5 (Hl 3 0 1 i Hz) (dB 18 b (λu=>?_) (λu=>?_)))
  ·exact En (bO (Dz (gB [31,6,5,4,0] () true (by first|rfl|simp [Hb,u]) i)))
  ·refine Zr 5 5 [] (dB 23 (decide ((a:Int)>most)) (λo=>?_) (λo=>?_))
   ·exact En (bO (Dz (gB [31,6,5,4,0] () true (by first|rfl|simp [Hb,u,o]) i)))
   ·exact lD (Hl 14 0 0 i Hz) (gB [31,6,5,4,0] () (decide ((a:Int)>(rr2.length:Nat))) (by first|rfl|simp [Hb,u,o]) i)
 intro _ c3 a2
 refine Zt (cZ (t:=(b || (decide ((a:Int)>most))) || (decide ((a:Int)>(rr2.length:Nat)))) (λq=>?_) (λq=>?_))
 ·have hbad:(b || decide ((a:Int)>most))=true\/rr2.length<a:=by
   rcases Bool.or_eq_true_iff.1 q with d|d
   ·exact .inl d
   ·have:=of_decide_eq_true d;exact .inr za
  exact En (Ls (Lg [4] (Lw (Zu 0 0 #[.slice az r.length cz,.bool b] a2 λc4 a9=>Lo (Ld (Lt (Ls (Lg [3] (Lw (Zu 0 1 #[.slice az r.length cz,.bool true] a9 λc5 b0=>Lo (Ld (Lt (Lq (Le (Ly (Dz (bL (v:=.string aR) ⟨⟨#[]⟩,r,true,az,cz,rfl,ua a0 hbad,hq,b0⟩)))))))))))))))))
 ·have a3:=(Bool.or_eq_false_iff.1 q).1
  have h16ab:(decide ((a:Int)>most))=false:=(Bool.or_eq_false_iff.1 a3).2
  have b1:(decide ((a:Int)>(rr2.length:Nat)))=false:=(Bool.or_eq_false_iff.1 q).2
  have hbf:=q
  simp only [Bool.or_eq_false_iff,decide_eq_false_iff_not] at hbf
  have hsf:b=false:=hbf.1.1
  refine En (Lk (Lt (Ls (Lg [2] (Lw (Zc (pb Q rr2 b a (λw h=>hQ w (h.drop 0)) a1 a2) ?_))))))
  rintro c7 c8 ⟨b2,b3,x,b4,b5,b6,b7,rfl,a4,b8,a5⟩
  refine Lo (Dz (aU.fT rfl zk (src:=25) (dst:=9) (e:=5) (ad:=b2) (n:=x.length) (cap:=b3) (f:=aA) rfl x rfl zk zk zk zk (by have d:=lW (n:=a) (s:=(rr2,b)) a1.nV;rw [a4] at d;exact d) (a5.rows 0 rfl aF.size (0:Int)) (En (bO (Lt (Le (Dz (bL (v:=.string (strOf x)) ?_))))))))
  have z:=a4
  rw [qf hsf za] at z
  have e2:=Prod.mk.inj (Prod.mk.inj z).2
  exact⟨strOf x,b4,b5,b6,b7,rfl,(wm (hsf▸a0) za za).trans (by rw [(Prod.mk.inj z).1,e2.1,e2.2]),b8,a5.dr 1⟩
end
section
variable {w0 w : World} {L : List cA} {ad : Option Addr} {c : Nat}
def jE (r:eG):Bool :=
 (((((decide ((r.cl:Int) >= 1)) && (decide ((r.cl:Int)<=8))) && (decide ((r.tm:Int) >= 1))) && (decide ((r.tm:Int)<=4611686018427387904))) && (decide ((max ((r.op.ky.size:Nat):Int) ((r.op.tx.size:Nat):Int):Int)<=32))) && (decide ((max ((r.op.va.size:Nat):Int) ((r.op.ol.size:Nat):Int):Int)<=128))
theorem Dw r (hs:St w0 L w):Cs Tryz.prog 175 #[.agg (eG.cells r)] w λrv w'=>rv=.bool (jE r)/\St w0 L w':=by
 refine cL Tryz.func175 Tryz.ntmps175 (En (Ls (Lg [0] (Dz (hG (eG.cells r) hs λo w2 a=>Lz (Ls (Dz (bH.join (T:=Unit) (E:=λ_=>[(2,.bool ((((((decide ((r.cl:Int) >= 1)) && (decide ((r.cl:Int)<=8))) && (decide ((r.tm:Int) >= 1))) && (decide ((r.tm:Int)<=4611686018427387904))) && (decide ((max (r.op.ky.size:Int) (r.op.tx.size:Int):Int)<=32))) && (decide ((max (r.op.va.size:Int) (r.op.ol.size:Int):Int)<=128))))]) (F:=λ_ w=>St w0 (aC o (eG.cells r) 46::L) w) ?_ ?_))))))))
 ·refine Zg [] (gS 0 4 (Hl 1 0 0 a Hz) (dB 6 (decide ((r.cl:Int) >= 1)) (λb=>?_) (λb=>?_)))
  ·refine gS 4 5 (Hl 5 0 0 a Hz) (dB 11 (decide ((r.cl:Int)<=8)) (λd=>?_) (λd=>?_))
   ·refine gS 9 5 (Hl 10 0 1 a Hz) (dB 16 (decide ((r.tm:Int) >= 1)) (λe=>?_) (λe=>?_))
    ·refine gS 14 5 (Hl 15 0 1 a Hz) (dB 21 (decide ((r.tm:Int)<=4611686018427387904)) (λf=>?_) (λf=>?_))
     ·refine Zp 19 12 [(21,.gen [.string r.op.ky]),(25,.gen [.string r.op.tx]),(27,.eJ (.int .i64 (max (r.op.ky.size:Int) (r.op.tx.size:Int))) (.gen []))] [(21,[.cell ⟨o,3,none⟩ (.string r.op.ky)]),(25,[.cell ⟨o,6,none⟩ (.string r.op.tx)]),(27,[.prop (Value.int .i64 (if (r.op.tx.size:Int)>(r.op.ky.size:Int) then (r.op.tx.size:Int) else (r.op.ky.size:Int))=Value.int .i64 (max (r.op.ky.size:Int) (r.op.tx.size:Int)))])] (ak (bP (a.cell 0 rfl zk) aO) (ak (bP (a.cell 0 rfl zk) aO) (ak (aL HV aO) gQ))) (dB 33 (decide ((max (r.op.ky.size:Int) (r.op.tx.size:Int):Int)<=32)) (λi=>?_) (λi=>?_))
      ·exact lD (Hl 33 0 4 a (Hl 37 0 5 a (Hg 39 (.eJ (.int .i64 (max (r.op.va.size:Int) (r.op.ol.size:Int))) (.gen [])) [.prop (Value.int .i64 (if (r.op.ol.size:Int)>(r.op.va.size:Int) then (r.op.ol.size:Int) else (r.op.va.size:Int))=Value.int .i64 (max (r.op.va.size:Int) (r.op.ol.size:Int)))] (aL HV aO) Hz))) (gB [2] () (decide ((max (r.op.va.size:Int) (r.op.ol.size:Int):Int)<=128)) (by first|rfl|simp [Hb,b,d,e,f,i]) a)
      ·exact En (bO (Dz (gB [2] () false (by first|rfl|simp [Hb,b,d,e,f,i]) a)))
     ·exact En (bO (Dz (gB [2] () false (by first|rfl|simp [Hb,b,d,e,f]) a)))
    ·exact En (bO (Dz (gB [2] () false (by first|rfl|simp [Hb,b,d,e]) a)))
   ·exact En (bO (Dz (gB [2] () false (by first|rfl|simp [Hb,b,d]) a)))
  ·exact En (bO (Dz (gB [2] () false (by first|rfl|simp [Hb,b]) a)))
 intro _ w9 a2
 exact Zt (Ze (bL (v:=.bool ((((((decide ((r.cl:Int) >= 1)) && (decide ((r.cl:Int)<=8))) && (decide ((r.tm:Int) >= 1))) && (decide ((r.tm:Int)<=4611686018427387904))) && (decide ((max (r.op.ky.size:Int) (r.op.tx.size:Int):Int)<=32))) && (decide ((max (r.op.va.size:Int) (r.op.ol.size:Int):Int)<=128)))) (qj (by rw [jE]) (a2.dr 1))))
def uc (r:eG):List Int:=[IntKind.u8.wrap r.cl,r.op.kd]++(wd r.tm++(wd r.op.am++(tx r.op.ky++(tx r.op.va++(tx r.op.ol++tx r.op.tx)))))
structure F1 (r:eG):Prop where
 ky:r.op.ky.size<=128
 va:r.op.va.size<=128
 ol:r.op.ol.size<=128
 tx:r.op.tx.size<=128
theorem pO {r:eG}(h:F1 r):(uc r).length<=538:=by
 have:=h.ky;have:=h.va;have:=h.ol;have:=h.tx
 simp only [uc,List.length_append,List.length_cons,List.length_nil,aZ,rz]
 omega
theorem zt {p:Prop}(h:p:=by simp only [List.length_append,List.length_cons,List.length_nil,aZ,fU,rz] at *;omega):p:=h
theorem AE l r (hl:l.length<=100000) (hk:vv r) (hz:F1 r) (hs:St w0 (Sl ad c 5 1 aA l::L) w):Cs Tryz.prog 171 #[.slice ad l.length c,.agg (eG.cells r)] w λrv w'=>∃ ao co,rv=.slice ao ((l++uc r).length) co/\St w0 (Sl ao co 5 1 aA (l++uc r)::L) w':=by
 refine cL Tryz.func171 Tryz.ntmps171 (Zs ?_)
 have a9:=hz.ky
 have b0:=hz.va
 have b2:=hz.ol
 have b3:=hz.tx
 have b5:=hk.tm
 have b6:=hk.am
 refine Zg [0] (hG (eG.cells r) hs λb1 w2 d=>Lz (Ls (Dz (bX [7,8] (Hl 2 0 0 d (Hl 6 0 2 d Hz)) (tQ aP aF [(IntKind.u8.wrap r.cl:Int),(r.op.kd:Int)] d λb4 w5 a2=>Lo (Dz (oV aP aF (0:Int) (a2.pl 2) zt λb7 b8 w9 a4=>Lz (Ls (Dz (ZD (eR [0,1,2,4,5,6] (.ef 3 (.ef 7 (.rd 8 .done)))) a4 λb9 f c0=>Zj (Hl 2 2 1 f (Hl 6 2 7 f Hz)) (Zc (eU (l++([(IntKind.u8.wrap r.cl:Int),(r.op.kd:Int)])) r.tm zg za f) ?_)))))))))))
 rintro c1 c2 ⟨c3,c4,rfl,i⟩
 refine⟨fM (n:=[.cell ⟨b1,7,none⟩ (.int .u64 r.op.am)]) zk (bP (i.cell 2 rfl zk) aO),Zc (eU (l++([(IntKind.u8.wrap r.cl:Int),(r.op.kd:Int)])++wd r.tm) r.op.am zg za i) ?_⟩
 rintro c5 c6 ⟨c7,c8,rfl,a⟩
 refine Lz (Ls (Ls (Dz (bX [12] (Hl 2 2 3 a (Hl 5 2 4 a (Hl 8 2 5 a (Hl 11 2 6 a Hz)))) (aU.cT rfl zk (t:=260) (e:=9) (n:=4) (ps:=[(0,.string r.op.ky),(1,.string r.op.va),(2,.string r.op.ol),(3,.string r.op.tx)]) zk zk (ti:=Tryz.t9) (z:=.string aR) zk zk zf zf (cs:=#[.string r.op.ky,.string r.op.va,.string r.op.ol,.string r.op.tx]) zk a λb c9 o d0=>Lz (Lb (Dz (bH.tY 12 (En (Lq (Ls (LT (Lk (Lt (Ls (Lb (Ls (Dz (cS (Hx 0 (0:Int) (4:Int) b 0 1 (Hl 1 0 0 o Hz)) (En (Lt (Lg [2] (Lw (Zc (rA (l++([(IntKind.u8.wrap r.cl:Int),(r.op.kd:Int)])++wd r.tm++wd r.op.am) r.op.ky zt za (o.pl 1)) ?_))))))))))))))))))))))))
 rintro d1 d2 ⟨d3,d4,rfl,q⟩
 refine Lo (bO (Lm (Lt (La (Dz (aN.again (En (Lq (Ls (LT (Lk (Lt (Ls (Lb (Ls (Dz (cS (Hx 0 (1:Int) (4:Int) b 0 1 (Hl 1 1 1 q Hz)) (En (Lt (Lg [2] (Lw (Zc (rA ((l++([(IntKind.u8.wrap r.cl:Int),(r.op.kd:Int)])++wd r.tm++wd r.op.am)++tx r.op.ky) r.op.va zt za q) ?_))))))))))))))))))))))
 rintro d5 d6 ⟨d7,d8,rfl,u⟩
 refine Lo (bO (Lm (Lt (La (Dz (aN.again (En (Lq (Ls (LT (Lk (Lt (Ls (Lb (Ls (Dz (cS (Hx 0 (2:Int) (4:Int) b 0 1 (Hl 1 1 2 u Hz)) (En (Lt (Lg [2] (Lw (Zc (rA (((l++([(IntKind.u8.wrap r.cl:Int),(r.op.kd:Int)])++wd r.tm++wd r.op.am)++tx r.op.ky)++tx r.op.va) r.op.ol zt za u) ?_))))))))))))))))))))))
 rintro d9 e0 ⟨e1,e2,rfl,x⟩
 refine Lo (bO (Lm (Lt (La (Dz (aN.again (En (Lq (Ls (LT (Lk (Lt (Ls (Lb (Ls (Dz (cS (Hx 0 (3:Int) (4:Int) b 0 1 (Hl 1 1 3 x Hz)) (En (Lt (Lg [2] (Lw (Zc (rA ((((l++([(IntKind.u8.wrap r.cl:Int),(r.op.kd:Int)])++wd r.tm++wd r.op.am)++tx r.op.ky)++tx r.op.va)++tx r.op.ol) r.op.tx zt za x) ?_))))))))))))))))))))))
 rintro e3 e4 ⟨a0,a1,rfl,a6⟩
 refine Lo (bO (Lm (Lt (La (Dz (aN.again (En (Lq (Ls (LF (Lx (kD (kE (Lh (Lt (Lq (Le (Dz (bL (v:=.slice a0 ((((((l++([(IntKind.u8.wrap r.cl:Int),(r.op.kd:Int)])++wd r.tm++wd r.op.am)++tx r.op.ky)++tx r.op.va)++tx r.op.ol)++tx r.op.tx).length) a1) ?_)))))))))))))))))))
 have a7:=(((a6.pl 0).pl 3).pl 3).pl 3
 have h9:((((l++([(IntKind.u8.wrap r.cl:Int),(r.op.kd:Int)])++wd r.tm++wd r.op.am)++tx r.op.ky)++tx r.op.va)++tx r.op.ol)++tx r.op.tx=l++uc r:=by simp only [uc,List.append_assoc]
 exact⟨a0,a1,by rw [h9],by rw [<- h9];exact(a7.dr 3)⟩
def pc (was:Int):List bS->Bool
 | []=>true
 | p::l=>if p.rp<=was\/p.rp>11\/p.nm<1\/p.nm>65536 then false else pc p.rp l
def rU (l:List bS):Bool:=pc 0 l && decide ((l.length:Int)>0)
theorem tf {l:List bS}{k:Nat}(h:k<l.length) (was:Int):pc was (l.drop k)=if (l.getD k cD).rp<=was\/(l.getD k cD).rp>11\/(l.getD k cD).nm<1\/(l.getD k cD).nm>65536 then false else pc (l.getD k cD).rp (l.drop (k+1)):=by
 rw [List.drop_eq_getElem_cons h,show l.getD k cD=l[k] by rw [List.getD_eq_getElem?_getD,List.getElem?_eq_getElem h];rfl]
 rfl
theorem B4 l (hll:l.length<=9223372036854775807) (hr:Rw w0 L bS.cells 2 cD ad l) (hs:St w0 L w):Cs Tryz.prog 183 #[.slice ad l.length c] w λrv w'=>rv=.bool (rU l)/\St w0 L w':=by
 refine cL Tryz.func183 Tryz.ntmps183 (En (Lq (Lq (Ls (Lq (Lb (Dz (bH.loop (T:=Nat×Int×(Option Addr)) (λgg=>[(0,.slice ad l.length c),(3,.int .i64 gg.2.1),(6,.slice gg.2.2 l.length c),(7,.int .i64 (l.length:Nat)),(8,.int .i64 (gg.1:Nat))]) (λgg w=>(gg.1<=l.length/\pc 0 l=pc gg.2.1 (l.drop gg.1)/\∀ w,St w0 L w->aB w gg.2.2 l.length 2 (λq=>bS.cells (l.getD q cD)))/\St w0 L w) (λgg=>l.length-gg.1) (0,0,ad) [0,3,6,7,8] zk ⟨⟨Nat.zero_le _,rfl,hr⟩,hs⟩ ?_))))))))
 rintro⟨k,was,aq⟩ w1 ⟨hp,u⟩
 dsimp only at hp u
 have hw:=hp.2.2
 refine En (Lq (Ls (Dz (Zi ((k:Int)<(l.length:Nat)) (λa1=>?_) (λa1=>?_)))))
 ·have hk:k<l.length:=za
  obtain⟨d,e,rfl⟩:=aB.isSome (hw _ (u.drop 0)) za
  refine Zk (Zt (Zs (Zb (Zs (bX [2,3] (Hx 0 (k:Int) (l.length:Int) d e 2 (Hg 1 (.agg (bS.cells (l.getD k cD))) [.prop (Array.size (bS.cells (l.getD k cD))=2),.cells ⟨d,e+(k*2),none⟩ (bS.cells (l.getD k cD))] (aL zk (eM (aB.iJ (hw _ (u.drop 0)) zo (Nat.le_of_ble_eq_true zk) zk) aO)) Hz)) (eN (bS.cells cD) u λo w8 a2=>Lo (Dz (Zu 0 0 (bS.cells (l.getD k cD)) a2 λa9 f=>Lo (Ld (Lt (Ls (Ls (Dz (bH.join (T:=Unit) (E:=λ_=>[(30,.bool ((((decide (((l.getD k cD).rp:Int)<=was)) || (decide (((l.getD k cD).rp:Int)>11))) || (decide (((l.getD k cD).nm:Int)<1))) || (decide (((l.getD k cD).nm:Int)>65536)))),(5,zP o 0),(0,.slice ad l.length c),(3,.int .i64 was),(6,zL d e l.length c),(7,.int .i64 (l.length:Nat)),(8,.int .i64 (k:Nat))]) (F:=λ_ w=>St w0 (aC o (bS.cells (l.getD k cD)) 190::L) w) ?_ ?_))))))))))))))
  ·refine Zg [] (gS 0 5 (Hl 1 0 0 f Hz) (dB 16 (decide (((l.getD k cD).rp:Int)<=was)) (λa=>?_) (λa=>?_)))
   ·exact En (bO (Dz (aN.pick [30,5,0,3,6,7,8] (S':=[(30,.bool true),(5,zP o 0),(0,.slice ad l.length c),(3,.int .i64 was),(6,zL d e l.length c),(7,.int .i64 (l.length:Nat)),(8,.int .i64 (k:Nat))]) zk (aN.eZ () (by first|rfl|(simp only [a,Bool.not_true,Bool.not_false,Bool.true_or,Bool.false_or,Bool.true_and,Bool.false_and,Bool.or_true,Bool.or_false,Bool.and_true,Bool.and_false];done)|(simp [a];done)) f))))
   ·refine gS 5 5 (Hl 6 0 0 f Hz) (dB 21 (decide (((l.getD k cD).rp:Int)>11)) (λb=>?_) (λb=>?_))
    ·exact En (bO (Dz (aN.pick [30,5,0,3,6,7,8] (S':=[(30,.bool true),(5,zP o 0),(0,.slice ad l.length c),(3,.int .i64 was),(6,zL d e l.length c),(7,.int .i64 (l.length:Nat)),(8,.int .i64 (k:Nat))]) zk (aN.eZ () (by first|rfl|(simp only [a,b,Bool.not_true,Bool.not_false,Bool.true_or,Bool.false_or,Bool.true_and,Bool.false_and,Bool.or_true,Bool.or_false,Bool.and_true,Bool.and_false];done)|(simp [a,b];done)) f))))
    ·refine gS 10 5 (Hl 11 0 1 f Hz) (dB 26 (decide (((l.getD k cD).nm:Int)<1)) (λi=>?_) (λi=>?_))
     ·exact En (bO (Dz (aN.pick [30,5,0,3,6,7,8] (S':=[(30,.bool true),(5,zP o 0),(0,.slice ad l.length c),(3,.int .i64 was),(6,zL d e l.length c),(7,.int .i64 (l.length:Nat)),(8,.int .i64 (k:Nat))]) zk (aN.eZ () (by first|rfl|(simp only [a,b,i,Bool.not_true,Bool.not_false,Bool.true_or,Bool.false_or,Bool.true_and,Bool.false_and,Bool.or_true,Bool.or_false,Bool.and_true,Bool.and_false];done)|(simp [a,b,i];done)) f))))
     ·exact lD (Hl 16 0 1 f Hz) (aN.pick [30,5,0,3,6,7,8] (S':=[(30,.bool (decide (((l.getD k cD).nm:Int)>65536))),(5,zP o 0),(0,.slice ad l.length c),(3,.int .i64 was),(6,zL d e l.length c),(7,.int .i64 (l.length:Nat)),(8,.int .i64 (k:Nat))]) zk (aN.eZ () (by first|rfl|(simp only [a,b,i,Bool.not_true,Bool.not_false,Bool.true_or,Bool.false_or,Bool.true_and,Bool.false_and,Bool.or_true,Bool.or_false,Bool.and_true,Bool.and_false];done)|(simp [a,b,i];done)) f))
  intro _ b0 z
  refine Zt (cZ (t:=(((decide (((l.getD k cD).rp:Int)<=was)) || (decide (((l.getD k cD).rp:Int)>11))) || (decide (((l.getD k cD).nm:Int)<1))) || (decide (((l.getD k cD).nm:Int)>65536))) (λx=>?_) (λx=>?_))
  ·exact En (Lq (Le (Ly (Ll (Ly (sT (Ll (Ly (Dz (bL (v:=.bool false) ⟨(by unfold rU;rw [hp.2.1,tf hk,if_pos (by simp only [Bool.or_eq_true,decide_eq_true_eq] at x;omega)];rfl),z.dr 1⟩))))))))))
  ·have a0:=(Bool.or_eq_false_iff.1 x).1
   have h17aa:=(Bool.or_eq_false_iff.1 a0).1
   have h17aaa:=(Bool.or_eq_false_iff.1 h17aa).1
   have h17aaa':=of_decide_eq_false h17aaa
   have h17aab:=(Bool.or_eq_false_iff.1 h17aa).2
   have h17aab':=of_decide_eq_false h17aab
   have h17ab:=(Bool.or_eq_false_iff.1 a0).2
   have h17ab':=of_decide_eq_false h17ab
   have a7:=(Bool.or_eq_false_iff.1 x).2
   have b1:=of_decide_eq_false a7
   exact Zk (Zt (cS (Hl 1 0 0 z Hz) (Zm (Zt (cS (dW 0 ((k:Nat)+1) Hz) (aN.back (k+1,(l.getD k cD).rp,some ⟨d,e,none⟩) [0,3,6,7,8] zk (by show l.length-(k+1)<l.length-k;omega) ⟨⟨za,by rw [hp.2.1,tf hk,if_neg za],hw⟩,z.dr 1⟩))))))
 ·have hke:l.drop k=[]:=List.drop_of_length_le za
  exact En (Lx (kD (kE (Lh (Lt (Lq (Le (Dz (bL (v:=.bool (decide ((l.length:Int)>0))) ⟨(by unfold rU;rw [hp.2.1,hke];rfl),u⟩)))))))))
def kB (x:aV):Bool :=
 (decide ((x.k:Int) >= 1)) && (decide ((x.k:Int)<=4611686018427387904))
theorem HX x (hs:St w0 L w):Cs Tryz.prog 178 #[.agg (aV.cells x)] w λrv w'=>rv=.bool (kB x)/\St w0 L w':=by
 refine cL Tryz.func178 Tryz.ntmps178 (En (Ls (Lg [0] (Dz (hG (aV.cells x) hs λe o b=>Lz (Ls (Dz (bH.join (T:=Unit) (E:=λ_=>[(2,.bool ((decide ((x.k:Int) >= 1)) && (decide ((x.k:Int)<=4611686018427387904))))]) (F:=λ_ w=>St w0 (aC e (aV.cells x) 49::L) w) ?_ ?_))))))))
 ·refine Zg [] (gS 0 4 (Hl 1 0 2 b Hz) (dB 6 (decide ((x.k:Int) >= 1)) (λa=>?_) (λa=>?_)))
  ·exact lD (Hl 5 0 2 b Hz) (gB [2] () (decide ((x.k:Int)<=4611686018427387904)) (by first|rfl|simp [Hb,a]) b)
  ·exact En (bO (Dz (gB [2] () false (by first|rfl|simp [Hb,a]) b)))
 intro _ q i
 exact Zt (Ze (bL (v:=.bool ((decide ((x.k:Int) >= 1)) && (decide ((x.k:Int)<=4611686018427387904)))) (qj (by rw [kB]) (i.dr 1))))
end
section
variable {w0 w : World} {L : List cA} {ad : Option Addr} {c : Nat} {az : Option Addr} {cz : Nat}
theorem JZ {l:List Int}{k:Nat}(hk:k<l.length) (h:l.length<=32):(l.take k++List.replicate (32-k) 0).set k (l.getD k 0)=l.take (k+1)++List.replicate (32-(k+1)) 0:=by
 rw [bA (d:=(0:Int)) hk,List.set_append_right _ _ zK,List.length_take,Nat.min_eq_left za,Nat.sub_self,show 32-k=(32-(k+1))+1 from by omega,List.replicate_succ,List.set_cons_zero,List.append_assoc]
 rfl
theorem E1 {l:List Int}{k:Nat}(hk:k<=l.length) (h:l.length<=32):(l.take k++List.replicate (32-k) 0).length=32:=by
 rw [List.length_append,List.length_take,List.length_replicate];omega
theorem NA {l:List Int}(h:l.length<=32):af aA (l++List.replicate (32-l.length) 0)=bI.cells (oN l):=by
 rw [bI.JX,ry]
 apply Array.ext'
 have e:(l++List.replicate 32 0).take 32=l++List.replicate (32-l.length) 0:=by
  rw [List.take_append,List.take_of_length_le h,List.take_replicate,Nat.min_eq_left za]
 show(l++List.replicate (32-l.length) 0).map (Value.int .u8)=(((l++List.replicate 32 0).take 32).toArray.map (Value.int .u8)).toList
 rw [e]
 simp
theorem sw Q r sp (hQ:∀ w,St w0 L w->Q.holds w) (hq:bG Q az r cz) (hs:St w0 (aC c #[.slice az r.length cz,.bool sp] 115::L) w):Cs Tryz.prog 120 #[zP c 0] w λrv w'=>∃ dd2 rr2 sp2 az2 cz2,rv=.agg (bI.cells dd2)/\ow (r,sp)=(dd2,(rr2,sp2))/\(∀ z∈dd2.toList,0<=z/\z<256)/\bG Q az2 rr2 cz2/\St w0 (aC c #[.slice az2 rr2.length cz2,.bool sp2] 115::L) w':=by
 refine cL Tryz.func120 Tryz.ntmps120 (En (Ls (Lg [0] (Dz (eN (af aA (List.replicate 32 (0:Int))) hs λi w2 a6=>Lo (Ld (Lt (Ls (Lg [0] (Dz (eN (af aA (List.replicate 32 (0:Int))) a6 λe w5 a7=>Lo (Ld (Lt (Ls (Lg [1] (Lw (Zc (pb Q r sp 32 (λw h=>hQ w (h.drop 2)) hq (a7.pl 2)) ?_)))))))))))))))))
 rintro c2 a9 ⟨a2,u,d,o,q,x,a0,rfl,a4,b0,b2⟩
 refine Lz (Ls (Lq (Lb (Dz ?_))))
 have h8:d.length<=32:=by have h7:=wq 32 (r,sp);rw [a4] at h7;exact h7
 have b3:=((b2.pl 1).pl 1).pl 2
 have b5:St w0 (aC e (af aA (d.take 0++List.replicate (32-0) 0)) 44::Sl a2 u 5 1 aA d::aC c #[.slice x o.length a0,.bool q] 115::aC i (af aA (List.replicate 32 (0:Int))) 44::L) a9:=b3
 refine bH.loop (T:=Nat) (λgg=>[(2,zP i 0),(3,zP e 0),(4,.slice a2 d.length u),(5,.int .i64 (gg:Nat))]) (λgg w=>(gg<=d.length)/\St w0 (aC e (af aA (d.take gg++List.replicate (32-gg) 0)) 44::Sl a2 u 5 1 aA d::aC c #[.slice x o.length a0,.bool q] 115::aC i (af aA (List.replicate 32 (0:Int))) 44::L) w) (λgg=>d.length-gg) 0 [2,3,4,5] zk ⟨Nat.zero_le _,b5⟩ ?_
 rintro k c3 ⟨hp,a1⟩
 refine En (Ls (Lq (Dz (Zi ((k:Int)<(d.length:Nat)) (λb6=>?_) (λb6=>?_)))))
 ·have hk:k<d.length:=za
  have hpl:=E1 (k:=k) za h8
  obtain⟨a3,rfl⟩:=Sl.isSome (a1.at_ 1 rfl) za
  refine Zk (Zt (Zs (Zb (bX [6] (Hx 3 (k:Int) (d.length:Int) a3 0 1 (Hg 4 (.gen [.int .u8 (d.getD k 0)]) [.cell ⟨a3,0+(k*1),none⟩ (.int .u8 (d.getD k 0))] (bP (aB.dX (a1.rows 1 rfl aF.size (0:Int)) (k:=k) zo (j:=0) zf zk) aO) (Hx 5 (k:Int) (32:Int) e 0 1 Hz))) (aU.store rfl rfl zk (b:=e) (off:=0+(k*1)) (v:=.int .u8 (d.getD k 0)) zk zk (ti:=Tryz.t5) zk a1 0 rfl zk zk (by rw [Nat.zero_add];exact fN (f:=aA) (size:=1) (l:=(d.take k++List.replicate (32-k) 0)) (k:=k) aF.size zo) (cs':=af aA ((d.take k++List.replicate (32-k) 0).set k (d.getD k 0))) (L':=(aC e (af aA ((d.take k++List.replicate (32-k) 0).set k (d.getD k 0))) 44)::Sl (some ⟨a3,0,none⟩) u 5 1 aA d::aC c #[.slice x o.length a0,.bool q] 115::aC i (af aA (List.replicate 32 (0:Int))) 44::L) (by rw [Nat.zero_add];exact eT (f:=aA) (size:=1) (l:=(d.take k++List.replicate (32-k) 0)) (k:=k) aF.size zo (d.getD k 0)) rfl λb7 b8=>Lo (Ld (Lm (Lt (Dz (cS (dW 1 ((k:Nat)+1) Hz) ?_))))))))))
  have b9:St w0 (aC e (af aA (d.take (k+1)++List.replicate (32-(k+1)) 0)) 44::Sl (some ⟨a3,0,none⟩) u 5 1 aA d::aC c #[.slice x o.length a0,.bool q] 115::aC i (af aA (List.replicate 32 (0:Int))) 44::L) b7:=(by rw [<- JZ hk h8];exact b8)
  exact aN.back (k+1) [2,3,4,5] zk (by show d.length-(k+1)<d.length-k;omega) ⟨za,b9⟩
 ·have hke:k=d.length:=za
  subst hke
  have hpl:=E1 (k:=d.length) za h8
  refine Zx (aN.cJ (aN.fJ (aN.iT (Zt (Zs (bX [1] (Hg 0 (.agg (af aA (d.take d.length++List.replicate (32-d.length) 0))) [.prop (Array.size (af aA (d.take d.length++List.replicate (32-d.length) 0))=32),.cells ⟨e,0,none⟩ (af aA (d.take d.length++List.replicate (32-d.length) 0))] (aL (bQ aF (show(d.take d.length++List.replicate (32-d.length) 0).length=32 from hpl) rfl) (eM (a1.cells 0 0 rfl zG) aO)) Hz) (aU.store rfl rfl zk (b:=i) (off:=0) (v:=.agg (af aA (d.take d.length++List.replicate (32-d.length) 0))) zk zk (ti:=Tryz.t44) zk a1 3 rfl (cK aF (show(d.take d.length++List.replicate (32-d.length) 0).length=32 from hpl) zk) (eQ aF) (eF aF (show(d.take d.length++List.replicate (32-d.length) 0).length=32 from hpl) (by rw [bQ aF (show(List.replicate 32 (0:Int)).length=32 from zf) (m:=32) rfl];rfl)) (cs':=af aA (d.take d.length++List.replicate (32-d.length) 0)) (L':=(aC e (af aA (d.take d.length++List.replicate (32-d.length) 0)) 44)::Sl a2 u 5 1 aA d::aC c #[.slice x o.length a0,.bool q] 115::aC i (af aA (d.take d.length++List.replicate (32-d.length) 0)) 44::L) (eX aF (show(d.take d.length++List.replicate (32-d.length) 0).length=32 from hpl) (by rw [bQ aF (show(List.replicate 32 (0:Int)).length=32 from zf) (m:=32) rfl];rfl)) rfl λc4 a5=>Lo (Ld (Lt (Le (Dz (aN.done (.inl rfl) (v:=.agg (af aA (d.take d.length++List.replicate (32-d.length) 0))) (λa hf=>gW rfl zk (ti:=Tryz.t44) zk zk (vs:=af aA (d.take d.length++List.replicate (32-d.length) 0)) (bQ aF (show(d.take d.length++List.replicate (32-d.length) 0).length=32 from hpl) zk) (a5.cells 3 0 rfl zG) a hf) ?_))))))))))))
  have h6:=lW (n:=32) (s:=(r,sp)) hq.nV
  rw [a4] at h6
  have h9:ow (r,sp)=(oN d,(o,q)):=by unfold ow;rw [a4]
  have c0:=(((a5.pl 2).pl 3).pl 3).pl 3
  exact⟨oN d,o,q,x,a0,congrArg Value.agg (by rw [List.take_length];exact NA h8),h9,te h6,b0,c0.dr 3⟩
def ud (r:eG):Bool :=
 (((((((decide ((r.cl:Int) >= 1)) && (decide ((r.cl:Int)<=8))) && (decide ((r.tm:Int) >= 1))) && (decide ((r.tm:Int)<=4611686018427387904))) && (decide ((r.op.ky.size:Int)<=32))) && (decide ((r.op.tx.size:Int)<=32))) && (decide ((r.op.va.size:Int)<=128))) && (decide ((r.op.ol.size:Int)<=128))
theorem uU r (hs:St w0 L w):Cs Tryz.prog 121 #[.agg (eG.cells r)] w λrv w'=>rv=.bool (ud r)/\St w0 L w':=by
 refine cL Tryz.func121 Tryz.ntmps121 (En (Ls (Lg [0] (Dz (hG (eG.cells r) hs λx w2 a=>Lz (Ls (Dz (bH.join (T:=Unit) (E:=λ_=>[(2,.bool ((((((((decide ((r.cl:Int) >= 1)) && (decide ((r.cl:Int)<=8))) && (decide ((r.tm:Int) >= 1))) && (decide ((r.tm:Int)<=4611686018427387904))) && (decide ((r.op.ky.size:Int)<=32))) && (decide ((r.op.tx.size:Int)<=32))) && (decide ((r.op.va.size:Int)<=128))) && (decide ((r.op.ol.size:Int)<=128))))]) (F:=λ_ w=>St w0 (aC x (eG.cells r) 46::L) w) ?_ ?_))))))))
 ·refine Zg [] (gS 0 4 (Hl 1 0 0 a Hz) (dB 6 (decide ((r.cl:Int) >= 1)) (λb=>?_) (λb=>?_)))
  ·refine gS 4 5 (Hl 5 0 0 a Hz) (dB 11 (decide ((r.cl:Int)<=8)) (λd=>?_) (λd=>?_))
   ·refine gS 9 5 (Hl 10 0 1 a Hz) (dB 16 (decide ((r.tm:Int) >= 1)) (λe=>?_) (λe=>?_))
    ·refine gS 14 5 (Hl 15 0 1 a Hz) (dB 21 (decide ((r.tm:Int)<=4611686018427387904)) (λf=>?_) (λf=>?_))
     ·refine gS 19 7 (Hl 21 0 3 a Hz) (dB 28 (decide ((r.op.ky.size:Int)<=32)) (λi=>?_) (λi=>?_))
      ·refine gS 26 7 (Hl 28 0 6 a Hz) (dB 35 (decide ((r.op.tx.size:Int)<=32)) (λo=>?_) (λo=>?_))
       ·refine gS 33 7 (Hl 35 0 4 a Hz) (dB 42 (decide ((r.op.va.size:Int)<=128)) (λq=>?_) (λq=>?_))
        ·exact lD (Hl 42 0 5 a Hz) (gB [2] () (decide ((r.op.ol.size:Int)<=128)) (by first|rfl|simp [Hb,b,d,e,f,i,o,q]) a)
        ·exact En (bO (Dz (gB [2] () false (by first|rfl|simp [Hb,b,d,e,f,i,o,q]) a)))
       ·exact En (bO (Dz (gB [2] () false (by first|rfl|simp [Hb,b,d,e,f,i,o]) a)))
      ·exact En (bO (Dz (gB [2] () false (by first|rfl|simp [Hb,b,d,e,f,i]) a)))
     ·exact En (bO (Dz (gB [2] () false (by first|rfl|simp [Hb,b,d,e,f]) a)))
    ·exact En (bO (Dz (gB [2] () false (by first|rfl|simp [Hb,b,d,e]) a)))
   ·exact En (bO (Dz (gB [2] () false (by first|rfl|simp [Hb,b,d]) a)))
  ·exact En (bO (Dz (gB [2] () false (by first|rfl|simp [Hb,b]) a)))
 intro _ a7 a6
 exact Zt (Ze (bL (v:=.bool ((((((((decide ((r.cl:Int) >= 1)) && (decide ((r.cl:Int)<=8))) && (decide ((r.tm:Int) >= 1))) && (decide ((r.tm:Int)<=4611686018427387904))) && (decide ((r.op.ky.size:Int)<=32))) && (decide ((r.op.tx.size:Int)<=32))) && (decide ((r.op.va.size:Int)<=128))) && (decide ((r.op.ol.size:Int)<=128)))) (qj (by rw [ud]) (a6.dr 1))))
theorem F2 (r:eG):ud r=jE r:=by
 unfold ud jE
 rw [Bool.eq_iff_iff]
 simp only [Bool.and_eq_true,decide_eq_true_eq]
 omega
theorem rV l r (hl:l.length<=100000) (hk:vv r) (hz:F1 r) (hs:St w0 (Sl ad c 5 1 aA l::L) w):Cs Tryz.prog 124 #[.slice ad l.length c,.agg (eG.cells r)] w λrv w'=>∃ ao co,rv=.slice ao ((l++uc r).length) co/\St w0 (Sl ao co 5 1 aA (l++uc r)::L) w':=by
 refine cL Tryz.func124 Tryz.ntmps124 (Zs ?_)
 have a6:=hz.ky
 have a7:=hz.va
 have a8:=hz.ol
 have a9:=hz.tx
 have b0:=hk.tm
 have b2:=hk.am
 refine Zg [0] (hG (eG.cells r) hs λz w2 a=>Lz (Ls (Dz (bX [7,8] (Hl 2 0 0 a (Hl 6 0 2 a Hz)) (tQ aP aF [(IntKind.u8.wrap r.cl:Int),(r.op.kd:Int)] a λb4 w5 a0=>Lo (Dz (oV aP aF (0:Int) (a0.pl 2) zy λb3 b5 w9 a2=>Lz (Ls (Dz (ZD (eR [0,1,2,4,5,6] (.ef 3 (.ef 7 (.rd 8 .done)))) a2 λb6 b b7=>Zj (Hl 2 2 1 b (Hl 6 2 7 b Hz)) (Zc (gK (l++([(IntKind.u8.wrap r.cl:Int),(r.op.kd:Int)])) r.tm zt hk.tm b) ?_)))))))))))
 rintro b8 b9 ⟨c0,c1,rfl,d⟩
 refine⟨fM (n:=[.cell ⟨z,7,none⟩ (.int .u64 r.op.am)]) zk (bP (d.cell 2 rfl zk) aO),Zc (gK ((l++([(IntKind.u8.wrap r.cl:Int),(r.op.kd:Int)]))++wd r.tm) r.op.am zt hk.am d) ?_⟩
 rintro c2 c3 ⟨c4,c5,rfl,e⟩
 refine Lz (Ls (Dz (bX [4] (Hl 3 2 3 e Hz) (Zc (pM (((l++([(IntKind.u8.wrap r.cl:Int),(r.op.kd:Int)]))++wd r.tm)++wd r.op.am) r.op.ky zt za e) ?_))))
 rintro c6 c7 ⟨c8,c9,rfl,f⟩
 refine Lz (Ls (Dz (bX [4] (Hl 3 2 4 f Hz) (Zc (pM ((((l++([(IntKind.u8.wrap r.cl:Int),(r.op.kd:Int)]))++wd r.tm)++wd r.op.am)++tx r.op.ky) r.op.va zt za f) ?_))))
 rintro d0 d1 ⟨d2,d3,rfl,i⟩
 refine Lz (Ls (Dz (bX [4] (Hl 3 2 5 i Hz) (Zc (pM (((((l++([(IntKind.u8.wrap r.cl:Int),(r.op.kd:Int)]))++wd r.tm)++wd r.op.am)++tx r.op.ky)++tx r.op.va) r.op.ol zt za i) ?_))))
 rintro d4 d5 ⟨d6,d7,rfl,o⟩
 refine Lz (Ls (Dz (bX [4] (Hl 3 2 6 o Hz) (Zc (pM ((((((l++([(IntKind.u8.wrap r.cl:Int),(r.op.kd:Int)]))++wd r.tm)++wd r.op.am)++tx r.op.ky)++tx r.op.va)++tx r.op.ol) r.op.tx zt za o) ?_))))
 rintro d8 d9 ⟨q,u,rfl,a3⟩
 refine Lz (Lq (Le (Dz (bL (v:=.slice q ((((((((l++([(IntKind.u8.wrap r.cl:Int),(r.op.kd:Int)]))++wd r.tm)++wd r.op.am)++tx r.op.ky)++tx r.op.va)++tx r.op.ol)++tx r.op.tx).length) u) ?_))))
 have a4:=((a3.pl 0).pl 2).pl 2
 have x:((((((l++([(IntKind.u8.wrap r.cl:Int),(r.op.kd:Int)]))++wd r.tm)++wd r.op.am)++tx r.op.ky)++tx r.op.va)++tx r.op.ol)++tx r.op.tx=l++uc r:=by simp only [uc,List.append_assoc]
 exact⟨q,u,by rw [x],by rw [<- x];exact(a4.dr 2)⟩
end
section
variable {w0 w : World} {L : List cA} {ad : Option Addr} {c : Nat}
structure kN (x:aV):Prop where
 kd:0<=x.kd/\x.kd<=255
 vw:0<=x.vw/\x.vw<=18446744073709551615
 k:0<=x.k/\x.k<=18446744073709551615
 rq:vv x.rq
 ql:∀ p∈x.ql,(-9223372036854775808<=p.rp/\p.rp<=9223372036854775807)/\(0<=p.nm/\p.nm<=18446744073709551615)
 dg:∀ z∈x.dg.toList,0<=z/\z<256
 qn:x.ql.length<=9223372036854775807
def lG (x:aV):Bool :=
 if x.kd=1 then jE x.rq else if x.kd=2\/x.kd=6 then kB x else if x.kd=4 then decide (x.vw >= 1) && rU x.ql else decide (x.vw >= 1)
def pz (p:bS):List Int:=[IntKind.u8.wrap p.rp]++wd p.nm
theorem Dx (p:bS):(pz p).length=9:=by rw [pz,List.length_append,aZ];rfl
theorem kW:∀ l:List bS,(l.flatMap pz).length=9*l.length
 | []=>rfl
 | p::l=>by rw [List.flatMap_cons,List.length_append,Dx,kW l,List.length_cons];omega
def E2 (x:aV):List Int:=wd x.vw++(uc x.rq++x.rq.tg.toList)
def Hv (x:aV):List Int:=wd x.vw++wd x.k
def F3 (x:aV):List Int:=wd x.vw++([IntKind.u8.wrap (x.ql.length:Nat)]++x.ql.flatMap pz)
def Hw (x:aV):List Int:=wd x.k++x.dg.toList
def oo (x:aV):List Int:=if x.kd=1 then E2 x else if x.kd=2 then Hv x else if x.kd=4 then F3 x else if x.kd=6 then Hw x else wd x.vw
theorem ue {r:eG}(h:jE r=true):F1 r:=by
 unfold jE at h
 repeat' split at h
 all_goals first|(cases h;done)|skip
 all_goals simp only [decide_eq_true_eq,Bool.and_eq_true] at *
 all_goals exact⟨za,za,za,za⟩
theorem F4 x (hs:St w0 L w):Cs Tryz.prog 174 #[.agg (aV.cells x)] w λrv w'=>rv=.bool (jE x.rq)/\St w0 L w':=by
 exact cL Tryz.func174 Tryz.ntmps174 (En (Ls (Lg [0] (Dz (hG (aV.cells x) hs λe f a=>Lz (Ls (Dz (bX [2] (fE 1 0 3 40 (eG.cells x.rq) a Hz) (eE (Dw x.rq a) λo b=>Lz (Le (Dz (bL (v:=.bool (jE x.rq)) ⟨rfl,b.dr 1⟩))))))))))))
theorem yx x (hs:St w0 L w):Cs Tryz.prog 219 #[.agg (aV.cells x)] w λrv w'=>rv=.bool (decide ((x.vw:Int) >= 1))/\St w0 L w':=by
 exact cL Tryz.func219 Tryz.ntmps219 (En (Ls (Lg [0] (Dz (hG (aV.cells x) hs λd e a=>Lz (Ls (Dz (cS (Hl 1 0 1 a Hz) (Zt (Ze (bL (v:=.bool (decide ((x.vw:Int) >= 1))) ⟨rfl,a.dr 1⟩)))))))))))
theorem F5 x (hqn:x.ql.length<=9223372036854775807) (hr:Rw w0 L bS.cells 2 cD x.qa x.ql) (hs:St w0 L w):Cs Tryz.prog 182 #[.agg (aV.cells x)] w λrv w'=>rv=.bool (decide ((x.vw:Int) >= 1) && rU x.ql)/\St w0 L w':=by
 refine cL Tryz.func182 Tryz.ntmps182 (En (Ls (Lg [0] (Dz (hG (aV.cells x) hs λq u b=>Lz (Ls (Lg [6] (Dz (gS 0 4 (Hl 1 0 1 b Hz) (dB 6 (decide ((x.vw:Int) >= 1)) (λa=>?_) (λa=>?_)))))))))))
 ·refine Zj (Hl 5 0 43 b Hz) (dE (f:=183) (args:=#[.slice x.qa x.ql.length x.qc]) Tryz.call183 (B4 x.ql zc (λw h=>hr _ (h.drop 1)) b) ?_)
  rintro z w7 ⟨rfl,e⟩
  exact Lz (Le (Dz (bL (v:=.bool (rU x.ql)) ⟨(by rw [a];rfl),e.dr 1⟩)))
 ·exact En (Lw (gH (En (bO (Lt (Le (Dz (bL (v:=.bool false) ⟨(by rw [a];rfl),b.dr 1⟩))))))))
theorem zv {p:Prop}(h:p:=by simp only [List.length_append,List.length_cons,List.length_nil,aZ,fU,bI.len,kW] at *;omega):p:=h
theorem F6 l x (hl:l.length<=90000) (hx:kN x) (hz:F1 x.rq) (hs:St w0 (Sl ad c 5 1 aA l::L) w):Cs Tryz.prog 170 #[.slice ad l.length c,.agg (aV.cells x)] w λrv w'=>∃ ao co,rv=.slice ao ((l++E2 x).length) co/\St w0 (Sl ao co 5 1 aA (l++E2 x)::L) w':=by
 refine cL Tryz.func170 Tryz.ntmps170 (Zs ?_)
 have a4:=hx.vw
 have hrl:=pO hz
 refine Zg [0] (hG (aV.cells x) hs λa w2 q=>Lz (Ls (Dz (ZD (eR [0,1,2,4,5,7,8,9] (.ef 3 (.ef 6 (.ef 10 (.rd 11 .done))))) q λw4 b a5=>Zj (Hl 2 0 1 b (fE 5 0 3 40 (eG.cells x.rq) b (Hg 9 (.eJ (zL a 11 x.rq.tg.toList.length 32) (.sub 0 32)) [.prop (((none:Option Operand)=none->(0:Nat)=0)/\((none:Option Operand)=none->(32:Nat)=32)/\(0:Nat)<=32/\(32:Nat)<=32),.prop (Value.slice (some (if 32=0 then Addr.mk a 11 none else (Addr.mk a 11 none).add (0*1))) (32-0) (32-0)=Value.slice (some ⟨a,11,none⟩) x.rq.tg.toList.length 32)] (aL ⟨(by first|(intro _;rfl)|(intro hc;cases hc)),(by first|(intro _;rfl)|(intro hc;cases hc)),za,za⟩ (aL (by rw [bI.len];exact dM _ _ _ _ _ zf) aO)) Hz))) (Zc (eU l x.vw zg za (b.pl 1)) ?_)))))
 rintro a6 a7 ⟨a8,a9,rfl,d⟩
 refine⟨fM (n:=[.prop (((none:Option Operand)=none->(0:Nat)=0)/\((none:Option Operand)=none->(32:Nat)=32)/\(0:Nat)<=32/\(32:Nat)<=32),.prop (Value.slice (some (if 32=0 then Addr.mk a 11 none else (Addr.mk a 11 none).add (0*1))) (32-0) (32-0)=Value.slice (some ⟨a,11,none⟩) x.rq.tg.toList.length 32),.prop (Array.size (eG.cells x.rq)=40),.cells ⟨a,3,none⟩ (eG.cells x.rq)]) zk (aL ⟨(by first|(intro _;rfl)|(intro hc;cases hc)),(by first|(intro _;rfl)|(intro hc;cases hc)),za,za⟩ (aL (by rw [bI.len];exact dM _ _ _ _ _ zf) (aL zk (eM (d.cells 1 3 rfl zk) aO)))),Zc (AE (l++wd x.vw) x.rq zv hx.rq hz d) ?_⟩
 rintro b0 b2 ⟨z,a0,rfl,e⟩
 refine⟨fM (n:=[.prop (((none:Option Operand)=none->(0:Nat)=0)/\((none:Option Operand)=none->(32:Nat)=32)/\(0:Nat)<=32/\(32:Nat)<=32),.prop (Value.slice (some (if 32=0 then Addr.mk a 11 none else (Addr.mk a 11 none).add (0*1))) (32-0) (32-0)=Value.slice (some ⟨a,11,none⟩) x.rq.tg.toList.length 32)]) zk (aL ⟨(by first|(intro _;rfl)|(intro hc;cases hc)),(by first|(intro _;rfl)|(intro hc;cases hc)),za,za⟩ (aL (by rw [bI.len];exact dM _ _ _ _ _ zf) aO)),(aU.append rfl zk aP aF (ad:=z) (c:=a0) (xs:=(l++wd x.vw)++uc x.rq) (ys:=x.rq.tg.toList) (adx:=some ⟨a,11,none⟩) (cx:=32) (0:Int) zk e (bI.sM e 1 11 x.rq.tg rfl zk) (λh=>nomatch h) zv zv λf i b3 a1=>Lz (Le (Dz (bL (v:=.slice f ((((l++wd x.vw)++uc x.rq)++x.rq.tg.toList).length) i) ?_))))⟩
 have a2:=(a1.pl 0).pl 1
 have o:((l++wd x.vw)++uc x.rq)++x.rq.tg.toList=l++E2 x:=by simp only [E2,Hv,F3,Hw,List.append_assoc]
 exact⟨f,i,by rw [o],by rw [<- o];exact(a2.dr 1)⟩
theorem F7 l x (hl:l.length<=90000) (hx:kN x) (hs:St w0 (Sl ad c 5 1 aA l::L) w):Cs Tryz.prog 176 #[.slice ad l.length c,.agg (aV.cells x)] w λrv w'=>∃ ao co,rv=.slice ao ((l++Hv x).length) co/\St w0 (Sl ao co 5 1 aA (l++Hv x)::L) w':=by
 refine cL Tryz.func176 Tryz.ntmps176 (Zs ?_)
 have a1:=hx.vw
 have a2:=hx.k
 refine Zg [0] (hG (aV.cells x) hs λi w2 o=>Lz (Ls (Dz (ZD (eR [0,1,2,4,5] (.ef 3 (.ef 6 (.rd 7 .done)))) o λw4 a a3=>Zj (Hl 2 0 1 a (Hl 5 0 2 a Hz)) (Zc (eU l x.vw zg za (a.pl 1)) ?_)))))
 rintro a4 a5 ⟨a6,a7,rfl,b⟩
 refine⟨fM (n:=[.cell ⟨i,2,none⟩ (.int .u64 x.k)]) zk (bP (b.cell 1 rfl zk) aO),Zc (eU (l++wd x.vw) x.k zg za b) ?_⟩
 rintro a8 a9 ⟨d,e,rfl,u⟩
 refine Lz (Le (Dz (bL (v:=.slice d ((l++wd x.vw++wd x.k).length) e) ?_)))
 have z:=(u.pl 0).pl 1
 have f:l++wd x.vw++wd x.k=l++Hv x:=by simp only [E2,Hv,F3,Hw,List.append_assoc]
 exact⟨d,e,by rw [f],by rw [<- f];exact(z.dr 1)⟩
theorem yz l x (hl:l.length<=90000) (hx:kN x) (hs:St w0 (Sl ad c 5 1 aA l::L) w):Cs Tryz.prog 217 #[.slice ad l.length c,.agg (aV.cells x)] w λrv w'=>∃ ao co,rv=.slice ao ((l++wd x.vw).length) co/\St w0 (Sl ao co 5 1 aA (l++wd x.vw)::L) w':=by
 refine cL Tryz.func217 Tryz.ntmps217 (Zs ?_)
 have u:=hx.vw
 have z:=hx.k
 refine Zg [0] (hG (aV.cells x) hs λb1 w2 a=>Lz (Ls (Dz (bX [3] (Hl 2 0 1 a Hz) (Zc (eU l x.vw zg za (a.pl 1)) ?_)))))
 rintro v8 w9 ⟨b,d,rfl,i⟩
 refine Lz (Le (Dz (bL (v:=.slice b ((l++wd x.vw).length) d) ?_)))
 have o:=(i.pl 0).pl 1
 have e:l++wd x.vw=l++wd x.vw:=by simp only [E2,Hv,F3,Hw,List.append_assoc]
 exact⟨b,d,by rw [e],by rw [<- e];exact(o.dr 1)⟩
theorem F8 l x (hl:l.length<=90000) (hx:kN x) (hs:St w0 (Sl ad c 5 1 aA l::L) w):Cs Tryz.prog 184 #[.slice ad l.length c,.agg (aV.cells x)] w λrv w'=>∃ ao co,rv=.slice ao ((l++Hw x).length) co/\St w0 (Sl ao co 5 1 aA (l++Hw x)::L) w':=by
 refine cL Tryz.func184 Tryz.ntmps184 (Zs ?_)
 have a3:=hx.vw
 have a4:=hx.k
 refine Zg [0] (hG (aV.cells x) hs λa w2 o=>Lz (Ls (Dz (ZD (eR [0,1,2,4,5] (.ef 3 (.ef 6 (.rd 7 .done)))) o λw4 b a5=>Zj (Hl 2 0 2 b (Hg 5 (.eJ (zL a 44 x.dg.toList.length 32) (.sub 0 32)) [.prop (((none:Option Operand)=none->(0:Nat)=0)/\((none:Option Operand)=none->(32:Nat)=32)/\(0:Nat)<=32/\(32:Nat)<=32),.prop (Value.slice (some (if 32=0 then Addr.mk a 44 none else (Addr.mk a 44 none).add (0*1))) (32-0) (32-0)=Value.slice (some ⟨a,44,none⟩) x.dg.toList.length 32)] (aL ⟨(by first|(intro _;rfl)|(intro hc;cases hc)),(by first|(intro _;rfl)|(intro hc;cases hc)),za,za⟩ (aL (by rw [bI.len];exact dM _ _ _ _ _ zf) aO)) Hz)) (Zc (eU l x.k zg za (b.pl 1)) ?_)))))
 rintro a6 a7 ⟨u,z,rfl,d⟩
 refine⟨fM (n:=[.prop (((none:Option Operand)=none->(0:Nat)=0)/\((none:Option Operand)=none->(32:Nat)=32)/\(0:Nat)<=32/\(32:Nat)<=32),.prop (Value.slice (some (if 32=0 then Addr.mk a 44 none else (Addr.mk a 44 none).add (0*1))) (32-0) (32-0)=Value.slice (some ⟨a,44,none⟩) x.dg.toList.length 32)]) zk (aL ⟨(by first|(intro _;rfl)|(intro hc;cases hc)),(by first|(intro _;rfl)|(intro hc;cases hc)),za,za⟩ (aL (by rw [bI.len];exact dM _ _ _ _ _ zf) aO)),(aU.append rfl zk aP aF (ad:=u) (c:=z) (xs:=l++wd x.k) (ys:=x.dg.toList) (adx:=some ⟨a,44,none⟩) (cx:=32) (0:Int) zk d (bI.sM d 1 44 x.dg rfl zk) (λh=>nomatch h) zv zv λe f a8 a0=>Lz (Le (Dz (bL (v:=.slice e (((l++wd x.k)++x.dg.toList).length) f) ?_))))⟩
 have a1:=(a0.pl 0).pl 1
 have i:(l++wd x.k)++x.dg.toList=l++Hw x:=by simp only [E2,Hv,F3,Hw,List.append_assoc]
 exact⟨e,f,by rw [i],by rw [<- i];exact(a1.dr 1)⟩
theorem F9 l x (hl:l.length<=90000) (hx:kN x) (hlq:x.ql.length<=1000) (hr:Rw w0 L bS.cells 2 cD x.qa x.ql) (hs:St w0 (Sl ad c 5 1 aA l::L) w):Cs Tryz.prog 180 #[.slice ad l.length c,.agg (aV.cells x)] w λrv w'=>∃ ao co,rv=.slice ao ((l++F3 x).length) co/\St w0 (Sl ao co 5 1 aA (l++F3 x)::L) w':=by
 refine cL Tryz.func180 Tryz.ntmps180 (Zs ?_)
 have d9:=hx.vw
 have e0:=hx.k
 refine Zg [0] (hG (aV.cells x) hs λa w2 b2=>Lz (Ls (Dz (bH.join (T:=Option Addr×Nat×Nat) (E:=λjx=>[(0,.slice jx.1 (((l++wd x.vw)++([(IntKind.u8.wrap (x.ql.length:Nat):Int)])).length) jx.2.1),(3,zP a 0),(4,.slice none 0 0)]) (F:=λjx w=>St w0 (Sl jx.1 jx.2.1 5 1 aA ((l++wd x.vw)++([(IntKind.u8.wrap (x.ql.length:Nat):Int)]))::Sl (some ⟨jx.2.2,0,none⟩) 1 5 1 aA ([(IntKind.u8.wrap (x.ql.length:Nat):Int)])::aC a (aV.cells x) 49::L) w) ?_ ?_))))
 ·refine bH.vr [0,0,2,7,0,16,48,112,240,511,1023] (.rd 0 (.rd 1 (.rd 2 (.rd 4 (.rd 5 (.rd 6 (.rd 7 (.alt (.ef 3 (.ef 8 (.ef 9 (.rd 10 .done)))) (.ef 8 (.ef 3 (.ef 9 (.rd 10 .done)))))))))))) zk zk fX zk b2 λw4 u e1=>Zh [(0,.gen []),(1,.gen []),(2,.gen [.int .u64 x.vw]),(4,.gen []),(5,.gen [.slice x.qa x.ql.length x.qc]),(6,.gen []),(7,.gen [])] [(2,[.cell ⟨a,1,none⟩ (.int .u64 x.vw)]),(5,[.cell ⟨a,43,none⟩ (.slice x.qa x.ql.length x.qc)])] (ak (bP (u.cell 0 rfl zk) aO) (ak (bP (u.cell 0 rfl zk) aO) gQ)) (aU.alt ?_ ?_)
  ·refine Zc (eU l x.vw zg za (u.pl 1)) ?_
   rintro e2 e3 ⟨e4,e5,rfl,a2⟩
   exact⟨fM (n:=[.cell ⟨a,43,none⟩ (.slice x.qa x.ql.length x.qc)]) zk (bP (a2.cell 1 rfl zk) aO),(tQ aP aF [(IntKind.u8.wrap (x.ql.length:Nat):Int)] a2 λb4 e6 a3=>⟨fM (n:=[.cell ⟨a,1,none⟩ (.int .u64 x.vw)]) zk (bP (a3.cell 2 rfl zk) aO),(oV aP aF (0:Int) (a3.pl 1) zv λb6 b7 e7 b8=>Lo (Dz (Zr 10 1 [] (Zd (oU [0,3,4] (b6,b7,b4) b8)))))⟩)⟩
  refine tQ aP aF [(IntKind.u8.wrap (x.ql.length:Nat):Int)] u λb9 e8 a4=>⟨fM (n:=[.cell ⟨a,1,none⟩ (.int .u64 x.vw)]) zk (bP (a4.cell 1 rfl zk) aO),Zc (eU l x.vw zg za (a4.pl 2)) ?_⟩
  rintro e9 f0 ⟨f1,f2,rfl,a5⟩
  exact⟨fM (n:=[.cell ⟨a,43,none⟩ (.slice x.qa x.ql.length x.qc)]) zk (bP (a5.cell 2 rfl zk) aO),(oV aP aF (0:Int) a5 zv λc2 c3 f3 c4=>Lo (Dz (Zr 10 1 [] (Zd (oU [0,3,4] (c2,c3,b9) c4)))))⟩
 rintro⟨b,e,c5⟩ c6 c7
 have a6:St w0 (Sl b e 5 1 aA ((l++wd x.vw)++([(IntKind.u8.wrap (x.ql.length:Nat):Int)]))::Sl (some ⟨c5,0,none⟩) 1 5 1 aA ([(IntKind.u8.wrap (x.ql.length:Nat):Int)])::aC a (aV.cells x) 49::L) c6:=c7
 refine aN.fK (S':=[(0,.slice b (((l++wd x.vw)++([(IntKind.u8.wrap (x.ql.length:Nat):Int)])).length) e),(3,zP a 0),(4,.slice none 0 0)]) rfl (Zt (Zs (Zs (cS (Hl 1 2 43 a6 Hz) (Zt (Zb ?_))))))
 have c8:=((a6.pl 0).pl 2).pl 2
 refine Zn [(20,.int .i64 0),(19,.int .i64 (x.ql.length:Nat)),(18,.slice x.qa x.ql.length x.qc),(0,.slice b (((l++wd x.vw)++([(IntKind.u8.wrap (x.ql.length:Nat):Int)])).length) e),(4,.slice none 0 0)] (bH.fK (S':=[(20,.int .i64 0),(19,.int .i64 (x.ql.length:Nat)),(18,.slice x.qa x.ql.length x.qc),(0,.slice b (((l++(wd x.vw++[IntKind.u8.wrap (x.ql.length:Nat)]))++(x.ql.take 0).flatMap pz).length) e),(4,.slice none 0 0)]) (by rw [(show(l++wd x.vw)++([(IntKind.u8.wrap (x.ql.length:Nat):Int)])=(l++(wd x.vw++[IntKind.u8.wrap (x.ql.length:Nat)]))++(x.ql.take 0).flatMap pz by simp only [List.append_assoc,List.take_zero,List.flatMap_nil,List.append_nil])]) (bH.loop (T:=Nat×(Option Addr)×(Option Addr)×Nat) (λgg=>[(0,.slice gg.2.2.1 (((l++(wd x.vw++[IntKind.u8.wrap (x.ql.length:Nat)]))++(x.ql.take gg.1).flatMap pz).length) gg.2.2.2),(4,.slice none 0 0),(18,.slice gg.2.1 x.ql.length x.qc),(19,.int .i64 (x.ql.length:Nat)),(20,.int .i64 (gg.1:Nat))]) (λgg w=>(gg.1<=x.ql.length/\∀ w,St w0 L w->aB w gg.2.1 x.ql.length 2 (λq=>bS.cells (x.ql.getD q cD)))/\St w0 (Sl gg.2.2.1 gg.2.2.2 5 1 aA ((l++(wd x.vw++[IntKind.u8.wrap (x.ql.length:Nat)]))++(x.ql.take gg.1).flatMap pz)::L) w) (λgg=>x.ql.length-gg.1) (0,x.qa,b,e) [0,4,18,19,20] zk ⟨⟨Nat.zero_le _,hr⟩,Mz (c8.dr 2) (show(l++wd x.vw)++([(IntKind.u8.wrap (x.ql.length:Nat):Int)])=(l++(wd x.vw++[IntKind.u8.wrap (x.ql.length:Nat)]))++(x.ql.take 0).flatMap pz by simp only [List.append_assoc,List.take_zero,List.flatMap_nil,List.append_nil])⟩ ?_))
 rintro⟨k,aq,a7,c1⟩ f4 ⟨hp,f⟩
 dsimp only at hp f
 have hw:=hp.2
 refine En (Lq (Ls (Dz (Zi ((k:Int)<(x.ql.length:Nat)) (λd1=>?_) (λd1=>?_)))))
 ·have hk:k<x.ql.length:=za
  have hpk:=hx.ql _ (bC (d:=cD) hk)
  have htk:(x.ql.take k).length=k:=by rw [List.length_take];omega
  have hfk:=kW (x.ql.take k)
  obtain⟨i,o,rfl⟩:=aB.isSome (hw _ (f.drop 1)) za
  refine Zk (Zt (Zs (Zb (Zs (bX [2,3] (Hx 0 (k:Int) (x.ql.length:Int) i o 2 (Hg 1 (.agg (bS.cells (x.ql.getD k cD))) [.prop (Array.size (bS.cells (x.ql.getD k cD))=2),.cells ⟨i,o+(k*2),none⟩ (bS.cells (x.ql.getD k cD))] (aL zk (eM (aB.iJ (hw _ (f.drop 1)) zo (Nat.le_of_ble_eq_true zk) zk) aO)) Hz)) (eN (bS.cells cD) f λa8 f5 d2=>Lo (Dz (Zu 0 0 (bS.cells (x.ql.getD k cD)) d2 λf6 d3=>Lo (Ld (Lt (Dz (ZD (eR [0,1,2,3,6,7] (.ef 4 (.ef 5 (.ef 8 (.rd 9 .done))))) d3 λf7 z f8=>Zj (Hl 2 0 0 z (Hl 7 0 1 z Hz)) (tQ aP aF [(IntKind.u8.wrap ((x.ql.getD k cD).rp):Int)] z λf9 g0 a9=>⟨fM (n:=[.cell ⟨a8,1,none⟩ (.int .u64 ((x.ql.getD k cD).nm))]) zk (bP (a9.cell 1 rfl zk) aO),(oV aP aF (0:Int) (a9.pl 2) zv λg5 g7 g8 b0=>⟨fM (n:=[.cell ⟨a8,1,none⟩ (.int .u64 ((x.ql.getD k cD).nm))]) zk (bP (b0.cell 2 rfl zk) aO),Zc (eU (((l++(wd x.vw++[IntKind.u8.wrap (x.ql.length:Nat)]))++(x.ql.take k).flatMap pz)++([(IntKind.u8.wrap ((x.ql.getD k cD).rp):Int)])) ((x.ql.getD k cD).nm) zg za b0) ?_⟩)⟩)))))))))))))
  rintro g9 h0 ⟨a0,a1,rfl,d5⟩
  refine Lo (bO (Lm (Lt (Dz (cS (dW 0 ((k:Nat)+1) Hz) ?_)))))
  have d6:=((d5.pl 0).pl 2).pl 2
  exact aN.pick [20,0,4,18,19] (S':=[(20,.int .i64 ((k:Nat)+1)),(0,.slice a0 ((((l++(wd x.vw++[IntKind.u8.wrap (x.ql.length:Nat)]))++(x.ql.take k).flatMap pz)++([(IntKind.u8.wrap ((x.ql.getD k cD).rp):Int)])++wd ((x.ql.getD k cD).nm)).length) a1),(4,.slice none 0 0),(18,zL i o x.ql.length x.qc),(19,.int .i64 (x.ql.length:Nat))]) zk (aN.fK (S':=[(20,.int .i64 ((k:Nat)+1)),(0,.slice a0 (((l++(wd x.vw++[IntKind.u8.wrap (x.ql.length:Nat)]))++(x.ql.take (k+1)).flatMap pz).length) a1),(4,.slice none 0 0),(18,zL i o x.ql.length x.qc),(19,.int .i64 (x.ql.length:Nat))]) (by rw [(show((l++(wd x.vw++[IntKind.u8.wrap (x.ql.length:Nat)]))++(x.ql.take k).flatMap pz)++([(IntKind.u8.wrap ((x.ql.getD k cD).rp):Int)])++wd ((x.ql.getD k cD).nm)=(l++(wd x.vw++[IntKind.u8.wrap (x.ql.length:Nat)]))++(x.ql.take (k+1)).flatMap pz by rw [bA (d:=cD) hk,List.flatMap_append];simp only [List.append_assoc,List.flatMap_cons,List.flatMap_nil,List.append_nil,pz])]) (aN.back (k+1,some ⟨i,o,none⟩,a0,a1) [0,4,18,19,20] zk (by show x.ql.length-(k+1)<x.ql.length-k;omega) ⟨⟨za,hw⟩,Mz (d6.dr 2) (show((l++(wd x.vw++[IntKind.u8.wrap (x.ql.length:Nat)]))++(x.ql.take k).flatMap pz)++([(IntKind.u8.wrap ((x.ql.getD k cD).rp):Int)])++wd ((x.ql.getD k cD).nm)=(l++(wd x.vw++[IntKind.u8.wrap (x.ql.length:Nat)]))++(x.ql.take (k+1)).flatMap pz by rw [bA (d:=cD) hk,List.flatMap_append];simp only [List.append_assoc,List.flatMap_cons,List.flatMap_nil,List.append_nil,pz])⟩))
 ·have hke:x.ql.take k=x.ql:=List.take_of_length_le za
  refine En (Lx (kD (kE (Lh (Lt (Lq (Le (Dz (bL (v:=.slice a7 (((l++(wd x.vw++[IntKind.u8.wrap (x.ql.length:Nat)]))++(x.ql.take k).flatMap pz).length) c1) ?_)))))))))
  have h9:(l++(wd x.vw++[IntKind.u8.wrap (x.ql.length:Nat)]))++(x.ql.take k).flatMap pz=l++F3 x:=by rw [hke];simp only [F3,List.append_assoc]
  exact⟨a7,c1,by rw [h9],by rw [<- h9];exact f⟩
end
section
variable {w0 w : World} {L : List cA} {c : Nat} {az : Option Addr} {cz : Nat}
def g1 (s:CS):aV×CS :=
 let a:=aW s
 let b:=MB a.2
 (⟨1,a.1,0,b.1,none,0,[],aK⟩,b.2)
def g2 (s:CS):aV×CS :=
 let a:=aW s
 let b:=aW a.2
 (⟨2,a.1,b.1,cN,none,0,[],aK⟩,b.2)
def g3 (kd:Int) (s:CS):aV×CS :=
 let a:=aW s
 (⟨kd,a.1,0,cN,none,0,[],aK⟩,a.2)
def sx:Nat->CS->List bS->List bS×CS
 | 0,s,q=>(q,s)
 | n+1,s,q=>if s.2=true then (q,s) else sx n (aW (cG s).2).2 (q++[⟨(cG s).1,(aW (cG s).2).1⟩])
def g4 (s:CS):aV×CS :=
 let a:=aW s
 let n:=cG a.2
 let q:=sx n.1.toNat n.2 []
 (⟨4,a.1,0,cN,none,0,q.1,aK⟩,q.2)
def g6 (s:CS):aV×CS :=
 let a:=aW s
 let b:=ow a.2
 (⟨6,0,a.1,cN,none,0,[],b.1⟩,b.2)
def gL (kd:Int) (s:CS):aV×CS:=if kd=1 then g1 s else if kd=2 then g2 s else if kd=4 then g4 s else if kd=6 then g6 s else g3 kd s
def qm (x:aV):aV:=⟨x.kd,x.vw,x.k,x.rq,none,0,x.ql,x.dg⟩
theorem cO:∀ z∈aK.toList,0<=z/\z<256:=zf
theorem fZ:vv cN:=⟨zf,zf,zf,zf,cO⟩
theorem Dy {y:Nat}Q r sp kd (hQ:∀ w,St w0 L w->Q.holds w) (hq:bG Q az r cz) (hkr:0<=kd/\kd<=255) (hkd:kd=1) (hs:St w0 (aC c #[.slice az r.length cz,.bool sp] 173::aC y (aV.cells (⟨kd,0,0,cN,none,0,[],aK⟩:aV)) 49::L) w):Cs Tryz.prog 172 #[zP c 0,zP y 0] w λrv w'=>∃ yy2 rr2 sp2 az2 cz2,rv=.tuple #[]/\gL kd (r,sp)=(qm yy2,(rr2,sp2))/\kN yy2/\bG Q az2 rr2 cz2/\St w0 (aC y (aV.cells yy2) 49::Sl yy2.qa yy2.qc 190 2 bS.cells yy2.ql::aC c #[.slice az2 rr2.length cz2,.bool sp2] 173::L) w':=by
 refine cL Tryz.func172 Tryz.ntmps172 (En (Lg [3,5,8,11] (Lw (Zc (bT Q r sp (λw h=>hQ w (h.drop 1)) hq hs) ?_))))
 rintro a8 a9 ⟨b,rr2,e,b0,b1,rfl,f,b2,i,o⟩
 refine Lo (Lw (Zc (qg Q rr2 e (λw h=>hQ w (h.drop 1)) i o) ?_))
 rintro b3 b4 ⟨d,q,u,x,z,rfl,a0,a1,a2,a3⟩
 refine Lo (Lw (Zu 1 1 (aV.cells (⟨kd,b,0,cN,none,0,[],aK⟩:aV)) a3 λb5 a4=>Lo (Lw (Zu 1 3 (aV.cells (⟨kd,b,0,d,none,0,[],aK⟩:aV)) a4 λb6 a5=>Lo (Ld (Dz (aN.done (.inr rfl) (λa hf=>results0 rfl a hf) ?_)))))))
 have a6:=St.bJ a5 190 2 bS.cells
 exact⟨(⟨kd,b,0,d,none,0,[],aK⟩:aV),q,u,x,z,rfl,(if_pos hkd:gL kd (r,sp)=g1 (r,sp)).trans (by unfold g1;simp only [f,a0];rw [hkd];rfl),⟨hkr,zF,zq,a1,(λp hp=>by cases hp),cO,Nat.zero_le _⟩,a2,((a6.pl 1).pl 1).pl 2⟩
theorem DA {y:Nat}Q r sp kd (hQ:∀ w,St w0 L w->Q.holds w) (hq:bG Q az r cz) (hkr:0<=kd/\kd<=255) (hkd:kd=2) (hs:St w0 (aC c #[.slice az r.length cz,.bool sp] 173::aC y (aV.cells (⟨kd,0,0,cN,none,0,[],aK⟩:aV)) 49::L) w):Cs Tryz.prog 177 #[zP c 0,zP y 0] w λrv w'=>∃ yy2 rr2 sp2 az2 cz2,rv=.tuple #[]/\gL kd (r,sp)=(qm yy2,(rr2,sp2))/\kN yy2/\bG Q az2 rr2 cz2/\St w0 (aC y (aV.cells yy2) 49::Sl yy2.qa yy2.qc 190 2 bS.cells yy2.ql::aC c #[.slice az2 rr2.length cz2,.bool sp2] 173::L) w':=by
 refine cL Tryz.func177 Tryz.ntmps177 (En (Lg [3,5,8,11] (Lw (Zc (bT Q r sp (λw h=>hQ w (h.drop 1)) hq hs) ?_))))
 rintro a7 a8 ⟨b,rr2,e,a9,b0,rfl,f,b1,i,o⟩
 refine Lo (Lw (Zc (bT Q rr2 e (λw h=>hQ w (h.drop 1)) i o) ?_))
 rintro b2 b3 ⟨d,q,u,x,z,rfl,a0,b4,a1,a2⟩
 refine Lo (Lw (Zu 1 1 (aV.cells (⟨kd,b,0,cN,none,0,[],aK⟩:aV)) a2 λb5 a3=>Lo (Lw (Zu 1 2 (aV.cells (⟨kd,b,d,cN,none,0,[],aK⟩:aV)) a3 λb6 a4=>Lo (Ld (Dz (aN.done (.inr rfl) (λa hf=>results0 rfl a hf) ?_)))))))
 have a5:=St.bJ a4 190 2 bS.cells
 exact⟨(⟨kd,b,d,cN,none,0,[],aK⟩:aV),q,u,x,z,rfl,((if_neg za).trans (if_pos hkd):gL kd (r,sp)=g2 (r,sp)).trans (by unfold g2;simp only [f,a0];rw [hkd];rfl),⟨hkr,zF,zF,fZ,(λp hp=>by cases hp),cO,Nat.zero_le _⟩,a1,((a5.pl 1).pl 1).pl 2⟩
theorem wx {y:Nat}Q r sp kd (hQ:∀ w,St w0 L w->Q.holds w) (hq:bG Q az r cz) (hkr:0<=kd/\kd<=255) (hkd:kd=3\/kd=5) (hs:St w0 (aC c #[.slice az r.length cz,.bool sp] 173::aC y (aV.cells (⟨kd,0,0,cN,none,0,[],aK⟩:aV)) 49::L) w):Cs Tryz.prog 218 #[zP c 0,zP y 0] w λrv w'=>∃ yy2 rr2 sp2 az2 cz2,rv=.tuple #[]/\gL kd (r,sp)=(qm yy2,(rr2,sp2))/\kN yy2/\bG Q az2 rr2 cz2/\St w0 (aC y (aV.cells yy2) 49::Sl yy2.qa yy2.qc 190 2 bS.cells yy2.ql::aC c #[.slice az2 rr2.length cz2,.bool sp2] 173::L) w':=by
 refine cL Tryz.func218 Tryz.ntmps218 (En (Lg [2,5] (Lw (Zc (bT Q r sp (λw h=>hQ w (h.drop 1)) hq hs) ?_))))
 rintro a0 a1 ⟨b,rr2,d,e,f,rfl,i,a2,o,q⟩
 refine Lo (Lw (Zu 1 1 (aV.cells (⟨kd,b,0,cN,none,0,[],aK⟩:aV)) q λa3 u=>Lo (Ld (Dz (aN.done (.inr rfl) (λa hf=>results0 rfl a hf) ?_)))))
 have x:=St.bJ u 190 2 bS.cells
 exact⟨(⟨kd,b,0,cN,none,0,[],aK⟩:aV),rr2,d,e,f,rfl,((if_neg za).trans ((if_neg za).trans ((if_neg za).trans (if_neg za))):gL kd (r,sp)=g3 kd (r,sp)).trans (by unfold g3;simp only [i];rfl),⟨hkr,zF,zq,fZ,(λp hp=>by cases hp),cO,Nat.zero_le _⟩,o,((x.pl 1).pl 1).pl 2⟩
theorem DB {y:Nat}Q r sp kd (hQ:∀ w,St w0 L w->Q.holds w) (hq:bG Q az r cz) (hkr:0<=kd/\kd<=255) (hkd:kd=6) (hs:St w0 (aC c #[.slice az r.length cz,.bool sp] 173::aC y (aV.cells (⟨kd,0,0,cN,none,0,[],aK⟩:aV)) 49::L) w):Cs Tryz.prog 185 #[zP c 0,zP y 0] w λrv w'=>∃ yy2 rr2 sp2 az2 cz2,rv=.tuple #[]/\gL kd (r,sp)=(qm yy2,(rr2,sp2))/\kN yy2/\bG Q az2 rr2 cz2/\St w0 (aC y (aV.cells yy2) 49::Sl yy2.qa yy2.qc 190 2 bS.cells yy2.ql::aC c #[.slice az2 rr2.length cz2,.bool sp2] 173::L) w':=by
 refine cL Tryz.func185 Tryz.ntmps185 (En (Lg [3,5,8,11] (Lw (Zc (bT Q r sp (λw h=>hQ w (h.drop 1)) hq hs) ?_))))
 rintro a8 a9 ⟨b,rr2,e,b0,b1,rfl,f,b2,i,o⟩
 refine Lo (Lw (Zc (rD Q rr2 e (λw h=>hQ w (h.drop 1)) i o) ?_))
 rintro b3 b4 ⟨d,q,u,x,z,rfl,a0,a1,a2,a3⟩
 refine Lo (Lw (Zu 1 2 (aV.cells (⟨kd,0,b,cN,none,0,[],aK⟩:aV)) a3 λb5 a4=>Lo (Lw (Zu 1 44 (aV.cells (⟨kd,0,b,cN,none,0,[],d⟩:aV)) a4 λb6 a5=>Lo (Ld (Dz (aN.done (.inr rfl) (λa hf=>results0 rfl a hf) ?_)))))))
 have a6:=St.bJ a5 190 2 bS.cells
 exact⟨(⟨kd,0,b,cN,none,0,[],d⟩:aV),q,u,x,z,rfl,((if_neg za).trans ((if_neg za).trans ((if_neg za).trans (if_pos hkd))):gL kd (r,sp)=g6 (r,sp)).trans (by unfold g6;simp only [f,a0];rw [hkd];rfl),⟨hkr,zq,zF,fZ,(λp hp=>by cases hp),a1,Nat.zero_le _⟩,a2,((a6.pl 1).pl 1).pl 2⟩
theorem DC {y:Nat}{og:Int}{nr:Int}{dp:cW}{tg:bI}Q r sp kd (hQ:∀ w,St w0 L w->Q.holds w) (hq:bG Q az r cz) (hkr:0<=kd/\kd<=255) (hkd:kd=1) (hs:St w0 (aC c #[.slice az r.length cz,.bool sp] 173::aC y (aD.cells (⟨og,nr,dp,(⟨kd,0,0,cN,none,0,[],aK⟩:aV),tg⟩:aD)) 51::L) w):Cs Tryz.prog 172 #[zP c 0,zP y 13] w λrv w'=>∃ yy2 rr2 sp2 az2 cz2,rv=.tuple #[]/\gL kd (r,sp)=(qm yy2,(rr2,sp2))/\kN yy2/\bG Q az2 rr2 cz2/\St w0 (aC y (aD.cells (⟨og,nr,dp,yy2,tg⟩:aD)) 51::Sl yy2.qa yy2.qc 190 2 bS.cells yy2.ql::aC c #[.slice az2 rr2.length cz2,.bool sp2] 173::L) w':=by
 refine cL Tryz.func172 Tryz.ntmps172 (En (Lg [3,5,8,11] (Lw (Zc (bT Q r sp (λw h=>hQ w (h.drop 1)) hq hs) ?_))))
 rintro a8 a9 ⟨b,rr2,e,b0,b1,rfl,f,b2,i,o⟩
 refine Lo (Lw (Zc (qg Q rr2 e (λw h=>hQ w (h.drop 1)) i o) ?_))
 rintro b3 b4 ⟨d,q,u,x,z,rfl,a0,a1,a2,a3⟩
 refine Lo (Lw (Zu 1 14 (aD.cells (⟨og,nr,dp,(⟨kd,b,0,cN,none,0,[],aK⟩:aV),tg⟩:aD)) a3 λb5 a4=>Lo (Lw (Zu 1 16 (aD.cells (⟨og,nr,dp,(⟨kd,b,0,d,none,0,[],aK⟩:aV),tg⟩:aD)) a4 λb6 a5=>Lo (Ld (Dz (aN.done (.inr rfl) (λa hf=>results0 rfl a hf) ?_)))))))
 have a6:=St.bJ a5 190 2 bS.cells
 exact⟨(⟨kd,b,0,d,none,0,[],aK⟩:aV),q,u,x,z,rfl,(if_pos hkd:gL kd (r,sp)=g1 (r,sp)).trans (by unfold g1;simp only [f,a0];rw [hkd];rfl),⟨hkr,zF,zq,a1,(λp hp=>by cases hp),cO,Nat.zero_le _⟩,a2,((a6.pl 1).pl 1).pl 2⟩
theorem DD {y:Nat}{og:Int}{nr:Int}{dp:cW}{tg:bI}Q r sp kd (hQ:∀ w,St w0 L w->Q.holds w) (hq:bG Q az r cz) (hkr:0<=kd/\kd<=255) (hkd:kd=2) (hs:St w0 (aC c #[.slice az r.length cz,.bool sp] 173::aC y (aD.cells (⟨og,nr,dp,(⟨kd,0,0,cN,none,0,[],aK⟩:aV),tg⟩:aD)) 51::L) w):Cs Tryz.prog 177 #[zP c 0,zP y 13] w λrv w'=>∃ yy2 rr2 sp2 az2 cz2,rv=.tuple #[]/\gL kd (r,sp)=(qm yy2,(rr2,sp2))/\kN yy2/\bG Q az2 rr2 cz2/\St w0 (aC y (aD.cells (⟨og,nr,dp,yy2,tg⟩:aD)) 51::Sl yy2.qa yy2.qc 190 2 bS.cells yy2.ql::aC c #[.slice az2 rr2.length cz2,.bool sp2] 173::L) w':=by
 refine cL Tryz.func177 Tryz.ntmps177 (En (Lg [3,5,8,11] (Lw (Zc (bT Q r sp (λw h=>hQ w (h.drop 1)) hq hs) ?_))))
 rintro a7 a8 ⟨b,rr2,e,a9,b0,rfl,f,b1,i,o⟩
 refine Lo (Lw (Zc (bT Q rr2 e (λw h=>hQ w (h.drop 1)) i o) ?_))
 rintro b2 b3 ⟨d,q,u,x,z,rfl,a0,b4,a1,a2⟩
 refine Lo (Lw (Zu 1 14 (aD.cells (⟨og,nr,dp,(⟨kd,b,0,cN,none,0,[],aK⟩:aV),tg⟩:aD)) a2 λb5 a3=>Lo (Lw (Zu 1 15 (aD.cells (⟨og,nr,dp,(⟨kd,b,d,cN,none,0,[],aK⟩:aV),tg⟩:aD)) a3 λb6 a4=>Lo (Ld (Dz (aN.done (.inr rfl) (λa hf=>results0 rfl a hf) ?_)))))))
 have a5:=St.bJ a4 190 2 bS.cells
 exact⟨(⟨kd,b,d,cN,none,0,[],aK⟩:aV),q,u,x,z,rfl,((if_neg za).trans (if_pos hkd):gL kd (r,sp)=g2 (r,sp)).trans (by unfold g2;simp only [f,a0];rw [hkd];rfl),⟨hkr,zF,zF,fZ,(λp hp=>by cases hp),cO,Nat.zero_le _⟩,a1,((a5.pl 1).pl 1).pl 2⟩
theorem wy {y:Nat}{og:Int}{nr:Int}{dp:cW}{tg:bI}Q r sp kd (hQ:∀ w,St w0 L w->Q.holds w) (hq:bG Q az r cz) (hkr:0<=kd/\kd<=255) (hkd:kd=3\/kd=5) (hs:St w0 (aC c #[.slice az r.length cz,.bool sp] 173::aC y (aD.cells (⟨og,nr,dp,(⟨kd,0,0,cN,none,0,[],aK⟩:aV),tg⟩:aD)) 51::L) w):Cs Tryz.prog 218 #[zP c 0,zP y 13] w λrv w'=>∃ yy2 rr2 sp2 az2 cz2,rv=.tuple #[]/\gL kd (r,sp)=(qm yy2,(rr2,sp2))/\kN yy2/\bG Q az2 rr2 cz2/\St w0 (aC y (aD.cells (⟨og,nr,dp,yy2,tg⟩:aD)) 51::Sl yy2.qa yy2.qc 190 2 bS.cells yy2.ql::aC c #[.slice az2 rr2.length cz2,.bool sp2] 173::L) w':=by
 refine cL Tryz.func218 Tryz.ntmps218 (En (Lg [2,5] (Lw (Zc (bT Q r sp (λw h=>hQ w (h.drop 1)) hq hs) ?_))))
 rintro a0 a1 ⟨b,rr2,d,e,f,rfl,i,a2,o,q⟩
 refine Lo (Lw (Zu 1 14 (aD.cells (⟨og,nr,dp,(⟨kd,b,0,cN,none,0,[],aK⟩:aV),tg⟩:aD)) q λa3 u=>Lo (Ld (Dz (aN.done (.inr rfl) (λa hf=>results0 rfl a hf) ?_)))))
 have x:=St.bJ u 190 2 bS.cells
 exact⟨(⟨kd,b,0,cN,none,0,[],aK⟩:aV),rr2,d,e,f,rfl,((if_neg za).trans ((if_neg za).trans ((if_neg za).trans (if_neg za))):gL kd (r,sp)=g3 kd (r,sp)).trans (by unfold g3;simp only [i];rfl),⟨hkr,zF,zq,fZ,(λp hp=>by cases hp),cO,Nat.zero_le _⟩,o,((x.pl 1).pl 1).pl 2⟩
theorem DE {y:Nat}{og:Int}{nr:Int}{dp:cW}{tg:bI}Q r sp kd (hQ:∀ w,St w0 L w->Q.holds w) (hq:bG Q az r cz) (hkr:0<=kd/\kd<=255) (hkd:kd=6) (hs:St w0 (aC c #[.slice az r.length cz,.bool sp] 173::aC y (aD.cells (⟨og,nr,dp,(⟨kd,0,0,cN,none,0,[],aK⟩:aV),tg⟩:aD)) 51::L) w):Cs Tryz.prog 185 #[zP c 0,zP y 13] w λrv w'=>∃ yy2 rr2 sp2 az2 cz2,rv=.tuple #[]/\gL kd (r,sp)=(qm yy2,(rr2,sp2))/\kN yy2/\bG Q az2 rr2 cz2/\St w0 (aC y (aD.cells (⟨og,nr,dp,yy2,tg⟩:aD)) 51::Sl yy2.qa yy2.qc 190 2 bS.cells yy2.ql::aC c #[.slice az2 rr2.length cz2,.bool sp2] 173::L) w':=by
 refine cL Tryz.func185 Tryz.ntmps185 (En (Lg [3,5,8,11] (Lw (Zc (bT Q r sp (λw h=>hQ w (h.drop 1)) hq hs) ?_))))
 rintro a8 a9 ⟨b,rr2,e,b0,b1,rfl,f,b2,i,o⟩
 refine Lo (Lw (Zc (rD Q rr2 e (λw h=>hQ w (h.drop 1)) i o) ?_))
 rintro b3 b4 ⟨d,q,u,x,z,rfl,a0,a1,a2,a3⟩
 refine Lo (Lw (Zu 1 15 (aD.cells (⟨og,nr,dp,(⟨kd,0,b,cN,none,0,[],aK⟩:aV),tg⟩:aD)) a3 λb5 a4=>Lo (Lw (Zu 1 57 (aD.cells (⟨og,nr,dp,(⟨kd,0,b,cN,none,0,[],d⟩:aV),tg⟩:aD)) a4 λb6 a5=>Lo (Ld (Dz (aN.done (.inr rfl) (λa hf=>results0 rfl a hf) ?_)))))))
 have a6:=St.bJ a5 190 2 bS.cells
 exact⟨(⟨kd,0,b,cN,none,0,[],d⟩:aV),q,u,x,z,rfl,((if_neg za).trans ((if_neg za).trans ((if_neg za).trans (if_pos hkd))):gL kd (r,sp)=g6 (r,sp)).trans (by unfold g6;simp only [f,a0];rw [hkd];rfl),⟨hkr,zq,zF,fZ,(λp hp=>by cases hp),a1,Nat.zero_le _⟩,a2,((a6.pl 1).pl 1).pl 2⟩
theorem Lc {n:Nat}(h:n+1<=255):Value.int .u8 (IntKind.u8.wrap ((n+1:Nat)-1))=.int .u8 (n:Nat):=by
 congr 1
 show(((n+1:Nat):Int)-1) % 256=_
 omega
theorem rE {n:Nat}{r r1 r2:List Int}{sp p1 p2:Bool}{q:List bS}{a b:Int}(h0:sp=false) (h1:cG (r,sp)=(a,(r1,p1))) (h2:aW (r1,p1)=(b,(r2,p2))):sx (n+1) (r,sp) q=sx n (r2,p2) (q++[⟨a,b⟩]):=by
 show(if sp=true then (q,(r,sp)) else _)=_
 rw [if_neg (by rw [h0];decide)]
 simp only [h1,h2]
theorem pd {n:Nat}{r:List Int}{sp:Bool}{q:List bS}(h:n=0\/sp=true):sx n (r,sp) q=(q,(r,sp)):=by
 cases n with
 | zero=>rfl
 | succ n =>
  obtain h|h:=h
  ·cases h
  ·show(if sp=true then (q,(r,sp)) else _)=_
   rw [if_pos h]
theorem DF {y:Nat}Q r sp kd (hQ:∀ w,St w0 L w->Q.holds w) (hq:bG Q az r cz) (hkr:0<=kd/\kd<=255) (hkd:kd=4) (hs:St w0 (aC c #[.slice az r.length cz,.bool sp] 173::aC y (aV.cells (⟨kd,0,0,cN,none,0,[],aK⟩:aV)) 49::L) w):Cs Tryz.prog 181 #[zP c 0,zP y 0] w λrv w'=>∃ yy2 rr2 sp2 az2 cz2,rv=.tuple #[]/\gL kd (r,sp)=(qm yy2,(rr2,sp2))/\kN yy2/\bG Q az2 rr2 cz2/\St w0 (aC y (aV.cells yy2) 49::Sl yy2.qa yy2.qc 190 2 bS.cells yy2.ql::aC c #[.slice az2 rr2.length cz2,.bool sp2] 173::L) w':=by
 refine cL Tryz.func181 Tryz.ntmps181 (En (Ls (Lg [2,5] (Lw (Zc (bT Q r sp (λw h=>hQ w (h.drop 1)) hq hs) ?_)))))
 rintro f4 f5 ⟨o,rr2,c4,f6,f7,rfl,a7,f8,c5,c6⟩
 refine Lo (Lw (Zu 1 1 (aV.cells (⟨kd,o,0,cN,none,0,[],aK⟩:aV)) c6 λf9 c7=>Lo (Ld (Lt (Ls (Lg [1] (Lw (Zc (gD Q rr2 c4 (λw h=>hQ w (h.drop 1)) c5 c7) ?_))))))))
 rintro g0 c8 ⟨a8,a2,a3,a9,b0,rfl,a4,g5,c9,d0⟩
 refine Lz (Lb (Dz ?_))
 have hnr:=gT a4
 obtain⟨nb,rfl⟩:∃ m:Nat,a8=(m:Int):=⟨a8.toNat,za⟩
 have d1:=St.bJ d0 190 2 bS.cells
 have d2:=((d1.pl 1).pl 2).pl 2
 have d3:St w0 (Sl none 0 190 2 bS.cells ([]:List bS)::aC y (aV.cells (⟨kd,o,0,cN,none,0,([]:List bS),aK⟩:aV)) 49::aC c #[.slice a9 a2.length b0,.bool a3] 173::L) c8:=d2
 refine bH.loop (T:=Nat×(List Int)×Bool×(Option Addr)×Nat×(Option Addr)×Nat×(List bS)) (λgg=>[(0,zP c 0),(1,zP y 0),(4,.int .u8 (gg.1:Nat))]) (λgg w=>(gg.1<=255/\sx nb (a2,a3) []=sx gg.1 (gg.2.1,gg.2.2.1) gg.2.2.2.2.2.2.2/\bG Q gg.2.2.2.1 gg.2.1 gg.2.2.2.2.1/\(∀ p∈gg.2.2.2.2.2.2.2,(-9223372036854775808<=p.rp/\p.rp<=9223372036854775807)/\(0<=p.nm/\p.nm<=18446744073709551615))/\gg.2.2.2.2.2.2.2.length+gg.1<=255)/\St w0 (Sl gg.2.2.2.2.2.1 gg.2.2.2.2.2.2.1 190 2 bS.cells gg.2.2.2.2.2.2.2::aC y (aV.cells (⟨kd,o,0,cN,gg.2.2.2.2.2.1,gg.2.2.2.2.2.2.1,gg.2.2.2.2.2.2.2,aK⟩:aV)) 49::aC c #[.slice gg.2.2.2.1 gg.2.1.length gg.2.2.2.2.1,.bool gg.2.2.1] 173::L) w) (λgg=>gg.1) (nb,a2,a3,a9,b0,none,0,([]:List bS)) [0,1,4] zk ⟨⟨za,rfl,c9,λp hp=>(by cases hp),by simp only [List.length_nil];omega⟩,d3⟩ ?_
 rintro⟨n2,a1,i,b1,b2,q,u,b⟩ g7 ⟨hp,a5⟩
 dsimp only at hp a5
 refine En (Ls (Ls (Lg [4] (Dz (Zr 0 3 [] (C9 14 ((n2:Int)>0) (λd4=>?_) (λd4=>?_)))))))
 ·have g8:0<n2:=za
  refine En (Lw (eE (iQ a1 i (a5.pl 2)) λh0 b3=>Lz (Dz (cZ (t:=!i) (λa6=>?_) (λa6=>?_)))))
  ·have hsf:i=false:=by simpa using a6
   obtain⟨x,rfl⟩:∃ m,n2=m+1:=⟨n2-1,za⟩
   refine Zk (Zt (Zs (Zb (ZD (eR [0,1,2,3,4,5,8] (.ef 6 (.rd 7 (.ef 9 (.rd 10 (.ef 11 (.ef 12 (eR [13,14] (.ef 15 .done))))))))) b3 λh1 b4 h2=>Zj (Hl 4 2 43 b4 Hz) (Zc (gD Q a1 i (λw h=>hQ w (h.drop 2)) hp.2.2.1 b4) ?_)))))
   rintro h3 h4 ⟨d,d6,d7,h5,h6,rfl,d8,h7,d9,b5⟩
   refine⟨fM (n:=[.cell ⟨y,43,none⟩ (.slice q b.length u)]) zk (bP (b5.cell 2 rfl zk) aO),Zj (dW 7 d Hz) (Zc (bT Q d6 d7 (λw h=>hQ w (h.drop 2)) d9 b5) ?_)⟩
   rintro h8 i0 ⟨a0,b6,b7,b8,b9,rfl,e0,i1,e1,c0⟩
   refine⟨fM (n:=[.prop (Value.int .i64 (IntKind.i64.wrap d)=Value.int .i64 d),.cell ⟨y,43,none⟩ (.slice q b.length u)]) zk (aL (kF za za) (bP (c0.cell 2 rfl zk) aO)),En (Lw (aU.cT rfl zk (t:=47) (e:=190) (n:=1) (ps:=[(0,.agg (bS.cells (⟨d,a0⟩:bS)))]) zk zk (ti:=Tryz.t190) (z:=.agg (bS.cells cD)) zk zk zf zf (cs:=bS.cells (⟨d,a0⟩:bS)) zk c0 λe2 e3 e4 e5=>?_))⟩
   have c1:St w0 (Sl (some ⟨e2,0,none⟩) 1 190 2 bS.cells ([((⟨d,a0⟩:bS):bS)])::aC c #[.slice b8 b6.length b9,.bool b7] 173::Sl q u 190 2 bS.cells b::aC y (aV.cells (⟨kd,o,0,cN,q,u,b,aK⟩:aV)) 49::L) e3:=St.lS (l:=[((⟨d,a0⟩:bS):bS)]) (f:=bS.cells) e4 e5 vu.size zl zk
   refine⟨fM (n:=[.cell ⟨y,43,none⟩ (.slice q b.length u)]) zk (bP (c1.cell 3 rfl zk) aO),(oV HP vu cD (c1.pl 2) zj λc2 c3 i2 e7=>Lo (Lw (Zu 3 43 (aV.cells (⟨kd,o,0,cN,c2,c3,(b++([((⟨d,a0⟩:bS):bS)])),aK⟩:aV)) e7 λi3 e8=>Lo (Ld (Lm (Lt (Dz (cS (Hg 1 (.eJ (.int .u8 (x:Nat)) (.gen [])) [.prop (Value.int .u8 (IntKind.u8.wrap (((x+1):Nat)-1))=Value.int .u8 (x:Nat))] (aL (Lc za) aO) Hz) ?_))))))))⟩
   have e9:=(((e8.pl 2).pl 3).pl 2).pl 3
   exact aN.back (x,b6,b7,b8,b9,c2,c3,(b++[(⟨d,a0⟩:bS)])) [0,1,4] zk (by show x<(x+1);omega) ⟨⟨za,by rw [hp.2.1,rE hsf d8 e0],e1,λp f1=>(List.mem_append.1 f1).elim (hp.2.2.2.1 p) (λh9=>by rw [List.mem_singleton.1 h9];exact⟨zq,zq⟩),by show(b++[_]).length+x<=255;have:=hp.2.2.2.2;simp only [List.length_append,List.length_cons,List.length_nil];omega⟩,e9.dr 1⟩
  ·have hend:n2=0\/i=true:=.inr (by simpa using a6)
   exact Zx (aN.cJ (aN.fJ (aN.iT (aN.done (.inr rfl) (λa hf=>results0 rfl a hf) ⟨(⟨kd,o,0,cN,q,u,b,aK⟩:aV),a1,i,b1,b2,rfl,((if_neg za).trans ((if_neg za).trans (if_pos hkd)):gL kd (r,sp)=g4 (r,sp)).trans (by unfold g4;simp only [a7,a4,Int.toNat_natCast];rw [hp.2.1,pd hend,hkd];rfl),⟨hkr,zF,zq,fZ,hp.2.2.2.1,cO,(by have:=hp.2.2.2.2;dsimp only;omega)⟩,hp.2.2.1,((b3.pl 0).pl 1).pl 2⟩))))
 ·have hend:n2=0\/i=true:=.inl za
  exact En (Lw (gH (En (bO (Lt (LF (Lx (kD (kE (Lh (Dz (aN.done (.inr rfl) (λa hf=>results0 rfl a hf) ⟨(⟨kd,o,0,cN,q,u,b,aK⟩:aV),a1,i,b1,b2,rfl,((if_neg za).trans ((if_neg za).trans (if_pos hkd)):gL kd (r,sp)=g4 (r,sp)).trans (by unfold g4;simp only [a7,a4,Int.toNat_natCast];rw [hp.2.1,pd hend,hkd];rfl),⟨hkr,zF,zq,fZ,hp.2.2.2.1,cO,(by have:=hp.2.2.2.2;dsimp only;omega)⟩,hp.2.2.1,((a5.pl 2).pl 1).pl 2⟩))))))))))))
theorem DG {y:Nat}{og:Int}{nr:Int}{dp:cW}{tg:bI}Q r sp kd (hQ:∀ w,St w0 L w->Q.holds w) (hq:bG Q az r cz) (hkr:0<=kd/\kd<=255) (hkd:kd=4) (hs:St w0 (aC c #[.slice az r.length cz,.bool sp] 173::aC y (aD.cells (⟨og,nr,dp,(⟨kd,0,0,cN,none,0,[],aK⟩:aV),tg⟩:aD)) 51::L) w):Cs Tryz.prog 181 #[zP c 0,zP y 13] w λrv w'=>∃ yy2 rr2 sp2 az2 cz2,rv=.tuple #[]/\gL kd (r,sp)=(qm yy2,(rr2,sp2))/\kN yy2/\bG Q az2 rr2 cz2/\St w0 (aC y (aD.cells (⟨og,nr,dp,yy2,tg⟩:aD)) 51::Sl yy2.qa yy2.qc 190 2 bS.cells yy2.ql::aC c #[.slice az2 rr2.length cz2,.bool sp2] 173::L) w':=by
 refine cL Tryz.func181 Tryz.ntmps181 (En (Ls (Lg [2,5] (Lw (Zc (bT Q r sp (λw h=>hQ w (h.drop 1)) hq hs) ?_)))))
 rintro f4 f5 ⟨o,rr2,c4,f6,f7,rfl,a7,f8,c5,c6⟩
 refine Lo (Lw (Zu 1 14 (aD.cells (⟨og,nr,dp,(⟨kd,o,0,cN,none,0,[],aK⟩:aV),tg⟩:aD)) c6 λf9 c7=>Lo (Ld (Lt (Ls (Lg [1] (Lw (Zc (gD Q rr2 c4 (λw h=>hQ w (h.drop 1)) c5 c7) ?_))))))))
 rintro g0 c8 ⟨a8,a2,a3,a9,b0,rfl,a4,g5,c9,d0⟩
 refine Lz (Lb (Dz ?_))
 have hnr:=gT a4
 obtain⟨nb,rfl⟩:∃ m:Nat,a8=(m:Int):=⟨a8.toNat,za⟩
 have d1:=St.bJ d0 190 2 bS.cells
 have d2:=((d1.pl 1).pl 2).pl 2
 have d3:St w0 (Sl none 0 190 2 bS.cells ([]:List bS)::aC y (aD.cells (⟨og,nr,dp,(⟨kd,o,0,cN,none,0,([]:List bS),aK⟩:aV),tg⟩:aD)) 51::aC c #[.slice a9 a2.length b0,.bool a3] 173::L) c8:=d2
 refine bH.loop (T:=Nat×(List Int)×Bool×(Option Addr)×Nat×(Option Addr)×Nat×(List bS)) (λgg=>[(0,zP c 0),(1,zP y 13),(4,.int .u8 (gg.1:Nat))]) (λgg w=>(gg.1<=255/\sx nb (a2,a3) []=sx gg.1 (gg.2.1,gg.2.2.1) gg.2.2.2.2.2.2.2/\bG Q gg.2.2.2.1 gg.2.1 gg.2.2.2.2.1/\(∀ p∈gg.2.2.2.2.2.2.2,(-9223372036854775808<=p.rp/\p.rp<=9223372036854775807)/\(0<=p.nm/\p.nm<=18446744073709551615))/\gg.2.2.2.2.2.2.2.length+gg.1<=255)/\St w0 (Sl gg.2.2.2.2.2.1 gg.2.2.2.2.2.2.1 190 2 bS.cells gg.2.2.2.2.2.2.2::aC y (aD.cells (⟨og,nr,dp,(⟨kd,o,0,cN,gg.2.2.2.2.2.1,gg.2.2.2.2.2.2.1,gg.2.2.2.2.2.2.2,aK⟩:aV),tg⟩:aD)) 51::aC c #[.slice gg.2.2.2.1 gg.2.1.length gg.2.2.2.2.1,.bool gg.2.2.1] 173::L) w) (λgg=>gg.1) (nb,a2,a3,a9,b0,none,0,([]:List bS)) [0,1,4] zk ⟨⟨za,rfl,c9,λp hp=>(by cases hp),by simp only [List.length_nil];omega⟩,d3⟩ ?_
 rintro⟨n2,a1,i,b1,b2,q,u,b⟩ g7 ⟨hp,a5⟩
 dsimp only at hp a5
 refine En (Ls (Ls (Lg [4] (Dz (Zr 0 3 [] (C9 14 ((n2:Int)>0) (λd4=>?_) (λd4=>?_)))))))
 ·have g8:0<n2:=za
  refine En (Lw (eE (iQ a1 i (a5.pl 2)) λh0 b3=>Lz (Dz (cZ (t:=!i) (λa6=>?_) (λa6=>?_)))))
  ·have hsf:i=false:=by simpa using a6
   obtain⟨x,rfl⟩:∃ m,n2=m+1:=⟨n2-1,za⟩
   refine Zk (Zt (Zs (Zb (ZD (eR [0,1,2,3,4,5,8] (.ef 6 (.rd 7 (.ef 9 (.rd 10 (.ef 11 (.ef 12 (eR [13,14] (.ef 15 .done))))))))) b3 λh1 b4 h2=>Zj (Hl 4 2 56 b4 Hz) (Zc (gD Q a1 i (λw h=>hQ w (h.drop 2)) hp.2.2.1 b4) ?_)))))
   rintro h3 h4 ⟨d,d6,d7,h5,h6,rfl,d8,h7,d9,b5⟩
   refine⟨fM (n:=[.cell ⟨y,56,none⟩ (.slice q b.length u)]) zk (bP (b5.cell 2 rfl zk) aO),Zj (dW 7 d Hz) (Zc (bT Q d6 d7 (λw h=>hQ w (h.drop 2)) d9 b5) ?_)⟩
   rintro h8 i0 ⟨a0,b6,b7,b8,b9,rfl,e0,i1,e1,c0⟩
   refine⟨fM (n:=[.prop (Value.int .i64 (IntKind.i64.wrap d)=Value.int .i64 d),.cell ⟨y,56,none⟩ (.slice q b.length u)]) zk (aL (kF za za) (bP (c0.cell 2 rfl zk) aO)),En (Lw (aU.cT rfl zk (t:=47) (e:=190) (n:=1) (ps:=[(0,.agg (bS.cells (⟨d,a0⟩:bS)))]) zk zk (ti:=Tryz.t190) (z:=.agg (bS.cells cD)) zk zk zf zf (cs:=bS.cells (⟨d,a0⟩:bS)) zk c0 λe2 e3 e4 e5=>?_))⟩
   have c1:St w0 (Sl (some ⟨e2,0,none⟩) 1 190 2 bS.cells ([((⟨d,a0⟩:bS):bS)])::aC c #[.slice b8 b6.length b9,.bool b7] 173::Sl q u 190 2 bS.cells b::aC y (aD.cells (⟨og,nr,dp,(⟨kd,o,0,cN,q,u,b,aK⟩:aV),tg⟩:aD)) 51::L) e3:=St.lS (l:=[((⟨d,a0⟩:bS):bS)]) (f:=bS.cells) e4 e5 vu.size zl zk
   refine⟨fM (n:=[.cell ⟨y,56,none⟩ (.slice q b.length u)]) zk (bP (c1.cell 3 rfl zk) aO),(oV HP vu cD (c1.pl 2) zj λc2 c3 i2 e7=>Lo (Lw (Zu 3 56 (aD.cells (⟨og,nr,dp,(⟨kd,o,0,cN,c2,c3,(b++([((⟨d,a0⟩:bS):bS)])),aK⟩:aV),tg⟩:aD)) e7 λi3 e8=>Lo (Ld (Lm (Lt (Dz (cS (Hg 1 (.eJ (.int .u8 (x:Nat)) (.gen [])) [.prop (Value.int .u8 (IntKind.u8.wrap (((x+1):Nat)-1))=Value.int .u8 (x:Nat))] (aL (Lc za) aO) Hz) ?_))))))))⟩
   have e9:=(((e8.pl 2).pl 3).pl 2).pl 3
   exact aN.back (x,b6,b7,b8,b9,c2,c3,(b++[(⟨d,a0⟩:bS)])) [0,1,4] zk (by show x<(x+1);omega) ⟨⟨za,by rw [hp.2.1,rE hsf d8 e0],e1,λp f1=>(List.mem_append.1 f1).elim (hp.2.2.2.1 p) (λh9=>by rw [List.mem_singleton.1 h9];exact⟨zq,zq⟩),by show(b++[_]).length+x<=255;have:=hp.2.2.2.2;simp only [List.length_append,List.length_cons,List.length_nil];omega⟩,e9.dr 1⟩
  ·have hend:n2=0\/i=true:=.inr (by simpa using a6)
   exact Zx (aN.cJ (aN.fJ (aN.iT (aN.done (.inr rfl) (λa hf=>results0 rfl a hf) ⟨(⟨kd,o,0,cN,q,u,b,aK⟩:aV),a1,i,b1,b2,rfl,((if_neg za).trans ((if_neg za).trans (if_pos hkd)):gL kd (r,sp)=g4 (r,sp)).trans (by unfold g4;simp only [a7,a4,Int.toNat_natCast];rw [hp.2.1,pd hend,hkd];rfl),⟨hkr,zF,zq,fZ,hp.2.2.2.1,cO,(by have:=hp.2.2.2.2;dsimp only;omega)⟩,hp.2.2.1,((b3.pl 0).pl 1).pl 2⟩))))
 ·have hend:n2=0\/i=true:=.inl za
  exact En (Lw (gH (En (bO (Lt (LF (Lx (kD (kE (Lh (Dz (aN.done (.inr rfl) (λa hf=>results0 rfl a hf) ⟨(⟨kd,o,0,cN,q,u,b,aK⟩:aV),a1,i,b1,b2,rfl,((if_neg za).trans ((if_neg za).trans (if_pos hkd)):gL kd (r,sp)=g4 (r,sp)).trans (by unfold g4;simp only [a7,a4,Int.toNat_natCast];rw [hp.2.1,pd hend,hkd];rfl),⟨hkr,zF,zq,fZ,hp.2.2.2.1,cO,(by have:=hp.2.2.2.2;dsimp only;omega)⟩,hp.2.2.1,((a5.pl 2).pl 1).pl 2⟩))))))))))))
end
section
variable {w0 w : World} {L : List cA} {ay : Option Addr} {cy : Nat} {ax : Option Addr} {cx : Nat}
theorem B5 x y (hll:x.length<=9223372036854775807) (hr1:Rw w0 L bS.cells 2 cD ax x) (hr2:Rw w0 L bS.cells 2 cD ay y) (hs:St w0 L w):Cs Tryz.prog 214 #[.slice ax x.length cx,.slice ay y.length cy] w λrv w'=>rv=.bool (decide (x=y))/\St w0 L w':=by
 refine cL Tryz.func214 Tryz.ntmps214 (En (Lq (Ls (Lq (Dz (cZ (t:=(x.length:Int) != (y.length:Nat)) (λh1=>?_) (λh1=>?_)))))))
 ·have a4:=tU h1
  exact En (Lq (Le (Ly (Dz (bL (v:=.bool false) ⟨(by rw [decide_eq_false λh9=>absurd (congrArg List.length h9) za]),hs⟩)))))
 ·have a4:=sR h1
  have hln:x.length=y.length:=za
  refine En (Lk (Lt (Ls (Lq (Lb (Dz (bH.loop (T:=Nat×(Option Addr)×(Option Addr)) (λgg=>[(0,.slice gg.2.1 x.length cx),(1,.slice gg.2.2 y.length cy),(12,.int .i64 (x.length:Nat)),(13,.int .i64 (gg.1:Nat))]) (λgg w=>(gg.1<=x.length/\x.take gg.1=y.take gg.1/\(∀ w,St w0 L w->aB w gg.2.1 x.length 2 (λq=>bS.cells (x.getD q cD)))/\(∀ w,St w0 L w->aB w gg.2.2 y.length 2 (λq=>bS.cells (y.getD q cD))))/\St w0 L w) (λgg=>x.length-gg.1) (0,ax,ay) [0,1,12,13] zk ⟨⟨Nat.zero_le _,rfl,hr1,hr2⟩,hs⟩ ?_)))))))
  rintro⟨k,aq,bq⟩ w2 ⟨hp,a⟩
  dsimp only at hp a
  have a1:=hp.2.2.1
  have a2:=hp.2.2.2
  refine En (Lq (Ls (Dz (Zi ((k:Int)<(x.length:Nat)) (λa5=>?_) (λa5=>?_)))))
  ·have hkx:k<x.length:=za
   have hky:k<y.length:=za
   obtain⟨e,f,rfl⟩:=aB.isSome (a1 _ (a.drop 0)) za
   obtain⟨o,u,rfl⟩:=aB.isSome (a2 _ (a.drop 0)) za
   refine En (Lk (Lt (Ls (Lb (Lq (Ls (Dz (ZD (eR [0,1,2,3,4,5,6,7,8] .done) a λa6 a0 a7=>Zp 0 8 [(2,.eJ (zP e (f+(k*2))) .at_),(3,.agg (bS.cells (x.getD k cD))),(6,.eJ (zP o (u+(k*2))) .at_),(7,.agg (bS.cells (y.getD k cD)))] [(2,[.prop (0<=(k:Int)/\(k:Int)<(x.length:Int)),.prop (Value.pointer (some (Addr.add ⟨e,f,none⟩ (Int.toNat (k:Nat)*2)))=Value.pointer (some ⟨e,f+(k*2),none⟩))]),(3,[.prop (Array.size (bS.cells (x.getD k cD))=2),.cells ⟨e,f+(k*2),none⟩ (bS.cells (x.getD k cD))]),(6,[.prop (0<=(k:Int)/\(k:Int)<(y.length:Int)),.prop (Value.pointer (some (Addr.add ⟨o,u,none⟩ (Int.toNat (k:Nat)*2)))=Value.pointer (some ⟨o,u+(k*2),none⟩))]),(7,[.prop (Array.size (bS.cells (y.getD k cD))=2),.cells ⟨o,u+(k*2),none⟩ (bS.cells (y.getD k cD))])] (ak (aL za (aL (bK _ _ _) aO)) (ak (aL zk (eM (aB.iJ (a1 _ (a0.drop 0)) zo (Nat.le_of_ble_eq_true zk) zk) aO)) (ak (aL za (aL (bK _ _ _) aO)) (ak (aL zk (eM (aB.iJ (a2 _ (a0.drop 0)) zo (Nat.le_of_ble_eq_true zk) zk) aO)) gQ)))) (aU.jO rfl zk (b:=false) (t:=190) (xs:=bS.cells (x.getD k cD)) (ys:=bS.cells (y.getD k cD)) (m:=2) zk zk zf zk (r:=!(decide ((x.getD k cD)=(y.getD k cD)))) (EW  (ML (x.getD k cD) (y.getD k cD))) (Zd (Zt (cZ (t:=!(decide ((x.getD k cD)=(y.getD k cD)))) (λz=>?_) (λz=>?_)))))))))))))
   ·have a3:=jV z
    have hne:¬ (x.getD k cD=y.getD k cD):=by simpa using z
    exact En (Lq (Le (Ll (Ly (sT (Ll (Ly (Dz (bL (v:=.bool false) ⟨(by rw [decide_eq_false λh9=>hne (by rw [h9])]),a0⟩)))))))))
   ·have a3:=jN z
    have heq:x.getD k cD=y.getD k cD:=by simpa using z
    exact Zk (Zm (Zt (cS (dW 0 ((k:Nat)+1) Hz) (aN.back (k+1,some ⟨e,f,none⟩,some ⟨o,u,none⟩) [0,1,12,13] zk (by show x.length-(k+1)<x.length-k;omega) ⟨⟨za,by rw [bA (d:=cD) hkx,bA (d:=cD) hky,hp.2.1,heq],a1,a2⟩,a0⟩))))
  ·have hxy:x=y:=by rw [<- List.take_of_length_le (i:=k) (l:=x) za,<- List.take_of_length_le (i:=k) (l:=y) za];exact hp.2.1
   exact En (Lx (kD (kE (Lh (Lt (Lq (Le (Dz (bL (v:=.bool true) ⟨(by rw [decide_eq_true hxy]),a⟩)))))))))
def pe (x:aV) (y:aV):Bool :=
 if ((x.kd:Int) == y.kd)=true then
  if ((x.vw:Int) == y.vw)=true then
   if ((x.k:Int) == y.k)=true then
    if (decide (x.rq=y.rq))=true then
     if (decide (x.ql=y.ql))=true then
      decide (x.dg=y.dg)
     else
      false
    else
     false
   else
    false
  else
   false
 else
  false
theorem Ga x y (hqn:x.ql.length<=9223372036854775807) (hr1:Rw w0 L bS.cells 2 cD x.qa x.ql) (hr2:Rw w0 L bS.cells 2 cD y.qa y.ql) (hs:St w0 L w):Cs Tryz.prog 169 #[.agg (aV.cells x),.agg (aV.cells y)] w λrv w'=>rv=.bool (pe x y)/\St w0 L w':=by
 refine cL Tryz.func169 Tryz.ntmps169 (En (Ls (Lg [0,1] (Dz (hG (aV.cells x) hs λz w2 a6=>Lo (Dz (hG (aV.cells y) a6 λb4 w5 a=>Lz (Ls (Lg [31] (Dz (gS 0 6 (Hl 1 1 0 a (Hl 3 0 0 a Hz)) (dB 10 ((x.kd:Int) == y.kd) (λd=>?_) (λd=>?_)))))))))))))
 ·refine gS 6 7 (Hl 7 1 1 a (Hl 9 0 1 a Hz)) (dB 17 ((x.vw:Int) == y.vw) (λe=>?_) (λe=>?_))
  ·refine gS 13 7 (Hl 14 1 2 a (Hl 16 0 2 a Hz)) (dB 24 ((x.k:Int) == y.k) (λi=>?_) (λi=>?_))
   ·refine Zp 20 4 [(21,.agg (eG.cells x.rq)),(23,.agg (eG.cells y.rq))] [(21,[.prop (Array.size (eG.cells x.rq)=40),.cells ⟨z,3,none⟩ (eG.cells x.rq)]),(23,[.prop (Array.size (eG.cells y.rq)=40),.cells ⟨b4,3,none⟩ (eG.cells y.rq)])] (ak (aL zk (eM (a.cells 1 3 rfl zk) aO)) (ak (aL zk (eM (a.cells 0 3 rfl zk) aO)) gQ)) (aU.jO rfl zk (b:=true) (t:=46) (xs:=eG.cells x.rq) (ys:=eG.cells y.rq) (m:=3) zk zk zf zk (r:=decide (x.rq=y.rq)) (lE  (MM x.rq y.rq)) (Zr 25 2 [] (dB 31 (decide (x.rq=y.rq)) (λo=>?_) (λo=>?_))))
    ·refine Zj (Hl 28 1 43 a (Hl 30 0 43 a Hz)) (dE (f:=214) (args:=#[.slice x.qa x.ql.length x.qc,.slice y.qa y.ql.length y.qc]) Tryz.call214 (B5 x.ql y.ql zc (λw h=>hr1 _ (h.drop 2)) (λw h=>hr2 _ (h.drop 2)) a) ?_)
     rintro b2 b3 ⟨rfl,q⟩
     refine Lo (Dz (Zr 32 2 [] (dB 38 (decide (x.ql=y.ql)) (λu=>?_) (λu=>?_))))
     ·exact Zp 34 4 [(35,.agg (bI.cells x.dg)),(37,.agg (bI.cells y.dg))] [(35,[.prop (Array.size (bI.cells x.dg)=32),.cells ⟨z,44,none⟩ (bI.cells x.dg)]),(37,[.prop (Array.size (bI.cells y.dg)=32),.cells ⟨b4,44,none⟩ (bI.cells y.dg)])] (ak (aL zk (eM (q.cells 1 44 rfl zk) aO)) (ak (aL zk (eM (q.cells 0 44 rfl zk) aO)) gQ)) (aU.jO rfl zk (b:=true) (t:=44) (xs:=bI.cells x.dg) (ys:=bI.cells y.dg) (m:=2) zk zk zf zk (r:=decide (x.dg=y.dg)) (lE  (yv x.dg y.dg)) (En (bO (Lt (Le (Dz (bL (v:=.bool (decide (x.dg=y.dg))) (qj (by rw [pe,if_pos d,if_pos e,if_pos i,if_pos o,if_pos u]) (q.dr 2)))))))))
     ·exact En (bO (Lt (Le (Dz (bL (v:=.bool false) (qj (by rw [pe,if_pos d,if_pos e,if_pos i,if_pos o,nI u]) (q.dr 2)))))))
    ·exact En (Lw (gH (En (bO (Lt (Le (Dz (bL (v:=.bool false) (qj (by rw [pe,if_pos d,if_pos e,if_pos i,nI o]) (a.dr 2))))))))))
   ·exact En (Lw (gH (En (bO (Lt (Le (Dz (bL (v:=.bool false) (qj (by rw [pe,if_pos d,if_pos e,nI i]) (a.dr 2))))))))))
  ·exact En (Lw (gH (En (bO (Lt (Le (Dz (bL (v:=.bool false) (qj (by rw [pe,if_pos d,nI e]) (a.dr 2))))))))))
 ·exact En (Lw (gH (En (bO (Lt (Le (Dz (bL (v:=.bool false) (qj (by rw [pe,nI d]) (a.dr 2))))))))))
structure lA where
 p:Value
 g:Value
 m:Value
def lA.cells (x:lA):Array Value:=#[x.p,x.g,x.m]
abbrev sy:lA:=⟨.nilFunc,.nilFunc,.nilFunc⟩
abbrev NW (a b c:Nat):lA:=⟨.func (.func a) #[] #[],.func (.func b) #[] #[],.func (.func c) #[] #[]⟩
abbrev wz:Int->Value:=Value.int .u8
abbrev sz:lA->Value:=λv=>.agg (lA.cells v)
theorem nq:jD Tryz.prog 210 wz sz 5 209 :=
 jD.now zk ⟨.int .u8,zk,λa b=>by simp [Instr.sameNow,wz,ib],.inl ⟨_,rfl⟩⟩ (λa=>by simp [Instr.sameBits,wz]) (λem a w=>rfl)
theorem yA (hs:St w0 L w):Cs Tryz.prog 179 #[] w λrv w'=>rv=.agg #[.func (.func 217) #[] #[],.func (.func 218) #[] #[],.func (.func 219) #[] #[]]/\St w0 L w':=by
 exact cL Tryz.func179 Tryz.ntmps179 (En (Ls (Lg [0] (Dz (eN (lA.cells sy) hs λe f b=>Lo (Ld (Lt (Ls (Lg [1] (Lw (Zu 0 0 #[.func (.func 217) #[] #[],.func (.func 218) #[] #[],.func (.func 219) #[] #[]] b λi a=>Lo (Ld (Lt (Le (Dz (mJ 0 a ⟨rfl,a.dr 1⟩))))))))))))))))
def sN:List (Int×lA):=eB (eB (eB (eB (eB (eB ([]) 1 (⟨.func (.func 170) #[] #[],.func (.func 172) #[] #[],.func (.func 174) #[] #[]⟩:lA)) 2 (⟨.func (.func 176) #[] #[],.func (.func 177) #[] #[],.func (.func 178) #[] #[]⟩:lA)) 3 (⟨.func (.func 217) #[] #[],.func (.func 218) #[] #[],.func (.func 219) #[] #[]⟩:lA)) 5 (⟨.func (.func 217) #[] #[],.func (.func 218) #[] #[],.func (.func 219) #[] #[]⟩:lA)) 4 (⟨.func (.func 180) #[] #[],.func (.func 181) #[] #[],.func (.func 182) #[] #[]⟩:lA)) 6 (⟨.func (.func 184) #[] #[],.func (.func 185) #[] #[],.func (.func 178) #[] #[]⟩:lA)
theorem gF (hs:St w0 L w):Cs Tryz.prog 141 #[] w λrv w'=>∃ r,rv=.map (some r)/\St w0 (cI wz sz r sN::L) w':=by
 exact cL Tryz.func141 Tryz.ntmps141 (En (Lq (Ls (Lg [0,2,4,5,6,7,8,10,12] (Dz (aU.makeMap (α:=Int) (β:=lA) rfl rfl zk wz sz hs λr1 x a=>Lo (Lw (aU.insert rfl zk nq (r:=r1) (k:=1) (v:=(⟨.func (.func 170) #[] #[],.func (.func 172) #[] #[],.func (.func 174) #[] #[]⟩:lA)) zk a 0 rfl λz b=>Lo (Lw (aU.insert rfl zk nq (r:=r1) (k:=2) (v:=(⟨.func (.func 176) #[] #[],.func (.func 177) #[] #[],.func (.func 178) #[] #[]⟩:lA)) zk b 0 rfl λw6 d=>Lo (Dz (eE (yA d) λa0 e=>Lo (Dz (aU.insert rfl zk nq (r:=r1) (k:=3) (v:=(⟨.func (.func 217) #[] #[],.func (.func 218) #[] #[],.func (.func 219) #[] #[]⟩:lA)) zk e 0 rfl λa1 f=>Lo (Dz (eE (yA f) λa3 i=>Lo (Dz (aU.insert rfl zk nq (r:=r1) (k:=5) (v:=(⟨.func (.func 217) #[] #[],.func (.func 218) #[] #[],.func (.func 219) #[] #[]⟩:lA)) zk i 0 rfl λa4 o=>Lo (Lw (aU.insert rfl zk nq (r:=r1) (k:=4) (v:=(⟨.func (.func 180) #[] #[],.func (.func 181) #[] #[],.func (.func 182) #[] #[]⟩:lA)) zk o 0 rfl λa5 q=>Lo (Lw (aU.insert rfl zk nq (r:=r1) (k:=6) (v:=(⟨.func (.func 184) #[] #[],.func (.func 185) #[] #[],.func (.func 178) #[] #[]⟩:lA)) zk q 0 rfl λa6 u=>Lz (Le (Dz (bL (v:=.map (some r1)) ⟨r1,rfl,u⟩)))))))))))))))))))))))))
end
structure uV (kd:Int) (fp fg fm:Nat):Prop where
 cp:∀ (args:Array Value) (w:World),(callFunc fp args).run Tryz.prog w=.ok (.enter fp args) w
 cg:∀ (args:Array Value) (w:World),(callFunc fg args).run Tryz.prog w=.ok (.enter fg args) w
 cm:∀ (args:Array Value) (w:World),(callFunc fm args).run Tryz.prog w=.ok (.enter fm args) w
 may:∀ {w0 w:World}{L:List cA}(x:aV) (hkd:x.kd=kd) (hqn:x.ql.length<=9223372036854775807) (hr:∀ w,St w0 L w->aB w x.qa x.ql.length 2 (λk=>bS.cells (x.ql.getD k cD))) (hs:St w0 L w),Calls Tryz.prog fm #[.agg (aV.cells x)] w (pE λrv w'=>rv=.bool (lG x)/\St w0 L w')
 put:∀ {w0 w:World}{L:List cA}{ad:Option Addr}{c:Nat}(l:List Int) (x:aV) (hkd:x.kd=kd) (hl:l.length<=90000) (hx:kN x) (hm:lG x=true) (hlq:x.ql.length<=1000) (hr:∀ w,St w0 L w->aB w x.qa x.ql.length 2 (λk=>bS.cells (x.ql.getD k cD))) (hs:St w0 (Sl ad c 5 1 aA l::L) w),Calls Tryz.prog fp #[.slice ad l.length c,.agg (aV.cells x)] w (pE λrv w'=>∃ (ao:Option Addr) (co:Nat),rv=.slice ao ((l++oo x).length) co/\St w0 (Sl ao co 5 1 aA (l++oo x)::L) w')
 DH:∀ {w0 w:World}{L:List cA}{c:Nat}{az:Option Addr}{cz:Nat}{y:Nat}(Q:cA) (r:List Int) (sp:Bool) (hQ:∀ w,St w0 L w->Q.holds w) (hq:bG Q az r cz) (hkr:0<=kd/\kd<=255) (hs:St w0 (aC c #[.slice az r.length cz,.bool sp] 173::aC y (aV.cells (⟨kd,0,0,cN,none,0,[],aK⟩:aV)) 49::L) w),Calls Tryz.prog fg #[zP c 0,zP y 0] w (pE λrv w'=>∃ (yy2:aV) (rr2:List Int) (sp2:Bool) (az2:Option Addr) (cz2:Nat),rv=.tuple #[]/\gL kd (r,sp)=(qm yy2,(rr2,sp2))/\kN yy2/\bG Q az2 rr2 cz2/\St w0 (aC y (aV.cells yy2) 49::Sl yy2.qa yy2.qc 190 2 bS.cells yy2.ql::aC c #[.slice az2 rr2.length cz2,.bool sp2] 173::L) w')
 getM:∀ {w0 w:World}{L:List cA}{c:Nat}{az:Option Addr}{cz:Nat}{y:Nat}{og:Int}{nr:Int}{dp:cW}{tg:bI}(Q:cA) (r:List Int) (sp:Bool) (hQ:∀ w,St w0 L w->Q.holds w) (hq:bG Q az r cz) (hkr:0<=kd/\kd<=255) (hs:St w0 (aC c #[.slice az r.length cz,.bool sp] 173::aC y (aD.cells (⟨og,nr,dp,(⟨kd,0,0,cN,none,0,[],aK⟩:aV),tg⟩:aD)) 51::L) w),Calls Tryz.prog fg #[zP c 0,zP y 13] w (pE λrv w'=>∃ (yy2:aV) (rr2:List Int) (sp2:Bool) (az2:Option Addr) (cz2:Nat),rv=.tuple #[]/\gL kd (r,sp)=(qm yy2,(rr2,sp2))/\kN yy2/\bG Q az2 rr2 cz2/\St w0 (aC y (aD.cells (⟨og,nr,dp,yy2,tg⟩:aD)) 51::Sl yy2.qa yy2.qc 190 2 bS.cells yy2.ql::aC c #[.slice az2 rr2.length cz2,.bool sp2] 173::L) w')
theorem L3:uV 1 170 172 174 where
 cp:=Tryz.call170
 cg:=Tryz.call172
 cm:=Tryz.call174
 may:=λx hkd hqn hr hs=>by
  rw [show lG x=jE x.rq from if_pos za]
  exact F4 x hs
 put:=λl x hkd hl hx hm hlq hr hs=>by
  rw [show oo x=E2 x from if_pos za]
  exact F6 l x hl hx (ue (by rw [show lG x=jE x.rq from if_pos za] at hm;exact hm)) hs
 DH:=λQ r sp hQ hq hkr hs=>Dy Q r sp 1 hQ hq hkr rfl hs
 getM:=λQ r sp hQ hq hkr hs=>DC Q r sp 1 hQ hq hkr rfl hs
theorem L4:uV 2 176 177 178 where
 cp:=Tryz.call176
 cg:=Tryz.call177
 cm:=Tryz.call178
 may:=λx hkd hqn hr hs=>by
  rw [show lG x=kB x from(if_neg za).trans (if_pos za)]
  exact HX x hs
 put:=λl x hkd hl hx hm hlq hr hs=>by
  rw [show oo x=Hv x from(if_neg za).trans (if_pos za)]
  exact F7 l x hl hx hs
 DH:=λQ r sp hQ hq hkr hs=>DA Q r sp 2 hQ hq hkr rfl hs
 getM:=λQ r sp hQ hq hkr hs=>DD Q r sp 2 hQ hq hkr rfl hs
theorem L5:uV 3 217 218 219 where
 cp:=Tryz.call217
 cg:=Tryz.call218
 cm:=Tryz.call219
 may:=λx hkd hqn hr hs=>by
  rw [show lG x=decide ((x.vw:Int) >= 1) from(if_neg za).trans ((if_neg za).trans (if_neg za))]
  exact yx x hs
 put:=λl x hkd hl hx hm hlq hr hs=>by
  rw [show oo x=wd x.vw from(if_neg za).trans ((if_neg za).trans ((if_neg za).trans (if_neg za)))]
  exact yz l x hl hx hs
 DH:=λQ r sp hQ hq hkr hs=>wx Q r sp 3 hQ hq hkr zf hs
 getM:=λQ r sp hQ hq hkr hs=>wy Q r sp 3 hQ hq hkr zf hs
theorem L6:uV 4 180 181 182 where
 cp:=Tryz.call180
 cg:=Tryz.call181
 cm:=Tryz.call182
 may:=λx hkd hqn hr hs=>by
  rw [show lG x=(decide ((x.vw:Int) >= 1) && rU x.ql) from(if_neg za).trans ((if_neg za).trans (if_pos za))]
  exact F5 x hqn hr hs
 put:=λl x hkd hl hx hm hlq hr hs=>by
  rw [show oo x=F3 x from(if_neg za).trans ((if_neg za).trans (if_pos za))]
  exact F9 l x hl hx hlq hr hs
 DH:=λQ r sp hQ hq hkr hs=>DF Q r sp 4 hQ hq hkr rfl hs
 getM:=λQ r sp hQ hq hkr hs=>DG Q r sp 4 hQ hq hkr rfl hs
theorem L7:uV 5 217 218 219 where
 cp:=Tryz.call217
 cg:=Tryz.call218
 cm:=Tryz.call219
 may:=λx hkd hqn hr hs=>by
  rw [show lG x=decide ((x.vw:Int) >= 1) from(if_neg za).trans ((if_neg za).trans (if_neg za))]
  exact yx x hs
 put:=λl x hkd hl hx hm hlq hr hs=>by
  rw [show oo x=wd x.vw from(if_neg za).trans ((if_neg za).trans ((if_neg za).trans (if_neg za)))]
  exact yz l x hl hx hs
 DH:=λQ r sp hQ hq hkr hs=>wx Q r sp 5 hQ hq hkr zf hs
 getM:=λQ r sp hQ hq hkr hs=>wy Q r sp 5 hQ hq hkr zf hs
theorem L8:uV 6 184 185 178 where
 cp:=Tryz.call184
 cg:=Tryz.call185
 cm:=Tryz.call178
 may:=λx hkd hqn hr hs=>by
  rw [show lG x=kB x from(if_neg za).trans (if_pos za)]
  exact HX x hs
 put:=λl x hkd hl hx hm hlq hr hs=>by
  rw [show oo x=Hw x from(if_neg za).trans ((if_neg za).trans ((if_neg za).trans (if_pos za)))]
  exact F8 l x hl hx hs
 DH:=λQ r sp hQ hq hkr hs=>DB Q r sp 6 hQ hq hkr rfl hs
 getM:=λQ r sp hQ hq hkr hs=>DE Q r sp 6 hQ hq hkr rfl hs
theorem th {kd:Int}(h:1<=kd/\kd<=6):∃ fp fg fm,bD sN kd=some (NW fp fg fm)/\uV kd fp fg fm:=by
 obtain rfl|rfl|rfl|rfl|rfl|rfl:kd=1\/kd=2\/kd=3\/kd=4\/kd=5\/kd=6:=za
 ·exact⟨170,172,174,rfl,L3⟩
 ·exact⟨176,177,178,rfl,L4⟩
 ·exact⟨217,218,219,rfl,L5⟩
 ·exact⟨180,181,182,rfl,L6⟩
 ·exact⟨217,218,219,rfl,L7⟩
 ·exact⟨184,185,178,rfl,L8⟩
theorem wA {kd:Int}(h:¬ (1<=kd/\kd<=6)):bD sN kd=none:=by
 have hn:sN.find? (λx=>decide (x.1=kd))=none:=by
  refine List.find?_eq_none.2 λx hx a=>h ?_
  have hk:∀ x∈sN,1<=x.1/\x.1<=6:=λx hx=>by
   have e:sN.map (λx=>x.1)=[1,2,3,5,4,6]:=rfl
   have b:=e▸List.mem_map_of_mem (f:=λx:Int×lA=>x.1) hx
   simp only [List.mem_cons,List.not_mem_nil,or_false] at b
   omega
  rw [<- of_decide_eq_true a]
  exact hk x hx
 show(sN.find? λx=>decide (x.1=kd)).map (·.2)=none
 rw [hn]
 rfl
theorem uW (kd:Int):(bD sN kd).isSome=decide (1<=kd/\kd<=6):=by
 by_cases h:1<=kd/\kd<=6
 ·obtain⟨fp,fg,fm,hc,-⟩:=th h
  rw [hc,decide_eq_true h]
  rfl
 ·rw [wA h,decide_eq_false h]
  rfl
section
variable {w0 w : World} {L : List cA}
theorem lY (n:Int):∀ z∈wd n,0<=z/\z<256:=by
 intro x hx
 obtain⟨k,-,rfl⟩:=List.mem_map.1 hx
 exact iW _
def gJ (l:List Int):Prop:=∀ z∈l,0<=z/\z<256
theorem gJ.app {l m:List Int}(h:gJ l) (h2:gJ m):gJ (l++m):=λx hx=>(List.mem_append.1 hx).elim (h x) (h2 x)
theorem gJ.one {v:Int}(h:0<=v/\v<256):gJ [v]:=λz hz=>by rw [List.mem_singleton.1 hz];exact h
theorem gJ.nil:gJ []:=λz hz=>by cases hz
theorem AF (s:ByteArray):gJ (tx s):=gJ.app (λz hz=>by
 rcases List.mem_cons.1 hz with rfl|hz
 ·exact iW _
 ·rw [List.mem_singleton.1 hz];exact iW _) (λx hx=>by
 obtain⟨b,-,rfl⟩:=List.mem_map.1 hx
 have:=b.toNat_lt
 omega)
theorem E3 {r:eG}(h:vv r):gJ (uc r):=by
 have:=h.kd
 refine gJ.app (λz hz=>?_) (gJ.app (lY _) (gJ.app (lY _) (gJ.app (AF _) (gJ.app (AF _) (gJ.app (AF _) (AF _))))))
 rcases List.mem_cons.1 hz with rfl|hz
 ·exact iW _
 ·rw [List.mem_singleton.1 hz];omega
theorem E4 {x:aV}(h:kN x):gJ (oo x):=by
 unfold oo
 split
 ·exact gJ.app (lY _) (gJ.app (E3 h.rq) h.rq.tg)
 ·split
  ·exact gJ.app (lY _) (lY _)
  ·split
   ·refine gJ.app (lY _) (gJ.app (gJ.one (iW _)) λz hz=>?_)
    obtain⟨p,-,hp⟩:=List.mem_flatMap.1 hz
    exact gJ.app (gJ.one (iW _)) (lY _) z hp
   ·split
    ·exact gJ.app (lY _) h.dg
    ·exact lY _
theorem AG {x:aV}(hm:lG x=true) (hq:x.ql.length<=11):8<=(oo x).length/\(oo x).length<=600:=by
 unfold oo
 split
 ·rename_i a
  have hz:=pO (ue (by rw [show lG x=jE x.rq from if_pos a] at hm;exact hm))
  simp only [E2,List.length_append,aZ,bI.len]
  omega
 ·repeat' split
  all_goals simp only [Hv,F3,Hw,List.length_append,List.length_cons,List.length_nil,aZ,bI.len,kW]
  all_goals omega
def kH (x:aV):Bool:=if 1<=x.kd/\x.kd<=6 then (if x.vw >= 1073741824 then false else if lG x=false then false else if x.ql.length>11 then false else pe x (gL x.kd (oo x,false)).1) else false
theorem E5 {kd:Int}{v:lA}(h:bD sN kd=some v):1<=kd/\kd<=6:=by
 have a:=uW kd
 rw [h] at a
 exact of_decide_eq_true a.symm
theorem MO {kd:Int}(h:bD sN kd=none):¬ (1<=kd/\kd<=6):=by
 have a:=uW kd
 rw [h] at a
 exact of_decide_eq_false a.symm
theorem J0 x fp fg fm (hc:bD sN x.kd=some (NW fp fg fm)) (C:uV x.kd fp fg fm) (hx:kN x) (hr:Rw w0 L bS.cells 2 cD x.qa x.ql) (hs:St w0 L w):Cs Tryz.prog 140 #[.agg (aV.cells x)] w λrv w'=>rv=.bool (kH x)/\St w0 L w':=by
 refine cL Tryz.func140 Tryz.ntmps140 (En (Ls (Lg [0] (Dz (hG (aV.cells x) hs λa w2 b3=>Lz (Ls (Dz (bH.join (T:=Nat×Nat) (E:=λjx=>[(1,zP a 0),(2,.bool false),(3,zP jx.1 0),(4,.bool true)]) (F:=λjx w=>St w0 (aC jx.1 (lA.cells (⟨.func (.func fp) #[] #[],.func (.func fg) #[] #[],.func (.func fm) #[] #[]⟩:lA)) 209::cI wz sz jx.2 sN::aC a (aV.cells x) 49::L) w) ?_ ?_))))))))
 ·refine bH.vr [0,0,2,7,15,31,31,0,191,511] (.rd 1 (.rd 2 (.alt (.ef 0 (.rd 3 (.rd 4 (.rd 5 (.rd 6 (.ef 7 (.ef 8 (.rd 9 .done)))))))) (.ef 7 (.ef 0 (.rd 3 (.rd 4 (.rd 5 (.rd 6 (.ef 8 (.rd 9 .done))))))))))) zk zk fX zk b3 λw4 u d6=>gS 1 2 (Hl 2 0 0 u Hz) (aU.alt ?_ ?_)
  ·refine Zc (gF u) ?_
   rintro v9 d7 ⟨r7,rfl,a0⟩
   exact⟨fM (n:=[.cell ⟨a,0,none⟩ (.int .u8 x.kd)]) zk (bP (a0.cell 1 rfl zk) aO),aU.lookup rfl zk nq (r:=r7) (k:=x.kd) (ok:=true) zk a0 0 rfl (z:=sz sy) zk (v:=.tuple #[.agg #[.func (.func fp) #[] #[],.func (.func fg) #[] #[],.func (.func fm) #[] #[]],.bool true]) (by rw [hc];rfl) (Zr 4 3 [] (eN (lA.cells sy) a0 λb4 d8 a1=>⟨fM (n:=[.holds (cI wz sz r7 sN).holds,.cell ⟨a,0,none⟩ (.int .u8 x.kd)]) zk (JM (a1.at_ 1 rfl) (bP (a1.cell 2 rfl zk) aO)),(Zu 0 0 (lA.cells (⟨.func (.func fp) #[] #[],.func (.func fg) #[] #[],.func (.func fm) #[] #[]⟩:lA)) a1 λd9 b5=>Lo (Dz (Zr 9 1 [] (Zd (oU [1,2,3,4] (b4,r7) b5)))))⟩))⟩
  refine eN (lA.cells sy) u λb6 e0 a9=>⟨fM (n:=[.cell ⟨a,0,none⟩ (.int .u8 x.kd)]) zk (bP (a9.cell 1 rfl zk) aO),Zc (gF a9) ?_⟩
  rintro e1 e2 ⟨b0,rfl,a2⟩
  exact⟨fM (n:=[.cell ⟨a,0,none⟩ (.int .u8 x.kd)]) zk (bP (a2.cell 2 rfl zk) aO),aU.lookup rfl zk nq (r:=b0) (k:=x.kd) (ok:=true) zk a2 0 rfl (z:=sz sy) zk (v:=.tuple #[.agg #[.func (.func fp) #[] #[],.func (.func fg) #[] #[],.func (.func fm) #[] #[]],.bool true]) (by rw [hc];rfl) (Zr 4 3 [] (Zu 1 0 (lA.cells (⟨.func (.func fp) #[] #[],.func (.func fg) #[] #[],.func (.func fm) #[] #[]⟩:lA)) a2 λe3 b7=>Lo (Dz (Zr 9 1 [] (Zd (oU [1,2,3,4] (b6,b0) (((b7.pl 2).pl 1).pl 2)))))))⟩
 rintro⟨i,b9⟩ c0 c1
 have b:St w0 (aC i (lA.cells (⟨.func (.func fp) #[] #[],.func (.func fg) #[] #[],.func (.func fm) #[] #[]⟩:lA)) 209::cI wz sz b9 sN::aC a (aV.cells x) 49::L) c0:=c1
 refine aN.fK (S':=[(1,zP a 0),(2,.bool false),(3,zP i 0),(4,.bool true)]) rfl (En (Lt (Ls (Ls (Lg [11] (Dz (gS 0 8 (Hl 4 2 1 b Hz) (C9 20 ((x.vw:Int) >= 1073741824) (λd=>?_) (λd=>?_)))))))))
 ·exact En (Lw (gH (En (bO (Lt (LT (Lq (Le (Ly (Dz (bL (v:=.bool false) ⟨(by unfold kH;rw [if_pos (E5 hc),if_pos d]),b.dr 3⟩)))))))))))
 ·refine Zj (Hl 9 0 2 b (fE 10 2 0 76 (aV.cells x) b Hz)) (dE (f:=fm) (args:=#[.agg (aV.cells x)]) C.cm (C.may x rfl hx.qn (λw h=>hr _ (h.drop 3)) b) ?_)
  rintro e4 e5 ⟨rfl,e⟩
  refine Lo (Dz (Zr 12 3 [] (dB 27 (!(lG x)) (λo=>?_) (λo=>?_))))
  ·exact En (bO (Lt (LT (Lq (Le (Ly (Dz (bL (v:=.bool false) ⟨(by unfold kH;rw [if_pos (E5 hc),if_neg d,if_pos (by simpa using o)]),e.dr 3⟩))))))))
  ·have b2:=jN o
   have hm:lG x=true:=b2
   refine lD (Hl 16 2 43 e Hz) (Zt (Zi ((x.ql.length:Int)>11) (λc4=>?_) (λc4=>?_)))
   ·exact En (Lq (Le (Ly (Dz (bL (v:=.bool false) ⟨(by unfold kH;rw [if_pos (E5 hc),if_neg d,if_neg (by rw [hm];decide),if_pos za]),e.dr 3⟩)))))
   ·refine Zk (Zt (Zs (bX [3,4] (Hl 1 2 0 e Hz) (eN (aV.cells vC) e λc6 e6 c7=>Lo (Dz (Zu 0 0 (aV.cells (⟨x.kd,0,0,cN,none,0,[],aK⟩:aV)) c7 λe7 c8=>Lo (Ld (Lt (Ls (Dz (ZD (eR [0,1,2,3,4] (.ef 5 (.ef 6 (.ef 7 .done)))) c8 λe8 q e9=>Zj (Hl 1 1 1 q (Hl 3 1 0 q (fE 4 3 0 76 (aV.cells x) q Hz))) (dE (f:=fp) (args:=#[.slice none (([]:List Int).length) 0,.agg (aV.cells x)]) C.cp (C.put ([]:List Int) x rfl (by first|omega|(exact Nat.zero_le _)) hx hm (by first|omega|(exact Nat.zero_le _)) (λw h=>hr _ (h.drop 4)) (St.bJ q 5 1 aA)) ?_))))))))))))
    rintro f0 f1 ⟨f2,f3,rfl,a3⟩
    refine⟨fM (n:=[.cell ⟨i,1,none⟩ (.func (.func fg) #[] #[])]) zk (bP (a3.cell 2 rfl zk) aO),Zc (mP (([]:List Int)++oo x) (by have:=AG hm za;rw [List.nil_append];omega) (rB a3 0 rfl) (λw h=>h.rows 0 rfl aF.size _) a3) ?_⟩
    rintro f4 f5 ⟨d0,a4,a5,rfl,a6⟩
    have d1:bG (Sl a4 a5 5 1 aA (([]:List Int)++oo x)) a4 (([]:List Int)++oo x) a5:=bG.new a6 (j:=1) rfl (gJ.app gJ.nil (E4 hx)) (by have:=AG hm za;rw [List.nil_append];omega)
    refine⟨fM (n:=[.cell ⟨i,1,none⟩ (.func (.func fg) #[] #[])]) zk (bP (a6.cell 4 rfl zk) aO),dE (f:=fg) (args:=#[zP d0 0,zP c6 0]) C.cg (C.DH (Sl a4 a5 5 1 aA (([]:List Int)++oo x)) (([]:List Int)++oo x) false (λw h=>h.at_ 0 rfl) d1 hx.kd ((a6.pl 3).pl 1)) ?_⟩
    rintro f6 f7 ⟨a7,f8,f9,g0,g5,rfl,d3,g7,g8,a8⟩
    exact Lo (Ld (Lt (Ls (Dz (bX [2] (fE 0 7 0 76 (aV.cells x) a8 (fE 1 0 0 76 (aV.cells a7) a8 Hz)) (eE (Ga x a7 hx.qn (λw h=>hr _ (h.drop 8)) (λw h=>h.rows 1 rfl vu.size _) a8) λh0 d4=>Lz (Le (Dz (bL (v:=.bool (pe x a7)) ⟨(by unfold kH;rw [if_pos (E5 hc),if_neg d,if_neg (by rw [hm];decide),if_neg za,show gL x.kd (oo x,false)=_ from d3];rfl),d4.dr 8⟩)))))))))
theorem J1 x (hc:bD sN x.kd=none) (hx:kN x) (hr:Rw w0 L bS.cells 2 cD x.qa x.ql) (hs:St w0 L w):Cs Tryz.prog 140 #[.agg (aV.cells x)] w λrv w'=>rv=.bool (kH x)/\St w0 L w':=by
 refine cL Tryz.func140 Tryz.ntmps140 (En (Ls (Lg [0] (Dz (hG (aV.cells x) hs λa w2 a0=>Lz (Ls (Dz (bH.join (T:=Nat×Nat) (E:=λjx=>[(1,zP a 0),(2,.bool false),(3,zP jx.1 0),(4,.bool false)]) (F:=λjx w=>St w0 (aC jx.1 (lA.cells sy) 209::cI wz sz jx.2 sN::aC a (aV.cells x) 49::L) w) ?_ ?_))))))))
 ·refine bH.vr [0,0,2,7,15,31,31,0,191,511] (.rd 1 (.rd 2 (.alt (.ef 0 (.rd 3 (.rd 4 (.rd 5 (.rd 6 (.ef 7 (.ef 8 (.rd 9 .done)))))))) (.ef 7 (.ef 0 (.rd 3 (.rd 4 (.rd 5 (.rd 6 (.ef 8 (.rd 9 .done))))))))))) zk zk fX zk a0 λw4 b b2=>gS 1 2 (Hl 2 0 0 b Hz) (aU.alt ?_ ?_)
  ·refine Zc (gF b) ?_
   rintro v9 b3 ⟨d,rfl,e⟩
   exact⟨fM (n:=[.cell ⟨a,0,none⟩ (.int .u8 x.kd)]) zk (bP (e.cell 1 rfl zk) aO),aU.lookup rfl zk nq (r:=d) (k:=x.kd) (ok:=true) zk e 0 rfl (z:=sz sy) zk (v:=.tuple #[.agg (lA.cells sy),.bool false]) (by rw [hc];rfl) (Zr 4 3 [] (eN (lA.cells sy) e λa1 b4 f=>⟨fM (n:=[.holds (cI wz sz d sN).holds,.cell ⟨a,0,none⟩ (.int .u8 x.kd)]) zk (JM (f.at_ 1 rfl) (bP (f.cell 2 rfl zk) aO)),(Zu 0 0 (lA.cells sy) f λb5 a2=>Lo (Dz (Zr 9 1 [] (Zd (oU [1,2,3,4] (a1,d) a2)))))⟩))⟩
  refine eN (lA.cells sy) b λa3 b6 o=>⟨fM (n:=[.cell ⟨a,0,none⟩ (.int .u8 x.kd)]) zk (bP (o.cell 1 rfl zk) aO),Zc (gF o) ?_⟩
  rintro b7 b8 ⟨q,rfl,i⟩
  exact⟨fM (n:=[.cell ⟨a,0,none⟩ (.int .u8 x.kd)]) zk (bP (i.cell 2 rfl zk) aO),aU.lookup rfl zk nq (r:=q) (k:=x.kd) (ok:=true) zk i 0 rfl (z:=sz sy) zk (v:=.tuple #[.agg (lA.cells sy),.bool false]) (by rw [hc];rfl) (Zr 4 3 [] (Zu 1 0 (lA.cells sy) i λb9 a4=>Lo (Dz (Zr 9 1 [] (Zd (oU [1,2,3,4] (a3,q) (((a4.pl 2).pl 1).pl 2)))))))⟩
 rintro⟨u,a6⟩ a7 a8
 have a9:St w0 (aC u (lA.cells sy) 209::cI wz sz a6 sN::aC a (aV.cells x) 49::L) a7:=a8
 exact aN.fK (S':=[(1,zP a 0),(2,.bool false),(3,zP u 0),(4,.bool false)]) rfl (En (Lt (Ls (Ls (Lg [11] (Lw (gH (En (bO (Lt (LT (Lq (Le (Ly (Dz (bL (v:=.bool false) ⟨(by unfold kH;rw [if_neg (MO hc)]),a9.dr 3⟩))))))))))))))))
theorem Gb x (hx:kN x) (hr:Rw w0 L bS.cells 2 cD x.qa x.ql) (hs:St w0 L w):Cs Tryz.prog 140 #[.agg (aV.cells x)] w λrv w'=>rv=.bool (kH x)/\St w0 L w':=by
 by_cases h:1<=x.kd/\x.kd<=6
 ·obtain⟨fp,fg,fm,hc,C⟩:=th h
  exact J0 x fp fg fm hc C hx hr hs
 ·exact J1 x (wA h) hx hr hs
end
section
variable {w0 w : World} {L : List cA} {ad : Option Addr} {c : Nat}
theorem J2 {l:List Int}(h:0<l.length):l.getD 0 0<=65536↔∀ x∈l.take 1,x<=65536:=by
 cases l with
 | nil=>cases h
 | cons a l=>simp
theorem HY {l:List Int}{k:Nat}{v:Int}(hk:k<l.length) (h:v<=65536↔∀ x∈l.take k,x<=65536):max v (l.getD k 0)<=65536↔∀ x∈l.take (k+1),x<=65536:=by
 rw [bA (d:=(0:Int)) hk]
 simp only [List.mem_append,List.mem_singleton]
 constructor
 ·intro a z hz
  rcases hz with hz|rfl
  ·exact h.1 za z hz
  ·omega
 ·intro a
  have b:=h.2 λz hz=>a z (.inl hz)
  have e:=a _ (.inr rfl)
  omega
theorem HZ l (hl:0<l.length) (hll:l.length<=1000) (hr:Rw w0 L pa 1 0 ad l) (hs:St w0 L w):Cs Tryz.prog 139 #[.slice ad l.length c] w λrv w'=>∃ v,rv=.int .u64 v/\(v<=65536↔∀ x∈l,x<=65536)/\St w0 L w':=by
 refine cL Tryz.func139 Tryz.ntmps139 (En (Lq (Ls (Lq (Dz (Zi ((l.length:Int)<1) (λe=>?_) (λe=>?_)))))))
 ·exfalso;omega
 ·obtain⟨a,b,rfl⟩:=aB.isSome (hr _ (hs.drop 0)) za
  refine Zk (Zt (Zs (cS (Hx 1 (0:Int) (l.length:Int) a b 1 (Hg 2 (.gen [.int .u64 (l.getD 0 0)]) [.cell ⟨a,b+(0*1),none⟩ (.int .u64 (l.getD 0 0))] (bP (aB.dX (hr _ (hs.drop 0)) (k:=0) zo (j:=0) zf zk) aO) Hz)) (En (Lt (Ls (Lq (Lb (Dz (bH.loop (T:=Nat×Int) (λgg=>[(0,zL a b l.length c),(2,.int .u64 0),(3,.int .u64 gg.2),(4,.int .i64 (gg.1:Nat))]) (λgg w=>(1<=gg.1/\gg.1<=l.length/\(gg.2<=65536↔∀ x∈l.take gg.1,x<=65536))/\St w0 L w) (λgg=>l.length-gg.1) (1,(l.getD 0 0)) [0,2,3,4] zk ⟨⟨Nat.le_refl _,hl,J2 hl⟩,hs⟩ ?_))))))))))
  rintro⟨k,v⟩ i ⟨hp,d⟩
  dsimp only at hp d
  refine En (Ls (Lq (Dz (Zi ((k:Int)<(l.length:Nat)) (λf=>?_) (λf=>?_)))))
  ·have hk:k<l.length:=za
   exact Zk (Zt (Zs (Zb (cS (Hx 3 (k:Int) (l.length:Int) a b 1 (Hg 4 (.gen [.int .u64 (l.getD k 0)]) [.cell ⟨a,b+(k*1),none⟩ (.int .u64 (l.getD k 0))] (bP (aB.dX (hr _ (d.drop 0)) (k:=k) zo (j:=0) zf zk) aO) (Hg 5 (.eJ (.int .u64 (max v (l.getD k 0))) (.gen [])) [.prop (Value.int .u64 (if (l.getD k 0)>v then (l.getD k 0) else v)=Value.int .u64 (max v (l.getD k 0)))] (aL HV aO) Hz))) (Zm (Zt (cS (dW 1 ((k:Nat)+1) Hz) (aN.back (k+1,max v (l.getD k 0)) [0,2,3,4] zk (by show l.length-(k+1)<l.length-k;omega) ⟨⟨za,za,HY hk hp.2.2⟩,d⟩))))))))
  ·have hke:l.take k=l:=List.take_of_length_le za
   exact En (Lx (kD (kE (Lh (Lt (Lq (Le (Dz (bL (v:=.int .u64 v) ⟨v,rfl,(hke▸hp.2.2),d⟩)))))))))
structure dw (m:aD):Prop where
 og:-9223372036854775808<=m.og/\m.og<=9223372036854775807
 nr:0<=m.nr/\m.nr<=18446744073709551615
 dp:∀ x∈m.dp.toList,0<=x/\x<=18446744073709551615
 bd:kN m.bd
 tg:∀ z∈m.tg.toList,0<=z/\z<256
instance:DecidablePred λd:cW=>∀ x∈d.toList,x<=65536:=λd=>inferInstance
def AH (m:aD):Bool:=((((decide ((m.og:Int)<1)) || (decide ((m.og:Int)>11))) || (decide ((m.nr:Int)<1))) || (decide ((m.nr:Int)>65536))) || (((m.dp.toList.getD (Int.toNat (m.og-1)) 0):Int) != (m.nr-1))
def dN (m:aD):Bool:=if AH m=true then false else if ∀ x∈m.dp.toList,x<=65536 then kH m.bd else false
theorem wB m (hm:dw m) (hr:Rw w0 L bS.cells 2 cD m.bd.qa m.bd.ql) (hs:St w0 L w):Cs Tryz.prog 98 #[.agg (aD.cells m)] w λrv w'=>rv=.bool (dN m)/\St w0 L w':=by
 refine cL Tryz.func98 Tryz.ntmps98 (Zs ?_)
 have g1:=hm.og
 have g2:=hm.nr
 refine Zg [0] (hG (aD.cells m) hs λb w2 a3=>Lz (Ls (Ls (Dz (bH.join (T:=Unit) (E:=λ_=>[(32,.bool (((((decide ((m.og:Int)<1)) || (decide ((m.og:Int)>11))) || (decide ((m.nr:Int)<1))) || (decide ((m.nr:Int)>65536))) || (((m.dp.toList.getD (Int.toNat (m.og-1)) 0):Int) != (m.nr-1)))),(2,.bool false),(1,zP b 0)]) (F:=λ_ w=>St w0 (aC b (aD.cells m) 51::L) w) ?_ ?_)))))
 ·refine ZD (eR [0,1,2,3,4,5,6,7,8,9,10,11,12,13,14,15,16,17,18,19,20,21,22,23,24,25,26,27,28,29] .done) a3 λw4 a b5=>gS 0 4 (Hl 1 0 0 a Hz) (dB 6 (decide ((m.og:Int)<1)) (λe=>?_) (λe=>?_))
  ·have a4:=of_decide_eq_true e
   exact En (bO (Dz (gB [32,2,1] () true (by first|rfl|simp [Hb,e]) a)))
  ·have a4:=of_decide_eq_false e
   refine gS 4 5 (Hl 5 0 0 a Hz) (dB 11 (decide ((m.og:Int)>11)) (λo=>?_) (λo=>?_))
   ·have a5:=of_decide_eq_true o
    exact En (bO (Dz (gB [32,2,1] () true (by first|rfl|simp [Hb,e,o]) a)))
   ·have a5:=of_decide_eq_false o
    refine gS 9 5 (Hl 10 0 1 a Hz) (dB 16 (decide ((m.nr:Int)<1)) (λi=>?_) (λi=>?_))
    ·have a6:=of_decide_eq_true i
     exact En (bO (Dz (gB [32,2,1] () true (by first|rfl|simp [Hb,e,o,i]) a)))
    ·have a6:=of_decide_eq_false i
     refine gS 14 5 (Hl 15 0 1 a Hz) (dB 21 (decide ((m.nr:Int)>65536)) (λu=>?_) (λu=>?_))
     ·have a7:=of_decide_eq_true u
      exact En (bO (Dz (gB [32,2,1] () true (by first|rfl|simp [Hb,e,o,i,u]) a)))
     ·have a7:=of_decide_eq_false u
      exact lD (Hl 20 0 0 a (dW 21 (m.og-1) (Hx 23 ((m.og-1):Int) (11:Int) b 2 1 (Hg 24 (.gen [.int .u64 (m.dp.toList.getD (Int.toNat (m.og-1)) 0)]) [.cell ⟨b,2+((Int.toNat (m.og-1))*1),none⟩ (.int .u64 (m.dp.toList.getD (Int.toNat (m.og-1)) 0))] (bP (a.cell 0 rfl (cW.HO (off:=2) (d:=m.dp) zk za)) aO) (Hl 26 0 1 a (tP 27 (m.nr-1) Hz)))))) (gB [32,2,1] () (((m.dp.toList.getD (Int.toNat (m.og-1)) 0):Int) != (m.nr-1)) (by first|rfl|simp [Hb,e,o,i,u]) a)
 intro _ b6 a0
 refine Zt (cZ (t:=((((decide ((m.og:Int)<1)) || (decide ((m.og:Int)>11))) || (decide ((m.nr:Int)<1))) || (decide ((m.nr:Int)>65536))) || (((m.dp.toList.getD (Int.toNat (m.og-1)) 0):Int) != (m.nr-1))) (λq=>?_) (λq=>?_))
 ·exact En (Lq (Le (Ly (Dz (bL (v:=.bool false) ⟨(by unfold dN;rw [if_pos (show AH m=true from q)]),a0.dr 1⟩)))))
 ·have a1:=(Bool.or_eq_false_iff.1 q).1
  have h13aa:=(Bool.or_eq_false_iff.1 a1).1
  have h13aaa:=(Bool.or_eq_false_iff.1 h13aa).1
  have h13aaaa:=(Bool.or_eq_false_iff.1 h13aaa).1
  have h13aaab:(decide ((m.og:Int)>11))=false:=(Bool.or_eq_false_iff.1 h13aaa).2
  have h13aab:(decide ((m.nr:Int)<1))=false:=(Bool.or_eq_false_iff.1 h13aa).2
  have h13ab:(decide ((m.nr:Int)>65536))=false:=(Bool.or_eq_false_iff.1 a1).2
  have a9:(((m.dp.toList.getD (Int.toNat (m.og-1)) 0):Int) != (m.nr-1))=false:=(Bool.or_eq_false_iff.1 q).2
  refine Zk (Zt (Zs (bX [2,7] (Hg 1 (.eJ (zL b 2 m.dp.toList.length 11) (.sub 0 11)) [.prop (((none:Option Operand)=none->(0:Nat)=0)/\((none:Option Operand)=none->(11:Nat)=11)/\(0:Nat)<=11/\(11:Nat)<=11),.prop (Value.slice (some (if 11=0 then Addr.mk b 2 none else (Addr.mk b 2 none).add (0*1))) (11-0) (11-0)=Value.slice (some ⟨b,2,none⟩) m.dp.toList.length 11)] (aL ⟨(by first|(intro _;rfl)|(intro hc;cases hc)),(by first|(intro _;rfl)|(intro hc;cases hc)),za,za⟩ (aL (by rw [cW.len];exact dM _ _ _ _ _ zf) aO)) Hz) (dE (f:=139) (args:=#[zL b 2 m.dp.toList.length 11]) Tryz.call139 (HZ m.dp.toList (by rw [cW.len];decide) (by rw [cW.len];decide) (λw h=>cW.sM h 0 2 m.dp rfl zk) a0) ?_))))
  rintro b8 b9 ⟨b0,rfl,a2,x⟩
  refine Lo (Dz (Zr 3 2 [] (C9 37 ((b0:Int)<=65536) (λz=>?_) (λz=>?_))))
  ·exact Zj (fE 6 0 13 76 (aV.cells m.bd) x Hz) (eE (Gb m.bd hm.bd (λw h=>hr _ (h.drop 1)) x) λc1 b2=>Lz (Le (Dz (bL (v:=.bool (kH m.bd)) ⟨(by unfold dN;rw [if_neg (ne_true_of_eq_false (show AH m=false from q)),if_pos (a2.1 z)]),b2.dr 1⟩))))
  ·exact En (Lw (gH (En (bO (Lt (Le (Dz (bL (v:=.bool false) ⟨(by unfold dN;rw [if_neg (ne_true_of_eq_false (show AH m=false from q)),if_neg (λi=>z (a2.2 i))]),x.dr 1⟩))))))))
end
section
variable {w0 w : World} {L : List cA}
def kO (m:aD) (k:Nat):List Int:=[IntKind.u8.wrap m.og]++(m.dp.toList.take k).flatMap wd
theorem qA (m:aD){k:Nat}(hk:k<11):kO m (k+1)=kO m k++wd (m.dp.toList.getD k 0):=by
 rw [kO,kO,bA (d:=(0:Int)) (by rw [cW.len];exact hk),List.flatMap_append,List.append_assoc]
 simp
theorem lZ (m:aD):∀ k,k<=11->(kO m k).length=1+8*k
 | 0,_=>rfl
 | k+1,h=>by rw [qA m za,List.length_append,aZ,lZ m k za];omega
def kX (m:aD):List Int:=(kO m 11++[m.bd.kd])++oo m.bd
def jU (m:aD):List Int:=if dN m=true then kX m else []
def cF (m:aD):List Int:=if dN m=true then ((([]:List Int)++wd m.nr)++kX m)++m.tg.toList else []
theorem kY {m:aD}(h:dN m=true):kH m.bd=true:=by
 unfold dN at h
 split at h
 ·cases h
 ·split at h
  ·exact h
  ·cases h
theorem lH {x:aV}(h:kH x=true):(1<=x.kd/\x.kd<=6)/\lG x=true/\x.ql.length<=11:=by
 unfold kH at h
 split at h
 ·rename_i a
  split at h
  ·cases h
  ·split at h
   ·cases h
   ·rename_i b
    split at h
    ·cases h
    ·exact⟨a,by simpa using b,za⟩
 ·cases h
theorem gA {m:aD}(h:dN m=true):98<=(kX m).length/\(kX m).length<=700:=by
 obtain⟨d,a,b⟩:=lH (kY h)
 have:=AG a b
 rw [kX,List.length_append,List.length_append,lZ m _ (Nat.le_refl _),List.length_cons,List.length_nil]
 omega
theorem tj {m:aD}(hm:dw m):gJ (kX m):=by
 have:=hm.bd.kd
 refine gJ.app (gJ.app (gJ.app (gJ.one (iW _)) λz hz=>?_) (gJ.one za)) (E4 hm.bd)
 obtain⟨y,-,hy⟩:=List.mem_flatMap.1 hz
 exact lY _ z hy
theorem AJ {m:aD}(hm:dw m):gJ (jU m):=by
 unfold jU
 split
 ·exact tj hm
 ·exact gJ.nil
theorem qB m (hm:dw m) (hb:dN m=true) (hr:Rw w0 L bS.cells 2 cD m.bd.qa m.bd.ql) (hs:St w0 L w):Cs Tryz.prog 100 #[.agg (aD.cells m)] w λrv w'=>∃ ao co,rv=.slice ao ((kX m).length) co/\St w0 (Sl ao co 5 1 aA (kX m)::L) w':=by
 refine cL Tryz.func100 Tryz.ntmps100 (Zs ?_)
 have hin:=lH (kY hb)
 obtain⟨fp,fg,fm,hc,C⟩:=th hin.1
 refine Zg [0] (hG (aD.cells m) hs λa w2 a7=>Lz (Ls (Dz (bX [3] (Hl 1 0 0 a7 Hz) (tQ aP aF [(IntKind.u8.wrap m.og:Int)] a7 λb4 w5 a8=>Lz (Ls (Ls (Dz (cS (fE 1 1 2 11 (cW.cells m.dp) a8 Hz) (Zt (Zb ?_)))))))))))
 have b2:St w0 (Sl (some ⟨b4,0,none⟩) 1 5 1 aA (kO m 0)::aC a (aD.cells m) 51::L) w5:=a8
 refine bH.loop (T:=Nat×(Option Addr)×Nat) (λgg=>[(1,zP a 0),(2,.slice none 0 0),(3,.slice gg.2.1 ((kO m gg.1).length) gg.2.2),(11,.agg (cW.cells m.dp)),(12,.int .i64 (gg.1:Nat))]) (λgg w=>(gg.1<=11)/\St w0 (Sl gg.2.1 gg.2.2 5 1 aA (kO m gg.1)::aC a (aD.cells m) 51::L) w) (λgg=>11-gg.1) (0,some ⟨b4,0,none⟩,1) [1,2,3,11,12] zk ⟨Nat.zero_le _,b2⟩ ?_
 rintro⟨k,ad,c⟩ d8 ⟨hp,a4⟩
 dsimp only at hp a4
 refine En (Lq (Ls (Dz (Zi ((k:Int)<11) (λb3=>?_) (λb3=>?_)))))
 ·have hk:k<11:=za
  have hkl:=lZ m k za
  have hdk:=hm.dp (m.dp.toList.getD k 0) (bC (d:=(0:Int)) (by rw [cW.len];exact hk))
  refine Zk (Zt (Zs (Zb (Zs (cS (Hg 0 (.elem (.int .u64 (m.dp.toList.getD k 0))) [.prop (0<=(k:Int)/\(k:Int)<(11:Int)),.prop ((cW.cells m.dp)[Int.toNat (k:Nat)*1]?=some (.int .u64 (m.dp.toList.getD k 0)))] (aL za (aL (by rw [Nat.mul_one];exact cW.at_ _ k za) aO)) Hz) (En (Lt (Lg [2] (Lw (Zc (eU (kO m k) (m.dp.toList.getD k 0) zg za a4) ?_))))))))))
  rintro d9 b5 ⟨o,q,rfl,b6⟩
  refine Lo (bO (Lm (Lt (Dz (cS (dW 0 ((k:Nat)+1) Hz) ?_)))))
  have b7:St w0 (Sl o q 5 1 aA (kO m (k+1))::aC a (aD.cells m) 51::L) b5:=(by rw [qA m hk];exact b6)
  exact aN.pick [12,3,1,2,11] (S':=[(12,.int .i64 ((k:Nat)+1)),(3,.slice o ((kO m k++wd (m.dp.toList.getD k 0)).length) q),(1,zP a 0),(2,.slice none 0 0),(11,.agg (cW.cells m.dp))]) zk (aN.fK (S':=[(12,.int .i64 ((k:Nat)+1)),(3,.slice o ((kO m (k+1)).length) q),(1,zP a 0),(2,.slice none 0 0),(11,.agg (cW.cells m.dp))]) (by rw [qA m hk]) (aN.back (k+1,o,q) [1,2,3,11,12] zk (by show 11-(k+1)<11-k;omega) ⟨za,b7⟩))
 ·have hke:k=11:=za
  subst hke
  have hkl:=lZ m 11 za
  refine Zx (aN.cJ (aN.fJ (aN.iT (Zt (Zs (bH.join (T:=Option Addr×Nat×Nat×Nat) (E:=λjx=>[(2,.slice jx.1 ((((kO m 11)++([(m.bd.kd:Int)]))++oo m.bd).length) jx.2.1)]) (F:=λjx w=>St w0 (Sl jx.1 jx.2.1 5 1 aA (((kO m 11)++([(m.bd.kd:Int)]))++oo m.bd)::Sl (some ⟨jx.2.2.1,0,none⟩) 1 5 1 aA ([(m.bd.kd:Int)])::cI wz sz jx.2.2.2 sN::aC a (aD.cells m) 51::L) w) ?_ ?_))))))
  ·refine bH.vr [0,0,2,6,15,31,0,0,128,384,896,1985,0,4096,16383,32767] (.rd 1 (.rd 2 (.rd 3 (.rd 6 (.rd 7 (.rd 8 (.rd 9 (.rd 12 (.rd 13 (.alt (.ef 0 (.rd 4 (.rd 5 (.ef 10 (.ef 11 (.ef 14 (.rd 15 .done))))))) (.ef 10 (.ef 0 (.rd 4 (.rd 5 (.ef 11 (.ef 14 (.rd 15 .done))))))))))))))))) zk zk fX zk a4 λe0 b e1=>Zh [(1,.gen []),(2,.gen []),(3,.gen [.int .u8 m.bd.kd]),(6,.gen []),(7,.gen []),(8,.gen []),(9,.gen [.int .u8 m.bd.kd]),(12,.gen []),(13,.agg (aV.cells m.bd))] [(3,[.cell ⟨a,13,none⟩ (.int .u8 m.bd.kd)]),(9,[.cell ⟨a,13,none⟩ (.int .u8 m.bd.kd)]),(13,[.prop (Array.size (aV.cells m.bd)=76),.cells ⟨a,13,none⟩ (aV.cells m.bd)])] (ak (bP (b.cell 1 rfl zk) aO) (ak (bP (b.cell 1 rfl zk) aO) (ak (aL zk (eM (b.cells 1 13 rfl zk) aO)) gQ))) (aU.alt ?_ ?_)
   ·refine Zc (gF b) ?_
    rintro e2 e3 ⟨u,rfl,e⟩
    refine⟨fM (n:=[.prop (Array.size (aV.cells m.bd)=76),.cells ⟨a,13,none⟩ (aV.cells m.bd),.cell ⟨a,13,none⟩ (.int .u8 m.bd.kd),.cell ⟨a,13,none⟩ (.int .u8 m.bd.kd)]) zk (aL zk (eM (e.cells 2 13 rfl zk) (bP (e.cell 2 rfl zk) (bP (e.cell 2 rfl zk) aO)))),aU.lookup rfl zk nq (r:=u) (k:=m.bd.kd) (ok:=false) zk e 0 rfl (z:=sz sy) zk (v:=.agg #[.func (.func fp) #[] #[],.func (.func fg) #[] #[],.func (.func fm) #[] #[]]) (by rw [hc];rfl) (Zr 5 1 [] (tQ aP aF [(m.bd.kd:Int)] e λb8 e4 x=>⟨fM (n:=[.holds (cI wz sz u sN).holds,.prop (Array.size (aV.cells m.bd)=76),.cells ⟨a,13,none⟩ (aV.cells m.bd),.cell ⟨a,13,none⟩ (.int .u8 m.bd.kd)]) zk (JM (x.at_ 1 rfl) (aL zk (eM (x.cells 3 13 rfl zk) (bP (x.cell 3 rfl zk) aO)))),(oV aP aF (0:Int) (x.pl 2) zb λc0 c1 e5 a0=>⟨fM (n:=[.holds (cI wz sz u sN).holds,.prop (Array.size (aV.cells m.bd)=76),.cells ⟨a,13,none⟩ (aV.cells m.bd),.cell ⟨a,13,none⟩ (.int .u8 m.bd.kd)]) zk (JM (a0.at_ 2 rfl) (aL zk (eM (a0.cells 3 13 rfl zk) (bP (a0.cell 3 rfl zk) aO)))),dE (f:=fp) (args:=#[.slice c0 (((kO m 11)++([(m.bd.kd:Int)])).length) c1,.agg (aV.cells m.bd)]) C.cp (C.put ((kO m 11)++([(m.bd.kd:Int)])) m.bd rfl zb hm.bd hin.2.1 (by have:=hin.2.2;omega) (λw h=>hr _ (h.drop 3)) a0) ?_⟩)⟩))⟩
    rintro e6 e7 ⟨c2,c3,rfl,c4⟩
    exact Lo (Dz (Zr 15 1 [] (Zd (oU [2] (c2,c3,b8,u) c4))))
   refine tQ aP aF [(m.bd.kd:Int)] b λa9 e8 a5=>⟨fM (n:=[.prop (Array.size (aV.cells m.bd)=76),.cells ⟨a,13,none⟩ (aV.cells m.bd),.cell ⟨a,13,none⟩ (.int .u8 m.bd.kd)]) zk (aL zk (eM (a5.cells 2 13 rfl zk) (bP (a5.cell 2 rfl zk) aO))),Zc (gF a5) ?_⟩
   rintro e9 f0 ⟨a6,rfl,i⟩
   refine⟨fM (n:=[.prop (Array.size (aV.cells m.bd)=76),.cells ⟨a,13,none⟩ (aV.cells m.bd),.cell ⟨a,13,none⟩ (.int .u8 m.bd.kd),.cell ⟨a,13,none⟩ (.int .u8 m.bd.kd)]) zk (aL zk (eM (i.cells 3 13 rfl zk) (bP (i.cell 3 rfl zk) (bP (i.cell 3 rfl zk) aO)))),aU.lookup rfl zk nq (r:=a6) (k:=m.bd.kd) (ok:=false) zk i 0 rfl (z:=sz sy) zk (v:=.agg #[.func (.func fp) #[] #[],.func (.func fg) #[] #[],.func (.func fm) #[] #[]]) (by rw [hc];rfl) (Zr 5 1 [] ?_)⟩
   have b0:=i.pl 2
   refine aU.append rfl zk aP aF (ad:=ad) (c:=c) (xs:=kO m 11) (ys:=[(m.bd.kd:Int)]) (adx:=some ⟨a9,0,none⟩) (cx:=1) (0:Int) zk b0 (b0.rows 2 rfl aF.size (0:Int)) (λh=>nomatch h) zb zb λc5 c6 f1 a1=>⟨fM (n:=[.holds (cI wz sz a6 sN).holds,.prop (Array.size (aV.cells m.bd)=76),.cells ⟨a,13,none⟩ (aV.cells m.bd),.cell ⟨a,13,none⟩ (.int .u8 m.bd.kd)]) zk (JM (a1.at_ 1 rfl) (aL zk (eM (a1.cells 3 13 rfl zk) (bP (a1.cell 3 rfl zk) aO)))),dE (f:=fp) (args:=#[.slice c5 (((kO m 11)++([(m.bd.kd:Int)])).length) c6,.agg (aV.cells m.bd)]) C.cp (C.put ((kO m 11)++([(m.bd.kd:Int)])) m.bd rfl zb hm.bd hin.2.1 (by have:=hin.2.2;omega) (λw h=>hr _ (h.drop 3)) a1) ?_⟩
   rintro f2 f3 ⟨c7,c8,rfl,c9⟩
   exact Lo (Dz (Zr 15 1 [] (Zd (oU [2] (c7,c8,a9,a6) ((((c9.pl 3).pl 2).pl 3).pl 3)))))
  rintro⟨a2,a3,d1,d2⟩ d3 d4
  have d5:St w0 (Sl a2 a3 5 1 aA (((kO m 11)++([(m.bd.kd:Int)]))++oo m.bd)::Sl (some ⟨d1,0,none⟩) 1 5 1 aA ([(m.bd.kd:Int)])::cI wz sz d2 sN::aC a (aD.cells m) 51::L) d3:=d4
  refine aN.fK (S':=[(2,.slice a2 ((((kO m 11)++([(m.bd.kd:Int)]))++oo m.bd).length) a3)]) rfl (Zt (Ze (bL (v:=.slice a2 ((((kO m 11)++([(m.bd.kd:Int)]))++oo m.bd).length) a3) ?_)))
  have d6:=(((d5.pl 0).pl 3).pl 3).pl 3
  exact⟨a2,a3,rfl,d6.dr 3⟩
theorem B6 m (hm:dw m) (hr:Rw w0 L bS.cells 2 cD m.bd.qa m.bd.ql) (hs:St w0 L w):Cs Tryz.prog 155 #[.agg (aD.cells m)] w λrv w'=>∃ ao co,rv=.slice ao ((jU m).length) co/\St w0 (Sl ao co 5 1 aA (jU m)::L) w':=by
 refine cL Tryz.func155 Tryz.ntmps155 (En (Ls (Lg [0] (Dz (hG (aD.cells m) hs λb1 w2 e=>Lz (Ls (Ls (Dz (bX [1] (fE 0 0 0 121 (aD.cells m) e Hz) (eE (wB m hm (λw h=>hr _ (h.drop 1)) e) λw6 b=>Lz (Dz (cZ (t:=!(dN m)) (λd=>?_) (λd=>?_)))))))))))))
 ·have a:=jV d
  refine En (Lq (Le (Ly (Dz (bL (v:=.slice none 0 0) ?_)))))
  have o:=St.bJ b 5 1 aA
  have q:=(o.pl 0).pl 1
  exact⟨none,0,by rw [(show jU m=([]:List Int) from if_neg (by rw [a];decide))];rfl,by rw [(show jU m=([]:List Int) from if_neg (by rw [a];decide))];exact(q.dr 1)⟩
 ·have a:=jN d
  refine Zk (Zt (Zs (bX [1] (fE 0 0 0 121 (aD.cells m) b Hz) (Zc (qB m hm a (λw h=>hr _ (h.drop 1)) b) ?_))))
  rintro a1 a2 ⟨f,i,rfl,x⟩
  refine Lz (Le (Dz (bL (v:=.slice f ((kX m).length) i) ?_)))
  have z:=(x.pl 0).pl 1
  exact⟨f,i,by rw [(show jU m=kX m from if_pos a)],by rw [(show jU m=kX m from if_pos a)];exact(z.dr 1)⟩
def AK (l1 l2 l3:List Int):Nat->List Int
 | 0=>[]
 | 1=>l1
 | 2=>l1++l2
 | _=>l1++l2++l3
theorem Gc {bs:Nat}{a1:Option Addr}{n1:Nat}{c1:Nat}{a2:Option Addr}{n2:Nat}{c2:Nat}{a3:Option Addr}{n3:Nat}{c3:Nat}l1 l2 l3 (e1:l1.length=n1) (e2:l2.length=n2) (e3:l3.length=n3) (g1:l1.length<=100000) (g2:l2.length<=100000) (g3:l3.length<=100000) (hn1:a1=none->c1=0) (hn2:a2=none->c2=0) (hn3:a3=none->c3=0) (hr1:Rw w0 L aA 1 0 a1 l1) (hr2:Rw w0 L aA 1 0 a2 l2) (hr3:Rw w0 L aA 1 0 a3 l3) (hs:St w0 (aC bs #[.slice a1 n1 c1,.slice a2 n2 c2,.slice a3 n3 c3] 25::L) w):Cs Tryz.prog 99 #[zL bs 0 3 3] w λrv w'=>∃ ao co,rv=.slice ao ((l1++l2++l3).length) co/\St w0 (aC bs #[.slice a1 n1 c1,.slice a2 n2 c2,.slice a3 n3 c3] 25::Sl ao co 5 1 aA (l1++l2++l3)::L) w':=by
 refine cL Tryz.func99 Tryz.ntmps99 (Zs ?_)
 subst e1
 subst e2
 subst e3
 refine En (La (Lt (Lq (Ls (Lq (Lb (Dz (bH.loop (T:=Nat×Int) (λgg=>[(0,zL bs 0 3 3),(2,.slice none 0 0),(3,.int .i64 gg.2),(9,zL bs 0 3 3),(10,.int .i64 3),(11,.int .i64 (gg.1:Nat))]) (λgg w=>(gg.1<=3/\(gg.1=0->gg.2=(0:Int))/\(gg.1=1->gg.2=(0:Int)+(l1.length:Nat))/\(gg.1=2->gg.2=(0:Int)+(l1.length:Nat)+(l2.length:Nat))/\(gg.1=3->gg.2=(0:Int)+(l1.length:Nat)+(l2.length:Nat)+(l3.length:Nat)))/\St w0 (aC bs #[.slice a1 l1.length c1,.slice a2 l2.length c2,.slice a3 l3.length c3] 25::L) w) (λgg=>3-gg.1) (0,0) [0,2,3,9,10,11] zk ⟨⟨Nat.zero_le _,λ_=>rfl,λh=>by omega,λh=>by omega,λh=>by omega⟩,hs⟩ ?_))))))))
 rintro⟨k,z⟩ w1 ⟨hp,a⟩
 dsimp only at hp a
 refine En (Lq (Ls (Dz (Zn [(12,.bool (decide ((k:Int)<3))),(0,zL bs 0 3 3),(2,.slice none 0 0),(3,.int .i64 z),(9,zL bs 0 3 3),(10,.int .i64 3),(11,.int .i64 (k:Nat))] (Zi ((k:Int)<3) (λa6=>?_) (λa6=>?_))))))
 ·have hcs:k=0\/k=1\/k=2:=za
  rcases hcs with rfl|rfl|rfl
  ·have hz:z=(0:Int):=hp.2.1 rfl
   refine Zn [(12,.bool (decide (((0:Nat):Int)<3))),(0,zL bs 0 3 3),(2,.slice none 0 0),(3,.int .i64 z),(9,zL bs 0 3 3),(10,.int .i64 3),(11,.int .i64 0)] (Zk (Zt (Zs (Zb (Zs (cS (Hx 0 (0:Int) (3:Int) bs 0 1 (Hl 1 0 0 a Hz)) (Zt (Zs (cS (dW 3 (z+(l1.length:Nat)) Hz) (En (Lt (Lq (Dz (Zi ((z+(l1.length:Nat):Int)<0) (λa7=>?_) (λa7=>?_)))))))))))))))
   ·exfalso;omega
   ·exact En (Lk (Lm (Lt (La (Dz (aN.back (1,z+(l1.length:Nat)) [0,2,3,9,10,11] zk (by show 3-1<3-0;omega) ⟨⟨za,za,za,za,za⟩,a⟩))))))
  ·have hz:z=(0:Int)+(l1.length:Nat):=hp.2.2.1 rfl
   refine Zn [(12,.bool (decide (((1:Nat):Int)<3))),(0,zL bs 0 3 3),(2,.slice none 0 0),(3,.int .i64 z),(9,zL bs 0 3 3),(10,.int .i64 3),(11,.int .i64 1)] (Zk (Zt (Zs (Zb (Zs (cS (Hx 0 (1:Int) (3:Int) bs 0 1 (Hl 1 0 1 a Hz)) (Zt (Zs (cS (dW 3 (z+(l2.length:Nat)) Hz) (En (Lt (Lq (Dz (Zi ((z+(l2.length:Nat):Int)<0) (λa8=>?_) (λa8=>?_)))))))))))))))
   ·exfalso;omega
   ·exact En (Lk (Lm (Lt (La (Dz (aN.back (2,z+(l2.length:Nat)) [0,2,3,9,10,11] zk (by show 3-2<3-1;omega) ⟨⟨za,za,za,za,za⟩,a⟩))))))
  ·have hz:z=(0:Int)+(l1.length:Nat)+(l2.length:Nat):=hp.2.2.2.1 rfl
   refine Zn [(12,.bool (decide (((2:Nat):Int)<3))),(0,zL bs 0 3 3),(2,.slice none 0 0),(3,.int .i64 z),(9,zL bs 0 3 3),(10,.int .i64 3),(11,.int .i64 2)] (Zk (Zt (Zs (Zb (Zs (cS (Hx 0 (2:Int) (3:Int) bs 0 1 (Hl 1 0 2 a Hz)) (Zt (Zs (cS (dW 3 (z+(l3.length:Nat)) Hz) (En (Lt (Lq (Dz (Zi ((z+(l3.length:Nat):Int)<0) (λa9=>?_) (λa9=>?_)))))))))))))))
   ·exfalso;omega
   ·exact En (Lk (Lm (Lt (La (Dz (aN.back (3,z+(l3.length:Nat)) [0,2,3,9,10,11] zk (by show 3-3<3-2;omega) ⟨⟨za,za,za,za,za⟩,a⟩))))))
 ·have hkn:k=3:=za
  subst hkn
  have hz:z=(0:Int)+(l1.length:Nat)+(l2.length:Nat)+(l3.length:Nat):=hp.2.2.2.2 rfl
  have hzn:z=((l1.length+l2.length+l3.length:Nat):Int):=za
  refine Zn [(12,.bool (decide (((3:Nat):Int)<3))),(0,zL bs 0 3 3),(2,.slice none 0 0),(3,.int .i64 z),(9,zL bs 0 3 3),(10,.int .i64 3),(11,.int .i64 (3:Nat))] (bH.fK (S':=[(12,.bool (decide (((3:Nat):Int)<3))),(0,zL bs 0 3 3),(2,.slice none 0 0),(3,.int .i64 (l1.length+l2.length+l3.length:Nat)),(9,zL bs 0 3 3),(10,.int .i64 3),(11,.int .i64 (3:Nat))]) (by rw [hzn]) (Zn [(12,.bool (decide (((3:Nat):Int)<3))),(0,zL bs 0 3 3),(2,.slice none 0 0),(3,.int .i64 (l1.length+l2.length+l3.length:Nat)),(9,zL bs 0 3 3),(10,.int .i64 3),(11,.int .i64 (3:Nat))] (En (Lx (kD (kE (Lh (Lt (Ls (Lg [1] (Lw (dE (f:=138) (args:=#[.slice none 0 0,.int .i64 (l1.length+l2.length+l3.length:Nat)]) Tryz.call138 (pI ([]:List Int) (l1.length+l2.length+l3.length:Nat) zg za (St.bJ a 5 1 aA)) ?_))))))))))))
  rintro c9 d0 ⟨b1,b2,rfl,b3⟩
  refine Lz (Ls (Lq (Lb (Dz (bH.loop (T:=Nat×(Option Addr)×Nat) (λgg=>[(2,.slice none 0 0),(6,.slice gg.2.1 ((AK l1 l2 l3 gg.1).length) gg.2.2),(25,zL bs 0 3 3),(26,.int .i64 3),(27,.int .i64 (gg.1:Nat))]) (λgg w=>(gg.1<=3)/\St w0 (Sl gg.2.1 gg.2.2 5 1 aA (AK l1 l2 l3 gg.1)::aC bs #[.slice a1 l1.length c1,.slice a2 l2.length c2,.slice a3 l3.length c3] 25::L) w) (λgg=>3-gg.1) (0,b1,b2) [2,6,25,26,27] zk ⟨Nat.zero_le _,b3⟩ ?_)))))
  rintro⟨k,ad,c⟩ d ⟨hq,b⟩
  dsimp only at hq b
  refine En (Lq (Ls (Dz (Zn [(28,.bool (decide ((k:Int)<3))),(2,.slice none 0 0),(6,.slice ad ((AK l1 l2 l3 k).length) c),(25,zL bs 0 3 3),(26,.int .i64 3),(27,.int .i64 (k:Nat))] (Zi ((k:Int)<3) (λb4=>?_) (λb4=>?_))))))
  ·have hcs:k=0\/k=1\/k=2:=za
   rcases hcs with rfl|rfl|rfl
   ·have a0:St w0 (Sl ad c 5 1 aA ([]:List Int)::aC bs #[.slice a1 l1.length c1,.slice a2 l2.length c2,.slice a3 l3.length c3] 25::L) d:=b
    refine Zn [(28,.bool (decide (((0:Nat):Int)<3))),(2,.slice none 0 0),(6,.slice ad (([]:List Int).length) c),(25,zL bs 0 3 3),(26,.int .i64 3),(27,.int .i64 0)] (Zk (Zt (Zs (Zb (Zs (cS (Hx 0 (0:Int) (3:Int) bs 0 1 (Hl 1 1 0 a0 Hz)) (En (Lt (Lg [2] (Lw (aU.append rfl zk aP aF (ad:=ad) (c:=c) (xs:=([]:List Int)) (ys:=l1) (adx:=a1) (cx:=c1) (0:Int) zk a0 (hr1 _ (a0.drop 2)) hn1 zx zx λe i b5 b6=>Lo (bO (Lm (Lt (La (Dz ?_))))))))))))))))
    have b7:St w0 (Sl e i 5 1 aA (AK l1 l2 l3 1)::aC bs #[.slice a1 l1.length c1,.slice a2 l2.length c2,.slice a3 l3.length c3] 25::L) b5:=b6
    exact aN.pick [27,6,2,25,26] (S':=[(27,.int .i64 1),(6,.slice e l1.length i),(2,.slice none 0 0),(25,zL bs 0 3 3),(26,.int .i64 3)]) zk (aN.fK (S':=[(27,.int .i64 1),(6,.slice e ((AK l1 l2 l3 1).length) i),(2,.slice none 0 0),(25,zL bs 0 3 3),(26,.int .i64 3)]) (by rfl) (aN.back (1,e,i) [2,6,25,26,27] zk (by show 3-1<3-0;omega) ⟨za,b7⟩))
   ·have a4:St w0 (Sl ad c 5 1 aA l1::aC bs #[.slice a1 l1.length c1,.slice a2 l2.length c2,.slice a3 l3.length c3] 25::L) d:=b
    refine Zn [(28,.bool (decide (((1:Nat):Int)<3))),(2,.slice none 0 0),(6,.slice ad l1.length c),(25,zL bs 0 3 3),(26,.int .i64 3),(27,.int .i64 1)] (Zk (Zt (Zs (Zb (Zs (cS (Hx 0 (1:Int) (3:Int) bs 0 1 (Hl 1 1 1 a4 Hz)) (En (Lt (Lg [2] (Lw (aU.append rfl zk aP aF (ad:=ad) (c:=c) (xs:=l1) (ys:=l2) (adx:=a2) (cx:=c2) (0:Int) zk a4 (hr2 _ (a4.drop 2)) hn2 zx zx λo q b8 b9=>Lo (bO (Lm (Lt (La (Dz ?_))))))))))))))))
    have c0:St w0 (Sl o q 5 1 aA (AK l1 l2 l3 2)::aC bs #[.slice a1 l1.length c1,.slice a2 l2.length c2,.slice a3 l3.length c3] 25::L) b8:=b9
    exact aN.pick [27,6,2,25,26] (S':=[(27,.int .i64 2),(6,.slice o ((l1++l2).length) q),(2,.slice none 0 0),(25,zL bs 0 3 3),(26,.int .i64 3)]) zk (aN.fK (S':=[(27,.int .i64 2),(6,.slice o ((AK l1 l2 l3 2).length) q),(2,.slice none 0 0),(25,zL bs 0 3 3),(26,.int .i64 3)]) (by rfl) (aN.back (2,o,q) [2,6,25,26,27] zk (by show 3-2<3-1;omega) ⟨za,c0⟩))
   ·have a5:St w0 (Sl ad c 5 1 aA (l1++l2)::aC bs #[.slice a1 l1.length c1,.slice a2 l2.length c2,.slice a3 l3.length c3] 25::L) d:=b
    refine Zn [(28,.bool (decide (((2:Nat):Int)<3))),(2,.slice none 0 0),(6,.slice ad ((l1++l2).length) c),(25,zL bs 0 3 3),(26,.int .i64 3),(27,.int .i64 2)] (Zk (Zt (Zs (Zb (Zs (cS (Hx 0 (2:Int) (3:Int) bs 0 1 (Hl 1 1 2 a5 Hz)) (En (Lt (Lg [2] (Lw (aU.append rfl zk aP aF (ad:=ad) (c:=c) (xs:=l1++l2) (ys:=l3) (adx:=a3) (cx:=c3) (0:Int) zk a5 (hr3 _ (a5.drop 2)) hn3 zx zx λu x c4 c5=>Lo (bO (Lm (Lt (La (Dz ?_))))))))))))))))
    have c6:St w0 (Sl u x 5 1 aA (AK l1 l2 l3 3)::aC bs #[.slice a1 l1.length c1,.slice a2 l2.length c2,.slice a3 l3.length c3] 25::L) c4:=c5
    exact aN.pick [27,6,2,25,26] (S':=[(27,.int .i64 3),(6,.slice u (((l1++l2)++l3).length) x),(2,.slice none 0 0),(25,zL bs 0 3 3),(26,.int .i64 3)]) zk (aN.fK (S':=[(27,.int .i64 3),(6,.slice u ((AK l1 l2 l3 3).length) x),(2,.slice none 0 0),(25,zL bs 0 3 3),(26,.int .i64 3)]) (by rfl) (aN.back (3,u,x) [2,6,25,26,27] zk (by show 3-3<3-2;omega) ⟨za,c6⟩))
  ·have hkn:k=3:=za
   subst hkn
   have c7:St w0 (Sl ad c 5 1 aA (l1++l2++l3)::aC bs #[.slice a1 l1.length c1,.slice a2 l2.length c2,.slice a3 l3.length c3] 25::L) d:=b
   exact Zn [(28,.bool (decide (((3:Nat):Int)<3))),(2,.slice none 0 0),(6,.slice ad ((l1++l2++l3).length) c),(25,zL bs 0 3 3),(26,.int .i64 3),(27,.int .i64 (3:Nat))] (En (Lx (kD (kE (Lh (Lt (Lq (Le (Dz (bL (v:=.slice ad ((l1++l2++l3).length) c) ⟨ad,c,rfl,(c7.pl 0).pl 1⟩))))))))))
theorem Gd m (hm:dw m) (hr:Rw w0 L bS.cells 2 cD m.bd.qa m.bd.ql) (hs:St w0 L w):Cs Tryz.prog 40 #[.agg (aD.cells m)] w λrv w'=>∃ ao co,rv=.slice ao ((cF m).length) co/\St w0 (Sl ao co 5 1 aA (cF m)::L) w':=by
 refine cL Tryz.func40 Tryz.ntmps40 (Zs ?_)
 have g2:=hm.nr
 refine Zg [0] (hG (aD.cells m) hs λa w2 o=>Lz (Ls (Ls (Dz (bX [1] (fE 0 0 0 121 (aD.cells m) o Hz) (eE (wB m hm (λw h=>hr _ (h.drop 1)) o) λw6 q=>Lz (Dz (cZ (t:=!(dN m)) (λd=>?_) (λd=>?_)))))))))
 ·have b:=jV d
  refine En (Lq (Le (Ly (Dz (bL (v:=.slice none 0 0) ?_)))))
  have a5:=St.bJ q 5 1 aA
  have a6:=(a5.pl 0).pl 1
  exact⟨none,0,by rw [(show cF m=([]:List Int) from if_neg (by rw [b];decide))];rfl,by rw [(show cF m=([]:List Int) from if_neg (by rw [b];decide))];exact(a6.dr 1)⟩
 ·have b:=jN d
  have hb:dN m=true:=b
  refine Zk (Zt (Zs (ZD (eR [0,1,3,5,6] (.ef 2 (.ef 4 (.ef 7 (.ef 8 (.rd 9 .done)))))) q λb4 f b5=>Zj (Hl 1 0 1 f (fE 3 0 0 121 (aD.cells m) f (Hg 6 (.eJ (zL a 89 m.tg.toList.length 32) (.sub 0 32)) [.prop (((none:Option Operand)=none->(0:Nat)=0)/\((none:Option Operand)=none->(32:Nat)=32)/\(0:Nat)<=32/\(32:Nat)<=32),.prop (Value.slice (some (if 32=0 then Addr.mk a 89 none else (Addr.mk a 89 none).add (0*1))) (32-0) (32-0)=Value.slice (some ⟨a,89,none⟩) m.tg.toList.length 32)] (aL ⟨(by first|(intro _;rfl)|(intro hc;cases hc)),(by first|(intro _;rfl)|(intro hc;cases hc)),za,za⟩ (aL (by rw [bI.len];exact dM _ _ _ _ _ zf) aO)) Hz))) (Zc (eU ([]:List Int) m.nr zg za (St.bJ f 5 1 aA)) ?_))))
  rintro b6 b7 ⟨u,x,rfl,a0⟩
  refine⟨fM (n:=[.prop (((none:Option Operand)=none->(0:Nat)=0)/\((none:Option Operand)=none->(32:Nat)=32)/\(0:Nat)<=32/\(32:Nat)<=32),.prop (Value.slice (some (if 32=0 then Addr.mk a 89 none else (Addr.mk a 89 none).add (0*1))) (32-0) (32-0)=Value.slice (some ⟨a,89,none⟩) m.tg.toList.length 32),.prop (Array.size (aD.cells m)=121),.cells ⟨a,0,none⟩ (aD.cells m)]) zk (aL ⟨(by first|(intro _;rfl)|(intro hc;cases hc)),(by first|(intro _;rfl)|(intro hc;cases hc)),za,za⟩ (aL (by rw [bI.len];exact dM _ _ _ _ _ zf) (aL zk (eM (a0.cells 1 0 rfl zk) aO)))),Zc (qB m hm b (λw h=>hr _ (h.drop 2)) a0) ?_⟩
  rintro b8 b9 ⟨a1,a2,rfl,a9⟩
  refine⟨fM (n:=[.prop (((none:Option Operand)=none->(0:Nat)=0)/\((none:Option Operand)=none->(32:Nat)=32)/\(0:Nat)<=32/\(32:Nat)<=32),.prop (Value.slice (some (if 32=0 then Addr.mk a 89 none else (Addr.mk a 89 none).add (0*1))) (32-0) (32-0)=Value.slice (some ⟨a,89,none⟩) m.tg.toList.length 32)]) zk (aL ⟨(by first|(intro _;rfl)|(intro hc;cases hc)),(by first|(intro _;rfl)|(intro hc;cases hc)),za,za⟩ (aL (by rw [bI.len];exact dM _ _ _ _ _ zf) aO)),(aU.cT rfl zk (t:=205) (e:=25) (n:=3) (ps:=[(0,.slice u ((([]:List Int)++wd m.nr).length) x),(1,.slice a1 ((kX m).length) a2),(2,zL a 89 m.tg.toList.length 32)]) zk zk (ti:=Tryz.t25) (z:=.slice none 0 0) zk zk zf zf (cs:=#[.slice u ((([]:List Int)++wd m.nr).length) x,.slice a1 ((kX m).length) a2,zL a 89 m.tg.toList.length 32]) zk a9 λc0 c1 i c2=>Lo (Dz (Zc (Gc (([]:List Int)++wd m.nr) (kX m) m.tg.toList rfl rfl rfl (by have:=gA hb;first|omega|(simp only [List.length_append,List.length_nil,aZ,bI.len];omega)) (by have:=gA hb;first|omega|(simp only [List.length_append,List.length_nil,aZ,bI.len];omega)) (by have:=gA hb;first|omega|(simp only [List.length_append,List.length_nil,aZ,bI.len];omega)) (i.dI 2 rfl) (i.dI 1 rfl) (by intro h;cases h) (λw h=>h.rows 1 rfl aF.size _) (λw h=>h.rows 0 rfl aF.size _) (λw h=>bI.sM h 2 89 m.tg rfl zk) i) ?_)))⟩
  rintro c3 c4 ⟨a3,a4,rfl,b0⟩
  refine Lz (Le (Dz (bL (v:=.slice a3 (((([]:List Int)++wd m.nr)++(kX m)++m.tg.toList).length) a4) ?_)))
  have b2:=((((b0.pl 1).pl 4).pl 4).pl 4).pl 4
  exact⟨a3,a4,by rw [(show cF m=(([]:List Int)++wd m.nr)++(kX m)++m.tg.toList from if_pos b)],by rw [(show cF m=(([]:List Int)++wd m.nr)++(kX m)++m.tg.toList from if_pos b)];exact(b2.dr 4)⟩
end
section
variable {w0 w : World} {L : List cA} {ad : Option Addr} {cb : Nat}
def oO (s:CS):Nat->CS
 | 0=>s
 | k+1=>(aW (oO s k)).2
def dH (s:CS) (k:Nat):Int:=(aW (oO s k)).1
def eC (f:Nat->Int) (k:Nat):cW:=Vector.ofFn λi=>if i.val<k then f i.val else 0
def gM (m:aD):aD:=⟨m.og,m.nr,m.dp,qm m.bd,m.tg⟩
def ofM (i n:Int) (b:List Int) (t:bI):aD×Int :=
 let a:=cG (b,false)
 let k:=cG (oO a.2 11)
 if ¬ (1<=k.1/\k.1<=6) then (aJ,5) else if a.1≠i then (aJ,5) else
 let g:=gL k.1 k.2
 let m:aD:=⟨a.1,n,eC (dH a.2) 11,g.1,t⟩
 if g.2.2=true then (aJ,5) else if g.2.1.length>0 then (aJ,5) else if jU m=b then (m,0) else (aJ,5)
theorem Lf (f:Nat->Int):eC f 0=qk:=zk
theorem iX (f:Nat->Int) (x:Int) (h:∀ k,k<11->0<=f k/\f k<=18446744073709551615):∀ x∈(eC f 11).toList,0<=x/\x<=18446744073709551615:=by
 intro x hx
 have e:(eC f 11).toList=[f 0,f 1,f 2,f 3,f 4,f 5,f 6,f 7,f 8,f 9,f 10]:=zk
 rw [e] at hx
 simp only [List.mem_cons,List.not_mem_nil,or_false] at hx
 rcases hx with rfl|rfl|rfl|rfl|rfl|rfl|rfl|rfl|rfl|rfl|rfl
 all_goals exact h _ zf
theorem Li {og nr:Int}{bd:aV}{tg:bI}(f:Nat->Int){k:Nat}(hk:k<11):bZ (aD.cells ⟨og,nr,eC f k,bd,tg⟩) (2+k) [.int .u64 (f k)]=aD.cells ⟨og,nr,eC f (k+1),bd,tg⟩ :=
 match k,hk with
 | 0,_=>by kernel_rfl
 | 1,_=>by kernel_rfl
 | 2,_=>by kernel_rfl
 | 3,_=>by kernel_rfl
 | 4,_=>by kernel_rfl
 | 5,_=>by kernel_rfl
 | 6,_=>by kernel_rfl
 | 7,_=>by kernel_rfl
 | 8,_=>by kernel_rfl
 | 9,_=>by kernel_rfl
 | 10,_=>by kernel_rfl
 | n+11,h=>by omega
theorem AL (m:aD):jU (gM m)=jU m:=rfl
theorem kA:dw aJ:=⟨zf,zf,zf,⟨zf,zf,zf,fZ,(λp hp=>by cases hp),cO,Nat.zero_le _⟩,cO⟩
theorem E6 {i n a k:Int}{b:List Int}{t:bI}{s1 s2:CS}(h1:cG (b,false)=(a,s1)) (h2:cG (oO s1 11)=(k,s2)) (h:¬ (1<=k/\k<=6)\/a≠i):ofM i n b t=(aJ,5):=by
 unfold ofM
 simp only [h1,h2]
 by_cases hk:1<=k/\k<=6
 ·rw [if_neg (λd=>d hk),if_pos (h.resolve_left λd=>d hk)]
 ·rw [if_pos hk]
theorem uf {i n a k:Int}{b:List Int}{t:bI}{s1 s2 s3:CS}{g:aV}(h1:cG (b,false)=(a,s1)) (h2:cG (oO s1 11)=(k,s2)) (hin:1<=k/\k<=6) (hi:a=i) (hg:gL k s2=(g,s3)) :
 ofM i n b t=if s3.2=true then (aJ,5) else if s3.1.length>0 then (aJ,5) else if jU ⟨a,n,eC (dH s1) 11,g,t⟩=b then (⟨a,n,eC (dH s1) 11,g,t⟩,0) else (aJ,5):=by
 unfold ofM
 simp only [h1,h2,hg]
 rw [if_neg (λd=>d hin),if_neg (λd=>d hi)]
theorem J3 i n b t (hpos:0<b.length) (hbl:b.length<=100000) (hbb:∀ z∈b,0<=z/\z<256) (hn:0<=n/\n<=18446744073709551615) (ht:∀ z∈t.toList,0<=z/\z<256) (hr:Rw w0 L aA 1 0 ad b) (hs:St w0 L w):Cs Tryz.prog 116 #[.int .i64 i,.int .u64 n,.slice ad b.length cb,.agg (bI.cells t)] w λrv w'=>∃ mm2 ee2,rv=.tuple #[.agg (aD.cells mm2),.int .i64 ee2]/\ofM i n b t=(gM mm2,ee2)/\dw mm2/\St w0 (Sl mm2.bd.qa mm2.bd.qc 190 2 bS.cells mm2.bd.ql::L) w':=by
 refine cL Tryz.func116 Tryz.ntmps116 (Zs ?_)
 have hsome:xP ad cb:=by obtain⟨b,off,rfl⟩:=aB.isSome (hr _ hs) hpos;exact .inl ⟨b,off,rfl⟩
 refine Zg [0,1] (hG (bI.cells t) hs λb1 w2 h4=>Lo (Dz (eN (aD.cells aJ) h4 λb4 w5 h5=>Lz (Ls (Lg [1] (Lw (Zc (mP b za zc (λw h=>hr _ (h.drop 2)) h5) ?_)))))))
 rintro p2 p3 ⟨a0,o,q,rfl,d9⟩
 have e0:bG (Sl o q 5 1 aA b) o b q:=bG.new d9 (j:=1) rfl hbb za
 refine Lz (Ls (Dz (bH.join (T:=Nat×Int×Option Addr×List Int×Nat×Bool) (E:=λjx=>[(0,.int .i64 i),(2,.slice ad b.length cb),(8,zP b4 0),(9,.int .i64 0),(10,zP a0 0),(11,zP jx.1 0)]) (F:=λjx w=>(cG (b,false)=(jx.2.1,(jx.2.2.2.1,jx.2.2.2.2.2)))/\(0<=jx.2.1/\jx.2.1<256)/\(bG (Sl o q 5 1 aA b) jx.2.2.1 jx.2.2.2.1 jx.2.2.2.2.1)/\St w0 (aC jx.1 (aD.cells (⟨jx.2.1,n,qk,vC,t⟩:aD)) 51::aC a0 #[.slice jx.2.2.1 jx.2.2.2.1.length jx.2.2.2.2.1,.bool jx.2.2.2.2.2] 173::Sl o q 5 1 aA b::aC b4 (aD.cells aJ) 51::aC b1 (bI.cells t) 44::L) w) ?_ ?_)))
 ·refine bH.vr [0,1,3,0,0,31,0,127] (.rd 0 (.rd 3 (.rd 4 (.alt (.ef 1 (.rd 2 (.rd 5 (.ef 6 (.ef 7 .done))))) (.ef 6 (.ef 1 (.rd 2 (.rd 5 (.ef 7 .done))))))))) zk zk fX zk d9 λp4 b9 p5=>Zh [(0,.gen []),(3,.gen []),(4,.agg (bI.cells t))] [(4,[.prop (Array.size (bI.cells t)=32),.cells ⟨b1,0,none⟩ (bI.cells t)])] (ak (aL zk (eM (b9.cells 3 0 rfl zk) aO)) gQ) (aU.alt ?_ ?_)
  ·refine Zc (gD (Sl o q 5 1 aA b) b false (λw h=>h.at_ 0 rfl) e0 b9) ?_
   rintro p6 p7 ⟨a3,h6,h7,h8,h9,rfl,i0,i1,i2,e1⟩
   refine⟨fM (n:=[.prop (Array.size (bI.cells t)=32),.cells ⟨b1,0,none⟩ (bI.cells t)]) zk (aL zk (eM (e1.cells 3 0 rfl zk) aO)),Zh [(2,.eJ (.int .i64 a3) (.gen [])),(5,.gen [])] [(2,[.prop (Value.int .i64 (IntKind.i64.wrap a3)=Value.int .i64 a3)])] (ak (aL (kF za za) aO) gQ) ?_⟩
   refine eN (aD.cells aJ) e1 λi3 p8 e2=>⟨fM (n:=[.prop (Value.int .i64 (IntKind.i64.wrap a3)=Value.int .i64 a3),.prop (Array.size (bI.cells t)=32),.cells ⟨b1,0,none⟩ (bI.cells t)]) zk (aL (kF za za) (aL zk (eM (e2.cells 4 0 rfl zk) aO))),?_⟩
   exact Zu 0 0 (aD.cells (⟨a3,n,qk,vC,t⟩:aD)) e2 λp9 i4=>Lo (Ld (Dz (oU [0,2,8,9,10,11] (i3,a3,h8,h6,h9,h7) ⟨i0,i1,i2,i4⟩)))
  refine eN (aD.cells aJ) b9 λi5 q0 e3=>⟨fM (n:=[.prop (Array.size (bI.cells t)=32),.cells ⟨b1,0,none⟩ (bI.cells t)]) zk (aL zk (eM (e3.cells 4 0 rfl zk) aO)),Zc (gD (Sl o q 5 1 aA b) b false (λw h=>h.at_ 1 rfl) e0 (e3.pl 1)) ?_⟩
  rintro q1 q2 ⟨a7,i7,i8,i9,j0,rfl,j1,j2,j3,e4⟩
  refine⟨fM (n:=[.prop (Array.size (bI.cells t)=32),.cells ⟨b1,0,none⟩ (bI.cells t)]) zk (aL zk (eM (e4.cells 4 0 rfl zk) aO)),Zh [(2,.eJ (.int .i64 a7) (.gen [])),(5,.gen [])] [(2,[.prop (Value.int .i64 (IntKind.i64.wrap a7)=Value.int .i64 a7)])] (ak (aL (kF za za) aO) gQ) ?_⟩
  exact Zu 1 0 (aD.cells (⟨a7,n,qk,vC,t⟩:aD)) e4 λq3 j4=>Lo (Ld (Dz (oU [0,2,8,9,10,11] (i5,a7,i9,i7,j0,i8) ⟨j1,j2,j3,((((j4.pl 4).pl 4).pl 4).pl 3).pl 4⟩)))
 rintro⟨a,u,b0,d,b2,e⟩ e5 ⟨a2,e6,c0,j6⟩
 have a2:cG (b,false)=(u,(d,e)):=a2
 have e6:(0<=u/\u<256):=e6
 have c0:bG (Sl o q 5 1 aA b) b0 d b2:=c0
 have j7:St w0 (aC a (aD.cells (⟨u,n,qk,vC,t⟩:aD)) 51::aC a0 #[.slice b0 d.length b2,.bool e] 173::Sl o q 5 1 aA b::aC b4 (aD.cells aJ) 51::aC b1 (bI.cells t) 44::L) e5:=j6
 refine aN.fK (S':=[(0,.int .i64 i),(2,.slice ad b.length cb),(8,zP b4 0),(9,.int .i64 0),(10,zP a0 0),(11,zP a 0)]) rfl (En (Lt (Ls (Lq (Lb (Dz ?_))))))
 have j8:=(j7.pl 0).pl 1
 have j9:St w0 (aC a0 #[.slice b0 d.length b2,.bool e] 173::aC a (aD.cells (⟨u,n,eC (dH (d,e)) 0,vC,t⟩:aD)) 51::Sl o q 5 1 aA b::aC b4 (aD.cells aJ) 51::aC b1 (bI.cells t) 44::L) e5:=(by rw [Lf];exact j8)
 refine bH.loop (T:=Nat×(List Int)×Bool×(Option Addr)×Nat) (λgg=>[(0,.int .i64 i),(2,.slice ad b.length cb),(8,zP b4 0),(9,.int .i64 0),(10,zP a0 0),(11,zP a 0),(23,.int .i64 (gg.1:Nat))]) (λgg w=>(gg.1<=11/\(gg.2.1,gg.2.2.1)=oO (d,e) gg.1/\bG (Sl o q 5 1 aA b) gg.2.2.2.1 gg.2.1 gg.2.2.2.2)/\St w0 (aC a0 #[.slice gg.2.2.2.1 gg.2.1.length gg.2.2.2.2,.bool gg.2.2.1] 173::aC a (aD.cells (⟨u,n,eC (dH (d,e)) gg.1,vC,t⟩:aD)) 51::Sl o q 5 1 aA b::aC b4 (aD.cells aJ) 51::aC b1 (bI.cells t) 44::L) w) (λgg=>11-gg.1) (0,d,e,b0,b2) [0,2,8,9,10,11,23] zk ⟨⟨Nat.zero_le _,rfl,c0⟩,j9⟩ ?_
 rintro⟨kk,e7,e8,q4,q5⟩ q6 ⟨hp,c1⟩
 dsimp only at hp c1
 refine En (Lq (Ls (Dz (Zi ((kk:Int)<11) (λk0=>?_) (λk0=>?_)))))
 ·have hk:kk<11:=za
  refine En (Lk (Lt (Ls (Lb (Lq (Lg [2,5] (Lw (Zc (bT (Sl o q 5 1 aA b) e7 e8 (λw h=>h.at_ 1 rfl) hp.2.2 c1) ?_))))))))
  rintro q7 q8 ⟨e9,f0,f1,f2,f3,rfl,f4,q9,k1,k2⟩
  refine K8 (Hx 4 (kk:Int) (11:Int) a 2 1 Hz) ?_
  have hvk:dH (d,e) kk=e9:=by show(aW (oO _ kk)).1=_;rw [<- hp.2.1,f4]
  exact aU.store rfl rfl zk (b:=a) (off:=2+(kk*1)) (v:=.int .u64 e9) zk zk (ti:=Tryz.t29) zk k2 1 rfl zk zk (by show 2+(kk*1)+1<=121;omega) (cs':=aD.cells (⟨u,n,eC (dH (d,e)) (kk+1),vC,t⟩:aD)) (L':=(aC a0 #[.slice f2 f0.length f3,.bool f1] 173)::aC a (aD.cells (⟨u,n,eC (dH (d,e)) (kk+1),vC,t⟩:aD)) 51::Sl o q 5 1 aA b::aC b4 (aD.cells aJ) 51::aC b1 (bI.cells t) 44::L) (by rw [Nat.mul_one,<- hvk];exact Li _ hk) rfl λr0 k3=>Lo (Ld (Lm (Lt (Dz (cS (dW 0 ((kk:Nat)+1) Hz) (aN.back (kk+1,f0,f1,f2,f3) [0,2,8,9,10,11,23] zk (by show 11-(kk+1)<11-kk;omega) ⟨⟨za,by show _=(aW (oO _ kk)).2;rw [<- hp.2.1,f4],k1⟩,k3⟩))))))
 ·have hke:kk=11:=za
  subst hke
  refine En (Lx (kD (kE (Lh (Lt (Ls (Lg [1,4] (Lw (Zc (gD (Sl o q 5 1 aA b) e7 e8 (λw h=>h.at_ 1 rfl) hp.2.2 c1) ?_)))))))))
  rintro r4 r5 ⟨x,a8,a9,b3,b5,rfl,a4,r6,k4,k5⟩
  refine Lo (Lw (Zu 1 13 (aD.cells (⟨u,n,eC (dH (d,e)) 11,(⟨x,0,0,cN,none,0,[],aK⟩:aV),t⟩:aD)) k5 λr7 f5=>Lo (Ld (Lt (Ls (Dz ?_))))))
  rcases Classical.em (1<=x/\x<=6) with hin|hno
  ·obtain⟨fp,fg,fm,hc,C⟩:=th hin
   refine bH.join (T:=Nat×Nat) (E:=λjx=>[(0,.int .i64 i),(2,.slice ad b.length cb),(8,zP b4 0),(9,.int .i64 0),(10,zP a0 0),(11,zP a 0),(13,zP jx.1 0),(14,.bool true)]) (F:=λjx w=>St w0 (aC jx.1 (lA.cells (⟨.func (.func fp) #[] #[],.func (.func fg) #[] #[],.func (.func fm) #[] #[]⟩:lA)) 209::cI wz sz jx.2 sN::aC a0 #[.slice b3 a8.length b5,.bool a9] 173::aC a (aD.cells (⟨u,n,eC (dH (d,e)) 11,(⟨x,0,0,cN,none,0,[],aK⟩:aV),t⟩:aD)) 51::Sl o q 5 1 aA b::aC b4 (aD.cells aJ) 51::aC b1 (bI.cells t) 44::L) w) ?_ ?_
   ·refine bH.vr [0,0,2,6,15,31,63,63,0,383,1023] (.rd 1 (.rd 2 (.rd 3 (.alt (.ef 0 (.rd 4 (.rd 5 (.rd 6 (.rd 7 (.ef 8 (.ef 9 (.rd 10 .done)))))))) (.ef 8 (.ef 0 (.rd 4 (.rd 5 (.rd 6 (.rd 7 (.ef 9 (.rd 10 .done)))))))))))) zk zk fX zk f5 λr8 c2 r9=>gS 1 3 (Hl 3 1 13 c2 Hz) (aU.alt ?_ ?_)
    ·refine Zc (gF c2) ?_
     rintro s0 s1 ⟨c3,rfl,c4⟩
     exact⟨fM (n:=[.cell ⟨a,13,none⟩ (.int .u8 x)]) zk (bP (c4.cell 2 rfl zk) aO),aU.lookup rfl zk nq (r:=c3) (k:=x) (ok:=true) zk c4 0 rfl (z:=sz sy) zk (v:=.tuple #[.agg #[.func (.func fp) #[] #[],.func (.func fg) #[] #[],.func (.func fm) #[] #[]],.bool true]) (by rw [hc];rfl) (Zr 5 3 [] (eN (lA.cells sy) c4 λk6 s3 c5=>⟨fM (n:=[.holds (cI wz sz c3 sN).holds,.cell ⟨a,13,none⟩ (.int .u8 x)]) zk (JM (c5.at_ 1 rfl) (bP (c5.cell 3 rfl zk) aO)),(Zu 0 0 (lA.cells (⟨.func (.func fp) #[] #[],.func (.func fg) #[] #[],.func (.func fm) #[] #[]⟩:lA)) c5 λs4 k7=>Lo (Dz (Zr 10 1 [] (Zd (oU [0,2,8,9,10,11,13,14] (k6,c3) k7)))))⟩))⟩
    refine eN (lA.cells sy) c2 λk8 s5 f6=>⟨fM (n:=[.cell ⟨a,13,none⟩ (.int .u8 x)]) zk (bP (f6.cell 2 rfl zk) aO),Zc (gF f6) ?_⟩
    rintro s6 s7 ⟨f7,rfl,c6⟩
    exact⟨fM (n:=[.cell ⟨a,13,none⟩ (.int .u8 x)]) zk (bP (c6.cell 3 rfl zk) aO),aU.lookup rfl zk nq (r:=f7) (k:=x) (ok:=true) zk c6 0 rfl (z:=sz sy) zk (v:=.tuple #[.agg #[.func (.func fp) #[] #[],.func (.func fg) #[] #[],.func (.func fm) #[] #[]],.bool true]) (by rw [hc];rfl) (Zr 5 3 [] (Zu 1 0 (lA.cells (⟨.func (.func fp) #[] #[],.func (.func fg) #[] #[],.func (.func fm) #[] #[]⟩:lA)) c6 λs8 k9=>Lo (Dz (Zr 10 1 [] (Zd (oU [0,2,8,9,10,11,13,14] (k8,f7) (((((((k9.pl 6).pl 6).pl 6).pl 6).pl 6).pl 5).pl 6)))))))⟩
   rintro⟨c7,f8⟩ l1 l2
   have b6:St w0 (aC c7 (lA.cells (⟨.func (.func fp) #[] #[],.func (.func fg) #[] #[],.func (.func fm) #[] #[]⟩:lA)) 209::cI wz sz f8 sN::aC a0 #[.slice b3 a8.length b5,.bool a9] 173::aC a (aD.cells (⟨u,n,eC (dH (d,e)) 11,(⟨x,0,0,cN,none,0,[],aK⟩:aV),t⟩:aD)) 51::Sl o q 5 1 aA b::aC b4 (aD.cells aJ) 51::aC b1 (bI.cells t) 44::L) l1:=l2
   refine aN.fK (S':=[(0,.int .i64 i),(2,.slice ad b.length cb),(8,zP b4 0),(9,.int .i64 0),(10,zP a0 0),(11,zP a 0),(13,zP c7 0),(14,.bool true)]) rfl (Zt (Zs (Zs (cS (Hl 4 3 0 b6 Hz) (Zt (cZ (t:=(u:Int) != i) (λc8=>?_) (λc8=>?_)))))))
   ·refine En (Ls (Lg [1] (Lw (Zu 5 0 (aD.cells aJ) b6 λs9 f9=>Lz (Le (Ly (Dz (mZ 5 (.int .i64 5) f9 ?_))))))))
    have l3:=St.bJ f9 190 2 bS.cells
    have l4:=(((((((l3.pl 0).pl 7).pl 7).pl 7).pl 7).pl 7).pl 7).pl 7
    exact⟨aJ,5,rfl,E6 a2 ((congrArg cG hp.2.1.symm).trans a4) (.inr (tU c8)),kA,l4.dr 7⟩
   ·have a5:=sR c8
    refine Zk (Zt (Zs (bX [4] (Hl 1 0 1 b6 Hz) (dE (f:=fg) (args:=#[zP a0 0,zP a 13]) C.cg (C.getM (Sl o q 5 1 aA b) a8 a9 (λw h=>h.at_ 2 rfl) k4 (by have:=gT a4;omega) ((b6.pl 3).pl 3)) ?_))))
    rintro t0 l7 ⟨c9,b7,a6,l8,l9,rfl,b8,m0,t1,m1⟩
    refine Lo (Ld (Lt (Ls (Ls (Dz ?_)))))
    obtain⟨mm,hmm⟩:∃ m:aD,m=(⟨u,n,eC (dH (d,e)) 11,c9,t⟩:aD):=⟨_,rfl⟩
    have m2:St w0 (aC a (aD.cells mm) 51::Sl mm.bd.qa mm.bd.qc 190 2 bS.cells mm.bd.ql::aC a0 #[.slice l8 b7.length l9,.bool a6] 173::aC c7 (lA.cells (⟨.func (.func fp) #[] #[],.func (.func fg) #[] #[],.func (.func fm) #[] #[]⟩:lA)) 209::cI wz sz f8 sN::Sl o q 5 1 aA b::aC b4 (aD.cells aJ) 51::aC b1 (bI.cells t) 44::L) l7:=(by rw [hmm];exact m1)
    have hmo:dw mm:=by rw [hmm];exact⟨zq,hn,iX _ 0 (λk hk=>by have:=cC (s:=oO (d,e) k) (v:=dH (d,e) k) (s2:=(aW (oO (d,e) k)).2) rfl;omega),m0,ht⟩
    refine En (Lg [1,5,10,12] (Lw (eE (iQ b7 a6 (m2.pl 2)) λt3 g0=>Lo (Dz (Zr 2 2 [] ?_)))))
    rcases Bool.eq_false_or_eq_true (!(!a6)) with a1|a1
    ·refine py 61 true a1 (En (Lw (gH (En (Lw (gH (En (Lw (gH (En (bO (Lt (LT (Ls (Lg [1] (Lw (Zu 6 0 (aD.cells aJ) g0 λt4 g5=>Lz (Le (Ly (Dz (mZ 6 (.int .i64 5) g5 ?_)))))))))))))))))))))
     have m5:=St.bJ g5 190 2 bS.cells
     have m6:=((((((((m5.pl 0).pl 8).pl 8).pl 8).pl 8).pl 8).pl 8).pl 8).pl 8
     exact⟨aJ,5,rfl,(uf a2 ((congrArg cG hp.2.1.symm).trans a4) hin a5 b8).trans (by simp only [];rw [if_pos (by simpa using a1)];rfl),kA,m6.dr 8⟩
    ·refine py 61 false a1 (En (Lw (eE (pK b7 a6 g0) λt6 d0=>Lo (Dz (Zr 6 3 [] (C9 66 ((b7.length:Int)>0) (λm8=>?_) (λm8=>?_)))))))
     ·refine En (Lw (gH (En (Lw (gH (En (bO (Lt (LT (Ls (Lg [1] (Lw (Zu 6 0 (aD.cells aJ) d0 λt7 g7=>Lz (Le (Ly (Dz (mZ 6 (.int .i64 5) g7 ?_)))))))))))))))))
      have m9:=St.bJ g7 190 2 bS.cells
      have n0:=((((((((m9.pl 0).pl 8).pl 8).pl 8).pl 8).pl 8).pl 8).pl 8).pl 8
      exact⟨aJ,5,rfl,(uf a2 ((congrArg cG hp.2.1.symm).trans a4) hin a5 b8).trans (by simp only [];rw [if_neg (by simpa using a1),if_pos za];rfl),kA,n0.dr 8⟩
     ·refine Zj (fE 9 1 0 121 (aD.cells mm) d0 Hz) (Zc (B6 mm hmo (λw h=>h.rows 2 rfl vu.size _) d0) ?_)
      rintro t8 t9 ⟨n2,n3,rfl,n4⟩
      refine Lo (Lw (dE (f:=66) (args:=#[.slice n2 ((jU mm).length) n3,.slice ad b.length cb]) Tryz.call66 (pL (jU mm) b (AJ hmo) hbb (λw h=>h.rows 0 rfl aF.size _) (λw h=>hr _ (h.drop 9)) n4) ?_))
      rintro u0 u1 ⟨rfl,d1⟩
      refine Lz (Dz (cZ (t:=!(decide ((jU mm)=b))) (λd2=>?_) (λd2=>?_)))
      ·refine En (Ls (Lg [1] (Lw (Zu 7 0 (aD.cells aJ) d1 λu2 g8=>Lz (Le (Ly (Dz (mZ 7 (.int .i64 5) g8 ?_))))))))
       have n5:=St.bJ g8 190 2 bS.cells
       have hbm:jU ⟨u,n,eC (dH (d,e)) 11,qm c9,t⟩=jU mm:=by rw [hmm];rfl
       have n6:=(((((((((n5.pl 0).pl 9).pl 9).pl 9).pl 9).pl 9).pl 9).pl 9).pl 9).pl 9
       exact⟨aJ,5,rfl,(uf a2 ((congrArg cG hp.2.1.symm).trans a4) hin a5 b8).trans (by simp only [];rw [if_neg (by simpa using a1),if_neg za,hbm,if_neg (of_decide_eq_false (jV d2))];rfl),kA,n6.dr 9⟩
      ·refine Zk (Zt (Zs (bX [1] (fE 0 2 0 121 (aD.cells mm) d1 Hz) (Zu 7 0 (aD.cells mm) d1 λu3 g9=>Lz (Le (Dz (mZ 7 (.int .i64 0) g9 ?_)))))))
       have hbm:jU ⟨u,n,eC (dH (d,e)) 11,qm c9,t⟩=jU mm:=by rw [hmm];rfl
       have n8:=((((((((g9.pl 3).pl 8).pl 8).pl 8).pl 8).pl 8).pl 8).pl 8).pl 8
       exact⟨mm,0,rfl,(uf a2 ((congrArg cG hp.2.1.symm).trans a4) hin a5 b8).trans (by simp only [];rw [if_neg (by simpa using a1),if_neg za,hbm,if_pos (of_decide_eq_true (jN d2))];rw [hmm];rfl),hmo,n8.dr 8⟩
  ·have hc:=wA hno
   refine bH.join (T:=Nat×Nat) (E:=λjx=>[(0,.int .i64 i),(2,.slice ad b.length cb),(8,zP b4 0),(9,.int .i64 0),(10,zP a0 0),(11,zP a 0),(13,zP jx.1 0),(14,.bool false)]) (F:=λjx w=>St w0 (aC jx.1 (lA.cells sy) 209::cI wz sz jx.2 sN::aC a0 #[.slice b3 a8.length b5,.bool a9] 173::aC a (aD.cells (⟨u,n,eC (dH (d,e)) 11,(⟨x,0,0,cN,none,0,[],aK⟩:aV),t⟩:aD)) 51::Sl o q 5 1 aA b::aC b4 (aD.cells aJ) 51::aC b1 (bI.cells t) 44::L) w) ?_ ?_
   ·refine bH.vr [0,0,2,6,15,31,63,63,0,383,1023] (.rd 1 (.rd 2 (.rd 3 (.alt (.ef 0 (.rd 4 (.rd 5 (.rd 6 (.rd 7 (.ef 8 (.ef 9 (.rd 10 .done)))))))) (.ef 8 (.ef 0 (.rd 4 (.rd 5 (.rd 6 (.rd 7 (.ef 9 (.rd 10 .done)))))))))))) zk zk fX zk f5 λu4 d4 u5=>gS 1 3 (Hl 3 1 13 d4 Hz) (aU.alt ?_ ?_)
    ·refine Zc (gF d4) ?_
     rintro u6 u7 ⟨d5,rfl,d6⟩
     exact⟨fM (n:=[.cell ⟨a,13,none⟩ (.int .u8 x)]) zk (bP (d6.cell 2 rfl zk) aO),aU.lookup rfl zk nq (r:=d5) (k:=x) (ok:=true) zk d6 0 rfl (z:=sz sy) zk (v:=.tuple #[.agg (lA.cells sy),.bool false]) (by rw [hc];rfl) (Zr 5 3 [] (eN (lA.cells sy) d6 λo0 u9 d7=>⟨fM (n:=[.holds (cI wz sz d5 sN).holds,.cell ⟨a,13,none⟩ (.int .u8 x)]) zk (JM (d7.at_ 1 rfl) (bP (d7.cell 3 rfl zk) aO)),(Zu 0 0 (lA.cells sy) d7 λv0 o1=>Lo (Dz (Zr 10 1 [] (Zd (oU [0,2,8,9,10,11,13,14] (o0,d5) o1)))))⟩))⟩
    refine eN (lA.cells sy) d4 λo2 v1 h0=>⟨fM (n:=[.cell ⟨a,13,none⟩ (.int .u8 x)]) zk (bP (h0.cell 2 rfl zk) aO),Zc (gF h0) ?_⟩
    rintro v2 v3 ⟨h1,rfl,d8⟩
    exact⟨fM (n:=[.cell ⟨a,13,none⟩ (.int .u8 x)]) zk (bP (d8.cell 3 rfl zk) aO),aU.lookup rfl zk nq (r:=h1) (k:=x) (ok:=true) zk d8 0 rfl (z:=sz sy) zk (v:=.tuple #[.agg (lA.cells sy),.bool false]) (by rw [hc];rfl) (Zr 5 3 [] (Zu 1 0 (lA.cells sy) d8 λv4 o3=>Lo (Dz (Zr 10 1 [] (Zd (oU [0,2,8,9,10,11,13,14] (o2,h1) (((((((o3.pl 6).pl 6).pl 6).pl 6).pl 6).pl 5).pl 6)))))))⟩
   rintro⟨h2,o5⟩ o6 o7
   have o8:St w0 (aC h2 (lA.cells sy) 209::cI wz sz o5 sN::aC a0 #[.slice b3 a8.length b5,.bool a9] 173::aC a (aD.cells (⟨u,n,eC (dH (d,e)) 11,(⟨x,0,0,cN,none,0,[],aK⟩:aV),t⟩:aD)) 51::Sl o q 5 1 aA b::aC b4 (aD.cells aJ) 51::aC b1 (bI.cells t) 44::L) o6:=o7
   refine aN.fK (S':=[(0,.int .i64 i),(2,.slice ad b.length cb),(8,zP b4 0),(9,.int .i64 0),(10,zP a0 0),(11,zP a 0),(13,zP h2 0),(14,.bool false)]) rfl (En (Lt (Ls (Lq (LT (Ls (Lg [1] (Lw (Zu 5 0 (aD.cells aJ) o8 λv5 h3=>Lz (Le (Ly (Dz (mZ 5 (.int .i64 5) h3 ?_)))))))))))))
   have o9:=St.bJ h3 190 2 bS.cells
   have p0:=(((((((o9.pl 0).pl 7).pl 7).pl 7).pl 7).pl 7).pl 7).pl 7
   exact⟨aJ,5,rfl,E6 a2 ((congrArg cG hp.2.1.symm).trans a4) (.inl hno),kA,p0.dr 7⟩
def getM (l:List Int):aD×Int :=
 if l.length<=40 then (aJ,5) else
 let w:=aW (l,false)
 let o:=tk (l.length-40) w.2
 let h:=ow o.2
 ofM (o.1.getD 0 0) w.1 o.1 h.1
theorem H2 {r:List Int}(h:8<=r.length):aW (r,false)=(fR (r.take 8),(r.drop 8,false)):=by
 unfold aW AD
 rw [qf rfl h]
theorem AM {l r1 o r2 r3:List Int}{n:Int}{p1 p2 p3:Bool}{d:bI}(hl:¬ l.length<=40) (h1:aW (l,false)=(n,(r1,p1))) (h2:tk (l.length-40) (r1,p1)=(o,(r2,p2))) (h3:ow (r2,p2)=(d,(r3,p3))):getM l=ofM (o.getD 0 0) n o d:=by
 unfold getM
 simp only [if_neg hl,h1,h2,h3]
theorem E7 {l r1 o r2:List Int}{n:Int}{p1 p2:Bool}(hl:40<l.length) (h1:aW (l,false)=(n,(r1,p1))) (h2:tk (l.length-40) (r1,p1)=(o,(r2,p2))):o.length=l.length-40/\o=(l.drop 8).take (l.length-40):=by
 rw [H2 za] at h1
 simp only [Prod.mk.injEq] at h1
 obtain⟨-,rfl,rfl⟩:=h1
 rw [qf rfl zM] at h2
 simp only [Prod.mk.injEq] at h2
 obtain⟨rfl,-⟩:=h2
 exact⟨by rw [List.length_take,List.length_drop];omega,rfl⟩
theorem Ge l (hbl:l.length<=100000) (hlb:∀ z∈l,0<=z/\z<256) (hr:Rw w0 L aA 1 0 ad l) (hs:St w0 L w):Cs Tryz.prog 65 #[.slice ad l.length cb] w λrv w'=>∃ mm2 ee2,rv=.tuple #[.agg (aD.cells mm2),.int .i64 ee2]/\getM l=(gM mm2,ee2)/\dw mm2/\St w0 (Sl mm2.bd.qa mm2.bd.qc 190 2 bS.cells mm2.bd.ql::L) w':=by
 refine cL Tryz.func65 Tryz.ntmps65 (En (Ls (Lg [0] (Dz (eN (aD.cells aJ) hs λb1 w2 u=>Lz (Ls (Dz (cS (dW 2 ((l.length:Nat)-32) Hz) (En (Lt (Ls (Lq (Dz (Zi (((l.length:Nat)-32:Int)<=8) (λb2=>?_) (λb2=>?_)))))))))))))))
 ·have hlen:l.length<=40:=za
  refine En (Ls (Lg [1] (Lw (Zu 0 0 (aD.cells aJ) u λw5 x=>Lz (Le (Ly (Dz (mZ 0 (.int .i64 5) x ?_))))))))
  have b3:=St.bJ x 190 2 bS.cells
  have b4:=(b3.pl 0).pl 1
  exact⟨aJ,5,rfl,(if_pos hlen),kA,b4.dr 1⟩
 ·have hlen:40<l.length:=za
  have hsome:xP ad cb:=by obtain⟨b,off,rfl⟩:=aB.isSome (hr _ hs) za;exact .inl ⟨b,off,rfl⟩
  refine En (Lk (Lt (Ls (Lg [1] (Lw (Zc (mP l za hsome (λw h=>hr _ (h.drop 1)) u) ?_))))))
  rintro d3 d4 ⟨d5,i,o,rfl,a0⟩
  have b6:bG (Sl i o 5 1 aA l) i l o:=bG.new a0 (j:=1) rfl hlb za
  refine Lz (Ls (Lg [1] (Lw (Zc (bT (Sl i o 5 1 aA l) l false (λw h=>h.at_ 0 rfl) b6 a0) ?_))))
  rintro d6 d7 ⟨a1,b7,b8,d8,d9,rfl,q,e0,b9,c0⟩
  refine Lz (Ls (Dz (bX [3] (Hg 2 (.eJ (.int .i64 (l.length-40:Nat)) (.gen [])) [.prop (Value.int .i64 (IntKind.i64.wrap (((l.length:Nat)-32)-8))=Value.int .i64 (l.length-40:Nat))] (aL (gV za za za) aO) Hz) (Zc (mO (Sl i o 5 1 aA l) b7 b8 (l.length-40) (λw h=>h.at_ 0 rfl) b9 c0) ?_))))
  rintro e1 e2 ⟨e3,c1,a,c2,c3,e4,e5,rfl,a2,c4,a3⟩
  refine Lz (Ls (Dz ?_))
  have hown:=E7 hlen q a2
  have a4:∀ z∈a,0<=z/\z<256:=by rw [hown.2];exact λz hz=>hlb z (List.mem_of_mem_drop (List.mem_of_mem_take hz))
  have e6:=a4 _ (bC (d:=(0:Int)) (k:=0) za)
  obtain⟨e,rfl⟩:=Sl.isSome (a3.at_ 0 rfl) za
  refine ZD (eR [0,1,2,3,4,5,6] (.ef 7 (.ef 8 (eR [9,10] (.ef 11 (.rd 12 .done)))))) a3 λe7 a5 e8=>Zj (Hx 1 (0:Int) (a.length:Int) e 0 1 (Hg 2 (.gen [.int .u8 (a.getD 0 0)]) [.cell ⟨e,0,none⟩ (.int .u8 (a.getD 0 0))] (bP (aB.dX (a5.rows 0 rfl aF.size (0:Int)) (k:=0) zo (j:=0) zf zk) aO) (dW 3 (a.getD 0 0) Hz))) (Zc (rD (Sl i o 5 1 aA l) c2 c3 (λw h=>h.at_ 1 rfl) c4 (a5.pl 1)) ?_)
  rintro e9 f0 ⟨a6,f1,f2,f3,f4,rfl,c6,c7,f5,a7⟩
  refine⟨fM (n:=[.prop (Value.int .i64 (IntKind.i64.wrap (a.getD 0 0))=Value.int .i64 (a.getD 0 0)),.cell ⟨e,0,none⟩ (.int .u8 (a.getD 0 0)),.prop (0<=(0:Int)/\(0:Int)<(a.length:Int)),.prop (Value.pointer (some (Addr.add ⟨e,0,none⟩ (Int.toNat 0*1)))=Value.pointer (some ⟨e,0,none⟩))]) zk (aL (kF za za) (bP (aB.dX (a7.rows 1 rfl aF.size (0:Int)) (k:=0) zo (j:=0) zf zk) (aL za (aL (bK _ _ _) aO)))),dE (f:=116) (args:=#[.int .i64 (a.getD 0 0),.int .u64 a1,zL e 0 a.length c1,.agg (bI.cells a6)]) Tryz.call116 (J3 (a.getD 0 0) a1 a a6 za za a4 (by have:=cC q;omega) c7 (λw h=>h.rows 1 rfl aF.size _) a7) ?_⟩
  rintro f6 f7 ⟨a8,a9,rfl,c8,c9,d0⟩
  refine Lo (Lw (Zu 4 0 (aD.cells a8) d0 λf8 b0=>Lz (Le (Dz (mZ 4 (.int .i64 a9) b0 ?_)))))
  have d1:=((((b0.pl 0).pl 4).pl 4).pl 4).pl 4
  exact⟨a8,a9,rfl,(AM za q a2 c6).trans c8,c9,d1.dr 4⟩
end
end Go.Proofs.YtkmhmeldgfpfeaaGreatDoor
