/-
  Several texts in one: SxS, OctA, OctB, OctW, OctN, TbA, TbB, TbC, TbD, TcA, TbE, TbF, TcC, TbG, TbH, TbI, TbJ, TbK, TbL, TbM, TbN.
-/
import Derived.Test.YtdaohdehpmgfdaaGreatDoorSxT
import Derived.Test.YtdaohdehpmgfdaaGreatDoorProg
namespace Go.Proofs.YtdaohdehpmgfdaaGreatDoor
open Go.RowKit Go.Sx
set_option linter.unusedVariables false
set_option linter.unusedSimpArgs false
set_option maxRecDepth 100000
section
variable {P : Program} {w : World}
def eY {α:Type}:Nat->List α->List α
 | 0,_=>[]
 | n+1,z=>z++eY n z
def wJ:Option TypeDesc->Bool
 | some (.int _)=>true
 | _=>false
theorem fu {α:Type}(z:List α):∀ n,(eY n z).length=n*z.length
 | 0=>by simp [eY]
 | n+1=>by simp [eY,fu z n,Nat.add_mul,Nat.add_comm]
theorem su {α:Type}(z:List α) (hz:0<z.length):∀ (n i:Nat),i<n*z.length->(eY n z)[i]?=z[i % z.length]?
 | 0,i,h=>by simp at h
 | n+1,i,h=>by
  simp only [eY]
  by_cases hi:i<z.length
  ·rw [List.getElem?_append_left hi,Nat.mod_eq_of_lt hi]
  ·rw [List.getElem?_append_right za,su z hz n (i-z.length) (by rw [Nat.add_mul] at h;omega)]
   congr 1
   exact(Nat.mod_eq_sub_mod za).symm
theorem xI {zs:Array Value}(n:Nat) (hz:0<zs.size):(Array.range (n*zs.size)).map (λi=>zs[i % zs.size]!)=(eY n zs.toList).toArray:=by
 apply Array.ext_getElem?
 intro i
 by_cases hi:i<n*zs.size
 ·have h1:i % zs.size<zs.size:=Nat.mod_lt _ hz
  have:=su zs.toList (by simpa using hz) n i (by simpa using hi)
  simp only [List.getElem?_toArray,this,Array.getElem?_map]
  simp [hi,h1]
 ·have h2:(eY n zs.toList).length=n*zs.size:=by rw [fu];simp
  rw [Array.getElem?_eq_none (by simp;omega),Array.getElem?_eq_none (by simp [h2];omega)]
theorem pj {zs:Array Value}(n:Nat) (hz:0<zs.size):Builtin.zeroCells zs n=(eY n zs.toList).toArray:=xI n hz
theorem je (e:TypeId) (cs:Array Value) (w1:World):(newRow e cs).run P w1=.ok ⟨w1.heap.size,0,none⟩ { w1 with heap:=w1.heap.push (.cells cs e) }:=rfl
theorem nF {ts:Array TypeId}{t t' e ty:TypeId}{d:TypeDesc}{ie:TypeInfo}{z:Value}{base:Option Addr}{sLen sCap:Nat}{x:Value}{n:Nat}{us:List Value}
 (h0:ts[0]?=some t) (h1:ts[1]?=some t') (hu:P.underlying t=some (.slice e)) (hu':P.underlying t'=some d) (hi:P.info? e=some ie) (hz:ie.zero=some z)
 (hpos:0<ie.size) (hzs:z.cells.size=ie.size) (hlen:us.length=n*ie.size) (hbig:(sLen+n)*(ie.bytes+1)<=1000000000)
 (hx:(wJ (some d)=true/\(∃ k,x=.int k (n:Int))/\us=eY n z.cells.toList) \/
  (wJ (some d)=false/\(∀ w1:World,(Builtin.lenOf x).run P w1=.ok n w1)/\∀ w1:World,w1.heap=w.heap->(Builtin.firstCells ie.size n x).run P w1=.ok us.toArray w1)) :
 (sLen+n<=sCap->(Builtin.append_ ts ty #[.slice base sLen sCap,x]).run P w=((match base with
  | some ad=>storeCells (ad.add (sLen*ie.size)) us
  | none=>pure ()).run P w).andThen λ_ w'=>.ok (.slice base (sLen+n) sCap) w') /\
 (sCap<sLen+n->∀ olds:List Value,olds.length=sLen*ie.size->(∀ w1:World,w1.heap=w.heap->(Builtin.firstCells ie.size sLen (.slice base sLen sCap)).run P w1=.ok olds.toArray w1) ->
  ∃ cap,sLen+n<=cap/\cap<=9223372036854775807/\(Builtin.append_ ts ty #[.slice base sLen sCap,x]).run P w=.ok (.slice (some ⟨w.heap.size,0,none⟩) (sLen+n) cap)
   { w with drawn:=w.drawn+1,heap:=w.heap.push (.cells (olds++us++eY (cap-(sLen+n)) z.cells.toList).toArray e) }):=by
 have hb1:sLen+n<=1000000000:=Nat.le_trans (Nat.le_mul_of_pos_right _ za) hbig
 have hb2:(sLen+n)*ie.bytes<=1000000000:=Nat.le_trans (Nat.mul_le_mul_left _ za) hbig
 have hn2:n*ie.bytes<=1000000000:=Nat.le_trans (Nat.mul_le_mul_right _ za) hb2
 have ask:∀ b w,(askRoom b).run P w=.ok () w:=by
  intro b w
  unfold askRoom
  split<;>simp [mark,Sem.run]
 have hzc:∀ k,Builtin.zeroCells z.cells k=(eY k z.cells.toList).toArray:=λk=>pj k za
 rcases hx with⟨hint,⟨k,rfl⟩,rfl⟩|⟨hint,hlo,hfc⟩
 ·obtain⟨k',rfl⟩:∃ k',d=.int k':=by
   cases d<;>first|exact⟨_,rfl⟩|cases hint
  have w1:IntKind.i64.wrap (n:Int)=(n:Int):=uy za za
  have t1:¬ ((n:Int)<0):=za
  have t2:¬ ((n:Int)*(ie.bytes:Int)>2 ^ 48):=by
   rw [<- Int.natCast_mul];omega
  have hmatch:(TypeDesc.int k' matches .int _)=true:=rfl
  have t2':¬ (281474976710656<(n:Int)*(ie.bytes:Int)):=by
   rw [<- Int.natCast_mul];omega
  constructor
  ·intro hfit
   by_cases hz0:n*ie.size=0
   ·have hn0:n=0:=by
     rcases Nat.mul_eq_zero.1 hz0 with h|h
     ·exact h
     ·omega
    simp [Builtin.append_,h0,h1,run_underlying hu,run_underlying hu',sizeOf,typeInfo,hi,asInt,asIntOf,w1,t1,t2',hfit,hz0]
    cases base<;>simp [hn0,eY,storeCells]
   ·simp [Builtin.append_,h0,h1,run_underlying hu,run_underlying hu',sizeOf,typeInfo,zeroValue,hi,hz,asInt,asIntOf,w1,t1,t2',hfit,hz0,hzc]
    cases base<;>simp
  ·intro hno olds hol hold
   have hns:¬ (sLen+n<=sCap):=za
   have hnc:Builtin.nextslicecap (sLen+n) sCap*ie.bytes<=281474976710656:=growslice_fits hno za
   have hnc':¬ (281474976710656<Builtin.nextslicecap (sLen+n) sCap*ie.bytes):=za
   have hmx:¬ (9223372036854775807<(sLen:Int)+(n:Int)):=za
   refine⟨grownCap w (sLen+n) sCap e,grownCap_ge w (sLen+n) sCap e,grownCap_le_maxLen w (sLen+n) sCap e zS,?_⟩
   by_cases hz0:n*ie.size=0
   ·have hn0:n=0:=by
     rcases Nat.mul_eq_zero.1 hz0 with h|h
     ·exact h
     ·omega
    simp [Builtin.append_,h0,h1,run_underlying hu,run_underlying hu',sizeOf,typeInfo,zeroValue,hi,hz,asInt,asIntOf,w1,t1,t2',hns,hz0,hzc,hnc',hmx,Question.forced,ask,hold w.drew rfl]
    have hr0:eY n z.cells.toList=[]:=by rw [hn0];rfl
    simp only [je,Result.andThen_ok,List.append_assoc,hr0,List.nil_append]
    rfl
   ·simp [Builtin.append_,h0,h1,run_underlying hu,run_underlying hu',sizeOf,typeInfo,zeroValue,hi,hz,asInt,asIntOf,w1,t1,t2',hns,hz0,hzc,hnc',hmx,Question.forced,ask,hold w.drew rfl]
    simp only [je,Result.andThen_ok,List.append_assoc]
    rfl
 ·have hint2:∀ k,d≠.int k:=λk e=>by rw [e] at hint;cases hint
  have hm:(match d with | .int _=>true|_=>false)=false:=by cases d<;>first|rfl|exact absurd rfl (hint2 _)
  constructor
  ·intro hfit
   simp [Builtin.append_,h0,h1,run_underlying hu,run_underlying hu',sizeOf,typeInfo,hi,hm,hlo,hfit,hfc w rfl]
   cases base<;>simp
  ·intro hno olds hol hold
   have hns:¬ (sLen+n<=sCap):=za
   have hnc:Builtin.nextslicecap (sLen+n) sCap*ie.bytes<=281474976710656:=growslice_fits hno za
   have hnc':¬ (281474976710656<Builtin.nextslicecap (sLen+n) sCap*ie.bytes):=za
   have hmx:¬ (9223372036854775807<(sLen:Int)+(n:Int)):=za
   refine⟨grownCap w (sLen+n) sCap e,grownCap_ge w (sLen+n) sCap e,grownCap_le_maxLen w (sLen+n) sCap e zS,?_⟩
   simp [Builtin.append_,h0,h1,run_underlying hu,run_underlying hu',sizeOf,typeInfo,zeroValue,hi,hz,hm,hlo,hns,hzc,hnc',hmx,Question.forced,ask,hold w.drew rfl,hfc w.drew rfl]
   simp only [je,Result.andThen_ok,List.append_assoc]
   rfl
end
theorem Ds (base:Option Addr) (c h:Nat) (hb:∀ ad,base=some ad->ad.spot=none):Value.slice (if c=0 then base else base.map (·.add (0*1))) (h-0) (c-0)=.slice base h c:=by
 have:(if c=0 then base else base.map (·.add (0*1)))=base:=by
  split
  ·rfl
  ·cases base with
   | none=>rfl
   | some ad=>simp [Addr.add]
 rw [this]
 simp
def Grown (w0:World) (L:List aI) (w:World) (base:Option Addr) (len c n:Nat) (all:List Value) (v:Value) (w':World):Prop :=
 (n+len<=c/\v=.slice base len c/\w'=w)\/∃ cap rest,len<=cap/\cap<=9223372036854775807/\v=.slice (some ⟨w.heap.size,0,none⟩) len cap/\(all++rest).length=cap/\w'={ w with drawn:=w.drawn+1,heap:=w.heap.push (.cells (all++rest).toArray 5) }
theorem pQ {w0 w:World}{L:List aI}{base:Option Addr}{len c n:Nat}{all:List Value}(hs:St w0 L w) (hb:∀ ad,base=some ad->ad.spot=none) (hlc:len<=c) (hc:c<=9223372036854775807) (hn:n<=1000000) (hl:len<=1000000) (hall:all.length=c)
 (hf:∀ w1:World,w1.heap=w.heap->(Builtin.firstCells 1 c (.slice base c c)).run Tryz.prog w1=.ok all.toArray w1) :
 Calls Tryz.prog 159 #[.slice base len c,.int .i64 n] w (aZ (Grown w0 L w base len c n all)):=by
 refine enter (args:=[.slice base len c,.int .i64 n]) Tryz.func159 rfl Tryz.ntmps159 (Nat.le_of_ble_eq_true zk) ?_
 refine aE.cq (S':=[(0,.slice base len c),(1,.int .i64 n)]) rfl ?_
 refine aE.seq ?_
 refine aE.qS [1] (.rd 0 .done) zk zk ?_
 refine ar.jc [(0,.gen [])] [4,0,1] [] [(4,.slice none 0 0),(0,.slice base len c),(1,.int .i64 n)] zk rfl cW ?_
 refine ar.done (aw.Bo (aE.seq (aE.seq ?_)))
 refine aE.qS [3,3] (.rd 0 (.rd 1 .done)) zk zk ?_
 refine ar.jc [(0,.gen []),(1,.gen [])] [6,4,0,1] [] [(6,.bool (decide ((n:Int)<0))),(4,.slice none 0 0),(0,.slice base len c),(1,.int .i64 n)] zk rfl cW ?_
 refine ar.done (aw.Bo ?_)
 refine aE.cond (t:=decide ((n:Int)<0)) zk (λh1=>?_) (λh1=>?_)
 ·exact absurd (of_decide_eq_true h1) za
 refine aE.skip (aw.Bo (aE.seq (aE.seq ?_)))
 have e1:IntKind.i64.wrap ((c:Int)-(len:Int))=(c:Int)-(len:Int):=uy za za
 have e2:IntKind.i64.wrap ((n:Int)-((c:Int)-(len:Int)))=(n:Int)-((c:Int)-(len:Int)):=uy za za
 refine aE.qS [] (.rd 0 (.rd 1 (.rd 2 (.rd 3 (.rd 4 (.rd 5 (.rd 6 (.rd 7 .done)))))))) zk zk ?_
 refine ar.jc [(0,.gen []),(1,.gen []),(2,.gen []),(3,.gen []),(4,.gen []),(5,.cI (.int .i64 ((c:Int)-(len:Int))) (.gen [])),(6,.cI (.int .i64 ((n:Int)-((c:Int)-(len:Int)))) (.gen [])),(7,.gen [])] [1,0]
  [(5,[.prop (Value.int .i64 (IntKind.i64.wrap ((c:Int)-(len:Int)))=.int .i64 ((c:Int)-(len:Int)))]),(6,[.prop (Value.int .i64 (IntKind.i64.wrap ((n:Int)-((c:Int)-(len:Int))))=.int .i64 ((n:Int)-((c:Int)-(len:Int))))])]
  [(1,.int .i64 ((n:Int)-((c:Int)-(len:Int)))),(0,.slice base len c)] zk rfl (ak (aB (by rw [e1]) av) (ak (aB (by rw [e2]) av) cW)) ?_
 refine ar.done (aw.Bo (aE.seq ?_))
 refine aE.qS [] (.rd 0 (.rd 1 .done)) zk zk ?_
 refine ar.jc [(0,.gen []),(1,.gen [])] [16,1,0] [] [(16,.bool (decide ((n:Int)-((c:Int)-(len:Int))>0))),(1,.int .i64 ((n:Int)-((c:Int)-(len:Int)))),(0,.slice base len c)] zk rfl cW ?_
 refine ar.done (aw.Bo ?_)
 refine aE.cond (t:=decide ((n:Int)-((c:Int)-(len:Int))>0)) zk (λh2=>?_) (λh2=>?_)
 ·have h2':=of_decide_eq_true h2
  obtain⟨k,hk⟩:∃ k:Nat,(k:Int)=(n:Int)-((c:Int)-(len:Int)):=⟨(n+len)-c,za⟩
  rw [<- hk]
  have hkp:0<k:=za
  have hck:c+k=n+len:=za
  refine aE.qS [0,0,0,0,0,255] (.rd 0 (.rd 1 (.rd 2 (.rd 3 (.rd 4 (.ef 5 (.rd 6 (.rd 7 (.rd 8 (.rd 9 .done)))))))))) zk zk ?_
  refine ar.jc [(0,.gen []),(1,.gen []),(2,.gen []),(3,.cI (.slice base c c) (.sub 0 c)),(4,.gen [])] [21,20,1,0]
   [(3,[.prop ((c:Int)=(c:Int)),.prop (((none:Option Operand)=none->0=0)/\(some (Operand.tmp 19)=none->c=len)/\0<=c/\c<=c),.prop (Value.slice (if c=0 then base else base.map (·.add (0*1))) (c-0) (c-0)=.slice base c c)])]
   [(21,.int .i64 k),(20,.slice base c c),(1,.int .i64 k),(0,.slice base len c)] zk rfl (ak (aB rfl (aB ⟨λ_=>rfl,(λh=>by cases h),Nat.zero_le _,Nat.le_refl _⟩ (aB (Ds base c c hb) av))) cW) ?_
  obtain⟨r1,r2⟩:=nF (P:=Tryz.prog) (w:=w) (ts:=#[85,3]) (t:=85) (t':=3) (e:=5) (ty:=85) (d:=.int .i64) (ie:=Tryz.t5) (z:=.int .u8 0) (base:=base) (sLen:=c) (sCap:=c) (x:=.int .i64 k) (n:=k) (us:=eY k [.int .u8 0]) rfl rfl zk zk zk zk zf zk
   (by rw [fu];rfl) (by show(c+k)*(1+1)<=1000000000;omega) (.inl ⟨rfl,⟨.i64,rfl⟩,rfl⟩)
  obtain⟨cap,g1,g2,g3⟩:=r2 za all (by rw [hall];exact(Nat.mul_one c).symm) hf
  have g4:(all++eY k [Value.int .u8 0]++eY (cap-(c+k)) [Value.int .u8 0]).length=cap:=by
   rw [List.length_append,List.length_append,fu,fu,hall]
   simp only [List.length_cons,List.length_nil]
   omega
  generalize hw2:({ w with drawn:=w.drawn+1,heap:=w.heap.push (.cells (all++eY k [Value.int .u8 0]++eY (cap-(c+k)) [Value.int .u8 0]).toArray 5) }:World)=w2
  have g3':(Builtin.append_ #[85,3] 85 #[Value.slice base c c,.int .i64 k]).run Tryz.prog w=.ok (.slice (some ⟨w.heap.size,0,none⟩) (c+k) cap) w2:=by rw [<- hw2];exact g3
  refine ar.run rfl zk (.slice (some ⟨w.heap.size,0,none⟩) (c+k) cap) w2 (λa hfit=>.inl ?_) (Di zk) ?_
  ·obtain⟨cs,hrun⟩:=ir (P:=Tryz.prog) hfit (b:=.append) (ts:=[85,3]) (vs:=[.slice base c c,.int .i64 k]) zk w
   rw [hrun]
   simp only [builtin,Sem.run_bind]
   erw [g3']
   rfl
  ·refine ar.jc [(6,.gen []),(7,.gen []),(8,.cI (.slice (some ⟨w.heap.size,0,none⟩) len cap) (.sub 0 len)),(9,.gen [])] [0]
    [(8,[.prop ((len:Int)=(len:Int)),.prop (((none:Option Operand)=none->0=0)/\(some (Operand.tmp 24)=none->len=c+k)/\0<=len/\len<=cap),.prop (Value.slice (if cap=0 then some ⟨w.heap.size,0,none⟩ else (some (Addr.mk w.heap.size 0 none)).map (·.add (0*1))) (len-0) (cap-0)=.slice (some ⟨w.heap.size,0,none⟩) len cap)])]
    [(0,.slice (some ⟨w.heap.size,0,none⟩) len cap)] zk rfl (ak (aB rfl (aB ⟨λ_=>rfl,(λh=>by cases h),Nat.zero_le _,za⟩ (aB (Ds _ cap len (λad h=>by cases h;rfl)) av))) cW) ?_
   refine ar.done (aw.Bo (aE.seq ?_))
   refine aE.qS [] (.rd 0 (.rd 1 .done)) zk zk ?_
   refine ar.jc [(0,.gen []),(1,.gen [])] [4] [] [(4,.slice (some ⟨w.heap.size,0,none⟩) len cap)] zk rfl cW ?_
   refine ar.done (aw.Bo (aE.ret ?_))
   refine aw.done (.inl rfl) (v:=.slice (some ⟨w.heap.size,0,none⟩) len cap) (λa hf=>results1 rfl zk a hf) ?_
   refine .inr ⟨cap,eY k [Value.int .u8 0]++eY (cap-(c+k)) [Value.int .u8 0],za,g2,rfl,by rw [<- List.append_assoc];exact g4,?_⟩
   rw [<- hw2,List.append_assoc]
 ·have h2':=of_decide_eq_false h2
  refine aE.skip (aw.Bo (aE.seq ?_))
  refine aE.qS [] (.rd 0 (.rd 1 .done)) zk zk ?_
  refine ar.jc [(0,.gen []),(1,.gen [])] [4] [] [(4,.slice base len c)] zk rfl cW ?_
  refine ar.done (aw.Bo (aE.ret ?_))
  refine aw.done (.inl rfl) (v:=.slice base len c) (λa hf=>results1 rfl zk a hf) ?_
  exact .inl ⟨za,rfl,rfl⟩
end Go.Proofs.YtdaohdehpmgfdaaGreatDoor
namespace Go.Proofs.YtdaohdehpmgfdaaGreatDoor
open Go.RowKit Go.Sx
set_option linter.unusedVariables false
set_option linter.unusedSimpArgs false
set_option linter.unnecessarySimpa false
set_option maxRecDepth 100000
section
variable {w0 w : World} {L : List aI}
def af (n:Int):Array Value:=#[.int .u8 n]
theorem aj:dE af 1:=⟨λ_=>rfl,λ_=>rfl⟩
theorem aJ:ff Tryz.prog 85 5 1 1:=⟨zk,⟨Tryz.t5,.int .u8 0,zk,zk,zk,zk,zk⟩,zf⟩
theorem sD {b:Nat}{c:Nat}l (hl:l.length<=1000000000000) (hs:St w0 (Sl (some ⟨b,0,none⟩) c 5 1 af l::L) w):Cs Tryz.prog 94 #[zL b 0 l.length c] w λrv w'=>∃ ao co,rv=.slice ao l.length co/\St w0 (Sl ao co 5 1 af l::Sl (some ⟨b,0,none⟩) c 5 1 af l::L) w':=by
 refine bp Tryz.func94 Tryz.ntmps94 (En (Lq (Ls (Lq (LF (Lk (Lt (Ls (Lg [0,2] (Dz (ar.eA rfl zk (t:=85) (e:=5) zk zk (ti:=Tryz.t5) zk hs λi o q u=>?_)))))))))))
 have x:St w0 (Sl (some ⟨i,0,none⟩) 0 5 1 af ([]:List Int)::Sl (some ⟨b,0,none⟩) c 5 1 af l::L) o:=St.ey (l:=([]:List Int)) (f:=af) q u aj.size zh zk
 exact Lo (Lw (sd aJ aj (0:Int) x zg λa d w6 z=>Lz (Le (Dz (bg (v:=.slice a l.length d) ⟨a,d,zG,z⟩)))))
theorem jf (hs:St w0 L w):Cs Tryz.prog 94 #[.slice none 0 0] w λrv w'=>rv=.slice none 0 0/\St w0 L w':=by
 exact bp Tryz.func94 Tryz.ntmps94 (En (Lq (Ls (Lq (LT (Lq (Le (Ly (Dz (bg (v:=.slice none 0 0) ⟨rfl,hs⟩))))))))))
end
theorem sE {w0 w w':World}{L:List aI}{ad base:Option Addr}{c n:Nat}{l:List Int}{all:List Value}{v:Value}(hs:St w0 (Sl ad c 5 1 af l::L) w) (hb:base=ad) (hx:all.take l.length=l.flatMap λx=>(af x).toList) (h:Grown w0 (Sl ad c 5 1 af l::L) w base l.length c n all v w') :
 ∃ (ao:Option Addr) (co:Nat),v=.slice ao l.length co/\St w0 (Sl ao co 5 1 af l::L) w':=by
 subst hb
 rcases h with⟨-,rfl,rfl⟩|⟨cap,rest,e1,e2,rfl,e3,rfl⟩
 ·exact⟨_,_,rfl,hs⟩
 ·have hf:=br (f:=af) (size:=1) (λ_=>rfl) l
  have hd:St w0 L { w with drawn:=w.drawn+1 }:=hs.tail.drew
  refine⟨_,_,rfl,St.new hd rfl rfl rfl zG (λb hb=>?_) ?_ (λb hb=>?_)⟩
  ·have hb':b<w.heap.size:=hb
   simp only [Array.getElem?_push];rw [if_neg za]
  ·refine⟨hf,.inr ⟨w.heap.size,cap,(all++rest).toArray,rfl,Nat.zero_le _,by simp,e1,by simp only [maxLen];omega,by simpa using e3,?_⟩⟩
   have hl:l.length<=all.length:=by
    have:=congrArg List.length hx
    rw [List.length_take,hf] at this
    omega
   rw [Nat.mul_one,List.take_append_of_le_length hl,hx]
  ·have:some w.heap.size=some b:=hb
   cases this
   simp
theorem uF {w0 w:World}{L:List aI}{b c:Nat}(l:List Int) (n:Nat) (hl:l.length<=1000000) (hn:n<=1000000) (hs:St w0 (Sl (some ⟨b,0,none⟩) c 5 1 af l::L) w) :
 Calls Tryz.prog 159 #[zL b 0 l.length c,.int .i64 n] w (aZ λrv w'=>∃ (ao:Option Addr) (co:Nat),rv=.slice ao l.length co/\St w0 (Sl ao co 5 1 af l::L) w'):=by
 obtain⟨h1,h2⟩:=hs.holds _ (List.mem_cons_self ..)
 rcases h2 with⟨h2,-⟩|⟨g,cap,cur,h2,-,h4,h5,h6,h7,h8⟩
 ·cases h2
 ·cases h2
  refine Calls.ret (pQ (all:=cur.toList) (n:=n) hs (λad h=>by cases h;rfl) h5 (by simp only [maxLen] at h6;omega) hn hl (by rw [Array.length_toList];omega) λw1 hw=>?_) (λv w' h=>sE hs rfl (by rw [<- h8,Nat.mul_one]) h)
  simp only [Builtin.firstCells,loadCells]
  refine fF _ _ (by simpa using h7) λi hi=>?_
  rw [eE,Nat.zero_add]
  simp only [World.cell?,hw,h4]
  simp
theorem uG {w0 w:World}{L:List aI}{c:Nat}(n:Nat) (hn:n<=1000000) (hs:St w0 (Sl none 0 5 1 af []::L) w) :
 Calls Tryz.prog 159 #[.slice none 0 0,.int .i64 n] w (aZ λrv w'=>∃ (ao:Option Addr) (co:Nat),rv=.slice ao (([]:List Int).length) co/\St w0 (Sl ao co 5 1 af []::L) w') :=
 Calls.ret (pQ (all:=[]) (n:=n) (len:=0) (c:=0) (base:=none) hs (λad h=>by cases h) (Nat.le_refl _) za hn za rfl (λw1 _=>by simp [Builtin.firstCells])) (λv w' h=>sE (l:=[]) hs rfl rfl h)
theorem jg {w0 w:World}{L:List aI}{ad:Option Addr}{c:Nat}(l:List Int) (hl:l.length<=1000000) (hs:St w0 (Sl ad c 5 1 af l::L) w) :
 Calls Tryz.prog 94 #[.slice ad l.length c] w (aZ λrv w'=>∃ (ao:Option Addr) (co:Nat),rv=.slice ao l.length co/\St w0 (Sl ao co 5 1 af l::L) w'):=by
 obtain⟨h1,h2⟩:=hs.holds _ (List.mem_cons_self ..)
 rcases h2 with⟨h2,h3⟩|⟨g,cap,cur,h2,-⟩
 ·obtain rfl:l=[]:=List.length_eq_zero_iff.1 h3
  cases h2
  refine Calls.ret (jf hs) ?_
  rintro v w' ⟨rfl,h⟩
  exact⟨none,0,rfl,h⟩
 ·cases h2
  refine Calls.ret (sD l za hs) ?_
  rintro v w' ⟨ao,co,rfl,h⟩
  exact⟨ao,co,rfl,h.sub (List.Sublist.cons_cons _ (List.Sublist.cons _ (List.Sublist.refl _)))⟩
theorem iI {w0 w:World}{L:List aI}{ad:Option Addr}{c:Nat}(l:List Int) (n:Nat) (hl:l.length<=1000000) (hn:n<=1000000) (hs:St w0 (Sl ad c 5 1 af l::L) w) :
 Calls Tryz.prog 159 #[.slice ad l.length c,.int .i64 n] w (aZ λrv w'=>∃ (ao:Option Addr) (co:Nat),rv=.slice ao l.length co/\St w0 (Sl ao co 5 1 af l::L) w'):=by
 obtain⟨h1,h2⟩:=hs.holds _ (List.mem_cons_self ..)
 rcases h2 with⟨h2,h3⟩|⟨g,cap,cur,h2,-⟩
 ·obtain rfl:l=[]:=List.length_eq_zero_iff.1 h3
  cases h2
  exact uG (c:=0) n hn hs
 ·cases h2
  exact uF l n hl hn hs
section
variable {w0 w : World} {L : List aI} {ad : Option Addr} {c : Nat}
def xL (n:Int) (x:Nat):Int:=(λz:Int=>IntKind.u8.wrap (aM .u64 n (8*z))) (7-(x:Nat))
def sF (n:Int) (x:Nat):List Int:=(List.range x).map (xL n)
theorem nP (n:Int) (x:Nat):sF n (x+1)=sF n x++[xL n x]:=by simp [sF,List.range_succ]
theorem ej (n:Int) (x:Nat):(sF n x).length=x:=by simp [sF]
def wd (n:Int):List Int:=sF n 8
theorem aP (n:Int):(wd n).length=8:=ej n 8
theorem ze {p:Prop}(h:p:=by first|omega|(simp only [List.length_append,List.length_cons,List.length_nil,aP] at *;omega)):p:=h
theorem xM l n (hl:l.length<=900000) (hn:0<=n/\n<=18446744073709551615) (hs:St w0 (Sl ad c 5 1 af l::L) w):Cs Tryz.prog 134 #[.slice ad l.length c,.int .u64 n,.int .i64 8] w λrv w'=>∃ ao co,rv=.slice ao ((l++wd n).length) co/\St w0 (Sl ao co 5 1 af (l++wd n)::L) w':=by
 refine bp Tryz.func134 Tryz.ntmps134 (En (Lq (Ls (Lg [1,3] (Lw (aF (f:=94) (args:=#[.slice ad l.length c]) Tryz.call94 (jg l ze hs) ?_))))))
 rintro v4 w5 ⟨b,d,rfl,e⟩
 refine Lo (Lw (aF (f:=159) (args:=#[.slice b l.length d,.int .i64 8]) Tryz.call159 (iI l 8 ze za e) ?_))
 rintro v9 a8 ⟨i,o,rfl,u⟩
 refine Lz (Ls (Lq (Lb (Dz (aE.loop (T:=Nat×Int×(List Int)×(Option Addr)×Nat) (λgg=>[(1,.int .u64 n),(6,.slice none 0 0),(7,.slice gg.2.2.2.1 gg.2.2.1.length gg.2.2.2.2),(8,.int .i64 gg.2.1)]) (λgg w=>(gg.1<=8/\gg.2.1=7-(gg.1:Nat)/\gg.2.2.1=l++sF n gg.1)/\St w0 (Sl gg.2.2.2.1 gg.2.2.2.2 5 1 af gg.2.2.1::L) w) (λgg=>8-gg.1) (0,7,l,i,o) [1,6,7,8] zk ⟨⟨by first|omega|(simp only;omega),by first|omega|(simp only;omega),by simp [sF]⟩,u⟩ ?_)))))
 rintro⟨x,z,q,ad,c⟩ a9 ⟨hp,a⟩
 dsimp only at hp a
 refine En (Ls (Lq (Dz (Zi ((z:Int) >= 0) (λa0=>?_) (λa0=>?_)))))
 ·refine Zk (Zt (Zs (Zb (bL [6,7] (cH 3 (8*z) (Hg 4 (.shift (aM .u64 n (8*z))) [.prop ((0:Int)<=8*z/\Int.fdiv n (2 ^ (min (Int.toNat (8*z)) (IntKind.bits .u64)))=aM .u64 n (8*z))] (aB ⟨(by first|omega|exact bf rfl _),rfl⟩ av) Hz)) (sb aJ aj [(IntKind.u8.wrap (aM .u64 n (8*z)):Int)] a λb0 b1 a1=>Lo (Dz (sd aJ aj (0:Int) (a1.pl 1) (by rw [hp.2.2,List.length_append,ej];simp only [List.length_cons,List.length_nil];omega) λa3 a4 b2 a5=>Lo (aL (Lm (Lt (Dz (bj (cH 1 (z-1) Hz) ?_))))))))))))
  have a6:=(a5.pl 0).pl 1
  exact aw.back (x+1,z-1,q++([(IntKind.u8.wrap (aM .u64 n (8*z)):Int)]),a3,a4) [1,6,7,8] zk (by show 8-(x+1)<8-x;omega) ⟨(by refine⟨by first|omega|(simp only;omega),by first|omega|(simp only;omega),?_⟩;rw [hp.2.2,List.append_assoc,hp.2.1];exact congrArg (l++·) (nP n x).symm),a6.dr 1⟩
 ·refine En (Lx (gv (gw (Lh (Lt (Lq (Le (Dz (bg (v:=.slice ad q.length c) ?_)))))))))
  have hx:x=8:=za
  have hq:q=l++wd n:=by rw [hp.2.2,hx];rfl
  subst hq
  exact⟨ad,c,rfl,a⟩
theorem bX l n (hl:l.length<=900000) (hn:0<=n/\n<=18446744073709551615) (hs:St w0 (Sl ad c 5 1 af l::L) w):Cs Tryz.prog 99 #[.slice ad l.length c,.int .u64 n] w λrv w'=>∃ ao co,rv=.slice ao ((l++wd n).length) co/\St w0 (Sl ao co 5 1 af (l++wd n)::L) w':=by
 refine bp Tryz.func99 Tryz.ntmps99 (En (Lq (Ls (Lg [2] (Lw (Zc (xM l n ze za hs) ?_))))))
 rintro e f ⟨a,b,rfl,d⟩
 exact Lz (Le (Dz (bg (v:=.slice a ((l++wd n).length) b) ⟨a,b,rfl,d⟩)))
end
end Go.Proofs.YtdaohdehpmgfdaaGreatDoor
namespace Go.Proofs.YtdaohdehpmgfdaaGreatDoor
open Go.RowKit Go.Sx
set_option linter.unusedVariables false
set_option linter.unusedSimpArgs false
def fN (l:List Int):Int:=l.foldl (λn x=>fV .u64 (bV .u64 n 8) (IntKind.u64.wrap x)) 0
theorem xO {l:List Int}{k:Nat}(hk:k<l.length):fN (l.take (k+1))=fV .u64 (bV .u64 (fN (l.take k)) 8) (IntKind.u64.wrap (l.getD k 0)):=by
 rw [bh (d:=(0:Int)) hk]
 simp only [fN,List.foldl_append,List.foldl_cons,List.foldl_nil]
theorem gK {n:Int}(h0:0<=n) (h1:n<18446744073709551616):IntKind.u64.wrap n=n:=CC h0 za
theorem Ec {a b:Int}(ha:0<=a) (hb:0<=b/\b<256) (h:a*256+b<18446744073709551616):fV .u64 (bV .u64 a 8) b=a*256+b:=by
 obtain⟨A,rfl⟩:∃ A:Nat,a=A:=⟨a.toNat,za⟩
 obtain⟨B,rfl⟩:∃ B:Nat,b=B:=⟨b.toNat,za⟩
 have e1:bV .u64 (A:Int) 8=((A*256:Nat):Int):=by
  show IntKind.u64.wrap ((A:Int)*2 ^ 8)=_
  rw [show((A:Int)*2 ^ 8)=((A*256:Nat):Int) by omega]
  exact gK za za
 rw [e1]
 show IntKind.u64.wrap (((BitVec.ofInt 64 ((A*256:Nat):Int) ||| BitVec.ofInt 64 ((B:Nat):Int)).toNat:Nat):Int)=_
 rw [BitVec.ofInt_natCast,BitVec.ofInt_natCast,BitVec.toNat_or,BitVec.toNat_ofNat,BitVec.toNat_ofNat,Nat.mod_eq_of_lt za,Nat.mod_eq_of_lt za]
 have e2:=Nat.two_pow_add_eq_or_of_lt (i:=8) (b:=B) za A
 rw [show A*256=2 ^ 8*A by omega,<- e2,gK za za]
 omega
theorem Aa (n:Nat) (k:Nat) (hk:k<=64):aM .u64 (n:Int) (k:Int)=((n / 2 ^ k:Nat):Int):=by
 show(n:Int).fdiv (2 ^ (min (Int.toNat (k:Int)) 64))=_
 rw [Int.toNat_natCast,Nat.min_eq_left hk,Int.fdiv_eq_ediv_of_nonneg _ (by exact Int.pow_nonneg zf)]
 rw [Int.natCast_ediv,Int.natCast_pow]
 rfl
theorem Bx (n:Nat) (x:Nat) (hx:x<8):xL (n:Int) x=((n / 2 ^ (8*(7-x)) % 256:Nat):Int):=by
 show IntKind.u8.wrap (aM .u64 (n:Int) (8*((7:Int)-(x:Nat))))=_
 rw [show(8*((7:Int)-(x:Nat)))=((8*(7-x):Nat):Int) by omega,Aa n _ za]
 show((n / 2 ^ (8*(7-x)):Nat):Int) % 256=_
 omega
theorem sG (n:Nat) (hn:n<18446744073709551616):∀ k,k<=8->fN (sF (n:Int) k)=((n / 2 ^ (8*(8-k)):Nat):Int)
 | 0,_=>by
  show(0:Int)=_
  rw [Nat.div_eq_of_lt (by exact hn)]
  rfl
 | k+1,hk=>by
  have ih:=sG n hn k za
  rw [nP]
  have e:fN (sF (n:Int) k++[xL (n:Int) k])=fV .u64 (bV .u64 (fN (sF (n:Int) k)) 8) (IntKind.u64.wrap (xL (n:Int) k)):=by
   simp only [fN,List.foldl_append,List.foldl_cons,List.foldl_nil]
  have hdiv:n / 2 ^ (8*(8-k))=n / 2 ^ (8*(8-(k+1))) / 256:=by
   rw [Nat.div_div_eq_div_mul,show 8*(8-k)=8*(8-(k+1))+8 by omega,Nat.pow_add]
  have hle:n / 2 ^ (8*(8-(k+1)))<=n:=Nat.div_le_self ..
  rw [e,ih,Bx n k za,gK za za,show 8*(7-k)=8*(8-(k+1)) by omega,hdiv]
  generalize n / 2 ^ (8*(8-(k+1)))=q at hle ⊢
  rw [Ec za za za]
  omega
theorem Bz {v:Int}(h:0<=v/\v<18446744073709551616):fN (wd v)=v:=by
 obtain⟨n,rfl⟩:∃ n:Nat,v=n:=⟨v.toNat,za⟩
 rw [wd,sG n za 8 (Nat.le_refl _)]
 simp
theorem uI {ad:Option Addr}{c lo size:Nat}(h:∃ b off,ad=some ⟨b,off,none⟩):∃ b off,dB ad c lo size=some ⟨b,off,none⟩:=by
 obtain⟨b,off,rfl⟩:=h
 unfold dB
 split
 ·exact⟨_,_,rfl⟩
 ·exact⟨b,off+lo*size,by simp [Addr.add]⟩
theorem uJ (s:ByteArray):strOf (bF s)=s:=by
 unfold strOf bF
 rw [List.map_map]
 have e:(s.data.toList.map (sA ∘ λb:UInt8=>(b.toNat:Int)))=s.data.toList:=by
  conv=>rhs;rw [<- List.map_id s.data.toList]
  refine List.map_congr_left λb _=>?_
  show sA (b.toNat:Int)=b
  apply UInt8.toNat_inj.1
  have h:=kp (x:=(b.toNat:Int)) za (by have:=b.toNat_lt;omega)
  omega
 rw [e]
end Go.Proofs.YtdaohdehpmgfdaaGreatDoor
namespace Go.Proofs.YtdaohdehpmgfdaaGreatDoor
open Go.RowKit Go.Sx
set_option linter.unusedVariables false
set_option linter.unusedSimpArgs false
set_option linter.unnecessarySimpa false
set_option maxRecDepth 100000
section
variable {w0 w : World} {L : List aI}
theorem ib (a b:Int):(a == b)=decide (a=b):=by
 by_cases h:a=b
 ·simp [h]
 ·simp [h]
def bG (n:Int):Array Value:=#[.int .u64 n]
theorem Cj:dE bG 1:=⟨λ_=>rfl,λ_=>rfl⟩
abbrev aO:=Vector Int 32
def aO.cells (v:aO):Array Value:=#[.int .u8 v[0],.int .u8 v[1],.int .u8 v[2],.int .u8 v[3],.int .u8 v[4],.int .u8 v[5],.int .u8 v[6],.int .u8 v[7],.int .u8 v[8],.int .u8 v[9],.int .u8 v[10],.int .u8 v[11],.int .u8 v[12],.int .u8 v[13],.int .u8 v[14],.int .u8 v[15],.int .u8 v[16],.int .u8 v[17],.int .u8 v[18],.int .u8 v[19],.int .u8 v[20],.int .u8 v[21],.int .u8 v[22],.int .u8 v[23],.int .u8 v[24],.int .u8 v[25],.int .u8 v[26],.int .u8 v[27],.int .u8 v[28],.int .u8 v[29],.int .u8 v[30],.int .u8 v[31]]
abbrev aH:aO:=#v[0,0,0,0,0,0,0,0,0,0,0,0,0,0,0,0,0,0,0,0,0,0,0,0,0,0,0,0,0,0,0,0]
theorem aO.BA (v:aO):aO.cells v=v.toArray.map (Value.int .u8):=by
 apply Array.ext
 ·rw [Array.size_map,v.size_toArray];rfl
 ·intro i a b
  rw [Array.getElem_map]
  have h:i<32:=a
  match i,h with
  | 0,_=>rfl
  | 1,_=>rfl
  | 2,_=>rfl
  | 3,_=>rfl
  | 4,_=>rfl
  | 5,_=>rfl
  | 6,_=>rfl
  | 7,_=>rfl
  | 8,_=>rfl
  | 9,_=>rfl
  | 10,_=>rfl
  | 11,_=>rfl
  | 12,_=>rfl
  | 13,_=>rfl
  | 14,_=>rfl
  | 15,_=>rfl
  | 16,_=>rfl
  | 17,_=>rfl
  | 18,_=>rfl
  | 19,_=>rfl
  | 20,_=>rfl
  | 21,_=>rfl
  | 22,_=>rfl
  | 23,_=>rfl
  | 24,_=>rfl
  | 25,_=>rfl
  | 26,_=>rfl
  | 27,_=>rfl
  | 28,_=>rfl
  | 29,_=>rfl
  | 30,_=>rfl
  | 31,_=>rfl
  | m+32,h=>omega
theorem aO.len (v:aO):v.toList.length=32:=by simp
theorem aO.at_ (d:aO) (i:Nat) (h:i<32):(aO.cells d)[i]?=some (.int .u8 (d.toList.getD i 0)):=by
 rw [aO.BA,Array.getElem?_map]
 simp [Vector.toList,h]
theorem aO.jU (hs:St w0 L w) (j:Nat){b:Nat}{cs:Array Value}{T:TypeId}(off:Nat) (d:aO) (hj:L[j]?=some (ah b cs T)) (he:cs.extract off (off+32)=aO.cells d):ag w (some ⟨b,off,none⟩) d.toList.length 1 (λk=>af (d.toList.getD k 0)):=by
 refine λ_=>⟨b,off,rfl,λk hk i hi=>?_⟩
 have a:k<32:=by rw [aO.len] at hk;exact hk
 obtain rfl:i=0:=za
 have e:cs[off+k]?=(aO.cells d)[k]?:=by
  rw [<- he,Array.getElem?_extract,if_pos]
  have f:=congrArg Array.size he
  rw [Array.size_extract] at f
  have o:(aO.cells d).size=32:=rfl
  omega
 rw [Nat.mul_one,Nat.add_zero,hs.cell j (off:=off+k) hj (e.trans (aO.at_ d k a))]
 rfl
theorem aO.mW {cs:Array Value}{off k:Nat}{d:aO}(he:cs.extract off (off+32)=aO.cells d) (hk:k<32):cs[off+k*1]?=some (.int .u8 (d.toList.getD k 0)):=by
 have a:cs[off+k]?=(aO.cells d)[k]?:=by
  rw [<- he,Array.getElem?_extract,if_pos]
  have b:=congrArg Array.size he
  rw [Array.size_extract] at b
  have e:(aO.cells d).size=32:=rfl
  omega
 rw [Nat.mul_one]
 exact a.trans (aO.at_ d k hk)
def aO.Ab (a b:aO):Bool:=a[0] == b[0] && (a[1] == b[1] && (a[2] == b[2] && (a[3] == b[3] && (a[4] == b[4] && (a[5] == b[5] && (a[6] == b[6] && (a[7] == b[7] && (a[8] == b[8] && (a[9] == b[9] && (a[10] == b[10] && (a[11] == b[11] && (a[12] == b[12] && (a[13] == b[13] && (a[14] == b[14] && (a[15] == b[15] && (a[16] == b[16] && (a[17] == b[17] && (a[18] == b[18] && (a[19] == b[19] && (a[20] == b[20] && (a[21] == b[21] && (a[22] == b[22] && (a[23] == b[23] && (a[24] == b[24] && (a[25] == b[25] && (a[26] == b[26] && (a[27] == b[27] && (a[28] == b[28] && (a[29] == b[29] && (a[30] == b[30] && (a[31] == b[31] && true)))))))))))))))))))))))))))))))
theorem aO.uK (a b:aO):aO.Ab a b=decide (a=b):=by
 by_cases h:a=b
 ·subst h;simp [aO.Ab]
 ·rw [decide_eq_false h]
  cases ht:aO.Ab a b with
  | false=>rfl
  | true =>
   exfalso
   apply h
   simp only [aO.Ab,Bool.and_eq_true,beq_iff_eq] at ht
   obtain⟨d,e,f,o,q,u,w,x,z,h9,a0,a1,a2,a3,a4,a5,a6,a7,a8,a9,b0,b1,b2,b3,b4,b5,b6,b7,b8,b9,c0,c1,-⟩:=ht
   apply Vector.ext
   intro i hi
   match i,hi with
   | 0,_=>exact d
   | 1,_=>exact e
   | 2,_=>exact f
   | 3,_=>exact o
   | 4,_=>exact q
   | 5,_=>exact u
   | 6,_=>exact w
   | 7,_=>exact x
   | 8,_=>exact z
   | 9,_=>exact h9
   | 10,_=>exact a0
   | 11,_=>exact a1
   | 12,_=>exact a2
   | 13,_=>exact a3
   | 14,_=>exact a4
   | 15,_=>exact a5
   | 16,_=>exact a6
   | 17,_=>exact a7
   | 18,_=>exact a8
   | 19,_=>exact a9
   | 20,_=>exact b0
   | 21,_=>exact b1
   | 22,_=>exact b2
   | 23,_=>exact b3
   | 24,_=>exact b4
   | 25,_=>exact b5
   | 26,_=>exact b6
   | 27,_=>exact b7
   | 28,_=>exact b8
   | 29,_=>exact b9
   | 30,_=>exact c0
   | 31,_=>exact c1
   | m+32,h=>omega
abbrev aD:=Vector Int 11
def aD.cells (v:aD):Array Value:=#[.int .u64 v[0],.int .u64 v[1],.int .u64 v[2],.int .u64 v[3],.int .u64 v[4],.int .u64 v[5],.int .u64 v[6],.int .u64 v[7],.int .u64 v[8],.int .u64 v[9],.int .u64 v[10]]
abbrev mw:aD:=#v[0,0,0,0,0,0,0,0,0,0,0]
theorem aD.BA (v:aD):aD.cells v=v.toArray.map (Value.int .u64):=by
 apply Array.ext
 ·rw [Array.size_map,v.size_toArray];rfl
 ·intro i a b
  rw [Array.getElem_map]
  have h:i<11:=a
  match i,h with
  | 0,_=>rfl
  | 1,_=>rfl
  | 2,_=>rfl
  | 3,_=>rfl
  | 4,_=>rfl
  | 5,_=>rfl
  | 6,_=>rfl
  | 7,_=>rfl
  | 8,_=>rfl
  | 9,_=>rfl
  | 10,_=>rfl
  | m+11,h=>omega
theorem aD.len (v:aD):v.toList.length=11:=by simp
theorem aD.at_ (d:aD) (i:Nat) (h:i<11):(aD.cells d)[i]?=some (.int .u64 (d.toList.getD i 0)):=by
 rw [aD.BA,Array.getElem?_map]
 simp [Vector.toList,h]
theorem aD.jU (hs:St w0 L w) (j:Nat){b:Nat}{cs:Array Value}{T:TypeId}(off:Nat) (d:aD) (hj:L[j]?=some (ah b cs T)) (he:cs.extract off (off+11)=aD.cells d):ag w (some ⟨b,off,none⟩) d.toList.length 1 (λk=>bG (d.toList.getD k 0)):=by
 refine λ_=>⟨b,off,rfl,λk hk i hi=>?_⟩
 have a:k<11:=by rw [aD.len] at hk;exact hk
 obtain rfl:i=0:=za
 have e:cs[off+k]?=(aD.cells d)[k]?:=by
  rw [<- he,Array.getElem?_extract,if_pos]
  have f:=congrArg Array.size he
  rw [Array.size_extract] at f
  have o:(aD.cells d).size=11:=rfl
  omega
 rw [Nat.mul_one,Nat.add_zero,hs.cell j (off:=off+k) hj (e.trans (aD.at_ d k a))]
 rfl
theorem aD.mW {cs:Array Value}{off k:Nat}{d:aD}(he:cs.extract off (off+11)=aD.cells d) (hk:k<11):cs[off+k*1]?=some (.int .u64 (d.toList.getD k 0)):=by
 have a:cs[off+k]?=(aD.cells d)[k]?:=by
  rw [<- he,Array.getElem?_extract,if_pos]
  have b:=congrArg Array.size he
  rw [Array.size_extract] at b
  have e:(aD.cells d).size=11:=rfl
  omega
 rw [Nat.mul_one]
 exact a.trans (aD.at_ d k hk)
def aD.Ab (a b:aD):Bool:=a[0] == b[0] && (a[1] == b[1] && (a[2] == b[2] && (a[3] == b[3] && (a[4] == b[4] && (a[5] == b[5] && (a[6] == b[6] && (a[7] == b[7] && (a[8] == b[8] && (a[9] == b[9] && (a[10] == b[10] && true))))))))))
theorem aD.uK (a b:aD):aD.Ab a b=decide (a=b):=by
 by_cases h:a=b
 ·subst h;simp [aD.Ab]
 ·rw [decide_eq_false h]
  cases ht:aD.Ab a b with
  | false=>rfl
  | true =>
   exfalso
   apply h
   simp only [aD.Ab,Bool.and_eq_true,beq_iff_eq] at ht
   obtain⟨d,e,f,o,q,u,w,x,z,h9,a0,-⟩:=ht
   apply Vector.ext
   intro i hi
   match i,hi with
   | 0,_=>exact d
   | 1,_=>exact e
   | 2,_=>exact f
   | 3,_=>exact o
   | 4,_=>exact q
   | 5,_=>exact u
   | 6,_=>exact w
   | 7,_=>exact x
   | 8,_=>exact z
   | 9,_=>exact h9
   | 10,_=>exact a0
   | m+11,h=>omega
structure aT where
 rp:Int
 nm:Int
deriving DecidableEq
def aT.cells (x:aT):Array Value:=#[.int .i64 x.rp,.int .u64 x.nm]
abbrev aR:aT:=⟨0,0⟩
theorem mX:dE aT.cells 2:=⟨λ_=>rfl,λ_=>rfl⟩
structure pk where
 kd:Int
 ky:ByteArray
 va:ByteArray
 ol:ByteArray
 tx:ByteArray
 am:Int
deriving DecidableEq
def pk.cells (x:pk):Array Value:=#[.int .u8 x.kd,.string x.ky,.string x.va,.string x.ol,.string x.tx,.int .u64 x.am]
abbrev ER:pk:=⟨0,⟨#[]⟩,⟨#[]⟩,⟨#[]⟩,⟨#[]⟩,0⟩
structure ES where
 er:Int
 vl:ByteArray
deriving DecidableEq
def ES.cells (x:ES):Array Value:=#[.int .i64 x.er,.string x.vl]
structure dM where
 cl:Int
 tm:Int
 op:pk
 tg:aO
deriving DecidableEq
def dM.cells (x:dM):Array Value:=#[.int .i64 x.cl,.int .u64 x.tm,.int .u8 x.op.kd,.string x.op.ky,.string x.op.va,.string x.op.ol,.string x.op.tx,.int .u64 x.op.am,.int .u8 (x.tg[0]),.int .u8 (x.tg[1]),.int .u8 (x.tg[2]),.int .u8 (x.tg[3]),.int .u8 (x.tg[4]),.int .u8 (x.tg[5]),.int .u8 (x.tg[6]),.int .u8 (x.tg[7]),.int .u8 (x.tg[8]),.int .u8 (x.tg[9]),.int .u8 (x.tg[10]),.int .u8 (x.tg[11]),.int .u8 (x.tg[12]),.int .u8 (x.tg[13]),.int .u8 (x.tg[14]),.int .u8 (x.tg[15]),.int .u8 (x.tg[16]),.int .u8 (x.tg[17]),.int .u8 (x.tg[18]),.int .u8 (x.tg[19]),.int .u8 (x.tg[20]),.int .u8 (x.tg[21]),.int .u8 (x.tg[22]),.int .u8 (x.tg[23]),.int .u8 (x.tg[24]),.int .u8 (x.tg[25]),.int .u8 (x.tg[26]),.int .u8 (x.tg[27]),.int .u8 (x.tg[28]),.int .u8 (x.tg[29]),.int .u8 (x.tg[30]),.int .u8 (x.tg[31])]
abbrev dk:dM:=⟨0,0,ER,aH⟩
structure aK where
 kd:Int
 vw:Int
 k:Int
 rq:dM
 qa:Option Addr
 qc:Nat
 ql:List aT
 dg:aO
def aK.cells (x:aK):Array Value:=#[.int .u8 x.kd,.int .u64 x.vw,.int .u64 x.k,.int .i64 x.rq.cl,.int .u64 x.rq.tm,.int .u8 x.rq.op.kd,.string x.rq.op.ky,.string x.rq.op.va,.string x.rq.op.ol,.string x.rq.op.tx,.int .u64 x.rq.op.am,.int .u8 (x.rq.tg[0]),.int .u8 (x.rq.tg[1]),.int .u8 (x.rq.tg[2]),.int .u8 (x.rq.tg[3]),.int .u8 (x.rq.tg[4]),.int .u8 (x.rq.tg[5]),.int .u8 (x.rq.tg[6]),.int .u8 (x.rq.tg[7]),.int .u8 (x.rq.tg[8]),.int .u8 (x.rq.tg[9]),.int .u8 (x.rq.tg[10]),.int .u8 (x.rq.tg[11]),.int .u8 (x.rq.tg[12]),.int .u8 (x.rq.tg[13]),.int .u8 (x.rq.tg[14]),.int .u8 (x.rq.tg[15]),.int .u8 (x.rq.tg[16]),.int .u8 (x.rq.tg[17]),.int .u8 (x.rq.tg[18]),.int .u8 (x.rq.tg[19]),.int .u8 (x.rq.tg[20]),.int .u8 (x.rq.tg[21]),.int .u8 (x.rq.tg[22]),.int .u8 (x.rq.tg[23]),.int .u8 (x.rq.tg[24]),.int .u8 (x.rq.tg[25]),.int .u8 (x.rq.tg[26]),.int .u8 (x.rq.tg[27]),.int .u8 (x.rq.tg[28]),.int .u8 (x.rq.tg[29]),.int .u8 (x.rq.tg[30]),.int .u8 (x.rq.tg[31]),.slice x.qa x.ql.length x.qc,.int .u8 (x.dg[0]),.int .u8 (x.dg[1]),.int .u8 (x.dg[2]),.int .u8 (x.dg[3]),.int .u8 (x.dg[4]),.int .u8 (x.dg[5]),.int .u8 (x.dg[6]),.int .u8 (x.dg[7]),.int .u8 (x.dg[8]),.int .u8 (x.dg[9]),.int .u8 (x.dg[10]),.int .u8 (x.dg[11]),.int .u8 (x.dg[12]),.int .u8 (x.dg[13]),.int .u8 (x.dg[14]),.int .u8 (x.dg[15]),.int .u8 (x.dg[16]),.int .u8 (x.dg[17]),.int .u8 (x.dg[18]),.int .u8 (x.dg[19]),.int .u8 (x.dg[20]),.int .u8 (x.dg[21]),.int .u8 (x.dg[22]),.int .u8 (x.dg[23]),.int .u8 (x.dg[24]),.int .u8 (x.dg[25]),.int .u8 (x.dg[26]),.int .u8 (x.dg[27]),.int .u8 (x.dg[28]),.int .u8 (x.dg[29]),.int .u8 (x.dg[30]),.int .u8 (x.dg[31])]
abbrev cU:aK:=⟨0,0,0,dk,none,0,[],aH⟩
theorem Eu:dE aK.cells 76:=⟨λ_=>rfl,λ_=>rfl⟩
structure an where
 og:Int
 nr:Int
 dp:aD
 bd:aK
 tg:aO
def an.cells (x:an):Array Value:=#[.int .i64 x.og,.int .u64 x.nr,.int .u64 (x.dp[0]),.int .u64 (x.dp[1]),.int .u64 (x.dp[2]),.int .u64 (x.dp[3]),.int .u64 (x.dp[4]),.int .u64 (x.dp[5]),.int .u64 (x.dp[6]),.int .u64 (x.dp[7]),.int .u64 (x.dp[8]),.int .u64 (x.dp[9]),.int .u64 (x.dp[10]),.int .u8 x.bd.kd,.int .u64 x.bd.vw,.int .u64 x.bd.k,.int .i64 x.bd.rq.cl,.int .u64 x.bd.rq.tm,.int .u8 x.bd.rq.op.kd,.string x.bd.rq.op.ky,.string x.bd.rq.op.va,.string x.bd.rq.op.ol,.string x.bd.rq.op.tx,.int .u64 x.bd.rq.op.am,.int .u8 (x.bd.rq.tg[0]),.int .u8 (x.bd.rq.tg[1]),.int .u8 (x.bd.rq.tg[2]),.int .u8 (x.bd.rq.tg[3]),.int .u8 (x.bd.rq.tg[4]),.int .u8 (x.bd.rq.tg[5]),.int .u8 (x.bd.rq.tg[6]),.int .u8 (x.bd.rq.tg[7]),.int .u8 (x.bd.rq.tg[8]),.int .u8 (x.bd.rq.tg[9]),.int .u8 (x.bd.rq.tg[10]),.int .u8 (x.bd.rq.tg[11]),.int .u8 (x.bd.rq.tg[12]),.int .u8 (x.bd.rq.tg[13]),.int .u8 (x.bd.rq.tg[14]),.int .u8 (x.bd.rq.tg[15]),.int .u8 (x.bd.rq.tg[16]),.int .u8 (x.bd.rq.tg[17]),.int .u8 (x.bd.rq.tg[18]),.int .u8 (x.bd.rq.tg[19]),.int .u8 (x.bd.rq.tg[20]),.int .u8 (x.bd.rq.tg[21]),.int .u8 (x.bd.rq.tg[22]),.int .u8 (x.bd.rq.tg[23]),.int .u8 (x.bd.rq.tg[24]),.int .u8 (x.bd.rq.tg[25]),.int .u8 (x.bd.rq.tg[26]),.int .u8 (x.bd.rq.tg[27]),.int .u8 (x.bd.rq.tg[28]),.int .u8 (x.bd.rq.tg[29]),.int .u8 (x.bd.rq.tg[30]),.int .u8 (x.bd.rq.tg[31]),.slice x.bd.qa x.bd.ql.length x.bd.qc,.int .u8 (x.bd.dg[0]),.int .u8 (x.bd.dg[1]),.int .u8 (x.bd.dg[2]),.int .u8 (x.bd.dg[3]),.int .u8 (x.bd.dg[4]),.int .u8 (x.bd.dg[5]),.int .u8 (x.bd.dg[6]),.int .u8 (x.bd.dg[7]),.int .u8 (x.bd.dg[8]),.int .u8 (x.bd.dg[9]),.int .u8 (x.bd.dg[10]),.int .u8 (x.bd.dg[11]),.int .u8 (x.bd.dg[12]),.int .u8 (x.bd.dg[13]),.int .u8 (x.bd.dg[14]),.int .u8 (x.bd.dg[15]),.int .u8 (x.bd.dg[16]),.int .u8 (x.bd.dg[17]),.int .u8 (x.bd.dg[18]),.int .u8 (x.bd.dg[19]),.int .u8 (x.bd.dg[20]),.int .u8 (x.bd.dg[21]),.int .u8 (x.bd.dg[22]),.int .u8 (x.bd.dg[23]),.int .u8 (x.bd.dg[24]),.int .u8 (x.bd.dg[25]),.int .u8 (x.bd.dg[26]),.int .u8 (x.bd.dg[27]),.int .u8 (x.bd.dg[28]),.int .u8 (x.bd.dg[29]),.int .u8 (x.bd.dg[30]),.int .u8 (x.bd.dg[31]),.int .u8 (x.tg[0]),.int .u8 (x.tg[1]),.int .u8 (x.tg[2]),.int .u8 (x.tg[3]),.int .u8 (x.tg[4]),.int .u8 (x.tg[5]),.int .u8 (x.tg[6]),.int .u8 (x.tg[7]),.int .u8 (x.tg[8]),.int .u8 (x.tg[9]),.int .u8 (x.tg[10]),.int .u8 (x.tg[11]),.int .u8 (x.tg[12]),.int .u8 (x.tg[13]),.int .u8 (x.tg[14]),.int .u8 (x.tg[15]),.int .u8 (x.tg[16]),.int .u8 (x.tg[17]),.int .u8 (x.tg[18]),.int .u8 (x.tg[19]),.int .u8 (x.tg[20]),.int .u8 (x.tg[21]),.int .u8 (x.tg[22]),.int .u8 (x.tg[23]),.int .u8 (x.tg[24]),.int .u8 (x.tg[25]),.int .u8 (x.tg[26]),.int .u8 (x.tg[27]),.int .u8 (x.tg[28]),.int .u8 (x.tg[29]),.int .u8 (x.tg[30]),.int .u8 (x.tg[31])]
abbrev dm:an:=⟨0,0,mw,cU,aH⟩
theorem xQ:dE an.cells 121:=⟨λ_=>rfl,λ_=>rfl⟩
theorem Ac (a b:aO):dv Tryz.prog 2 34 (.agg (aO.cells a)) (.agg (aO.cells b))=decide (a=b):=by
 have h:dv Tryz.prog 2 34 (.agg (aO.cells a)) (.agg (aO.cells b))=aO.Ab a b:=zk
 rw [h,aO.uK]
theorem Du (a b:aT):dv Tryz.prog 2 81 (.agg a.cells) (.agg b.cells)=decide (a=b):=by
 have h:dv Tryz.prog 2 81 (.agg a.cells) (.agg b.cells)=(a.rp == b.rp && (a.nm == b.nm && true)):=zk
 rw [h,ib,ib,Bool.and_true]
 obtain⟨d,e⟩:=a
 obtain⟨f,i⟩:=b
 simp only [aT.mk.injEq,Bool.decide_and]
theorem Ev (a b:pk):dv Tryz.prog 2 33 (.agg a.cells) (.agg b.cells)=decide (a=b):=by
 have h:dv Tryz.prog 2 33 (.agg a.cells) (.agg b.cells)=(a.kd == b.kd && (a.ky.toList == b.ky.toList && (a.va.toList == b.va.toList && (a.ol.toList == b.ol.toList && (a.tx.toList == b.tx.toList && (a.am == b.am && true)))))):=zk
 rw [h,ib,ss,ss,ss,ss,ib,Bool.and_true]
 obtain⟨d,e,f,i,o,q⟩:=a
 obtain⟨u,w,x,z,b4,b5⟩:=b
 simp only [pk.mk.injEq,Bool.decide_and]
theorem Dv (a b:dM):dv Tryz.prog 3 36 (.agg a.cells) (.agg b.cells)=decide (a=b):=by
 have h:dv Tryz.prog 3 36 (.agg a.cells) (.agg b.cells)=(a.cl == b.cl && (a.tm == b.tm && (dv Tryz.prog 2 33 (.agg a.op.cells) (.agg b.op.cells) && (aO.Ab a.tg b.tg && true)))):=zk
 rw [h,ib,ib,Ev,aO.uK,Bool.and_true]
 obtain⟨d,e,f,i⟩:=a
 obtain⟨o,q,u,w⟩:=b
 simp only [dM.mk.injEq,Bool.decide_and]
theorem wP:ff Tryz.prog 37 81 2 16:=⟨zk,⟨Tryz.t81,.agg (aT.cells aR),zk,zk,zk,zk,zk⟩,zf⟩
theorem CK:ff Tryz.prog 174 43 121 344:=⟨zk,⟨Tryz.t43,.agg (an.cells dm),zk,zk,zk,zk,zk⟩,zf⟩
theorem uL (l:List Int):(l.flatMap λx=>(af x).toList)=l.map (Value.int .u8):=by
 induction l with
 | nil=>rfl
 | cons a l ih=>simp only [List.flatMap_cons,List.map_cons,ih];rfl
theorem lQ (l:List Int):(ae af l)=(l.map (Value.int .u8)).toArray:=by
 apply Array.ext'
 simp only [ae]
 exact uL l
def mY (l:List Int):aO:=⟨((l++List.replicate 32 0).take 32).toArray,by rw [List.size_toArray,List.length_take,List.length_append,List.length_replicate];omega⟩
theorem Dw {l:List Int}(h:l.length=32):ae af l=aO.cells (mY l):=by
 rw [aO.BA,lQ]
 apply Array.ext'
 have e:(l++List.replicate 32 0).take 32=l:=List.take_left' h
 show l.map (Value.int .u8)=(((l++List.replicate 32 0).take 32).toArray.map (Value.int .u8)).toList
 rw [e]
 simp
theorem Dx (v:aO):aO.cells v=ae af v.toList:=by
 rw [aO.BA,lQ]
 apply Array.ext'
 simp [Vector.toList]
theorem jh (v:aO):mY v.toList=v:=by
 have e:(v.toList++List.replicate 32 0).take 32=v.toList:=List.take_left' (aO.len v)
 apply Vector.toArray_inj.1
 show((v.toList++List.replicate 32 0).take 32).toArray=v.toArray
 rw [e]
 simp [Vector.toList]
end
section
variable {w0 w : World} {L : List aI} {ad : Option Addr} {c : Nat}
def hf (n:Int):List Int:=[IntKind.u8.wrap (aM .u16 n 8),IntKind.u8.wrap (aM .u16 n 0)]
theorem Ad {l:List Int}{n:Int}:(l++([(IntKind.u8.wrap (aM .u16 n 8):Int)]))++([(IntKind.u8.wrap (aM .u16 n 0):Int)])=l++hf n:=by rw [List.append_assoc];rfl
theorem aY (n:Int):(hf n).length=2:=rfl
theorem xR l n (hl:l.length<=900000) (hn:0<=n/\n<65536) (hs:St w0 (Sl ad c 5 1 af l::L) w):Cs Tryz.prog 158 #[.slice ad l.length c,.int .u16 n,.int .i64 2] w λrv w'=>∃ ao co,rv=.slice ao ((l++hf n).length) co/\St w0 (Sl ao co 5 1 af (l++hf n)::L) w':=by
 refine bp Tryz.func158 Tryz.ntmps158 (En (Lq (Ls (Lg [1,3] (Lw (aF (f:=94) (args:=#[.slice ad l.length c]) Tryz.call94 (jg l ze hs) ?_))))))
 rintro v4 w5 ⟨d,e,rfl,i⟩
 refine Lo (Lw (aF (f:=159) (args:=#[.slice d l.length e,.int .i64 2]) Tryz.call159 (iI l 2 ze za i) ?_))
 rintro v9 a4 ⟨a5,a6,rfl,o⟩
 refine Lz (Ls (Lq (Lb (Dz (aE.dJ 3 (En (Ls (Lq (LT (Lk (Lt (Ls (Lb (Dz (bL [6,7] (Hg 4 (.shift (aM .u16 n 8)) [.prop ((0:Int)<=8/\Int.fdiv n (2 ^ (min (Int.toNat 8) (IntKind.bits .u16)))=aM .u16 n 8)] (aB ⟨(by first|omega|exact bf rfl _),rfl⟩ av) Hz) (sb aJ aj [(IntKind.u8.wrap (aM .u16 n 8):Int)] o λa7 a8 q=>Lo (Dz (sd aJ aj (0:Int) (q.pl 1) zg λa9 b0 b1 x=>Lo (aL (Lm (Lt (La (Dz (aw.again (En (Ls (Lq (LT (Lk (Lt (Ls (Lb (Dz (bL [6,7] (Hg 4 (.shift (aM .u16 n 0)) [.prop ((0:Int)<=0/\Int.fdiv n (2 ^ (min (Int.toNat 0) (IntKind.bits .u16)))=aM .u16 n 0)] (aB ⟨(by first|omega|exact bf rfl _),rfl⟩ av) Hz) (sb aJ aj [(IntKind.u8.wrap (aM .u16 n 0):Int)] x λb2 b3 z=>Lo (Dz (sd aJ aj (0:Int) (z.pl 1) zg λa b b4 a1=>Lo (aL (Lm (Lt (La (Dz (aw.again (En (Ls (Lq (LF (Lx (gv (gw (Lh (Lt (Lq (Le (Dz (bg (v:=.slice a (((l++([(IntKind.u8.wrap (aM .u16 n 8):Int)]))++([(IntKind.u8.wrap (aM .u16 n 0):Int)])).length) b) ?_))))))))))))))))))))))))))))))))))))))))))))))))))))))))
 have a2:=((a1.pl 0).pl 2).pl 2
 exact⟨a,b,by rw [<- Ad],by rw [<- Ad];exact(a2.dr 2)⟩
theorem iu l n (hl:l.length<=900000) (hn:0<=n/\n<65536) (hs:St w0 (Sl ad c 5 1 af l::L) w):Cs Tryz.prog 110 #[.slice ad l.length c,.int .u16 n] w λrv w'=>∃ ao co,rv=.slice ao ((l++hf n).length) co/\St w0 (Sl ao co 5 1 af (l++hf n)::L) w':=by
 refine bp Tryz.func110 Tryz.ntmps110 (En (Lq (Ls (Lg [2] (Lw (Zc (xR l n zc zc hs) ?_))))))
 rintro e f ⟨a,b,rfl,d⟩
 exact Lz (Le (Dz (bg (v:=.slice a ((l++hf n).length) b) ⟨a,b,rfl,d⟩)))
def tx (s:ByteArray):List Int:=hf (s.size:Nat)++bF s
theorem jH (s:ByteArray):(tx s).length=2+s.size:=by rw [tx,List.length_append,aY,cu]
theorem jI l s (hl:l.length<=800000) (hsz:s.size<65536) (hs:St w0 (Sl ad c 5 1 af l::L) w):Cs Tryz.prog 181 #[.slice ad l.length c,.string s] w λrv w'=>∃ ao co,rv=.tuple #[.slice ao ((l++tx s).length) co,.int .i64 0]/\St w0 (Sl ao co 5 1 af (l++tx s)::L) w':=by
 refine bp Tryz.func181 Tryz.ntmps181 (En (Lq (Ls (Lq (Dz (Zi ((s.size:Int) >= 65536) (λd=>?_) (λd=>?_)))))))
 ·exfalso;omega
 ·refine Zk (Zt (Zs (bL [4,6] (Hg 3 (.cI (.int .u16 (s.size:Nat)) (.gen [])) [.prop (Value.int .u16 (IntKind.u16.wrap (s.size:Nat))=Value.int .u16 (s.size:Nat))] (aB (mq za za) av) Hz) (Zc (iu l (s.size:Nat) za za hs) ?_))))
  rintro x z ⟨e,i,rfl,o⟩
  exact Lo (Lw (ar.pW rfl zk aJ (u:=9) zk (f:=af) rfl (ad:=e) (c:=i) (xs:=l++hf (s.size:Nat)) (s:=s) zk o (by simp only [List.length_append,aY];omega) λa b w7 q=>Lz (Le (Dz (jE (v:=.slice a (((l++hf (s.size:Nat))++bF s).length) b) (v':=.int .i64 0) ⟨a,b,by rw [(show(l++hf (s.size:Nat))++bF s=l++tx s from List.append_assoc ..)],by rw [<- (show(l++hf (s.size:Nat))++bF s=l++tx s from List.append_assoc ..)];exact q⟩)))))
theorem BB {v:Int}(h:0<=v/\v<65536):fN (hf v)=v:=by
 obtain⟨n,rfl⟩:∃ n:Nat,v=n:=⟨v.toNat,za⟩
 have b:IntKind.u8.wrap (aM .u16 (n:Int) 8)=((n / 256:Nat):Int):=by
  show((n:Int).fdiv (2 ^ (min (Int.toNat (8:Int)) 16))) % 256=_
  show((n:Int).fdiv 256) % 256=_
  rw [Int.fdiv_eq_ediv_of_nonneg _ zf]
  omega
 have d:IntKind.u8.wrap (aM .u16 (n:Int) 0)=((n % 256:Nat):Int):=by
  show((n:Int).fdiv (2 ^ (min (Int.toNat (0:Int)) 16))) % 256=_
  show((n:Int).fdiv 1) % 256=_
  rw [Int.fdiv_eq_ediv_of_nonneg _ zf]
  omega
 rw [hf,b,d]
 show fV .u64 (bV .u64 (fV .u64 (bV .u64 0 8) (IntKind.u64.wrap ((n / 256:Nat):Int))) 8) (IntKind.u64.wrap ((n % 256:Nat):Int))=_
 have e:fV .u64 (bV .u64 0 8) ((n / 256:Nat):Int)=((n / 256:Nat):Int):=by
  rw [Ec (a:=0) za za za]
  omega
 rw [gK za za,gK za za,e,Ec za za za]
 omega
theorem CL {v:Int}(h:0<=v/\v<65536):IntKind.u16.wrap v=v:=by
 show v % 65536=v
 omega
theorem Ae {v:Int}(h:0<=v/\v<256):fN [v]=v:=by
 show fV .u64 (bV .u64 0 8) (IntKind.u64.wrap v)=v
 rw [gK za za,Ec za h za]
 omega
theorem sH {v:Int}(h:0<=v/\v<256):IntKind.u8.wrap v=v:=by
 show v % 256=v
 omega
end
section
variable {w0 w : World} {L : List aI} {ad : Option Addr} {c : Nat} {az : Option Addr} {cz : Nat}
abbrev CS:=List Int×Bool
def tk (n:Nat) (s:CS):List Int×CS:=if s.2=true\/s.1.length<n then ([],(s.1,true)) else (s.1.take n,(s.1.drop n,false))
def xS (n:Nat) (s:CS):Int×CS:=(fN (tk n s).1,(tk n s).2)
def dw (s:CS):Int×CS:=(IntKind.u8.wrap (fN (tk 1 s).1),(tk 1 s).2)
def kc (s:CS):Nat×CS:=((IntKind.u16.wrap (fN (tk 2 s).1)).toNat,(tk 2 s).2)
def dN (s:CS):Int×CS:=xS 8 s
def ke (most:Int) (s:CS):ByteArray×CS :=
 let h:=kc s
 let t:=tk h.1 (h.2.1,h.2.2 || (decide ((h.1:Int)>most)))
 if t.2.2=true then (⟨#[]⟩,(s.1,true)) else (strOf t.1,t.2)
def se (ad:Option Addr) (c:Nat):Prop:=(∃ b off,ad=some ⟨b,off,none⟩)\/(ad=none/\c=0)
theorem se.nn (h:se ad c) (e:ad=none):c=0:=by
 rcases h with⟨b,o,h⟩|h
 ·rw [e] at h;cases h
 ·exact h.2
theorem se.sub {c n:Nat}(h:se ad c):se (dB ad c n 1) (c-n):=by
 rcases h with h|⟨rfl,rfl⟩
 ·exact .inl (uI h)
 ·refine .inr ⟨?_,za⟩
  unfold dB
  split<;>rfl
theorem dQ {α:Type}{w0 w:World}{L:List aI}{ad:Option Addr}{c size:Nat}{e:TypeId}{f:α->Array Value}{l:List α}(hs:St w0 L w) (i:Nat) (hi:L[i]?=some (Sl ad c e size f l)):se ad c:=by
 have h:w.ownsRow 0 e size (.slice ad l.length c) l.length (l.flatMap λx=>(f x).toList):=hs.at_ i hi
 rcases h.2 with⟨a,b⟩|⟨g,cap,cur,hv,_⟩
 ·simp only [Value.slice.injEq] at a
  exact .inr ⟨a.1,a.2.2⟩
 ·simp only [Value.slice.injEq] at hv
  exact .inl ⟨g,0,hv.1⟩
structure aX (Q:aI) (az:Option Addr) (r:List Int) (cz:Nat):Prop where
 cap:r.length<=cz
 ET:se az cz
 row:∀ w,Q.holds w->ag w az r.length 1 (λk=>af (r.getD k 0))
 Dk:∀ z∈r,0<=z/\z<256
 len:r.length<=1000000
theorem aX.drop {Q:aI}{az:Option Addr}{r:List Int}{cz:Nat}(h:aX Q az r cz){n:Nat}(hn:n<=r.length):aX Q (dB az cz n 1) (r.drop n) (cz-n) :=
 ⟨by have:=h.cap;rw [List.length_drop];omega,h.ET.sub,λw hw=>ag.wM (h.row w hw) h.cap hn,λz hz=>h.Dk z (List.mem_of_mem_drop hz),by have:=h.len;rw [List.length_drop];omega⟩
theorem uM {n:Nat}{r:List Int}{sp:Bool}(h:sp=true\/r.length<n):tk n (r,sp)=([],(r,true)):=if_pos h
theorem pX {n:Nat}{r:List Int}{sp:Bool}(h1:sp=false) (h2:n<=r.length):tk n (r,sp)=(r.take n,(r.drop n,false)):=if_neg (by rw [h1];simp;omega)
theorem Af:∀ (l:List Int),0<=fN l/\fN l<18446744073709551616:=by
 intro l
 rcases List.eq_nil_or_concat l with rfl|⟨q,x,rfl⟩
 ·exact⟨Int.le_refl 0,zf⟩
 ·have e:fN (q++[x])=fV .u64 (bV .u64 (fN q) 8) (IntKind.u64.wrap x):=by simp only [fN,List.foldl_append,List.foldl_cons,List.foldl_nil]
  rw [List.concat_eq_append,e]
  show 0<=IntKind.u64.wrap _/\IntKind.u64.wrap _<_
  exact⟨Int.emod_nonneg _ zf,Int.emod_lt_of_pos _ zf⟩
theorem jJ Q r sp n (hQ:∀ w,St w0 L w->Q.holds w) (hq:aX Q az r cz) (hs:St w0 (ah c #[.slice az r.length cz,.bool sp] 202::L) w):Cs Tryz.prog 95 #[zP c 0,.int .i64 (n:Nat)] w λrv w'=>(rv=.slice az ((r.take n).length) cz/\sp=false/\n<=r.length/\St w0 (ah c #[.slice (dB az cz n 1) ((r.drop n).length) (cz-n),.bool false] 202::L) w')\/(rv=.slice none 0 0/\(sp=true\/r.length<n)/\St w0 (ah c #[.slice az r.length cz,.bool true] 202::L) w'):=by
 refine bp Tryz.func95 Tryz.ntmps95 (Zs ?_)
 have hcap:=hq.cap
 refine En (La (Lt (Ls (Lq (LF (Lk (Lt (Ls (Ls (Lg [20] (Dz (gZ 0 6 (Hl 4 0 1 hs Hz) (gC 13 sp (λd=>?_) (λd=>?_))))))))))))))
 ·exact En (Lw (Zu 0 1 #[.slice az r.length cz,.bool true] hs λq f=>Lo (Ld (Lt (Ls (Dz (bj (Hl 3 0 1 f Hz) (En (Lt (LT (Lq (Le (Ly (Dz (bg (v:=.slice none 0 0) (.inr (⟨rfl,.inl d,f⟩)))))))))))))))))
 ·refine Zr 6 4 [] (Dj 17 ((n:Int)<0) (λo=>?_) (λo=>?_))
  ·exfalso;omega
  ·refine Zj (Hl 14 0 0 hs Hz) (Zu 0 1 #[.slice az r.length cz,.bool (decide ((n:Int)>(r.length:Nat)))] hs λu b=>Lo (Ld (Lt (Ls (Dz (bj (Hl 3 0 1 b Hz) (Zt (Zi ((n:Int)>(r.length:Nat)) (λe=>?_) (λe=>?_)))))))))
   ·refine En (Lq (Le (Ly (Dz (bg (v:=.slice none 0 0) ?_)))))
    rw [decide_eq_true e] at b
    exact .inr (⟨rfl,.inr za,b⟩)
   ·refine Zk (Zt (Zs (bj (Hl 3 0 0 b (Hg 5 (.cI (.slice az ((r.take n).length) cz) (.sub 0 n)) [.prop ((n:Int)=(n:Int)),.prop (((none:Option Operand)=none->(0:Nat)=0)/\(some (Operand.tmp 36)=none->(n:Nat)=r.length)/\(0:Nat)<=n/\(n:Nat)<=cz),.prop (Value.slice (if cz=0 then az else (az:Option Addr).map (λa=>a.add (0*1))) (n-0) (cz-0)=Value.slice az ((r.take n).length) cz)] (aB za (aB ⟨(by first|(intro _;rfl)|(intro hc;cases hc)),(by first|(intro _;rfl)|(intro hc;cases hc)),za,za⟩ (aB (uE zA) av))) Hz)) (Zt (Zs (bL [9] (Hl 4 0 0 b (Hg 6 (.cI (.slice (dB az cz n 1) ((r.drop n).length) (cz-n)) (.sub n r.length)) [.prop ((n:Int)=(n:Int)),.prop ((some (Operand.tmp 43)=none->(n:Nat)=0)/\((none:Option Operand)=none->(r.length:Nat)=r.length)/\(n:Nat)<=r.length/\(r.length:Nat)<=cz),.prop (Value.slice (if cz=n then az else (az:Option Addr).map (λa=>a.add (n*1))) (r.length-n) (cz-n)=Value.slice (dB az cz n 1) ((r.drop n).length) (cz-n))] (aB za (aB ⟨(by first|(intro _;rfl)|(intro hc;cases hc)),(by first|(intro _;rfl)|(intro hc;cases hc)),za,za⟩ (aB (sB zA) av))) Hz)) (Zu 0 0 #[.slice (dB az cz n 1) ((r.drop n).length) (cz-n),.bool (decide ((n:Int)>(r.length:Nat)))] b λx i=>Lo (Ld (Lt (Lq (Le (Dz (bg (v:=.slice az ((r.take n).length) cz) ?_)))))))))))))
    rw [decide_eq_false e] at i
    exact .inl ⟨rfl,d,za,i⟩
theorem nT Q r sp n (hQ:∀ w,St w0 L w->Q.holds w) (hq:aX Q az r cz) (hs:St w0 (ah c #[.slice az r.length cz,.bool sp] 202::L) w):Cs Tryz.prog 96 #[.func (.func 95) #[zP c 0] #[],.int .i64 (n:Nat)] w λrv w'=>∃ vv2 rr2 sp2 az2 cz2,rv=.int .u64 vv2/\xS n (r,sp)=(vv2,(rr2,sp2))/\aX Q az2 rr2 cz2/\St w0 (ah c #[.slice az2 rr2.length cz2,.bool sp2] 202::L) w':=by
 refine bp Tryz.func96 Tryz.ntmps96 (Zs ?_)
 have hrl:=hq.len
 refine En (La (Lt (Ls (Ls (Lg [2] (Lw (Zc (jJ Q r sp n (λw h=>hQ w (h.drop 0)) zc hs) ?_)))))))
 rintro x w7 (⟨rfl,f,b,i⟩|⟨rfl,o,q⟩)
 ·refine Lz (Lb (Dz (aE.loop (T:=Nat×Int×(Option Addr)) (λgg=>[(4,.int .u64 gg.2.1),(9,.slice gg.2.2 ((r.take n).length) cz),(10,.int .i64 ((r.take n).length:Nat)),(11,.int .i64 (gg.1:Nat))]) (λgg w=>(gg.1<=(r.take n).length/\gg.2.1=fN ((r.take n).take gg.1)/\∀ w,St w0 L w->ag w gg.2.2 (r.take n).length 1 (λk=>af ((r.take n).getD k 0)))/\St w0 (ah c #[.slice (dB az cz n 1) ((r.drop n).length) (cz-n),.bool false] 202::L) w) (λgg=>(r.take n).length-gg.1) (0,0,az) [4,9,10,11] zk ⟨⟨Nat.zero_le _,rfl,λw h=>ag.sC (hq.row w (hQ w h)) n b⟩,i⟩ ?_)))
  rintro⟨jj,z,aq⟩ w8 ⟨hp,a⟩
  dsimp only at hp a
  have hw:=hp.2.2
  have htl:(r.take n).length=n:=by rw [List.length_take];omega
  refine En (Lq (Ls (Dz (Zi ((jj:Int)<((r.take n).length:Nat)) (λu=>?_) (λu=>?_)))))
  ·obtain⟨d,e,rfl⟩:=ag.isSome (hw _ (a.drop 1)) za
   exact Zk (Zt (Zs (Zb (Zs (bj (Hx 0 (jj:Int) ((r.take n).length:Int) d e 1 (Hg 1 (.gen [.int .u8 ((r.take n).getD jj 0)]) [.cell ⟨d,e+(jj*1),none⟩ (.int .u8 ((r.take n).getD jj 0))] (aG (ag.cC (hw _ (a.drop 1)) (k:=jj) zd (j:=0) zf zk) av) Hz)) (Zt (bj (Hg 1 (.shift (bV .u64 z 8)) [.prop ((0:Int)<=8/\IntKind.u64.wrap (z*2 ^ (min (Int.toNat 8) (IntKind.bits .u64)))=bV .u64 z 8)] (aB ⟨(by first|omega|exact bf rfl _),rfl⟩ av) Hz) (Zm (Zt (bj (cH 0 ((jj:Nat)+1) Hz) (aw.back (jj+1,fV .u64 (bV .u64 z 8) (IntKind.u64.wrap ((r.take n).getD jj 0)),some ⟨d,e,none⟩) [4,9,10,11] zk (by show(r.take n).length-(jj+1)<(r.take n).length-jj;omega) ⟨⟨za,by rw [xO za,<- hp.2.1],hw⟩,a⟩)))))))))))
  ·have hke:jj=(r.take n).length:=za
   exact En (Lx (gv (gw (Lh (Lt (Lq (Le (Dz (bg (v:=.int .u64 z) ⟨fN (r.take n),r.drop n,false,dB az cz n 1,(cz-n),(by rw [hp.2.1,hke,List.take_length]),(show(fN (tk n (r,sp)).1,(tk n (r,sp)).2)=_ by rw [pX f b]),hq.drop b,a⟩)))))))))
 ·exact Lz (Lb (Dz (aE.dJ 1 (En (Lq (Ls (LF (Lx (gv (gw (Lh (Lt (Lq (Le (Dz (bg (v:=.int .u64 0) ⟨0,r,true,az,cz,rfl,(show(fN (tk n (r,sp)).1,(tk n (r,sp)).2)=_ by rw [uM o];rfl),hq,q⟩))))))))))))))))
theorem lR {s:CS}{v:Int}{s2:CS}(h:dN s=(v,s2)):0<=v/\v<18446744073709551616:=by
 have a:(dN s).1=v:=by rw [h]
 rw [<- a]
 exact Af _
theorem jK {s:CS}{v:Int}{s2:CS}(h:dw s=(v,s2)):0<=v/\v<256:=by
 have a:(dw s).1=v:=by rw [h]
 rw [<- a]
 show 0<=fN _ % 256/\fN _ % 256<256
 omega
theorem xT {s:CS}{v:Nat}{s2:CS}(h:kc s=(v,s2)):v<65536:=by
 have a:(kc s).1=v:=by rw [h]
 rw [<- a]
 show(fN _ % 65536).toNat<65536
 omega
theorem bu Q r sp (hQ:∀ w,St w0 L w->Q.holds w) (hq:aX Q az r cz) (hs:St w0 (ah c #[.slice az r.length cz,.bool sp] 202::L) w):Cs Tryz.prog 55 #[zP c 0] w λrv w'=>∃ vv2 rr2 sp2 az2 cz2,rv=.int .u64 vv2/\dN (r,sp)=(vv2,(rr2,sp2))/\(0<=vv2/\vv2<18446744073709551616)/\aX Q az2 rr2 cz2/\St w0 (ah c #[.slice az2 rr2.length cz2,.bool sp2] 202::L) w':=by
 refine bp Tryz.func55 Tryz.ntmps55 (En (Lq (Lq (Ls (Lg [1] (Lw (Zc (nT Q r sp 8 (λw h=>hQ w (h.drop 0)) zc hs) ?_)))))))
 rintro q u ⟨a,rr2,d,e,f,rfl,b,i,o⟩
 exact Lz (Le (Dz (bg (v:=.int .u64 a) ⟨a,rr2,d,e,f,rfl,b,lR b,i,o⟩)))
theorem cY Q r sp (hQ:∀ w,St w0 L w->Q.holds w) (hq:aX Q az r cz) (hs:St w0 (ah c #[.slice az r.length cz,.bool sp] 202::L) w):Cs Tryz.prog 106 #[zP c 0] w λrv w'=>∃ vv2 rr2 sp2 az2 cz2,rv=.int .u8 vv2/\dw (r,sp)=(vv2,(rr2,sp2))/\(0<=vv2/\vv2<256)/\aX Q az2 rr2 cz2/\St w0 (ah c #[.slice az2 rr2.length cz2,.bool sp2] 202::L) w':=by
 refine bp Tryz.func106 Tryz.ntmps106 (En (Lq (Lq (Ls (Lg [1] (Lw (Zc (nT Q r sp 1 (λw h=>hQ w (h.drop 0)) zc hs) ?_)))))))
 rintro u x ⟨b,rr2,d,e,f,rfl,i,o,q⟩
 refine Lz (Le (Dz (bg (v:=.int .u8 (IntKind.u8.wrap b)) ?_)))
 obtain⟨ha,hb⟩:fN (tk 1 (r,sp)).1=b/\(tk 1 (r,sp)).2=(rr2,d):=by
  have a:=i
  unfold xS at a
  exact Prod.mk.inj a
 have a:dw (r,sp)=(IntKind.u8.wrap b,(rr2,d)):=by unfold dw;rw [ha,hb]
 exact⟨IntKind.u8.wrap b,rr2,d,e,f,rfl,a,(jK a),o,q⟩
theorem kU Q r sp (hQ:∀ w,St w0 L w->Q.holds w) (hq:aX Q az r cz) (hs:St w0 (ah c #[.slice az r.length cz,.bool sp] 202::L) w):Cs Tryz.prog 130 #[zP c 0] w λrv w'=>∃ nn2 rr2 sp2 az2 cz2,rv=.int .u16 (nn2:Nat)/\kc (r,sp)=(nn2,(rr2,sp2))/\nn2<65536/\aX Q az2 rr2 cz2/\St w0 (ah c #[.slice az2 rr2.length cz2,.bool sp2] 202::L) w':=by
 refine bp Tryz.func130 Tryz.ntmps130 (En (Lq (Lq (Ls (Lg [1] (Lw (Zc (nT Q r sp 2 (λw h=>hQ w (h.drop 0)) zc hs) ?_)))))))
 rintro x z ⟨a,rr2,d,e,f,rfl,i,o,q⟩
 refine Lz (Le (Dz (bg (v:=.int .u16 (IntKind.u16.wrap a)) ?_)))
 obtain⟨ha,hb⟩:fN (tk 2 (r,sp)).1=a/\(tk 2 (r,sp)).2=(rr2,d):=by
  have b:=i
  unfold xS at b
  exact Prod.mk.inj b
 have b:kc (r,sp)=((IntKind.u16.wrap a).toNat,(rr2,d)):=by unfold kc;rw [ha,hb]
 have u:0<=IntKind.u16.wrap a:=Int.emod_nonneg _ zf
 exact⟨(IntKind.u16.wrap a).toNat,rr2,d,e,f,(by rw [Int.toNat_of_nonneg u]),b,xT b,o,q⟩
theorem iJ (r:List Int) (sp:Bool) (hs:St w0 (ah c #[.slice az r.length cz,.bool sp] 202::L) w):Cs Tryz.prog 58 #[zP c 0] w λrv w'=>rv=.bool (!sp)/\St w0 (ah c #[.slice az r.length cz,.bool sp] 202::L) w':=by
 exact bp Tryz.func58 Tryz.ntmps58 (En (Lq (Ls (Dz (bj (Hl 6 0 1 hs Hz) (Zt (Ze (bg (v:=.bool (!sp)) ⟨rfl,hs⟩))))))))
theorem gx (r:List Int) (sp:Bool) (hs:St w0 (ah c #[.slice az r.length cz,.bool sp] 202::L) w):Cs Tryz.prog 57 #[zP c 0] w λrv w'=>rv=.int .i64 (r.length:Nat)/\St w0 (ah c #[.slice az r.length cz,.bool sp] 202::L) w':=by
 exact bp Tryz.func57 Tryz.ntmps57 (En (Lq (Ls (Lq (LF (Lk (Lt (Ls (Dz (bj (Hl 3 0 0 hs Hz) (Zt (Ze (bg (v:=.int .i64 (r.length:Nat)) ⟨rfl,hs⟩)))))))))))))
end
section
variable {w0 w : World} {L : List aI} {ad : Option Addr} {c : Nat} {az : Option Addr} {cz : Nat} {ay : Option Addr} {cy : Nat} {ax : Option Addr} {cx : Nat} {ab : Nat} {aoff : Nat} {ca : Nat}
theorem sI {ac:Nat}l (hl:l.length<=1000000000) (hrow:Rw w0 L af 1 0 (some ⟨ab,aoff,none⟩) l) (hs:St w0 L w):Cs Tryz.prog 94 #[zL ab aoff l.length ac] w λrv w'=>∃ ao co,rv=.slice ao l.length co/\St w0 (Sl ao co 5 1 af l::L) w':=by
 refine bp Tryz.func94 Tryz.ntmps94 (En (Lq (Ls (Lq (LF (Lk (Lt (Ls (Lg [0,2] (Dz (ar.eA rfl zk (t:=85) (e:=5) zk zk (ti:=Tryz.t5) zk hs λa o q u=>?_)))))))))))
 have b:St w0 (Sl (some ⟨a,0,none⟩) 0 5 1 af ([]:List Int)::L) o:=St.ey (l:=([]:List Int)) (f:=af) q u aj.size zh zk
 exact Lo (Lw (ar.append rfl zk aJ aj (ad:=some ⟨a,0,none⟩) (c:=0) (xs:=([]:List Int)) (ys:=l) (adx:=some ⟨ab,aoff,none⟩) (cx:=ac) (0:Int) zk b (hrow _ (b.drop 1)) (λh=>nomatch h) zN zN λd i z x=>Lz (Le (Dz (bg (v:=.slice d l.length i) ⟨d,i,zG,x⟩)))))
theorem fv l (hl:l.length<=1000000000) (hsm:se ad c) (hr:Rw w0 L af 1 0 ad l) (hs:St w0 L w) :
 Cs Tryz.prog 94 #[.slice ad l.length c] w λrv w'=>∃ ao co,rv=.slice ao l.length co/\St w0 (Sl ao co 5 1 af l::L) w':=by
 rcases hsm with⟨b,off,rfl⟩|⟨rfl,rfl⟩
 ·exact sI l hl hr hs
 ·have a:l=[]:=by
   cases l with
   | nil=>rfl
   | cons x q=>obtain⟨b,off,e⟩:=ag.isSome (hr _ hs) (Nat.succ_pos _);cases e
  subst a
  refine Calls.ret (jf hs) ?_
  rintro v d ⟨rfl,h⟩
  exact⟨none,0,rfl,St.bW h 5 1 af⟩
theorem nU {l:List Int}(h:∀ z∈l,0<=z/\z<256):bF (strOf l)=l:=by
 unfold strOf bF
 simp only [List.map_map]
 conv=>rhs;rw [<- List.map_id l]
 exact List.map_congr_left λz hz=>kp (h z hz).1 (h z hz).2
theorem pY {most:Int}{s:CS}{n:Nat}{r1:List Int}{p1:Bool}(h:kc s=(n,(r1,p1))) (hb:(p1 || decide ((n:Int)>most))=true\/r1.length<n):ke most s=(⟨#[]⟩,(s.1,true)):=by
 unfold ke
 rw [h]
 simp only []
 rw [uM hb]
 rfl
theorem sJ {most:Int}{s:CS}{n:Nat}{r1:List Int}(h:kc s=(n,(r1,false))) (hm:(n:Int)<=most) (hn:n<=r1.length):ke most s=(strOf (r1.take n),(r1.drop n,false)):=by
 unfold ke
 rw [h]
 simp only []
 rw [pX (by simp;omega) hn]
 rfl
theorem gy Q r sp most (hQ:∀ w,St w0 L w->Q.holds w) (hq:aX Q az r cz) (hs:St w0 (ah c #[.slice az r.length cz,.bool sp] 202::L) w):Cs Tryz.prog 182 #[zP c 0,.int .i64 most] w λrv w'=>∃ ss2 rr2 sp2 az2 cz2,rv=.string ss2/\ke most (r,sp)=(ss2,(rr2,sp2))/\aX Q az2 rr2 cz2/\St w0 (ah c #[.slice az2 rr2.length cz2,.bool sp2] 202::L) w':=by
 refine bp Tryz.func182 Tryz.ntmps182 (En (Lq (Ls (Lq (LF (Lk (Lt (Ls (Dz (bj (Hl 3 0 0 hs Hz) (En (Lt (Ls (Lg [1] (Lw (Zc (kU Q r sp (λw h=>hQ w (h.drop 0)) hq hs) ?_))))))))))))))))
 rintro b5 b6 ⟨a,rr2,b,q,o,rfl,u,b7,x,a0⟩
 refine z4 (cH 2 (a:Nat) Hz) (Zt (Zs (Zs (aE.join (T:=Unit) (E:=λ_=>[(26,.bool ((!b) && (decide ((a:Int)>most)))),(6,.int .i64 (a:Nat)),(5,.slice az r.length cz),(4,.string kF),(0,zP c 0)]) (F:=λ_ w=>St w0 (ah c #[.slice q rr2.length o,.bool b] 202::L) w) ?_ ?_))))
 ·refine Zg [] (gZ 0 6 (Hl 3 0 1 a0 Hz) ?_)
  rcases Bool.eq_false_or_eq_true (!b) with d|d
  ·exact di 22 true d (En (aL (Dz (jF [26,6,5,4,0] () (decide ((a:Int)>most)) (by first|rfl|simp [Hb,d,kL d]) a0))))
  ·exact di 22 false d (En (aL (Dz (jF [26,6,5,4,0] () false (by first|rfl|simp [Hb,d,km d]) a0))))
 intro _ b8 a3
 refine Zt (cS (t:=(!b) && (decide ((a:Int)>most))) (λi=>?_) (λi=>?_))
 ·have a8:=(Bool.and_eq_true_iff.1 i).1
  have a9:(decide ((a:Int)>most))=true:=(Bool.and_eq_true_iff.1 i).2
  refine En (Lg [3] (Lw (Zu 0 1 #[.slice q rr2.length o,.bool true] a3 λc1 b0=>Lo (Ld (Lt (Ls (Lg [2] (Lw (Zc (jJ Q rr2 true a (λw h=>hQ w (h.drop 0)) x b0) ?_)))))))))
  rintro c2 c3 (⟨rfl,b1,c4,c5⟩|⟨rfl,c6,a4⟩)
  ·cases b1
  ·exact Lz (Ls (Ls (Dz (bj (Hl 3 0 1 a4 Hz) (En (Lt (LT (Ls (Lg [4] (Lw (Zu 0 0 #[.slice az r.length cz,.bool true] a4 λc7 b2=>Lo (Ld (Lt (Lq (Le (Ly (Dz (bg (v:=.string kF) ⟨⟨#[]⟩,r,true,az,cz,rfl,pY u (.inl (by rw [Bool.and_eq_true] at i;rw [i.2,Bool.or_true])),hq,b2⟩))))))))))))))))))
 ·refine En (Lk (Lt (Ls (Lg [2] (Lw (Zc (jJ Q rr2 b a (λw h=>hQ w (h.drop 0)) x a3) ?_))))))
  rintro c8 c9 (⟨rfl,a5,a6,a2⟩|⟨rfl,b3,a7⟩)
  ·exact Lz (Ls (Ls (Dz (bj (Hl 3 0 1 a2 Hz) (En (Lt (LF (Lk (Lt (Ls (Lg [] (Dz (Zr 0 1 [] (ar.lP rfl zk (src:=85) (dst:=9) (e:=5) (ad:=q) (n:=(rr2.take a).length) (cap:=o) (f:=af) rfl (rr2.take a) rfl zk zk zk zk (λz hz=>aX.Dk zD z (List.mem_of_mem_take hz)) (ag.sC (x.row _ (hQ _ (a2.drop 1))) _ za) (En (aL (Lt (Le (Dz (bg (v:=.string (strOf (rr2.take a))) ⟨strOf (rr2.take a),rr2.drop a,false,dB q o a 1,o-a,rfl,sJ (a5▸u) (by rw [a5] at i;simp at i;omega) a6,aX.drop zD a6,a2⟩))))))))))))))))))))
  ·exact Lz (Ls (Ls (Dz (bj (Hl 3 0 1 a7 Hz) (En (Lt (LT (Ls (Lg [4] (Lw (Zu 0 0 #[.slice az r.length cz,.bool true] a7 λd0 b4=>Lo (Ld (Lt (Lq (Le (Ly (Dz (bg (v:=.string kF) ⟨⟨#[]⟩,r,true,az,cz,rfl,pY u (b3.elim (λh=>.inl (by rw [h];rfl)) .inr),hq,b4⟩))))))))))))))))))
theorem ji Q r sp n (hQ:∀ w,St w0 L w->Q.holds w) (hq:aX Q az r cz) (hs:St w0 (ah c #[.slice az r.length cz,.bool sp] 202::L) w):Cs Tryz.prog 56 #[zP c 0,.int .i64 (n:Nat)] w λrv w'=>∃ ao2 co2 ll2 rr2 sp2 az2 cz2,rv=.slice ao2 ll2.length co2/\tk n (r,sp)=(ll2,(rr2,sp2))/\aX Q az2 rr2 cz2/\St w0 (Sl ao2 co2 5 1 af ll2::ah c #[.slice az2 rr2.length cz2,.bool sp2] 202::L) w':=by
 refine bp Tryz.func56 Tryz.ntmps56 (En (Lq (Ls (Lg [2,3] (Lw (Zc (jJ Q r sp n (λw h=>hQ w (h.drop 0)) hq hs) ?_))))))
 rintro v6 w7 (⟨rfl,e,a,i⟩|⟨rfl,o,q⟩)
 ·refine Lo (Dz (aF (f:=94) (args:=#[.slice az ((r.take n).length) cz]) Tryz.call94 (fv (r.take n) (by have:=hq.len;rw [List.length_take];omega) hq.ET (λw h=>ag.sC (hq.row w (hQ w (h.drop 1))) _ za) i) ?_))
  rintro a0 a1 ⟨b,d,rfl,u⟩
  exact Lz (Le (Dz (bg (v:=.slice b ((r.take n).length) d) ⟨b,d,r.take n,r.drop n,false,dB az cz n 1,cz-n,rfl,pX e a,hq.drop a,u⟩)))
 ·exact Lo (Dz (sv (jf q) λa3 x=>Lz (Le (Dz (bg (v:=.slice none 0 0) ⟨none,0,([]:List Int),r,true,az,cz,rfl,uM o,hq,St.bW x 5 1 af⟩)))))
theorem df F (hFl:F.length<=1000000000) (hsm:se ad ca) (hr:Rw w0 L af 1 0 ad F) (hs:St w0 L w):Cs Tryz.prog 54 #[.slice ad F.length ca] w λrv w'=>∃ cc ao co,rv=zP cc 0/\St w0 (ah cc #[.slice ao F.length co,.bool false] 202::Sl ao co 5 1 af F::L) w':=by
 refine bp Tryz.func54 Tryz.ntmps54 (En (Lq (Ls (Lg [1,3] (Lw (aF (f:=94) (args:=#[.slice ad F.length ca]) Tryz.call94 (fv F zc zc (λw h=>hr _ (h.drop 0)) hs) ?_))))))
 rintro o q ⟨a,b,rfl,e⟩
 exact Lo (Lw (kR #[.slice a F.length b,.bool false] e λd u i=>Lz (Le (Dz (bg (v:=zP d 0) ⟨d,a,b,rfl,i⟩)))))
theorem aX.new {ao:Option Addr}{co j:Nat}{F:List Int}(hs:St w0 L w) (hj:L[j]?=some (Sl ao co 5 1 af F)) (hb:∀ z∈F,0<=z/\z<256) (hl:F.length<=1000000):aX (Sl ao co 5 1 af F) ao F co :=
 ⟨Sl.cap (hs.at_ j hj),dQ hs j hj,λw h=>Sl.rows aj.size h (0:Int),hb,hl⟩
theorem xU {x y:List Int}(hx:∀ z∈x,0<=z/\z<256) (hy:∀ z∈y,0<=z/\z<256) (h:strOf x=strOf y):x=y:=by
 have a:=congrArg bF h
 rw [nU hx,nU hy] at a
 exact a
theorem xV {x y:List Int}(hx:∀ z∈x,0<=z/\z<256) (hy:∀ z∈y,0<=z/\z<256):decide (strOf x=strOf y)=decide (x=y):=by
 by_cases h:x=y
 ·subst h;simp
 ·rw [decide_eq_false h,decide_eq_false λa=>h (xU hx hy a)]
theorem qZ x y (hbx:∀ z∈x,0<=z/\z<256) (hby:∀ z∈y,0<=z/\z<256) (hr1:Rw w0 L af 1 0 ax x) (hr2:Rw w0 L af 1 0 ay y) (hs:St w0 L w):Cs Tryz.prog 108 #[.slice ax x.length cx,.slice ay y.length cy] w λrv w'=>rv=.bool (decide (x=y))/\St w0 L w':=by
 exact bp Tryz.func108 Tryz.ntmps108 (En (Lq (Ls (Lg [] (Dz (Zr 0 1 [] (ar.lP rfl zk (src:=85) (dst:=9) (e:=5) (ad:=ax) (n:=x.length) (cap:=cx) (f:=af) rfl x rfl zk zk zk zk hbx (hr1 _ (hs.drop 0)) (Zr 2 1 [] (ar.lP rfl zk (src:=85) (dst:=9) (e:=5) (ad:=ay) (n:=y.length) (cap:=cy) (f:=af) rfl y rfl zk zk zk zk hby (hr2 _ (hs.drop 0)) (gY (Hg 4 (.cI (.bool (decide ((strOf x)=(strOf y)))) (.gen [])) [.prop (Value.bool ((strOf x).toList == (strOf y).toList)=Value.bool (decide ((strOf x)=(strOf y))))] (aB (seq _ _) av) Hz) (Zt (Ze (bg (v:=.bool (decide ((strOf x)=(strOf y)))) ⟨(by rw [xV hbx hby]),hs⟩)))))))))))))
end
section
variable {w0 w : World} {L : List aI} {ad : Option Addr} {c : Nat}
theorem sL (n:Int) (x:Nat) (h:x<8):sF n x++[IntKind.u8.wrap (aM .u64 n (IntKind.u64.wrap (8*(7-(x:Nat)))))]=sF n (x+1):=by
 rw [nP,show IntKind.u64.wrap (8*(7-(x:Nat)))=8*(7-(x:Nat)) from gK za za]
 rfl
theorem uN l n (hl:l.length<=900000) (hn:0<=n/\n<=18446744073709551615) (hs:St w0 (Sl ad c 5 1 af l::L) w):Cs Tryz.prog 121 #[.slice ad l.length c,.int .u64 n,.int .i64 8] w λrv w'=>∃ ao co,rv=.slice ao ((l++wd n).length) co/\St w0 (Sl ao co 5 1 af (l++wd n)::L) w':=by
 refine bp Tryz.func121 Tryz.ntmps121 (En (Lq (Ls (Lg [0,2] (Dz (ar.eA rfl zk (t:=85) (e:=5) zk zk (ti:=Tryz.t5) zk hs λd i o u=>?_))))))
 have a:St w0 (Sl (some ⟨d,0,none⟩) 0 5 1 af ([]:List Int)::Sl ad c 5 1 af l::L) i:=St.ey (l:=([]:List Int)) (f:=af) o u aj.size zh zk
 refine Lo (Lw (ar.append rfl zk aJ aj (ad:=some ⟨d,0,none⟩) (c:=0) (xs:=([]:List Int)) (ys:=l) (adx:=ad) (cx:=c) (0:Int) zk a (a.rows 1 rfl aj.size (0:Int)) (a.eU 1 rfl) (by first|(simp only [List.length_nil];omega)|(rw [hp.2.2,List.length_append,ej];simp only [List.length_cons,List.length_nil];omega)) (by first|(simp only [List.length_nil];omega)|(rw [hp.2.2,List.length_append,ej];simp only [List.length_cons,List.length_nil];omega)) λa0 c9 w6 a1=>Lz (Ls (Lq (Lb (Dz ?_))))))
 have a2:=(a1.pl 0).pl 1
 refine aE.loop (T:=Nat×Int×(List Int)×(Option Addr)×Nat) (λgg=>[(1,.int .u64 n),(6,.slice none 0 0),(7,.slice gg.2.2.2.1 gg.2.2.1.length gg.2.2.2.2),(8,.int .i64 gg.2.1)]) (λgg w=>(gg.1<=8/\gg.2.1=7-(gg.1:Nat)/\gg.2.2.1=l++sF n gg.1)/\St w0 (Sl gg.2.2.2.1 gg.2.2.2.2 5 1 af gg.2.2.1::L) w) (λgg=>8-gg.1) (0,7,l,a0,c9) [1,6,7,8] zk ⟨⟨by first|omega|(simp only;omega),by first|omega|(simp only;omega),by simp [sF]⟩,a2.dr 1⟩ ?_
 rintro⟨x,z,q,ad,c⟩ b3 ⟨hp,b⟩
 dsimp only at hp b
 refine En (Ls (Lq (Dz (Zi ((z:Int) >= 0) (λa4=>?_) (λa4=>?_)))))
 ·refine Zk (Zt (Zs (Zb (bL [7,8] (cH 3 (8*z) (Hg 5 (.shift (aM .u64 n (IntKind.u64.wrap (8*z)))) [.prop ((0:Int)<=IntKind.u64.wrap (8*z)/\Int.fdiv n (2 ^ (min (Int.toNat (IntKind.u64.wrap (8*z))) (IntKind.bits .u64)))=aM .u64 n (IntKind.u64.wrap (8*z)))] (aB ⟨(by first|omega|exact bf rfl _),rfl⟩ av) Hz)) (sb aJ aj [(IntKind.u8.wrap (aM .u64 n (IntKind.u64.wrap (8*z))):Int)] b λb4 b5 a5=>Lo (Dz (sd aJ aj (0:Int) (a5.pl 1) (by first|(simp only [List.length_nil];omega)|(rw [hp.2.2,List.length_append,ej];simp only [List.length_cons,List.length_nil];omega)) λa7 a8 b6 a9=>Lo (aL (Lm (Lt (Dz (bj (cH 1 (z-1) Hz) ?_))))))))))))
  have b0:=(a9.pl 0).pl 1
  exact aw.back (x+1,z-1,q++([(IntKind.u8.wrap (aM .u64 n (IntKind.u64.wrap (8*z))):Int)]),a7,a8) [1,6,7,8] zk (by show 8-(x+1)<8-x;omega) ⟨(by refine⟨by first|omega|(simp only;omega),by first|omega|(simp only;omega),?_⟩;rw [hp.2.2,List.append_assoc,hp.2.1];exact congrArg (l++·) (sL n x za)),b0.dr 1⟩
 ·refine En (Lx (gv (gw (Lh (Lt (Lq (Le (Dz (bg (v:=.slice ad q.length c) ?_)))))))))
  have hx:x=8:=za
  have hq:q=l++wd n:=by rw [hp.2.2,hx];rfl
  subst hq
  exact⟨ad,c,rfl,b⟩
theorem wR {l:List Int}{n:Int}(h:0<=n/\n<65536):(l++([(IntKind.u8.wrap (aM .u64 n 8):Int)]))++([(IntKind.u8.wrap (aM .u64 n 0):Int)])=l++hf n:=by
 obtain⟨m,rfl⟩:∃ m:Nat,n=m:=⟨n.toNat,za⟩
 have a:∀ k:Nat,k<=16->aM .u64 (m:Int) (k:Nat)=aM .u16 (m:Int) (k:Nat):=λk hk=>by
  show(m:Int).fdiv (2 ^ (min (Int.toNat (k:Int)) 64))=(m:Int).fdiv (2 ^ (min (Int.toNat (k:Int)) 16))
  rw [Int.toNat_natCast,Nat.min_eq_left za,Nat.min_eq_left za]
 have b:=a 8 za
 have d:=a 0 za
 simp only [hf,List.append_assoc,List.cons_append,List.nil_append]
 rw [show aM .u64 (m:Int) 8=aM .u16 (m:Int) 8 from b,show aM .u64 (m:Int) 0=aM .u16 (m:Int) 0 from d]
theorem zw {p:Prop}(h:p:=by first|omega|(simp only [List.length_append,List.length_cons,List.length_nil,aP,aY,jH,cu] at *;omega)):p:=h
theorem uO l n (hl:l.length<=900000) (hn:0<=n/\n<65536) (hs:St w0 (Sl ad c 5 1 af l::L) w):Cs Tryz.prog 121 #[.slice ad l.length c,.int .u64 n,.int .i64 2] w λrv w'=>∃ ao co,rv=.slice ao ((l++hf n).length) co/\St w0 (Sl ao co 5 1 af (l++hf n)::L) w':=by
 refine bp Tryz.func121 Tryz.ntmps121 (En (Lq (Ls (Lg [0,2] (Dz (ar.eA rfl zk (t:=85) (e:=5) zk zk (ti:=Tryz.t5) zk hs λb o q u=>?_))))))
 have a:St w0 (Sl (some ⟨b,0,none⟩) 0 5 1 af ([]:List Int)::Sl ad c 5 1 af l::L) o:=St.ey (l:=([]:List Int)) (f:=af) q u aj.size zh zk
 refine Lo (Lw (ar.append rfl zk aJ aj (ad:=some ⟨b,0,none⟩) (c:=0) (xs:=([]:List Int)) (ys:=l) (adx:=ad) (cx:=c) (0:Int) zk a (a.rows 1 rfl aj.size (0:Int)) (a.eU 1 rfl) zw zw λa7 c9 w6 x=>Lz (Ls (Lq (Lb (Dz (aE.dJ 3 (En (Ls (Lq (LT (Lk (Lt (Ls (Lb (Dz (bL [7,8] (Hg 5 (.shift (aM .u64 n 8)) [.prop ((0:Int)<=8/\Int.fdiv n (2 ^ (min (Int.toNat 8) (IntKind.bits .u64)))=aM .u64 n 8)] (aB ⟨(by first|omega|exact bf rfl _),rfl⟩ av) Hz) (sb aJ aj [(IntKind.u8.wrap (aM .u64 n 8):Int)] x λa8 a9 z=>Lo (Dz (sd aJ aj (0:Int) (z.pl 1) zw λb0 b2 b3 a1=>Lo (aL (Lm (Lt (La (Dz (aw.again (En (Ls (Lq (LT (Lk (Lt (Ls (Lb (Dz (bL [7,8] (Hg 5 (.shift (aM .u64 n 0)) [.prop ((0:Int)<=0/\Int.fdiv n (2 ^ (min (Int.toNat 0) (IntKind.bits .u64)))=aM .u64 n 0)] (aB ⟨(by first|omega|exact bf rfl _),rfl⟩ av) Hz) (sb aJ aj [(IntKind.u8.wrap (aM .u64 n 0):Int)] a1 λb4 b5 a2=>Lo (Dz (sd aJ aj (0:Int) (a2.pl 1) zw λd i b6 a4=>Lo (aL (Lm (Lt (La (Dz (aw.again (En (Ls (Lq (LF (Lx (gv (gw (Lh (Lt (Lq (Le (Dz (bg (v:=.slice d (((l++([(IntKind.u8.wrap (aM .u64 n 8):Int)]))++([(IntKind.u8.wrap (aM .u64 n 0):Int)])).length) i) ?_))))))))))))))))))))))))))))))))))))))))))))))))))))))))))
 have a5:=(((a4.pl 0).pl 3).pl 3).pl 3
 exact⟨d,i,by rw [wR hn],by rw [<- wR hn];exact(a5.dr 3)⟩
theorem zJ {p:Prop}(h:p:=by first|omega|(simp only [List.length_append,List.length_cons,List.length_nil,aP,aY] at *;omega)):p:=h
theorem eH l n (hl:l.length<=900000) (hn:0<=n/\n<=18446744073709551615) (hs:St w0 (Sl ad c 5 1 af l::L) w):Cs Tryz.prog 78 #[.slice ad l.length c,.int .u64 n] w λrv w'=>∃ ao co,rv=.slice ao ((l++wd n).length) co/\St w0 (Sl ao co 5 1 af (l++wd n)::L) w':=by
 refine bp Tryz.func78 Tryz.ntmps78 (En (Lq (Ls (Lg [2] (Lw (Zc (uN l n zJ zc hs) ?_))))))
 rintro e f ⟨a,b,rfl,d⟩
 exact Lz (Le (Dz (bg (v:=.slice a ((l++wd n).length) b) ⟨a,b,rfl,d⟩)))
theorem uP l n (hl:l.length<=900000) (hn:0<=n/\n<65536) (hs:St w0 (Sl ad c 5 1 af l::L) w):Cs Tryz.prog 165 #[.slice ad l.length c,.int .u16 n] w λrv w'=>∃ ao co,rv=.slice ao ((l++hf n).length) co/\St w0 (Sl ao co 5 1 af (l++hf n)::L) w':=by
 refine bp Tryz.func165 Tryz.ntmps165 (En (Lq (Ls (Dz (bL [3] (qU 2 n Hz) (Zc (uO l n zJ zc hs) ?_))))))
 rintro e f ⟨a,b,rfl,d⟩
 exact Lz (Le (Dz (bg (v:=.slice a ((l++hf n).length) b) ⟨a,b,rfl,d⟩)))
theorem iK l s (hl:l.length<=800000) (hsz:s.size<65536) (hs:St w0 (Sl ad c 5 1 af l::L) w):Cs Tryz.prog 122 #[.slice ad l.length c,.string s] w λrv w'=>∃ ao co,rv=.tuple #[.slice ao ((l++tx s).length) co,.int .i64 0]/\St w0 (Sl ao co 5 1 af (l++tx s)::L) w':=by
 refine bp Tryz.func122 Tryz.ntmps122 (En (Lq (Ls (Lq (Dz (Zi ((s.size:Int)>65535) (λd=>?_) (λd=>?_)))))))
 ·exfalso;omega
 ·refine Zk (Zt (Zs (bL [4,6] (Hg 3 (.cI (.int .u16 (s.size:Nat)) (.gen [])) [.prop (Value.int .u16 (IntKind.u16.wrap (s.size:Nat))=Value.int .u16 (s.size:Nat))] (aB (mq za za) av) Hz) (Zc (uP l (s.size:Nat) za za hs) ?_))))
  rintro x z ⟨e,i,rfl,o⟩
  exact Lo (Lw (ar.pW rfl zk aJ (u:=9) zk (f:=af) rfl (ad:=e) (c:=i) (xs:=l++hf (s.size:Nat)) (s:=s) zk o (by simp only [List.length_append,aY];omega) λa b w7 q=>Lz (Le (Dz (jE (v:=.slice a (((l++hf (s.size:Nat))++bF s).length) b) (v':=.int .i64 0) ⟨a,b,by rw [(show(l++hf (s.size:Nat))++bF s=l++tx s from List.append_assoc ..)],by rw [<- (show(l++hf (s.size:Nat))++bF s=l++tx s from List.append_assoc ..)];exact q⟩)))))
end
section
variable {w0 w : World} {L : List aI} {c : Nat} {az : Option Addr} {cz : Nat}
def kg (s:CS):aO×CS:=(mY (tk 32 s).1,(tk 32 s).2)
theorem CM (n:Nat) (s:CS):(tk n s).1.length<=n:=by
 unfold tk
 split
 ·exact Nat.zero_le _
 ·rw [List.length_take];omega
theorem CN {n:Nat}{s:CS}(h:∀ z∈s.1,0<=z/\z<256):∀ z∈(tk n s).1,0<=z/\z<256:=by
 unfold tk
 split
 ·intro z hz;cases hz
 ·exact λz hz=>h z (List.mem_of_mem_take hz)
theorem CO {l:List Int}(h:l.length<=32):ae af (gi (List.replicate 32 (0:Int)) 0 (l.take (min l.length 32)))=aO.cells (mY l):=by
 have a:l.take (min l.length 32)=l:=List.take_of_length_le za
 have b:gi (List.replicate 32 (0:Int)) 0 l=(l++List.replicate 32 0).take 32:=by
  show List.take 0 _++l++List.drop (0+l.length) _=_
  rw [List.take_zero,List.nil_append,List.drop_replicate,List.take_append,List.take_of_length_le h,List.take_replicate]
  congr 2
  omega
 rw [a,b,aO.BA,lQ]
 apply Array.ext'
 show((l++List.replicate 32 0).take 32).map (Value.int .u8)=(((l++List.replicate 32 0).take 32).toArray.map (Value.int .u8)).toList
 simp
theorem nW (l:List Int):(gi (List.replicate 32 (0:Int)) 0 (l.take (min l.length 32))).length=32:=by rw [mx zI,List.length_replicate]
theorem Ag {l:List Int}(h:∀ z∈l,0<=z/\z<256):∀ z∈(mY l).toList,0<=z/\z<256:=by
 intro z hz
 have e:(mY l).toList=(l++List.replicate 32 0).take 32:=by
  show(((l++List.replicate 32 0).take 32).toArray).toList=_
  simp
 rw [e] at hz
 rcases List.mem_append.1 (List.mem_of_mem_take hz) with a|a
 ·exact h z a
 ·rw [List.eq_of_mem_replicate a];omega
theorem jL Q r sp (hQ:∀ w,St w0 L w->Q.holds w) (hq:aX Q az r cz) (hs:St w0 (ah c #[.slice az r.length cz,.bool sp] 202::L) w):Cs Tryz.prog 101 #[zP c 0] w λrv w'=>∃ dd2 rr2 sp2 az2 cz2,rv=.agg (aO.cells dd2)/\kg (r,sp)=(dd2,(rr2,sp2))/\(∀ z∈dd2.toList,0<=z/\z<256)/\aX Q az2 rr2 cz2/\St w0 (ah c #[.slice az2 rr2.length cz2,.bool sp2] 202::L) w':=by
 refine bp Tryz.func101 Tryz.ntmps101 (En (Ls (Lg [0] (Dz (oX (ae af (List.replicate 32 (0:Int))) hs λe w2 a4=>Lo (Ld (Lt (Ls (Dz (ZD (jX [0,1] (.ef 2 (.ef 3 .done))) a4 λw4 a5 b0=>Zj (Hg 0 (.cI (zL e 0 32 32) (.sub 0 32)) [.prop (((none:Option Operand)=none->(0:Nat)=0)/\((none:Option Operand)=none->(32:Nat)=32)/\(0:Nat)<=32/\(32:Nat)<=32),.prop (Value.slice (some (if 32=0 then Addr.mk e 0 none else (Addr.mk e 0 none).add (0*1))) (32-0) (32-0)=Value.slice (some ⟨e,0,none⟩) 32 32)] (aB ⟨(by first|(intro _;rfl)|(intro hc;cases hc)),(by first|(intro _;rfl)|(intro hc;cases hc)),za,za⟩ (aB (cw _ _ _ _ _ zf) av)) Hz) (Zc (ji Q r sp 32 (λw h=>hQ w (h.drop 1)) hq (a5.pl 1)) ?_)))))))))))
 rintro b2 b3 ⟨q,u,d,f,i,x,a0,rfl,o,a7,a8⟩
 refine⟨bw (n:=[.prop (((none:Option Operand)=none->(0:Nat)=0)/\((none:Option Operand)=none->(32:Nat)=32)/\(0:Nat)<=32/\(32:Nat)<=32),.prop (Value.slice (some (if 32=0 then Addr.mk e 0 none else (Addr.mk e 0 none).add (0*1))) (32-0) (32-0)=Value.slice (some ⟨e,0,none⟩) 32 32)]) zk (aB ⟨(by first|(intro _;rfl)|(intro hc;cases hc)),(by first|(intro _;rfl)|(intro hc;cases hc)),za,za⟩ (aB (cw _ _ _ _ _ zf) av)),?_⟩
 have a1:=a8.pl 2
 refine ar.Ck rfl zk aJ aj (b:=e) (off:=0) (dLen:=32) (dCap:=32) (ys:=d) (adx:=q) (cx:=u) (0:Int) rfl zk a1 (a1.rows 1 rfl aj.size (0:Int)) (by rw [dV aj.size];simp only [List.length_replicate,Nat.zero_add];exact Nat.mul_le_mul_right _ za) (cs':=ae af (gi (List.replicate 32 (0:Int)) 0 (d.take (min d.length 32)))) (by show bI _ (0*1) _=_;exact sK aj.size zI) λb4 a2=>Lo (Ld (Lt (Ls (Dz (bL [1] (Hg 0 (.agg (ae af (gi (List.replicate 32 (0:Int)) 0 (d.take (min d.length 32))))) [.prop (Array.size (ae af (gi (List.replicate 32 (0:Int)) 0 (d.take (min d.length 32))))=32),.cells ⟨e,0,none⟩ (ae af (gi (List.replicate 32 (0:Int)) 0 (d.take (min d.length 32))))] (aB (bt aj (show(gi (List.replicate 32 (0:Int)) 0 (d.take (min d.length 32))).length=32 from(nW _)) rfl) (dq (a2.cells 0 0 rfl zG) av)) Hz) (ar.store rfl rfl zk (b:=e) (off:=0) (v:=.agg (ae af (gi (List.replicate 32 (0:Int)) 0 (d.take (min d.length 32))))) zk zk (ti:=Tryz.t34) zk a2 0 rfl (bQ aj (show(gi (List.replicate 32 (0:Int)) 0 (d.take (min d.length 32))).length=32 from(nW _)) zk) (cX aj) (cJ aj (show(gi (List.replicate 32 (0:Int)) 0 (d.take (min d.length 32))).length=32 from(nW _)) (by rw [bt aj (show(gi (List.replicate 32 (0:Int)) 0 (d.take (min d.length 32))).length=32 from(nW _)) (m:=32) rfl];rfl)) (cs':=ae af (gi (List.replicate 32 (0:Int)) 0 (d.take (min d.length 32)))) (L':=(ah e (ae af (gi (List.replicate 32 (0:Int)) 0 (d.take (min d.length 32)))) 34)::Sl q u 5 1 af d::ah c #[.slice x f.length a0,.bool i] 202::L) (dz aj (show(gi (List.replicate 32 (0:Int)) 0 (d.take (min d.length 32))).length=32 from(nW _)) (by rw [bt aj (show(gi (List.replicate 32 (0:Int)) 0 (d.take (min d.length 32))).length=32 from(nW _)) (m:=32) rfl];rfl)) rfl λb5 a3=>Lo (Ld (Lt (Le (Dz (aw.done (.inl rfl) (v:=.agg (ae af (gi (List.replicate 32 (0:Int)) 0 (d.take (min d.length 32))))) (λa hf=>ct rfl zk (ti:=Tryz.t34) zk zk (vs:=ae af (gi (List.replicate 32 (0:Int)) 0 (d.take (min d.length 32)))) (bt aj (show(gi (List.replicate 32 (0:Int)) 0 (d.take (min d.length 32))).length=32 from(nW _)) zk) (a3.cells 0 0 rfl zG) a hf) ?_)))))))))))
 have h6:=CN (n:=32) (s:=(r,sp)) hq.Dk
 rw [o] at h6
 have h9:kg (r,sp)=(mY d,(f,i)):=by unfold kg;rw [o]
 have h8:d.length<=32:=by have h7:=CM 32 (r,sp);rw [o] at h7;exact h7
 exact⟨mY d,f,i,x,a0,congrArg Value.agg (CO h8),h9,Ag h6,a7,a3.dr 2⟩
def Dy (s:CS):dM×CS :=
 let a:=dw s
 let b:=dw a.2
 let c:=dN b.2
 let d:=dN c.2
 let e:=ke 32 d.2
 let f:=ke 128 e.2
 let g:=ke 128 f.2
 let h:=ke 32 g.2
 let i:=kg h.2
 (⟨a.1,c.1,⟨b.1,e.1,f.1,g.1,h.1,d.1⟩,i.1⟩,i.2)
structure sM (r:dM):Prop where
 cl:-9223372036854775808<=r.cl/\r.cl<=9223372036854775807
 tm:0<=r.tm/\r.tm<=18446744073709551615
 kd:0<=r.op.kd/\r.op.kd<=255
 am:0<=r.op.am/\r.op.am<=18446744073709551615
 tg:∀ z∈r.tg.toList,0<=z/\z<256
theorem iV Q r sp (hQ:∀ w,St w0 L w->Q.holds w) (hq:aX Q az r cz) (hs:St w0 (ah c #[.slice az r.length cz,.bool sp] 202::L) w):Cs Tryz.prog 145 #[zP c 0] w λrv w'=>∃ xq2 rr2 sp2 az2 cz2,rv=.agg (dM.cells xq2)/\Dy (r,sp)=(xq2,(rr2,sp2))/\sM xq2/\aX Q az2 rr2 cz2/\St w0 (ah c #[.slice az2 rr2.length cz2,.bool sp2] 202::L) w':=by
 refine bp Tryz.func145 Tryz.ntmps145 (En (Ls (Lg [0] (Dz (oX (dM.cells dk) hs λb1 w2 a0=>Lo (Ld (Lt (Ls (Lg [1,4,6,9] (Lw (Zc (cY Q r sp (λw h=>hQ w (h.drop 1)) hq (a0.pl 1)) ?_)))))))))))
 rintro g5 g7 ⟨a,a2,a3,g8,g9,rfl,a4,h0,a5,a6⟩
 refine Eb (cH 2 a Hz) (Zc (cY Q a2 a3 (λw h=>hQ w (h.drop 1)) a5 a6) ?_)
 rintro h1 h2 ⟨b,a7,a8,h3,h4,rfl,a9,h5,b0,b2⟩
 refine Lo (Lw (Zu 1 0 (dM.cells (⟨a,0,ER,aH⟩:dM)) b2 λh6 b3=>Lo (Lw (Zu 1 2 (dM.cells (⟨a,0,(⟨b,kF,kF,kF,kF,0⟩:pk),aH⟩:dM)) b3 λh7 b4=>Lo (Ld (Lt (Ls (Lg [1,3,5,8] (Lw (Zc (bu Q a7 a8 (λw h=>hQ w (h.drop 1)) b0 b4) ?_))))))))))
 rintro h8 h9 ⟨d,b5,b6,i0,i1,rfl,b7,i2,b8,b9⟩
 refine Lo (Lw (Zc (bu Q b5 b6 (λw h=>hQ w (h.drop 1)) b8 b9) ?_))
 rintro i3 i4 ⟨e,c0,c1,i5,i6,rfl,c2,i7,c3,c4⟩
 refine Lo (Lw (Zu 1 1 (dM.cells (⟨a,d,(⟨b,kF,kF,kF,kF,0⟩:pk),aH⟩:dM)) c4 λi8 c5=>Lo (Lw (Zu 1 7 (dM.cells (⟨a,d,(⟨b,kF,kF,kF,kF,e⟩:pk),aH⟩:dM)) c5 λi9 c6=>Lo (Ld (Lt (Ls (Lg [1,3,6,9] (Lw (Zc (gy Q c0 c1 32 (λw h=>hQ w (h.drop 1)) c3 c6) ?_))))))))))
 rintro j0 j1 ⟨f,c7,c8,j2,j3,rfl,c9,d0,d1⟩
 refine Lo (Lw (Zc (gy Q c7 c8 128 (λw h=>hQ w (h.drop 1)) d0 d1) ?_))
 rintro j4 j5 ⟨i,d2,d3,j6,j7,rfl,d4,d5,d6⟩
 refine Lo (Lw (Zu 1 3 (dM.cells (⟨a,d,(⟨b,f,kF,kF,kF,e⟩:pk),aH⟩:dM)) d6 λj8 d7=>Lo (Lw (Zu 1 4 (dM.cells (⟨a,d,(⟨b,f,i,kF,kF,e⟩:pk),aH⟩:dM)) d7 λj9 d8=>Lo (Ld (Lt (Ls (Lg [1,3,6,9] (Lw (Zc (gy Q d2 d3 128 (λw h=>hQ w (h.drop 1)) d5 d8) ?_))))))))))
 rintro k0 k1 ⟨o,d9,e0,k2,k3,rfl,e1,e2,e3⟩
 refine Lo (Lw (Zc (gy Q d9 e0 32 (λw h=>hQ w (h.drop 1)) e2 e3) ?_))
 rintro k4 k5 ⟨q,e4,e5,k6,k7,rfl,e6,e7,e8⟩
 refine Lo (Lw (Zu 1 5 (dM.cells (⟨a,d,(⟨b,f,i,o,kF,e⟩:pk),aH⟩:dM)) e8 λk8 e9=>Lo (Lw (Zu 1 6 (dM.cells (⟨a,d,(⟨b,f,i,o,q,e⟩:pk),aH⟩:dM)) e9 λk9 f0=>Lo (Ld (Lt (Ls (Lg [1,3] (Lw (Zc (jL Q e4 e5 (λw h=>hQ w (h.drop 1)) e7 f0) ?_))))))))))
 rintro l0 l1 ⟨u,f1,f2,f3,f4,rfl,f5,f6,f7,f8⟩
 refine Lo (Lw (Zu 1 8 (dM.cells (⟨a,d,(⟨b,f,i,o,q,e⟩:pk),u⟩:dM)) f8 λl2 x=>Lo (Ld (Lt (Ls (Dz (bL [1] (du 0 1 0 40 (dM.cells (⟨a,d,(⟨b,f,i,o,q,e⟩:pk),u⟩:dM)) x Hz) (Zu 1 0 (dM.cells (⟨a,d,(⟨b,f,i,o,q,e⟩:pk),u⟩:dM)) x λl3 z=>Lo (Ld (Lt (Le (Dz (Bu 1 z ?_)))))))))))))
 have f9:=(z.pl 0).pl 1
 exact⟨(⟨a,d,(⟨b,f,i,o,q,e⟩:pk),u⟩:dM),f1,f2,f3,f4,rfl,(by unfold Dy;simp only [a4,a9,b7,c2,c9,d4,e1,e6,f5]),⟨zE,zE,zE,zE,f6⟩,f7,f9.dr 1⟩
end
section
variable {w0 w : World} {L : List aI} {ad : Option Addr} {c : Nat}
def eV (r:dM):Bool :=
 (((((decide ((r.cl:Int) >= 1)) && (decide ((r.cl:Int)<=8))) && (decide ((r.tm:Int) >= 1))) && (decide ((r.tm:Int)<=4611686018427387904))) && (decide ((max ((r.op.ky.size:Nat):Int) ((r.op.tx.size:Nat):Int):Int)<=32))) && (decide ((max ((r.op.va.size:Nat):Int) ((r.op.ol.size:Nat):Int):Int)<=128))
theorem uQ r (hs:St w0 L w):Cs Tryz.prog 147 #[.agg (dM.cells r)] w λrv w'=>rv=.bool (eV r)/\St w0 L w':=by
 refine bp Tryz.func147 Tryz.ntmps147 (En (Ls (Lg [0] (Dz (kR (dM.cells r) hs λo w2 a=>Lz (Ls (Dz (aE.join (T:=Unit) (E:=λ_=>[(2,.bool ((((((decide ((r.cl:Int) >= 1)) && (decide ((r.cl:Int)<=8))) && (decide ((r.tm:Int) >= 1))) && (decide ((r.tm:Int)<=4611686018427387904))) && (decide ((max (r.op.ky.size:Int) (r.op.tx.size:Int):Int)<=32))) && (decide ((max (r.op.va.size:Int) (r.op.ol.size:Int):Int)<=128))))]) (F:=λ_ w=>St w0 (ah o (dM.cells r) 36::L) w) ?_ ?_))))))))
 ·refine Zg [] (gZ 0 4 (Hl 1 0 0 a Hz) (gC 6 (decide ((r.cl:Int) >= 1)) (λb=>?_) (λb=>?_)))
  ·refine gZ 4 5 (Hl 5 0 0 a Hz) (gC 11 (decide ((r.cl:Int)<=8)) (λd=>?_) (λd=>?_))
   ·refine gZ 9 5 (Hl 10 0 1 a Hz) (gC 16 (decide ((r.tm:Int) >= 1)) (λe=>?_) (λe=>?_))
    ·refine gZ 14 5 (Hl 15 0 1 a Hz) (gC 21 (decide ((r.tm:Int)<=4611686018427387904)) (λf=>?_) (λf=>?_))
     ·refine Zp 19 12 [(21,.gen [.string r.op.ky]),(25,.gen [.string r.op.tx]),(27,.cI (.int .i64 (max (r.op.ky.size:Int) (r.op.tx.size:Int))) (.gen []))] [(21,[.cell ⟨o,3,none⟩ (.string r.op.ky)]),(25,[.cell ⟨o,6,none⟩ (.string r.op.tx)]),(27,[.prop (Value.int .i64 (if (r.op.tx.size:Int)>(r.op.ky.size:Int) then (r.op.tx.size:Int) else (r.op.ky.size:Int))=Value.int .i64 (max (r.op.ky.size:Int) (r.op.tx.size:Int)))])] (ak (aG (a.cell 0 rfl zk) av) (ak (aG (a.cell 0 rfl zk) av) (ak (aB wQ av) cW))) (gC 33 (decide ((max (r.op.ky.size:Int) (r.op.tx.size:Int):Int)<=32)) (λi=>?_) (λi=>?_))
      ·exact gY (Hl 33 0 4 a (Hl 37 0 5 a (Hg 39 (.cI (.int .i64 (max (r.op.va.size:Int) (r.op.ol.size:Int))) (.gen [])) [.prop (Value.int .i64 (if (r.op.ol.size:Int)>(r.op.va.size:Int) then (r.op.ol.size:Int) else (r.op.va.size:Int))=Value.int .i64 (max (r.op.va.size:Int) (r.op.ol.size:Int)))] (aB wQ av) Hz))) (jF [2] () (decide ((max (r.op.va.size:Int) (r.op.ol.size:Int):Int)<=128)) (by first|rfl|simp [Hb,b,d,e,f,i]) a)
      ·exact En (aL (Dz (jF [2] () false (by first|rfl|simp [Hb,b,d,e,f,i]) a)))
     ·exact En (aL (Dz (jF [2] () false (by first|rfl|simp [Hb,b,d,e,f]) a)))
    ·exact En (aL (Dz (jF [2] () false (by first|rfl|simp [Hb,b,d,e]) a)))
   ·exact En (aL (Dz (jF [2] () false (by first|rfl|simp [Hb,b,d]) a)))
  ·exact En (aL (Dz (jF [2] () false (by first|rfl|simp [Hb,b]) a)))
 intro _ w9 a2
 exact Zt (Ze (bg (v:=.bool ((((((decide ((r.cl:Int) >= 1)) && (decide ((r.cl:Int)<=8))) && (decide ((r.tm:Int) >= 1))) && (decide ((r.tm:Int)<=4611686018427387904))) && (decide ((max (r.op.ky.size:Int) (r.op.tx.size:Int):Int)<=32))) && (decide ((max (r.op.va.size:Int) (r.op.ol.size:Int):Int)<=128)))) (uD (by rw [eV]) (a2.dr 1))))
def qb (r:dM):List Int:=[IntKind.u8.wrap r.cl,r.op.kd]++(wd r.tm++(wd r.op.am++(tx r.op.ky++(tx r.op.va++(tx r.op.ol++tx r.op.tx)))))
structure Ah (r:dM):Prop where
 ky:r.op.ky.size<=128
 va:r.op.va.size<=128
 ol:r.op.ol.size<=128
 tx:r.op.tx.size<=128
theorem kq {r:dM}(h:Ah r):(qb r).length<=538:=by
 have:=h.ky;have:=h.va;have:=h.ol;have:=h.tx
 simp only [qb,List.length_append,List.length_cons,List.length_nil,aP,jH]
 omega
theorem zn {p:Prop}(h:p:=by simp only [List.length_append,List.length_cons,List.length_nil,aP,aY,jH] at *;omega):p:=h
theorem rf l r (hl:l.length<=100000) (hk:sM r) (hz:Ah r) (hs:St w0 (Sl ad c 5 1 af l::L) w):Cs Tryz.prog 143 #[.slice ad l.length c,.agg (dM.cells r)] w λrv w'=>∃ ao co,rv=.slice ao ((l++qb r).length) co/\St w0 (Sl ao co 5 1 af (l++qb r)::L) w':=by
 refine bp Tryz.func143 Tryz.ntmps143 (Zs ?_)
 have a9:=hz.ky
 have b0:=hz.va
 have b2:=hz.ol
 have b3:=hz.tx
 have b5:=hk.tm
 have b6:=hk.am
 refine Zg [0] (kR (dM.cells r) hs λb1 w2 d=>Lz (Ls (Dz (bL [7,8] (Hl 2 0 0 d (Hl 6 0 2 d Hz)) (sb aJ aj [(IntKind.u8.wrap r.cl:Int),(r.op.kd:Int)] d λb4 w5 a2=>Lo (Dz (sd aJ aj (0:Int) (a2.pl 2) zn λb7 b8 w9 a4=>Lz (Ls (Dz (ZD (jX [0,1,2,4,5,6] (.ef 3 (.ef 7 (.rd 8 .done)))) a4 λb9 f c0=>Zj (Hl 2 2 1 f (Hl 6 2 7 f Hz)) (Zc (bX (l++([(IntKind.u8.wrap r.cl:Int),(r.op.kd:Int)])) r.tm ze za f) ?_)))))))))))
 rintro c1 c2 ⟨c3,c4,rfl,i⟩
 refine⟨bw (n:=[.cell ⟨b1,7,none⟩ (.int .u64 r.op.am)]) zk (aG (i.cell 2 rfl zk) av),Zc (bX (l++([(IntKind.u8.wrap r.cl:Int),(r.op.kd:Int)])++wd r.tm) r.op.am ze za i) ?_⟩
 rintro c5 c6 ⟨c7,c8,rfl,a⟩
 refine Lz (Ls (Ls (Dz (bL [12] (Hl 2 2 3 a (Hl 5 2 4 a (Hl 8 2 5 a (Hl 11 2 6 a Hz)))) (ar.aW rfl zk (t:=294) (e:=9) (n:=4) (ps:=[(0,.string r.op.ky),(1,.string r.op.va),(2,.string r.op.ol),(3,.string r.op.tx)]) zk zk (ti:=Tryz.t9) (z:=.string kF) zk zk zf zf (cs:=#[.string r.op.ky,.string r.op.va,.string r.op.ol,.string r.op.tx]) zk a λb c9 o d0=>Lz (Lb (Dz (aE.dJ 12 (En (Lq (Ls (LT (Lk (Lt (Ls (Lb (Ls (Dz (bj (Hx 0 (0:Int) (4:Int) b 0 1 (Hl 1 0 0 o Hz)) (En (Lt (Lg [2] (Lw (Zc (jI (l++([(IntKind.u8.wrap r.cl:Int),(r.op.kd:Int)])++wd r.tm++wd r.op.am) r.op.ky zn za (o.pl 1)) ?_))))))))))))))))))))))))
 rintro d1 d2 ⟨d3,d4,rfl,q⟩
 refine Lo (aL (Lm (Lt (La (Dz (aw.again (En (Lq (Ls (LT (Lk (Lt (Ls (Lb (Ls (Dz (bj (Hx 0 (1:Int) (4:Int) b 0 1 (Hl 1 1 1 q Hz)) (En (Lt (Lg [2] (Lw (Zc (jI ((l++([(IntKind.u8.wrap r.cl:Int),(r.op.kd:Int)])++wd r.tm++wd r.op.am)++tx r.op.ky) r.op.va zn za q) ?_))))))))))))))))))))))
 rintro d5 d6 ⟨d7,d8,rfl,u⟩
 refine Lo (aL (Lm (Lt (La (Dz (aw.again (En (Lq (Ls (LT (Lk (Lt (Ls (Lb (Ls (Dz (bj (Hx 0 (2:Int) (4:Int) b 0 1 (Hl 1 1 2 u Hz)) (En (Lt (Lg [2] (Lw (Zc (jI (((l++([(IntKind.u8.wrap r.cl:Int),(r.op.kd:Int)])++wd r.tm++wd r.op.am)++tx r.op.ky)++tx r.op.va) r.op.ol zn za u) ?_))))))))))))))))))))))
 rintro d9 e0 ⟨e1,e2,rfl,x⟩
 refine Lo (aL (Lm (Lt (La (Dz (aw.again (En (Lq (Ls (LT (Lk (Lt (Ls (Lb (Ls (Dz (bj (Hx 0 (3:Int) (4:Int) b 0 1 (Hl 1 1 3 x Hz)) (En (Lt (Lg [2] (Lw (Zc (jI ((((l++([(IntKind.u8.wrap r.cl:Int),(r.op.kd:Int)])++wd r.tm++wd r.op.am)++tx r.op.ky)++tx r.op.va)++tx r.op.ol) r.op.tx zn za x) ?_))))))))))))))))))))))
 rintro e3 e4 ⟨a0,a1,rfl,a6⟩
 refine Lo (aL (Lm (Lt (La (Dz (aw.again (En (Lq (Ls (LF (Lx (gv (gw (Lh (Lt (Lq (Le (Dz (bg (v:=.slice a0 ((((((l++([(IntKind.u8.wrap r.cl:Int),(r.op.kd:Int)])++wd r.tm++wd r.op.am)++tx r.op.ky)++tx r.op.va)++tx r.op.ol)++tx r.op.tx).length) a1) ?_)))))))))))))))))))
 have a7:=(((a6.pl 0).pl 3).pl 3).pl 3
 have h9:((((l++([(IntKind.u8.wrap r.cl:Int),(r.op.kd:Int)])++wd r.tm++wd r.op.am)++tx r.op.ky)++tx r.op.va)++tx r.op.ol)++tx r.op.tx=l++qb r:=by simp only [qb,List.append_assoc]
 exact⟨a0,a1,by rw [h9],by rw [<- h9];exact(a7.dr 3)⟩
def eZ (was:Int):List aT->Bool
 | []=>true
 | p::l=>if p.rp<=was\/p.rp>11\/p.nm<1\/p.nm>65536 then false else eZ p.rp l
def jk (l:List aT):Bool:=eZ 0 l && decide ((l.length:Int)>0)
theorem kV {l:List aT}{k:Nat}(h:k<l.length) (was:Int):eZ was (l.drop k)=if (l.getD k aR).rp<=was\/(l.getD k aR).rp>11\/(l.getD k aR).nm<1\/(l.getD k aR).nm>65536 then false else eZ (l.getD k aR).rp (l.drop (k+1)):=by
 rw [List.drop_eq_getElem_cons h,show l.getD k aR=l[k] by rw [List.getD_eq_getElem?_getD,List.getElem?_eq_getElem h];rfl]
 rfl
theorem sN l (hll:l.length<=9223372036854775807) (hr:Rw w0 L aT.cells 2 aR ad l) (hs:St w0 L w):Cs Tryz.prog 155 #[.slice ad l.length c] w λrv w'=>rv=.bool (jk l)/\St w0 L w':=by
 refine bp Tryz.func155 Tryz.ntmps155 (En (Lq (Lq (Ls (Lq (Lb (Dz (aE.loop (T:=Nat×Int×(Option Addr)) (λgg=>[(0,.slice ad l.length c),(3,.int .i64 gg.2.1),(6,.slice gg.2.2 l.length c),(7,.int .i64 (l.length:Nat)),(8,.int .i64 (gg.1:Nat))]) (λgg w=>(gg.1<=l.length/\eZ 0 l=eZ gg.2.1 (l.drop gg.1)/\∀ w,St w0 L w->ag w gg.2.2 l.length 2 (λq=>aT.cells (l.getD q aR)))/\St w0 L w) (λgg=>l.length-gg.1) (0,0,ad) [0,3,6,7,8] zk ⟨⟨Nat.zero_le _,rfl,hr⟩,hs⟩ ?_))))))))
 rintro⟨k,was,aq⟩ w1 ⟨hp,u⟩
 dsimp only at hp u
 have hw:=hp.2.2
 refine En (Lq (Ls (Dz (Zi ((k:Int)<(l.length:Nat)) (λa1=>?_) (λa1=>?_)))))
 ·have hk:k<l.length:=za
  obtain⟨d,e,rfl⟩:=ag.isSome (hw _ (u.drop 0)) za
  refine Zk (Zt (Zs (Zb (Zs (bL [2,3] (Hx 0 (k:Int) (l.length:Int) d e 2 (Hg 1 (.agg (aT.cells (l.getD k aR))) [.prop (Array.size (aT.cells (l.getD k aR))=2),.cells ⟨d,e+(k*2),none⟩ (aT.cells (l.getD k aR))] (aB zk (dq (ag.lO (hw _ (u.drop 0)) zd (Nat.le_of_ble_eq_true zk) zk) av)) Hz)) (oX (aT.cells aR) u λo w8 a2=>Lo (Dz (Zu 0 0 (aT.cells (l.getD k aR)) a2 λa9 f=>Lo (Ld (Lt (Ls (Ls (Dz (aE.join (T:=Unit) (E:=λ_=>[(30,.bool ((((decide (((l.getD k aR).rp:Int)<=was)) || (decide (((l.getD k aR).rp:Int)>11))) || (decide (((l.getD k aR).nm:Int)<1))) || (decide (((l.getD k aR).nm:Int)>65536)))),(5,zP o 0),(0,.slice ad l.length c),(3,.int .i64 was),(6,zL d e l.length c),(7,.int .i64 (l.length:Nat)),(8,.int .i64 (k:Nat))]) (F:=λ_ w=>St w0 (ah o (aT.cells (l.getD k aR)) 81::L) w) ?_ ?_))))))))))))))
  ·refine Zg [] (gZ 0 5 (Hl 1 0 0 f Hz) (gC 16 (decide (((l.getD k aR).rp:Int)<=was)) (λa=>?_) (λa=>?_)))
   ·exact En (aL (Dz (aw.pick [30,5,0,3,6,7,8] (S':=[(30,.bool true),(5,zP o 0),(0,.slice ad l.length c),(3,.int .i64 was),(6,zL d e l.length c),(7,.int .i64 (l.length:Nat)),(8,.int .i64 (k:Nat))]) zk (aw.bD () (by first|rfl|(simp only [a,Bool.not_true,Bool.not_false,Bool.true_or,Bool.false_or,Bool.true_and,Bool.false_and,Bool.or_true,Bool.or_false,Bool.and_true,Bool.and_false];done)|(simp [a];done)) f))))
   ·refine gZ 5 5 (Hl 6 0 0 f Hz) (gC 21 (decide (((l.getD k aR).rp:Int)>11)) (λb=>?_) (λb=>?_))
    ·exact En (aL (Dz (aw.pick [30,5,0,3,6,7,8] (S':=[(30,.bool true),(5,zP o 0),(0,.slice ad l.length c),(3,.int .i64 was),(6,zL d e l.length c),(7,.int .i64 (l.length:Nat)),(8,.int .i64 (k:Nat))]) zk (aw.bD () (by first|rfl|(simp only [a,b,Bool.not_true,Bool.not_false,Bool.true_or,Bool.false_or,Bool.true_and,Bool.false_and,Bool.or_true,Bool.or_false,Bool.and_true,Bool.and_false];done)|(simp [a,b];done)) f))))
    ·refine gZ 10 5 (Hl 11 0 1 f Hz) (gC 26 (decide (((l.getD k aR).nm:Int)<1)) (λi=>?_) (λi=>?_))
     ·exact En (aL (Dz (aw.pick [30,5,0,3,6,7,8] (S':=[(30,.bool true),(5,zP o 0),(0,.slice ad l.length c),(3,.int .i64 was),(6,zL d e l.length c),(7,.int .i64 (l.length:Nat)),(8,.int .i64 (k:Nat))]) zk (aw.bD () (by first|rfl|(simp only [a,b,i,Bool.not_true,Bool.not_false,Bool.true_or,Bool.false_or,Bool.true_and,Bool.false_and,Bool.or_true,Bool.or_false,Bool.and_true,Bool.and_false];done)|(simp [a,b,i];done)) f))))
     ·exact gY (Hl 16 0 1 f Hz) (aw.pick [30,5,0,3,6,7,8] (S':=[(30,.bool (decide (((l.getD k aR).nm:Int)>65536))),(5,zP o 0),(0,.slice ad l.length c),(3,.int .i64 was),(6,zL d e l.length c),(7,.int .i64 (l.length:Nat)),(8,.int .i64 (k:Nat))]) zk (aw.bD () (by first|rfl|(simp only [a,b,i,Bool.not_true,Bool.not_false,Bool.true_or,Bool.false_or,Bool.true_and,Bool.false_and,Bool.or_true,Bool.or_false,Bool.and_true,Bool.and_false];done)|(simp [a,b,i];done)) f))
  intro _ b0 z
  refine Zt (cS (t:=(((decide (((l.getD k aR).rp:Int)<=was)) || (decide (((l.getD k aR).rp:Int)>11))) || (decide (((l.getD k aR).nm:Int)<1))) || (decide (((l.getD k aR).nm:Int)>65536))) (λx=>?_) (λx=>?_))
  ·exact En (Lq (Le (Ly (Ll (Ly (uk (Ll (Ly (Dz (bg (v:=.bool false) ⟨(by unfold jk;rw [hp.2.1,kV hk,if_pos (by simp only [Bool.or_eq_true,decide_eq_true_eq] at x;omega)];rfl),z.dr 1⟩))))))))))
  ·have a0:=(Bool.or_eq_false_iff.1 x).1
   have h17aa:=(Bool.or_eq_false_iff.1 a0).1
   have h17aaa:=(Bool.or_eq_false_iff.1 h17aa).1
   have h17aaa':=of_decide_eq_false h17aaa
   have h17aab:=(Bool.or_eq_false_iff.1 h17aa).2
   have h17aab':=of_decide_eq_false h17aab
   have h17ab:=(Bool.or_eq_false_iff.1 a0).2
   have h17ab':=of_decide_eq_false h17ab
   have a7:=(Bool.or_eq_false_iff.1 x).2
   have b1:=of_decide_eq_false a7
   exact Zk (Zt (bj (Hl 1 0 0 z Hz) (Zm (Zt (bj (cH 0 ((k:Nat)+1) Hz) (aw.back (k+1,(l.getD k aR).rp,some ⟨d,e,none⟩) [0,3,6,7,8] zk (by show l.length-(k+1)<l.length-k;omega) ⟨⟨za,by rw [hp.2.1,kV hk,if_neg za],hw⟩,z.dr 1⟩))))))
 ·have hke:l.drop k=[]:=List.drop_of_length_le za
  exact En (Lx (gv (gw (Lh (Lt (Lq (Le (Dz (bg (v:=.bool (decide ((l.length:Int)>0))) ⟨(by unfold jk;rw [hp.2.1,hke];rfl),u⟩)))))))))
def kB (x:aK):Bool :=
 (decide ((x.k:Int) >= 1)) && (decide ((x.k:Int)<=4611686018427387904))
theorem Ai x (hs:St w0 L w):Cs Tryz.prog 150 #[.agg (aK.cells x)] w λrv w'=>rv=.bool (kB x)/\St w0 L w':=by
 refine bp Tryz.func150 Tryz.ntmps150 (En (Ls (Lg [0] (Dz (kR (aK.cells x) hs λe o b=>Lz (Ls (Dz (aE.join (T:=Unit) (E:=λ_=>[(2,.bool ((decide ((x.k:Int) >= 1)) && (decide ((x.k:Int)<=4611686018427387904))))]) (F:=λ_ w=>St w0 (ah e (aK.cells x) 39::L) w) ?_ ?_))))))))
 ·refine Zg [] (gZ 0 4 (Hl 1 0 2 b Hz) (gC 6 (decide ((x.k:Int) >= 1)) (λa=>?_) (λa=>?_)))
  ·exact gY (Hl 5 0 2 b Hz) (jF [2] () (decide ((x.k:Int)<=4611686018427387904)) (by first|rfl|simp [Hb,a]) b)
  ·exact En (aL (Dz (jF [2] () false (by first|rfl|simp [Hb,a]) b)))
 intro _ q i
 exact Zt (Ze (bg (v:=.bool ((decide ((x.k:Int) >= 1)) && (decide ((x.k:Int)<=4611686018427387904)))) (uD (by rw [kB]) (i.dr 1))))
end
section
variable {w0 w : World} {L : List aI} {ad : Option Addr} {c : Nat}
def nX (r:dM):Bool :=
 (((((((decide ((r.cl:Int) >= 1)) && (decide ((r.cl:Int)<=8))) && (decide ((r.tm:Int) >= 1))) && (decide ((r.tm:Int)<=4611686018427387904))) && (decide ((r.op.ky.size:Int)<=32))) && (decide ((r.op.tx.size:Int)<=32))) && (decide ((r.op.va.size:Int)<=128))) && (decide ((r.op.ol.size:Int)<=128))
theorem sO r (hs:St w0 L w):Cs Tryz.prog 118 #[.agg (dM.cells r)] w λrv w'=>rv=.bool (nX r)/\St w0 L w':=by
 refine bp Tryz.func118 Tryz.ntmps118 (En (Ls (Lg [0] (Dz (kR (dM.cells r) hs λx w2 a=>Lz (Ls (Dz (aE.join (T:=Unit) (E:=λ_=>[(2,.bool ((((((((decide ((r.cl:Int) >= 1)) && (decide ((r.cl:Int)<=8))) && (decide ((r.tm:Int) >= 1))) && (decide ((r.tm:Int)<=4611686018427387904))) && (decide ((r.op.ky.size:Int)<=32))) && (decide ((r.op.tx.size:Int)<=32))) && (decide ((r.op.va.size:Int)<=128))) && (decide ((r.op.ol.size:Int)<=128))))]) (F:=λ_ w=>St w0 (ah x (dM.cells r) 36::L) w) ?_ ?_))))))))
 ·refine Zg [] (gZ 0 4 (Hl 1 0 0 a Hz) (gC 6 (decide ((r.cl:Int) >= 1)) (λb=>?_) (λb=>?_)))
  ·refine gZ 4 5 (Hl 5 0 0 a Hz) (gC 11 (decide ((r.cl:Int)<=8)) (λd=>?_) (λd=>?_))
   ·refine gZ 9 5 (Hl 10 0 1 a Hz) (gC 16 (decide ((r.tm:Int) >= 1)) (λe=>?_) (λe=>?_))
    ·refine gZ 14 5 (Hl 15 0 1 a Hz) (gC 21 (decide ((r.tm:Int)<=4611686018427387904)) (λf=>?_) (λf=>?_))
     ·refine gZ 19 7 (Hl 21 0 3 a Hz) (gC 28 (decide ((r.op.ky.size:Int)<=32)) (λi=>?_) (λi=>?_))
      ·refine gZ 26 7 (Hl 28 0 6 a Hz) (gC 35 (decide ((r.op.tx.size:Int)<=32)) (λo=>?_) (λo=>?_))
       ·refine gZ 33 7 (Hl 35 0 4 a Hz) (gC 42 (decide ((r.op.va.size:Int)<=128)) (λq=>?_) (λq=>?_))
        ·exact gY (Hl 42 0 5 a Hz) (jF [2] () (decide ((r.op.ol.size:Int)<=128)) (by first|rfl|simp [Hb,b,d,e,f,i,o,q]) a)
        ·exact En (aL (Dz (jF [2] () false (by first|rfl|simp [Hb,b,d,e,f,i,o,q]) a)))
       ·exact En (aL (Dz (jF [2] () false (by first|rfl|simp [Hb,b,d,e,f,i,o]) a)))
      ·exact En (aL (Dz (jF [2] () false (by first|rfl|simp [Hb,b,d,e,f,i]) a)))
     ·exact En (aL (Dz (jF [2] () false (by first|rfl|simp [Hb,b,d,e,f]) a)))
    ·exact En (aL (Dz (jF [2] () false (by first|rfl|simp [Hb,b,d,e]) a)))
   ·exact En (aL (Dz (jF [2] () false (by first|rfl|simp [Hb,b,d]) a)))
  ·exact En (aL (Dz (jF [2] () false (by first|rfl|simp [Hb,b]) a)))
 intro _ a7 a6
 exact Zt (Ze (bg (v:=.bool ((((((((decide ((r.cl:Int) >= 1)) && (decide ((r.cl:Int)<=8))) && (decide ((r.tm:Int) >= 1))) && (decide ((r.tm:Int)<=4611686018427387904))) && (decide ((r.op.ky.size:Int)<=32))) && (decide ((r.op.tx.size:Int)<=32))) && (decide ((r.op.va.size:Int)<=128))) && (decide ((r.op.ol.size:Int)<=128)))) (uD (by rw [nX]) (a6.dr 1))))
theorem xW (r:dM):nX r=eV r:=by
 unfold nX eV
 rw [Bool.eq_iff_iff]
 simp only [Bool.and_eq_true,decide_eq_true_eq]
 omega
theorem pn l r (hl:l.length<=100000) (hk:sM r) (hz:Ah r) (hs:St w0 (Sl ad c 5 1 af l::L) w):Cs Tryz.prog 79 #[.slice ad l.length c,.agg (dM.cells r)] w λrv w'=>∃ ao co,rv=.slice ao ((l++qb r).length) co/\St w0 (Sl ao co 5 1 af (l++qb r)::L) w':=by
 refine bp Tryz.func79 Tryz.ntmps79 (Zs ?_)
 have a6:=hz.ky
 have a7:=hz.va
 have a8:=hz.ol
 have a9:=hz.tx
 have b0:=hk.tm
 have b2:=hk.am
 refine Zg [0] (kR (dM.cells r) hs λz w2 a=>Lz (Ls (Dz (bL [7,8] (Hl 2 0 0 a (Hl 6 0 2 a Hz)) (sb aJ aj [(IntKind.u8.wrap r.cl:Int),(r.op.kd:Int)] a λb4 w5 a0=>Lo (Dz (sd aJ aj (0:Int) (a0.pl 2) zw λb3 b5 w9 a2=>Lz (Ls (Dz (ZD (jX [0,1,2,4,5,6] (.ef 3 (.ef 7 (.rd 8 .done)))) a2 λb6 b b7=>Zj (Hl 2 2 1 b (Hl 6 2 7 b Hz)) (Zc (eH (l++([(IntKind.u8.wrap r.cl:Int),(r.op.kd:Int)])) r.tm zn hk.tm b) ?_)))))))))))
 rintro b8 b9 ⟨c0,c1,rfl,d⟩
 refine⟨bw (n:=[.cell ⟨z,7,none⟩ (.int .u64 r.op.am)]) zk (aG (d.cell 2 rfl zk) av),Zc (eH ((l++([(IntKind.u8.wrap r.cl:Int),(r.op.kd:Int)]))++wd r.tm) r.op.am zn hk.am d) ?_⟩
 rintro c2 c3 ⟨c4,c5,rfl,e⟩
 refine Lz (Ls (Dz (bL [4] (Hl 3 2 3 e Hz) (Zc (iK (((l++([(IntKind.u8.wrap r.cl:Int),(r.op.kd:Int)]))++wd r.tm)++wd r.op.am) r.op.ky zn za e) ?_))))
 rintro c6 c7 ⟨c8,c9,rfl,f⟩
 refine Lz (Ls (Dz (bL [4] (Hl 3 2 4 f Hz) (Zc (iK ((((l++([(IntKind.u8.wrap r.cl:Int),(r.op.kd:Int)]))++wd r.tm)++wd r.op.am)++tx r.op.ky) r.op.va zn za f) ?_))))
 rintro d0 d1 ⟨d2,d3,rfl,i⟩
 refine Lz (Ls (Dz (bL [4] (Hl 3 2 5 i Hz) (Zc (iK (((((l++([(IntKind.u8.wrap r.cl:Int),(r.op.kd:Int)]))++wd r.tm)++wd r.op.am)++tx r.op.ky)++tx r.op.va) r.op.ol zn za i) ?_))))
 rintro d4 d5 ⟨d6,d7,rfl,o⟩
 refine Lz (Ls (Dz (bL [4] (Hl 3 2 6 o Hz) (Zc (iK ((((((l++([(IntKind.u8.wrap r.cl:Int),(r.op.kd:Int)]))++wd r.tm)++wd r.op.am)++tx r.op.ky)++tx r.op.va)++tx r.op.ol) r.op.tx zn za o) ?_))))
 rintro d8 d9 ⟨q,u,rfl,a3⟩
 refine Lz (Lq (Le (Dz (bg (v:=.slice q ((((((((l++([(IntKind.u8.wrap r.cl:Int),(r.op.kd:Int)]))++wd r.tm)++wd r.op.am)++tx r.op.ky)++tx r.op.va)++tx r.op.ol)++tx r.op.tx).length) u) ?_))))
 have a4:=((a3.pl 0).pl 2).pl 2
 have x:((((((l++([(IntKind.u8.wrap r.cl:Int),(r.op.kd:Int)]))++wd r.tm)++wd r.op.am)++tx r.op.ky)++tx r.op.va)++tx r.op.ol)++tx r.op.tx=l++qb r:=by simp only [qb,List.append_assoc]
 exact⟨q,u,by rw [x],by rw [<- x];exact(a4.dr 2)⟩
end
section
variable {w0 w : World} {L : List aI} {ad : Option Addr} {c : Nat}
structure eI (x:aK):Prop where
 kd:0<=x.kd/\x.kd<=255
 vw:0<=x.vw/\x.vw<=18446744073709551615
 k:0<=x.k/\x.k<=18446744073709551615
 rq:sM x.rq
 ql:∀ p∈x.ql,(-9223372036854775808<=p.rp/\p.rp<=9223372036854775807)/\(0<=p.nm/\p.nm<=18446744073709551615)
 dg:∀ z∈x.dg.toList,0<=z/\z<256
 qn:x.ql.length<=9223372036854775807
def eo (x:aK):Bool :=
 if x.kd=1 then eV x.rq else if x.kd=2\/x.kd=6 then kB x else if x.kd=4 then decide (x.vw >= 1) && jk x.ql else decide (x.vw >= 1)
def iA (p:aT):List Int:=[IntKind.u8.wrap p.rp]++wd p.nm
theorem uR (p:aT):(iA p).length=9:=by rw [iA,List.length_append,aP];rfl
theorem fw:∀ l:List aT,(l.flatMap iA).length=9*l.length
 | []=>rfl
 | p::l=>by rw [List.flatMap_cons,List.length_append,uR,fw l,List.length_cons];omega
def y6 (x:aK):List Int:=wd x.vw++(qb x.rq++x.rq.tg.toList)
def qd (x:aK):List Int:=wd x.vw++wd x.k
def xX (x:aK):List Int:=wd x.vw++([IntKind.u8.wrap (x.ql.length:Nat)]++x.ql.flatMap iA)
def y7 (x:aK):List Int:=wd x.k++x.dg.toList
def iL (x:aK):List Int:=if x.kd=1 then y6 x else if x.kd=2 then qd x else if x.kd=4 then xX x else if x.kd=6 then y7 x else wd x.vw
theorem lS {r:dM}(h:eV r=true):Ah r:=by
 unfold eV at h
 repeat' split at h
 all_goals first|(cases h;done)|skip
 all_goals simp only [decide_eq_true_eq,Bool.and_eq_true] at *
 all_goals exact⟨za,za,za,za⟩
theorem xY x (hs:St w0 L w):Cs Tryz.prog 146 #[.agg (aK.cells x)] w λrv w'=>rv=.bool (eV x.rq)/\St w0 L w':=by
 exact bp Tryz.func146 Tryz.ntmps146 (En (Ls (Lg [0] (Dz (kR (aK.cells x) hs λe f a=>Lz (Ls (Dz (bL [2] (du 1 0 3 40 (dM.cells x.rq) a Hz) (sv (uQ x.rq a) λo b=>Lz (Le (Dz (bg (v:=.bool (eV x.rq)) ⟨rfl,b.dr 1⟩))))))))))))
theorem qe x (hs:St w0 L w):Cs Tryz.prog 185 #[.agg (aK.cells x)] w λrv w'=>rv=.bool (decide ((x.vw:Int) >= 1))/\St w0 L w':=by
 exact bp Tryz.func185 Tryz.ntmps185 (En (Ls (Lg [0] (Dz (kR (aK.cells x) hs λd e a=>Lz (Ls (Dz (bj (Hl 1 0 1 a Hz) (Zt (Ze (bg (v:=.bool (decide ((x.vw:Int) >= 1))) ⟨rfl,a.dr 1⟩)))))))))))
theorem xZ x (hqn:x.ql.length<=9223372036854775807) (hr:Rw w0 L aT.cells 2 aR x.qa x.ql) (hs:St w0 L w):Cs Tryz.prog 154 #[.agg (aK.cells x)] w λrv w'=>rv=.bool (decide ((x.vw:Int) >= 1) && jk x.ql)/\St w0 L w':=by
 refine bp Tryz.func154 Tryz.ntmps154 (En (Ls (Lg [0] (Dz (kR (aK.cells x) hs λq u b=>Lz (Ls (Lg [6] (Dz (gZ 0 4 (Hl 1 0 1 b Hz) (gC 6 (decide ((x.vw:Int) >= 1)) (λa=>?_) (λa=>?_)))))))))))
 ·refine Zj (Hl 5 0 43 b Hz) (aF (f:=155) (args:=#[.slice x.qa x.ql.length x.qc]) Tryz.call155 (sN x.ql zc (λw h=>hr _ (h.drop 1)) b) ?_)
  rintro z w7 ⟨rfl,e⟩
  exact Lz (Le (Dz (bg (v:=.bool (jk x.ql)) ⟨(by rw [a];rfl),e.dr 1⟩)))
 ·exact En (Lw (qV (En (aL (Lt (Le (Dz (bg (v:=.bool false) ⟨(by rw [a];rfl),b.dr 1⟩))))))))
theorem zr {p:Prop}(h:p:=by simp only [List.length_append,List.length_cons,List.length_nil,aP,aY,aO.len,fw] at *;omega):p:=h
theorem x5 l x (hl:l.length<=90000) (hx:eI x) (hz:Ah x.rq) (hs:St w0 (Sl ad c 5 1 af l::L) w):Cs Tryz.prog 142 #[.slice ad l.length c,.agg (aK.cells x)] w λrv w'=>∃ ao co,rv=.slice ao ((l++y6 x).length) co/\St w0 (Sl ao co 5 1 af (l++y6 x)::L) w':=by
 refine bp Tryz.func142 Tryz.ntmps142 (Zs ?_)
 have a4:=hx.vw
 have hrl:=kq hz
 refine Zg [0] (kR (aK.cells x) hs λa w2 q=>Lz (Ls (Dz (ZD (jX [0,1,2,4,5,7,8,9] (.ef 3 (.ef 6 (.ef 10 (.rd 11 .done))))) q λw4 b a5=>Zj (Hl 2 0 1 b (du 5 0 3 40 (dM.cells x.rq) b (Hg 9 (.cI (zL a 11 x.rq.tg.toList.length 32) (.sub 0 32)) [.prop (((none:Option Operand)=none->(0:Nat)=0)/\((none:Option Operand)=none->(32:Nat)=32)/\(0:Nat)<=32/\(32:Nat)<=32),.prop (Value.slice (some (if 32=0 then Addr.mk a 11 none else (Addr.mk a 11 none).add (0*1))) (32-0) (32-0)=Value.slice (some ⟨a,11,none⟩) x.rq.tg.toList.length 32)] (aB ⟨(by first|(intro _;rfl)|(intro hc;cases hc)),(by first|(intro _;rfl)|(intro hc;cases hc)),za,za⟩ (aB (by rw [aO.len];exact cw _ _ _ _ _ zf) av)) Hz))) (Zc (bX l x.vw ze za (b.pl 1)) ?_)))))
 rintro a6 a7 ⟨a8,a9,rfl,d⟩
 refine⟨bw (n:=[.prop (((none:Option Operand)=none->(0:Nat)=0)/\((none:Option Operand)=none->(32:Nat)=32)/\(0:Nat)<=32/\(32:Nat)<=32),.prop (Value.slice (some (if 32=0 then Addr.mk a 11 none else (Addr.mk a 11 none).add (0*1))) (32-0) (32-0)=Value.slice (some ⟨a,11,none⟩) x.rq.tg.toList.length 32),.prop (Array.size (dM.cells x.rq)=40),.cells ⟨a,3,none⟩ (dM.cells x.rq)]) zk (aB ⟨(by first|(intro _;rfl)|(intro hc;cases hc)),(by first|(intro _;rfl)|(intro hc;cases hc)),za,za⟩ (aB (by rw [aO.len];exact cw _ _ _ _ _ zf) (aB zk (dq (d.cells 1 3 rfl zk) av)))),Zc (rf (l++wd x.vw) x.rq zr hx.rq hz d) ?_⟩
 rintro b0 b2 ⟨z,a0,rfl,e⟩
 refine⟨bw (n:=[.prop (((none:Option Operand)=none->(0:Nat)=0)/\((none:Option Operand)=none->(32:Nat)=32)/\(0:Nat)<=32/\(32:Nat)<=32),.prop (Value.slice (some (if 32=0 then Addr.mk a 11 none else (Addr.mk a 11 none).add (0*1))) (32-0) (32-0)=Value.slice (some ⟨a,11,none⟩) x.rq.tg.toList.length 32)]) zk (aB ⟨(by first|(intro _;rfl)|(intro hc;cases hc)),(by first|(intro _;rfl)|(intro hc;cases hc)),za,za⟩ (aB (by rw [aO.len];exact cw _ _ _ _ _ zf) av)),(ar.append rfl zk aJ aj (ad:=z) (c:=a0) (xs:=(l++wd x.vw)++qb x.rq) (ys:=x.rq.tg.toList) (adx:=some ⟨a,11,none⟩) (cx:=32) (0:Int) zk e (aO.jU e 1 11 x.rq.tg rfl zk) (λh=>nomatch h) zr zr λf i b3 a1=>Lz (Le (Dz (bg (v:=.slice f ((((l++wd x.vw)++qb x.rq)++x.rq.tg.toList).length) i) ?_))))⟩
 have a2:=(a1.pl 0).pl 1
 have o:((l++wd x.vw)++qb x.rq)++x.rq.tg.toList=l++y6 x:=by simp only [y6,qd,xX,y7,List.append_assoc]
 exact⟨f,i,by rw [o],by rw [<- o];exact(a2.dr 1)⟩
theorem x6 l x (hl:l.length<=90000) (hx:eI x) (hs:St w0 (Sl ad c 5 1 af l::L) w):Cs Tryz.prog 148 #[.slice ad l.length c,.agg (aK.cells x)] w λrv w'=>∃ ao co,rv=.slice ao ((l++qd x).length) co/\St w0 (Sl ao co 5 1 af (l++qd x)::L) w':=by
 refine bp Tryz.func148 Tryz.ntmps148 (Zs ?_)
 have a1:=hx.vw
 have a2:=hx.k
 refine Zg [0] (kR (aK.cells x) hs λi w2 o=>Lz (Ls (Dz (ZD (jX [0,1,2,4,5] (.ef 3 (.ef 6 (.rd 7 .done)))) o λw4 a a3=>Zj (Hl 2 0 1 a (Hl 5 0 2 a Hz)) (Zc (bX l x.vw ze za (a.pl 1)) ?_)))))
 rintro a4 a5 ⟨a6,a7,rfl,b⟩
 refine⟨bw (n:=[.cell ⟨i,2,none⟩ (.int .u64 x.k)]) zk (aG (b.cell 1 rfl zk) av),Zc (bX (l++wd x.vw) x.k ze za b) ?_⟩
 rintro a8 a9 ⟨d,e,rfl,u⟩
 refine Lz (Le (Dz (bg (v:=.slice d ((l++wd x.vw++wd x.k).length) e) ?_)))
 have z:=(u.pl 0).pl 1
 have f:l++wd x.vw++wd x.k=l++qd x:=by simp only [y6,qd,xX,y7,List.append_assoc]
 exact⟨d,e,by rw [f],by rw [<- f];exact(z.dr 1)⟩
theorem qf l x (hl:l.length<=90000) (hx:eI x) (hs:St w0 (Sl ad c 5 1 af l::L) w):Cs Tryz.prog 183 #[.slice ad l.length c,.agg (aK.cells x)] w λrv w'=>∃ ao co,rv=.slice ao ((l++wd x.vw).length) co/\St w0 (Sl ao co 5 1 af (l++wd x.vw)::L) w':=by
 refine bp Tryz.func183 Tryz.ntmps183 (Zs ?_)
 have u:=hx.vw
 have z:=hx.k
 refine Zg [0] (kR (aK.cells x) hs λb1 w2 a=>Lz (Ls (Dz (bL [3] (Hl 2 0 1 a Hz) (Zc (bX l x.vw ze za (a.pl 1)) ?_)))))
 rintro v8 w9 ⟨b,d,rfl,i⟩
 refine Lz (Le (Dz (bg (v:=.slice b ((l++wd x.vw).length) d) ?_)))
 have o:=(i.pl 0).pl 1
 have e:l++wd x.vw=l++wd x.vw:=by simp only [y6,qd,xX,y7,List.append_assoc]
 exact⟨b,d,by rw [e],by rw [<- e];exact(o.dr 1)⟩
theorem x7 l x (hl:l.length<=90000) (hx:eI x) (hs:St w0 (Sl ad c 5 1 af l::L) w):Cs Tryz.prog 156 #[.slice ad l.length c,.agg (aK.cells x)] w λrv w'=>∃ ao co,rv=.slice ao ((l++y7 x).length) co/\St w0 (Sl ao co 5 1 af (l++y7 x)::L) w':=by
 refine bp Tryz.func156 Tryz.ntmps156 (Zs ?_)
 have a3:=hx.vw
 have a4:=hx.k
 refine Zg [0] (kR (aK.cells x) hs λa w2 o=>Lz (Ls (Dz (ZD (jX [0,1,2,4,5] (.ef 3 (.ef 6 (.rd 7 .done)))) o λw4 b a5=>Zj (Hl 2 0 2 b (Hg 5 (.cI (zL a 44 x.dg.toList.length 32) (.sub 0 32)) [.prop (((none:Option Operand)=none->(0:Nat)=0)/\((none:Option Operand)=none->(32:Nat)=32)/\(0:Nat)<=32/\(32:Nat)<=32),.prop (Value.slice (some (if 32=0 then Addr.mk a 44 none else (Addr.mk a 44 none).add (0*1))) (32-0) (32-0)=Value.slice (some ⟨a,44,none⟩) x.dg.toList.length 32)] (aB ⟨(by first|(intro _;rfl)|(intro hc;cases hc)),(by first|(intro _;rfl)|(intro hc;cases hc)),za,za⟩ (aB (by rw [aO.len];exact cw _ _ _ _ _ zf) av)) Hz)) (Zc (bX l x.k ze za (b.pl 1)) ?_)))))
 rintro a6 a7 ⟨u,z,rfl,d⟩
 refine⟨bw (n:=[.prop (((none:Option Operand)=none->(0:Nat)=0)/\((none:Option Operand)=none->(32:Nat)=32)/\(0:Nat)<=32/\(32:Nat)<=32),.prop (Value.slice (some (if 32=0 then Addr.mk a 44 none else (Addr.mk a 44 none).add (0*1))) (32-0) (32-0)=Value.slice (some ⟨a,44,none⟩) x.dg.toList.length 32)]) zk (aB ⟨(by first|(intro _;rfl)|(intro hc;cases hc)),(by first|(intro _;rfl)|(intro hc;cases hc)),za,za⟩ (aB (by rw [aO.len];exact cw _ _ _ _ _ zf) av)),(ar.append rfl zk aJ aj (ad:=u) (c:=z) (xs:=l++wd x.k) (ys:=x.dg.toList) (adx:=some ⟨a,44,none⟩) (cx:=32) (0:Int) zk d (aO.jU d 1 44 x.dg rfl zk) (λh=>nomatch h) zr zr λe f a8 a0=>Lz (Le (Dz (bg (v:=.slice e (((l++wd x.k)++x.dg.toList).length) f) ?_))))⟩
 have a1:=(a0.pl 0).pl 1
 have i:(l++wd x.k)++x.dg.toList=l++y7 x:=by simp only [y6,qd,xX,y7,List.append_assoc]
 exact⟨e,f,by rw [i],by rw [<- i];exact(a1.dr 1)⟩
theorem x8 l x (hl:l.length<=90000) (hx:eI x) (hlq:x.ql.length<=1000) (hr:Rw w0 L aT.cells 2 aR x.qa x.ql) (hs:St w0 (Sl ad c 5 1 af l::L) w):Cs Tryz.prog 152 #[.slice ad l.length c,.agg (aK.cells x)] w λrv w'=>∃ ao co,rv=.slice ao ((l++xX x).length) co/\St w0 (Sl ao co 5 1 af (l++xX x)::L) w':=by
 refine bp Tryz.func152 Tryz.ntmps152 (Zs ?_)
 have d9:=hx.vw
 have e0:=hx.k
 refine Zg [0] (kR (aK.cells x) hs λa w2 b2=>Lz (Ls (Dz (aE.join (T:=Option Addr×Nat×Nat) (E:=λjx=>[(0,.slice jx.1 (((l++wd x.vw)++([(IntKind.u8.wrap (x.ql.length:Nat):Int)])).length) jx.2.1),(3,zP a 0),(4,.slice none 0 0)]) (F:=λjx w=>St w0 (Sl jx.1 jx.2.1 5 1 af ((l++wd x.vw)++([(IntKind.u8.wrap (x.ql.length:Nat):Int)]))::Sl (some ⟨jx.2.2,0,none⟩) 1 5 1 af ([(IntKind.u8.wrap (x.ql.length:Nat):Int)])::ah a (aK.cells x) 39::L) w) ?_ ?_))))
 ·refine aE.aV [0,0,2,7,0,16,48,112,240,511,1023] (.rd 0 (.rd 1 (.rd 2 (.rd 4 (.rd 5 (.rd 6 (.rd 7 (.alt (.ef 3 (.ef 8 (.ef 9 (.rd 10 .done)))) (.ef 8 (.ef 3 (.ef 9 (.rd 10 .done)))))))))))) zk zk ai zk b2 λw4 u e1=>Zh [(0,.gen []),(1,.gen []),(2,.gen [.int .u64 x.vw]),(4,.gen []),(5,.gen [.slice x.qa x.ql.length x.qc]),(6,.gen []),(7,.gen [])] [(2,[.cell ⟨a,1,none⟩ (.int .u64 x.vw)]),(5,[.cell ⟨a,43,none⟩ (.slice x.qa x.ql.length x.qc)])] (ak (aG (u.cell 0 rfl zk) av) (ak (aG (u.cell 0 rfl zk) av) cW)) (ar.alt ?_ ?_)
  ·refine Zc (bX l x.vw ze za (u.pl 1)) ?_
   rintro e2 e3 ⟨e4,e5,rfl,a2⟩
   exact⟨bw (n:=[.cell ⟨a,43,none⟩ (.slice x.qa x.ql.length x.qc)]) zk (aG (a2.cell 1 rfl zk) av),(sb aJ aj [(IntKind.u8.wrap (x.ql.length:Nat):Int)] a2 λb4 e6 a3=>⟨bw (n:=[.cell ⟨a,1,none⟩ (.int .u64 x.vw)]) zk (aG (a3.cell 2 rfl zk) av),(sd aJ aj (0:Int) (a3.pl 1) zr λb6 b7 e7 b8=>Lo (Dz (Zr 10 1 [] (Zd (uA [0,3,4] (b6,b7,b4) b8)))))⟩)⟩
  refine sb aJ aj [(IntKind.u8.wrap (x.ql.length:Nat):Int)] u λb9 e8 a4=>⟨bw (n:=[.cell ⟨a,1,none⟩ (.int .u64 x.vw)]) zk (aG (a4.cell 1 rfl zk) av),Zc (bX l x.vw ze za (a4.pl 2)) ?_⟩
  rintro e9 f0 ⟨f1,f2,rfl,a5⟩
  exact⟨bw (n:=[.cell ⟨a,43,none⟩ (.slice x.qa x.ql.length x.qc)]) zk (aG (a5.cell 2 rfl zk) av),(sd aJ aj (0:Int) a5 zr λc2 c3 f3 c4=>Lo (Dz (Zr 10 1 [] (Zd (uA [0,3,4] (c2,c3,b9) c4)))))⟩
 rintro⟨b,e,c5⟩ c6 c7
 have a6:St w0 (Sl b e 5 1 af ((l++wd x.vw)++([(IntKind.u8.wrap (x.ql.length:Nat):Int)]))::Sl (some ⟨c5,0,none⟩) 1 5 1 af ([(IntKind.u8.wrap (x.ql.length:Nat):Int)])::ah a (aK.cells x) 39::L) c6:=c7
 refine aw.cq (S':=[(0,.slice b (((l++wd x.vw)++([(IntKind.u8.wrap (x.ql.length:Nat):Int)])).length) e),(3,zP a 0),(4,.slice none 0 0)]) rfl (Zt (Zs (Zs (bj (Hl 1 2 43 a6 Hz) (Zt (Zb ?_))))))
 have c8:=((a6.pl 0).pl 2).pl 2
 refine Zn [(20,.int .i64 0),(19,.int .i64 (x.ql.length:Nat)),(18,.slice x.qa x.ql.length x.qc),(0,.slice b (((l++wd x.vw)++([(IntKind.u8.wrap (x.ql.length:Nat):Int)])).length) e),(4,.slice none 0 0)] (aE.cq (S':=[(20,.int .i64 0),(19,.int .i64 (x.ql.length:Nat)),(18,.slice x.qa x.ql.length x.qc),(0,.slice b (((l++(wd x.vw++[IntKind.u8.wrap (x.ql.length:Nat)]))++(x.ql.take 0).flatMap iA).length) e),(4,.slice none 0 0)]) (by rw [(show(l++wd x.vw)++([(IntKind.u8.wrap (x.ql.length:Nat):Int)])=(l++(wd x.vw++[IntKind.u8.wrap (x.ql.length:Nat)]))++(x.ql.take 0).flatMap iA by simp only [List.append_assoc,List.take_zero,List.flatMap_nil,List.append_nil])]) (aE.loop (T:=Nat×(Option Addr)×(Option Addr)×Nat) (λgg=>[(0,.slice gg.2.2.1 (((l++(wd x.vw++[IntKind.u8.wrap (x.ql.length:Nat)]))++(x.ql.take gg.1).flatMap iA).length) gg.2.2.2),(4,.slice none 0 0),(18,.slice gg.2.1 x.ql.length x.qc),(19,.int .i64 (x.ql.length:Nat)),(20,.int .i64 (gg.1:Nat))]) (λgg w=>(gg.1<=x.ql.length/\∀ w,St w0 L w->ag w gg.2.1 x.ql.length 2 (λq=>aT.cells (x.ql.getD q aR)))/\St w0 (Sl gg.2.2.1 gg.2.2.2 5 1 af ((l++(wd x.vw++[IntKind.u8.wrap (x.ql.length:Nat)]))++(x.ql.take gg.1).flatMap iA)::L) w) (λgg=>x.ql.length-gg.1) (0,x.qa,b,e) [0,4,18,19,20] zk ⟨⟨Nat.zero_le _,hr⟩,Et (c8.dr 2) (show(l++wd x.vw)++([(IntKind.u8.wrap (x.ql.length:Nat):Int)])=(l++(wd x.vw++[IntKind.u8.wrap (x.ql.length:Nat)]))++(x.ql.take 0).flatMap iA by simp only [List.append_assoc,List.take_zero,List.flatMap_nil,List.append_nil])⟩ ?_))
 rintro⟨k,aq,a7,c1⟩ f4 ⟨hp,f⟩
 dsimp only at hp f
 have hw:=hp.2
 refine En (Lq (Ls (Dz (Zi ((k:Int)<(x.ql.length:Nat)) (λd1=>?_) (λd1=>?_)))))
 ·have hk:k<x.ql.length:=za
  have hpk:=hx.ql _ (eF (d:=aR) hk)
  have htk:(x.ql.take k).length=k:=by rw [List.length_take];omega
  have hfk:=fw (x.ql.take k)
  obtain⟨i,o,rfl⟩:=ag.isSome (hw _ (f.drop 1)) za
  refine Zk (Zt (Zs (Zb (Zs (bL [2,3] (Hx 0 (k:Int) (x.ql.length:Int) i o 2 (Hg 1 (.agg (aT.cells (x.ql.getD k aR))) [.prop (Array.size (aT.cells (x.ql.getD k aR))=2),.cells ⟨i,o+(k*2),none⟩ (aT.cells (x.ql.getD k aR))] (aB zk (dq (ag.lO (hw _ (f.drop 1)) zd (Nat.le_of_ble_eq_true zk) zk) av)) Hz)) (oX (aT.cells aR) f λa8 f5 d2=>Lo (Dz (Zu 0 0 (aT.cells (x.ql.getD k aR)) d2 λf6 d3=>Lo (Ld (Lt (Dz (ZD (jX [0,1,2,3,6,7] (.ef 4 (.ef 5 (.ef 8 (.rd 9 .done))))) d3 λf7 z f8=>Zj (Hl 2 0 0 z (Hl 7 0 1 z Hz)) (sb aJ aj [(IntKind.u8.wrap ((x.ql.getD k aR).rp):Int)] z λf9 g0 a9=>⟨bw (n:=[.cell ⟨a8,1,none⟩ (.int .u64 ((x.ql.getD k aR).nm))]) zk (aG (a9.cell 1 rfl zk) av),(sd aJ aj (0:Int) (a9.pl 2) zr λg5 g7 g8 b0=>⟨bw (n:=[.cell ⟨a8,1,none⟩ (.int .u64 ((x.ql.getD k aR).nm))]) zk (aG (b0.cell 2 rfl zk) av),Zc (bX (((l++(wd x.vw++[IntKind.u8.wrap (x.ql.length:Nat)]))++(x.ql.take k).flatMap iA)++([(IntKind.u8.wrap ((x.ql.getD k aR).rp):Int)])) ((x.ql.getD k aR).nm) ze za b0) ?_⟩)⟩)))))))))))))
  rintro g9 h0 ⟨a0,a1,rfl,d5⟩
  refine Lo (aL (Lm (Lt (Dz (bj (cH 0 ((k:Nat)+1) Hz) ?_)))))
  have d6:=((d5.pl 0).pl 2).pl 2
  exact aw.pick [20,0,4,18,19] (S':=[(20,.int .i64 ((k:Nat)+1)),(0,.slice a0 ((((l++(wd x.vw++[IntKind.u8.wrap (x.ql.length:Nat)]))++(x.ql.take k).flatMap iA)++([(IntKind.u8.wrap ((x.ql.getD k aR).rp):Int)])++wd ((x.ql.getD k aR).nm)).length) a1),(4,.slice none 0 0),(18,zL i o x.ql.length x.qc),(19,.int .i64 (x.ql.length:Nat))]) zk (aw.cq (S':=[(20,.int .i64 ((k:Nat)+1)),(0,.slice a0 (((l++(wd x.vw++[IntKind.u8.wrap (x.ql.length:Nat)]))++(x.ql.take (k+1)).flatMap iA).length) a1),(4,.slice none 0 0),(18,zL i o x.ql.length x.qc),(19,.int .i64 (x.ql.length:Nat))]) (by rw [(show((l++(wd x.vw++[IntKind.u8.wrap (x.ql.length:Nat)]))++(x.ql.take k).flatMap iA)++([(IntKind.u8.wrap ((x.ql.getD k aR).rp):Int)])++wd ((x.ql.getD k aR).nm)=(l++(wd x.vw++[IntKind.u8.wrap (x.ql.length:Nat)]))++(x.ql.take (k+1)).flatMap iA by rw [bh (d:=aR) hk,List.flatMap_append];simp only [List.append_assoc,List.flatMap_cons,List.flatMap_nil,List.append_nil,iA])]) (aw.back (k+1,some ⟨i,o,none⟩,a0,a1) [0,4,18,19,20] zk (by show x.ql.length-(k+1)<x.ql.length-k;omega) ⟨⟨za,hw⟩,Et (d6.dr 2) (show((l++(wd x.vw++[IntKind.u8.wrap (x.ql.length:Nat)]))++(x.ql.take k).flatMap iA)++([(IntKind.u8.wrap ((x.ql.getD k aR).rp):Int)])++wd ((x.ql.getD k aR).nm)=(l++(wd x.vw++[IntKind.u8.wrap (x.ql.length:Nat)]))++(x.ql.take (k+1)).flatMap iA by rw [bh (d:=aR) hk,List.flatMap_append];simp only [List.append_assoc,List.flatMap_cons,List.flatMap_nil,List.append_nil,iA])⟩))
 ·have hke:x.ql.take k=x.ql:=List.take_of_length_le za
  refine En (Lx (gv (gw (Lh (Lt (Lq (Le (Dz (bg (v:=.slice a7 (((l++(wd x.vw++[IntKind.u8.wrap (x.ql.length:Nat)]))++(x.ql.take k).flatMap iA).length) c1) ?_)))))))))
  have h9:(l++(wd x.vw++[IntKind.u8.wrap (x.ql.length:Nat)]))++(x.ql.take k).flatMap iA=l++xX x:=by rw [hke];simp only [xX,List.append_assoc]
  exact⟨a7,c1,by rw [h9],by rw [<- h9];exact f⟩
end
section
variable {w0 w : World} {L : List aI} {c : Nat} {az : Option Addr} {cz : Nat}
def g1 (s:CS):aK×CS :=
 let a:=dN s
 let b:=Dy a.2
 (⟨1,a.1,0,b.1,none,0,[],aH⟩,b.2)
def g2 (s:CS):aK×CS :=
 let a:=dN s
 let b:=dN a.2
 (⟨2,a.1,b.1,dk,none,0,[],aH⟩,b.2)
def g3 (kd:Int) (s:CS):aK×CS :=
 let a:=dN s
 (⟨kd,a.1,0,dk,none,0,[],aH⟩,a.2)
def po:Nat->CS->List aT->List aT×CS
 | 0,s,q=>(q,s)
 | n+1,s,q=>if s.2=true then (q,s) else po n (dN (dw s).2).2 (q++[⟨(dw s).1,(dN (dw s).2).1⟩])
def g4 (s:CS):aK×CS :=
 let a:=dN s
 let n:=dw a.2
 let q:=po n.1.toNat n.2 []
 (⟨4,a.1,0,dk,none,0,q.1,aH⟩,q.2)
def g6 (s:CS):aK×CS :=
 let a:=dN s
 let b:=kg a.2
 (⟨6,0,a.1,dk,none,0,[],b.1⟩,b.2)
def eJ (kd:Int) (s:CS):aK×CS:=if kd=1 then g1 s else if kd=2 then g2 s else if kd=4 then g4 s else if kd=6 then g6 s else g3 kd s
def ij (x:aK):aK:=⟨x.kd,x.vw,x.k,x.rq,none,0,x.ql,x.dg⟩
theorem ep:∀ z∈aH.toList,0<=z/\z<256:=zf
theorem gL:sM dk:=⟨zf,zf,zf,zf,ep⟩
theorem uS {y:Nat}Q r sp kd (hQ:∀ w,St w0 L w->Q.holds w) (hq:aX Q az r cz) (hkr:0<=kd/\kd<=255) (hkd:kd=1) (hs:St w0 (ah c #[.slice az r.length cz,.bool sp] 202::ah y (aK.cells (⟨kd,0,0,dk,none,0,[],aH⟩:aK)) 39::L) w):Cs Tryz.prog 144 #[zP c 0,zP y 0] w λrv w'=>∃ yy2 rr2 sp2 az2 cz2,rv=.tuple #[]/\eJ kd (r,sp)=(ij yy2,(rr2,sp2))/\eI yy2/\aX Q az2 rr2 cz2/\St w0 (ah y (aK.cells yy2) 39::Sl yy2.qa yy2.qc 81 2 aT.cells yy2.ql::ah c #[.slice az2 rr2.length cz2,.bool sp2] 202::L) w':=by
 refine bp Tryz.func144 Tryz.ntmps144 (En (Lg [3,5,8,11] (Lw (Zc (bu Q r sp (λw h=>hQ w (h.drop 1)) hq hs) ?_))))
 rintro a8 a9 ⟨b,rr2,e,b0,b1,rfl,f,b2,i,o⟩
 refine Lo (Lw (Zc (iV Q rr2 e (λw h=>hQ w (h.drop 1)) i o) ?_))
 rintro b3 b4 ⟨d,q,u,x,z,rfl,a0,a1,a2,a3⟩
 refine Lo (Lw (Zu 1 1 (aK.cells (⟨kd,b,0,dk,none,0,[],aH⟩:aK)) a3 λb5 a4=>Lo (Lw (Zu 1 3 (aK.cells (⟨kd,b,0,d,none,0,[],aH⟩:aK)) a4 λb6 a5=>Lo (Ld (Dz (aw.done (.inr rfl) (λa hf=>results0 rfl a hf) ?_)))))))
 have a6:=St.bW a5 81 2 aT.cells
 exact⟨(⟨kd,b,0,d,none,0,[],aH⟩:aK),q,u,x,z,rfl,(if_pos hkd:eJ kd (r,sp)=g1 (r,sp)).trans (by unfold g1;simp only [f,a0];rw [hkd];rfl),⟨hkr,zB,zE,a1,(λp hp=>by cases hp),ep,Nat.zero_le _⟩,a2,((a6.pl 1).pl 1).pl 2⟩
theorem uT {y:Nat}Q r sp kd (hQ:∀ w,St w0 L w->Q.holds w) (hq:aX Q az r cz) (hkr:0<=kd/\kd<=255) (hkd:kd=2) (hs:St w0 (ah c #[.slice az r.length cz,.bool sp] 202::ah y (aK.cells (⟨kd,0,0,dk,none,0,[],aH⟩:aK)) 39::L) w):Cs Tryz.prog 149 #[zP c 0,zP y 0] w λrv w'=>∃ yy2 rr2 sp2 az2 cz2,rv=.tuple #[]/\eJ kd (r,sp)=(ij yy2,(rr2,sp2))/\eI yy2/\aX Q az2 rr2 cz2/\St w0 (ah y (aK.cells yy2) 39::Sl yy2.qa yy2.qc 81 2 aT.cells yy2.ql::ah c #[.slice az2 rr2.length cz2,.bool sp2] 202::L) w':=by
 refine bp Tryz.func149 Tryz.ntmps149 (En (Lg [3,5,8,11] (Lw (Zc (bu Q r sp (λw h=>hQ w (h.drop 1)) hq hs) ?_))))
 rintro a7 a8 ⟨b,rr2,e,a9,b0,rfl,f,b1,i,o⟩
 refine Lo (Lw (Zc (bu Q rr2 e (λw h=>hQ w (h.drop 1)) i o) ?_))
 rintro b2 b3 ⟨d,q,u,x,z,rfl,a0,b4,a1,a2⟩
 refine Lo (Lw (Zu 1 1 (aK.cells (⟨kd,b,0,dk,none,0,[],aH⟩:aK)) a2 λb5 a3=>Lo (Lw (Zu 1 2 (aK.cells (⟨kd,b,d,dk,none,0,[],aH⟩:aK)) a3 λb6 a4=>Lo (Ld (Dz (aw.done (.inr rfl) (λa hf=>results0 rfl a hf) ?_)))))))
 have a5:=St.bW a4 81 2 aT.cells
 exact⟨(⟨kd,b,d,dk,none,0,[],aH⟩:aK),q,u,x,z,rfl,((if_neg za).trans (if_pos hkd):eJ kd (r,sp)=g2 (r,sp)).trans (by unfold g2;simp only [f,a0];rw [hkd];rfl),⟨hkr,zB,zB,gL,(λp hp=>by cases hp),ep,Nat.zero_le _⟩,a1,((a5.pl 1).pl 1).pl 2⟩
theorem nY {y:Nat}Q r sp kd (hQ:∀ w,St w0 L w->Q.holds w) (hq:aX Q az r cz) (hkr:0<=kd/\kd<=255) (hkd:kd=3\/kd=5) (hs:St w0 (ah c #[.slice az r.length cz,.bool sp] 202::ah y (aK.cells (⟨kd,0,0,dk,none,0,[],aH⟩:aK)) 39::L) w):Cs Tryz.prog 184 #[zP c 0,zP y 0] w λrv w'=>∃ yy2 rr2 sp2 az2 cz2,rv=.tuple #[]/\eJ kd (r,sp)=(ij yy2,(rr2,sp2))/\eI yy2/\aX Q az2 rr2 cz2/\St w0 (ah y (aK.cells yy2) 39::Sl yy2.qa yy2.qc 81 2 aT.cells yy2.ql::ah c #[.slice az2 rr2.length cz2,.bool sp2] 202::L) w':=by
 refine bp Tryz.func184 Tryz.ntmps184 (En (Lg [2,5] (Lw (Zc (bu Q r sp (λw h=>hQ w (h.drop 1)) hq hs) ?_))))
 rintro a0 a1 ⟨b,rr2,d,e,f,rfl,i,a2,o,q⟩
 refine Lo (Lw (Zu 1 1 (aK.cells (⟨kd,b,0,dk,none,0,[],aH⟩:aK)) q λa3 u=>Lo (Ld (Dz (aw.done (.inr rfl) (λa hf=>results0 rfl a hf) ?_)))))
 have x:=St.bW u 81 2 aT.cells
 exact⟨(⟨kd,b,0,dk,none,0,[],aH⟩:aK),rr2,d,e,f,rfl,((if_neg za).trans ((if_neg za).trans ((if_neg za).trans (if_neg za))):eJ kd (r,sp)=g3 kd (r,sp)).trans (by unfold g3;simp only [i];rfl),⟨hkr,zB,zE,gL,(λp hp=>by cases hp),ep,Nat.zero_le _⟩,o,((x.pl 1).pl 1).pl 2⟩
theorem uU {y:Nat}Q r sp kd (hQ:∀ w,St w0 L w->Q.holds w) (hq:aX Q az r cz) (hkr:0<=kd/\kd<=255) (hkd:kd=6) (hs:St w0 (ah c #[.slice az r.length cz,.bool sp] 202::ah y (aK.cells (⟨kd,0,0,dk,none,0,[],aH⟩:aK)) 39::L) w):Cs Tryz.prog 157 #[zP c 0,zP y 0] w λrv w'=>∃ yy2 rr2 sp2 az2 cz2,rv=.tuple #[]/\eJ kd (r,sp)=(ij yy2,(rr2,sp2))/\eI yy2/\aX Q az2 rr2 cz2/\St w0 (ah y (aK.cells yy2) 39::Sl yy2.qa yy2.qc 81 2 aT.cells yy2.ql::ah c #[.slice az2 rr2.length cz2,.bool sp2] 202::L) w':=by
 refine bp Tryz.func157 Tryz.ntmps157 (En (Lg [3,5,8,11] (Lw (Zc (bu Q r sp (λw h=>hQ w (h.drop 1)) hq hs) ?_))))
 rintro a8 a9 ⟨b,rr2,e,b0,b1,rfl,f,b2,i,o⟩
 refine Lo (Lw (Zc (jL Q rr2 e (λw h=>hQ w (h.drop 1)) i o) ?_))
 rintro b3 b4 ⟨d,q,u,x,z,rfl,a0,a1,a2,a3⟩
 refine Lo (Lw (Zu 1 2 (aK.cells (⟨kd,0,b,dk,none,0,[],aH⟩:aK)) a3 λb5 a4=>Lo (Lw (Zu 1 44 (aK.cells (⟨kd,0,b,dk,none,0,[],d⟩:aK)) a4 λb6 a5=>Lo (Ld (Dz (aw.done (.inr rfl) (λa hf=>results0 rfl a hf) ?_)))))))
 have a6:=St.bW a5 81 2 aT.cells
 exact⟨(⟨kd,0,b,dk,none,0,[],d⟩:aK),q,u,x,z,rfl,((if_neg za).trans ((if_neg za).trans ((if_neg za).trans (if_pos hkd))):eJ kd (r,sp)=g6 (r,sp)).trans (by unfold g6;simp only [f,a0];rw [hkd];rfl),⟨hkr,zE,zB,gL,(λp hp=>by cases hp),a1,Nat.zero_le _⟩,a2,((a6.pl 1).pl 1).pl 2⟩
theorem uV {y:Nat}{og:Int}{nr:Int}{dp:aD}{tg:aO}Q r sp kd (hQ:∀ w,St w0 L w->Q.holds w) (hq:aX Q az r cz) (hkr:0<=kd/\kd<=255) (hkd:kd=1) (hs:St w0 (ah c #[.slice az r.length cz,.bool sp] 202::ah y (an.cells (⟨og,nr,dp,(⟨kd,0,0,dk,none,0,[],aH⟩:aK),tg⟩:an)) 43::L) w):Cs Tryz.prog 144 #[zP c 0,zP y 13] w λrv w'=>∃ yy2 rr2 sp2 az2 cz2,rv=.tuple #[]/\eJ kd (r,sp)=(ij yy2,(rr2,sp2))/\eI yy2/\aX Q az2 rr2 cz2/\St w0 (ah y (an.cells (⟨og,nr,dp,yy2,tg⟩:an)) 43::Sl yy2.qa yy2.qc 81 2 aT.cells yy2.ql::ah c #[.slice az2 rr2.length cz2,.bool sp2] 202::L) w':=by
 refine bp Tryz.func144 Tryz.ntmps144 (En (Lg [3,5,8,11] (Lw (Zc (bu Q r sp (λw h=>hQ w (h.drop 1)) hq hs) ?_))))
 rintro a8 a9 ⟨b,rr2,e,b0,b1,rfl,f,b2,i,o⟩
 refine Lo (Lw (Zc (iV Q rr2 e (λw h=>hQ w (h.drop 1)) i o) ?_))
 rintro b3 b4 ⟨d,q,u,x,z,rfl,a0,a1,a2,a3⟩
 refine Lo (Lw (Zu 1 14 (an.cells (⟨og,nr,dp,(⟨kd,b,0,dk,none,0,[],aH⟩:aK),tg⟩:an)) a3 λb5 a4=>Lo (Lw (Zu 1 16 (an.cells (⟨og,nr,dp,(⟨kd,b,0,d,none,0,[],aH⟩:aK),tg⟩:an)) a4 λb6 a5=>Lo (Ld (Dz (aw.done (.inr rfl) (λa hf=>results0 rfl a hf) ?_)))))))
 have a6:=St.bW a5 81 2 aT.cells
 exact⟨(⟨kd,b,0,d,none,0,[],aH⟩:aK),q,u,x,z,rfl,(if_pos hkd:eJ kd (r,sp)=g1 (r,sp)).trans (by unfold g1;simp only [f,a0];rw [hkd];rfl),⟨hkr,zB,zE,a1,(λp hp=>by cases hp),ep,Nat.zero_le _⟩,a2,((a6.pl 1).pl 1).pl 2⟩
theorem uW {y:Nat}{og:Int}{nr:Int}{dp:aD}{tg:aO}Q r sp kd (hQ:∀ w,St w0 L w->Q.holds w) (hq:aX Q az r cz) (hkr:0<=kd/\kd<=255) (hkd:kd=2) (hs:St w0 (ah c #[.slice az r.length cz,.bool sp] 202::ah y (an.cells (⟨og,nr,dp,(⟨kd,0,0,dk,none,0,[],aH⟩:aK),tg⟩:an)) 43::L) w):Cs Tryz.prog 149 #[zP c 0,zP y 13] w λrv w'=>∃ yy2 rr2 sp2 az2 cz2,rv=.tuple #[]/\eJ kd (r,sp)=(ij yy2,(rr2,sp2))/\eI yy2/\aX Q az2 rr2 cz2/\St w0 (ah y (an.cells (⟨og,nr,dp,yy2,tg⟩:an)) 43::Sl yy2.qa yy2.qc 81 2 aT.cells yy2.ql::ah c #[.slice az2 rr2.length cz2,.bool sp2] 202::L) w':=by
 refine bp Tryz.func149 Tryz.ntmps149 (En (Lg [3,5,8,11] (Lw (Zc (bu Q r sp (λw h=>hQ w (h.drop 1)) hq hs) ?_))))
 rintro a7 a8 ⟨b,rr2,e,a9,b0,rfl,f,b1,i,o⟩
 refine Lo (Lw (Zc (bu Q rr2 e (λw h=>hQ w (h.drop 1)) i o) ?_))
 rintro b2 b3 ⟨d,q,u,x,z,rfl,a0,b4,a1,a2⟩
 refine Lo (Lw (Zu 1 14 (an.cells (⟨og,nr,dp,(⟨kd,b,0,dk,none,0,[],aH⟩:aK),tg⟩:an)) a2 λb5 a3=>Lo (Lw (Zu 1 15 (an.cells (⟨og,nr,dp,(⟨kd,b,d,dk,none,0,[],aH⟩:aK),tg⟩:an)) a3 λb6 a4=>Lo (Ld (Dz (aw.done (.inr rfl) (λa hf=>results0 rfl a hf) ?_)))))))
 have a5:=St.bW a4 81 2 aT.cells
 exact⟨(⟨kd,b,d,dk,none,0,[],aH⟩:aK),q,u,x,z,rfl,((if_neg za).trans (if_pos hkd):eJ kd (r,sp)=g2 (r,sp)).trans (by unfold g2;simp only [f,a0];rw [hkd];rfl),⟨hkr,zB,zB,gL,(λp hp=>by cases hp),ep,Nat.zero_le _⟩,a1,((a5.pl 1).pl 1).pl 2⟩
theorem nZ {y:Nat}{og:Int}{nr:Int}{dp:aD}{tg:aO}Q r sp kd (hQ:∀ w,St w0 L w->Q.holds w) (hq:aX Q az r cz) (hkr:0<=kd/\kd<=255) (hkd:kd=3\/kd=5) (hs:St w0 (ah c #[.slice az r.length cz,.bool sp] 202::ah y (an.cells (⟨og,nr,dp,(⟨kd,0,0,dk,none,0,[],aH⟩:aK),tg⟩:an)) 43::L) w):Cs Tryz.prog 184 #[zP c 0,zP y 13] w λrv w'=>∃ yy2 rr2 sp2 az2 cz2,rv=.tuple #[]/\eJ kd (r,sp)=(ij yy2,(rr2,sp2))/\eI yy2/\aX Q az2 rr2 cz2/\St w0 (ah y (an.cells (⟨og,nr,dp,yy2,tg⟩:an)) 43::Sl yy2.qa yy2.qc 81 2 aT.cells yy2.ql::ah c #[.slice az2 rr2.length cz2,.bool sp2] 202::L) w':=by
 refine bp Tryz.func184 Tryz.ntmps184 (En (Lg [2,5] (Lw (Zc (bu Q r sp (λw h=>hQ w (h.drop 1)) hq hs) ?_))))
 rintro a0 a1 ⟨b,rr2,d,e,f,rfl,i,a2,o,q⟩
 refine Lo (Lw (Zu 1 14 (an.cells (⟨og,nr,dp,(⟨kd,b,0,dk,none,0,[],aH⟩:aK),tg⟩:an)) q λa3 u=>Lo (Ld (Dz (aw.done (.inr rfl) (λa hf=>results0 rfl a hf) ?_)))))
 have x:=St.bW u 81 2 aT.cells
 exact⟨(⟨kd,b,0,dk,none,0,[],aH⟩:aK),rr2,d,e,f,rfl,((if_neg za).trans ((if_neg za).trans ((if_neg za).trans (if_neg za))):eJ kd (r,sp)=g3 kd (r,sp)).trans (by unfold g3;simp only [i];rfl),⟨hkr,zB,zE,gL,(λp hp=>by cases hp),ep,Nat.zero_le _⟩,o,((x.pl 1).pl 1).pl 2⟩
theorem uX {y:Nat}{og:Int}{nr:Int}{dp:aD}{tg:aO}Q r sp kd (hQ:∀ w,St w0 L w->Q.holds w) (hq:aX Q az r cz) (hkr:0<=kd/\kd<=255) (hkd:kd=6) (hs:St w0 (ah c #[.slice az r.length cz,.bool sp] 202::ah y (an.cells (⟨og,nr,dp,(⟨kd,0,0,dk,none,0,[],aH⟩:aK),tg⟩:an)) 43::L) w):Cs Tryz.prog 157 #[zP c 0,zP y 13] w λrv w'=>∃ yy2 rr2 sp2 az2 cz2,rv=.tuple #[]/\eJ kd (r,sp)=(ij yy2,(rr2,sp2))/\eI yy2/\aX Q az2 rr2 cz2/\St w0 (ah y (an.cells (⟨og,nr,dp,yy2,tg⟩:an)) 43::Sl yy2.qa yy2.qc 81 2 aT.cells yy2.ql::ah c #[.slice az2 rr2.length cz2,.bool sp2] 202::L) w':=by
 refine bp Tryz.func157 Tryz.ntmps157 (En (Lg [3,5,8,11] (Lw (Zc (bu Q r sp (λw h=>hQ w (h.drop 1)) hq hs) ?_))))
 rintro a8 a9 ⟨b,rr2,e,b0,b1,rfl,f,b2,i,o⟩
 refine Lo (Lw (Zc (jL Q rr2 e (λw h=>hQ w (h.drop 1)) i o) ?_))
 rintro b3 b4 ⟨d,q,u,x,z,rfl,a0,a1,a2,a3⟩
 refine Lo (Lw (Zu 1 15 (an.cells (⟨og,nr,dp,(⟨kd,0,b,dk,none,0,[],aH⟩:aK),tg⟩:an)) a3 λb5 a4=>Lo (Lw (Zu 1 57 (an.cells (⟨og,nr,dp,(⟨kd,0,b,dk,none,0,[],d⟩:aK),tg⟩:an)) a4 λb6 a5=>Lo (Ld (Dz (aw.done (.inr rfl) (λa hf=>results0 rfl a hf) ?_)))))))
 have a6:=St.bW a5 81 2 aT.cells
 exact⟨(⟨kd,0,b,dk,none,0,[],d⟩:aK),q,u,x,z,rfl,((if_neg za).trans ((if_neg za).trans ((if_neg za).trans (if_pos hkd))):eJ kd (r,sp)=g6 (r,sp)).trans (by unfold g6;simp only [f,a0];rw [hkd];rfl),⟨hkr,zE,zB,gL,(λp hp=>by cases hp),a1,Nat.zero_le _⟩,a2,((a6.pl 1).pl 1).pl 2⟩
theorem Cl {n:Nat}(h:n+1<=255):Value.int .u8 (IntKind.u8.wrap ((n+1:Nat)-1))=.int .u8 (n:Nat):=by
 congr 1
 show(((n+1:Nat):Int)-1) % 256=_
 omega
theorem lT {n:Nat}{r r1 r2:List Int}{sp p1 p2:Bool}{q:List aT}{a b:Int}(h0:sp=false) (h1:dw (r,sp)=(a,(r1,p1))) (h2:dN (r1,p1)=(b,(r2,p2))):po (n+1) (r,sp) q=po n (r2,p2) (q++[⟨a,b⟩]):=by
 show(if sp=true then (q,(r,sp)) else _)=_
 rw [if_neg (by rw [h0];decide)]
 simp only [h1,h2]
theorem kW {n:Nat}{r:List Int}{sp:Bool}{q:List aT}(h:n=0\/sp=true):po n (r,sp) q=(q,(r,sp)):=by
 cases n with
 | zero=>rfl
 | succ n =>
  obtain h|h:=h
  ·cases h
  ·show(if sp=true then (q,(r,sp)) else _)=_
   rw [if_pos h]
theorem uY {y:Nat}Q r sp kd (hQ:∀ w,St w0 L w->Q.holds w) (hq:aX Q az r cz) (hkr:0<=kd/\kd<=255) (hkd:kd=4) (hs:St w0 (ah c #[.slice az r.length cz,.bool sp] 202::ah y (aK.cells (⟨kd,0,0,dk,none,0,[],aH⟩:aK)) 39::L) w):Cs Tryz.prog 153 #[zP c 0,zP y 0] w λrv w'=>∃ yy2 rr2 sp2 az2 cz2,rv=.tuple #[]/\eJ kd (r,sp)=(ij yy2,(rr2,sp2))/\eI yy2/\aX Q az2 rr2 cz2/\St w0 (ah y (aK.cells yy2) 39::Sl yy2.qa yy2.qc 81 2 aT.cells yy2.ql::ah c #[.slice az2 rr2.length cz2,.bool sp2] 202::L) w':=by
 refine bp Tryz.func153 Tryz.ntmps153 (En (Ls (Lg [2,5] (Lw (Zc (bu Q r sp (λw h=>hQ w (h.drop 1)) hq hs) ?_)))))
 rintro f4 f5 ⟨o,rr2,c4,f6,f7,rfl,a7,f8,c5,c6⟩
 refine Lo (Lw (Zu 1 1 (aK.cells (⟨kd,o,0,dk,none,0,[],aH⟩:aK)) c6 λf9 c7=>Lo (Ld (Lt (Ls (Lg [1] (Lw (Zc (cY Q rr2 c4 (λw h=>hQ w (h.drop 1)) c5 c7) ?_))))))))
 rintro g0 c8 ⟨a8,a2,a3,a9,b0,rfl,a4,g5,c9,d0⟩
 refine Lz (Lb (Dz ?_))
 have hnr:=jK a4
 obtain⟨nb,rfl⟩:∃ m:Nat,a8=(m:Int):=⟨a8.toNat,za⟩
 have d1:=St.bW d0 81 2 aT.cells
 have d2:=((d1.pl 1).pl 2).pl 2
 have d3:St w0 (Sl none 0 81 2 aT.cells ([]:List aT)::ah y (aK.cells (⟨kd,o,0,dk,none,0,([]:List aT),aH⟩:aK)) 39::ah c #[.slice a9 a2.length b0,.bool a3] 202::L) c8:=d2
 refine aE.loop (T:=Nat×(List Int)×Bool×(Option Addr)×Nat×(Option Addr)×Nat×(List aT)) (λgg=>[(0,zP c 0),(1,zP y 0),(4,.int .u8 (gg.1:Nat))]) (λgg w=>(gg.1<=255/\po nb (a2,a3) []=po gg.1 (gg.2.1,gg.2.2.1) gg.2.2.2.2.2.2.2/\aX Q gg.2.2.2.1 gg.2.1 gg.2.2.2.2.1/\(∀ p∈gg.2.2.2.2.2.2.2,(-9223372036854775808<=p.rp/\p.rp<=9223372036854775807)/\(0<=p.nm/\p.nm<=18446744073709551615))/\gg.2.2.2.2.2.2.2.length+gg.1<=255)/\St w0 (Sl gg.2.2.2.2.2.1 gg.2.2.2.2.2.2.1 81 2 aT.cells gg.2.2.2.2.2.2.2::ah y (aK.cells (⟨kd,o,0,dk,gg.2.2.2.2.2.1,gg.2.2.2.2.2.2.1,gg.2.2.2.2.2.2.2,aH⟩:aK)) 39::ah c #[.slice gg.2.2.2.1 gg.2.1.length gg.2.2.2.2.1,.bool gg.2.2.1] 202::L) w) (λgg=>gg.1) (nb,a2,a3,a9,b0,none,0,([]:List aT)) [0,1,4] zk ⟨⟨za,rfl,c9,λp hp=>(by cases hp),by simp only [List.length_nil];omega⟩,d3⟩ ?_
 rintro⟨n2,a1,i,b1,b2,q,u,b⟩ g7 ⟨hp,a5⟩
 dsimp only at hp a5
 refine En (Ls (Ls (Lg [4] (Dz (Zr 0 3 [] (Dj 14 ((n2:Int)>0) (λd4=>?_) (λd4=>?_)))))))
 ·have g8:0<n2:=za
  refine En (Lw (sv (iJ a1 i (a5.pl 2)) λh0 b3=>Lz (Dz (cS (t:=!i) (λa6=>?_) (λa6=>?_)))))
  ·have hsf:i=false:=by simpa using a6
   obtain⟨x,rfl⟩:∃ m,n2=m+1:=⟨n2-1,za⟩
   refine Zk (Zt (Zs (Zb (ZD (jX [0,1,2,3,4,5,8] (.ef 6 (.rd 7 (.ef 9 (.rd 10 (.ef 11 (.ef 12 (jX [13,14] (.ef 15 .done))))))))) b3 λh1 b4 h2=>Zj (Hl 4 2 43 b4 Hz) (Zc (cY Q a1 i (λw h=>hQ w (h.drop 2)) hp.2.2.1 b4) ?_)))))
   rintro h3 h4 ⟨d,d6,d7,h5,h6,rfl,d8,h7,d9,b5⟩
   refine⟨bw (n:=[.cell ⟨y,43,none⟩ (.slice q b.length u)]) zk (aG (b5.cell 2 rfl zk) av),Zj (cH 7 d Hz) (Zc (bu Q d6 d7 (λw h=>hQ w (h.drop 2)) d9 b5) ?_)⟩
   rintro h8 i0 ⟨a0,b6,b7,b8,b9,rfl,e0,i1,e1,c0⟩
   refine⟨bw (n:=[.prop (Value.int .i64 (IntKind.i64.wrap d)=Value.int .i64 d),.cell ⟨y,43,none⟩ (.slice q b.length u)]) zk (aB (dD za za) (aG (c0.cell 2 rfl zk) av)),En (Lw (ar.aW rfl zk (t:=37) (e:=81) (n:=1) (ps:=[(0,.agg (aT.cells (⟨d,a0⟩:aT)))]) zk zk (ti:=Tryz.t81) (z:=.agg (aT.cells aR)) zk zk zf zf (cs:=aT.cells (⟨d,a0⟩:aT)) zk c0 λe2 e3 e4 e5=>?_))⟩
   have c1:St w0 (Sl (some ⟨e2,0,none⟩) 1 81 2 aT.cells ([((⟨d,a0⟩:aT):aT)])::ah c #[.slice b8 b6.length b9,.bool b7] 202::Sl q u 81 2 aT.cells b::ah y (aK.cells (⟨kd,o,0,dk,q,u,b,aH⟩:aK)) 39::L) e3:=St.ey (l:=[((⟨d,a0⟩:aT):aT)]) (f:=aT.cells) e4 e5 mX.size zh zk
   refine⟨bw (n:=[.cell ⟨y,43,none⟩ (.slice q b.length u)]) zk (aG (c1.cell 3 rfl zk) av),(sd wP mX aR (c1.pl 2) zg λc2 c3 i2 e7=>Lo (Lw (Zu 3 43 (aK.cells (⟨kd,o,0,dk,c2,c3,(b++([((⟨d,a0⟩:aT):aT)])),aH⟩:aK)) e7 λi3 e8=>Lo (Ld (Lm (Lt (Dz (bj (Hg 1 (.cI (.int .u8 (x:Nat)) (.gen [])) [.prop (Value.int .u8 (IntKind.u8.wrap (((x+1):Nat)-1))=Value.int .u8 (x:Nat))] (aB (Cl za) av) Hz) ?_))))))))⟩
   have e9:=(((e8.pl 2).pl 3).pl 2).pl 3
   exact aw.back (x,b6,b7,b8,b9,c2,c3,(b++[(⟨d,a0⟩:aT)])) [0,1,4] zk (by show x<(x+1);omega) ⟨⟨za,by rw [hp.2.1,lT hsf d8 e0],e1,λp f1=>(List.mem_append.1 f1).elim (hp.2.2.2.1 p) (λh9=>by rw [List.mem_singleton.1 h9];exact⟨zE,zE⟩),by show(b++[_]).length+x<=255;have:=hp.2.2.2.2;simp only [List.length_append,List.length_cons,List.length_nil];omega⟩,e9.dr 1⟩
  ·have hend:n2=0\/i=true:=.inr (by simpa using a6)
   exact Zx (aw.da (aw.dc (aw.jR (aw.done (.inr rfl) (λa hf=>results0 rfl a hf) ⟨(⟨kd,o,0,dk,q,u,b,aH⟩:aK),a1,i,b1,b2,rfl,((if_neg za).trans ((if_neg za).trans (if_pos hkd)):eJ kd (r,sp)=g4 (r,sp)).trans (by unfold g4;simp only [a7,a4,Int.toNat_natCast];rw [hp.2.1,kW hend,hkd];rfl),⟨hkr,zB,zE,gL,hp.2.2.2.1,ep,(by have:=hp.2.2.2.2;dsimp only;omega)⟩,hp.2.2.1,((b3.pl 0).pl 1).pl 2⟩))))
 ·have hend:n2=0\/i=true:=.inl za
  exact En (Lw (qV (En (aL (Lt (LF (Lx (gv (gw (Lh (Dz (aw.done (.inr rfl) (λa hf=>results0 rfl a hf) ⟨(⟨kd,o,0,dk,q,u,b,aH⟩:aK),a1,i,b1,b2,rfl,((if_neg za).trans ((if_neg za).trans (if_pos hkd)):eJ kd (r,sp)=g4 (r,sp)).trans (by unfold g4;simp only [a7,a4,Int.toNat_natCast];rw [hp.2.1,kW hend,hkd];rfl),⟨hkr,zB,zE,gL,hp.2.2.2.1,ep,(by have:=hp.2.2.2.2;dsimp only;omega)⟩,hp.2.2.1,((a5.pl 2).pl 1).pl 2⟩))))))))))))
theorem uZ {y:Nat}{og:Int}{nr:Int}{dp:aD}{tg:aO}Q r sp kd (hQ:∀ w,St w0 L w->Q.holds w) (hq:aX Q az r cz) (hkr:0<=kd/\kd<=255) (hkd:kd=4) (hs:St w0 (ah c #[.slice az r.length cz,.bool sp] 202::ah y (an.cells (⟨og,nr,dp,(⟨kd,0,0,dk,none,0,[],aH⟩:aK),tg⟩:an)) 43::L) w):Cs Tryz.prog 153 #[zP c 0,zP y 13] w λrv w'=>∃ yy2 rr2 sp2 az2 cz2,rv=.tuple #[]/\eJ kd (r,sp)=(ij yy2,(rr2,sp2))/\eI yy2/\aX Q az2 rr2 cz2/\St w0 (ah y (an.cells (⟨og,nr,dp,yy2,tg⟩:an)) 43::Sl yy2.qa yy2.qc 81 2 aT.cells yy2.ql::ah c #[.slice az2 rr2.length cz2,.bool sp2] 202::L) w':=by
 refine bp Tryz.func153 Tryz.ntmps153 (En (Ls (Lg [2,5] (Lw (Zc (bu Q r sp (λw h=>hQ w (h.drop 1)) hq hs) ?_)))))
 rintro f4 f5 ⟨o,rr2,c4,f6,f7,rfl,a7,f8,c5,c6⟩
 refine Lo (Lw (Zu 1 14 (an.cells (⟨og,nr,dp,(⟨kd,o,0,dk,none,0,[],aH⟩:aK),tg⟩:an)) c6 λf9 c7=>Lo (Ld (Lt (Ls (Lg [1] (Lw (Zc (cY Q rr2 c4 (λw h=>hQ w (h.drop 1)) c5 c7) ?_))))))))
 rintro g0 c8 ⟨a8,a2,a3,a9,b0,rfl,a4,g5,c9,d0⟩
 refine Lz (Lb (Dz ?_))
 have hnr:=jK a4
 obtain⟨nb,rfl⟩:∃ m:Nat,a8=(m:Int):=⟨a8.toNat,za⟩
 have d1:=St.bW d0 81 2 aT.cells
 have d2:=((d1.pl 1).pl 2).pl 2
 have d3:St w0 (Sl none 0 81 2 aT.cells ([]:List aT)::ah y (an.cells (⟨og,nr,dp,(⟨kd,o,0,dk,none,0,([]:List aT),aH⟩:aK),tg⟩:an)) 43::ah c #[.slice a9 a2.length b0,.bool a3] 202::L) c8:=d2
 refine aE.loop (T:=Nat×(List Int)×Bool×(Option Addr)×Nat×(Option Addr)×Nat×(List aT)) (λgg=>[(0,zP c 0),(1,zP y 13),(4,.int .u8 (gg.1:Nat))]) (λgg w=>(gg.1<=255/\po nb (a2,a3) []=po gg.1 (gg.2.1,gg.2.2.1) gg.2.2.2.2.2.2.2/\aX Q gg.2.2.2.1 gg.2.1 gg.2.2.2.2.1/\(∀ p∈gg.2.2.2.2.2.2.2,(-9223372036854775808<=p.rp/\p.rp<=9223372036854775807)/\(0<=p.nm/\p.nm<=18446744073709551615))/\gg.2.2.2.2.2.2.2.length+gg.1<=255)/\St w0 (Sl gg.2.2.2.2.2.1 gg.2.2.2.2.2.2.1 81 2 aT.cells gg.2.2.2.2.2.2.2::ah y (an.cells (⟨og,nr,dp,(⟨kd,o,0,dk,gg.2.2.2.2.2.1,gg.2.2.2.2.2.2.1,gg.2.2.2.2.2.2.2,aH⟩:aK),tg⟩:an)) 43::ah c #[.slice gg.2.2.2.1 gg.2.1.length gg.2.2.2.2.1,.bool gg.2.2.1] 202::L) w) (λgg=>gg.1) (nb,a2,a3,a9,b0,none,0,([]:List aT)) [0,1,4] zk ⟨⟨za,rfl,c9,λp hp=>(by cases hp),by simp only [List.length_nil];omega⟩,d3⟩ ?_
 rintro⟨n2,a1,i,b1,b2,q,u,b⟩ g7 ⟨hp,a5⟩
 dsimp only at hp a5
 refine En (Ls (Ls (Lg [4] (Dz (Zr 0 3 [] (Dj 14 ((n2:Int)>0) (λd4=>?_) (λd4=>?_)))))))
 ·have g8:0<n2:=za
  refine En (Lw (sv (iJ a1 i (a5.pl 2)) λh0 b3=>Lz (Dz (cS (t:=!i) (λa6=>?_) (λa6=>?_)))))
  ·have hsf:i=false:=by simpa using a6
   obtain⟨x,rfl⟩:∃ m,n2=m+1:=⟨n2-1,za⟩
   refine Zk (Zt (Zs (Zb (ZD (jX [0,1,2,3,4,5,8] (.ef 6 (.rd 7 (.ef 9 (.rd 10 (.ef 11 (.ef 12 (jX [13,14] (.ef 15 .done))))))))) b3 λh1 b4 h2=>Zj (Hl 4 2 56 b4 Hz) (Zc (cY Q a1 i (λw h=>hQ w (h.drop 2)) hp.2.2.1 b4) ?_)))))
   rintro h3 h4 ⟨d,d6,d7,h5,h6,rfl,d8,h7,d9,b5⟩
   refine⟨bw (n:=[.cell ⟨y,56,none⟩ (.slice q b.length u)]) zk (aG (b5.cell 2 rfl zk) av),Zj (cH 7 d Hz) (Zc (bu Q d6 d7 (λw h=>hQ w (h.drop 2)) d9 b5) ?_)⟩
   rintro h8 i0 ⟨a0,b6,b7,b8,b9,rfl,e0,i1,e1,c0⟩
   refine⟨bw (n:=[.prop (Value.int .i64 (IntKind.i64.wrap d)=Value.int .i64 d),.cell ⟨y,56,none⟩ (.slice q b.length u)]) zk (aB (dD za za) (aG (c0.cell 2 rfl zk) av)),En (Lw (ar.aW rfl zk (t:=37) (e:=81) (n:=1) (ps:=[(0,.agg (aT.cells (⟨d,a0⟩:aT)))]) zk zk (ti:=Tryz.t81) (z:=.agg (aT.cells aR)) zk zk zf zf (cs:=aT.cells (⟨d,a0⟩:aT)) zk c0 λe2 e3 e4 e5=>?_))⟩
   have c1:St w0 (Sl (some ⟨e2,0,none⟩) 1 81 2 aT.cells ([((⟨d,a0⟩:aT):aT)])::ah c #[.slice b8 b6.length b9,.bool b7] 202::Sl q u 81 2 aT.cells b::ah y (an.cells (⟨og,nr,dp,(⟨kd,o,0,dk,q,u,b,aH⟩:aK),tg⟩:an)) 43::L) e3:=St.ey (l:=[((⟨d,a0⟩:aT):aT)]) (f:=aT.cells) e4 e5 mX.size zh zk
   refine⟨bw (n:=[.cell ⟨y,56,none⟩ (.slice q b.length u)]) zk (aG (c1.cell 3 rfl zk) av),(sd wP mX aR (c1.pl 2) zg λc2 c3 i2 e7=>Lo (Lw (Zu 3 56 (an.cells (⟨og,nr,dp,(⟨kd,o,0,dk,c2,c3,(b++([((⟨d,a0⟩:aT):aT)])),aH⟩:aK),tg⟩:an)) e7 λi3 e8=>Lo (Ld (Lm (Lt (Dz (bj (Hg 1 (.cI (.int .u8 (x:Nat)) (.gen [])) [.prop (Value.int .u8 (IntKind.u8.wrap (((x+1):Nat)-1))=Value.int .u8 (x:Nat))] (aB (Cl za) av) Hz) ?_))))))))⟩
   have e9:=(((e8.pl 2).pl 3).pl 2).pl 3
   exact aw.back (x,b6,b7,b8,b9,c2,c3,(b++[(⟨d,a0⟩:aT)])) [0,1,4] zk (by show x<(x+1);omega) ⟨⟨za,by rw [hp.2.1,lT hsf d8 e0],e1,λp f1=>(List.mem_append.1 f1).elim (hp.2.2.2.1 p) (λh9=>by rw [List.mem_singleton.1 h9];exact⟨zE,zE⟩),by show(b++[_]).length+x<=255;have:=hp.2.2.2.2;simp only [List.length_append,List.length_cons,List.length_nil];omega⟩,e9.dr 1⟩
  ·have hend:n2=0\/i=true:=.inr (by simpa using a6)
   exact Zx (aw.da (aw.dc (aw.jR (aw.done (.inr rfl) (λa hf=>results0 rfl a hf) ⟨(⟨kd,o,0,dk,q,u,b,aH⟩:aK),a1,i,b1,b2,rfl,((if_neg za).trans ((if_neg za).trans (if_pos hkd)):eJ kd (r,sp)=g4 (r,sp)).trans (by unfold g4;simp only [a7,a4,Int.toNat_natCast];rw [hp.2.1,kW hend,hkd];rfl),⟨hkr,zB,zE,gL,hp.2.2.2.1,ep,(by have:=hp.2.2.2.2;dsimp only;omega)⟩,hp.2.2.1,((b3.pl 0).pl 1).pl 2⟩))))
 ·have hend:n2=0\/i=true:=.inl za
  exact En (Lw (qV (En (aL (Lt (LF (Lx (gv (gw (Lh (Dz (aw.done (.inr rfl) (λa hf=>results0 rfl a hf) ⟨(⟨kd,o,0,dk,q,u,b,aH⟩:aK),a1,i,b1,b2,rfl,((if_neg za).trans ((if_neg za).trans (if_pos hkd)):eJ kd (r,sp)=g4 (r,sp)).trans (by unfold g4;simp only [a7,a4,Int.toNat_natCast];rw [hp.2.1,kW hend,hkd];rfl),⟨hkr,zB,zE,gL,hp.2.2.2.1,ep,(by have:=hp.2.2.2.2;dsimp only;omega)⟩,hp.2.2.1,((a5.pl 2).pl 1).pl 2⟩))))))))))))
end
section
variable {w0 w : World} {L : List aI} {ay : Option Addr} {cy : Nat} {ax : Option Addr} {cx : Nat}
theorem sP x y (hll:x.length<=9223372036854775807) (hr1:Rw w0 L aT.cells 2 aR ax x) (hr2:Rw w0 L aT.cells 2 aR ay y) (hs:St w0 L w):Cs Tryz.prog 160 #[.slice ax x.length cx,.slice ay y.length cy] w λrv w'=>rv=.bool (decide (x=y))/\St w0 L w':=by
 refine bp Tryz.func160 Tryz.ntmps160 (En (Lq (Ls (Lq (Dz (cS (t:=(x.length:Int) != (y.length:Nat)) (λh1=>?_) (λh1=>?_)))))))
 ·have a4:=jb h1
  exact En (Lq (Le (Ly (Dz (bg (v:=.bool false) ⟨(by rw [decide_eq_false λh9=>absurd (congrArg List.length h9) za]),hs⟩)))))
 ·have a4:=iF h1
  have hln:x.length=y.length:=za
  refine En (Lk (Lt (Ls (Lq (Lb (Dz (aE.loop (T:=Nat×(Option Addr)×(Option Addr)) (λgg=>[(0,.slice gg.2.1 x.length cx),(1,.slice gg.2.2 y.length cy),(12,.int .i64 (x.length:Nat)),(13,.int .i64 (gg.1:Nat))]) (λgg w=>(gg.1<=x.length/\x.take gg.1=y.take gg.1/\(∀ w,St w0 L w->ag w gg.2.1 x.length 2 (λq=>aT.cells (x.getD q aR)))/\(∀ w,St w0 L w->ag w gg.2.2 y.length 2 (λq=>aT.cells (y.getD q aR))))/\St w0 L w) (λgg=>x.length-gg.1) (0,ax,ay) [0,1,12,13] zk ⟨⟨Nat.zero_le _,rfl,hr1,hr2⟩,hs⟩ ?_)))))))
  rintro⟨k,aq,bq⟩ w2 ⟨hp,a⟩
  dsimp only at hp a
  have a1:=hp.2.2.1
  have a2:=hp.2.2.2
  refine En (Lq (Ls (Dz (Zi ((k:Int)<(x.length:Nat)) (λa5=>?_) (λa5=>?_)))))
  ·have hkx:k<x.length:=za
   have hky:k<y.length:=za
   obtain⟨e,f,rfl⟩:=ag.isSome (a1 _ (a.drop 0)) za
   obtain⟨o,u,rfl⟩:=ag.isSome (a2 _ (a.drop 0)) za
   refine En (Lk (Lt (Ls (Lb (Lq (Ls (Dz (ZD (jX [0,1,2,3,4,5,6,7,8] .done) a λa6 a0 a7=>Zp 0 8 [(2,.cI (zP e (f+(k*2))) .at_),(3,.agg (aT.cells (x.getD k aR))),(6,.cI (zP o (u+(k*2))) .at_),(7,.agg (aT.cells (y.getD k aR)))] [(2,[.prop (0<=(k:Int)/\(k:Int)<(x.length:Int)),.prop (Value.pointer (some (Addr.add ⟨e,f,none⟩ (Int.toNat (k:Nat)*2)))=Value.pointer (some ⟨e,f+(k*2),none⟩))]),(3,[.prop (Array.size (aT.cells (x.getD k aR))=2),.cells ⟨e,f+(k*2),none⟩ (aT.cells (x.getD k aR))]),(6,[.prop (0<=(k:Int)/\(k:Int)<(y.length:Int)),.prop (Value.pointer (some (Addr.add ⟨o,u,none⟩ (Int.toNat (k:Nat)*2)))=Value.pointer (some ⟨o,u+(k*2),none⟩))]),(7,[.prop (Array.size (aT.cells (y.getD k aR))=2),.cells ⟨o,u+(k*2),none⟩ (aT.cells (y.getD k aR))])] (ak (aB za (aB (aS _ _ _) av)) (ak (aB zk (dq (ag.lO (a1 _ (a0.drop 0)) zd (Nat.le_of_ble_eq_true zk) zk) av)) (ak (aB za (aB (aS _ _ _) av)) (ak (aB zk (dq (ag.lO (a2 _ (a0.drop 0)) zd (Nat.le_of_ble_eq_true zk) zk) av)) cW)))) (ar.jY rfl zk (b:=false) (t:=81) (xs:=aT.cells (x.getD k aR)) (ys:=aT.cells (y.getD k aR)) (m:=2) zk zk zf zk (r:=!(decide ((x.getD k aR)=(y.getD k aR)))) (z9  (Du (x.getD k aR) (y.getD k aR))) (Zd (Zt (cS (t:=!(decide ((x.getD k aR)=(y.getD k aR)))) (λz=>?_) (λz=>?_)))))))))))))
   ·have a3:=kL z
    have hne:¬ (x.getD k aR=y.getD k aR):=by simpa using z
    exact En (Lq (Le (Ll (Ly (uk (Ll (Ly (Dz (bg (v:=.bool false) ⟨(by rw [decide_eq_false λh9=>hne (by rw [h9])]),a0⟩)))))))))
   ·have a3:=km z
    have heq:x.getD k aR=y.getD k aR:=by simpa using z
    exact Zk (Zm (Zt (bj (cH 0 ((k:Nat)+1) Hz) (aw.back (k+1,some ⟨e,f,none⟩,some ⟨o,u,none⟩) [0,1,12,13] zk (by show x.length-(k+1)<x.length-k;omega) ⟨⟨za,by rw [bh (d:=aR) hkx,bh (d:=aR) hky,hp.2.1,heq],a1,a2⟩,a0⟩))))
  ·have hxy:x=y:=by rw [<- List.take_of_length_le (i:=k) (l:=x) za,<- List.take_of_length_le (i:=k) (l:=y) za];exact hp.2.1
   exact En (Lx (gv (gw (Lh (Lt (Lq (Le (Dz (bg (v:=.bool true) ⟨(by rw [decide_eq_true hxy]),a⟩)))))))))
def iv (x:aK) (y:aK):Bool :=
 if ((x.kd:Int) == y.kd)=true then
  if ((x.vw:Int) == y.vw)=true then
   if ((x.k:Int) == y.k)=true then
    if (decide (x.rq=y.rq))=true then
     if (decide (x.ql=y.ql))=true then
      decide (x.dg=y.dg)
     else
      false
    else
     false
   else
    false
  else
   false
 else
  false
theorem x9 x y (hqn:x.ql.length<=9223372036854775807) (hr1:Rw w0 L aT.cells 2 aR x.qa x.ql) (hr2:Rw w0 L aT.cells 2 aR y.qa y.ql) (hs:St w0 L w):Cs Tryz.prog 115 #[.agg (aK.cells x),.agg (aK.cells y)] w λrv w'=>rv=.bool (iv x y)/\St w0 L w':=by
 refine bp Tryz.func115 Tryz.ntmps115 (En (Ls (Lg [0,1] (Dz (kR (aK.cells x) hs λz w2 a6=>Lo (Dz (kR (aK.cells y) a6 λb4 w5 a=>Lz (Ls (Lg [31] (Dz (gZ 0 6 (Hl 1 1 0 a (Hl 3 0 0 a Hz)) (gC 10 ((x.kd:Int) == y.kd) (λd=>?_) (λd=>?_)))))))))))))
 ·refine gZ 6 7 (Hl 7 1 1 a (Hl 9 0 1 a Hz)) (gC 17 ((x.vw:Int) == y.vw) (λe=>?_) (λe=>?_))
  ·refine gZ 13 7 (Hl 14 1 2 a (Hl 16 0 2 a Hz)) (gC 24 ((x.k:Int) == y.k) (λi=>?_) (λi=>?_))
   ·refine Zp 20 4 [(21,.agg (dM.cells x.rq)),(23,.agg (dM.cells y.rq))] [(21,[.prop (Array.size (dM.cells x.rq)=40),.cells ⟨z,3,none⟩ (dM.cells x.rq)]),(23,[.prop (Array.size (dM.cells y.rq)=40),.cells ⟨b4,3,none⟩ (dM.cells y.rq)])] (ak (aB zk (dq (a.cells 1 3 rfl zk) av)) (ak (aB zk (dq (a.cells 0 3 rfl zk) av)) cW)) (ar.jY rfl zk (b:=true) (t:=36) (xs:=dM.cells x.rq) (ys:=dM.cells y.rq) (m:=3) zk zk zf zk (r:=decide (x.rq=y.rq)) (pT  (Dv x.rq y.rq)) (Zr 25 2 [] (gC 31 (decide (x.rq=y.rq)) (λo=>?_) (λo=>?_))))
    ·refine Zj (Hl 28 1 43 a (Hl 30 0 43 a Hz)) (aF (f:=160) (args:=#[.slice x.qa x.ql.length x.qc,.slice y.qa y.ql.length y.qc]) Tryz.call160 (sP x.ql y.ql zc (λw h=>hr1 _ (h.drop 2)) (λw h=>hr2 _ (h.drop 2)) a) ?_)
     rintro b2 b3 ⟨rfl,q⟩
     refine Lo (Dz (Zr 32 2 [] (gC 38 (decide (x.ql=y.ql)) (λu=>?_) (λu=>?_))))
     ·exact Zp 34 4 [(35,.agg (aO.cells x.dg)),(37,.agg (aO.cells y.dg))] [(35,[.prop (Array.size (aO.cells x.dg)=32),.cells ⟨z,44,none⟩ (aO.cells x.dg)]),(37,[.prop (Array.size (aO.cells y.dg)=32),.cells ⟨b4,44,none⟩ (aO.cells y.dg)])] (ak (aB zk (dq (q.cells 1 44 rfl zk) av)) (ak (aB zk (dq (q.cells 0 44 rfl zk) av)) cW)) (ar.jY rfl zk (b:=true) (t:=34) (xs:=aO.cells x.dg) (ys:=aO.cells y.dg) (m:=2) zk zk zf zk (r:=decide (x.dg=y.dg)) (pT  (Ac x.dg y.dg)) (En (aL (Lt (Le (Dz (bg (v:=.bool (decide (x.dg=y.dg))) (uD (by rw [iv,if_pos d,if_pos e,if_pos i,if_pos o,if_pos u]) (q.dr 2)))))))))
     ·exact En (aL (Lt (Le (Dz (bg (v:=.bool false) (uD (by rw [iv,if_pos d,if_pos e,if_pos i,if_pos o,nI u]) (q.dr 2)))))))
    ·exact En (Lw (qV (En (aL (Lt (Le (Dz (bg (v:=.bool false) (uD (by rw [iv,if_pos d,if_pos e,if_pos i,nI o]) (a.dr 2))))))))))
   ·exact En (Lw (qV (En (aL (Lt (Le (Dz (bg (v:=.bool false) (uD (by rw [iv,if_pos d,if_pos e,nI i]) (a.dr 2))))))))))
  ·exact En (Lw (qV (En (aL (Lt (Le (Dz (bg (v:=.bool false) (uD (by rw [iv,if_pos d,nI e]) (a.dr 2))))))))))
 ·exact En (Lw (qV (En (aL (Lt (Le (Dz (bg (v:=.bool false) (uD (by rw [iv,nI d]) (a.dr 2))))))))))
structure fA where
 p:Value
 g:Value
 m:Value
def fA.cells (x:fA):Array Value:=#[x.p,x.g,x.m]
abbrev kr:fA:=⟨.nilFunc,.nilFunc,.nilFunc⟩
abbrev EU (a b c:Nat):fA:=⟨.func (.func a) #[] #[],.func (.func b) #[] #[],.func (.func c) #[] #[]⟩
abbrev n7:Int->Value:=Value.int .u8
abbrev kt:fA->Value:=λv=>.agg (fA.cells v)
theorem gq:dI Tryz.prog 220 n7 kt 5 218 :=
 dI.now zk ⟨.int .u8,zk,λa b=>by simp [Instr.sameNow,n7,ib],.inl ⟨_,rfl⟩⟩ (λa=>by simp [Instr.sameBits,n7]) (λem a w=>rfl)
theorem qg (hs:St w0 L w):Cs Tryz.prog 151 #[] w λrv w'=>rv=.agg #[.func (.func 183) #[] #[],.func (.func 184) #[] #[],.func (.func 185) #[] #[]]/\St w0 L w':=by
 exact bp Tryz.func151 Tryz.ntmps151 (En (Ls (Lg [0] (Dz (oX (fA.cells kr) hs λe f b=>Lo (Ld (Lt (Ls (Lg [1] (Lw (Zu 0 0 #[.func (.func 183) #[] #[],.func (.func 184) #[] #[],.func (.func 185) #[] #[]] b λi a=>Lo (Ld (Lt (Le (Dz (Bu 0 a ⟨rfl,a.dr 1⟩))))))))))))))))
def kH:List (Int×fA):=dj (dj (dj (dj (dj (dj ([]) 1 (⟨.func (.func 142) #[] #[],.func (.func 144) #[] #[],.func (.func 146) #[] #[]⟩:fA)) 2 (⟨.func (.func 148) #[] #[],.func (.func 149) #[] #[],.func (.func 150) #[] #[]⟩:fA)) 3 (⟨.func (.func 183) #[] #[],.func (.func 184) #[] #[],.func (.func 185) #[] #[]⟩:fA)) 5 (⟨.func (.func 183) #[] #[],.func (.func 184) #[] #[],.func (.func 185) #[] #[]⟩:fA)) 4 (⟨.func (.func 152) #[] #[],.func (.func 153) #[] #[],.func (.func 154) #[] #[]⟩:fA)) 6 (⟨.func (.func 156) #[] #[],.func (.func 157) #[] #[],.func (.func 150) #[] #[]⟩:fA)
theorem dh (hs:St w0 L w):Cs Tryz.prog 107 #[] w λrv w'=>∃ r,rv=.map (some r)/\St w0 (bC n7 kt r kH::L) w':=by
 exact bp Tryz.func107 Tryz.ntmps107 (En (Lq (Ls (Lg [0,2,4,5,6,7,8,10,12] (Dz (ar.makeMap (α:=Int) (β:=fA) rfl rfl zk n7 kt hs λr1 x a=>Lo (Lw (ar.insert rfl zk gq (r:=r1) (k:=1) (v:=(⟨.func (.func 142) #[] #[],.func (.func 144) #[] #[],.func (.func 146) #[] #[]⟩:fA)) zk a 0 rfl λz b=>Lo (Lw (ar.insert rfl zk gq (r:=r1) (k:=2) (v:=(⟨.func (.func 148) #[] #[],.func (.func 149) #[] #[],.func (.func 150) #[] #[]⟩:fA)) zk b 0 rfl λw6 d=>Lo (Dz (sv (qg d) λa0 e=>Lo (Dz (ar.insert rfl zk gq (r:=r1) (k:=3) (v:=(⟨.func (.func 183) #[] #[],.func (.func 184) #[] #[],.func (.func 185) #[] #[]⟩:fA)) zk e 0 rfl λa1 f=>Lo (Dz (sv (qg f) λa3 i=>Lo (Dz (ar.insert rfl zk gq (r:=r1) (k:=5) (v:=(⟨.func (.func 183) #[] #[],.func (.func 184) #[] #[],.func (.func 185) #[] #[]⟩:fA)) zk i 0 rfl λa4 o=>Lo (Lw (ar.insert rfl zk gq (r:=r1) (k:=4) (v:=(⟨.func (.func 152) #[] #[],.func (.func 153) #[] #[],.func (.func 154) #[] #[]⟩:fA)) zk o 0 rfl λa5 q=>Lo (Lw (ar.insert rfl zk gq (r:=r1) (k:=6) (v:=(⟨.func (.func 156) #[] #[],.func (.func 157) #[] #[],.func (.func 150) #[] #[]⟩:fA)) zk q 0 rfl λa6 u=>Lz (Le (Dz (bg (v:=.map (some r1)) ⟨r1,rfl,u⟩)))))))))))))))))))))))))
end
structure my (kd:Int) (fp fg fm:Nat):Prop where
 cp:∀ (args:Array Value) (w:World),(callFunc fp args).run Tryz.prog w=.ok (.enter fp args) w
 cg:∀ (args:Array Value) (w:World),(callFunc fg args).run Tryz.prog w=.ok (.enter fg args) w
 cm:∀ (args:Array Value) (w:World),(callFunc fm args).run Tryz.prog w=.ok (.enter fm args) w
 may:∀ {w0 w:World}{L:List aI}(x:aK) (hkd:x.kd=kd) (hqn:x.ql.length<=9223372036854775807) (hr:∀ w,St w0 L w->ag w x.qa x.ql.length 2 (λk=>aT.cells (x.ql.getD k aR))) (hs:St w0 L w),Calls Tryz.prog fm #[.agg (aK.cells x)] w (aZ λrv w'=>rv=.bool (eo x)/\St w0 L w')
 put:∀ {w0 w:World}{L:List aI}{ad:Option Addr}{c:Nat}(l:List Int) (x:aK) (hkd:x.kd=kd) (hl:l.length<=90000) (hx:eI x) (hm:eo x=true) (hlq:x.ql.length<=1000) (hr:∀ w,St w0 L w->ag w x.qa x.ql.length 2 (λk=>aT.cells (x.ql.getD k aR))) (hs:St w0 (Sl ad c 5 1 af l::L) w),Calls Tryz.prog fp #[.slice ad l.length c,.agg (aK.cells x)] w (aZ λrv w'=>∃ (ao:Option Addr) (co:Nat),rv=.slice ao ((l++iL x).length) co/\St w0 (Sl ao co 5 1 af (l++iL x)::L) w')
 vc:∀ {w0 w:World}{L:List aI}{c:Nat}{az:Option Addr}{cz:Nat}{y:Nat}(Q:aI) (r:List Int) (sp:Bool) (hQ:∀ w,St w0 L w->Q.holds w) (hq:aX Q az r cz) (hkr:0<=kd/\kd<=255) (hs:St w0 (ah c #[.slice az r.length cz,.bool sp] 202::ah y (aK.cells (⟨kd,0,0,dk,none,0,[],aH⟩:aK)) 39::L) w),Calls Tryz.prog fg #[zP c 0,zP y 0] w (aZ λrv w'=>∃ (yy2:aK) (rr2:List Int) (sp2:Bool) (az2:Option Addr) (cz2:Nat),rv=.tuple #[]/\eJ kd (r,sp)=(ij yy2,(rr2,sp2))/\eI yy2/\aX Q az2 rr2 cz2/\St w0 (ah y (aK.cells yy2) 39::Sl yy2.qa yy2.qc 81 2 aT.cells yy2.ql::ah c #[.slice az2 rr2.length cz2,.bool sp2] 202::L) w')
 getM:∀ {w0 w:World}{L:List aI}{c:Nat}{az:Option Addr}{cz:Nat}{y:Nat}{og:Int}{nr:Int}{dp:aD}{tg:aO}(Q:aI) (r:List Int) (sp:Bool) (hQ:∀ w,St w0 L w->Q.holds w) (hq:aX Q az r cz) (hkr:0<=kd/\kd<=255) (hs:St w0 (ah c #[.slice az r.length cz,.bool sp] 202::ah y (an.cells (⟨og,nr,dp,(⟨kd,0,0,dk,none,0,[],aH⟩:aK),tg⟩:an)) 43::L) w),Calls Tryz.prog fg #[zP c 0,zP y 13] w (aZ λrv w'=>∃ (yy2:aK) (rr2:List Int) (sp2:Bool) (az2:Option Addr) (cz2:Nat),rv=.tuple #[]/\eJ kd (r,sp)=(ij yy2,(rr2,sp2))/\eI yy2/\aX Q az2 rr2 cz2/\St w0 (ah y (an.cells (⟨og,nr,dp,yy2,tg⟩:an)) 43::Sl yy2.qa yy2.qc 81 2 aT.cells yy2.ql::ah c #[.slice az2 rr2.length cz2,.bool sp2] 202::L) w')
theorem CP:my 1 142 144 146 where
 cp:=Tryz.call142
 cg:=Tryz.call144
 cm:=Tryz.call146
 may:=λx hkd hqn hr hs=>by
  rw [show eo x=eV x.rq from if_pos za]
  exact xY x hs
 put:=λl x hkd hl hx hm hlq hr hs=>by
  rw [show iL x=y6 x from if_pos za]
  exact x5 l x hl hx (lS (by rw [show eo x=eV x.rq from if_pos za] at hm;exact hm)) hs
 vc:=λQ r sp hQ hq hkr hs=>uS Q r sp 1 hQ hq hkr rfl hs
 getM:=λQ r sp hQ hq hkr hs=>uV Q r sp 1 hQ hq hkr rfl hs
theorem CQ:my 2 148 149 150 where
 cp:=Tryz.call148
 cg:=Tryz.call149
 cm:=Tryz.call150
 may:=λx hkd hqn hr hs=>by
  rw [show eo x=kB x from(if_neg za).trans (if_pos za)]
  exact Ai x hs
 put:=λl x hkd hl hx hm hlq hr hs=>by
  rw [show iL x=qd x from(if_neg za).trans (if_pos za)]
  exact x6 l x hl hx hs
 vc:=λQ r sp hQ hq hkr hs=>uT Q r sp 2 hQ hq hkr rfl hs
 getM:=λQ r sp hQ hq hkr hs=>uW Q r sp 2 hQ hq hkr rfl hs
theorem CR:my 3 183 184 185 where
 cp:=Tryz.call183
 cg:=Tryz.call184
 cm:=Tryz.call185
 may:=λx hkd hqn hr hs=>by
  rw [show eo x=decide ((x.vw:Int) >= 1) from(if_neg za).trans ((if_neg za).trans (if_neg za))]
  exact qe x hs
 put:=λl x hkd hl hx hm hlq hr hs=>by
  rw [show iL x=wd x.vw from(if_neg za).trans ((if_neg za).trans ((if_neg za).trans (if_neg za)))]
  exact qf l x hl hx hs
 vc:=λQ r sp hQ hq hkr hs=>nY Q r sp 3 hQ hq hkr zf hs
 getM:=λQ r sp hQ hq hkr hs=>nZ Q r sp 3 hQ hq hkr zf hs
theorem CT:my 4 152 153 154 where
 cp:=Tryz.call152
 cg:=Tryz.call153
 cm:=Tryz.call154
 may:=λx hkd hqn hr hs=>by
  rw [show eo x=(decide ((x.vw:Int) >= 1) && jk x.ql) from(if_neg za).trans ((if_neg za).trans (if_pos za))]
  exact xZ x hqn hr hs
 put:=λl x hkd hl hx hm hlq hr hs=>by
  rw [show iL x=xX x from(if_neg za).trans ((if_neg za).trans (if_pos za))]
  exact x8 l x hl hx hlq hr hs
 vc:=λQ r sp hQ hq hkr hs=>uY Q r sp 4 hQ hq hkr rfl hs
 getM:=λQ r sp hQ hq hkr hs=>uZ Q r sp 4 hQ hq hkr rfl hs
theorem CU:my 5 183 184 185 where
 cp:=Tryz.call183
 cg:=Tryz.call184
 cm:=Tryz.call185
 may:=λx hkd hqn hr hs=>by
  rw [show eo x=decide ((x.vw:Int) >= 1) from(if_neg za).trans ((if_neg za).trans (if_neg za))]
  exact qe x hs
 put:=λl x hkd hl hx hm hlq hr hs=>by
  rw [show iL x=wd x.vw from(if_neg za).trans ((if_neg za).trans ((if_neg za).trans (if_neg za)))]
  exact qf l x hl hx hs
 vc:=λQ r sp hQ hq hkr hs=>nY Q r sp 5 hQ hq hkr zf hs
 getM:=λQ r sp hQ hq hkr hs=>nZ Q r sp 5 hQ hq hkr zf hs
theorem CV:my 6 156 157 150 where
 cp:=Tryz.call156
 cg:=Tryz.call157
 cm:=Tryz.call150
 may:=λx hkd hqn hr hs=>by
  rw [show eo x=kB x from(if_neg za).trans (if_pos za)]
  exact Ai x hs
 put:=λl x hkd hl hx hm hlq hr hs=>by
  rw [show iL x=y7 x from(if_neg za).trans ((if_neg za).trans ((if_neg za).trans (if_pos za)))]
  exact x7 l x hl hx hs
 vc:=λQ r sp hQ hq hkr hs=>uU Q r sp 6 hQ hq hkr rfl hs
 getM:=λQ r sp hQ hq hkr hs=>uX Q r sp 6 hQ hq hkr rfl hs
theorem kX {kd:Int}(h:1<=kd/\kd<=6):∃ fp fg fm,cT kH kd=some (EU fp fg fm)/\my kd fp fg fm:=by
 obtain rfl|rfl|rfl|rfl|rfl|rfl:kd=1\/kd=2\/kd=3\/kd=4\/kd=5\/kd=6:=za
 ·exact⟨142,144,146,rfl,CP⟩
 ·exact⟨148,149,150,rfl,CQ⟩
 ·exact⟨183,184,185,rfl,CR⟩
 ·exact⟨152,153,154,rfl,CT⟩
 ·exact⟨183,184,185,rfl,CU⟩
 ·exact⟨156,157,150,rfl,CV⟩
theorem n9 {kd:Int}(h:¬ (1<=kd/\kd<=6)):cT kH kd=none:=by
 have hn:kH.find? (λx=>decide (x.1=kd))=none:=by
  refine List.find?_eq_none.2 λx hx a=>h ?_
  have hk:∀ x∈kH,1<=x.1/\x.1<=6:=λx hx=>by
   have e:kH.map (λx=>x.1)=[1,2,3,5,4,6]:=rfl
   have b:=e▸List.mem_map_of_mem (f:=λx:Int×fA=>x.1) hx
   simp only [List.mem_cons,List.not_mem_nil,or_false] at b
   omega
  rw [<- of_decide_eq_true a]
  exact hk x hx
 show(kH.find? λx=>decide (x.1=kd)).map (·.2)=none
 rw [hn]
 rfl
theorem mz (kd:Int):(cT kH kd).isSome=decide (1<=kd/\kd<=6):=by
 by_cases h:1<=kd/\kd<=6
 ·obtain⟨fp,fg,fm,hc,-⟩:=kX h
  rw [hc,decide_eq_true h]
  rfl
 ·rw [n9 h,decide_eq_false h]
  rfl
section
variable {w0 w : World} {L : List aI}
theorem eC (n:Int):∀ z∈wd n,0<=z/\z<256:=by
 intro x hx
 obtain⟨k,-,rfl⟩:=List.mem_map.1 hx
 exact fY _
def fE (l:List Int):Prop:=∀ z∈l,0<=z/\z<256
theorem fE.app {l m:List Int}(h:fE l) (h2:fE m):fE (l++m):=λx hx=>(List.mem_append.1 hx).elim (h x) (h2 x)
theorem fE.one {v:Int}(h:0<=v/\v<256):fE [v]:=λz hz=>by rw [List.mem_singleton.1 hz];exact h
theorem fE.nil:fE []:=λz hz=>by cases hz
theorem rh (s:ByteArray):fE (tx s):=fE.app (λz hz=>by
 rcases List.mem_cons.1 hz with rfl|hz
 ·exact fY _
 ·rw [List.mem_singleton.1 hz];exact fY _) (λx hx=>by
 obtain⟨b,-,rfl⟩:=List.mem_map.1 hx
 have:=b.toNat_lt
 omega)
theorem BC {r:dM}(h:sM r):fE (qb r):=by
 have:=h.kd
 refine fE.app (λz hz=>?_) (fE.app (eC _) (fE.app (eC _) (fE.app (rh _) (fE.app (rh _) (fE.app (rh _) (rh _))))))
 rcases List.mem_cons.1 hz with rfl|hz
 ·exact fY _
 ·rw [List.mem_singleton.1 hz];omega
theorem wS {x:aK}(h:eI x):fE (iL x):=by
 unfold iL
 split
 ·exact fE.app (eC _) (fE.app (BC h.rq) h.rq.tg)
 ·split
  ·exact fE.app (eC _) (eC _)
  ·split
   ·refine fE.app (eC _) (fE.app (fE.one (fY _)) λz hz=>?_)
    obtain⟨p,-,hp⟩:=List.mem_flatMap.1 hz
    exact fE.app (fE.one (fY _)) (eC _) z hp
   ·split
    ·exact fE.app (eC _) h.dg
    ·exact eC _
theorem ri {x:aK}(hm:eo x=true) (hq:x.ql.length<=11):8<=(iL x).length/\(iL x).length<=600:=by
 unfold iL
 split
 ·rename_i a
  have hz:=kq (lS (by rw [show eo x=eV x.rq from if_pos a] at hm;exact hm))
  simp only [y6,List.length_append,aP,aO.len]
  omega
 ·repeat' split
  all_goals simp only [qd,xX,y7,List.length_append,List.length_cons,List.length_nil,aP,aO.len,fw]
  all_goals omega
def fx (x:aK):Bool:=if 1<=x.kd/\x.kd<=6 then (if x.vw >= 1073741824 then false else if eo x=false then false else if x.ql.length>11 then false else iv x (eJ x.kd (iL x,false)).1) else false
theorem wT {kd:Int}{v:fA}(h:cT kH kd=some v):1<=kd/\kd<=6:=by
 have a:=mz kd
 rw [h] at a
 exact of_decide_eq_true a.symm
theorem DA {kd:Int}(h:cT kH kd=none):¬ (1<=kd/\kd<=6):=by
 have a:=mz kd
 rw [h] at a
 exact of_decide_eq_false a.symm
theorem BD x fp fg fm (hc:cT kH x.kd=some (EU fp fg fm)) (C:my x.kd fp fg fm) (hx:eI x) (hr:Rw w0 L aT.cells 2 aR x.qa x.ql) (hs:St w0 L w):Cs Tryz.prog 71 #[.agg (aK.cells x)] w λrv w'=>rv=.bool (fx x)/\St w0 L w':=by
 refine bp Tryz.func71 Tryz.ntmps71 (En (Ls (Lg [0] (Dz (kR (aK.cells x) hs λa w2 b3=>Lz (Ls (Dz (aE.join (T:=Nat×Nat) (E:=λjx=>[(1,zP a 0),(2,.bool false),(3,zP jx.1 0),(4,.bool true)]) (F:=λjx w=>St w0 (ah jx.1 (fA.cells (⟨.func (.func fp) #[] #[],.func (.func fg) #[] #[],.func (.func fm) #[] #[]⟩:fA)) 218::bC n7 kt jx.2 kH::ah a (aK.cells x) 39::L) w) ?_ ?_))))))))
 ·refine aE.aV [0,0,2,7,15,31,31,0,191,511] (.rd 1 (.rd 2 (.alt (.ef 0 (.rd 3 (.rd 4 (.rd 5 (.rd 6 (.ef 7 (.ef 8 (.rd 9 .done)))))))) (.ef 7 (.ef 0 (.rd 3 (.rd 4 (.rd 5 (.rd 6 (.ef 8 (.rd 9 .done))))))))))) zk zk ai zk b3 λw4 u d6=>gZ 1 2 (Hl 2 0 0 u Hz) (ar.alt ?_ ?_)
  ·refine Zc (dh u) ?_
   rintro v9 d7 ⟨r7,rfl,a0⟩
   exact⟨bw (n:=[.cell ⟨a,0,none⟩ (.int .u8 x.kd)]) zk (aG (a0.cell 1 rfl zk) av),ar.lookup rfl zk gq (r:=r7) (k:=x.kd) (ok:=true) zk a0 0 rfl (z:=kt kr) zk (v:=.tuple #[.agg #[.func (.func fp) #[] #[],.func (.func fg) #[] #[],.func (.func fm) #[] #[]],.bool true]) (by rw [hc];rfl) (Zr 4 3 [] (oX (fA.cells kr) a0 λb4 d8 a1=>⟨bw (n:=[.holds (bC n7 kt r7 kH).holds,.cell ⟨a,0,none⟩ (.int .u8 x.kd)]) zk (Ch (a1.at_ 1 rfl) (aG (a1.cell 2 rfl zk) av)),(Zu 0 0 (fA.cells (⟨.func (.func fp) #[] #[],.func (.func fg) #[] #[],.func (.func fm) #[] #[]⟩:fA)) a1 λd9 b5=>Lo (Dz (Zr 9 1 [] (Zd (uA [1,2,3,4] (b4,r7) b5)))))⟩))⟩
  refine oX (fA.cells kr) u λb6 e0 a9=>⟨bw (n:=[.cell ⟨a,0,none⟩ (.int .u8 x.kd)]) zk (aG (a9.cell 1 rfl zk) av),Zc (dh a9) ?_⟩
  rintro e1 e2 ⟨b0,rfl,a2⟩
  exact⟨bw (n:=[.cell ⟨a,0,none⟩ (.int .u8 x.kd)]) zk (aG (a2.cell 2 rfl zk) av),ar.lookup rfl zk gq (r:=b0) (k:=x.kd) (ok:=true) zk a2 0 rfl (z:=kt kr) zk (v:=.tuple #[.agg #[.func (.func fp) #[] #[],.func (.func fg) #[] #[],.func (.func fm) #[] #[]],.bool true]) (by rw [hc];rfl) (Zr 4 3 [] (Zu 1 0 (fA.cells (⟨.func (.func fp) #[] #[],.func (.func fg) #[] #[],.func (.func fm) #[] #[]⟩:fA)) a2 λe3 b7=>Lo (Dz (Zr 9 1 [] (Zd (uA [1,2,3,4] (b6,b0) (((b7.pl 2).pl 1).pl 2)))))))⟩
 rintro⟨i,b9⟩ c0 c1
 have b:St w0 (ah i (fA.cells (⟨.func (.func fp) #[] #[],.func (.func fg) #[] #[],.func (.func fm) #[] #[]⟩:fA)) 218::bC n7 kt b9 kH::ah a (aK.cells x) 39::L) c0:=c1
 refine aw.cq (S':=[(1,zP a 0),(2,.bool false),(3,zP i 0),(4,.bool true)]) rfl (En (Lt (Ls (Ls (Lg [11] (Dz (gZ 0 8 (Hl 4 2 1 b Hz) (Dj 20 ((x.vw:Int) >= 1073741824) (λd=>?_) (λd=>?_)))))))))
 ·exact En (Lw (qV (En (aL (Lt (LT (Lq (Le (Ly (Dz (bg (v:=.bool false) ⟨(by unfold fx;rw [if_pos (wT hc),if_pos d]),b.dr 3⟩)))))))))))
 ·refine Zj (Hl 9 0 2 b (du 10 2 0 76 (aK.cells x) b Hz)) (aF (f:=fm) (args:=#[.agg (aK.cells x)]) C.cm (C.may x rfl hx.qn (λw h=>hr _ (h.drop 3)) b) ?_)
  rintro e4 e5 ⟨rfl,e⟩
  refine Lo (Dz (Zr 12 3 [] (gC 27 (!(eo x)) (λo=>?_) (λo=>?_))))
  ·exact En (aL (Lt (LT (Lq (Le (Ly (Dz (bg (v:=.bool false) ⟨(by unfold fx;rw [if_pos (wT hc),if_neg d,if_pos (by simpa using o)]),e.dr 3⟩))))))))
  ·have b2:=km o
   have hm:eo x=true:=b2
   refine gY (Hl 16 2 43 e Hz) (Zt (Zi ((x.ql.length:Int)>11) (λc4=>?_) (λc4=>?_)))
   ·exact En (Lq (Le (Ly (Dz (bg (v:=.bool false) ⟨(by unfold fx;rw [if_pos (wT hc),if_neg d,if_neg (by rw [hm];decide),if_pos za]),e.dr 3⟩)))))
   ·refine Zk (Zt (Zs (bL [3,4] (Hl 1 2 0 e Hz) (oX (aK.cells cU) e λc6 e6 c7=>Lo (Dz (Zu 0 0 (aK.cells (⟨x.kd,0,0,dk,none,0,[],aH⟩:aK)) c7 λe7 c8=>Lo (Ld (Lt (Ls (Dz (ZD (jX [0,1,2,3,4] (.ef 5 (.ef 6 (.ef 7 .done)))) c8 λe8 q e9=>Zj (Hl 1 1 1 q (Hl 3 1 0 q (du 4 3 0 76 (aK.cells x) q Hz))) (aF (f:=fp) (args:=#[.slice none (([]:List Int).length) 0,.agg (aK.cells x)]) C.cp (C.put ([]:List Int) x rfl (by first|omega|(exact Nat.zero_le _)) hx hm (by first|omega|(exact Nat.zero_le _)) (λw h=>hr _ (h.drop 4)) (St.bW q 5 1 af)) ?_))))))))))))
    rintro f0 f1 ⟨f2,f3,rfl,a3⟩
    refine⟨bw (n:=[.cell ⟨i,1,none⟩ (.func (.func fg) #[] #[])]) zk (aG (a3.cell 2 rfl zk) av),Zc (df (([]:List Int)++iL x) (by have:=ri hm za;rw [List.nil_append];omega) (dQ a3 0 rfl) (λw h=>h.rows 0 rfl aj.size _) a3) ?_⟩
    rintro f4 f5 ⟨d0,a4,a5,rfl,a6⟩
    have d1:aX (Sl a4 a5 5 1 af (([]:List Int)++iL x)) a4 (([]:List Int)++iL x) a5:=aX.new a6 (j:=1) rfl (fE.app fE.nil (wS hx)) (by have:=ri hm za;rw [List.nil_append];omega)
    refine⟨bw (n:=[.cell ⟨i,1,none⟩ (.func (.func fg) #[] #[])]) zk (aG (a6.cell 4 rfl zk) av),aF (f:=fg) (args:=#[zP d0 0,zP c6 0]) C.cg (C.vc (Sl a4 a5 5 1 af (([]:List Int)++iL x)) (([]:List Int)++iL x) false (λw h=>h.at_ 0 rfl) d1 hx.kd ((a6.pl 3).pl 1)) ?_⟩
    rintro f6 f7 ⟨a7,f8,f9,g0,g5,rfl,d3,g7,g8,a8⟩
    exact Lo (Ld (Lt (Ls (Dz (bL [2] (du 0 7 0 76 (aK.cells x) a8 (du 1 0 0 76 (aK.cells a7) a8 Hz)) (sv (x9 x a7 hx.qn (λw h=>hr _ (h.drop 8)) (λw h=>h.rows 1 rfl mX.size _) a8) λh0 d4=>Lz (Le (Dz (bg (v:=.bool (iv x a7)) ⟨(by unfold fx;rw [if_pos (wT hc),if_neg d,if_neg (by rw [hm];decide),if_neg za,show eJ x.kd (iL x,false)=_ from d3];rfl),d4.dr 8⟩)))))))))
theorem BE x (hc:cT kH x.kd=none) (hx:eI x) (hr:Rw w0 L aT.cells 2 aR x.qa x.ql) (hs:St w0 L w):Cs Tryz.prog 71 #[.agg (aK.cells x)] w λrv w'=>rv=.bool (fx x)/\St w0 L w':=by
 refine bp Tryz.func71 Tryz.ntmps71 (En (Ls (Lg [0] (Dz (kR (aK.cells x) hs λa w2 a0=>Lz (Ls (Dz (aE.join (T:=Nat×Nat) (E:=λjx=>[(1,zP a 0),(2,.bool false),(3,zP jx.1 0),(4,.bool false)]) (F:=λjx w=>St w0 (ah jx.1 (fA.cells kr) 218::bC n7 kt jx.2 kH::ah a (aK.cells x) 39::L) w) ?_ ?_))))))))
 ·refine aE.aV [0,0,2,7,15,31,31,0,191,511] (.rd 1 (.rd 2 (.alt (.ef 0 (.rd 3 (.rd 4 (.rd 5 (.rd 6 (.ef 7 (.ef 8 (.rd 9 .done)))))))) (.ef 7 (.ef 0 (.rd 3 (.rd 4 (.rd 5 (.rd 6 (.ef 8 (.rd 9 .done))))))))))) zk zk ai zk a0 λw4 b b2=>gZ 1 2 (Hl 2 0 0 b Hz) (ar.alt ?_ ?_)
  ·refine Zc (dh b) ?_
   rintro v9 b3 ⟨d,rfl,e⟩
   exact⟨bw (n:=[.cell ⟨a,0,none⟩ (.int .u8 x.kd)]) zk (aG (e.cell 1 rfl zk) av),ar.lookup rfl zk gq (r:=d) (k:=x.kd) (ok:=true) zk e 0 rfl (z:=kt kr) zk (v:=.tuple #[.agg (fA.cells kr),.bool false]) (by rw [hc];rfl) (Zr 4 3 [] (oX (fA.cells kr) e λa1 b4 f=>⟨bw (n:=[.holds (bC n7 kt d kH).holds,.cell ⟨a,0,none⟩ (.int .u8 x.kd)]) zk (Ch (f.at_ 1 rfl) (aG (f.cell 2 rfl zk) av)),(Zu 0 0 (fA.cells kr) f λb5 a2=>Lo (Dz (Zr 9 1 [] (Zd (uA [1,2,3,4] (a1,d) a2)))))⟩))⟩
  refine oX (fA.cells kr) b λa3 b6 o=>⟨bw (n:=[.cell ⟨a,0,none⟩ (.int .u8 x.kd)]) zk (aG (o.cell 1 rfl zk) av),Zc (dh o) ?_⟩
  rintro b7 b8 ⟨q,rfl,i⟩
  exact⟨bw (n:=[.cell ⟨a,0,none⟩ (.int .u8 x.kd)]) zk (aG (i.cell 2 rfl zk) av),ar.lookup rfl zk gq (r:=q) (k:=x.kd) (ok:=true) zk i 0 rfl (z:=kt kr) zk (v:=.tuple #[.agg (fA.cells kr),.bool false]) (by rw [hc];rfl) (Zr 4 3 [] (Zu 1 0 (fA.cells kr) i λb9 a4=>Lo (Dz (Zr 9 1 [] (Zd (uA [1,2,3,4] (a3,q) (((a4.pl 2).pl 1).pl 2)))))))⟩
 rintro⟨u,a6⟩ a7 a8
 have a9:St w0 (ah u (fA.cells kr) 218::bC n7 kt a6 kH::ah a (aK.cells x) 39::L) a7:=a8
 exact aw.cq (S':=[(1,zP a 0),(2,.bool false),(3,zP u 0),(4,.bool false)]) rfl (En (Lt (Ls (Ls (Lg [11] (Lw (qV (En (aL (Lt (LT (Lq (Le (Ly (Dz (bg (v:=.bool false) ⟨(by unfold fx;rw [if_neg (DA hc)]),a9.dr 3⟩))))))))))))))))
theorem ya x (hx:eI x) (hr:Rw w0 L aT.cells 2 aR x.qa x.ql) (hs:St w0 L w):Cs Tryz.prog 71 #[.agg (aK.cells x)] w λrv w'=>rv=.bool (fx x)/\St w0 L w':=by
 by_cases h:1<=x.kd/\x.kd<=6
 ·obtain⟨fp,fg,fm,hc,C⟩:=kX h
  exact BD x fp fg fm hc C hx hr hs
 ·exact BE x (n9 h) hx hr hs
end
section
variable {w0 w : World} {L : List aI} {ad : Option Addr} {c : Nat}
theorem BF {l:List Int}(h:0<l.length):l.getD 0 0<=65536↔∀ x∈l.take 1,x<=65536:=by
 cases l with
 | nil=>cases h
 | cons a l=>simp
theorem Aj {l:List Int}{k:Nat}{v:Int}(hk:k<l.length) (h:v<=65536↔∀ x∈l.take k,x<=65536):max v (l.getD k 0)<=65536↔∀ x∈l.take (k+1),x<=65536:=by
 rw [bh (d:=(0:Int)) hk]
 simp only [List.mem_append,List.mem_singleton]
 constructor
 ·intro a z hz
  rcases hz with hz|rfl
  ·exact h.1 za z hz
  ·omega
 ·intro a
  have b:=h.2 λz hz=>a z (.inl hz)
  have e:=a _ (.inr rfl)
  omega
theorem Ak l (hl:0<l.length) (hll:l.length<=1000) (hr:Rw w0 L bG 1 0 ad l) (hs:St w0 L w):Cs Tryz.prog 70 #[.slice ad l.length c] w λrv w'=>∃ v,rv=.int .u64 v/\(v<=65536↔∀ x∈l,x<=65536)/\St w0 L w':=by
 refine bp Tryz.func70 Tryz.ntmps70 (En (Lq (Ls (Lq (Dz (Zi ((l.length:Int)<1) (λe=>?_) (λe=>?_)))))))
 ·exfalso;omega
 ·obtain⟨a,b,rfl⟩:=ag.isSome (hr _ (hs.drop 0)) za
  refine Zk (Zt (Zs (bj (Hx 1 (0:Int) (l.length:Int) a b 1 (Hg 2 (.gen [.int .u64 (l.getD 0 0)]) [.cell ⟨a,b+(0*1),none⟩ (.int .u64 (l.getD 0 0))] (aG (ag.cC (hr _ (hs.drop 0)) (k:=0) zd (j:=0) zf zk) av) Hz)) (En (Lt (Ls (Lq (Lb (Dz (aE.loop (T:=Nat×Int) (λgg=>[(0,zL a b l.length c),(2,.int .u64 0),(3,.int .u64 gg.2),(4,.int .i64 (gg.1:Nat))]) (λgg w=>(1<=gg.1/\gg.1<=l.length/\(gg.2<=65536↔∀ x∈l.take gg.1,x<=65536))/\St w0 L w) (λgg=>l.length-gg.1) (1,(l.getD 0 0)) [0,2,3,4] zk ⟨⟨Nat.le_refl _,hl,BF hl⟩,hs⟩ ?_))))))))))
  rintro⟨k,v⟩ i ⟨hp,d⟩
  dsimp only at hp d
  refine En (Ls (Lq (Dz (Zi ((k:Int)<(l.length:Nat)) (λf=>?_) (λf=>?_)))))
  ·have hk:k<l.length:=za
   exact Zk (Zt (Zs (Zb (bj (Hx 3 (k:Int) (l.length:Int) a b 1 (Hg 4 (.gen [.int .u64 (l.getD k 0)]) [.cell ⟨a,b+(k*1),none⟩ (.int .u64 (l.getD k 0))] (aG (ag.cC (hr _ (d.drop 0)) (k:=k) zd (j:=0) zf zk) av) (Hg 5 (.cI (.int .u64 (max v (l.getD k 0))) (.gen [])) [.prop (Value.int .u64 (if (l.getD k 0)>v then (l.getD k 0) else v)=Value.int .u64 (max v (l.getD k 0)))] (aB wQ av) Hz))) (Zm (Zt (bj (cH 1 ((k:Nat)+1) Hz) (aw.back (k+1,max v (l.getD k 0)) [0,2,3,4] zk (by show l.length-(k+1)<l.length-k;omega) ⟨⟨za,za,Aj hk hp.2.2⟩,d⟩))))))))
  ·have hke:l.take k=l:=List.take_of_length_le za
   exact En (Lx (gv (gw (Lh (Lt (Lq (Le (Dz (bg (v:=.int .u64 v) ⟨v,rfl,(hke▸hp.2.2),d⟩)))))))))
structure fa (m:an):Prop where
 og:-9223372036854775808<=m.og/\m.og<=9223372036854775807
 nr:0<=m.nr/\m.nr<=18446744073709551615
 dp:∀ x∈m.dp.toList,0<=x/\x<=18446744073709551615
 bd:eI m.bd
 tg:∀ z∈m.tg.toList,0<=z/\z<256
instance:DecidablePred λd:aD=>∀ x∈d.toList,x<=65536:=λd=>inferInstance
def sQ (m:an):Bool:=((((decide ((m.og:Int)<1)) || (decide ((m.og:Int)>11))) || (decide ((m.nr:Int)<1))) || (decide ((m.nr:Int)>65536))) || (((m.dp.toList.getD (Int.toNat (m.og-1)) 0):Int) != (m.nr-1))
def cZ (m:an):Bool:=if sQ m=true then false else if ∀ x∈m.dp.toList,x<=65536 then fx m.bd else false
theorem gM m (hm:fa m) (hr:Rw w0 L aT.cells 2 aR m.bd.qa m.bd.ql) (hs:St w0 L w):Cs Tryz.prog 28 #[.agg (an.cells m)] w λrv w'=>rv=.bool (cZ m)/\St w0 L w':=by
 refine bp Tryz.func28 Tryz.ntmps28 (Zs ?_)
 have g1:=hm.og
 have g2:=hm.nr
 refine Zg [0] (kR (an.cells m) hs λb w2 a3=>Lz (Ls (Ls (Dz (aE.join (T:=Unit) (E:=λ_=>[(32,.bool (((((decide ((m.og:Int)<1)) || (decide ((m.og:Int)>11))) || (decide ((m.nr:Int)<1))) || (decide ((m.nr:Int)>65536))) || (((m.dp.toList.getD (Int.toNat (m.og-1)) 0):Int) != (m.nr-1)))),(2,.bool false),(1,zP b 0)]) (F:=λ_ w=>St w0 (ah b (an.cells m) 43::L) w) ?_ ?_)))))
 ·refine ZD (jX [0,1,2,3,4,5,6,7,8,9,10,11,12,13,14,15,16,17,18,19,20,21,22,23,24,25,26,27,28,29] .done) a3 λw4 a b5=>gZ 0 4 (Hl 1 0 0 a Hz) (gC 6 (decide ((m.og:Int)<1)) (λe=>?_) (λe=>?_))
  ·have a4:=of_decide_eq_true e
   exact En (aL (Dz (jF [32,2,1] () true (by first|rfl|simp [Hb,e]) a)))
  ·have a4:=of_decide_eq_false e
   refine gZ 4 5 (Hl 5 0 0 a Hz) (gC 11 (decide ((m.og:Int)>11)) (λo=>?_) (λo=>?_))
   ·have a5:=of_decide_eq_true o
    exact En (aL (Dz (jF [32,2,1] () true (by first|rfl|simp [Hb,e,o]) a)))
   ·have a5:=of_decide_eq_false o
    refine gZ 9 5 (Hl 10 0 1 a Hz) (gC 16 (decide ((m.nr:Int)<1)) (λi=>?_) (λi=>?_))
    ·have a6:=of_decide_eq_true i
     exact En (aL (Dz (jF [32,2,1] () true (by first|rfl|simp [Hb,e,o,i]) a)))
    ·have a6:=of_decide_eq_false i
     refine gZ 14 5 (Hl 15 0 1 a Hz) (gC 21 (decide ((m.nr:Int)>65536)) (λu=>?_) (λu=>?_))
     ·have a7:=of_decide_eq_true u
      exact En (aL (Dz (jF [32,2,1] () true (by first|rfl|simp [Hb,e,o,i,u]) a)))
     ·have a7:=of_decide_eq_false u
      exact gY (Hl 20 0 0 a (cH 21 (m.og-1) (Hx 23 ((m.og-1):Int) (11:Int) b 2 1 (Hg 24 (.gen [.int .u64 (m.dp.toList.getD (Int.toNat (m.og-1)) 0)]) [.cell ⟨b,2+((Int.toNat (m.og-1))*1),none⟩ (.int .u64 (m.dp.toList.getD (Int.toNat (m.og-1)) 0))] (aG (a.cell 0 rfl (aD.mW (off:=2) (d:=m.dp) zk za)) av) (Hl 26 0 1 a (qU 27 (m.nr-1) Hz)))))) (jF [32,2,1] () (((m.dp.toList.getD (Int.toNat (m.og-1)) 0):Int) != (m.nr-1)) (by first|rfl|simp [Hb,e,o,i,u]) a)
 intro _ b6 a0
 refine Zt (cS (t:=((((decide ((m.og:Int)<1)) || (decide ((m.og:Int)>11))) || (decide ((m.nr:Int)<1))) || (decide ((m.nr:Int)>65536))) || (((m.dp.toList.getD (Int.toNat (m.og-1)) 0):Int) != (m.nr-1))) (λq=>?_) (λq=>?_))
 ·exact En (Lq (Le (Ly (Dz (bg (v:=.bool false) ⟨(by unfold cZ;rw [if_pos (show sQ m=true from q)]),a0.dr 1⟩)))))
 ·have a1:=(Bool.or_eq_false_iff.1 q).1
  have h13aa:=(Bool.or_eq_false_iff.1 a1).1
  have h13aaa:=(Bool.or_eq_false_iff.1 h13aa).1
  have h13aaaa:=(Bool.or_eq_false_iff.1 h13aaa).1
  have h13aaab:(decide ((m.og:Int)>11))=false:=(Bool.or_eq_false_iff.1 h13aaa).2
  have h13aab:(decide ((m.nr:Int)<1))=false:=(Bool.or_eq_false_iff.1 h13aa).2
  have h13ab:(decide ((m.nr:Int)>65536))=false:=(Bool.or_eq_false_iff.1 a1).2
  have a9:(((m.dp.toList.getD (Int.toNat (m.og-1)) 0):Int) != (m.nr-1))=false:=(Bool.or_eq_false_iff.1 q).2
  refine Zk (Zt (Zs (bL [2,7] (Hg 1 (.cI (zL b 2 m.dp.toList.length 11) (.sub 0 11)) [.prop (((none:Option Operand)=none->(0:Nat)=0)/\((none:Option Operand)=none->(11:Nat)=11)/\(0:Nat)<=11/\(11:Nat)<=11),.prop (Value.slice (some (if 11=0 then Addr.mk b 2 none else (Addr.mk b 2 none).add (0*1))) (11-0) (11-0)=Value.slice (some ⟨b,2,none⟩) m.dp.toList.length 11)] (aB ⟨(by first|(intro _;rfl)|(intro hc;cases hc)),(by first|(intro _;rfl)|(intro hc;cases hc)),za,za⟩ (aB (by rw [aD.len];exact cw _ _ _ _ _ zf) av)) Hz) (aF (f:=70) (args:=#[zL b 2 m.dp.toList.length 11]) Tryz.call70 (Ak m.dp.toList (by rw [aD.len];decide) (by rw [aD.len];decide) (λw h=>aD.jU h 0 2 m.dp rfl zk) a0) ?_))))
  rintro b8 b9 ⟨b0,rfl,a2,x⟩
  refine Lo (Dz (Zr 3 2 [] (Dj 37 ((b0:Int)<=65536) (λz=>?_) (λz=>?_))))
  ·exact Zj (du 6 0 13 76 (aK.cells m.bd) x Hz) (sv (ya m.bd hm.bd (λw h=>hr _ (h.drop 1)) x) λc1 b2=>Lz (Le (Dz (bg (v:=.bool (fx m.bd)) ⟨(by unfold cZ;rw [if_neg (ne_true_of_eq_false (show sQ m=false from q)),if_pos (a2.1 z)]),b2.dr 1⟩))))
  ·exact En (Lw (qV (En (aL (Lt (Le (Dz (bg (v:=.bool false) ⟨(by unfold cZ;rw [if_neg (ne_true_of_eq_false (show sQ m=false from q)),if_neg (λi=>z (a2.2 i))]),x.dr 1⟩))))))))
end
section
variable {w0 w : World} {L : List aI}
def fj (m:an) (k:Nat):List Int:=[IntKind.u8.wrap m.og]++(m.dp.toList.take k).flatMap wd
theorem jl (m:an){k:Nat}(hk:k<11):fj m (k+1)=fj m k++wd (m.dp.toList.getD k 0):=by
 rw [fj,fj,bh (d:=(0:Int)) (by rw [aD.len];exact hk),List.flatMap_append,List.append_assoc]
 simp
theorem fQ (m:an):∀ k,k<=11->(fj m k).length=1+8*k
 | 0,_=>rfl
 | k+1,h=>by rw [jl m za,List.length_append,aP,fQ m k za];omega
def gj (m:an):List Int:=(fj m 11++[m.bd.kd])++iL m.bd
def gk (m:an):List Int:=if cZ m=true then gj m else []
def fI (m:an):List Int:=if cZ m=true then ((([]:List Int)++wd m.nr)++gj m)++m.tg.toList else []
theorem gD {m:an}(h:cZ m=true):fx m.bd=true:=by
 unfold cZ at h
 split at h
 ·cases h
 ·split at h
  ·exact h
  ·cases h
theorem fJ {x:aK}(h:fx x=true):(1<=x.kd/\x.kd<=6)/\eo x=true/\x.ql.length<=11:=by
 unfold fx at h
 split at h
 ·rename_i a
  split at h
  ·cases h
  ·split at h
   ·cases h
   ·rename_i b
    split at h
    ·cases h
    ·exact⟨a,by simpa using b,za⟩
 ·cases h
theorem eK {m:an}(h:cZ m=true):98<=(gj m).length/\(gj m).length<=700:=by
 obtain⟨d,a,b⟩:=fJ (gD h)
 have:=ri a b
 rw [gj,List.length_append,List.length_append,fQ m _ (Nat.le_refl _),List.length_cons,List.length_nil]
 omega
theorem nc {m:an}(hm:fa m):fE (gj m):=by
 have:=hm.bd.kd
 refine fE.app (fE.app (fE.app (fE.one (fY _)) λz hz=>?_) (fE.one za)) (wS hm.bd)
 obtain⟨y,-,hy⟩:=List.mem_flatMap.1 hz
 exact eC _ z hy
theorem kY {m:an}(hm:fa m):fE (gk m):=by
 unfold gk
 split
 ·exact nc hm
 ·exact fE.nil
theorem jm m (hm:fa m) (hb:cZ m=true) (hr:Rw w0 L aT.cells 2 aR m.bd.qa m.bd.ql) (hs:St w0 L w):Cs Tryz.prog 114 #[.agg (an.cells m)] w λrv w'=>∃ ao co,rv=.slice ao ((gj m).length) co/\St w0 (Sl ao co 5 1 af (gj m)::L) w':=by
 refine bp Tryz.func114 Tryz.ntmps114 (Zs ?_)
 have hin:=fJ (gD hb)
 obtain⟨fp,fg,fm,hc,C⟩:=kX hin.1
 refine Zg [0] (kR (an.cells m) hs λa w2 a7=>Lz (Ls (Dz (bL [3] (Hl 1 0 0 a7 Hz) (sb aJ aj [(IntKind.u8.wrap m.og:Int)] a7 λb4 w5 a8=>Lz (Ls (Ls (Dz (bj (du 1 1 2 11 (aD.cells m.dp) a8 Hz) (Zt (Zb ?_)))))))))))
 have b2:St w0 (Sl (some ⟨b4,0,none⟩) 1 5 1 af (fj m 0)::ah a (an.cells m) 43::L) w5:=a8
 refine aE.loop (T:=Nat×(Option Addr)×Nat) (λgg=>[(1,zP a 0),(2,.slice none 0 0),(3,.slice gg.2.1 ((fj m gg.1).length) gg.2.2),(11,.agg (aD.cells m.dp)),(12,.int .i64 (gg.1:Nat))]) (λgg w=>(gg.1<=11)/\St w0 (Sl gg.2.1 gg.2.2 5 1 af (fj m gg.1)::ah a (an.cells m) 43::L) w) (λgg=>11-gg.1) (0,some ⟨b4,0,none⟩,1) [1,2,3,11,12] zk ⟨Nat.zero_le _,b2⟩ ?_
 rintro⟨k,ad,c⟩ d8 ⟨hp,a4⟩
 dsimp only at hp a4
 refine En (Lq (Ls (Dz (Zi ((k:Int)<11) (λb3=>?_) (λb3=>?_)))))
 ·have hk:k<11:=za
  have hkl:=fQ m k za
  have hdk:=hm.dp (m.dp.toList.getD k 0) (eF (d:=(0:Int)) (by rw [aD.len];exact hk))
  refine Zk (Zt (Zs (Zb (Zs (bj (Hg 0 (.elem (.int .u64 (m.dp.toList.getD k 0))) [.prop (0<=(k:Int)/\(k:Int)<(11:Int)),.prop ((aD.cells m.dp)[Int.toNat (k:Nat)*1]?=some (.int .u64 (m.dp.toList.getD k 0)))] (aB za (aB (by rw [Nat.mul_one];exact aD.at_ _ k za) av)) Hz) (En (Lt (Lg [2] (Lw (Zc (bX (fj m k) (m.dp.toList.getD k 0) ze za a4) ?_))))))))))
  rintro d9 b5 ⟨o,q,rfl,b6⟩
  refine Lo (aL (Lm (Lt (Dz (bj (cH 0 ((k:Nat)+1) Hz) ?_)))))
  have b7:St w0 (Sl o q 5 1 af (fj m (k+1))::ah a (an.cells m) 43::L) b5:=(by rw [jl m hk];exact b6)
  exact aw.pick [12,3,1,2,11] (S':=[(12,.int .i64 ((k:Nat)+1)),(3,.slice o ((fj m k++wd (m.dp.toList.getD k 0)).length) q),(1,zP a 0),(2,.slice none 0 0),(11,.agg (aD.cells m.dp))]) zk (aw.cq (S':=[(12,.int .i64 ((k:Nat)+1)),(3,.slice o ((fj m (k+1)).length) q),(1,zP a 0),(2,.slice none 0 0),(11,.agg (aD.cells m.dp))]) (by rw [jl m hk]) (aw.back (k+1,o,q) [1,2,3,11,12] zk (by show 11-(k+1)<11-k;omega) ⟨za,b7⟩))
 ·have hke:k=11:=za
  subst hke
  have hkl:=fQ m 11 za
  refine Zx (aw.da (aw.dc (aw.jR (Zt (Zs (aE.join (T:=Option Addr×Nat×Nat×Nat) (E:=λjx=>[(2,.slice jx.1 ((((fj m 11)++([(m.bd.kd:Int)]))++iL m.bd).length) jx.2.1)]) (F:=λjx w=>St w0 (Sl jx.1 jx.2.1 5 1 af (((fj m 11)++([(m.bd.kd:Int)]))++iL m.bd)::Sl (some ⟨jx.2.2.1,0,none⟩) 1 5 1 af ([(m.bd.kd:Int)])::bC n7 kt jx.2.2.2 kH::ah a (an.cells m) 43::L) w) ?_ ?_))))))
  ·refine aE.aV [0,0,2,6,15,31,0,0,128,384,896,1985,0,4096,16383,32767] (.rd 1 (.rd 2 (.rd 3 (.rd 6 (.rd 7 (.rd 8 (.rd 9 (.rd 12 (.rd 13 (.alt (.ef 0 (.rd 4 (.rd 5 (.ef 10 (.ef 11 (.ef 14 (.rd 15 .done))))))) (.ef 10 (.ef 0 (.rd 4 (.rd 5 (.ef 11 (.ef 14 (.rd 15 .done))))))))))))))))) zk zk ai zk a4 λe0 b e1=>Zh [(1,.gen []),(2,.gen []),(3,.gen [.int .u8 m.bd.kd]),(6,.gen []),(7,.gen []),(8,.gen []),(9,.gen [.int .u8 m.bd.kd]),(12,.gen []),(13,.agg (aK.cells m.bd))] [(3,[.cell ⟨a,13,none⟩ (.int .u8 m.bd.kd)]),(9,[.cell ⟨a,13,none⟩ (.int .u8 m.bd.kd)]),(13,[.prop (Array.size (aK.cells m.bd)=76),.cells ⟨a,13,none⟩ (aK.cells m.bd)])] (ak (aG (b.cell 1 rfl zk) av) (ak (aG (b.cell 1 rfl zk) av) (ak (aB zk (dq (b.cells 1 13 rfl zk) av)) cW))) (ar.alt ?_ ?_)
   ·refine Zc (dh b) ?_
    rintro e2 e3 ⟨u,rfl,e⟩
    refine⟨bw (n:=[.prop (Array.size (aK.cells m.bd)=76),.cells ⟨a,13,none⟩ (aK.cells m.bd),.cell ⟨a,13,none⟩ (.int .u8 m.bd.kd),.cell ⟨a,13,none⟩ (.int .u8 m.bd.kd)]) zk (aB zk (dq (e.cells 2 13 rfl zk) (aG (e.cell 2 rfl zk) (aG (e.cell 2 rfl zk) av)))),ar.lookup rfl zk gq (r:=u) (k:=m.bd.kd) (ok:=false) zk e 0 rfl (z:=kt kr) zk (v:=.agg #[.func (.func fp) #[] #[],.func (.func fg) #[] #[],.func (.func fm) #[] #[]]) (by rw [hc];rfl) (Zr 5 1 [] (sb aJ aj [(m.bd.kd:Int)] e λb8 e4 x=>⟨bw (n:=[.holds (bC n7 kt u kH).holds,.prop (Array.size (aK.cells m.bd)=76),.cells ⟨a,13,none⟩ (aK.cells m.bd),.cell ⟨a,13,none⟩ (.int .u8 m.bd.kd)]) zk (Ch (x.at_ 1 rfl) (aB zk (dq (x.cells 3 13 rfl zk) (aG (x.cell 3 rfl zk) av)))),(sd aJ aj (0:Int) (x.pl 2) zl λc0 c1 e5 a0=>⟨bw (n:=[.holds (bC n7 kt u kH).holds,.prop (Array.size (aK.cells m.bd)=76),.cells ⟨a,13,none⟩ (aK.cells m.bd),.cell ⟨a,13,none⟩ (.int .u8 m.bd.kd)]) zk (Ch (a0.at_ 2 rfl) (aB zk (dq (a0.cells 3 13 rfl zk) (aG (a0.cell 3 rfl zk) av)))),aF (f:=fp) (args:=#[.slice c0 (((fj m 11)++([(m.bd.kd:Int)])).length) c1,.agg (aK.cells m.bd)]) C.cp (C.put ((fj m 11)++([(m.bd.kd:Int)])) m.bd rfl zl hm.bd hin.2.1 (by have:=hin.2.2;omega) (λw h=>hr _ (h.drop 3)) a0) ?_⟩)⟩))⟩
    rintro e6 e7 ⟨c2,c3,rfl,c4⟩
    exact Lo (Dz (Zr 15 1 [] (Zd (uA [2] (c2,c3,b8,u) c4))))
   refine sb aJ aj [(m.bd.kd:Int)] b λa9 e8 a5=>⟨bw (n:=[.prop (Array.size (aK.cells m.bd)=76),.cells ⟨a,13,none⟩ (aK.cells m.bd),.cell ⟨a,13,none⟩ (.int .u8 m.bd.kd)]) zk (aB zk (dq (a5.cells 2 13 rfl zk) (aG (a5.cell 2 rfl zk) av))),Zc (dh a5) ?_⟩
   rintro e9 f0 ⟨a6,rfl,i⟩
   refine⟨bw (n:=[.prop (Array.size (aK.cells m.bd)=76),.cells ⟨a,13,none⟩ (aK.cells m.bd),.cell ⟨a,13,none⟩ (.int .u8 m.bd.kd),.cell ⟨a,13,none⟩ (.int .u8 m.bd.kd)]) zk (aB zk (dq (i.cells 3 13 rfl zk) (aG (i.cell 3 rfl zk) (aG (i.cell 3 rfl zk) av)))),ar.lookup rfl zk gq (r:=a6) (k:=m.bd.kd) (ok:=false) zk i 0 rfl (z:=kt kr) zk (v:=.agg #[.func (.func fp) #[] #[],.func (.func fg) #[] #[],.func (.func fm) #[] #[]]) (by rw [hc];rfl) (Zr 5 1 [] ?_)⟩
   have b0:=i.pl 2
   refine ar.append rfl zk aJ aj (ad:=ad) (c:=c) (xs:=fj m 11) (ys:=[(m.bd.kd:Int)]) (adx:=some ⟨a9,0,none⟩) (cx:=1) (0:Int) zk b0 (b0.rows 2 rfl aj.size (0:Int)) (λh=>nomatch h) zl zl λc5 c6 f1 a1=>⟨bw (n:=[.holds (bC n7 kt a6 kH).holds,.prop (Array.size (aK.cells m.bd)=76),.cells ⟨a,13,none⟩ (aK.cells m.bd),.cell ⟨a,13,none⟩ (.int .u8 m.bd.kd)]) zk (Ch (a1.at_ 1 rfl) (aB zk (dq (a1.cells 3 13 rfl zk) (aG (a1.cell 3 rfl zk) av)))),aF (f:=fp) (args:=#[.slice c5 (((fj m 11)++([(m.bd.kd:Int)])).length) c6,.agg (aK.cells m.bd)]) C.cp (C.put ((fj m 11)++([(m.bd.kd:Int)])) m.bd rfl zl hm.bd hin.2.1 (by have:=hin.2.2;omega) (λw h=>hr _ (h.drop 3)) a1) ?_⟩
   rintro f2 f3 ⟨c7,c8,rfl,c9⟩
   exact Lo (Dz (Zr 15 1 [] (Zd (uA [2] (c7,c8,a9,a6) ((((c9.pl 3).pl 2).pl 3).pl 3)))))
  rintro⟨a2,a3,d1,d2⟩ d3 d4
  have d5:St w0 (Sl a2 a3 5 1 af (((fj m 11)++([(m.bd.kd:Int)]))++iL m.bd)::Sl (some ⟨d1,0,none⟩) 1 5 1 af ([(m.bd.kd:Int)])::bC n7 kt d2 kH::ah a (an.cells m) 43::L) d3:=d4
  refine aw.cq (S':=[(2,.slice a2 ((((fj m 11)++([(m.bd.kd:Int)]))++iL m.bd).length) a3)]) rfl (Zt (Ze (bg (v:=.slice a2 ((((fj m 11)++([(m.bd.kd:Int)]))++iL m.bd).length) a3) ?_)))
  have d6:=(((d5.pl 0).pl 3).pl 3).pl 3
  exact⟨a2,a3,rfl,d6.dr 3⟩
theorem mA m (hm:fa m) (hr:Rw w0 L aT.cells 2 aR m.bd.qa m.bd.ql) (hs:St w0 L w):Cs Tryz.prog 74 #[.agg (an.cells m)] w λrv w'=>∃ ao co,rv=.slice ao ((gk m).length) co/\St w0 (Sl ao co 5 1 af (gk m)::L) w':=by
 refine bp Tryz.func74 Tryz.ntmps74 (En (Ls (Lg [0] (Dz (kR (an.cells m) hs λb1 w2 e=>Lz (Ls (Ls (Dz (bL [1] (du 0 0 0 121 (an.cells m) e Hz) (sv (gM m hm (λw h=>hr _ (h.drop 1)) e) λw6 b=>Lz (Dz (cS (t:=!(cZ m)) (λd=>?_) (λd=>?_)))))))))))))
 ·have a:=kL d
  refine En (Lq (Le (Ly (Dz (bg (v:=.slice none 0 0) ?_)))))
  have o:=St.bW b 5 1 af
  have q:=(o.pl 0).pl 1
  exact⟨none,0,by rw [(show gk m=([]:List Int) from if_neg (by rw [a];decide))];rfl,by rw [(show gk m=([]:List Int) from if_neg (by rw [a];decide))];exact(q.dr 1)⟩
 ·have a:=km d
  refine Zk (Zt (Zs (bL [1] (du 0 0 0 121 (an.cells m) b Hz) (Zc (jm m hm a (λw h=>hr _ (h.drop 1)) b) ?_))))
  rintro a1 a2 ⟨f,i,rfl,x⟩
  refine Lz (Le (Dz (bg (v:=.slice f ((gj m).length) i) ?_)))
  have z:=(x.pl 0).pl 1
  exact⟨f,i,by rw [(show gk m=gj m from if_pos a)],by rw [(show gk m=gj m from if_pos a)];exact(z.dr 1)⟩
def rj (l1 l2 l3:List Int):Nat->List Int
 | 0=>[]
 | 1=>l1
 | 2=>l1++l2
 | _=>l1++l2++l3
theorem yc {bs:Nat}{a1:Option Addr}{n1:Nat}{c1:Nat}{a2:Option Addr}{n2:Nat}{c2:Nat}{a3:Option Addr}{n3:Nat}{c3:Nat}l1 l2 l3 (e1:l1.length=n1) (e2:l2.length=n2) (e3:l3.length=n3) (g1:l1.length<=100000) (g2:l2.length<=100000) (g3:l3.length<=100000) (hn1:a1=none->c1=0) (hn2:a2=none->c2=0) (hn3:a3=none->c3=0) (hr1:Rw w0 L af 1 0 a1 l1) (hr2:Rw w0 L af 1 0 a2 l2) (hr3:Rw w0 L af 1 0 a3 l3) (hs:St w0 (ah bs #[.slice a1 n1 c1,.slice a2 n2 c2,.slice a3 n3 c3] 85::L) w):Cs Tryz.prog 113 #[zL bs 0 3 3] w λrv w'=>∃ ao co,rv=.slice ao ((l1++l2++l3).length) co/\St w0 (ah bs #[.slice a1 n1 c1,.slice a2 n2 c2,.slice a3 n3 c3] 85::Sl ao co 5 1 af (l1++l2++l3)::L) w':=by
 refine bp Tryz.func113 Tryz.ntmps113 (Zs ?_)
 subst e1
 subst e2
 subst e3
 refine En (La (Lt (Lq (Ls (Lq (Lb (Dz (aE.loop (T:=Nat×Int) (λgg=>[(0,zL bs 0 3 3),(2,.slice none 0 0),(3,.int .i64 gg.2),(9,zL bs 0 3 3),(10,.int .i64 3),(11,.int .i64 (gg.1:Nat))]) (λgg w=>(gg.1<=3/\(gg.1=0->gg.2=(0:Int))/\(gg.1=1->gg.2=(0:Int)+(l1.length:Nat))/\(gg.1=2->gg.2=(0:Int)+(l1.length:Nat)+(l2.length:Nat))/\(gg.1=3->gg.2=(0:Int)+(l1.length:Nat)+(l2.length:Nat)+(l3.length:Nat)))/\St w0 (ah bs #[.slice a1 l1.length c1,.slice a2 l2.length c2,.slice a3 l3.length c3] 85::L) w) (λgg=>3-gg.1) (0,0) [0,2,3,9,10,11] zk ⟨⟨Nat.zero_le _,λ_=>rfl,λh=>by omega,λh=>by omega,λh=>by omega⟩,hs⟩ ?_))))))))
 rintro⟨k,z⟩ w1 ⟨hp,a⟩
 dsimp only at hp a
 refine En (Lq (Ls (Dz (Zn [(12,.bool (decide ((k:Int)<3))),(0,zL bs 0 3 3),(2,.slice none 0 0),(3,.int .i64 z),(9,zL bs 0 3 3),(10,.int .i64 3),(11,.int .i64 (k:Nat))] (Zi ((k:Int)<3) (λa6=>?_) (λa6=>?_))))))
 ·have hcs:k=0\/k=1\/k=2:=za
  rcases hcs with rfl|rfl|rfl
  ·have hz:z=(0:Int):=hp.2.1 rfl
   refine Zn [(12,.bool (decide (((0:Nat):Int)<3))),(0,zL bs 0 3 3),(2,.slice none 0 0),(3,.int .i64 z),(9,zL bs 0 3 3),(10,.int .i64 3),(11,.int .i64 0)] (Zk (Zt (Zs (Zb (Zs (bj (Hx 0 (0:Int) (3:Int) bs 0 1 (Hl 1 0 0 a Hz)) (Zt (Zs (bj (cH 3 (z+(l1.length:Nat)) Hz) (En (Lt (Lq (Dz (Zi ((z+(l1.length:Nat):Int)<0) (λa7=>?_) (λa7=>?_)))))))))))))))
   ·exfalso;omega
   ·exact En (Lk (Lm (Lt (La (Dz (aw.back (1,z+(l1.length:Nat)) [0,2,3,9,10,11] zk (by show 3-1<3-0;omega) ⟨⟨za,za,za,za,za⟩,a⟩))))))
  ·have hz:z=(0:Int)+(l1.length:Nat):=hp.2.2.1 rfl
   refine Zn [(12,.bool (decide (((1:Nat):Int)<3))),(0,zL bs 0 3 3),(2,.slice none 0 0),(3,.int .i64 z),(9,zL bs 0 3 3),(10,.int .i64 3),(11,.int .i64 1)] (Zk (Zt (Zs (Zb (Zs (bj (Hx 0 (1:Int) (3:Int) bs 0 1 (Hl 1 0 1 a Hz)) (Zt (Zs (bj (cH 3 (z+(l2.length:Nat)) Hz) (En (Lt (Lq (Dz (Zi ((z+(l2.length:Nat):Int)<0) (λa8=>?_) (λa8=>?_)))))))))))))))
   ·exfalso;omega
   ·exact En (Lk (Lm (Lt (La (Dz (aw.back (2,z+(l2.length:Nat)) [0,2,3,9,10,11] zk (by show 3-2<3-1;omega) ⟨⟨za,za,za,za,za⟩,a⟩))))))
  ·have hz:z=(0:Int)+(l1.length:Nat)+(l2.length:Nat):=hp.2.2.2.1 rfl
   refine Zn [(12,.bool (decide (((2:Nat):Int)<3))),(0,zL bs 0 3 3),(2,.slice none 0 0),(3,.int .i64 z),(9,zL bs 0 3 3),(10,.int .i64 3),(11,.int .i64 2)] (Zk (Zt (Zs (Zb (Zs (bj (Hx 0 (2:Int) (3:Int) bs 0 1 (Hl 1 0 2 a Hz)) (Zt (Zs (bj (cH 3 (z+(l3.length:Nat)) Hz) (En (Lt (Lq (Dz (Zi ((z+(l3.length:Nat):Int)<0) (λa9=>?_) (λa9=>?_)))))))))))))))
   ·exfalso;omega
   ·exact En (Lk (Lm (Lt (La (Dz (aw.back (3,z+(l3.length:Nat)) [0,2,3,9,10,11] zk (by show 3-3<3-2;omega) ⟨⟨za,za,za,za,za⟩,a⟩))))))
 ·have hkn:k=3:=za
  subst hkn
  have hz:z=(0:Int)+(l1.length:Nat)+(l2.length:Nat)+(l3.length:Nat):=hp.2.2.2.2 rfl
  have hzn:z=((l1.length+l2.length+l3.length:Nat):Int):=za
  refine Zn [(12,.bool (decide (((3:Nat):Int)<3))),(0,zL bs 0 3 3),(2,.slice none 0 0),(3,.int .i64 z),(9,zL bs 0 3 3),(10,.int .i64 3),(11,.int .i64 (3:Nat))] (aE.cq (S':=[(12,.bool (decide (((3:Nat):Int)<3))),(0,zL bs 0 3 3),(2,.slice none 0 0),(3,.int .i64 (l1.length+l2.length+l3.length:Nat)),(9,zL bs 0 3 3),(10,.int .i64 3),(11,.int .i64 (3:Nat))]) (by rw [hzn]) (Zn [(12,.bool (decide (((3:Nat):Int)<3))),(0,zL bs 0 3 3),(2,.slice none 0 0),(3,.int .i64 (l1.length+l2.length+l3.length:Nat)),(9,zL bs 0 3 3),(10,.int .i64 3),(11,.int .i64 (3:Nat))] (En (Lx (gv (gw (Lh (Lt (Ls (Lg [1] (Lw (aF (f:=159) (args:=#[.slice none 0 0,.int .i64 (l1.length+l2.length+l3.length:Nat)]) Tryz.call159 (iI ([]:List Int) (l1.length+l2.length+l3.length:Nat) ze za (St.bW a 5 1 af)) ?_))))))))))))
  rintro c9 d0 ⟨b1,b2,rfl,b3⟩
  refine Lz (Ls (Lq (Lb (Dz (aE.loop (T:=Nat×(Option Addr)×Nat) (λgg=>[(2,.slice none 0 0),(6,.slice gg.2.1 ((rj l1 l2 l3 gg.1).length) gg.2.2),(25,zL bs 0 3 3),(26,.int .i64 3),(27,.int .i64 (gg.1:Nat))]) (λgg w=>(gg.1<=3)/\St w0 (Sl gg.2.1 gg.2.2 5 1 af (rj l1 l2 l3 gg.1)::ah bs #[.slice a1 l1.length c1,.slice a2 l2.length c2,.slice a3 l3.length c3] 85::L) w) (λgg=>3-gg.1) (0,b1,b2) [2,6,25,26,27] zk ⟨Nat.zero_le _,b3⟩ ?_)))))
  rintro⟨k,ad,c⟩ d ⟨hq,b⟩
  dsimp only at hq b
  refine En (Lq (Ls (Dz (Zn [(28,.bool (decide ((k:Int)<3))),(2,.slice none 0 0),(6,.slice ad ((rj l1 l2 l3 k).length) c),(25,zL bs 0 3 3),(26,.int .i64 3),(27,.int .i64 (k:Nat))] (Zi ((k:Int)<3) (λb4=>?_) (λb4=>?_))))))
  ·have hcs:k=0\/k=1\/k=2:=za
   rcases hcs with rfl|rfl|rfl
   ·have a0:St w0 (Sl ad c 5 1 af ([]:List Int)::ah bs #[.slice a1 l1.length c1,.slice a2 l2.length c2,.slice a3 l3.length c3] 85::L) d:=b
    refine Zn [(28,.bool (decide (((0:Nat):Int)<3))),(2,.slice none 0 0),(6,.slice ad (([]:List Int).length) c),(25,zL bs 0 3 3),(26,.int .i64 3),(27,.int .i64 0)] (Zk (Zt (Zs (Zb (Zs (bj (Hx 0 (0:Int) (3:Int) bs 0 1 (Hl 1 1 0 a0 Hz)) (En (Lt (Lg [2] (Lw (ar.append rfl zk aJ aj (ad:=ad) (c:=c) (xs:=([]:List Int)) (ys:=l1) (adx:=a1) (cx:=c1) (0:Int) zk a0 (hr1 _ (a0.drop 2)) hn1 zv zv λe i b5 b6=>Lo (aL (Lm (Lt (La (Dz ?_))))))))))))))))
    have b7:St w0 (Sl e i 5 1 af (rj l1 l2 l3 1)::ah bs #[.slice a1 l1.length c1,.slice a2 l2.length c2,.slice a3 l3.length c3] 85::L) b5:=b6
    exact aw.pick [27,6,2,25,26] (S':=[(27,.int .i64 1),(6,.slice e l1.length i),(2,.slice none 0 0),(25,zL bs 0 3 3),(26,.int .i64 3)]) zk (aw.cq (S':=[(27,.int .i64 1),(6,.slice e ((rj l1 l2 l3 1).length) i),(2,.slice none 0 0),(25,zL bs 0 3 3),(26,.int .i64 3)]) (by rfl) (aw.back (1,e,i) [2,6,25,26,27] zk (by show 3-1<3-0;omega) ⟨za,b7⟩))
   ·have a4:St w0 (Sl ad c 5 1 af l1::ah bs #[.slice a1 l1.length c1,.slice a2 l2.length c2,.slice a3 l3.length c3] 85::L) d:=b
    refine Zn [(28,.bool (decide (((1:Nat):Int)<3))),(2,.slice none 0 0),(6,.slice ad l1.length c),(25,zL bs 0 3 3),(26,.int .i64 3),(27,.int .i64 1)] (Zk (Zt (Zs (Zb (Zs (bj (Hx 0 (1:Int) (3:Int) bs 0 1 (Hl 1 1 1 a4 Hz)) (En (Lt (Lg [2] (Lw (ar.append rfl zk aJ aj (ad:=ad) (c:=c) (xs:=l1) (ys:=l2) (adx:=a2) (cx:=c2) (0:Int) zk a4 (hr2 _ (a4.drop 2)) hn2 zv zv λo q b8 b9=>Lo (aL (Lm (Lt (La (Dz ?_))))))))))))))))
    have c0:St w0 (Sl o q 5 1 af (rj l1 l2 l3 2)::ah bs #[.slice a1 l1.length c1,.slice a2 l2.length c2,.slice a3 l3.length c3] 85::L) b8:=b9
    exact aw.pick [27,6,2,25,26] (S':=[(27,.int .i64 2),(6,.slice o ((l1++l2).length) q),(2,.slice none 0 0),(25,zL bs 0 3 3),(26,.int .i64 3)]) zk (aw.cq (S':=[(27,.int .i64 2),(6,.slice o ((rj l1 l2 l3 2).length) q),(2,.slice none 0 0),(25,zL bs 0 3 3),(26,.int .i64 3)]) (by rfl) (aw.back (2,o,q) [2,6,25,26,27] zk (by show 3-2<3-1;omega) ⟨za,c0⟩))
   ·have a5:St w0 (Sl ad c 5 1 af (l1++l2)::ah bs #[.slice a1 l1.length c1,.slice a2 l2.length c2,.slice a3 l3.length c3] 85::L) d:=b
    refine Zn [(28,.bool (decide (((2:Nat):Int)<3))),(2,.slice none 0 0),(6,.slice ad ((l1++l2).length) c),(25,zL bs 0 3 3),(26,.int .i64 3),(27,.int .i64 2)] (Zk (Zt (Zs (Zb (Zs (bj (Hx 0 (2:Int) (3:Int) bs 0 1 (Hl 1 1 2 a5 Hz)) (En (Lt (Lg [2] (Lw (ar.append rfl zk aJ aj (ad:=ad) (c:=c) (xs:=l1++l2) (ys:=l3) (adx:=a3) (cx:=c3) (0:Int) zk a5 (hr3 _ (a5.drop 2)) hn3 zv zv λu x c4 c5=>Lo (aL (Lm (Lt (La (Dz ?_))))))))))))))))
    have c6:St w0 (Sl u x 5 1 af (rj l1 l2 l3 3)::ah bs #[.slice a1 l1.length c1,.slice a2 l2.length c2,.slice a3 l3.length c3] 85::L) c4:=c5
    exact aw.pick [27,6,2,25,26] (S':=[(27,.int .i64 3),(6,.slice u (((l1++l2)++l3).length) x),(2,.slice none 0 0),(25,zL bs 0 3 3),(26,.int .i64 3)]) zk (aw.cq (S':=[(27,.int .i64 3),(6,.slice u ((rj l1 l2 l3 3).length) x),(2,.slice none 0 0),(25,zL bs 0 3 3),(26,.int .i64 3)]) (by rfl) (aw.back (3,u,x) [2,6,25,26,27] zk (by show 3-3<3-2;omega) ⟨za,c6⟩))
  ·have hkn:k=3:=za
   subst hkn
   have c7:St w0 (Sl ad c 5 1 af (l1++l2++l3)::ah bs #[.slice a1 l1.length c1,.slice a2 l2.length c2,.slice a3 l3.length c3] 85::L) d:=b
   exact Zn [(28,.bool (decide (((3:Nat):Int)<3))),(2,.slice none 0 0),(6,.slice ad ((l1++l2++l3).length) c),(25,zL bs 0 3 3),(26,.int .i64 3),(27,.int .i64 (3:Nat))] (En (Lx (gv (gw (Lh (Lt (Lq (Le (Dz (bg (v:=.slice ad ((l1++l2++l3).length) c) ⟨ad,c,rfl,(c7.pl 0).pl 1⟩))))))))))
theorem yd m (hm:fa m) (hr:Rw w0 L aT.cells 2 aR m.bd.qa m.bd.ql) (hs:St w0 L w):Cs Tryz.prog 68 #[.agg (an.cells m)] w λrv w'=>∃ ao co,rv=.slice ao ((fI m).length) co/\St w0 (Sl ao co 5 1 af (fI m)::L) w':=by
 refine bp Tryz.func68 Tryz.ntmps68 (Zs ?_)
 have g2:=hm.nr
 refine Zg [0] (kR (an.cells m) hs λa w2 o=>Lz (Ls (Ls (Dz (bL [1] (du 0 0 0 121 (an.cells m) o Hz) (sv (gM m hm (λw h=>hr _ (h.drop 1)) o) λw6 q=>Lz (Dz (cS (t:=!(cZ m)) (λd=>?_) (λd=>?_)))))))))
 ·have b:=kL d
  refine En (Lq (Le (Ly (Dz (bg (v:=.slice none 0 0) ?_)))))
  have a5:=St.bW q 5 1 af
  have a6:=(a5.pl 0).pl 1
  exact⟨none,0,by rw [(show fI m=([]:List Int) from if_neg (by rw [b];decide))];rfl,by rw [(show fI m=([]:List Int) from if_neg (by rw [b];decide))];exact(a6.dr 1)⟩
 ·have b:=km d
  have hb:cZ m=true:=b
  refine Zk (Zt (Zs (ZD (jX [0,1,3,5,6] (.ef 2 (.ef 4 (.ef 7 (.ef 8 (.rd 9 .done)))))) q λb4 f b5=>Zj (Hl 1 0 1 f (du 3 0 0 121 (an.cells m) f (Hg 6 (.cI (zL a 89 m.tg.toList.length 32) (.sub 0 32)) [.prop (((none:Option Operand)=none->(0:Nat)=0)/\((none:Option Operand)=none->(32:Nat)=32)/\(0:Nat)<=32/\(32:Nat)<=32),.prop (Value.slice (some (if 32=0 then Addr.mk a 89 none else (Addr.mk a 89 none).add (0*1))) (32-0) (32-0)=Value.slice (some ⟨a,89,none⟩) m.tg.toList.length 32)] (aB ⟨(by first|(intro _;rfl)|(intro hc;cases hc)),(by first|(intro _;rfl)|(intro hc;cases hc)),za,za⟩ (aB (by rw [aO.len];exact cw _ _ _ _ _ zf) av)) Hz))) (Zc (bX ([]:List Int) m.nr ze za (St.bW f 5 1 af)) ?_))))
  rintro b6 b7 ⟨u,x,rfl,a0⟩
  refine⟨bw (n:=[.prop (((none:Option Operand)=none->(0:Nat)=0)/\((none:Option Operand)=none->(32:Nat)=32)/\(0:Nat)<=32/\(32:Nat)<=32),.prop (Value.slice (some (if 32=0 then Addr.mk a 89 none else (Addr.mk a 89 none).add (0*1))) (32-0) (32-0)=Value.slice (some ⟨a,89,none⟩) m.tg.toList.length 32),.prop (Array.size (an.cells m)=121),.cells ⟨a,0,none⟩ (an.cells m)]) zk (aB ⟨(by first|(intro _;rfl)|(intro hc;cases hc)),(by first|(intro _;rfl)|(intro hc;cases hc)),za,za⟩ (aB (by rw [aO.len];exact cw _ _ _ _ _ zf) (aB zk (dq (a0.cells 1 0 rfl zk) av)))),Zc (jm m hm b (λw h=>hr _ (h.drop 2)) a0) ?_⟩
  rintro b8 b9 ⟨a1,a2,rfl,a9⟩
  refine⟨bw (n:=[.prop (((none:Option Operand)=none->(0:Nat)=0)/\((none:Option Operand)=none->(32:Nat)=32)/\(0:Nat)<=32/\(32:Nat)<=32),.prop (Value.slice (some (if 32=0 then Addr.mk a 89 none else (Addr.mk a 89 none).add (0*1))) (32-0) (32-0)=Value.slice (some ⟨a,89,none⟩) m.tg.toList.length 32)]) zk (aB ⟨(by first|(intro _;rfl)|(intro hc;cases hc)),(by first|(intro _;rfl)|(intro hc;cases hc)),za,za⟩ (aB (by rw [aO.len];exact cw _ _ _ _ _ zf) av)),(ar.aW rfl zk (t:=67) (e:=85) (n:=3) (ps:=[(0,.slice u ((([]:List Int)++wd m.nr).length) x),(1,.slice a1 ((gj m).length) a2),(2,zL a 89 m.tg.toList.length 32)]) zk zk (ti:=Tryz.t85) (z:=.slice none 0 0) zk zk zf zf (cs:=#[.slice u ((([]:List Int)++wd m.nr).length) x,.slice a1 ((gj m).length) a2,zL a 89 m.tg.toList.length 32]) zk a9 λc0 c1 i c2=>Lo (Dz (Zc (yc (([]:List Int)++wd m.nr) (gj m) m.tg.toList rfl rfl rfl (by have:=eK hb;first|omega|(simp only [List.length_append,List.length_nil,aP,aO.len];omega)) (by have:=eK hb;first|omega|(simp only [List.length_append,List.length_nil,aP,aO.len];omega)) (by have:=eK hb;first|omega|(simp only [List.length_append,List.length_nil,aP,aO.len];omega)) (i.eU 2 rfl) (i.eU 1 rfl) (by intro h;cases h) (λw h=>h.rows 1 rfl aj.size _) (λw h=>h.rows 0 rfl aj.size _) (λw h=>aO.jU h 2 89 m.tg rfl zk) i) ?_)))⟩
  rintro c3 c4 ⟨a3,a4,rfl,b0⟩
  refine Lz (Le (Dz (bg (v:=.slice a3 (((([]:List Int)++wd m.nr)++(gj m)++m.tg.toList).length) a4) ?_)))
  have b2:=((((b0.pl 1).pl 4).pl 4).pl 4).pl 4
  exact⟨a3,a4,by rw [(show fI m=(([]:List Int)++wd m.nr)++(gj m)++m.tg.toList from if_pos b)],by rw [(show fI m=(([]:List Int)++wd m.nr)++(gj m)++m.tg.toList from if_pos b)];exact(b2.dr 4)⟩
end
section
variable {w0 w : World} {L : List aI} {ad : Option Addr} {cb : Nat}
def wU (s:CS):Nat->CS
 | 0=>s
 | k+1=>(dN (wU s k)).2
def iw (s:CS) (k:Nat):Int:=(dN (wU s k)).1
def gV (f:Nat->Int) (k:Nat):aD:=Vector.ofFn λi=>if i.val<k then f i.val else 0
def sR (m:an):an:=⟨m.og,m.nr,m.dp,ij m.bd,m.tg⟩
def ofM (i n:Int) (b:List Int) (t:aO):an×Int :=
 let a:=dw (b,false)
 let k:=dw (wU a.2 11)
 if ¬ (1<=k.1/\k.1<=6) then (dm,5) else if a.1≠i then (dm,5) else
 let g:=eJ k.1 k.2
 let m:an:=⟨a.1,n,gV (iw a.2) 11,g.1,t⟩
 if g.2.2=true then (dm,5) else if g.2.1.length>0 then (dm,5) else if gk m=b then (m,0) else (dm,5)
theorem DB (f:Nat->Int):gV f 0=mw:=zk
theorem Al (f:Nat->Int) (x:Int) (h:∀ k,k<11->0<=f k/\f k<=18446744073709551615):∀ x∈(gV f 11).toList,0<=x/\x<=18446744073709551615:=by
 intro x hx
 have e:(gV f 11).toList=[f 0,f 1,f 2,f 3,f 4,f 5,f 6,f 7,f 8,f 9,f 10]:=zk
 rw [e] at hx
 simp only [List.mem_cons,List.not_mem_nil,or_false] at hx
 rcases hx with rfl|rfl|rfl|rfl|rfl|rfl|rfl|rfl|rfl|rfl|rfl
 all_goals exact h _ zf
theorem DC {og nr:Int}{bd:aK}{tg:aO}(f:Nat->Int){k:Nat}(hk:k<11):bI (an.cells ⟨og,nr,gV f k,bd,tg⟩) (2+k) [.int .u64 (f k)]=an.cells ⟨og,nr,gV f (k+1),bd,tg⟩ :=
 match k,hk with
 | 0,_=>by kernel_rfl
 | 1,_=>by kernel_rfl
 | 2,_=>by kernel_rfl
 | 3,_=>by kernel_rfl
 | 4,_=>by kernel_rfl
 | 5,_=>by kernel_rfl
 | 6,_=>by kernel_rfl
 | 7,_=>by kernel_rfl
 | 8,_=>by kernel_rfl
 | 9,_=>by kernel_rfl
 | 10,_=>by kernel_rfl
 | n+11,h=>by omega
theorem BG (m:an):gk (sR m)=gk m:=rfl
theorem lU:fa dm:=⟨zf,zf,zf,⟨zf,zf,zf,gL,(λp hp=>by cases hp),ep,Nat.zero_le _⟩,ep⟩
theorem rk {i n a k:Int}{b:List Int}{t:aO}{s1 s2:CS}(h1:dw (b,false)=(a,s1)) (h2:dw (wU s1 11)=(k,s2)) (h:¬ (1<=k/\k<=6)\/a≠i):ofM i n b t=(dm,5):=by
 unfold ofM
 simp only [h1,h2]
 by_cases hk:1<=k/\k<=6
 ·rw [if_neg (λd=>d hk),if_pos (h.resolve_left λd=>d hk)]
 ·rw [if_pos hk]
theorem od {i n a k:Int}{b:List Int}{t:aO}{s1 s2 s3:CS}{g:aK}(h1:dw (b,false)=(a,s1)) (h2:dw (wU s1 11)=(k,s2)) (hin:1<=k/\k<=6) (hi:a=i) (hg:eJ k s2=(g,s3)) :
 ofM i n b t=if s3.2=true then (dm,5) else if s3.1.length>0 then (dm,5) else if gk ⟨a,n,gV (iw s1) 11,g,t⟩=b then (⟨a,n,gV (iw s1) 11,g,t⟩,0) else (dm,5):=by
 unfold ofM
 simp only [h1,h2,hg]
 rw [if_neg (λd=>d hin),if_neg (λd=>d hi)]
theorem wV i n b t (hpos:0<b.length) (hbl:b.length<=100000) (hbb:∀ z∈b,0<=z/\z<256) (hn:0<=n/\n<=18446744073709551615) (ht:∀ z∈t.toList,0<=z/\z<256) (hr:Rw w0 L af 1 0 ad b) (hs:St w0 L w):Cs Tryz.prog 66 #[.int .i64 i,.int .u64 n,.slice ad b.length cb,.agg (aO.cells t)] w λrv w'=>∃ mm2 ee2,rv=.tuple #[.agg (an.cells mm2),.int .i64 ee2]/\ofM i n b t=(sR mm2,ee2)/\fa mm2/\St w0 (Sl mm2.bd.qa mm2.bd.qc 81 2 aT.cells mm2.bd.ql::L) w':=by
 refine bp Tryz.func66 Tryz.ntmps66 (Zs ?_)
 have hsome:se ad cb:=by obtain⟨b,off,rfl⟩:=ag.isSome (hr _ hs) hpos;exact .inl ⟨b,off,rfl⟩
 refine Zg [0,1] (kR (aO.cells t) hs λb1 w2 h4=>Lo (Dz (oX (an.cells dm) h4 λb4 w5 h5=>Lz (Ls (Lg [1] (Lw (Zc (df b za zc (λw h=>hr _ (h.drop 2)) h5) ?_)))))))
 rintro p2 p3 ⟨a0,o,q,rfl,d9⟩
 have e0:aX (Sl o q 5 1 af b) o b q:=aX.new d9 (j:=1) rfl hbb za
 refine Lz (Ls (Dz (aE.join (T:=Nat×Int×Option Addr×List Int×Nat×Bool) (E:=λjx=>[(0,.int .i64 i),(2,.slice ad b.length cb),(8,zP b4 0),(9,.int .i64 0),(10,zP a0 0),(11,zP jx.1 0)]) (F:=λjx w=>(dw (b,false)=(jx.2.1,(jx.2.2.2.1,jx.2.2.2.2.2)))/\(0<=jx.2.1/\jx.2.1<256)/\(aX (Sl o q 5 1 af b) jx.2.2.1 jx.2.2.2.1 jx.2.2.2.2.1)/\St w0 (ah jx.1 (an.cells (⟨jx.2.1,n,mw,cU,t⟩:an)) 43::ah a0 #[.slice jx.2.2.1 jx.2.2.2.1.length jx.2.2.2.2.1,.bool jx.2.2.2.2.2] 202::Sl o q 5 1 af b::ah b4 (an.cells dm) 43::ah b1 (aO.cells t) 34::L) w) ?_ ?_)))
 ·refine aE.aV [0,1,3,0,0,31,0,127] (.rd 0 (.rd 3 (.rd 4 (.alt (.ef 1 (.rd 2 (.rd 5 (.ef 6 (.ef 7 .done))))) (.ef 6 (.ef 1 (.rd 2 (.rd 5 (.ef 7 .done))))))))) zk zk ai zk d9 λp4 b9 p5=>Zh [(0,.gen []),(3,.gen []),(4,.agg (aO.cells t))] [(4,[.prop (Array.size (aO.cells t)=32),.cells ⟨b1,0,none⟩ (aO.cells t)])] (ak (aB zk (dq (b9.cells 3 0 rfl zk) av)) cW) (ar.alt ?_ ?_)
  ·refine Zc (cY (Sl o q 5 1 af b) b false (λw h=>h.at_ 0 rfl) e0 b9) ?_
   rintro p6 p7 ⟨a3,h6,h7,h8,h9,rfl,i0,i1,i2,e1⟩
   refine⟨bw (n:=[.prop (Array.size (aO.cells t)=32),.cells ⟨b1,0,none⟩ (aO.cells t)]) zk (aB zk (dq (e1.cells 3 0 rfl zk) av)),Zh [(2,.cI (.int .i64 a3) (.gen [])),(5,.gen [])] [(2,[.prop (Value.int .i64 (IntKind.i64.wrap a3)=Value.int .i64 a3)])] (ak (aB (dD za za) av) cW) ?_⟩
   refine oX (an.cells dm) e1 λi3 p8 e2=>⟨bw (n:=[.prop (Value.int .i64 (IntKind.i64.wrap a3)=Value.int .i64 a3),.prop (Array.size (aO.cells t)=32),.cells ⟨b1,0,none⟩ (aO.cells t)]) zk (aB (dD za za) (aB zk (dq (e2.cells 4 0 rfl zk) av))),?_⟩
   exact Zu 0 0 (an.cells (⟨a3,n,mw,cU,t⟩:an)) e2 λp9 i4=>Lo (Ld (Dz (uA [0,2,8,9,10,11] (i3,a3,h8,h6,h9,h7) ⟨i0,i1,i2,i4⟩)))
  refine oX (an.cells dm) b9 λi5 q0 e3=>⟨bw (n:=[.prop (Array.size (aO.cells t)=32),.cells ⟨b1,0,none⟩ (aO.cells t)]) zk (aB zk (dq (e3.cells 4 0 rfl zk) av)),Zc (cY (Sl o q 5 1 af b) b false (λw h=>h.at_ 1 rfl) e0 (e3.pl 1)) ?_⟩
  rintro q1 q2 ⟨a7,i7,i8,i9,j0,rfl,j1,j2,j3,e4⟩
  refine⟨bw (n:=[.prop (Array.size (aO.cells t)=32),.cells ⟨b1,0,none⟩ (aO.cells t)]) zk (aB zk (dq (e4.cells 4 0 rfl zk) av)),Zh [(2,.cI (.int .i64 a7) (.gen [])),(5,.gen [])] [(2,[.prop (Value.int .i64 (IntKind.i64.wrap a7)=Value.int .i64 a7)])] (ak (aB (dD za za) av) cW) ?_⟩
  exact Zu 1 0 (an.cells (⟨a7,n,mw,cU,t⟩:an)) e4 λq3 j4=>Lo (Ld (Dz (uA [0,2,8,9,10,11] (i5,a7,i9,i7,j0,i8) ⟨j1,j2,j3,((((j4.pl 4).pl 4).pl 4).pl 3).pl 4⟩)))
 rintro⟨a,u,b0,d,b2,e⟩ e5 ⟨a2,e6,c0,j6⟩
 have a2:dw (b,false)=(u,(d,e)):=a2
 have e6:(0<=u/\u<256):=e6
 have c0:aX (Sl o q 5 1 af b) b0 d b2:=c0
 have j7:St w0 (ah a (an.cells (⟨u,n,mw,cU,t⟩:an)) 43::ah a0 #[.slice b0 d.length b2,.bool e] 202::Sl o q 5 1 af b::ah b4 (an.cells dm) 43::ah b1 (aO.cells t) 34::L) e5:=j6
 refine aw.cq (S':=[(0,.int .i64 i),(2,.slice ad b.length cb),(8,zP b4 0),(9,.int .i64 0),(10,zP a0 0),(11,zP a 0)]) rfl (En (Lt (Ls (Lq (Lb (Dz ?_))))))
 have j8:=(j7.pl 0).pl 1
 have j9:St w0 (ah a0 #[.slice b0 d.length b2,.bool e] 202::ah a (an.cells (⟨u,n,gV (iw (d,e)) 0,cU,t⟩:an)) 43::Sl o q 5 1 af b::ah b4 (an.cells dm) 43::ah b1 (aO.cells t) 34::L) e5:=(by rw [DB];exact j8)
 refine aE.loop (T:=Nat×(List Int)×Bool×(Option Addr)×Nat) (λgg=>[(0,.int .i64 i),(2,.slice ad b.length cb),(8,zP b4 0),(9,.int .i64 0),(10,zP a0 0),(11,zP a 0),(23,.int .i64 (gg.1:Nat))]) (λgg w=>(gg.1<=11/\(gg.2.1,gg.2.2.1)=wU (d,e) gg.1/\aX (Sl o q 5 1 af b) gg.2.2.2.1 gg.2.1 gg.2.2.2.2)/\St w0 (ah a0 #[.slice gg.2.2.2.1 gg.2.1.length gg.2.2.2.2,.bool gg.2.2.1] 202::ah a (an.cells (⟨u,n,gV (iw (d,e)) gg.1,cU,t⟩:an)) 43::Sl o q 5 1 af b::ah b4 (an.cells dm) 43::ah b1 (aO.cells t) 34::L) w) (λgg=>11-gg.1) (0,d,e,b0,b2) [0,2,8,9,10,11,23] zk ⟨⟨Nat.zero_le _,rfl,c0⟩,j9⟩ ?_
 rintro⟨kk,e7,e8,q4,q5⟩ q6 ⟨hp,c1⟩
 dsimp only at hp c1
 refine En (Lq (Ls (Dz (Zi ((kk:Int)<11) (λk0=>?_) (λk0=>?_)))))
 ·have hk:kk<11:=za
  refine En (Lk (Lt (Ls (Lb (Lq (Lg [2,5] (Lw (Zc (bu (Sl o q 5 1 af b) e7 e8 (λw h=>h.at_ 1 rfl) hp.2.2 c1) ?_))))))))
  rintro q7 q8 ⟨e9,f0,f1,f2,f3,rfl,f4,q9,k1,k2⟩
  refine Eb (Hx 4 (kk:Int) (11:Int) a 2 1 Hz) ?_
  have hvk:iw (d,e) kk=e9:=by show(dN (wU _ kk)).1=_;rw [<- hp.2.1,f4]
  exact ar.store rfl rfl zk (b:=a) (off:=2+(kk*1)) (v:=.int .u64 e9) zk zk (ti:=Tryz.t31) zk k2 1 rfl zk zk (by show 2+(kk*1)+1<=121;omega) (cs':=an.cells (⟨u,n,gV (iw (d,e)) (kk+1),cU,t⟩:an)) (L':=(ah a0 #[.slice f2 f0.length f3,.bool f1] 202)::ah a (an.cells (⟨u,n,gV (iw (d,e)) (kk+1),cU,t⟩:an)) 43::Sl o q 5 1 af b::ah b4 (an.cells dm) 43::ah b1 (aO.cells t) 34::L) (by rw [Nat.mul_one,<- hvk];exact DC _ hk) rfl λr0 k3=>Lo (Ld (Lm (Lt (Dz (bj (cH 0 ((kk:Nat)+1) Hz) (aw.back (kk+1,f0,f1,f2,f3) [0,2,8,9,10,11,23] zk (by show 11-(kk+1)<11-kk;omega) ⟨⟨za,by show _=(dN (wU _ kk)).2;rw [<- hp.2.1,f4],k1⟩,k3⟩))))))
 ·have hke:kk=11:=za
  subst hke
  refine En (Lx (gv (gw (Lh (Lt (Ls (Lg [1,4] (Lw (Zc (cY (Sl o q 5 1 af b) e7 e8 (λw h=>h.at_ 1 rfl) hp.2.2 c1) ?_)))))))))
  rintro r4 r5 ⟨x,a8,a9,b3,b5,rfl,a4,r6,k4,k5⟩
  refine Lo (Lw (Zu 1 13 (an.cells (⟨u,n,gV (iw (d,e)) 11,(⟨x,0,0,dk,none,0,[],aH⟩:aK),t⟩:an)) k5 λr7 f5=>Lo (Ld (Lt (Ls (Dz ?_))))))
  rcases Classical.em (1<=x/\x<=6) with hin|hno
  ·obtain⟨fp,fg,fm,hc,C⟩:=kX hin
   refine aE.join (T:=Nat×Nat) (E:=λjx=>[(0,.int .i64 i),(2,.slice ad b.length cb),(8,zP b4 0),(9,.int .i64 0),(10,zP a0 0),(11,zP a 0),(13,zP jx.1 0),(14,.bool true)]) (F:=λjx w=>St w0 (ah jx.1 (fA.cells (⟨.func (.func fp) #[] #[],.func (.func fg) #[] #[],.func (.func fm) #[] #[]⟩:fA)) 218::bC n7 kt jx.2 kH::ah a0 #[.slice b3 a8.length b5,.bool a9] 202::ah a (an.cells (⟨u,n,gV (iw (d,e)) 11,(⟨x,0,0,dk,none,0,[],aH⟩:aK),t⟩:an)) 43::Sl o q 5 1 af b::ah b4 (an.cells dm) 43::ah b1 (aO.cells t) 34::L) w) ?_ ?_
   ·refine aE.aV [0,0,2,6,15,31,63,63,0,383,1023] (.rd 1 (.rd 2 (.rd 3 (.alt (.ef 0 (.rd 4 (.rd 5 (.rd 6 (.rd 7 (.ef 8 (.ef 9 (.rd 10 .done)))))))) (.ef 8 (.ef 0 (.rd 4 (.rd 5 (.rd 6 (.rd 7 (.ef 9 (.rd 10 .done)))))))))))) zk zk ai zk f5 λr8 c2 r9=>gZ 1 3 (Hl 3 1 13 c2 Hz) (ar.alt ?_ ?_)
    ·refine Zc (dh c2) ?_
     rintro s0 s1 ⟨c3,rfl,c4⟩
     exact⟨bw (n:=[.cell ⟨a,13,none⟩ (.int .u8 x)]) zk (aG (c4.cell 2 rfl zk) av),ar.lookup rfl zk gq (r:=c3) (k:=x) (ok:=true) zk c4 0 rfl (z:=kt kr) zk (v:=.tuple #[.agg #[.func (.func fp) #[] #[],.func (.func fg) #[] #[],.func (.func fm) #[] #[]],.bool true]) (by rw [hc];rfl) (Zr 5 3 [] (oX (fA.cells kr) c4 λk6 s3 c5=>⟨bw (n:=[.holds (bC n7 kt c3 kH).holds,.cell ⟨a,13,none⟩ (.int .u8 x)]) zk (Ch (c5.at_ 1 rfl) (aG (c5.cell 3 rfl zk) av)),(Zu 0 0 (fA.cells (⟨.func (.func fp) #[] #[],.func (.func fg) #[] #[],.func (.func fm) #[] #[]⟩:fA)) c5 λs4 k7=>Lo (Dz (Zr 10 1 [] (Zd (uA [0,2,8,9,10,11,13,14] (k6,c3) k7)))))⟩))⟩
    refine oX (fA.cells kr) c2 λk8 s5 f6=>⟨bw (n:=[.cell ⟨a,13,none⟩ (.int .u8 x)]) zk (aG (f6.cell 2 rfl zk) av),Zc (dh f6) ?_⟩
    rintro s6 s7 ⟨f7,rfl,c6⟩
    exact⟨bw (n:=[.cell ⟨a,13,none⟩ (.int .u8 x)]) zk (aG (c6.cell 3 rfl zk) av),ar.lookup rfl zk gq (r:=f7) (k:=x) (ok:=true) zk c6 0 rfl (z:=kt kr) zk (v:=.tuple #[.agg #[.func (.func fp) #[] #[],.func (.func fg) #[] #[],.func (.func fm) #[] #[]],.bool true]) (by rw [hc];rfl) (Zr 5 3 [] (Zu 1 0 (fA.cells (⟨.func (.func fp) #[] #[],.func (.func fg) #[] #[],.func (.func fm) #[] #[]⟩:fA)) c6 λs8 k9=>Lo (Dz (Zr 10 1 [] (Zd (uA [0,2,8,9,10,11,13,14] (k8,f7) (((((((k9.pl 6).pl 6).pl 6).pl 6).pl 6).pl 5).pl 6)))))))⟩
   rintro⟨c7,f8⟩ l1 l2
   have b6:St w0 (ah c7 (fA.cells (⟨.func (.func fp) #[] #[],.func (.func fg) #[] #[],.func (.func fm) #[] #[]⟩:fA)) 218::bC n7 kt f8 kH::ah a0 #[.slice b3 a8.length b5,.bool a9] 202::ah a (an.cells (⟨u,n,gV (iw (d,e)) 11,(⟨x,0,0,dk,none,0,[],aH⟩:aK),t⟩:an)) 43::Sl o q 5 1 af b::ah b4 (an.cells dm) 43::ah b1 (aO.cells t) 34::L) l1:=l2
   refine aw.cq (S':=[(0,.int .i64 i),(2,.slice ad b.length cb),(8,zP b4 0),(9,.int .i64 0),(10,zP a0 0),(11,zP a 0),(13,zP c7 0),(14,.bool true)]) rfl (Zt (Zs (Zs (bj (Hl 4 3 0 b6 Hz) (Zt (cS (t:=(u:Int) != i) (λc8=>?_) (λc8=>?_)))))))
   ·refine En (Ls (Lg [1] (Lw (Zu 5 0 (an.cells dm) b6 λs9 f9=>Lz (Le (Ly (Dz (Cf 5 (.int .i64 5) f9 ?_))))))))
    have l3:=St.bW f9 81 2 aT.cells
    have l4:=(((((((l3.pl 0).pl 7).pl 7).pl 7).pl 7).pl 7).pl 7).pl 7
    exact⟨dm,5,rfl,rk a2 ((congrArg dw hp.2.1.symm).trans a4) (.inr (jb c8)),lU,l4.dr 7⟩
   ·have a5:=iF c8
    refine Zk (Zt (Zs (bL [4] (Hl 1 0 1 b6 Hz) (aF (f:=fg) (args:=#[zP a0 0,zP a 13]) C.cg (C.getM (Sl o q 5 1 af b) a8 a9 (λw h=>h.at_ 2 rfl) k4 (by have:=jK a4;omega) ((b6.pl 3).pl 3)) ?_))))
    rintro t0 l7 ⟨c9,b7,a6,l8,l9,rfl,b8,m0,t1,m1⟩
    refine Lo (Ld (Lt (Ls (Ls (Dz ?_)))))
    obtain⟨mm,hmm⟩:∃ m:an,m=(⟨u,n,gV (iw (d,e)) 11,c9,t⟩:an):=⟨_,rfl⟩
    have m2:St w0 (ah a (an.cells mm) 43::Sl mm.bd.qa mm.bd.qc 81 2 aT.cells mm.bd.ql::ah a0 #[.slice l8 b7.length l9,.bool a6] 202::ah c7 (fA.cells (⟨.func (.func fp) #[] #[],.func (.func fg) #[] #[],.func (.func fm) #[] #[]⟩:fA)) 218::bC n7 kt f8 kH::Sl o q 5 1 af b::ah b4 (an.cells dm) 43::ah b1 (aO.cells t) 34::L) l7:=(by rw [hmm];exact m1)
    have hmo:fa mm:=by rw [hmm];exact⟨zE,hn,Al _ 0 (λk hk=>by have:=lR (s:=wU (d,e) k) (v:=iw (d,e) k) (s2:=(dN (wU (d,e) k)).2) rfl;omega),m0,ht⟩
    refine En (Lg [1,5,10,12] (Lw (sv (iJ b7 a6 (m2.pl 2)) λt3 g0=>Lo (Dz (Zr 2 2 [] ?_)))))
    rcases Bool.eq_false_or_eq_true (!(!a6)) with a1|a1
    ·refine di 61 true a1 (En (Lw (qV (En (Lw (qV (En (Lw (qV (En (aL (Lt (LT (Ls (Lg [1] (Lw (Zu 6 0 (an.cells dm) g0 λt4 g5=>Lz (Le (Ly (Dz (Cf 6 (.int .i64 5) g5 ?_)))))))))))))))))))))
     have m5:=St.bW g5 81 2 aT.cells
     have m6:=((((((((m5.pl 0).pl 8).pl 8).pl 8).pl 8).pl 8).pl 8).pl 8).pl 8
     exact⟨dm,5,rfl,(od a2 ((congrArg dw hp.2.1.symm).trans a4) hin a5 b8).trans (by simp only [];rw [if_pos (by simpa using a1)];rfl),lU,m6.dr 8⟩
    ·refine di 61 false a1 (En (Lw (sv (gx b7 a6 g0) λt6 d0=>Lo (Dz (Zr 6 3 [] (Dj 66 ((b7.length:Int)>0) (λm8=>?_) (λm8=>?_)))))))
     ·refine En (Lw (qV (En (Lw (qV (En (aL (Lt (LT (Ls (Lg [1] (Lw (Zu 6 0 (an.cells dm) d0 λt7 g7=>Lz (Le (Ly (Dz (Cf 6 (.int .i64 5) g7 ?_)))))))))))))))))
      have m9:=St.bW g7 81 2 aT.cells
      have n0:=((((((((m9.pl 0).pl 8).pl 8).pl 8).pl 8).pl 8).pl 8).pl 8).pl 8
      exact⟨dm,5,rfl,(od a2 ((congrArg dw hp.2.1.symm).trans a4) hin a5 b8).trans (by simp only [];rw [if_neg (by simpa using a1),if_pos za];rfl),lU,n0.dr 8⟩
     ·refine Zj (du 9 1 0 121 (an.cells mm) d0 Hz) (Zc (mA mm hmo (λw h=>h.rows 2 rfl mX.size _) d0) ?_)
      rintro t8 t9 ⟨n2,n3,rfl,n4⟩
      refine Lo (Lw (aF (f:=108) (args:=#[.slice n2 ((gk mm).length) n3,.slice ad b.length cb]) Tryz.call108 (qZ (gk mm) b (kY hmo) hbb (λw h=>h.rows 0 rfl aj.size _) (λw h=>hr _ (h.drop 9)) n4) ?_))
      rintro u0 u1 ⟨rfl,d1⟩
      refine Lz (Dz (cS (t:=!(decide ((gk mm)=b))) (λd2=>?_) (λd2=>?_)))
      ·refine En (Ls (Lg [1] (Lw (Zu 7 0 (an.cells dm) d1 λu2 g8=>Lz (Le (Ly (Dz (Cf 7 (.int .i64 5) g8 ?_))))))))
       have n5:=St.bW g8 81 2 aT.cells
       have hbm:gk ⟨u,n,gV (iw (d,e)) 11,ij c9,t⟩=gk mm:=by rw [hmm];rfl
       have n6:=(((((((((n5.pl 0).pl 9).pl 9).pl 9).pl 9).pl 9).pl 9).pl 9).pl 9).pl 9
       exact⟨dm,5,rfl,(od a2 ((congrArg dw hp.2.1.symm).trans a4) hin a5 b8).trans (by simp only [];rw [if_neg (by simpa using a1),if_neg za,hbm,if_neg (of_decide_eq_false (kL d2))];rfl),lU,n6.dr 9⟩
      ·refine Zk (Zt (Zs (bL [1] (du 0 2 0 121 (an.cells mm) d1 Hz) (Zu 7 0 (an.cells mm) d1 λu3 g9=>Lz (Le (Dz (Cf 7 (.int .i64 0) g9 ?_)))))))
       have hbm:gk ⟨u,n,gV (iw (d,e)) 11,ij c9,t⟩=gk mm:=by rw [hmm];rfl
       have n8:=((((((((g9.pl 3).pl 8).pl 8).pl 8).pl 8).pl 8).pl 8).pl 8).pl 8
       exact⟨mm,0,rfl,(od a2 ((congrArg dw hp.2.1.symm).trans a4) hin a5 b8).trans (by simp only [];rw [if_neg (by simpa using a1),if_neg za,hbm,if_pos (of_decide_eq_true (km d2))];rw [hmm];rfl),hmo,n8.dr 8⟩
  ·have hc:=n9 hno
   refine aE.join (T:=Nat×Nat) (E:=λjx=>[(0,.int .i64 i),(2,.slice ad b.length cb),(8,zP b4 0),(9,.int .i64 0),(10,zP a0 0),(11,zP a 0),(13,zP jx.1 0),(14,.bool false)]) (F:=λjx w=>St w0 (ah jx.1 (fA.cells kr) 218::bC n7 kt jx.2 kH::ah a0 #[.slice b3 a8.length b5,.bool a9] 202::ah a (an.cells (⟨u,n,gV (iw (d,e)) 11,(⟨x,0,0,dk,none,0,[],aH⟩:aK),t⟩:an)) 43::Sl o q 5 1 af b::ah b4 (an.cells dm) 43::ah b1 (aO.cells t) 34::L) w) ?_ ?_
   ·refine aE.aV [0,0,2,6,15,31,63,63,0,383,1023] (.rd 1 (.rd 2 (.rd 3 (.alt (.ef 0 (.rd 4 (.rd 5 (.rd 6 (.rd 7 (.ef 8 (.ef 9 (.rd 10 .done)))))))) (.ef 8 (.ef 0 (.rd 4 (.rd 5 (.rd 6 (.rd 7 (.ef 9 (.rd 10 .done)))))))))))) zk zk ai zk f5 λu4 d4 u5=>gZ 1 3 (Hl 3 1 13 d4 Hz) (ar.alt ?_ ?_)
    ·refine Zc (dh d4) ?_
     rintro u6 u7 ⟨d5,rfl,d6⟩
     exact⟨bw (n:=[.cell ⟨a,13,none⟩ (.int .u8 x)]) zk (aG (d6.cell 2 rfl zk) av),ar.lookup rfl zk gq (r:=d5) (k:=x) (ok:=true) zk d6 0 rfl (z:=kt kr) zk (v:=.tuple #[.agg (fA.cells kr),.bool false]) (by rw [hc];rfl) (Zr 5 3 [] (oX (fA.cells kr) d6 λo0 u9 d7=>⟨bw (n:=[.holds (bC n7 kt d5 kH).holds,.cell ⟨a,13,none⟩ (.int .u8 x)]) zk (Ch (d7.at_ 1 rfl) (aG (d7.cell 3 rfl zk) av)),(Zu 0 0 (fA.cells kr) d7 λv0 o1=>Lo (Dz (Zr 10 1 [] (Zd (uA [0,2,8,9,10,11,13,14] (o0,d5) o1)))))⟩))⟩
    refine oX (fA.cells kr) d4 λo2 v1 h0=>⟨bw (n:=[.cell ⟨a,13,none⟩ (.int .u8 x)]) zk (aG (h0.cell 2 rfl zk) av),Zc (dh h0) ?_⟩
    rintro v2 v3 ⟨h1,rfl,d8⟩
    exact⟨bw (n:=[.cell ⟨a,13,none⟩ (.int .u8 x)]) zk (aG (d8.cell 3 rfl zk) av),ar.lookup rfl zk gq (r:=h1) (k:=x) (ok:=true) zk d8 0 rfl (z:=kt kr) zk (v:=.tuple #[.agg (fA.cells kr),.bool false]) (by rw [hc];rfl) (Zr 5 3 [] (Zu 1 0 (fA.cells kr) d8 λv4 o3=>Lo (Dz (Zr 10 1 [] (Zd (uA [0,2,8,9,10,11,13,14] (o2,h1) (((((((o3.pl 6).pl 6).pl 6).pl 6).pl 6).pl 5).pl 6)))))))⟩
   rintro⟨h2,o5⟩ o6 o7
   have o8:St w0 (ah h2 (fA.cells kr) 218::bC n7 kt o5 kH::ah a0 #[.slice b3 a8.length b5,.bool a9] 202::ah a (an.cells (⟨u,n,gV (iw (d,e)) 11,(⟨x,0,0,dk,none,0,[],aH⟩:aK),t⟩:an)) 43::Sl o q 5 1 af b::ah b4 (an.cells dm) 43::ah b1 (aO.cells t) 34::L) o6:=o7
   refine aw.cq (S':=[(0,.int .i64 i),(2,.slice ad b.length cb),(8,zP b4 0),(9,.int .i64 0),(10,zP a0 0),(11,zP a 0),(13,zP h2 0),(14,.bool false)]) rfl (En (Lt (Ls (Lq (LT (Ls (Lg [1] (Lw (Zu 5 0 (an.cells dm) o8 λv5 h3=>Lz (Le (Ly (Dz (Cf 5 (.int .i64 5) h3 ?_)))))))))))))
   have o9:=St.bW h3 81 2 aT.cells
   have p0:=(((((((o9.pl 0).pl 7).pl 7).pl 7).pl 7).pl 7).pl 7).pl 7
   exact⟨dm,5,rfl,rk a2 ((congrArg dw hp.2.1.symm).trans a4) (.inl hno),lU,p0.dr 7⟩
def getM (l:List Int):an×Int :=
 if l.length<=40 then (dm,5) else
 let w:=dN (l,false)
 let o:=tk (l.length-40) w.2
 let h:=kg o.2
 ofM (o.1.getD 0 0) w.1 o.1 h.1
theorem Am {r:List Int}(h:8<=r.length):dN (r,false)=(fN (r.take 8),(r.drop 8,false)):=by
 unfold dN xS
 rw [pX rfl h]
theorem wW {l r1 o r2 r3:List Int}{n:Int}{p1 p2 p3:Bool}{d:aO}(hl:¬ l.length<=40) (h1:dN (l,false)=(n,(r1,p1))) (h2:tk (l.length-40) (r1,p1)=(o,(r2,p2))) (h3:kg (r2,p2)=(d,(r3,p3))):getM l=ofM (o.getD 0 0) n o d:=by
 unfold getM
 simp only [if_neg hl,h1,h2,h3]
theorem BH {l r1 o r2:List Int}{n:Int}{p1 p2:Bool}(hl:40<l.length) (h1:dN (l,false)=(n,(r1,p1))) (h2:tk (l.length-40) (r1,p1)=(o,(r2,p2))):o.length=l.length-40/\o=(l.drop 8).take (l.length-40):=by
 rw [Am za] at h1
 simp only [Prod.mk.injEq] at h1
 obtain⟨-,rfl,rfl⟩:=h1
 rw [pX rfl zO] at h2
 simp only [Prod.mk.injEq] at h2
 obtain⟨rfl,-⟩:=h2
 exact⟨by rw [List.length_take,List.length_drop];omega,rfl⟩
theorem ye l (hbl:l.length<=100000) (hlb:∀ z∈l,0<=z/\z<256) (hr:Rw w0 L af 1 0 ad l) (hs:St w0 L w):Cs Tryz.prog 63 #[.slice ad l.length cb] w λrv w'=>∃ mm2 ee2,rv=.tuple #[.agg (an.cells mm2),.int .i64 ee2]/\getM l=(sR mm2,ee2)/\fa mm2/\St w0 (Sl mm2.bd.qa mm2.bd.qc 81 2 aT.cells mm2.bd.ql::L) w':=by
 refine bp Tryz.func63 Tryz.ntmps63 (En (Ls (Lg [0] (Dz (oX (an.cells dm) hs λb1 w2 u=>Lz (Ls (Dz (bj (cH 2 ((l.length:Nat)-32) Hz) (En (Lt (Ls (Lq (Dz (Zi (((l.length:Nat)-32:Int)<=8) (λb2=>?_) (λb2=>?_)))))))))))))))
 ·have hlen:l.length<=40:=za
  refine En (Ls (Lg [1] (Lw (Zu 0 0 (an.cells dm) u λw5 x=>Lz (Le (Ly (Dz (Cf 0 (.int .i64 5) x ?_))))))))
  have b3:=St.bW x 81 2 aT.cells
  have b4:=(b3.pl 0).pl 1
  exact⟨dm,5,rfl,(if_pos hlen),lU,b4.dr 1⟩
 ·have hlen:40<l.length:=za
  have hsome:se ad cb:=by obtain⟨b,off,rfl⟩:=ag.isSome (hr _ hs) za;exact .inl ⟨b,off,rfl⟩
  refine En (Lk (Lt (Ls (Lg [1] (Lw (Zc (df l za hsome (λw h=>hr _ (h.drop 1)) u) ?_))))))
  rintro d3 d4 ⟨d5,i,o,rfl,a0⟩
  have b6:aX (Sl i o 5 1 af l) i l o:=aX.new a0 (j:=1) rfl hlb za
  refine Lz (Ls (Lg [1] (Lw (Zc (bu (Sl i o 5 1 af l) l false (λw h=>h.at_ 0 rfl) b6 a0) ?_))))
  rintro d6 d7 ⟨a1,b7,b8,d8,d9,rfl,q,e0,b9,c0⟩
  refine Lz (Ls (Dz (bL [3] (Hg 2 (.cI (.int .i64 (l.length-40:Nat)) (.gen [])) [.prop (Value.int .i64 (IntKind.i64.wrap (((l.length:Nat)-32)-8))=Value.int .i64 (l.length-40:Nat))] (aB (de za za za) av) Hz) (Zc (ji (Sl i o 5 1 af l) b7 b8 (l.length-40) (λw h=>h.at_ 0 rfl) b9 c0) ?_))))
  rintro e1 e2 ⟨e3,c1,a,c2,c3,e4,e5,rfl,a2,c4,a3⟩
  refine Lz (Ls (Dz ?_))
  have hown:=BH hlen q a2
  have a4:∀ z∈a,0<=z/\z<256:=by rw [hown.2];exact λz hz=>hlb z (List.mem_of_mem_drop (List.mem_of_mem_take hz))
  have e6:=a4 _ (eF (d:=(0:Int)) (k:=0) za)
  obtain⟨e,rfl⟩:=Sl.isSome (a3.at_ 0 rfl) za
  refine ZD (jX [0,1,2,3,4,5,6] (.ef 7 (.ef 8 (jX [9,10] (.ef 11 (.rd 12 .done)))))) a3 λe7 a5 e8=>Zj (Hx 1 (0:Int) (a.length:Int) e 0 1 (Hg 2 (.gen [.int .u8 (a.getD 0 0)]) [.cell ⟨e,0,none⟩ (.int .u8 (a.getD 0 0))] (aG (ag.cC (a5.rows 0 rfl aj.size (0:Int)) (k:=0) zd (j:=0) zf zk) av) (cH 3 (a.getD 0 0) Hz))) (Zc (jL (Sl i o 5 1 af l) c2 c3 (λw h=>h.at_ 1 rfl) c4 (a5.pl 1)) ?_)
  rintro e9 f0 ⟨a6,f1,f2,f3,f4,rfl,c6,c7,f5,a7⟩
  refine⟨bw (n:=[.prop (Value.int .i64 (IntKind.i64.wrap (a.getD 0 0))=Value.int .i64 (a.getD 0 0)),.cell ⟨e,0,none⟩ (.int .u8 (a.getD 0 0)),.prop (0<=(0:Int)/\(0:Int)<(a.length:Int)),.prop (Value.pointer (some (Addr.add ⟨e,0,none⟩ (Int.toNat 0*1)))=Value.pointer (some ⟨e,0,none⟩))]) zk (aB (dD za za) (aG (ag.cC (a7.rows 1 rfl aj.size (0:Int)) (k:=0) zd (j:=0) zf zk) (aB za (aB (aS _ _ _) av)))),aF (f:=66) (args:=#[.int .i64 (a.getD 0 0),.int .u64 a1,zL e 0 a.length c1,.agg (aO.cells a6)]) Tryz.call66 (wV (a.getD 0 0) a1 a a6 za za a4 (by have:=lR q;omega) c7 (λw h=>h.rows 1 rfl aj.size _) a7) ?_⟩
  rintro f6 f7 ⟨a8,a9,rfl,c8,c9,d0⟩
  refine Lo (Lw (Zu 4 0 (an.cells a8) d0 λf8 b0=>Lz (Le (Dz (Cf 4 (.int .i64 a9) b0 ?_)))))
  have d1:=((((b0.pl 0).pl 4).pl 4).pl 4).pl 4
  exact⟨a8,a9,rfl,(wW za q a2 c6).trans c8,c9,d1.dr 4⟩
end
end Go.Proofs.YtdaohdehpmgfdaaGreatDoor
