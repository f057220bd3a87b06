/-
  Several texts in one: EvK, EvL, EvJ.
-/
import Derived.Test.YthfpmlpoiocfdaaGreatDoorEvUx
import Derived.Laws.Append
namespace Go.Ev
open Go.Sx
set_option linter.unusedVariables false
set_option linter.unusedSimpArgs false
theorem td {α:Type}:∀ (n:Nat) (us l:List α),n+us.length<=l.length->aV n us l=l.take n++us++l.drop (n+us.length)
 | 0,[],l,_=>by simp [aV,over]
 | 0,u::us,[],h=>by simp at h
 | 0,u::us,x::l,h=>by
  have:=td 0 us l (by simpa using h)
  simp only [aV,Nat.zero_add,List.take_zero,List.nil_append,over] at this ⊢
  rw [this]
  simp
 | n+1,us,[],h=>by simp at h
 | n+1,us,x::l,h=>by
  have:=td n us l (by simp at h;omega)
  simp only [aV,this]
  rw [show n+1+us.length=(n+us.length)+1 from by omega]
  simp
section
variable {δ : List Deferred} {P : Program} {G : Nat -> Option (List Value)} {ν : Nu} {N : Nat} {S : AE} {a : Act} {m m' : AM} {w w0 : World} {L : List bA}
theorem oW (hm:Rt ν m w){size n:Nat}{x:AV}{l:List AV}(h:qz m size n x=some l){v:Value}(hx:x.val ν=some v) :
 ∃ us,bF ν l=some us/\us.length=n*size/\∀ w1:World,w1.heap=w.heap->(Builtin.firstCells size n v).run P w1=.ok us.toArray w1:=by
 unfold qz at h
 split at h
 ·rename_i id off len cap kn
  split at h
  ·rename_i cs hc
   obtain⟨p,vs,rest,T,fr,h1,h2,h3,h4⟩:=kU hm hc
   obtain⟨p',c,hp',rfl,_⟩:=ju hx
   rw [h1] at hp'
   cases hp'
   obtain⟨h5,h6⟩:=rX h h2
   have hlen:((vs.drop off).take (n*size)).length=n*size:=by simp only [List.length_take,List.length_drop];omega
   refine⟨_,h5,hlen,λw1 hw=>?_⟩
   simp only [Builtin.firstCells,loadCells]
   refine fT _ _ (by simpa using hlen) λi hi=>?_
   have hi':i<n*size:=by simpa [hlen] using hi
   rw [dI,cell_of (w:=w1) (by rw [hw];exact h3) za]
   simp only [List.getElem?_toArray]
   rw [List.getElem?_take,if_pos hi',List.getElem?_drop]
  ·cases h
 ·obtain⟨p,off,c,_,rfl⟩:=qF hx
  cases hn:Nat.beq n 0 with
  | false=>rw [hn] at h;cases h
  | true =>
   rw [hn] at h
   obtain rfl:=Nat.eq_of_beq_eq_true hn
   simp only [cond_true,Option.some.injEq] at h
   subst h
   exact⟨[],rfl,by simp,λw1 _=>by simp [Builtin.firstCells,loadCells,loadCellsFrom]⟩
 ·simp only [AV.val,Option.some.injEq] at hx
  subst hx
  cases hn:Nat.beq n 0 with
  | false=>rw [hn] at h;cases h
  | true =>
   rw [hn] at h
   obtain rfl:=Nat.eq_of_beq_eq_true hn
   simp only [cond_true,Option.some.injEq] at h
   subst h
   exact⟨[],rfl,by simp,λw1 _=>by simp [Builtin.firstCells]⟩
 ·rename_i s
  simp only [AV.val,Option.some.injEq] at hx
  subst hx
  cases hn:Nat.beq size 1 with
  | false=>rw [hn] at h;cases h
  | true =>
   rw [hn] at h
   obtain rfl:=Nat.eq_of_beq_eq_true hn
   simp only [cond_true] at h
   split at h
   ·rename_i hle
    simp only [Option.some.injEq] at h
    subst h
    have key:∀ l:List UInt8,bF ν (l.map λb=>AV.num .u8 b.toNat)=some (l.map λb=>Value.int .u8 (b.toNat:Int)):=by
     intro l
     induction l with
     | nil=>rfl
     | cons b l ih=>exact aM rfl ih
    have hsz:s.data.toList.length=s.size:=Array.length_toList
    have hle:=of_decide_eq_true hle
    refine⟨_,key _,by(rw [List.length_map,List.length_take,hsz,Nat.mul_one];exact Nat.min_eq_left hle),λw1 _=>?_⟩
    simp only [Builtin.firstCells,Sem.run_pure]
    congr 1
    apply Array.ext'
    simp [ByteArray.toList_eq,ByteArray.data_extract]
   ·cases h
 ·cases h
theorem Ar {x:AV}{n:Nat}{v:Value}(h:Ja x=some n) (hx:x.val ν=some v) (w:World):(Builtin.lenOf v).run P w=.ok n w:=by
 unfold Ja at h
 split at h
 ·obtain⟨p,c,_,rfl,_⟩:=ju hx;cases h;rfl
 ·obtain⟨p,_,c,_,rfl⟩:=qF hx;cases h;rfl
 ·simp only [AV.val,Option.some.injEq] at hx;subst hx;cases h;rfl
 ·simp only [AV.val,Option.some.injEq] at hx;subst hx;cases h;rfl
 ·cases h
theorem jI (e:TypeId) (cs:Array Value) (w1:World):(newRow e cs).run P w1=.ok ⟨w1.heap.size,0,none⟩ { w1 with heap:=w1.heap.push (.cells cs e) }:=rfl
theorem As {ts:Array TypeId}{t t' e ty:TypeId}{d:TypeDesc}{ie:TypeInfo}{z:Value}{base:Option Addr}{sLen sCap:Nat}{x:Value}{n:Nat}{us:List Value}
 (h0:ts[0]?=some t) (h1:ts[1]?=some t') (hu:P.underlying t=some (.slice e)) (hu':P.underlying t'=some d) (hi:P.info? e=some ie) (hz:ie.zero=some z)
 (hpos:0<ie.size) (hzs:z.cells.size=ie.size) (hlen:us.length=n*ie.size) (hbig:(sLen+n)*(ie.bytes+1)<=1000000000)
 (hx:(wK (some d)=true/\(∃ k,x=.int k (n:Int))/\us=rep n z.cells.toList) \/
  (wK (some d)=false/\(∀ w1:World,(Builtin.lenOf x).run P w1=.ok n w1)/\∀ w1:World,w1.heap=w.heap->(Builtin.firstCells ie.size n x).run P w1=.ok us.toArray w1)) :
 (sLen+n<=sCap->(Builtin.append_ ts ty #[.slice base sLen sCap,x]).run P w=((match base with
  | some ad=>storeCells (ad.add (sLen*ie.size)) us
  | none=>pure ()).run P w).andThen λ_ w'=>.ok (.slice base (sLen+n) sCap) w') /\
 (sCap<sLen+n->∀ olds:List Value,olds.length=sLen*ie.size->(∀ w1:World,w1.heap=w.heap->(Builtin.firstCells ie.size sLen (.slice base sLen sCap)).run P w1=.ok olds.toArray w1) ->
  ∃ cap,sLen+n<=cap/\cap<=9223372036854775807/\(Builtin.append_ ts ty #[.slice base sLen sCap,x]).run P w=.ok (.slice (some ⟨w.heap.size,0,none⟩) (sLen+n) cap)
   { w with drawn:=w.drawn+1,heap:=w.heap.push (.cells (olds++us++rep (cap-(sLen+n)) z.cells.toList).toArray e) }):=by
 have hb1:sLen+n<=1000000000:=Nat.le_trans (Nat.le_mul_of_pos_right _ za) hbig
 have hb2:(sLen+n)*ie.bytes<=1000000000:=Nat.le_trans (Nat.mul_le_mul_left _ za) hbig
 have hn2:n*ie.bytes<=1000000000:=Nat.le_trans (Nat.mul_le_mul_right _ za) hb2
 have ask:∀ b w,(askRoom b).run P w=.ok () w:=by
  intro b w
  unfold askRoom
  split<;>simp [mark,Sem.run]
 have hzc:∀ k,Builtin.zeroCells z.cells k=(rep k z.cells.toList).toArray:=λk=>sj k za
 rcases hx with⟨hint,⟨k,rfl⟩,rfl⟩|⟨hint,hlo,hfc⟩
 ·obtain⟨k',rfl⟩:∃ k',d=.int k':=by
   cases d<;>first|exact⟨_,rfl⟩|cases hint
  have w1:IntKind.i64.wrap (n:Int)=(n:Int):=uP za za
  have t1:¬ ((n:Int)<0):=za
  have t2:¬ ((n:Int)*(ie.bytes:Int)>2 ^ 48):=by
   rw [<- Int.natCast_mul];omega
  have hmatch:(TypeDesc.int k' matches .int _)=true:=rfl
  have t2':¬ (281474976710656<(n:Int)*(ie.bytes:Int)):=by
   rw [<- Int.natCast_mul];omega
  constructor
  ·intro hfit
   by_cases hz0:n*ie.size=0
   ·have hn0:n=0:=by
     rcases Nat.mul_eq_zero.1 hz0 with h|h
     ·exact h
     ·omega
    simp [Builtin.append_,h0,h1,run_underlying hu,run_underlying hu',sizeOf,typeInfo,hi,asInt,asIntOf,w1,t1,t2',hfit,hz0]
    cases base<;>simp [hn0,rep,storeCells]
   ·simp [Builtin.append_,h0,h1,run_underlying hu,run_underlying hu',sizeOf,typeInfo,zeroValue,hi,hz,asInt,asIntOf,w1,t1,t2',hfit,hz0,hzc]
    cases base<;>simp
  ·intro hno olds hol hold
   have hns:¬ (sLen+n<=sCap):=za
   have hnc:Builtin.nextslicecap (sLen+n) sCap*ie.bytes<=281474976710656:=growslice_fits hno za
   have hnc':¬ (281474976710656<Builtin.nextslicecap (sLen+n) sCap*ie.bytes):=za
   have hmx:¬ (9223372036854775807<(sLen:Int)+(n:Int)):=za
   refine⟨grownCap w (sLen+n) sCap e,grownCap_ge w (sLen+n) sCap e,grownCap_le_maxLen w (sLen+n) sCap e zH,?_⟩
   by_cases hz0:n*ie.size=0
   ·have hn0:n=0:=by
     rcases Nat.mul_eq_zero.1 hz0 with h|h
     ·exact h
     ·omega
    simp [Builtin.append_,h0,h1,run_underlying hu,run_underlying hu',sizeOf,typeInfo,zeroValue,hi,hz,asInt,asIntOf,w1,t1,t2',hns,hz0,hzc,hnc',hmx,Question.forced,ask,hold w.drew rfl]
    have hr0:rep n z.cells.toList=[]:=by rw [hn0];rfl
    simp only [jI,Result.andThen_ok,List.append_assoc,hr0,List.nil_append]
    rfl
   ·simp [Builtin.append_,h0,h1,run_underlying hu,run_underlying hu',sizeOf,typeInfo,zeroValue,hi,hz,asInt,asIntOf,w1,t1,t2',hns,hz0,hzc,hnc',hmx,Question.forced,ask,hold w.drew rfl]
    simp only [jI,Result.andThen_ok,List.append_assoc]
    rfl
 ·have hint2:∀ k,d≠.int k:=λk e=>by rw [e] at hint;cases hint
  have hm:(match d with | .int _=>true|_=>false)=false:=by cases d<;>first|rfl|exact absurd rfl (hint2 _)
  constructor
  ·intro hfit
   simp [Builtin.append_,h0,h1,run_underlying hu,run_underlying hu',sizeOf,typeInfo,hi,hm,hlo,hfit,hfc w rfl]
   cases base<;>simp
  ·intro hno olds hol hold
   have hns:¬ (sLen+n<=sCap):=za
   have hnc:Builtin.nextslicecap (sLen+n) sCap*ie.bytes<=281474976710656:=growslice_fits hno za
   have hnc':¬ (281474976710656<Builtin.nextslicecap (sLen+n) sCap*ie.bytes):=za
   have hmx:¬ (9223372036854775807<(sLen:Int)+(n:Int)):=za
   refine⟨grownCap w (sLen+n) sCap e,grownCap_ge w (sLen+n) sCap e,grownCap_le_maxLen w (sLen+n) sCap e zH,?_⟩
   simp [Builtin.append_,h0,h1,run_underlying hu,run_underlying hu',sizeOf,typeInfo,zeroValue,hi,hz,hm,hlo,hns,hzc,hnc',hmx,Question.forced,ask,hold w.drew rfl,hfc w.drew rfl]
   simp only [jI,Result.andThen_ok,List.append_assoc]
   rfl
theorem Hv {z:List AV}(h:kM z=true):∀ n,kM (rep n z)=true
 | 0=>rfl
 | n+1=>by rw [rep,BZ,h,Hv h n];rfl
theorem uE (hs:St w0 (Mem ν m::L) w){ts:Array TypeId}{t t' e ty:TypeId}{d:TypeDesc}{ie:TypeInfo}{z:Value}{x:Value}{s av:AV}{sv:Value}{n:Nat}{news:List AV}{us:List Value}
 (h0:ts[0]?=some t) (h1:ts[1]?=some t') (hu:P.underlying t=some (.slice e)) (hu':P.underlying t'=some d) (hi:P.info? e=some ie) (hz:ie.zero=some z)
 (hpos:0<ie.size) (hzs:z.cells.size=ie.size) (hn:bF ν news=some us) (hone:kM news=true) (hlen:us.length=n*ie.size) (hsv:s.val ν=some sv)
 (hx:(wK (some d)=true/\(∃ k,x=.int k (n:Int))/\us=rep n z.cells.toList) \/
  (wK (some d)=false/\(∀ w1:World,(Builtin.lenOf x).run P w1=.ok n w1)/\∀ w1:World,w1.heap=w.heap->(Builtin.firstCells ie.size n x).run P w1=.ok us.toArray w1))
 (h:KJ m ie.size ie.bytes s n news=some (av,m')) :
 ∃ v ν' w',ν.le ν'/\av.val ν'=some v/\St w0 (Mem ν' m'::L) w'/\(Builtin.append_ ts ty #[sv,x]).run P w=.ok v w':=by
 have hm:=dD hs
 have drew:∀ {A:List bA},St w0 A w->St w0 A { w with drawn:=w.drawn+1 }:=λh=>h.drew
 unfold KJ at h
 split at h
 ·
  simp only [AV.val,Option.some.injEq] at hsv
  subst hsv
  cases hb:Nat.ble (n*(ie.bytes+1)) 1000000000 with
  | false=>rw [hb] at h;cases h
  | true =>
   rw [hb] at h
   have hb:=bN hb
   simp only [cond_true] at h
   obtain⟨r1,r2⟩:=As (P:=P) (ty:=ty) (base:=none) (sLen:=0) (sCap:=0) h0 h1 hu hu' hi hz hpos hzs hlen (by simpa using hb) hx
   cases hn0:Nat.beq n 0 with
   | true =>
    rw [hn0] at h
    have:=Nat.eq_of_beq_eq_true hn0
    subst this
    simp only [cond_true,Option.some.injEq,Prod.mk.injEq] at h
    obtain⟨rfl,rfl⟩:=h
    refine⟨_,ν,w,Nu.le_refl ν,rfl,hs,?_⟩
    rw [r1 (Nat.le_refl _)]
    simp
   | false =>
    rw [hn0] at h
    have hne:=Nat.ne_of_beq_eq_false hn0
    simp only [cond_false,Option.some.injEq] at h
    obtain⟨cap,hc,hcm,hr⟩:=r2 za [] zw (λw1 _=>by simp [Builtin.firstCells])
    simp only [List.nil_append,Nat.zero_add] at hr hc
    have hl2:(us++rep (cap-n) z.cells.toList).length=cap*ie.size:=by
     rw [List.length_append,jO,hlen,Array.length_toList,hzs,<- Nat.add_mul]
     congr 1;omega
    obtain⟨k1,k2⟩:=tb (drew hs) hn e (z:=ie.size) hl2 (0,0) (λi _ h=>by simp at h) hcm
    simp only [nM,Prod.mk.injEq] at h
    obtain⟨rfl,rfl⟩:=h
    refine⟨_,_,_,k2,my (Nu.bV _ _ _) hc zw,k1,?_⟩
    rw [hr]
 ·rename_i id off len cap kn
  obtain⟨p,c,hp,rfl,hlc,k1,k2⟩:=ju hsv
  cases hb:Nat.ble ((len+n)*(ie.bytes+1)) 1000000000 with
  | false=>rw [hb] at h;cases h
  | true =>
   rw [hb] at h
   have hb:=bN hb
   simp only [cond_true] at h
   obtain⟨r1,r2⟩:=As (P:=P) (ty:=ty) (base:=some ⟨p.1,off,none⟩) (sLen:=len) (sCap:=c) h0 h1 hu hu' hi hz hpos hzs hlen hb hx
   cases kn with
   | false =>
    simp only at h
    split at h
    ·rename_i cs z' hg
     cases hb2:(Nat.beq z' ie.size && Nat.beq off 0 && Nat.beq cap 0 && Nat.ble (len*ie.size) cs.length) with
     | false=>rw [hb2] at h;cases h
     | true =>
      rw [hb2] at h
      simp only [Bool.and_eq_true] at hb2
      obtain⟨⟨⟨q1,q2⟩,q3⟩,q4⟩:=hb2
      obtain rfl:=Nat.eq_of_beq_eq_true q1
      obtain rfl:=Nat.eq_of_beq_eq_true q2
      obtain rfl:=Nat.eq_of_beq_eq_true q3
      have q4:=bN q4
      have hcp:c=p.2:=by have:=k2 rfl;omega
      simp only [cond_true,Option.some.injEq,nM,Prod.mk.injEq] at h
      obtain⟨rfl,rfl⟩:=h
      obtain⟨p',o',h5,h6,vs,rest,T,fr,h7,rfl,h8,h9⟩:=hm.at_ id _ hg
      rw [hp] at h5
      cases h5
      have lv:=cO h7
      have holdv:=sW (len*ie.size) h7
      have hnew:=eA holdv hn
      by_cases hfit:len+n<=c
      ·
       have hfit2:len*ie.size+us.length<=(vs++rest).length:=by
        rw [h8,hlen,<- Nat.add_mul,<- hcp]
        exact Nat.mul_le_mul_right _ hfit
       have hst:=fV (P:=P) us w (vs++rest).toArray fr (len*ie.size) 0 h6 (by simpa using h9.1) (by simpa using hfit2) (qJ hone hn)
       simp only [Nat.add_zero] at hst
       have hsp:Go.Sx.aV (vs++rest).toArray (len*ie.size) us=((vs.take (len*ie.size)++us)++(vs++rest).drop (len*ie.size+us.length)).toArray:=by
        rw [DZ us _ (by simpa using hfit2)]
        simp only [List.toList_toArray]
        rw [td _ us _ hfit2,List.take_append_of_le_length (by rw [lv];exact q4)]
       rw [hsp] at hst
       have hle:=Nu.nk (p:=p) (hm.fresh _ (Nat.le_refl _))
       have hlen3:((vs.take (len*ie.size)++us)++(vs++rest).drop (len*ie.size+us.length)).length=(vs++rest).length:=by
        have:(vs.take (len*ie.size)).length=len*ie.size:=by rw [List.length_take];omega
        rw [List.length_append,List.length_append,this,List.length_drop]
        omega
       obtain⟨j1,j2⟩:=St.Nw hs hg hp _ (blk':=.buf (cs.take (len*ie.size)++news) ie.size) ⟨vs.take (len*ie.size)++us,(vs++rest).drop (len*ie.size+us.length),T,fr,dX hle _ hnew,rfl,by rw [hlen3];exact h8,by rw [hlen3];exact h9.1,h9.2⟩
       refine⟨_,_,_,j2,my (Nu.bV _ _ _) (c:=c) za za,j1,?_⟩
       rw [r1 hfit]
       simp only [dI,Nat.zero_add]
       rw [hst]
       rfl
      ·
       have holds:(vs.take (len*ie.size)).length=len*ie.size:=by rw [List.length_take];omega
       have hf1:∀ w1:World,w1.heap=w.heap->(Builtin.firstCells ie.size len (.slice (some ⟨p.1,0,none⟩) len c)).run P w1=.ok (vs.take (len*ie.size)).toArray w1:=by
        intro w1 hw
        simp only [Builtin.firstCells,loadCells]
        refine fT _ _ (by simpa using holds) λi hi=>?_
        have hi':i<len*ie.size:=by rw [List.size_toArray,holds] at hi;exact hi
        rw [dI,Nat.zero_add,cell_of (w:=w1) (by rw [hw];exact h6) za]
        simp only [List.getElem?_toArray]
        rw [List.getElem?_take,if_pos hi']
       obtain⟨cap',hc',hcm,hr⟩:=r2 za _ holds hf1
       have hl2:((vs.take (len*ie.size)++us)++rep (cap' - (len+n)) z.cells.toList).length=cap'*ie.size:=by
        rw [List.length_append,List.length_append,holds,jO,hlen,Array.length_toList,hzs,<- Nat.add_mul,<- Nat.add_mul]
        congr 1;omega
       obtain⟨j1,j2⟩:=tb (St.O8 (drew hs) id) hnew e (z:=ie.size) hl2 (0,0) (λi _ h=>by simp at h) hcm
       refine⟨_,_,_,j2,my (Nu.bV _ _ _) hc' zw,j1,?_⟩
       rw [hr]
    ·cases h
   | true =>
    have hcc:=k1 rfl
    subst hcc
    simp only at h
    cases hfit:Nat.ble (len+n) c with
    | true =>
     rw [hfit] at h
     have hfit:=bN hfit
     simp only [cond_true] at h
     split at h
     ·rename_i m2 hst
      simp only [Option.some.injEq,Prod.mk.injEq] at h
      obtain⟨rfl,rfl⟩:=h
      obtain⟨w',h2,h3⟩:=jy (P:=P) hst hp hn hs
      refine⟨_,ν,w',Nu.le_refl ν,wZ hp hfit,h2,?_⟩
      rw [r1 hfit]
      simp only [dI]
      rw [h3]
      rfl
     ·cases h
    | false =>
     rw [hfit] at h
     have hfit:¬ (len+n<=c):=λhle=>by rw [Nat.ble_eq_true_of_le hle] at hfit;cases hfit
     simp only [cond_false] at h
     split at h
     ·rename_i old hold
      simp only [Option.some.injEq,nM,Prod.mk.injEq] at h
      obtain⟨rfl,rfl⟩:=h
      obtain⟨os,o1,o2,o3⟩:=oW (P:=P) hm hold hsv
      obtain⟨cap',hc',hcm,hr⟩:=r2 za os o2 o3
      have hl2:((os++us)++rep (cap' - (len+n)) z.cells.toList).length=cap'*ie.size:=by
       rw [List.length_append,List.length_append,o2,jO,hlen,Array.length_toList,hzs,<- Nat.add_mul,<- Nat.add_mul]
       congr 1;omega
      obtain⟨j1,j2⟩:=tb (drew hs) (eA o1 hn) e (z:=ie.size) hl2 (0,0) (λi _ h=>by simp at h) hcm
      refine⟨_,_,_,j2,my (Nu.bV _ _ _) hc' zw,j1,?_⟩
      rw [hr]
     ·cases h
 ·cases h
theorem yz (hs:St w0 (Mem ν m::L) w){ts:Array TypeId}{ty:TypeId}{asx:List AV}{vs:List Value}{av:AV}(hv:bF ν asx=some vs) (h:Bw P m ts.toList asx=some (av,m')) :
 ∃ v ν' w',ν.le ν'/\av.val ν'=some v/\St w0 (Mem ν' m'::L) w'/\(Builtin.append_ ts ty vs.toArray).run P w=.ok v w':=by
 have hm:=dD hs
 unfold Bw at h
 split at h
 ·rename_i t t' tl s x hts
  obtain⟨sv,l1,hsv,hl1,rfl⟩:=cB.1 hv
  obtain⟨xv,l2,hxv,hl2,rfl⟩:=cB.1 hl1
  simp only [bF,Option.some.injEq] at hl2
  subst hl2
  have h0:ts[0]?=some t:=by rw [<- Array.getElem?_toList,hts];rfl
  have h1:ts[1]?=some t':=by rw [<- Array.getElem?_toList,hts];rfl
  split at h
  ·rename_i e d hu hu'
   split at h
   ·rename_i ie z hie hz
    cases hb:(Nat.beq z.length ie.size && Nat.ble 1 ie.size && kM z) with
    | false=>rw [hb] at h;cases h
    | true =>
     rw [hb] at h
     simp only [Bool.and_eq_true] at hb
     obtain⟨⟨q1,q2⟩,q3⟩:=hb
     have q1:=Nat.eq_of_beq_eq_true q1
     have q2:=bN q2
     simp only [cond_true] at h
     obtain⟨ti,zv,z1,z2,z3⟩:=gz (ν:=ν) hz
     rw [hie] at z1
     cases z1
     have lz:zv.cells.size=ie.size:=by rw [<- Array.length_toList,cO z3,q1]
     split at h
     ·rename_i n news hnews
      unfold Hj at hnews
      split at hnews
      ·rename_i hint
       split at hnews
       ·rename_i n' hn'
        cases hb3:Nat.ble (n'*(ie.bytes+1)) 1000000000 with
        | false=>rw [hb3] at hnews;cases hnews
        | true =>
         rw [hb3] at hnews
         simp only [cond_true,Option.some.injEq,Prod.mk.injEq] at hnews
         obtain⟨rfl,rfl⟩:=hnews
         obtain⟨k,rfl⟩:=kZ hn' hxv
         exact uE hs h0 h1 hu hu' hie z2 q2 lz (oU z3 n') (Hv q3 n') (by rw [jO,Array.length_toList,lz]) hsv (.inl ⟨hint,⟨k,rfl⟩,rfl⟩) h
       ·cases hnews
      ·rename_i hint
       split at hnews
       ·rename_i n' hn'
        split at hnews
        ·rename_i l hl
         cases ho:kM l with
         | false=>rw [ho] at hnews;cases hnews
         | true =>
          rw [ho] at hnews
          simp only [cond_true,Option.some.injEq,Prod.mk.injEq] at hnews
          obtain⟨rfl,rfl⟩:=hnews
          obtain⟨us,u1,u2,u3⟩:=oW (P:=P) hm hl hxv
          exact uE hs h0 h1 hu hu' hie z2 q2 lz u1 ho u2 hsv (.inr ⟨hint,λw1=>Ar hn' hxv w1,u3⟩) h
        ·cases hnews
       ·cases hnews
     ·cases h
   ·cases h
  ·cases h
 ·cases h
theorem D6 (hs:St w0 (Mem ν m::L) w){ts:Array TypeId}{ty:TypeId}{asx:List AV}{vs:List Value}{av:AV}(hv:bF ν asx=some vs) (h:KK P m ts.toList asx=some (av,m')) :
 ∃ v w',av.val ν=some v/\St w0 (Mem ν m'::L) w'/\(Builtin.copy_ ts ty vs.toArray).run P w=.ok v w':=by
 have hm:=dD hs
 unfold KK at h
 split at h
 ·rename_i t tl dd x hts
  obtain⟨sv,l1,hsv,hl1,rfl⟩:=cB.1 hv
  obtain⟨xv,l2,hxv,hl2,rfl⟩:=cB.1 hl1
  simp only [bF,Option.some.injEq] at hl2
  subst hl2
  have h0:ts[0]?=some t:=by rw [<- Array.getElem?_toList,hts];rfl
  split at h
  ·rename_i e hu
   split at h
   ·rename_i ie dl xl hie hdl hxl
    have l1:=Ar (P:=P) hxl hxv w
    split at h
    ·rename_i new id off len cap kn hnew
     obtain⟨us,u1,u2,u3⟩:=oW (P:=P) hm hnew hxv
     obtain⟨p,c,hp,rfl,_⟩:=ju hsv
     simp only [Ja,Option.some.injEq] at hdl
     subst hdl
     split at h
     ·rename_i m2 hst
      simp only [Option.some.injEq,Prod.mk.injEq] at h
      obtain⟨rfl,rfl⟩:=h
      obtain⟨w',h2,h3⟩:=jy (P:=P) hst hp u1 hs
      refine⟨_,w',rfl,h2,?_⟩
      have u4:=u3 w rfl
      simp only [Builtin.copy_,h0,List.getElem?_toArray,List.getElem?_cons_zero,List.getElem?_cons_succ,Sem.run_bind,run_underlying hu,Result.andThen_ok,l1,sizeOf,typeInfo,run_program,hie,Sem.run_pure]
      rw [show Nat.min xl len=min xl len from rfl,u4]
      simp only [Result.andThen_ok,h3,goInt]
      rfl
     ·cases h
    ·cases h
   ·cases h
  ·cases h
 ·cases h
theorem yA (hs:St w0 (Mem ν m::L) w){ts:Array TypeId}{ty:TypeId}{asx:List AV}{vs:List Value}(hv:bF ν asx=some vs) (h:Bz P m ts.toList asx=some m') :
 ∃ w',St w0 (Mem ν m'::L) w'/\(Builtin.delete_ ts ty vs.toArray).run P w=.ok (.tuple #[]) w':=by
 have hm:=dD hs
 unfold Bz at h
 split at h
 ·rename_i t tl id kk hts
  obtain⟨sv,l1,hsv,hl1,rfl⟩:=cB.1 hv
  obtain⟨xv,l2,hxv,hl2,rfl⟩:=cB.1 hl1
  simp only [bF,Option.some.injEq] at hl2
  subst hl2
  have h0:ts[0]?=some t:=by rw [<- Array.getElem?_toList,hts];rfl
  split at h
  ·rename_i kt e k hu hk
   have hk1:=lF (ν:=ν) hk
   rw [hxv] at hk1
   cases hk1
   obtain⟨p,hp,rfl⟩:=lH hsv
   split at h
   ·rename_i es clock hg
    obtain⟨p',l,hp',hl,hb⟩:=lI hm hg
    rw [hp] at hp'
    cases hp'
    cases hko:qh P (kE es) kt xv with
    | false=>rw [hko] at h;cases h
    | true =>
     rw [hko] at h
     simp only [cond_true] at h
     have hem:l.toArray.isEmpty=kE es:=by
      rw [Aq]
      have:=jw hl
      cases l<;>cases es<;>simp at this ⊢
     have hck:=RB hko w
     have g1:=iX (P:=P) hb
     split at h
     ·rename_i i hfi
      simp only [Option.some.injEq] at h
      subst h
      rcases iq hfi hl w with⟨h1,_⟩|⟨j,e',h1,h2,h3⟩
      ·cases h1
      ·cases h1
       refine⟨_,qK hs hg hp (D4 hl i) clock,?_⟩
       have hlt:i<l.length:=(List.getElem?_eq_some_iff.1 h2).1
       have he:l.toArray.eraseIdxIfInBounds i=(l.eraseIdx i).toArray:=by simp [Array.eraseIdxIfInBounds,hlt]
       simp only [Builtin.delete_,h0,List.getElem?_toArray,List.getElem?_cons_zero,List.getElem?_cons_succ,Sem.run_bind,run_underlying hu,Result.andThen_ok,g1,hem,hck,h3,he,gA hb,Sem.run_pure]
     ·rename_i hfi
      simp only [Option.some.injEq] at h
      subst h
      rcases iq hfi hl w with⟨_,h1⟩|⟨j,e',h1,_,_⟩
      ·refine⟨w,hs,?_⟩
       have hsame:({ w with heap:=w.heap.setIfInBounds p.1 (.map l.toArray clock) }:World)=w:=by
        have:w.heap.setIfInBounds p.1 (.map l.toArray clock)=w.heap:=by
         apply Array.ext_getElem?
         intro k
         rw [Array.getElem?_setIfInBounds]
         split
         ·rename_i hk;subst hk;split
          ·exact hb.symm
          ·rename_i hge;rw [Array.getElem?_eq_none za]
         ·rfl
        rw [this]
       simp only [Builtin.delete_,h0,List.getElem?_toArray,List.getElem?_cons_zero,List.getElem?_cons_succ,Sem.run_bind,run_underlying hu,Result.andThen_ok,g1,hem,hck,h1,gA hb,Sem.run_pure,hsame]
      ·cases h1
     ·cases h
   ·cases h
  ·cases h
 ·cases h
theorem B2 (hs:St w0 (Mem ν m::L) w){ts:Array TypeId}{ty:TypeId}{asx:List AV}{vs:List Value}(hv:bF ν asx=some vs) (h:Ge P m ts.toList asx=some m') :
 ∃ w',St w0 (Mem ν m'::L) w'/\(Builtin.clear_ ts ty vs.toArray).run P w=.ok (.tuple #[]) w':=by
 have hm:=dD hs
 unfold Ge at h
 split at h
 ·rename_i t tl id off len cap kn hts
  obtain⟨sv,l1,hsv,hl1,rfl⟩:=cB.1 hv
  simp only [bF,Option.some.injEq] at hl1
  subst hl1
  have h0:ts[0]?=some t:=by rw [<- Array.getElem?_toList,hts];rfl
  obtain⟨p,c,hp,rfl,_⟩:=ju hsv
  split at h
  ·rename_i e hu
   split at h
   ·rename_i ie z hie hz
    cases hb:(Nat.beq z.length ie.size && Nat.ble 1 ie.size && Nat.ble 1 len) with
    | false=>rw [hb] at h;cases h
    | true =>
     rw [hb] at h
     simp only [Bool.and_eq_true] at hb
     obtain⟨⟨q1,q2⟩,q3⟩:=hb
     have q1:=Nat.eq_of_beq_eq_true q1
     have q2:=bN q2
     have q3:=bN q3
     simp only [cond_true] at h
     obtain⟨ti,zv,z1,z2,z3⟩:=gz (ν:=ν) hz
     rw [hie] at z1
     cases z1
     have lz:zv.cells.size=ie.size:=by rw [<- Array.length_toList,cO z3,q1]
     obtain⟨w',h2,h3⟩:=jy (P:=P) h hp (oU z3 len) hs
     refine⟨w',h2,?_⟩
     obtain⟨len',rfl⟩:∃ k,len=k+1:=⟨len-1,za⟩
     simp only [Builtin.clear_,h0,List.getElem?_toArray,List.getElem?_cons_zero,Sem.run_bind,run_underlying hu,Result.andThen_ok,zeroValue,typeInfo,run_program,hie,Sem.run_pure,z2,sj (len'+1) (show 0<zv.cells.size by omega),List.toList_toArray,h3]
   ·cases h
  ·cases h
 ·rename_i t tl id hts
  obtain⟨sv,l1,hsv,hl1,rfl⟩:=cB.1 hv
  simp only [bF,Option.some.injEq] at hl1
  subst hl1
  have h0:ts[0]?=some t:=by rw [<- Array.getElem?_toList,hts];rfl
  obtain⟨p,hp,rfl⟩:=lH hsv
  split at h
  ·rename_i es clock d hg hu
   simp only [Option.some.injEq] at h
   subst h
   obtain⟨p',l,hp',hl,hb⟩:=lI hm hg
   rw [hp] at hp'
   cases hp'
   have g1:=iX (P:=P) hb
   refine⟨_,qK hs hg hp (es':=[]) (l':=[]) rfl clock,?_⟩
   simp only [Builtin.clear_,h0,List.getElem?_toArray,List.getElem?_cons_zero,Sem.run_bind,run_underlying hu,Result.andThen_ok,g1,gA hb,Sem.run_pure]
  ·cases h
 ·cases h
end
section
variable {δ : List Deferred} {P : Program} {G : Nat -> Option (List Value)} {ν : Nu} {N : Nat} {S : AE} {a : Act} {m m' : AM} {w w0 : World} {L : List bA}
theorem At (k:IntKind) (z:Int):AV.val ν (ofInt k z)=some (.int k z):=by cases z<;>rfl
theorem sr:∀ {cs:List AV}{bs:List UInt8},wM.bytesOf cs=some bs->bF ν cs=some (bs.map λb=>Value.int .u8 (b.toNat:Int))
 | [],bs,h=>by simp only [wM.bytesOf,Option.some.injEq] at h;subst h;rfl
 | x::l,bs,h=>by
  unfold wM.bytesOf at h
  split at h
  ·rename_i n
   cases hb:Nat.ble n 255 with
   | false=>rw [hb] at h;cases h
   | true =>
    rw [hb] at h
    have hb:=bN hb
    simp only [cond_true] at h
    split at h
    ·rename_i cs hcs
     simp only [Option.some.injEq] at h
     subst h
     refine aM ?_ (sr hcs)
     have:(UInt8.ofNat n).toNat=n:=by
      rw [UInt8.toNat_ofNat']
      omega
     simp only [AV.val,this]
     rfl
    ·cases h
  ·cases h
theorem mX (e:TypeId) (s:ByteArray) (hs:s.size<=1000000000) (w:World):∃ cap,s.size<=cap/\cap<=9223372036854775807/\(Conv.stringToBytes e s).run P w=.ok (.slice (some ⟨w.heap.size,0,none⟩) s.size cap)
 { w with drawn:=w.drawn+1,heap:=w.heap.push (.cells ((s.toList.map λb=>Value.int .u8 (b.toNat:Int))++List.replicate (cap-s.size) (Value.int .u8 0)).toArray e (((s.toList.map λb=>Value.int .u8 (b.toNat:Int))++List.replicate (cap-s.size) (Value.int .u8 0)).length,((s.toList.map λb=>Value.int .u8 (b.toNat:Int))++List.replicate (cap-s.size) (Value.int .u8 0)).length+1)) }:=by
 refine⟨grownCap w s.size 0 e,grownCap_ge w s.size 0 e,grownCap_le_maxLen w s.size 0 e zH,?_⟩
 have harr:(s.data.map λb=>Value.int .u8 (b.toNat:Int))++Array.replicate (grownCap w s.size 0 e-s.size) (Value.int .u8 0)=((s.toList.map λb=>Value.int .u8 (b.toNat:Int))++List.replicate (grownCap w s.size 0 e-s.size) (Value.int .u8 0)).toArray:=by
  apply Array.ext'
  simp [ByteArray.toList_eq]
 have hch:(choose (.appendCap s.size 0 e)).run P w=.ok (grownCap w s.size 0 e) { w with drawn:=w.drawn+1 }:=by
  simp [choose,Sem.run,Question.forced,grownCap]
 simp only [Conv.stringToBytes,Sem.run_bind,hch,Result.andThen_ok]
 rw [harr,jI]
 generalize ((s.toList.map λb=>Value.int .u8 (b.toNat:Int))++List.replicate (grownCap w s.size 0 e-s.size) (Value.int .u8 0))=l
 have hsh:World.shape? { w with drawn:=w.drawn+1,heap:=w.heap.push (.cells l.toArray e) } w.heap.size=some (e,l.length):=by
  simp [World.shape?]
 have hfz:World.freeze { w with drawn:=w.drawn+1,heap:=w.heap.push (.cells l.toArray e) } { block:=w.heap.size,off:=l.length } 1={ w with drawn:=w.drawn+1,heap:=w.heap.push (.cells l.toArray e (l.length,l.length+1)) }:=by
  simp only [World.freeze,Nat.one_ne_zero,if_false]
  congr 1
  apply Array.ext_getElem?
  intro k
  rw [Array.getElem?_modify]
  by_cases hk:w.heap.size=k
  ·subst hk;simp
  ·rw [if_neg hk]
   simp only [Array.getElem?_push]
   rw [if_neg (λe=>hk e.symm),if_neg (λe=>hk e.symm)]
 simp only [Result.andThen_ok,markStringish,shape,freeze,bind,Sem.bind,Sem.run,hsh,hfz,pure]
theorem D7 (hs:St w0 (Mem ν m::L) w){o:Oper}{src dst:TypeId}{x:Operand}(ho:o.op=.convert src dst x){ρ:Operand->Value}{xa av:AV}(hx:xa.val ν=some (ρ x)) (h:wM P m src dst xa=some (av,m')):Ht P ν w0 L m' (execOp ρ o) w av:=by
 have hm:=dD hs
 have key:∀ v,(convert src dst (ρ x)).run P w=.ok v w->(execOp ρ o).run P w=.ok (.value v) w:=by
  intro v hv
  simp only [execOp,ho,Sem.run_bind,hv,Result.andThen_ok,Sem.run_pure]
 unfold wM at h
 split at h
 ·rename_i d k k' n hu1 hu2
  simp only [AV.val,Option.some.injEq] at hx
  have hc:(convert src dst (ρ x)).run P w=.ok (.int k (k.wrap (n:Int))) w:=by
   rw [<- hx]
   simp only [convert,Sem.run_bind,run_underlying hu1,run_underlying hu2,Result.andThen_ok,Conv.intToInt]
   rfl
  split at h
  ·rename_i b hb
   simp only [Option.some.injEq,Prod.mk.injEq] at h
   obtain⟨rfl,rfl⟩:=h
   exact⟨_,ν,w,Nu.le_refl ν,An hb,hs,.inl (key _ hc)⟩
  ·simp only [Option.some.injEq,Prod.mk.injEq] at h
   obtain⟨rfl,rfl⟩:=h
   exact⟨_,ν,w,Nu.le_refl ν,At _ _,hs,.inl (key _ hc)⟩
 ·rename_i d k k' n hu1 hu2
  simp only [AV.val,Option.some.injEq] at hx
  simp only [Option.some.injEq,Prod.mk.injEq] at h
  obtain⟨rfl,rfl⟩:=h
  refine⟨_,ν,w,Nu.le_refl ν,At _ _,hs,.inl (key _ ?_)⟩
  rw [<- hx]
  simp only [convert,Sem.run_bind,run_underlying hu1,run_underlying hu2,Result.andThen_ok,Conv.intToInt]
  rfl
 ·rename_i q1 q2 xa e hu1 hu2
  split at h
  ·rename_i id off len cap kn hue
   split at h
   ·rename_i cs hcs
    split at h
    ·rename_i bs hbs
     simp only [Option.some.injEq,Prod.mk.injEq] at h
     obtain⟨rfl,rfl⟩:=h
     obtain⟨p,c,hp,hv,_⟩:=ju hx
     have hb:=sr (ν:=ν) hbs
     unfold qz at hcs
     simp only at hcs
     split at hcs
     ·rename_i cs0 hc0
      obtain⟨p',vs,rest,T,fr,h1,h2,h3,h4⟩:=kU hm hc0
      rw [hp] at h1
      cases h1
      obtain⟨h5,h6⟩:=rX hcs h2
      rw [hb] at h5
      simp only [Option.some.injEq] at h5
      have hlen:bs.length=len:=by
       have:=congrArg List.length h5
       simp only [List.length_map,List.length_take,List.length_drop] at this
       omega
      refine⟨_,ν,w,Nu.le_refl ν,rfl,hs,.inl (key _ ?_)⟩
      rw [hv,<- hlen]
      refine run_convert_bytes_back w src dst e _ c bs hu1 hue hu2 λj hj=>?_
      rw [dI,cell_of h3 za]
      have h7:((vs.drop off).take (len*1))[j]?=(bs.map λb=>Value.int .u8 (b.toNat:Int))[j]?:=by rw [h5]
      rw [List.getElem?_take,if_pos za,List.getElem?_drop] at h7
      rw [h7]
      simp [hj]
     ·cases hcs
    ·cases h
   ·cases h
  ·rename_i id o1 o2 sub hue
   simp only [Option.some.injEq,Prod.mk.injEq] at h
   obtain⟨rfl,rfl⟩:=h
   obtain⟨p,off,c,hp,hv⟩:=qF hx
   refine⟨_,ν,w,Nu.le_refl ν,rfl,hs,.inl (key _ ?_)⟩
   rw [hv]
   exact run_convert_bytes_back w src dst e _ c [] hu1 hue hu2 λj hj=>by simp at hj
  ·rename_i l c hue
   simp only [AV.val,Option.some.injEq] at hx
   simp only [Option.some.injEq,Prod.mk.injEq] at h
   obtain⟨rfl,rfl⟩:=h
   refine⟨_,ν,w,Nu.le_refl ν,rfl,hs,.inl (key _ ?_)⟩
   rw [<- hx]
   simp only [convert,Sem.run_bind,run_underlying hu1,run_underlying hu2,Result.andThen_ok,run_underlying hue,Conv.bytesToString]
   rfl
  ·cases h
 ·rename_i e s hu1 hu2
  split at h
  ·rename_i hue
   simp only [AV.val,Option.some.injEq] at hx
   cases hbs:Nat.ble s.size 1000000000 with
   | false=>rw [hbs] at h;cases h
   | true =>
   rw [hbs] at h
   simp only [cond_true,Option.some.injEq,nM,Prod.mk.injEq] at h
   obtain⟨rfl,rfl⟩:=h
   obtain⟨cap,hc,hcm,hr⟩:=mX (P:=P) e s (bN hbs) w
   have key2:∀ l:List UInt8,bF ν (l.map λb=>AV.num .u8 b.toNat)=some (l.map λb=>Value.int .u8 (b.toNat:Int)):=by
    intro l
    induction l with
    | nil=>rfl
    | cons b l ih=>exact aM rfl ih
   have hsz:s.data.toList.length=s.size:=Array.length_toList
   simp only [ByteArray.toList_eq] at hr
   obtain⟨k1,k2⟩:=tb (w:={ w with drawn:=w.drawn+1 }) hs.drew (key2 s.data.toList) e (z:=1) (cap:=cap) (rest:=List.replicate (cap-s.size) (Value.int .u8 0)) (by rw [List.length_append,List.length_map,hsz,List.length_replicate];omega)
    (((s.data.toList.map λb=>Value.int .u8 (b.toNat:Int))++List.replicate (cap-s.size) (Value.int .u8 0)).length,((s.data.toList.map λb=>Value.int .u8 (b.toNat:Int))++List.replicate (cap-s.size) (Value.int .u8 0)).length+1) (λi h1 h2=>by omega) hcm
   refine⟨_,_,_,k2,my (Nu.bV _ _ _) hc zw,k1,.inl ?_⟩
   have:(convert src dst (ρ x)).run P w=(Conv.stringToBytes e s).run P w:=by
    rw [<- hx]
    simp only [convert,Sem.run_bind,run_underlying hu1,run_underlying hu2,Result.andThen_ok,run_underlying hue]
   simp only [execOp,ho,Sem.run_bind,this,hr,Result.andThen_ok,Sem.run_pure]
  ·cases h
 ·rename_i s hu1 hu2
  simp only [AV.val,Option.some.injEq] at hx
  simp only [Option.some.injEq,Prod.mk.injEq] at h
  obtain⟨rfl,rfl⟩:=h
  refine⟨_,ν,w,Nu.le_refl ν,rfl,hs,.inl (key _ ?_)⟩
  rw [<- hx]
  simp only [convert,Sem.run_bind,run_underlying hu1,run_underlying hu2,Result.andThen_ok,Sem.run_pure]
 ·cases h
def nO (G:Nat->Option (List Value)) (w0:World) (L:List bA):Prop:=∀ ν m w,St w0 (Mem ν m::L) w->Glob G w
def kG (P:Program) (G:Nat->Option (List Value)) (call:FuncId->List AV->AM->R2):Prop:=∀ f asx m r m' ν vs w w0 L,enters P f=true->call f asx m=some (r,m')->nO G w0 L->bF ν asx=some vs->St w0 (Mem ν m::L) w ->
 Calls P f vs.toArray w (eD λv w'=>∃ ν',ν.le ν'/\r.val ν'=some v/\St w0 (Mem ν' m'::L) w')
theorem oX {f:FuncId}(h:enters P f=true) (args:Array Value) (w:World):(callFunc f args).run P w=.ok (.enter f args) w:=by
 unfold enters at h
 split at h
 ·rename_i fn hf
  cases hn : (fn.name == "runtime.NumGoroutine") with
  | true=>rw [hn] at h;cases h
  | false =>
   rw [hn] at h
   simp only [cond_false] at h
   obtain⟨b,hb⟩:=Option.isSome_iff_exists.1 h
   simp [callFunc,hf,hn,hb,Sem.run_bind]
   simpa using hn
 ·cases h
theorem D8 (hf:bP δ ν N S a){x:Operand}{args:Array Operand}{f:FuncId}{asx:List AV}(h:callee S x args.toList=some (f,asx)) :
 ∃ (fst cap:Array Value) (vs:List Value),a.eval x=.func (.func f) fst cap/\args.map a.eval=vs.toArray/\bF ν asx=some (fst.toList++vs++cap.toList):=by
 unfold callee at h
 split at h
 ·rename_i bs hbs
  have h1:=hf.ops hbs
  have h4:args.map a.eval=(args.toList.map a.eval).toArray:=by apply Array.ext';simp
  split at h
  ·rename_i f' fst cap hx
   obtain⟨v,hv,ex⟩:=hf.op hx
   simp only [AV.val,Option.some.injEq] at hv
   simp only [Option.some.injEq,Prod.mk.injEq] at h
   obtain⟨rfl,rfl⟩:=h
   exact⟨fst,cap,_,by rw [ex,hv],h4,eA (eA (iV ν _) h1) (iV ν _)⟩
  ·rename_i f' fst cap hx
   obtain⟨v,hv,ex⟩:=hf.op hx
   obtain⟨us,ws,h2,h3,rfl⟩:=sX hv
   simp only [Option.some.injEq,Prod.mk.injEq] at h
   obtain⟨rfl,rfl⟩:=h
   exact⟨us.toArray,ws.toArray,_,ex,h4,by simpa using eA (eA h2 h1) h3⟩
  ·cases h
 ·cases h
theorem rd_some {r:Option AV}{av:AV}(h:rd m r=some (av,m')):r=some av/\m'=m:=by
 cases r with
 | none=>cases h
 | some b=>simp only [rd,Option.some.injEq,Prod.mk.injEq] at h;exact⟨by rw [h.1],h.2.symm⟩
theorem te {x:Option AV}{f:AV->R2}{r:AV×AM}(h:KS x f=some r):∃ b,x=some b/\f b=some r:=by
 cases x with
 | none=>cases h
 | some b=>exact⟨b,rfl,h⟩
theorem D9 {P:Program}{w:World}{ts:Array TypeId}{t:TypeId}{ad:Addr}{x y:ByteArray}:(Builtin.ssaWrapNilChk_ ts t #[.pointer (some ad),.string x,.string y]).run P w=.ok (.pointer (some ad)) w:=rfl
theorem Ea (hm:Rt ν m w) (hG:Glob G w){t:TypeId}{b r:AV}{v:Value}{name:String}{f:FuncId}(hb:b.val ν=some v) (h:BD P G m t b name=some (f,r)):∃ rv,r.val ν=some rv/\∀ k,(method (k+1) t v name).run P w=.ok (f,rv) w:=by
 unfold BD at h
 split at h
 ·rename_i ti hti
  split at h
  ·rename_i mt hmt
   split at h
   ·rename_i f' pr e hpath hfun hu
    have hfind:ti.methods.find? (λx=>x.name == name)=some mt:=by rw [<- Array.find?_toList];exact hmt
    have hpe:mt.path.isEmpty=true:=by
     have:mt.path=#[]:=by apply Array.ext';simpa using hpath
     rw [this];rfl
    have run0 : ∀ (rv : Value), (receiverAt t (.val v) pr (some ((name.splitOn ".").getLastD name))).run P w = .ok rv w → ∀ k, (method (k + 1) t v name).run P w = .ok (f', rv) w := by
     intro rv hr k
     unfold method
     simp only [Sem.run_bind,typeInfo,run_program,hti,Result.andThen_ok,Sem.run_pure,hfind,hpath,follow,hfun,hpe,if_true,hr]
    split at h
    ·simp only [Option.some.injEq,Prod.mk.injEq] at h
     obtain⟨rfl,rfl⟩:=h
     refine⟨v,hb,run0 v ?_⟩
     simp only [receiverAt,Sem.run_bind,run_underlying hu w,Result.andThen_ok,Place.get,Sem.run_pure]
    ·rename_i id off
     split at h
     ·rename_i x hx
      simp only [Option.some.injEq,Prod.mk.injEq] at h
      obtain⟨rfl,rfl⟩:=h
      obtain⟨ad,rv,rfl,h2,h3⟩:=lX hm hG hb hx
      refine⟨rv,h2,run0 rv ?_⟩
      simp only [receiverAt,Sem.run_bind,run_underlying hu w,Result.andThen_ok,Place.get,Sem.run_pure,D9,strVal,asAddr,h3]
     ·cases h
    ·cases h
   ·cases h
  ·cases h
 ·cases h
theorem K9 {call:FuncId->List AV->AM->R2}(hc:kG P G call) (hG:nO G w0 L) (hf:bP δ ν N S a) (hs:St w0 (Mem ν m::L) w){o:Oper}{av:AV}(h:iE P G call m S o=some (av,m'))
 {K:Act->World->Prop}{Q:Exit->Act->World->Prop}(hK:∀ v ν' w',ν.le ν'->av.val ν'=some v->St w0 (Mem ν' m'::L) w'->K (a.put o.dst v) w'):o.wp P a w K Q:=by
 have hm:=dD hs
 have fin:Ht P ν w0 L m' (execOp a.eval o) w av->o.wp P a w K Q:=by
  rintro⟨v,ν',w',h1,h2,h3,h4|⟨h4,rfl⟩⟩
  ·unfold Oper.wp;rw [h4];exact hK v ν' w' h1 h2 h3
  ·unfold Oper.wp;rw [h4];exact hK undef ν' w' h1 h2 h3
 have finR:(∃ v,av.val ν=some v/\(execOp a.eval o).run P w=.ok (.value v) w)->m'=m->o.wp P a w K Q:=by
  rintro⟨v,h1,h2⟩ rfl
  exact fin ⟨v,ν,w,Nu.le_refl ν,h1,hs,.inl h2⟩
 have op1:∀ {x:Operand}{b:AV},cC S x=some b->b.val ν=some (a.eval x):=by
  intro x b hb
  obtain⟨v,h1,h2⟩:=hf.op hb
  rw [h2];exact h1
 have fb:∀ {c:Call}{b:Builtin}{asx:List AV},o.op=.call c->c.callee=.builtin b->jX S c.args.toList=some asx->∃ (vs:List Value) (cs:Array Bool),bF ν asx=some vs/\(execOp a.eval o).run P w=(builtin b c.argTypes o.type cs vs.toArray).run P w:=λh1 h2 h3=>K8 hf h1 h2 h3 w
 unfold iE at h
 split at h
 ·rename_i op t x y t' ho
  obtain⟨h,e⟩:=rd_some h
  exact finR (sg hf ho h w) e
 ·rename_i t x ho
  obtain⟨h,e⟩:=rd_some h
  obtain⟨b,hb,h⟩:=ke h
  obtain⟨ad,v,h1,h2,h3⟩:=lX hm (hG ν m w hs) (op1 hb) h
  exact finR ⟨v,h2,run_load ho h1 h3⟩ e
 ·rename_i t x y ho;exact fin (yx hf hs ho h)
 ·rename_i t ho;exact fin (yy hs ho h)
 ·rename_i t x ho;exact fin (D3 hf hs ho h)
 ·rename_i t len parts ho;exact fin (sk hf hs ho h)
 ·rename_i t r ho;exact fin (uV hs ho h)
 ·rename_i t l c ho;exact fin (RC hf hs ho h)
 ·rename_i t x k v ho;exact fin (uC hf hs (.inl ho) h)
 ·rename_i t x k v ho;exact fin (uC hf hs (.inr ho) h)
 ·rename_i t x k ho;exact fin (Gp hf hs ho h)
 ·rename_i t x st v ho;exact fin (Gn hf hs ho h)
 ·rename_i t x ho
  obtain⟨b,hb,h⟩:=te h
  exact fin (B1 hs ho (op1 hb) h)
 ·rename_i x str ho
  obtain⟨b,hb,h⟩:=te h
  exact fin (D5 hs ho (op1 hb) h)
 ·rename_i src dst x ho
  obtain⟨b,hb,h⟩:=te h
  exact fin (D7 hs ho (op1 hb) h)
 ·rename_i c ho
  split at h
  ·rename_i b hcb
   unfold Ag at h
   split at h
   ·split at h
    ·rename_i asx has
     obtain⟨vs,cs,h1,h2⟩:=fb ho hcb has
     obtain⟨v,ν',w',k1,k2,k3,k4⟩:=yz (P:=P) (ty:=o.type) hs h1 h
     refine fin ⟨v,ν',w',k1,k2,k3,.inl ?_⟩
     rw [h2]
     simp only [builtin,Sem.run_bind,k4,Result.andThen_ok,Sem.run_pure]
    ·cases h
   ·split at h
    ·rename_i asx has
     obtain⟨vs,cs,h1,h2⟩:=fb ho hcb has
     obtain⟨v,w',k2,k3,k4⟩:=D6 (P:=P) (ty:=o.type) hs h1 h
     refine fin ⟨v,ν,w',Nu.le_refl ν,k2,k3,.inl ?_⟩
     rw [h2]
     simp only [builtin,Sem.run_bind,k4,Result.andThen_ok,Sem.run_pure]
    ·cases h
   ·split at h
    ·rename_i asx has
     obtain⟨vs,cs,h1,h2⟩:=fb ho hcb has
     split at h
     ·rename_i m2 hd
      simp only [Option.some.injEq,Prod.mk.injEq] at h
      obtain⟨rfl,rfl⟩:=h
      obtain⟨w',k3,k4⟩:=yA (P:=P) (ty:=o.type) hs h1 hd
      refine fin ⟨_,ν,w',Nu.le_refl ν,rfl,k3,.inl ?_⟩
      rw [h2]
      simp only [builtin,Sem.run_bind,k4,Result.andThen_ok,Sem.run_pure]
     ·cases h
    ·cases h
   ·split at h
    ·rename_i asx has
     obtain⟨vs,cs,h1,h2⟩:=fb ho hcb has
     split at h
     ·rename_i m2 hd
      simp only [Option.some.injEq,Prod.mk.injEq] at h
      obtain⟨rfl,rfl⟩:=h
      obtain⟨w',k3,k4⟩:=B2 (P:=P) (ty:=o.type) hs h1 hd
      refine fin ⟨_,ν,w',Nu.le_refl ν,rfl,k3,.inl ?_⟩
      rw [h2]
      simp only [builtin,Sem.run_bind,k4,Result.andThen_ok,Sem.run_pure]
     ·cases h
    ·cases h
   ·obtain⟨h,e⟩:=rd_some h
    exact finR (dU hf hm (hG ν m w hs) h) e
  ·rename_i x hcx
   unfold BE at h
   split at h
   ·rename_i f asx hcal
    cases hen:enters P f with
    | false=>rw [hen] at h;cases h
    | true =>
     rw [hen] at h
     simp only [cond_true] at h
     obtain⟨fst,cap,vs,h1,h2,h3⟩:=D8 hf hcal
     have hcalls:=hc f asx m av m' ν _ w w0 L hen h hG h3 hs
     have hrun:(execOp a.eval o).run P w=.ok (.enter f (fst.toList++vs++cap.toList).toArray) w:=by
      generalize a.eval=ρ at h1 h2 ⊢
      have h5:fst++(vs.toArray++cap)=(fst.toList++(vs++cap.toList)).toArray:=by
       apply Array.ext'
       simp
      simp [execOp,ho,resolve,hcx,h1,h2,Deferred.ofValue,invoke,go_sem]
      rw [h5]
      exact oX hen _ _
     unfold Oper.wp
     rw [hrun]
     refine Calls.mono hcalls λe w' he=>?_
     cases e with
     | returned v =>
      obtain⟨ν',k1,k2,k3⟩:=he
      exact hK v ν' w' k1 k2 k3
     | panicked c=>exact he.elim
     | outgrown=>exact he.elim
   ·cases h
  ·rename_i recv name hcx
   unfold Nm at h
   split at h
   ·rename_i t b asx hx hargs
    split at h
    ·rename_i f r hmeth
     cases hen:enters P f with
     | false=>rw [hen] at h;cases h
     | true =>
      rw [hen] at h
      simp only [cond_true] at h
      obtain⟨u,hu1,ex⟩:=hf.op hx
      obtain⟨v,hv,rfl⟩:=BN hu1
      obtain⟨rv,hr1,hr2⟩:=Ea hm (hG ν m w hs) hv hmeth
      have hvs:=hf.ops hargs
      have hcalls:=hc f (r::asx) m av m' ν (rv::c.args.toList.map a.eval) w w0 L hen h hG (aM hr1 hvs) hs
      have hrun:(execOp a.eval o).run P w=.ok (.enter f (rv::c.args.toList.map a.eval).toArray) w:=by
       have h5:#[rv]++c.args.map a.eval=(rv::c.args.toList.map a.eval).toArray:=by
        apply Array.ext'
        simp
       have h6:(#[Value.iface t v]++c.args.map a.eval).extract 1 (#[Value.iface t v]++c.args.map a.eval).size=c.args.map a.eval:=by
        apply Array.ext'
        simp
        first|done|exact List.take_of_length_le zw
       have h7:(#[Value.iface t v]++c.args.map a.eval)[0]?=some (.iface t v):=by first|rfl|simp [Array.getElem?_append]|(rw [Array.getElem?_append_left zw];rfl)
       have hm1:(method (P.types.size+Made.depth) t v name).run P w=.ok (f,rv) w:=hr2 (P.types.size+99)
       simp only [execOp,ho,resolve,hcx,ex,Sem.run_bind,Sem.run_pure,Result.andThen_ok,invoke,h7,h6,callMethod,run_program,hm1]
       rw [h5]
       exact oX hen _ _
      unfold Oper.wp
      rw [hrun]
      refine Calls.mono hcalls λe w' he=>?_
      cases e with
      | returned v =>
       obtain⟨ν',k1,k2,k3⟩:=he
       exact hK v ν' w' k1 k2 k3
      | panicked c=>exact he.elim
      | outgrown=>exact he.elim
    ·cases h
   ·cases h
 ·obtain⟨h,e⟩:=rd_some h
  exact finR (dU hf hm (hG ν m w hs) h) e
end
end Go.Ev
namespace Go.Sx
set_option linter.unusedVariables false
set_option linter.unusedSimpArgs false
section
variable {P : Program} {r : Option Nat} {n : Nat}
def nv (Ds:List Nat):List Deferred:=Ds.map λd=>{ target:=.collected d,args:=#[] }
def nP (d:Nat):bA:=eK d (.deferred (some []))
theorem ss {fn:Func}{tmps:Array Value}{R:Ending->World->Prop}{w0:World}{M:bA}{L:List bA}:∀ (Ds:List Nat) (w:World),St w0 (M::(Ds.map nP++L)) w->(∀ w',St w0 (M::L) w'->LeavesIn (cS none) 0 P fn tmps R [] .returning w')->LeavesInM (cS none) 0 P fn tmps R (nv Ds) .returning w
 | [],w,hs,h=>h w hs
 | d::Ds,w,hs,h=>by
  have hs2:St w0 (nP d::M::(Ds.map nP++L)) w:=hs.perm (List.Perm.swap _ _ _)
  have hd:w.heap[d]?=some (.deferred (some [])):=hs2.holds (nP d) (List.mem_cons_self ..)
  have hlt:=hs2.lt (nP d) (List.mem_cons_self ..) d rfl
  refine⟨by simp,.inl ⟨d,w.putObj d (.deferred none),rfl,run_takeDeferred hd,ss Ds _ ?_ h⟩⟩
  have hs3:St w0 (eK d (.deferred none)::M::(Ds.map nP++L)) (w.putObj d (.deferred none)):=by
   refine St.step hs2 rfl rfl rfl zw (λb hb hn=>?_) (World.putObj_heap_same hlt) (λb hb=>⟨.inl hb,?_⟩)
   ·exact World.putObj_heap_other (λe=>hn e)
   ·have:b=d:=hb
    rw [this]
    simpa using hlt
  exact hs3.tail
end
end Go.Sx
