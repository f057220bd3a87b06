/-
  Several texts in one: ApP, ApQ, ApR, ApS, ApT, ApB, ApU, ApV, ApW, ApX, ApY, ApZ, AqB, AqC, AqP, AqD, AqA, AqE.
-/
import Derived.Test.YtkmhmeldgfpfeaaGreatDoorSxT
import Derived.Test.YtkmhmeldgfpfeaaGreatDoorGaC
import Derived.Test.YtkmhmeldgfpfeaaGreatDoorGaD
import Derived.Test.YtkmhmeldgfpfeaaGreatDoorGaA
namespace Go.Proofs.YtkmhmeldgfpfeaaGreatDoor
open Go.RowKit Go.Sx
set_option linter.unusedVariables false
set_option linter.unusedSimpArgs false
set_option maxRecDepth 100000
theorem uD {l:List aH}{x:ByteArray×ByteArray}:x∈cP l↔(⟨x.1,x.2⟩:aH)∈l:=by
 rw [cP,List.mem_map]
 constructor
 ·rintro⟨y,hy,rfl⟩;exact hy
 ·intro h;exact⟨_,h,rfl⟩
theorem Ez (l:List aH):(cP l).map (λy:ByteArray×ByteArray=>y.1)=l.map (·.key):=by simp [cP]
theorem CY (l:List aH):¬ iM l=0:=by unfold iM;split<;>decide
theorem oI:∀ {l:List aH}{was:ByteArray},eK was l=true->(∀ x∈l,keyed x.key=true/\dT x.value=true/\slt was x.key=true)/\lO l
 | [],_,_=>⟨λx h=>(nomatch h),List.Pairwise.nil⟩
 | x::l,was,h=>by
  rw [eK,Bn] at h
  simp only [Bool.and_eq_true,Bool.not_not] at h
  obtain⟨⟨⟨h1,h2⟩,h3⟩,h4⟩:=h
  obtain⟨h5,h6⟩:=oI h4
  refine⟨λy hy=>?_,List.pairwise_cons.2 ⟨λy hy=>(h5 y hy).2.2,h6⟩⟩
  rcases List.mem_cons.1 hy with rfl|hy
  ·exact⟨h1,h2,h3⟩
  ·exact⟨(h5 y hy).1,(h5 y hy).2.1,iF h3 (h5 y hy).2.2⟩
theorem CZ {l:List aH}(h:od l=true):Inv (cP l):=by
 rw [od,Bool.and_eq_true] at h
 obtain⟨h1,h2⟩:=oI h.1
 refine⟨?_,?_,λx hx=>nP.1 (h1 _ (uD.1 hx)).1,λx hx=>oc.1 (h1 _ (uD.1 hx)).2.1⟩
 ·show((cP l).map _).Nodup
  rw [Ez];exact h2.keys
 ·rw [cP,List.length_map];exact of_decide_eq_true h.2
theorem vk {l:List aH}(h:od l=true):cU (cP l)=l:=by
 have hi:=CZ h
 rw [od,Bool.and_eq_true] at h
 refine lO.ext (mD hi.keys) (oI h.1).2 λx=>?_
 rw [Bc,uD]
theorem uE {l:List Int}(hb:gJ l){k:Nat}(hk:k<l.length) (h7:k<8) (h:0<=fR (l.take k)/\fR (l.take k)<256 ^ k):fR (l.take (k+1))=fR (l.take k)*256+l.getD k 0:=by
 have h1:=hb _ (bC (d:=(0:Int)) hk)
 have h2:(256:Int) ^ k<=256 ^ 7:=by
  have:(256:Nat) ^ k<=256 ^ 7:=Nat.pow_le_pow_right zf za
  exact_mod_cast this
 have h3:(256:Int) ^ 7=72057594037927936:=zf
 rw [ru hk,kn za za,MJ h.1 h1 za]
theorem tJ {l:List Int}(hb:gJ l):∀ k,k<=l.length->k<=8->0<=fR (l.take k)/\fR (l.take k)<256 ^ k
 | 0,_,_=>by
  rw [List.take_zero]
  exact⟨zf,zf⟩
 | k+1,hk,h8=>by
  have ih:=tJ hb k za za
  have h1:=hb _ (bC (d:=(0:Int)) (show k<l.length by omega))
  rw [uE hb za za ih,Int.pow_succ]
  omega
theorem Jq {x y:List Int}(hx:gJ x) (hy:gJ y) (lx:x.length=8) (ly:y.length=8) (h:fR x=fR y):x=y:=by
 have key:∀ k,k<=8->fR (x.take k)=fR (y.take k)->x.take k=y.take k:=by
  intro k
  induction k with
  | zero=>exact λ_ _=>rfl
  | succ k ih =>
   intro hk he
   have b1:=tJ hx k za za
   have b2:=tJ hy k za za
   rw [uE hx za za b1,uE hy za za b2] at he
   have c1:=hx _ (bC (d:=(0:Int)) (show k<x.length by omega))
   have c2:=hy _ (bC (d:=(0:Int)) (show k<y.length by omega))
   rw [bA (d:=(0:Int)) za,bA (d:=(0:Int)) (show k<y.length by omega),ih za za,show x.getD k 0=y.getD k 0 by omega]
 have:=key 8 (Nat.le_refl _) (by rw [List.take_of_length_le za,List.take_of_length_le za];exact h)
 rwa [List.take_of_length_le za,List.take_of_length_le za] at this
theorem KM {l:List Int}(hb:gJ l) (h8:l.length=8):wd (fR l)=l:=by
 have h:=tJ hb 8 za (Nat.le_refl _)
 rw [List.take_of_length_le za] at h
 exact Jq (A3 _) hb (aZ _) h8 (EY ⟨h.1,Int.lt_of_lt_of_le h.2 zf⟩)
theorem gJ.drop {l:List Int}(h:gJ l) (n:Nat):gJ (l.drop n):=λz hz=>h z (List.mem_of_mem_drop hz)
theorem gJ.take {l:List Int}(h:gJ l) (n:Nat):gJ (l.take n):=λz hz=>h z (List.mem_of_mem_take hz)
theorem Jr {n:Nat}{s:CS}{l r:List Int}(h:tk n s=(l,(r,false))):s.2=false/\s.1=l++r/\l.length=n:=by
 unfold tk at h
 split at h
 ·exact Bool.noConfusion (congrArg (λx:List Int×CS=>x.2.2) h)
 ·rename_i hc
  obtain rfl:s.1.take n=l:=congrArg (λx:List Int×CS=>x.1) h
  obtain rfl:s.1.drop n=r:=congrArg (λx:List Int×CS=>x.2.1) h
  have h1:¬ s.2=true:=λe=>hc (.inl e)
  have h2:¬ s.1.length<n:=λe=>hc (.inr e)
  exact⟨by simpa using h1,(List.take_append_drop n s.1).symm,by show(s.1.take n).length=n;rw [List.length_take];omega⟩
theorem LL (n:Nat) (s:CS):(tk n s).2.1.length<=s.1.length:=by
 unfold tk
 split
 ·exact Nat.le_refl _
 ·show(s.1.drop n).length<=_
  rw [List.length_drop];omega
theorem Fx {n:Nat}{s:CS}(h:gJ s.1):gJ (tk n s).2.1:=by
 unfold tk
 split
 ·exact h
 ·exact h.drop n
theorem iI (s:CS):(aW s).2.1.length<=s.1.length:=LL 8 s
theorem fV {s:CS}(h:gJ s.1):gJ (aW s).2.1:=Fx h
theorem pt {s:CS}{n:Int}{r:List Int}(hb:gJ s.1) (h:aW s=(n,(r,false))):s.2=false/\s.1=wd n++r:=by
 have h1:tk 8 s=((tk 8 s).1,(r,false)):=Prod.ext rfl (congrArg (λx:Int×CS=>x.2) h)
 obtain⟨h2,h3,h4⟩:=Jr h1
 have h5:fR (tk 8 s).1=n:=congrArg (λx:Int×CS=>x.1) h
 refine⟨h2,?_⟩
 rw [<- h5,KM (lW hb) h4]
 exact h3
theorem C0 (s:CS):(dR s).2.1.length<=s.1.length:=by
 have h:=iI s
 unfold dR
 split
 ·exact h
 ·exact Nat.le_trans (LL _ _) h
theorem pv {s:CS}(h:gJ s.1):gJ (dR s).2.1:=by
 unfold dR
 split
 ·exact fV h
 ·exact Fx (fV h)
theorem pw {s:CS}{t:ByteArray}{r:List Int}(hb:gJ s.1) (h:dR s=(t,(r,false))):s.2=false/\s.1=jT t++r:=by
 unfold dR at h
 split at h
 ·exact Bool.noConfusion (congrArg (λx:ByteArray×CS=>x.2.2) h)
 ·have h1:tk (aW s).1.toNat (aW s).2=((tk (aW s).1.toNat (aW s).2).1,(r,false)):=Prod.ext rfl (congrArg (λx:ByteArray×CS=>x.2) h)
  obtain⟨h2,h3,h4⟩:=Jr h1
  have h5:aW s=((aW s).1,((aW s).2.1,false)):=Prod.ext rfl (Prod.ext rfl h2)
  obtain⟨h6,h7⟩:=pt hb h5
  refine⟨h6,?_⟩
  have h8:=cC h5
  obtain rfl:strOf (tk (aW s).1.toNat (aW s).2).1=t:=congrArg (λx:ByteArray×CS=>x.1) h
  unfold jT
  rw [ss (lW (fV hb)),wk,h4,Int.toNat_of_nonneg h8.1,List.append_assoc,<- h3]
  exact h7
theorem EA (s:CS):(dR s).1.size<=s.1.length:=by
 have h:=iI s
 unfold dR
 split
 ·exact Nat.zero_le _
 ·show(strOf _).size<=_
  rw [wk]
  have:=vH (n:=(aW s).1.toNat) (s:=(aW s).2) (Nat.le_refl _)
  omega
def mF:Nat->CS->List aG->Bool->List aG×Bool×CS
 | 0,s,q,w=>(q,w,s)
 | n+1,s,q,w=>mF n (dR (aW (aW s).2).2).2 (q++[⟨(aW s).1,⟨IntKind.i64.wrap (aW (aW s).2).1,(dR (aW (aW s).2).2).1⟩⟩]) (w || decide (2147483648<=(aW (aW s).2).1))
def pU:Nat->CS->List aH->List aH×CS
 | 0,s,q=>(q,s)
 | n+1,s,q=>if s.2=true then (q,s) else pU n (dR (dR s).2).2 (q++[⟨(dR s).1,(dR (dR s).2).1⟩])
def Br (b:List Int):Option (Int×List aG×List aH) :=
 let c:=aW (b,false)
 let l:=mF 8 c.2 [] false
 let n:=aW l.2.2
 let i:=pU n.1.toNat n.2 []
 if l.2.1=true\/i.2.2=true\/i.2.1≠[]\/oe l.1=false\/od i.1=false then none else some (c.1,l.1,i.1)
theorem uF {n:Nat}{s s1 s2 s3:CS}{q:List aG}{w:Bool}{t e:Int}{v:ByteArray}(h1:aW s=(t,s1)) (h2:aW s1=(e,s2)) (h3:dR s2=(v,s3)):mF (n+1) s q w=mF n s3 (q++[⟨t,⟨IntKind.i64.wrap e,v⟩⟩]) (w || decide (2147483648<=e)):=by
 rw [mF,h1,h2,h3]
theorem C1:∀ (n:Nat) (s:CS) (q:List aG),(mF n s q true).2.1=true
 | 0,_,_=>rfl
 | n+1,s,q=>by rw [mF,Bool.true_or];exact C1 n _ _
theorem Bs:∀ (n:Nat) (s:CS) (q:List aG) (w:Bool),(mF n s q w).2.2.1.length<=s.1.length
 | 0,_,_,_=>Nat.le_refl _
 | n+1,s,q,w=>by
  rw [mF]
  have h1:=iI s
  have h2:=iI (aW s).2
  have h3:=C0 (aW (aW s).2).2
  exact Nat.le_trans (Bs n _ _ _) za
theorem xD:∀ (n:Nat) (s:CS) (q:List aG) (w:Bool),gJ s.1->gJ (mF n s q w).2.2.1
 | 0,_,_,_,h=>h
 | n+1,s,q,w,h=>by
  rw [mF]
  exact xD n _ _ _ (pv (fV (fV h)))
theorem C2:∀ (n:Nat) (s:CS) (q q2:List aG) (w:Bool) (r:List Int),gJ s.1->mF n s q w=(q2,false,(r,false))->s.2=false/\w=false/\∃ m,q2=q++m/\m.length=n/\s.1=m.flatMap qi++r/\∀ x∈m,(0<=x.time/\x.time<=18446744073709551615)/\(0<=x.cQ.err/\x.cQ.err<=2147483647)/\x.cQ.value.size<=s.1.length
 | 0,s,q,q2,w,r,_,h=>by
  have h1:q=q2:=congrArg (λx:List aG×Bool×CS=>x.1) h
  have h2:w=false:=congrArg (λx:List aG×Bool×CS=>x.2.1) h
  have h3:s=(r,false):=congrArg (λx:List aG×Bool×CS=>x.2.2) h
  subst h1 h2 h3
  exact⟨rfl,rfl,[],(List.append_nil _).symm,rfl,rfl,λx hx=>nomatch hx⟩
 | n+1,s,q,q2,w,r,hb,h=>by
  rw [mF] at h
  obtain⟨i1,i2,m,i3,i4,i5,i6⟩:=C2 n _ _ _ _ _ (pv (fV (fV hb))) h
  have hw:=Bool.or_eq_false_iff.1 i2
  have he:=of_decide_eq_false hw.2
  have t1:dR (aW (aW s).2).2=((dR (aW (aW s).2).2).1,((dR (aW (aW s).2).2).2.1,false)):=Prod.ext rfl (Prod.ext rfl i1)
  obtain⟨j1,j2⟩:=pw (fV (fV hb)) t1
  have t2:aW (aW s).2=((aW (aW s).2).1,((aW (aW s).2).2.1,false)):=Prod.ext rfl (Prod.ext rfl j1)
  obtain⟨k1,k2⟩:=pt (fV hb) t2
  have t3:aW s=((aW s).1,((aW s).2.1,false)):=Prod.ext rfl (Prod.ext rfl k1)
  obtain⟨m1,m2⟩:=pt hb t3
  have r1:=cC t3
  have r2:=cC t2
  have z1:=EA (aW (aW s).2).2
  have z2:=iI s
  have z3:=iI (aW s).2
  have z4:=C0 (aW (aW s).2).2
  have ew:IntKind.i64.wrap (aW (aW s).2).1=(aW (aW s).2).1:=rN za za
  refine⟨m1,hw.1,⟨(aW s).1,⟨IntKind.i64.wrap (aW (aW s).2).1,(dR (aW (aW s).2).2).1⟩⟩::m,?_,by rw [List.length_cons,i4],?_,?_⟩
  ·rw [i3,List.append_assoc];rfl
  ·rw [List.flatMap_cons]
   show s.1=((wd (aW s).1++wd (IntKind.i64.wrap (aW (aW s).2).1))++jT (dR (aW (aW s).2).2).1++m.flatMap qi)++r
   rw [ew]
   simp only [List.append_assoc]
   rw [<- i5,<- j2,<- k2]
   exact m2
  ·intro x hx
   rcases List.mem_cons.1 hx with rfl|hx
   ·refine⟨⟨r1.1,by show(aW s).1<=_;omega⟩,⟨?_,?_⟩,?_⟩
    ·show 0<=IntKind.i64.wrap _;rw [ew];exact r2.1
    ·show IntKind.i64.wrap _<=_;rw [ew];omega
    ·show(dR _).1.size<=_;omega
   ·have h9:=i6 x hx
    exact⟨h9.1,h9.2.1,za⟩
theorem Ac {n:Nat}{s s1 s2:CS}{q:List aH}{k v:ByteArray}(hs:s.2=false) (h1:dR s=(k,s1)) (h2:dR s1=(v,s2)):pU (n+1) s q=pU n s2 (q++[⟨k,v⟩]):=by
 rw [pU,if_neg (by rw [hs];decide),h1,h2]
theorem tK {n:Nat}{s:CS}{q:List aH}(h:n=0\/s.2=true):pU n s q=(q,s):=by
 cases n with
 | zero=>rfl
 | succ n=>exact if_pos (h.resolve_left za)
theorem xE:∀ (n:Nat) (s:CS) (q q2:List aH) (r:List Int),gJ s.1->pU n s q=(q2,(r,false))->s.2=false/\∃ m,q2=q++m/\m.length=n/\s.1=m.flatMap oH++r
 | 0,s,q,q2,r,_,h=>by
  have h1:q=q2:=congrArg (λx:List aH×CS=>x.1) h
  have h3:s=(r,false):=congrArg (λx:List aH×CS=>x.2) h
  subst h1 h3
  exact⟨rfl,[],(List.append_nil _).symm,rfl,rfl⟩
 | n+1,s,q,q2,r,hb,h=>by
  rw [pU] at h
  split at h
  ·rename_i hc
   have h3:s=(r,false):=congrArg (λx:List aH×CS=>x.2) h
   rw [h3] at hc
   cases hc
  ·rename_i hc
   obtain⟨i1,m,i3,i4,i5⟩:=xE n _ _ _ _ (pv (pv hb)) h
   have t1:dR (dR s).2=((dR (dR s).2).1,((dR (dR s).2).2.1,false)):=Prod.ext rfl (Prod.ext rfl i1)
   obtain⟨j1,j2⟩:=pw (pv hb) t1
   have t2:dR s=((dR s).1,((dR s).2.1,false)):=Prod.ext rfl (Prod.ext rfl j1)
   obtain⟨k1,k2⟩:=pw hb t2
   refine⟨k1,⟨(dR s).1,(dR (dR s).2).1⟩::m,?_,by rw [List.length_cons,i4],?_⟩
   ·rw [i3,List.append_assoc];rfl
   ·rw [List.flatMap_cons]
    show s.1=(jT (dR s).1++jT (dR (dR s).2).1++m.flatMap oH)++r
    simp only [List.append_assoc]
    rw [<- i5,<- j2]
    exact k2
theorem se:∀ m:List aH,16*m.length<=(m.flatMap oH).length
 | []=>Nat.le_refl _
 | x::m=>by
  have h:=se m
  rw [List.flatMap_cons,List.length_append,List.length_cons]
  have:16<=(oH x).length:=by
   unfold oH
   rw [List.length_append,cM,cM]
   omega
  omega
section
variable {b r : List Int} {c n : Int} {s1 s2 s3 : CS} {tl : List aG} {w p : Bool} {l : List aH} (h1 : aW (b, false) = (c, s1)) (h2 : mF 8 s1 [] false = (tl, w, s2)) (h3 : aW s2 = (n, s3)) (h4 : pU n.toNat s3 [] = (l, (r, p)))
include h1 h2 h3
theorem KN (hb:gJ b) (hn:(b.length:Int)<n):Br b=none:=by
 unfold Br
 simp only [h1,h2,h3]
 refine if_pos ?_
 by_cases hf:(pU n.toNat s3 []).2.2=true
 ·exact .inr (.inl hf)
 ·exfalso
  have hf':(pU n.toNat s3 []).2.2=false:=by simpa using hf
  have b1:gJ s1.1:=by have:=fV (s:=(b,false)) hb;rw [h1] at this;exact this
  have b2:gJ s2.1:=by have:=xD 8 s1 [] false b1;rw [h2] at this;exact this
  have b3:gJ s3.1:=by have:=fV b2;rw [h3] at this;exact this
  obtain⟨i1,m,i3,i4,i5⟩:=xE n.toNat s3 [] (pU n.toNat s3 []).1 (pU n.toNat s3 []).2.1 b3 (Prod.ext rfl (Prod.ext rfl hf'))
  have l1:=iI (b,false)
  have l2:=Bs 8 s1 [] false
  have l3:=iI s2
  have l4:=se m
  have l5:=congrArg List.length i5
  rw [List.length_append] at l5
  rw [h1] at l1
  rw [h2] at l2
  rw [h3] at l3
  simp only [] at l1 l2 l3
  omega
theorem Ha (hw:w=true):Br b=none:=by
 unfold Br
 simp only [h1,h2,h3]
 exact if_pos (.inl hw)
include h4
theorem mG (h:w=true\/p=true\/r≠[]\/oe tl=false\/od l=false):Br b=none:=by
 unfold Br
 simp only [h1,h2,h3,h4]
 exact if_pos h
theorem Fy (hw:w=false) (hp:p=false) (hr:r=[]) (ht:oe tl=true) (ho:od l=true):Br b=some (c,tl,l):=by
 unfold Br
 simp only [h1,h2,h3,h4]
 refine if_neg ?_
 rintro(h|h|h|h|h)
 ·exact Bool.noConfusion (h.symm.trans hw)
 ·exact Bool.noConfusion (h.symm.trans hp)
 ·exact h hr
 ·exact Bool.noConfusion (h.symm.trans ht)
 ·exact Bool.noConfusion (h.symm.trans ho)
theorem Mj (hb:gJ b) (hw:w=false) (hp:p=false) (hr:r=[]):b=wd c++cE tl l/\∀ x∈tl,(0<=x.time/\x.time<=18446744073709551615)/\(0<=x.cQ.err/\x.cQ.err<=2147483647)/\x.cQ.value.size<=b.length:=by
 subst hw hp hr
 have b1:gJ s1.1:=by have:=fV (s:=(b,false)) hb;rw [h1] at this;exact this
 have b2:gJ s2.1:=by have:=xD 8 s1 [] false b1;rw [h2] at this;exact this
 have b3:gJ s3.1:=by have:=fV b2;rw [h3] at this;exact this
 obtain⟨i1,m,i3,i4,i5⟩:=xE n.toNat s3 [] l [] b3 h4
 have t3:aW s2=(n,(s3.1,false)):=by rw [h3,<- i1]
 obtain⟨j1,j2⟩:=pt b2 t3
 have t2:mF 8 s1 [] false=(tl,false,(s2.1,false)):=by rw [h2,<- j1]
 obtain⟨k1,k2,q,k3,k4,k5,k6⟩:=C2 8 s1 [] tl false s2.1 b1 t2
 have t1:aW (b,false)=(c,(s1.1,false)):=by rw [h1,<- k1]
 obtain⟨m1,m2⟩:=pt hb t1
 rw [List.nil_append] at i3 k3
 subst i3 k3
 have hn:=cC h3
 have l1:=iI (b,false)
 rw [h1] at l1
 refine⟨?_,λx hx=>⟨(k6 x hx).1,(k6 x hx).2.1,Nat.le_trans (k6 x hx).2.2 l1⟩⟩
 have e1:((l.length:Nat):Int)=n:=za
 unfold cE
 rw [e1]
 rw [List.append_nil] at i5
 simp only [List.append_assoc]
 rw [<- i5,<- j2,<- k5]
 exact m2
end
theorem Ad {l:List aH}(h:od l=true):l.length<=64/\∀ x∈l,vj x:=by
 rw [od,Bool.and_eq_true] at h
 refine⟨of_decide_eq_true h.2,λx hx=>?_⟩
 obtain⟨h1,h2,h3⟩:=(oI h.1).1 x hx
 have e1:=nP.1 h1
 have e2:=oc.1 h2
 unfold vj
 omega
end Go.Proofs.YtkmhmeldgfpfeaaGreatDoor
namespace Go.Proofs.YtkmhmeldgfpfeaaGreatDoor
open Go.RowKit Go.Sx
set_option linter.unusedVariables false
set_option linter.unusedSimpArgs false
set_option linter.unnecessarySimpa false
set_option maxRecDepth 100000
section
variable {w0 w : World} {L : List cA} {ad : Option Addr} {cb : Nat}
theorem Mk {n:Nat}(h:0<n) (h2:n<=18446744073709551615):IntKind.u64.wrap ((n:Int)-1)=((n-1:Nat):Int):=by
 rw [kn za za];omega
theorem KO {b:List Int}{c n:Int}{s1 s2 s3:CS}{tl:List aG}{w:Bool}(h1:aW (b,false)=(c,s1)) (h2:mF 8 s1 [] false=(tl,w,s2)) (h3:aW s2=(n,s3)):s3.1.length<=b.length:=by
 have a:=iI (b,false)
 have d:=Bs 8 s1 [] false
 have e:=iI s2
 rw [h1] at a
 rw [h2] at d
 rw [h3] at e
 exact Nat.le_trans e (Nat.le_trans d a)
theorem Js {s s1:CS}{k v:ByteArray}{r:List Int}{p:Bool}(hb:gJ s.1) (hb1:gJ s1.1) (h1:dR s=(k,s1)) (h2:dR s1=(v,(r,p))) (hp:p=false):r.length+16<=s.1.length:=by
 subst hp
 obtain⟨a,b⟩:=pw hb1 h2
 have d:dR s=(k,(s1.1,false)):=by rw [h1,<- a]
 obtain⟨o,e⟩:=pw hb d
 have f:=congrArg List.length b
 have i:=congrArg List.length e
 rw [List.length_append,cM] at f i
 omega
theorem Ae (b:List Int) (hsome:xP ad cb) (hbl:b.length<=40000) (hbb:∀ z∈b,0<=z/\z<256) (hr:Rw w0 L aA 1 0 ad b) (hs:St w0 L w):Cs Tryz.prog 44 #[.slice ad b.length cb] w λrv w'=>(rv=.tuple #[.pointer none,.int .i64 5]/\Br b=none/\St w0 L w')\/(∃ (s:Nat) (p:Nat) (q:Nat) (g:Nat) (tl:List aG) (l:List aH) (cnt:Int),rv=.tuple #[zP s 0,.int .i64 0]/\Br b=some (cnt,tl,l)/\St w0 (aC s #[zP q 0,zP p 0,.int .u64 cnt] 123::aC p (af aG.cells tl) 183::aC q #[.map (some g)] 181::cI Value.string Value.string g (cP l)::L) w'):=by
 refine cL Tryz.func44 Tryz.ntmps44 (En (Lq (Ls (Lg [1] (Lw (dE (f:=60) (args:=#[.slice ad b.length cb]) Tryz.call60 (mP b zc zc (λw h=>hr _ (h.drop 0)) hs) ?_))))))
 rintro v5 w6 ⟨i,o,u,rfl,d4⟩
 have g0:bG (Sl o u 5 1 aA b) o b u:=bG.new d4 (j:=1) rfl hbb za
 refine Lz (Ls (Lg [1,3] (Lw (dE (f:=61) (args:=#[zP i 0]) Tryz.call61 (bT (Sl o u 5 1 aA b) b false (λw h=>h.at_ 0 rfl) g0 d4) ?_))))
 rintro q1 q2 ⟨a0,d5,d6,g5,g7,rfl,a3,q3,g8,g9⟩
 refine Lo (Lw (hG #[.pointer none,.pointer none,.int .u64 a0] g9 λa4 q4 h0=>Lz (Lq (Lq (Ls (Lq (Lb (Dz ?_))))))))
 have h1:=St.bJ h0 101 3 aG.cells
 refine bH.loop (T:=Nat×(List aG)×Bool×(List Int)×Bool×(Option Addr)×Nat×(Option Addr)×Nat) (λgg=>[(0,.slice ad b.length cb),(2,.pointer none),(3,.int .i64 0),(4,zP i 0),(5,zP a4 0),(6,.slice gg.2.2.2.2.2.2.2.1 gg.2.1.length gg.2.2.2.2.2.2.2.2),(7,.bool gg.2.2.1),(23,.int .i64 (gg.1:Nat))]) (λgg w=>(gg.1<=8/\mF 8 (d5,d6) [] false=mF (8-gg.1) (gg.2.2.2.1,gg.2.2.2.2.1) gg.2.1 gg.2.2.1/\gg.2.1.length=gg.1/\bG (Sl o u 5 1 aA b) gg.2.2.2.2.2.1 gg.2.2.2.1 gg.2.2.2.2.2.2.1)/\St w0 (Sl gg.2.2.2.2.2.2.2.1 gg.2.2.2.2.2.2.2.2 101 3 aG.cells gg.2.1::aC i #[.slice gg.2.2.2.2.2.1 gg.2.2.2.1.length gg.2.2.2.2.2.2.1,.bool gg.2.2.2.2.1] 173::aC a4 #[.pointer none,.pointer none,.int .u64 a0] 123::Sl o u 5 1 aA b::L) w) (λgg=>8-gg.1) (0,([]:List aG),false,d5,d6,g5,g7,none,0) [0,2,3,4,5,6,7,23] zk ⟨⟨Nat.zero_le _,rfl,rfl,g8⟩,(((h1.pl 3).pl 2).pl 3).pl 3⟩ ?_
 rintro⟨kk,a,wr,b3,b4,q5,q6,a9,b0⟩ q7 ⟨hp,c3⟩
 dsimp only at hp c3
 refine En (Lq (Ls (Dz (Zi ((kk:Int)<8) (λh3=>?_) (λh3=>?_)))))
 ·refine En (Lk (Lt (Ls (Lb (Ls (Lg [1,3,4] (Lw (dE (f:=61) (args:=#[zP i 0]) Tryz.call61 (bT (Sl o u 5 1 aA b) b3 b4 (λw h=>h.at_ 2 rfl) hp.2.2.2 (c3.pl 1)) ?_))))))))
  rintro q8 q9 ⟨a6,h5,h6,r0,r4,rfl,i0,r5,i1,i2⟩
  refine Lo (Lw (eN LU i2 λc4 r6 i3=>Lo (Dz (Zu 0 0 #[.int .u64 a6,.int .i64 0,.string aR] i3 λr7 i4=>Lo (Ld (Lt (Ls (Lg [1] (Lw (dE (f:=61) (args:=#[zP i 0]) Tryz.call61 (bT (Sl o u 5 1 aA b) h5 h6 (λw h=>h.at_ 3 rfl) i1 (i4.pl 1)) ?_))))))))))
  rintro r8 r9 ⟨a2,d7,d8,i6,i7,rfl,i8,s0,i9,d9⟩
  refine Lz (Ls (Dz (bH.join (T:=Unit) (E:=λ_=>[(7,.bool (wr || (decide ((a2:Int) >= 2147483648)))),(9,.int .u64 a2),(8,zP c4 0),(0,.slice ad b.length cb),(2,.pointer none),(3,.int .i64 0),(4,zP i 0),(5,zP a4 0),(6,.slice a9 a.length b0),(23,.int .i64 (kk:Nat))]) (F:=λ_ w=>St w0 (aC i #[.slice i6 d7.length i7,.bool d8] 173::aC c4 #[.int .u64 a6,.int .i64 0,.string aR] 101::Sl a9 b0 101 3 aG.cells a::aC a4 #[.pointer none,.pointer none,.int .u64 a0] 123::Sl o u 5 1 aA b::L) w) ?_ ?_)))
  ·refine Zg [] (Zr 0 2 [] ?_)
   rcases Bool.eq_false_or_eq_true wr with b5|b5
   ·exact py 31 true b5 (En (bO (Dz (gB [7,9,8,0,2,3,4,5,6,23] () true (by first|rfl|simp [Hb,b5]) d9))))
   ·exact py 31 false b5 (En (bO (Dz (gB [7,9,8,0,2,3,4,5,6,23] () (decide ((a2:Int) >= 2147483648)) (by first|rfl|simp [Hb,b5]) d9))))
  intro _ s2 j0
  refine En (Lt (Ls (Lg [3,6] (Lw (Zc (sD (Sl o u 5 1 aA b) d7 d8 (λw h=>h.at_ 3 rfl) i9 j0) ?_)))))
  rintro s3 s4 ⟨a8,e0,e1,e2,e3,rfl,j1,j2,j3⟩
  refine Lo (Lw (Zu 1 1 #[.int .u64 a6,.int .i64 (IntKind.i64.wrap a2),.string a8] j3 λs5 e4=>Lo (Ld (Lt (Dz (bX [2,3] (fE 1 1 0 3 (#[.int .u64 a6,.int .i64 (IntKind.i64.wrap a2),.string a8]) e4 Hz) (aU.cT rfl zk (t:=136) (e:=101) (n:=1) (ps:=[(0,.agg #[.int .u64 a6,.int .i64 (IntKind.i64.wrap a2),.string a8])]) zk zk (ti:=Tryz.t101) (z:=.agg LU) zk zk zf zf (cs:=#[.int .u64 a6,.int .i64 (IntKind.i64.wrap a2),.string a8]) zk e4 λj4 j5 j6 j7=>?_)))))))
  have j8:St w0 (Sl (some ⟨j4,0,none⟩) 1 101 3 aG.cells ([(⟨a6,⟨IntKind.i64.wrap a2,a8⟩⟩:aG)])::aC i #[.slice e2 e0.length e3,.bool e1] 173::aC c4 #[.int .u64 a6,.int .i64 (IntKind.i64.wrap a2),.string a8] 101::Sl a9 b0 101 3 aG.cells a::aC a4 #[.pointer none,.pointer none,.int .u64 a0] 123::Sl o u 5 1 aA b::L) j5:=St.lS (l:=[(⟨a6,⟨IntKind.i64.wrap a2,a8⟩⟩:aG)]) (f:=aG.cells) j6 j7 dG.size zl zk
  refine Lo (Dz (oV Bo dG aM (j8.pl 3) zj λk0 k1 s6 k2=>Lo (bO (Lm (Lt (Dz (cS (dW 0 ((kk:Nat)+1) Hz) ?_)))))))
  have k3:=(((((k2.pl 5).pl 5).pl 4).pl 3).pl 5).pl 5
  exact aN.back (kk+1,a++([(⟨a6,⟨IntKind.i64.wrap a2,a8⟩⟩:aG)]),wr || (decide ((a2:Int) >= 2147483648)),e0,e1,e2,e3,k0,k1) [0,2,3,4,5,6,7,23] zk (by show 8-(kk+1)<8-kk;omega) ⟨⟨za,hp.2.1.trans ((congrArg (λn=>mF n (b3,b4) a wr) (show 8-kk=(7-kk)+1 by omega)).trans ((uF i0 i8 j1).trans (by rw [show 8-(kk+1)=7-kk by omega]<;>simp []))),by simp only [List.length_append,List.length_cons,List.length_nil];omega,j2⟩,k3.dr 2⟩
 ·have hke:kk=8:=za
  have hla:=hp.2.1
  rw [hke,Nat.sub_self] at hla
  rw [show mF 0 (b3,b4) a wr=(a,wr,(b3,b4)) from rfl] at hla
  have k5:a.length=8:=hp.2.2.1.trans hke
  refine En (Lx (kD (kE (Lh (Lt (Lq (Ls (Ls (Lg [1] (Lw (dE (f:=61) (args:=#[zP i 0]) Tryz.call61 (bT (Sl o u 5 1 aA b) b3 b4 (λw h=>h.at_ 2 rfl) hp.2.2.2 (c3.pl 1)) ?_)))))))))))
  rintro s7 s8 ⟨c5,e5,e6,k7,k8,rfl,a5,s9,k9,l0⟩
  refine Lz (Lb (Dz (Zn [(11,.int .u64 c5),(10,.slice none 0 0),(0,.slice ad b.length cb),(2,.pointer none),(3,.int .i64 0),(4,zP i 0),(5,zP a4 0),(6,.slice a9 a.length b0),(7,.bool wr)] ?_)))
  obtain⟨zn,hzn⟩:∃ n:Nat,c5=n:=⟨c5.toNat,za⟩
  subst hzn
  have t0:=KO a3 hla a5
  refine bH.loop (T:=Nat×(List aH)×(List Int)×Bool×(Option Addr)×Nat×(Option Addr)×Nat) (λgg=>[(0,.slice ad b.length cb),(2,.pointer none),(3,.int .i64 0),(4,zP i 0),(5,zP a4 0),(6,.slice a9 a.length b0),(7,.bool wr),(10,.slice gg.2.2.2.2.2.2.1 gg.2.1.length gg.2.2.2.2.2.2.2),(11,.int .u64 (gg.1:Nat))]) (λgg w=>(gg.1<=zn/\pU zn (e5,e6) []=pU gg.1 (gg.2.2.1,gg.2.2.2.1) gg.2.1/\gg.2.1.length<=3000/\(gg.2.2.2.1=false->16*gg.2.1.length+gg.2.2.1.length<=40000)/\bG (Sl o u 5 1 aA b) gg.2.2.2.2.1 gg.2.2.1 gg.2.2.2.2.2.1)/\St w0 (Sl gg.2.2.2.2.2.2.1 gg.2.2.2.2.2.2.2 132 2 aH.cells gg.2.1::aC i #[.slice gg.2.2.2.2.1 gg.2.2.1.length gg.2.2.2.2.2.1,.bool gg.2.2.2.1] 173::Sl a9 b0 101 3 aG.cells a::aC a4 #[.pointer none,.pointer none,.int .u64 a0] 123::Sl o u 5 1 aA b::L) w) (λgg=>gg.1) (zn,([]:List aH),e5,e6,k7,k8,none,0) [0,2,3,4,5,6,7,10,11] zk ⟨⟨Nat.le_refl _,rfl,Nat.zero_le _,(λ_=>by simp only [List.length_nil] at *;omega),k9⟩,St.bJ l0 132 2 aH.cells⟩ ?_
  rintro⟨m2,d,a7,a1,t1,t2,c6,c7⟩ t3 ⟨hp,c0⟩
  dsimp only at hp c0
  refine En (Ls (Ls (Lg [4] (Dz (Zr 0 3 [] ?_)))))
  rcases Bool.eq_false_or_eq_true (decide ((m2:Int)>0)) with b6|b6
  ·refine py 50 true b6 ?_
   have l2:=of_decide_eq_true b6
   have l3:0<m2:=za
   refine En (Lw (dE (f:=64) (args:=#[zP i 0]) Tryz.call64 (iQ a7 a1 (c0.pl 1)) ?_))
   rintro t4 t5 ⟨rfl,c8⟩
   refine Lz (Dz (cZ (t:=!a1) (λb1=>?_) (λb1=>?_)))
   ·refine En (Lk (Lt (Ls (Lb (Ls (Lg [1] (Lw (Zc (sD (Sl o u 5 1 aA b) a7 a1 (λw h=>h.at_ 3 rfl) hp.2.2.2.2 c8) ?_))))))))
    rintro t6 t7 ⟨b7,e7,l5,t8,t9,rfl,e8,e9,l6⟩
    refine Lz (Lg [3,5,6] (Lw (Zc (sD (Sl o u 5 1 aA b) e7 l5 (λw h=>h.at_ 3 rfl) e9 l6) ?_)))
    rintro u0 u1 ⟨b8,c9,f0,f1,f2,rfl,f3,l7,l8⟩
    refine Lo (Lw (aU.cT rfl zk (t:=129) (e:=132) (n:=1) (ps:=[(0,.agg #[.string b7,.string b8])]) zk zk (ti:=Tryz.t132) (z:=.agg #[.string aR,.string aR]) zk zk zf zf (cs:=#[.string b7,.string b8]) zk l8 λl9 m0 m1 m3=>?_))
    have m4:St w0 (Sl (some ⟨l9,0,none⟩) 1 132 2 aH.cells ([(⟨b7,b8⟩:aH)])::aC i #[.slice f1 c9.length f2,.bool f0] 173::Sl c6 c7 132 2 aH.cells d::Sl a9 b0 101 3 aG.cells a::aC a4 #[.pointer none,.pointer none,.int .u64 a0] 123::Sl o u 5 1 aA b::L) m0:=St.lS (l:=[(⟨b7,b8⟩:aH)]) (f:=aH.cells) m1 m3 gG.size zl zk
    refine Lo (Dz (oV lM gG aT (m4.pl 2) zj λm6 m7 u2 m8=>Lo (bO (Lm (Lt (Dz (cS (Hg 1 (.eJ (.int .u64 ((m2-1:Nat):Nat)) (.gen [])) [.prop (Value.int .u64 (IntKind.u64.wrap ((m2:Nat)-1))=Value.int .u64 ((m2-1:Nat):Nat))] (aL (congrArg (Value.int .u64) (Mk l3 za)) aO) Hz) ?_)))))))
    have m9:=(((((m8.pl 5).pl 5).pl 5).pl 5).pl 4).pl 5
    exact aN.back ((m2-1),d++([(⟨b7,b8⟩:aH)]),c9,f0,f1,f2,m6,m7) [0,2,3,4,5,6,7,10,11] zk (by show(m2-1)<m2;omega) ⟨⟨za,hp.2.1.trans ((congrArg (λn=>pU n (a7,a1) d) (show m2=(m2-1)+1 by omega)).trans (Ac (by simpa using b1) e8 f3)),by have:=hp.2.2.2.1 (by simpa using b1);simp only [List.length_append,List.length_cons,List.length_nil];omega,(λh9=>by have h8:=hp.2.2.2.1 (by simpa using b1);have h7:c9.length+16<=a7.length:=Js (s:=(a7,a1)) (s1:=(e7,_)) hp.2.2.2.2.nV e9.nV e8 f3 h9;simp only [List.length_append,List.length_cons,List.length_nil];omega),l7⟩,m9.dr 1⟩
   ·have iT:=hp.2.1.trans (tK (.inr (show a1=true by simpa using b1)))
    refine En (Lx (kD (kE (Lh (Lt (Ls (Ls (Lg [3,8] (Dz (Zr 0 2 [] ?_))))))))))
    rcases Bool.eq_false_or_eq_true wr with c1|c1
    ·exact py 66 true c1 (En (Lw (gH (En (Lw (gH (En (bO (Lt (LT (Lq (Le (Ly (Dz (om (v:=.pointer none) (v':=.int .i64 5) (.inl ⟨rfl,mG a3 hla a5 (n:=(zn:Int)) iT (.inl c1),c8.dr 5⟩))))))))))))))))
    ·refine py 66 false c1 (En (Lw (dE (f:=64) (args:=#[zP i 0]) Tryz.call64 (iQ a7 a1 c8) ?_)))
     rintro u3 u4 ⟨rfl,n2⟩
     exact Lo (Dz (Zr 4 3 [] (py 71 true (congrArg not b1) (En (Lw (gH (En (bO (Lt (LT (Lq (Le (Ly (Dz (om (v:=.pointer none) (v':=.int .i64 5) (.inl ⟨rfl,mG a3 hla a5 (n:=(zn:Int)) iT (.inr (.inl (by simpa using b1))),n2.dr 5⟩))))))))))))))))
  ·refine py 50 false b6 ?_
   have l2:=of_decide_eq_false b6
   have iT:=hp.2.1.trans (tK (.inl (show m2=0 by omega)))
   refine En (Lw (gH (En (bO (Lt (LF (Lx (kD (kE (Lh (Lt (Ls (Ls (Lg [3,8] (Dz (Zr 0 2 [] ?_))))))))))))))))
   rcases Bool.eq_false_or_eq_true wr with b9|b9
   ·exact py 66 true b9 (En (Lw (gH (En (Lw (gH (En (bO (Lt (LT (Lq (Le (Ly (Dz (om (v:=.pointer none) (v':=.int .i64 5) (.inl ⟨rfl,mG a3 hla a5 (n:=(zn:Int)) iT (.inl b9),c0.dr 5⟩))))))))))))))))
   ·refine py 66 false b9 (En (Lw (dE (f:=64) (args:=#[zP i 0]) Tryz.call64 (iQ a7 a1 (c0.pl 1)) ?_)))
    rintro u5 u6 ⟨rfl,f4⟩
    refine Lo (Dz (Zr 4 3 [] ?_))
    rcases Bool.eq_false_or_eq_true (!(!a1)) with b2|b2
    ·exact py 71 true b2 (En (Lw (gH (En (bO (Lt (LT (Lq (Le (Ly (Dz (om (v:=.pointer none) (v':=.int .i64 5) (.inl ⟨rfl,mG a3 hla a5 (n:=(zn:Int)) iT (.inr (.inl (by simpa using b2))),f4.dr 5⟩)))))))))))))
    ·refine py 71 false b2 (En (Lw (dE (f:=102) (args:=#[zP i 0]) Tryz.call102 (pK a7 a1 f4) ?_)))
     rintro u7 u8 ⟨rfl,d0⟩
     refine Lz (Dz (Zi ((a7.length:Int)>0) (λf5=>?_) (λf5=>?_)))
     ·exact En (Lq (Le (Ly (Dz (om (v:=.pointer none) (v':=.int .i64 5) (.inl ⟨rfl,mG a3 hla a5 (n:=(zn:Int)) iT (.inr (.inr (.inl (λe=>by have h9:=of_decide_eq_true (decide_eq_true f5);rw [e,List.length_nil] at h9;exact absurd h9 zf)))),d0.dr 5⟩))))))
     ·have hwf:wr=false:=b9
      have hsf:a1=false:=by simpa using b2
      have hrn:a7=[]:=List.length_eq_zero_iff.1 za
      have his:=Mj a3 hla a5 (n:=(zn:Int)) iT hbb hwf hsf hrn
      refine En (Lk (Lt (Ls (Lg [1] (Lw (Zc (Jk a zc (d0.dI 2 rfl) (λw h=>h.rows 2 rfl dG.size _) d0) ?_))))))
      rintro u9 v0 (⟨d1,rfl,n9,o0⟩|⟨rfl,f6,o1⟩)
      ·refine Lz (Ls (Lg [1] (Lw (dE (f:=104) (args:=#[.slice c6 d.length c7]) Tryz.call104 (CO d zc (λw h=>h.rows 2 rfl gG.size _) o0) ?_))))
       rintro v1 v2 (⟨f7,o2,rfl,d2,o3⟩|⟨rfl,o4,o5⟩)
       ·have hlp:=vk d2
        have hoi:=Ad d2
        refine Lz (Ls (Lq (LF (Lk (Lt (Ls (Ls (Lg [6,9] (Lw (Zu 6 1 #[.pointer none,zP d1 0,.int .u64 a0] o3 λv3 o6=>Lo (Lw (Zu 6 0 #[zP f7 0,zP d1 0,.int .u64 a0] o6 λv4 o7=>Lo (Ld (Lt (Ls (Lg [1,3] (Lw (Zc (sF a (cP d) a0 k5 (by rw [cP,List.length_map];omega) (λx hx=>⟨(his.2 x hx).1,(his.2 x hx).2.1,Nat.le_trans (his.2 x hx).2.2 hbl⟩) (by rw [hlp];exact hoi.1) (by rw [hlp];exact hoi.2) zc ((((o7.pl 1).pl 1).pl 2).pl 6)) ?_))))))))))))))))))
        rintro v6 v7 ⟨o9,p0,rfl,p1⟩
        refine Lo (Lw (dE (f:=66) (args:=#[.slice o9 ((wd a0++cE a (cU (cP d))).length) p0,.slice ad b.length cb]) Tryz.call66 (pL (wd a0++cE a (cU (cP d))) b (by rw [hlp,<- his.1];exact hbb) hbb (λw h=>h.rows 0 rfl aF.size _) (λw h=>hr _ (h.drop 9)) p1) ?_))
        rintro v8 v9 ⟨rfl,p2⟩
        refine Lz (Dz (cZ (t:=!(decide ((wd a0++cE a (cU (cP d)))=b))) (λc2=>?_) (λc2=>?_)))
        ·exact(of_decide_eq_false (p:=(wd a0++cE a (cU (cP d)))=b) (by simpa using c2) (by rw [hlp];exact his.1.symm)).elim
        ·refine En (Lk (Lt (Lq (Le (Dz (om (v:=zP a4 0) (v':=.int .i64 0) ?_))))))
         have p4:=((((((((p2.pl 4).pl 4).pl 4).pl 4).pl 8).pl 8).pl 8).pl 8).pl 8
         exact .inr (⟨a4,d1,f7,o2,a,d,a0,rfl,Fy a3 hla a5 (n:=(zn:Int)) iT hwf hsf hrn n9 d2,p4.dr 5⟩)
       ·refine Lz (Ls (Lq (Dz (cZ (t:=((iM d):Int) != 0) (λd3=>?_) (λd3=>?_)))))
        ·exact En (Lq (Le (Ly (Dz (om (v:=.pointer none) (v':=.int .i64 5) (.inl ⟨rfl,mG a3 hla a5 (n:=(zn:Int)) iT (.inr (.inr (.inr (.inr o4)))),o5.dr 6⟩))))))
        ·exact absurd (sR d3) (CY _)
      ·refine Lz (Ls (Lg [1] (Lw (dE (f:=104) (args:=#[.slice c6 d.length c7]) Tryz.call104 (CO d zc (λw h=>h.rows 1 rfl gG.size _) o1) ?_))))
       rintro w1 w2 (⟨w3,w4,rfl,f9,p7⟩|⟨rfl,w5,p8⟩)
       ·have hlp:=vk f9
        have hoi:=Ad f9
        exact Lz (Ls (Lq (LT (Lq (Le (Ly (Dz (om (v:=.pointer none) (v':=.int .i64 5) (.inl ⟨rfl,mG a3 hla a5 (n:=(zn:Int)) iT (.inr (.inr (.inr (.inl f6)))),p7.dr 7⟩)))))))))
       ·exact Lz (Ls (Lq (LT (Lq (Le (Ly (Dz (om (v:=.pointer none) (v':=.int .i64 5) (.inl ⟨rfl,mG a3 hla a5 (n:=(zn:Int)) iT (.inr (.inr (.inr (.inl f6)))),p8.dr 5⟩)))))))))
end
section
variable {w0 w : World} {L : List cA} {ad : Option Addr} {cb : Nat}
theorem Jt {n:Nat}{s s1 s2:CS}{q:List aG}{w:Bool}{t e:Int}(h1:aW s=(t,s1)) (h2:aW s1=(e,s2)) (he:2147483648<=e):(mF (n+1) s q w).2.1=true:=by
 rw [uF h1 h2 rfl,decide_eq_true he,Bool.or_true]
 exact C1 n _ _
theorem KP {b:List Int}{c:Int}{s1:CS}(h1:aW (b,false)=(c,s1)) (h:(mF 8 s1 [] false).2.1=true):Br b=none:=by
 rcases a:mF 8 s1 [] false with⟨tl,w,d⟩
 rcases e:aW d with⟨n,f⟩
 exact Ha h1 a e (by rw [a] at h;exact h)
theorem ED (Q:cA) (b:List Int) (hQ:∀ w,St w0 L w->Q.holds w) (hq:bG Q ad b cb) (hbl:b.length<=40000) (hs:St w0 L w):Cs Tryz.prog 54 #[.slice ad b.length cb] w λrv w'=>(rv=.tuple #[.pointer none,.int .i64 5]/\Br b=none/\St w0 L w')\/(∃ (p:Nat) (q:Nat) (ad2:Option Addr) (c2:Nat) (tl:List aG) (l:List aH) (cnt:Int),rv=.tuple #[zP p 0,.int .i64 0]/\Br b=some (cnt,tl,l)/\tl.length=8/\St w0 (aC p (eI #[zP q 0] aG.cells tl #[.int .u64 cnt]) 105::aC q #[.slice ad2 l.length c2] 144::Sl ad2 c2 132 2 aH.cells l::L) w'):=by
 refine cL Tryz.func54 Tryz.ntmps54 (En (Lq (Ls (Lg [2] (Lw (hG #[.slice ad b.length cb,.bool false] hs λb1 w2 i4=>Lz (Ls (Lg [0] (Dz (Zc (vi i4) ?_))))))))))
 rintro v9 s7 ⟨d,q5,a0,c7,rfl,i5⟩
 refine Lz (Ls (Lg [2,5] (Lw (Zc (nZ Q b false (λw h=>hQ w (h.drop 3)) hq (i5.pl 3)) ?_))))
 rintro s8 s9 ⟨a1,e5,e6,f2,f3,rfl,b4,t0,i7,i8⟩
 refine Lo (Lw (aU.store rfl rfl zk (b:=d) (off:=25) (v:=.int .u64 a1) zk zk (ti:=Tryz.t29) zk i8 1 rfl zk zk (xy dG.size (show(List.replicate 8 aM).length=8 by first|assumption|omega|simp) (q:=0) (k:=1) rfl (Nat.le_of_ble_eq_true zk)) (cs':=eI #[zP q5 0] aG.cells (List.replicate 8 aM) #[.int .u64 a1]) (L':=(aC b1 #[.slice f2 e5.length f3,.bool e6] 164)::aC d (eI #[zP q5 0] aG.cells (List.replicate 8 aM) #[.int .u64 a1]) 105::aC q5 #[.slice a0 (([]:List aH).length) c7] 144::Sl a0 c7 132 2 aH.cells ([]:List aH)::L) (zX dG.size (show(List.replicate 8 aM).length=8 by first|assumption|omega|simp) (q:=0) rfl zk) rfl λt1 i9=>Lo (Ld (Lt (Lq (Ls (Lq (Lb (Dz (bH.loop (T:=Nat×(List aG)×(List Int)×Bool×(Option Addr)×Nat×(Option Addr)×Nat) (λgg=>[(0,.slice ad b.length cb),(4,zP b1 0),(5,zP d 0),(6,.slice gg.2.2.2.2.2.2.1 gg.2.1.length gg.2.2.2.2.2.2.2),(7,.int .i64 (gg.1:Nat))]) (λgg w=>(gg.1<=8/\mF 8 (e5,e6) [] false=mF (8-gg.1) (gg.2.2.1,gg.2.2.2.1) gg.2.1 false/\gg.2.1.length=gg.1/\bG Q gg.2.2.2.2.1 gg.2.2.1 gg.2.2.2.2.2.1)/\St w0 (Sl gg.2.2.2.2.2.2.1 gg.2.2.2.2.2.2.2 101 3 aG.cells gg.2.1::aC b1 #[.slice gg.2.2.2.2.1 gg.2.2.1.length gg.2.2.2.2.2.1,.bool gg.2.2.2.1] 164::aC d (eI #[zP q5 0] aG.cells (List.replicate 8 aM) #[.int .u64 a1]) 105::aC q5 #[.slice a0 (([]:List aH).length) c7] 144::Sl a0 c7 132 2 aH.cells ([]:List aH)::L) w) (λgg=>8-gg.1) (0,([]:List aG),e5,e6,f2,f3,none,0) [0,4,5,6,7] zk ⟨⟨Nat.zero_le _,rfl,rfl,i7⟩,St.bJ i9 101 3 aG.cells⟩ ?_))))))))))
 rintro⟨kk,a,d0,d1,t2,t3,a2,a3⟩ t4 ⟨hp,e7⟩
 dsimp only at hp e7
 refine En (Ls (Lq (Dz (Zi ((kk:Int)<8) (λj1=>?_) (λj1=>?_)))))
 ·refine En (Lk (Lt (Ls (Lb (Ls (Lg [1,3,4] (Lw (Zc (nZ Q d0 d1 (λw h=>hQ w (h.drop 4)) hp.2.2.2 (e7.pl 1)) ?_))))))))
  rintro t5 t6 ⟨a9,j3,j4,t7,t8,rfl,f4,t9,j5,j6⟩
  refine Lo (Lw (eN LU j6 λj7 u0 j8=>Lo (Dz (Zu 0 0 #[.int .u64 a9,.int .i64 0,.string aR] j8 λu1 j9=>Lo (Ld (Lt (Ls (Lg [1] (Lw (Zc (nZ Q j3 j4 (λw h=>hQ w (h.drop 5)) j5 (j9.pl 1)) ?_))))))))))
  rintro u2 u3 ⟨b0,k1,k2,u4,u5,rfl,f5,u6,k3,f6⟩
  refine Lz (Ls (Lq (Dz (Zi ((b0:Int) >= 2147483648) (λk4=>?_) (λk4=>?_)))))
  ·exact En (Lq (Le (Ly (Ll (Ly (sT (Ll (Ly (Dz (om (v:=.pointer none) (v':=.int .i64 5) (.inl ⟨rfl,KP b4 (by rw [hp.2.1,show 8-kk=(7-kk)+1 by omega];exact Jt f4 f5 za),f6.dr 6⟩)))))))))))
  ·refine En (Lk (Lt (Ls (Lg [3,6] (Lw (Zc (qP Q k1 k2 (λw h=>hQ w (h.drop 5)) k3 f6) ?_))))))
   rintro u7 u8 ⟨b5,f7,f8,f9,g0,rfl,k6,k7,k8⟩
   refine Lo (Lw (Zu 1 1 #[.int .u64 a9,.int .i64 (IntKind.i64.wrap b0),.string b5] k8 λu9 g5=>Lo (Ld (Lt (Dz (bX [2,3] (fE 1 1 0 3 (#[.int .u64 a9,.int .i64 (IntKind.i64.wrap b0),.string b5]) g5 Hz) (aU.cT rfl zk (t:=136) (e:=101) (n:=1) (ps:=[(0,.agg #[.int .u64 a9,.int .i64 (IntKind.i64.wrap b0),.string b5])]) zk zk (ti:=Tryz.t101) (z:=.agg LU) zk zk zf zf (cs:=#[.int .u64 a9,.int .i64 (IntKind.i64.wrap b0),.string b5]) zk g5 λk9 l0 l1 l2=>?_)))))))
   have l3:St w0 (Sl (some ⟨k9,0,none⟩) 1 101 3 aG.cells ([(⟨a9,⟨IntKind.i64.wrap b0,b5⟩⟩:aG)])::aC b1 #[.slice f9 f7.length g0,.bool f8] 164::aC j7 #[.int .u64 a9,.int .i64 (IntKind.i64.wrap b0),.string b5] 101::Sl a2 a3 101 3 aG.cells a::aC d (eI #[zP q5 0] aG.cells (List.replicate 8 aM) #[.int .u64 a1]) 105::aC q5 #[.slice a0 (([]:List aH).length) c7] 144::Sl a0 c7 132 2 aH.cells ([]:List aH)::L) l0:=St.lS (l:=[(⟨a9,⟨IntKind.i64.wrap b0,b5⟩⟩:aG)]) (f:=aG.cells) l1 l2 dG.size zl zk
   refine Lo (Dz (oV Bo dG aM (l3.pl 3) zj λl5 l6 v0 l7=>Lo (bO (Lm (Lt (Dz (cS (dW 1 ((kk:Nat)+1) Hz) ?_)))))))
   have l8:=((((((l7.pl 6).pl 6).pl 6).pl 5).pl 4).pl 6).pl 6
   exact aN.back (kk+1,a++([(⟨a9,⟨IntKind.i64.wrap b0,b5⟩⟩:aG)]),f7,f8,f9,g0,l5,l6) [0,4,5,6,7] zk (by show 8-(kk+1)<8-kk;omega) ⟨⟨za,hp.2.1.trans ((congrArg (λn=>mF n (d0,d1) a false) (show 8-kk=(7-kk)+1 by omega)).trans ((uF f4 f5 k6).trans (by rw [show 8-(kk+1)=7-kk by omega,Bool.false_or,decide_eq_false za]))),by simp only [List.length_append,List.length_cons,List.length_nil];omega,k7⟩,l8.dr 2⟩
 ·have hke:kk=8:=za
  have hla:=hp.2.1
  rw [hke,Nat.sub_self] at hla
  rw [show mF 0 (d0,d1) a false=(a,false,(d0,d1)) from rfl] at hla
  have m0:a.length=8:=hp.2.2.1.trans hke
  refine En (Lx (kD (kE (Lh (Lt (Ls (Lg [1] (Lw (Zc (nZ Q d0 d1 (λw h=>hQ w (h.drop 4)) hp.2.2.2 (e7.pl 1)) ?_)))))))))
  rintro v1 v2 ⟨a7,e8,b6,g7,g8,rfl,b7,v3,m2,e9⟩
  refine Lz (Ls (Ls (Dz (bH.join (T:=Unit) (E:=λ_=>[(60,.bool (b6 || (decide ((a7:Int)>(b.length:Nat))))),(10,.int .u64 a7),(4,zP b1 0),(5,zP d 0),(6,.slice a2 a.length a3)]) (F:=λ_ w=>St w0 (aC b1 #[.slice g7 e8.length g8,.bool b6] 164::Sl a2 a3 101 3 aG.cells a::aC d (eI #[zP q5 0] aG.cells (List.replicate 8 aM) #[.int .u64 a1]) 105::aC q5 #[.slice a0 (([]:List aH).length) c7] 144::Sl a0 c7 132 2 aH.cells ([]:List aH)::L) w) ?_ ?_))))
  ·refine Zg [] (gS 0 5 (Hl 3 0 1 e9 Hz) (dB 54 b6 (λf0=>?_) (λf0=>?_)))
   ·exact En (bO (Dz (gB [60,10,4,5,6] () true (by first|rfl|simp [Hb,f0]) e9)))
   ·exact lD (tP 8 (b.length:Nat) Hz) (gB [60,10,4,5,6] () (decide ((a7:Int)>(b.length:Nat))) (by first|rfl|simp [Hb,f0]) e9)
  intro _ v4 g9
  refine Zt (cZ (t:=b6 || (decide ((a7:Int)>(b.length:Nat)))) (λe0=>?_) (λe0=>?_))
  ·exact En (Lq (Le (Ly (Dz (om (v:=.pointer none) (v':=.int .i64 5) (.inl ⟨rfl,(Bool.or_eq_true_iff.1 e0).elim (λh9=>mG b4 hla b7 (tK (.inr h9)) (.inr (.inl h9))) (λh9=>KN b4 hla b7 hq.nV (by have:=of_decide_eq_true h9;omega)),g9.dr 5⟩))))))
  ·have v5:=(Bool.or_eq_false_iff.1 e0).1
   have m4:=(Bool.or_eq_false_iff.1 e0).2
   have v6:=of_decide_eq_false m4
   refine Zn [(60,.bool (b6 || (decide ((a7:Int)>(b.length:Nat))))),(10,.int .u64 a7),(4,zP b1 0),(5,zP d 0),(6,.slice a2 a.length a3)] ?_
   obtain⟨zn,hzn⟩:∃ n:Nat,a7=n:=⟨a7.toNat,za⟩
   subst hzn
   refine En (Lk (Lt (Lq (Ls (Lq (Lb (Dz (bH.loop (T:=Nat×(List aH)×(List Int)×Bool×(Option Addr)×Nat×(Option Addr)×Nat) (λgg=>[(4,zP b1 0),(5,zP d 0),(6,.slice a2 a.length a3),(10,.int .u64 (zn:Nat)),(11,.slice gg.2.2.2.2.2.2.1 gg.2.1.length gg.2.2.2.2.2.2.2),(12,.int .u64 (gg.1:Nat))]) (λgg w=>(gg.1<=zn/\pU zn (e8,b6) []=pU (zn-gg.1) (gg.2.2.1,gg.2.2.2.1) gg.2.1/\gg.2.1.length<=gg.1/\bG Q gg.2.2.2.2.1 gg.2.2.1 gg.2.2.2.2.2.1)/\St w0 (Sl gg.2.2.2.2.2.2.1 gg.2.2.2.2.2.2.2 132 2 aH.cells gg.2.1::aC b1 #[.slice gg.2.2.2.2.1 gg.2.2.1.length gg.2.2.2.2.2.1,.bool gg.2.2.2.1] 164::Sl a2 a3 101 3 aG.cells a::aC d (eI #[zP q5 0] aG.cells (List.replicate 8 aM) #[.int .u64 a1]) 105::aC q5 #[.slice a0 (([]:List aH).length) c7] 144::Sl a0 c7 132 2 aH.cells ([]:List aH)::L) w) (λgg=>zn-gg.1) (0,([]:List aH),e8,b6,g7,g8,none,0) [4,5,6,10,11,12] zk ⟨⟨Nat.zero_le _,rfl,Nat.zero_le _,m2⟩,St.bJ g9 132 2 aH.cells⟩ ?_))))))))
   rintro⟨ii,u,o,x,b2,b3,a4,a5⟩ v7 ⟨hp,e1⟩
   dsimp only at hp e1
   refine Zs (Zs (bH.join (T:=Unit) (E:=λ_=>[(70,.bool ((decide ((ii:Int)<(zn:Nat))) && (!x))),(4,zP b1 0),(5,zP d 0),(6,.slice a2 a.length a3),(10,.int .u64 (zn:Nat)),(11,.slice a4 u.length a5),(12,.int .u64 (ii:Nat))]) (F:=λ_ w=>St w0 (Sl a4 a5 132 2 aH.cells u::aC b1 #[.slice b2 o.length b3,.bool x] 164::Sl a2 a3 101 3 aG.cells a::aC d (eI #[zP q5 0] aG.cells (List.replicate 8 aM) #[.int .u64 a1]) 105::aC q5 #[.slice a0 (([]:List aH).length) c7] 144::Sl a0 c7 132 2 aH.cells ([]:List aH)::L) w) ?_ ?_))
   ·refine Zg [] (Zr 0 4 [] (dB 64 (decide ((ii:Int)<(zn:Nat))) (λb8=>?_) (λb8=>?_)))
    ·exact lD (Hl 7 1 1 e1 Hz) (aN.pick [70,4,5,6,10,11,12] (S':=[(70,.bool (!x)),(4,zP b1 0),(5,zP d 0),(6,.slice a2 a.length a3),(10,.int .u64 (zn:Nat)),(11,.slice a4 u.length a5),(12,.int .u64 (ii:Nat))]) zk (aN.eZ () (by first|rfl|(simp only [b8,Bool.not_true,Bool.not_false,Bool.true_or,Bool.false_or,Bool.true_and,Bool.false_and,Bool.or_true,Bool.or_false,Bool.and_true,Bool.and_false];done)|(simp [b8];done)) e1))
    ·exact En (bO (Dz (aN.pick [70,4,5,6,10,11,12] (S':=[(70,.bool false),(4,zP b1 0),(5,zP d 0),(6,.slice a2 a.length a3),(10,.int .u64 (zn:Nat)),(11,.slice a4 u.length a5),(12,.int .u64 (ii:Nat))]) zk (aN.eZ () (by first|rfl|(simp only [b8,Bool.not_true,Bool.not_false,Bool.true_or,Bool.false_or,Bool.true_and,Bool.false_and,Bool.or_true,Bool.or_false,Bool.and_true,Bool.and_false];done)|(simp [b8];done)) e1))))
   intro _ v8 h0
   refine Zt (cZ (t:=(decide ((ii:Int)<(zn:Nat))) && (!x)) (λc4=>?_) (λc4=>?_))
   ·have m7:=(Bool.and_eq_true_iff.1 c4).1
    have w1:=of_decide_eq_true m7
    have m8:=(Bool.and_eq_true_iff.1 c4).2
    have w3:=jV m8
    have m9:x=false:=by simpa using (Bool.and_eq_true_iff.1 c4).2
    have hii:ii<zn:=by have:=of_decide_eq_true (Bool.and_eq_true_iff.1 c4).1;omega
    refine En (Lk (Lt (Ls (Lb (Ls (Lg [1] (Lw (Zc (qP Q o x (λw h=>hQ w (h.drop 5)) hp.2.2.2 (h0.pl 1)) ?_))))))))
    rintro w4 w5 ⟨d2,n1,n2,w6,w7,rfl,n3,n4,n5⟩
    refine Lz (Lg [3,5,6] (Lw (Zc (qP Q n1 n2 (λw h=>hQ w (h.drop 5)) n4 n5) ?_)))
    rintro w8 w9 ⟨d3,h1,h2,h3,h4,rfl,n6,n7,n8⟩
    refine Lo (Lw (aU.cT rfl zk (t:=129) (e:=132) (n:=1) (ps:=[(0,.agg #[.string d2,.string d3])]) zk zk (ti:=Tryz.t132) (z:=.agg #[.string aR,.string aR]) zk zk zf zf (cs:=#[.string d2,.string d3]) zk n8 λn9 o0 o1 o2=>?_))
    have o3:St w0 (Sl (some ⟨n9,0,none⟩) 1 132 2 aH.cells ([(⟨d2,d3⟩:aH)])::aC b1 #[.slice h3 h1.length h4,.bool h2] 164::Sl a4 a5 132 2 aH.cells u::Sl a2 a3 101 3 aG.cells a::aC d (eI #[zP q5 0] aG.cells (List.replicate 8 aM) #[.int .u64 a1]) 105::aC q5 #[.slice a0 (([]:List aH).length) c7] 144::Sl a0 c7 132 2 aH.cells ([]:List aH)::L) o0:=St.lS (l:=[(⟨d2,d3⟩:aH)]) (f:=aH.cells) o1 o2 gG.size zl zk
    refine Lo (Dz (oV lM gG aT (o3.pl 2) zj λo5 o6 x0 o7=>Lo (bO (Lm (Lt (Dz (cS (tP 1 ((ii:Nat)+1) Hz) ?_)))))))
    have o8:=((((((o7.pl 6).pl 6).pl 6).pl 6).pl 6).pl 5).pl 6
    exact aN.back (ii+1,u++([(⟨d2,d3⟩:aH)]),h1,h2,h3,h4,o5,o6) [4,5,6,10,11,12] zk (by show zn-(ii+1)<zn-ii;omega) ⟨⟨za,hp.2.1.trans ((congrArg (λn=>pU n (o,x) u) (show zn-ii=(zn-(ii+1))+1 by omega)).trans (Ac m9 n3 n6)),by have:=hp.2.2.1;simp only [List.length_append,List.length_cons,List.length_nil];omega,n7⟩,o8.dr 1⟩
   ·have iT:=hp.2.1.trans (tK (s:=(o,x)) (q:=u) (n:=zn-ii) (by
     cases x with
     | true=>exact .inr rfl
     | false=>exact .inl (by have h9:=c4;simp only [Bool.not_false,Bool.and_true,decide_eq_false_iff_not] at h9;omega)))
    refine En (Lx (kD (kE (Lh (Lt (Ls (Lg [1,5,6] (Lw (dE (f:=108) (args:=#[.slice a2 a.length a3]) Tryz.call108 (G7 a zc (λw h=>h.rows 2 rfl dG.size _) h0) ?_)))))))))
    rintro x1 x2 (⟨rfl,p0,p1⟩|⟨rfl,h5,p2⟩)
    ·refine Lo (Lw (eN Ht p1 λa6 x3 p3=>Lo (Dz (aU.store rfl rfl zk (b:=a6) (off:=0) (v:=.agg (af aG.cells a)) zk zk (ti:=Tryz.t103) zk p3 0 rfl (cK dG (show(a).length=8 from zA) zk) (eQ dG) (eF dG (show(a).length=8 from zA) zk) (cs':=af aG.cells a) (L':=(aC a6 (af aG.cells a) 103)::Sl a4 a5 132 2 aH.cells u::aC b1 #[.slice b2 o.length b3,.bool x] 164::Sl a2 a3 101 3 aG.cells a::aC d (eI #[zP q5 0] aG.cells (List.replicate 8 aM) #[.int .u64 a1]) 105::aC q5 #[.slice a0 (([]:List aH).length) c7] 144::Sl a0 c7 132 2 aH.cells ([]:List aH)::L) (eX dG (show(a).length=8 from zA) zk) rfl λx4 h6=>Lz (Ls (Lg [1] (Lw (Zc (zW u zc (h6.dI 1 rfl) (λw h=>h.rows 1 rfl gG.size _) h6) ?_))))))))
     rintro x5 x6 (⟨a8,b9,c0,rfl,p5,d4⟩|⟨rfl,p6,d5⟩)
     ·refine Lz (Ls (Ls (Dz (bH.join (T:=Unit) (E:=λ_=>[(111,.bool (x || (decide ((o.length:Int)>0)))),(16,zP a8 0),(14,zP a6 0),(5,zP d 0)]) (F:=λ_ w=>St w0 (aC a8 #[.slice b9 u.length c0] 144::Sl b9 c0 132 2 aH.cells u::aC a6 (af aG.cells a) 103::Sl a4 a5 132 2 aH.cells u::aC b1 #[.slice b2 o.length b3,.bool x] 164::Sl a2 a3 101 3 aG.cells a::aC d (eI #[zP q5 0] aG.cells (List.replicate 8 aM) #[.int .u64 a1]) 105::aC q5 #[.slice a0 (([]:List aH).length) c7] 144::Sl a0 c7 132 2 aH.cells ([]:List aH)::L) w) ?_ ?_))))
      ·refine Zg [] (gS 0 5 (Hl 3 4 1 d4 Hz) (dB 96 x (λc5=>?_) (λc5=>?_)))
       ·exact En (bO (Dz (gB [111,16,14,5] () true (by first|rfl|simp [Hb,c5]) d4)))
       ·refine gS 5 8 (Hl 8 4 0 d4 Hz) (dB 104 (decide ((o.length:Int)>0)) (λc1=>?_) (λc1=>?_))
        ·exact En (bO (Dz (aN.pick [111,16,14,5] (S':=[(111,.bool true),(16,zP a8 0),(14,zP a6 0),(5,zP d 0)]) zk (aN.eZ () (by first|rfl|(simp only [c5,c1,Bool.not_true,Bool.not_false,Bool.true_or,Bool.false_or,Bool.true_and,Bool.false_and,Bool.or_true,Bool.or_false,Bool.and_true,Bool.and_false];done)|(simp [c5,c1];done)) d4))))
        ·exact En (bO (Dz (aN.pick [111,16,14,5] (S':=[(111,.bool false),(16,zP a8 0),(14,zP a6 0),(5,zP d 0)]) zk (aN.eZ () (by first|rfl|(simp only [c5,c1,Bool.not_true,Bool.not_false,Bool.true_or,Bool.false_or,Bool.true_and,Bool.false_and,Bool.or_true,Bool.or_false,Bool.and_true,Bool.and_false];done)|(simp [c5,c1];done)) d4))))
      intro _ x7 f1
      refine Zt (cZ (t:=x || (decide ((o.length:Int)>0))) (λc6=>?_) (λc6=>?_))
      ·exact En (Lq (Le (Ly (Dz (om (v:=.pointer none) (v':=.int .i64 5) (.inl ⟨rfl,mG b4 hla b7 (n:=(zn:Int)) iT (.inr ((Bool.or_eq_true_iff.1 c6).elim .inl (λh9=>.inr (.inl (λe=>by have h8:=of_decide_eq_true h9;rw [e,List.length_nil] at h8;exact absurd h8 zf))))),f1.dr 9⟩))))))
      ·have p9:(decide ((o.length:Int)>0))=false:=(Bool.or_eq_false_iff.1 c6).2
       refine Zk (Zt (Zs (bX [4] (Hg 1 (.agg (af aG.cells a)) [.prop (Array.size (af aG.cells a)=24),.cells ⟨a6,0,none⟩ (af aG.cells a)] (aL (bQ dG (show(a).length=8 from zA) rfl) (eM (f1.cells 2 0 rfl zG) aO)) Hz) (aU.store rfl rfl zk (b:=d) (off:=1) (v:=.agg (af aG.cells a)) zk zk (ti:=Tryz.t103) zk f1 6 rfl (cK dG (show(a).length=8 from zA) zk) (eQ dG) (EC dG (i:=1) rfl (show(List.replicate 8 aM).length=8 by first|assumption|omega|simp) (show(a).length=8 from zA)) (cs':=eI #[zP q5 0] aG.cells a #[.int .u64 a1]) (L':=(aC a8 #[.slice b9 u.length c0] 144)::Sl b9 c0 132 2 aH.cells u::aC a6 (af aG.cells a) 103::Sl a4 a5 132 2 aH.cells u::aC b1 #[.slice b2 o.length b3,.bool x] 164::Sl a2 a3 101 3 aG.cells a::aC d (eI #[zP q5 0] aG.cells a #[.int .u64 a1]) 105::aC q5 #[.slice a0 (([]:List aH).length) c7] 144::Sl a0 c7 132 2 aH.cells ([]:List aH)::L) (Hd dG (i:=1) rfl (show(List.replicate 8 aM).length=8 by first|assumption|omega|simp) (show(a).length=8 from zA)) rfl λy0 q0=>Lo (Ld (Lt (Ls (Lg [4] (Lw (aU.store rfl rfl zk (b:=d) (off:=0) (v:=zP a8 0) zk zk (ti:=Tryz.t99) zk q0 6 rfl zk zk (EB (i:=0) (k:=1) (Nat.le_of_ble_eq_true zk)) (cs':=eI #[zP a8 0] aG.cells a #[.int .u64 a1]) (L':=(aC a8 #[.slice b9 u.length c0] 144)::Sl b9 c0 132 2 aH.cells u::aC a6 (af aG.cells a) 103::Sl a4 a5 132 2 aH.cells u::aC b1 #[.slice b2 o.length b3,.bool x] 164::Sl a2 a3 101 3 aG.cells a::aC d (eI #[zP a8 0] aG.cells a #[.int .u64 a1]) 105::aC q5 #[.slice a0 (([]:List aH).length) c7] 144::Sl a0 c7 132 2 aH.cells ([]:List aH)::L) (Hc (i:=0) (Nat.le_of_ble_eq_true zk) zk) rfl λy1 r0=>Lo (Ld (Lt (Lq (Le (Dz (om (v:=zP d 0) (v':=.int .i64 0) ?_))))))))))))))))
       have hrn:o=[]:=List.length_eq_zero_iff.1 (by have:=of_decide_eq_false (Bool.or_eq_false_iff.1 c6).2;omega)
       have r4:=((((((((r0.pl 1).pl 1).pl 6).pl 8).pl 8).pl 8).pl 8).pl 8).pl 8
       exact .inr (⟨d,a8,b9,c0,a,u,a1,rfl,Fy b4 hla b7 (n:=(zn:Int)) iT rfl ((Bool.or_eq_false_iff.1 c6).1) hrn p0 p5,m0,r4.dr 6⟩)
     ·refine Lz (Ls (Ls (Dz (bH.join (T:=Unit) (E:=λ_=>[(111,.bool ((x || (decide ((o.length:Int)>0))) || (((iM u):Int) != 0))),(16,.pointer none),(14,zP a6 0),(5,zP d 0)]) (F:=λ_ w=>St w0 (aC a6 (af aG.cells a) 103::Sl a4 a5 132 2 aH.cells u::aC b1 #[.slice b2 o.length b3,.bool x] 164::Sl a2 a3 101 3 aG.cells a::aC d (eI #[zP q5 0] aG.cells (List.replicate 8 aM) #[.int .u64 a1]) 105::aC q5 #[.slice a0 (([]:List aH).length) c7] 144::Sl a0 c7 132 2 aH.cells ([]:List aH)::L) w) ?_ ?_))))
      ·refine Zg [] (gS 0 5 (Hl 3 2 1 d5 Hz) (dB 96 x (λc8=>?_) (λc8=>?_)))
       ·exact En (bO (Dz (gB [111,16,14,5] () true (by first|rfl|simp [Hb,c8]) d5)))
       ·refine gS 5 8 (Hl 8 2 0 d5 Hz) (dB 104 (decide ((o.length:Int)>0)) (λc3=>?_) (λc3=>?_))
        ·exact En (bO (Dz (aN.pick [111,16,14,5] (S':=[(111,.bool true),(16,.pointer none),(14,zP a6 0),(5,zP d 0)]) zk (aN.eZ () (by first|rfl|(simp only [c8,c3,Bool.not_true,Bool.not_false,Bool.true_or,Bool.false_or,Bool.true_and,Bool.false_and,Bool.or_true,Bool.or_false,Bool.and_true,Bool.and_false];done)|(simp [c8,c3];done)) d5))))
        ·exact En (bO (Dz (aN.pick [111,16,14,5] (S':=[(111,.bool (((iM u):Int) != 0)),(16,.pointer none),(14,zP a6 0),(5,zP d 0)]) zk (aN.eZ () (by first|rfl|(simp only [c8,c3,Bool.not_true,Bool.not_false,Bool.true_or,Bool.false_or,Bool.true_and,Bool.false_and,Bool.or_true,Bool.or_false,Bool.and_true,Bool.and_false];done)|(simp [c8,c3];done)) d5))))
      intro _ y2 r7
      refine Zt (cZ (t:=(x || (decide ((o.length:Int)>0))) || (((iM u):Int) != 0)) (λe2=>?_) (λe2=>?_))
      ·exact En (Lq (Le (Ly (Dz (om (v:=.pointer none) (v':=.int .i64 5) (.inl ⟨rfl,mG b4 hla b7 (n:=(zn:Int)) iT (.inr (.inr (.inr (.inr p6)))),r7.dr 7⟩))))))
      ·have h7:=(Bool.or_eq_false_iff.1 e2).1
       have h179ab:(decide ((o.length:Int)>0))=false:=(Bool.or_eq_false_iff.1 h7).2
       have r9:(((iM u):Int) != 0)=false:=(Bool.or_eq_false_iff.1 e2).2
       exact absurd (show iM u=0 by simpa using (Bool.or_eq_false_iff.1 e2).2) (CY _)
    ·refine Lo (Lw (eN Ht p2 λc9 y4 s0=>Lo (Dz (aU.store rfl rfl zk (b:=c9) (off:=0) (v:=.agg (af aG.cells (List.replicate 8 aM))) zk zk (ti:=Tryz.t103) zk s0 0 rfl (cK dG (show(List.replicate 8 aM).length=8 from zA) zk) (eQ dG) (eF dG (show(List.replicate 8 aM).length=8 from zA) zk) (cs':=af aG.cells (List.replicate 8 aM)) (L':=(aC c9 (af aG.cells (List.replicate 8 aM)) 103)::Sl a4 a5 132 2 aH.cells u::aC b1 #[.slice b2 o.length b3,.bool x] 164::Sl a2 a3 101 3 aG.cells a::aC d (eI #[zP q5 0] aG.cells (List.replicate 8 aM) #[.int .u64 a1]) 105::aC q5 #[.slice a0 (([]:List aH).length) c7] 144::Sl a0 c7 132 2 aH.cells ([]:List aH)::L) (eX dG (show(List.replicate 8 aM).length=8 from zA) zk) rfl λy5 i0=>Lz (Ls (Lg [1] (Lw (Zc (zW u zc (i0.dI 1 rfl) (λw h=>h.rows 1 rfl gG.size _) i0) ?_))))))))
     rintro y6 y7 (⟨i1,i2,i3,rfl,y8,d6⟩|⟨rfl,y9,d7⟩)
     ·refine Lz (Ls (Ls (Dz (bH.join (T:=Unit) (E:=λ_=>[(111,.bool true),(16,zP i1 0),(14,zP c9 0),(5,zP d 0)]) (F:=λ_ w=>St w0 (aC i1 #[.slice i2 u.length i3] 144::Sl i2 i3 132 2 aH.cells u::aC c9 (af aG.cells (List.replicate 8 aM)) 103::Sl a4 a5 132 2 aH.cells u::aC b1 #[.slice b2 o.length b3,.bool x] 164::Sl a2 a3 101 3 aG.cells a::aC d (eI #[zP q5 0] aG.cells (List.replicate 8 aM) #[.int .u64 a1]) 105::aC q5 #[.slice a0 (([]:List aH).length) c7] 144::Sl a0 c7 132 2 aH.cells ([]:List aH)::L) w) ?_ ?_))))
      ·refine Zg [] (gS 0 5 (Hl 3 4 1 d6 Hz) (dB 96 x (λe3=>?_) (λe3=>?_)))
       ·exact En (bO (Dz (gB [111,16,14,5] () true (by first|rfl|simp [Hb,e3]) d6)))
       ·refine gS 5 8 (Hl 8 4 0 d6 Hz) (dB 104 (decide ((o.length:Int)>0)) (λd8=>?_) (λd8=>?_))
        ·exact En (bO (Dz (gB [111,16,14,5] () true (by first|rfl|simp [Hb,e3,d8]) d6)))
        ·exact En (bO (Dz (gB [111,16,14,5] () true (by first|rfl|simp [Hb,e3,d8]) d6)))
      intro _ z0 s2
      exact En (Lt (LT (Lq (Le (Ly (Dz (om (v:=.pointer none) (v':=.int .i64 5) (.inl ⟨rfl,mG b4 hla b7 (n:=(zn:Int)) iT (.inr (.inr (.inr (.inl h5)))),s2.dr 9⟩))))))))
     ·refine Lz (Ls (Ls (Dz (bH.join (T:=Unit) (E:=λ_=>[(111,.bool true),(16,.pointer none),(14,zP c9 0),(5,zP d 0)]) (F:=λ_ w=>St w0 (aC c9 (af aG.cells (List.replicate 8 aM)) 103::Sl a4 a5 132 2 aH.cells u::aC b1 #[.slice b2 o.length b3,.bool x] 164::Sl a2 a3 101 3 aG.cells a::aC d (eI #[zP q5 0] aG.cells (List.replicate 8 aM) #[.int .u64 a1]) 105::aC q5 #[.slice a0 (([]:List aH).length) c7] 144::Sl a0 c7 132 2 aH.cells ([]:List aH)::L) w) ?_ ?_))))
      ·refine Zg [] (gS 0 5 (Hl 3 2 1 d7 Hz) (dB 96 x (λe4=>?_) (λe4=>?_)))
       ·exact En (bO (Dz (gB [111,16,14,5] () true (by first|rfl|simp [Hb,e4]) d7)))
       ·refine gS 5 8 (Hl 8 2 0 d7 Hz) (dB 104 (decide ((o.length:Int)>0)) (λd9=>?_) (λd9=>?_))
        ·exact En (bO (Dz (gB [111,16,14,5] () true (by first|rfl|simp [Hb,e4,d9]) d7)))
        ·exact En (bO (Dz (gB [111,16,14,5] () true (by first|rfl|simp [Hb,e4,d9]) d7)))
      intro _ z1 s5
      exact En (Lt (LT (Lq (Le (Ly (Dz (om (v:=.pointer none) (v':=.int .i64 5) (.inl ⟨rfl,mG b4 hla b7 (n:=(zn:Int)) iT (.inr (.inr (.inr (.inl h5)))),s5.dr 7⟩))))))))
end
section
variable {w0 w : World} {L : List cA} {ad : Option Addr} {c : Nat}
def cY (l:List Int):bI:=oN (gI l)
theorem mU (l:List Int):∀ z∈(cY l).toList,0<=z/\z<256:=by rw [cY,Fm (dP l)];exact Cn l
theorem uG l (hcap:l.length<=c) (hl:l.length<=1000000000000) (hTab:∀ w,St w0 L w->jX w) (hr:Rw w0 L aA 1 0 ad l) (hs:St w0 L w):Cs Tryz.prog 32 #[.slice ad l.length c] w λrv w'=>rv=.agg (bI.cells (cY l))/\St w0 L w':=by
 rw [cY,<- HQ (dP l)]
 exact Cd l hcap hl hTab hr hs
theorem sG l (hl:l.length<=100000) (hn:ad=none->c=0) (hb:∀ z∈l,0<=z/\z<256) (hr:Rw w0 L aA 1 0 ad l) (hs:St w0 L w):Cs Tryz.prog 35 #[.slice ad l.length c] w λrv w'=>rv=.agg (bI.cells (cY l))/\St w0 L w':=by
 rw [cY,<- HQ (dP l)]
 exact rG l hl hn hb hr hs
theorem vm {adr:Option Addr}{cr:Nat}(row:List bE) k (hT:gE row) (hkl:k<=row.length) (hrl:row.length<=1000) (hr:Rw w0 L bE.cells 40 iH adr row) (hs:St w0 L w):Cs Tryz.prog 26 #[.slice adr row.length cr,.int .i64 (k:Nat)] w λrv w'=>∃ p q ad c,rv=zP p 0/\St w0 (aC p (eI #[zP q 0] aG.cells ((bB (row.take k)).1) #[.int .u64 (k:Nat)]) 105::aC q #[.slice ad ((cU (bB (row.take k)).2).length) c] 144::Sl ad c 132 2 aH.cells (cU (bB (row.take k)).2)::L) w':=by
 refine cL Tryz.func26 Tryz.ntmps26 (En (Lq (Ls (Lg [0] (Dz (Zc (vi hs) ?_))))))
 rintro v6 w7 ⟨b,a,f,i,rfl,a1⟩
 refine Lz (Ls (Lq (Lb (Dz ?_))))
 have a2:St w0 (aC b (eI #[zP a 0] aG.cells ((bB (row.take 0)).1) #[.int .u64 (0:Nat)]) 105::aC a #[.slice f ((cU (bB (row.take 0)).2).length) i] 144::Sl f i 132 2 aH.cells (cU (bB (row.take 0)).2)::L) w7:=(by rw [show cU (bB (row.take 0)).2=[] from G8];exact a1)
 refine bH.loop (T:=Nat×(Option Addr)×Nat) (λgg=>[(0,.slice adr row.length cr),(1,.int .i64 (k:Nat)),(4,.pointer none),(5,zP b 0),(6,.int .i64 (gg.1:Nat))]) (λgg w=>(gg.1<=k)/\St w0 (aC b (eI #[zP a 0] aG.cells ((bB (row.take gg.1)).1) #[.int .u64 (gg.1:Nat)]) 105::aC a #[.slice gg.2.1 ((cU (bB (row.take gg.1)).2).length) gg.2.2] 144::Sl gg.2.1 gg.2.2 132 2 aH.cells (cU (bB (row.take gg.1)).2)::L) w) (λgg=>k-gg.1) (0,f,i) [0,1,4,5,6] zk ⟨Nat.zero_le _,a2⟩ ?_
 rintro⟨kk,a3,c1⟩ w9 ⟨hp,e⟩
 dsimp only at hp e
 refine En (Ls (Lq (Dz (Zi ((kk:Int)<(k:Nat)) (λa4=>?_) (λa4=>?_)))))
 ·have hk:kk<row.length:=za
  have hI:=iZ (hT.take kk)
  have hrow:=hT (row.getD kk iH) (bC (d:=iH) hk)
  obtain⟨z,a0,rfl⟩:=aB.isSome (hr _ (e.drop 3)) za
  refine Zk (Zt (Zs (Zb (bX [5] (Hx 3 (kk:Int) (row.length:Int) z a0 40 (Hg 4 (.agg (bE.cells (row.getD kk iH))) [.prop (Array.size (bE.cells (row.getD kk iH))=40),.cells ⟨z,a0+(kk*40),none⟩ (bE.cells (row.getD kk iH))] (aL zk (eM (aB.iJ (hr _ (e.drop 3)) zo (Nat.le_of_ble_eq_true zk) zk) aO)) Hz)) (Zc (Ey ((bB (row.take kk)).1) (cU (bB (row.take kk)).2) (row.getD kk iH) (kk:Nat) hI.len (by have:=hI.BI;omega) (λx hx=>by have:=(hI.xB x hx).2;omega) hrow.2 za e) ?_)))))
  rintro a8 a5 ⟨o,u,rfl,a6⟩
  refine Lo (Ld (Lm (Lt (Dz (cS (dW 1 ((kk:Nat)+1) Hz) ?_)))))
  have a7:St w0 (aC b (eI #[zP a 0] aG.cells ((bB (row.take (kk+1))).1) #[.int .u64 ((kk+1):Nat)]) 105::aC a #[.slice o ((cU (bB (row.take (kk+1))).2).length) u] 144::Sl o u 132 2 aH.cells (cU (bB (row.take (kk+1))).2)::L) a5:=(by have h9:=a6;rw [Jo hT hk,Jp hT hk] at h9;exact h9)
  exact aN.back (kk+1,o,u) [0,1,4,5,6] zk (by show k-(kk+1)<k-kk;omega) ⟨za,a7⟩
 ·have hke:kk=k:=za
  subst hke
  exact En (Lx (kD (kE (Lh (Lt (Lq (Le (Dz (bL (v:=zP b 0) ⟨b,a,a3,c1,rfl,e⟩)))))))))
def jB (row:List bE) (k:Nat):List Int:=wd (k:Nat)++cE (bB (row.take k)).1 (cU (bB (row.take k)).2)
theorem Bt {α:Type}{f:α->List Int}{c:Nat}:∀ {l:List α},(∀ x∈l,(f x).length<=c)->(l.flatMap f).length<=c*l.length
 | [],_=>Nat.zero_le _
 | x::l,h=>by
  have h1:=h x (List.mem_cons_self ..)
  have h2:=Bt (l:=l) λy hy=>h y (List.mem_cons_of_mem _ hy)
  rw [List.flatMap_cons,List.length_append,List.length_cons,Nat.mul_add,Nat.mul_one]
  omega
theorem nH {row:List bE}(h:gE row) (k:Nat):(jB row k).length<=20000:=by
 have hI:=iZ (h.take k)
 have a:((bB (row.take k)).1.flatMap qi).length<=152*8:=by
  rw [<- hI.len]
  refine Bt λx hx=>?_
  have:=(hI.all x hx).rep.value
  simp only [qi,List.length_append,aZ,cM]
  omega
 have b:((cU (bB (row.take k)).2).flatMap oH).length<=272*(cU (bB (row.take k)).2).length:=by
  refine Bt λx hx=>?_
  have:=hI.xB x hx
  simp only [oH,List.length_append,cM]
  unfold vj at this
  omega
 have d:=hI.BI
 simp only [jB,cE,List.length_append,aZ]
 omega
theorem tL (row:List bE) (k:Nat):∀ z∈jB row k,0<=z/\z<256:=λz hz=>(List.mem_append.1 hz).elim (uC _ z) (CT _ _ z)
def mH (n:Int) (row:List bE) (l:List aD) (k:Nat):List aD:=fS (gP n (k:Nat) (cY (jB row k))) (n / 2) l n.toNat
def uH (n:Int) (row:List bE) (l:List aD):Nat->aX×Int
 | 0=>(dV,4)
 | j+1=>if n / 2<(((mH n row l (4*(j+1))).length:Nat):Int) then (⟨((4*(j+1):Nat):Int),none,0,jB row (4*(j+1)),none,0,mH n row l (4*(j+1))⟩,0) else uH n row l j
def uI (n:Int) (row:List bE) (l:List aD):aX×Int:=if oP n=true then uH n row l (row.length / 4) else (dV,1)
def xF (a:aX):aX:=⟨a.ct,none,0,a.sl,none,0,a.ml⟩
theorem ra {n:Int}(h:oP n=true):3<=n/\n<=11:=by
 unfold oP at h
 simp only [Bool.and_eq_true,decide_eq_true_eq] at h
 exact h.1
theorem Fz {n:Int}{row:List bE}{l:List aD}:∀ j,∀ m∈(uH n row l j).1.ml,m∈l
 | 0,m,hm=>by cases hm
 | j+1,m,hm=>by
  unfold uH at hm
  split at hm
  ·exact wU _ m hm
  ·exact Fz j m hm
theorem Ju {n:Int}{row:List bE}{l:List aD}(h:gE row):∀ j,j<=1000000->(0<=(uH n row l j).1.ct/\(uH n row l j).1.ct<=4000000)/\(uH n row l j).1.sl.length<=20000/\(∀ z∈(uH n row l j).1.sl,0<=z/\z<256)/\(uH n row l j).1.ml.length<=n.toNat
 | 0,_=>⟨⟨Int.le_refl 0,by show(0:Int)<=4000000;decide⟩,Nat.zero_le _,(λz hz=>by cases hz),Nat.zero_le _⟩
 | j+1,hj=>by
  unfold uH
  split
  ·exact⟨⟨by show(0:Int)<=((4*(j+1):Nat):Int);omega,by show((4*(j+1):Nat):Int)<=_;omega⟩,nH h _,tL _ _,Cw _⟩
  ·exact Ju h j za
end
section
variable {w0 w : World} {L : List cA}
theorem KR {n:Int}{row:List bE}{l:List aD}{k:Nat}(h4:(k+1) % 4=0) (h:n / 2<(((mH n row l (k+1)).length:Nat):Int)):uH n row l ((k+1) / 4)=(⟨((k+1:Nat):Int),none,0,jB row (k+1),none,0,mH n row l (k+1)⟩,0):=by
 obtain⟨j,hj⟩:∃ j,k+1=4*(j+1):=⟨(k+1) / 4-1,za⟩
 rw [hj] at h ⊢
 rw [show 4*(j+1) / 4=j+1 by omega,uH,if_pos h]
theorem Ml {n:Int}{row:List bE}{l:List aD}{k:Nat}(h4:(k+1) % 4=0) (h:¬ n / 2<(((mH n row l (k+1)).length:Nat):Int)):uH n row l ((k+1) / 4)=uH n row l (k / 4):=by
 obtain⟨j,hj⟩:∃ j,k+1=4*(j+1):=⟨(k+1) / 4-1,za⟩
 rw [hj] at h ⊢
 rw [show 4*(j+1) / 4=j+1 by omega,uH,if_neg h,show k / 4=j by omega]
theorem Jv {n:Int}{row:List bE}{l:List aD}{k:Nat}(h4:¬ (k+1) % 4=0):uH n row l ((k+1) / 4)=uH n row l (k / 4):=by
 rw [show(k+1) / 4=k / 4 by omega]
theorem uJ {adr:Option Addr}{cr:Nat}{ad:Option Addr}{c:Nat}(n:Int) (row:List bE) (l:List aD) (hn:-9223372036854775808<=n/\n<=9223372036854775807) (hT:gE row) (hrl:row.length<=1000) (hms:∀ k,k<l.length->dw (l.getD k aJ)/\Rw w0 L bS.cells 2 cD (l.getD k aJ).bd.qa (l.getD k aJ).bd.ql) (hll:l.length<=1000000) (hTab:∀ w,St w0 L w->jX w) (hL:∀ w,St w0 L w->Laid w) (hr1:Rw w0 L bE.cells 40 iH adr row) (hr2:Rw w0 L aD.cells 121 aJ ad l) (hs:St w0 L w):Cs Tryz.prog 7 #[.int .i64 n,.slice adr row.length cr,.slice ad l.length c] w λrv w'=>∃ (x2:aX) (ee2:Int),rv=.tuple #[.agg (aX.cells x2),.int .i64 ee2]/\uI n row l=(xF x2,ee2)/\St w0 (Sl x2.sa x2.sc 5 1 aA x2.sl::Sl x2.ma x2.mc 51 121 aD.cells x2.ml::L) w':=by
 refine cL Tryz.func7 Tryz.ntmps7 (En (Ls (Lg [0] (Dz (eN (aX.cells dV) hs λz w2 b2=>Lz (Ls (Ls (Lg [1] (Lw (eE (yN n zc b2) λw6 a1=>Lz (Dz (cZ (t:=!(oP n)) (λh7=>?_) (λh7=>?_)))))))))))))
 ·have b3:=jV h7
  refine Zs (bX [1] (fE 0 0 0 3 (aX.cells dV) a1 Hz) (Zu 0 0 (aX.cells dV) a1 λw8 a3=>Lz (Le (Ly (Dz (mZ 0 (.int .i64 1) a3 ?_))))))
  have b4:=St.bJ a3 5 1 aA
  have b5:=St.bJ b4 51 121 aD.cells
  have b6:=((b5.pl 0).pl 1).pl 2
  exact⟨dV,1,rfl,(by unfold uI;rw [if_neg (by simpa using h7)];rfl),b6.dr 1⟩
 ·have b3:=jN h7
  have hft:oP n=true:=by simpa using h7
  have hfew:=ra hft
  refine En (Lk (Lt (Lq (Ls (Lg [0] (Dz (Zc (xz a1) ?_)))))))
  rintro e7 b8 ⟨a0,o,q,u,rfl,b9⟩
  refine Lz (Ls (Lq (Lb (Dz ?_))))
  have c0:=St.bJ b9 51 121 aD.cells
  have c1:=St.bJ c0 5 1 aA
  have c2:=((((((c1.pl 1).pl 1).pl 6).pl 6).pl 6).pl 6).pl 6
  have c3:St w0 (aC a0 #[zP q 0,zP o 0,.int .u64 (0:Nat)] 123::aC o (af aG.cells ((bB (row.take 0)).1)) 183::aC q #[.map (some u)] 181::cI Value.string Value.string u ((bB (row.take 0)).2)::aC z (aX.cells dV) 31::Sl dV.sa dV.sc 5 1 aA dV.sl::Sl dV.ma dV.mc 51 121 aD.cells dV.ml::L) b8:=(show _ from c2)
  refine bH.loop (T:=Nat×aX×Int) (λgg=>[(0,.int .i64 n),(2,.slice ad l.length c),(6,zP z 0),(7,.int .i64 gg.2.2),(8,zP a0 0),(18,.slice adr row.length cr),(19,.int .i64 (row.length:Nat)),(20,.int .i64 (gg.1:Nat))]) (λgg w=>(gg.1<=row.length/\uH n row l (gg.1 / 4)=(xF gg.2.1,gg.2.2))/\St w0 (aC a0 #[zP q 0,zP o 0,.int .u64 (gg.1:Nat)] 123::aC o (af aG.cells ((bB (row.take gg.1)).1)) 183::aC q #[.map (some u)] 181::cI Value.string Value.string u ((bB (row.take gg.1)).2)::aC z (aX.cells gg.2.1) 31::Sl gg.2.1.sa gg.2.1.sc 5 1 aA gg.2.1.sl::Sl gg.2.1.ma gg.2.1.mc 51 121 aD.cells gg.2.1.ml::L) w) (λgg=>row.length-gg.1) (0,dV,4) [0,2,6,7,8,18,19,20] zk ⟨⟨Nat.zero_le _,rfl⟩,c3⟩ ?_
  rintro⟨kk,xx,ee⟩ e8 ⟨hp,x⟩
  dsimp only at hp x
  refine En (Lq (Ls (Dz (Zi ((kk:Int)<(row.length:Nat)) (λc4=>?_) (λc4=>?_)))))
  ·have hk:kk<row.length:=za
   have hI:=iZ (hT.take kk)
   have hI2:=iZ (hT.take (kk+1))
   have hrow:=hT (row.getD kk iH) (bC (d:=iH) hk)
   obtain⟨a4,a5,rfl⟩:=aB.isSome (hr1 _ (x.drop 7)) za
   refine Zk (Zt (Zs (Zb (Zs (bX [3,5] (Hx 1 (kk:Int) (row.length:Int) a4 a5 40 (Hg 2 (.agg (bE.cells (row.getD kk iH))) [.prop (Array.size (bE.cells (row.getD kk iH))=40),.cells ⟨a4,a5+(kk*40),none⟩ (bE.cells (row.getD kk iH))] (aL zk (eM (aB.iJ (hr1 _ (x.drop 7)) zo (Nat.le_of_ble_eq_true zk) zk) aO)) Hz)) (eN (eG.cells cN) x λc5 e9 c6=>Lo (Lw (Zu 0 0 (bE.cells (row.getD kk iH)) c6 λf0 a6=>Lo (Ld (Lt (Ls (Dz (bX [2] (fE 1 0 0 40 (bE.cells (row.getD kk iH)) a6 Hz) (eE (zZ ((bB (row.take kk)).1) ((bB (row.take kk)).2) (row.getD kk iH) (kk:Nat) hI.len hI.inv.short (λw h=>hL w (h.drop 4)) hrow.2 zc ((((a6.pl 4).pl 4).pl 4).pl 4)) λc8 c9=>?_))))))))))))))
   have a7:St w0 (aC a0 #[zP q 0,zP o 0,.int .u64 ((kk+1):Nat)] 123::aC o (af aG.cells ((bB (row.take (kk+1))).1)) 183::aC q #[.map (some u)] 181::cI Value.string Value.string u ((bB (row.take (kk+1))).2)::aC c5 (bE.cells (row.getD kk iH)) 46::aC z (aX.cells xx) 31::Sl xx.sa xx.sc 5 1 aA xx.sl::Sl xx.ma xx.mc 51 121 aD.cells xx.ml::L) c8:=(by have h9:=c9;rw [<- CW (d:=iH) hk,<- CX (d:=iH) hk,show(kk:Int)+1=((kk+1:Nat):Int) from rfl] at h9;exact h9)
   refine Lo (Ld (Lt (Ls (Ls (Dz (cS (dW 1 ((kk:Nat)+1) (Hg 2 (.div (((kk:Nat)+1) % 4)) [.prop (IntKind.i64=IntKind.i64/\(4:Int)≠0/\Int.tmod ((kk:Nat)+1) 4=((kk:Nat)+1) % 4)] (aL ⟨rfl,zf,Int.tmod_eq_emod_of_nonneg (by first|omega|exact Int.natCast_nonneg _)⟩ aO) Hz)) (Zt (cZ (t:=((((kk:Nat)+1) % 4):Int) != 0) (λa2=>?_) (λa2=>?_)))))))))
   ·have d0:=tU a2
    refine Zx (aN.cJ (aN.iT (Zt (cS (dW 0 ((kk:Nat)+1) Hz) ?_))))
    have d1:=(((((((a7.pl 7).pl 7).pl 7).pl 6).pl 6).pl 6).pl 6).pl 7
    exact aN.back (kk+1,xx,ee) [0,2,6,7,8,18,19,20] zk (by show row.length-(kk+1)<row.length-kk;omega) ⟨⟨za,(Jv za).trans hp.2⟩,d1.dr 1⟩
   ·have d0:=sR a2
    refine En (Lk (Lt (Ls (Lg [1] (Lw (Zc (sF ((bB (row.take (kk+1))).1) ((bB (row.take (kk+1))).2) ((kk+1):Nat) hI2.len (by have:=hI2.inv.len;omega) hI2.CU hI2.BI hI2.xB zc a7) ?_))))))
    rintro f2 f3 ⟨a,b,rfl,d3⟩
    refine Lz (Ls (Lg [3,5,6] (Lw (eE (nG ((bB (row.take (kk+1))).1) ((bB (row.take (kk+1))).2) ((kk+1):Nat) ((((d3.pl 4).pl 4).pl 4).pl 4)) λf5 a8=>Lo (Lw (eE (uG (wd ((kk+1):Nat)++cE ((bB (row.take (kk+1))).1) (cU ((bB (row.take (kk+1))).2))) (Sl.cap (a8.at_ 4 rfl)) (Nat.le_trans (nH hT (kk+1)) zf) (λw h=>hTab w (h.drop 9)) (λw h=>h.rows 4 rfl aF.size _) a8) λf7 d5=>Lo (Dz (dE (f:=30) (args:=#[.int .i64 n,.slice ad l.length c,.int .u64 ((kk+1):Nat),.agg (bI.cells (cY (wd ((kk+1):Nat)++cE ((bB (row.take (kk+1))).1) (cU ((bB (row.take (kk+1))).2)))))]) Tryz.call30 (GD n ((kk+1):Nat) (cY (wd ((kk+1):Nat)++cE ((bB (row.take (kk+1))).1) (cU ((bB (row.take (kk+1))).2)))) l hfew (λk hk=>⟨(hms k hk).1,λw h=>(hms k hk).2 w (h.drop 9)⟩) zc (λw h=>hTab w (h.drop 9)) (λw h=>hr2 _ (h.drop 9)) d5) ?_))))))))
    rintro f8 f9 ⟨e,i,rfl,a9⟩
    refine Lz (Ls (Dz ?_))
    refine cS (Hg 3 (.div (n / 2)) [.prop (IntKind.i64=IntKind.i64/\(2:Int)≠0/\IntKind.i64.wrap (Int.tdiv n 2)=n / 2)] (aL ⟨rfl,zf,by rw [Int.tdiv_eq_ediv_of_nonneg za];exact rN za za⟩ aO) Hz) (Zt (Zi ((((fS (gP n ((kk+1):Nat) (cY (wd ((kk+1):Nat)++cE ((bB (row.take (kk+1))).1) (cU ((bB (row.take (kk+1))).2))))) (n / 2) l n.toNat).length:Nat):Int)>(n / 2)) (λd6=>?_) (λd6=>?_)))
    ·refine En (Lg [1,5] (Lw (eE (nG ((bB (row.take (kk+1))).1) ((bB (row.take (kk+1))).2) ((kk+1):Nat) ((((a9.pl 4).pl 4).pl 4).pl 4)) λg5 d8=>Lo (Lw (Zu 7 0 (aX.cells (⟨((kk+1):Nat),a,b,(wd ((kk+1):Nat)++cE ((bB (row.take (kk+1))).1) (cU ((bB (row.take (kk+1))).2))),e,i,fS (gP n ((kk+1):Nat) (cY (wd ((kk+1):Nat)++cE ((bB (row.take (kk+1))).1) (cU ((bB (row.take (kk+1))).2))))) (n / 2) l n.toNat⟩:aX)) d8 λd9 e0=>Lo (bO (Lm (Lt (Dz (cS (dW 0 ((kk:Nat)+1) Hz) ?_))))))))))
     have e1:=(((((((((e0.pl 4).pl 5).pl 7).pl 6).pl 6).pl 6).pl 6).pl 9).pl 9).pl 9
     have e2:=e1.dr 3
     have e3:St w0 (aC a0 #[zP q 0,zP o 0,.int .u64 ((kk+1):Nat)] 123::aC o (af aG.cells ((bB (row.take (kk+1))).1)) 183::aC q #[.map (some u)] 181::cI Value.string Value.string u ((bB (row.take (kk+1))).2)::aC z (aX.cells (⟨((kk+1):Nat),a,b,jB row (kk+1),e,i,mH n row l (kk+1)⟩:aX)) 31::Sl ((⟨((kk+1):Nat),a,b,jB row (kk+1),e,i,mH n row l (kk+1)⟩:aX).sa) ((⟨((kk+1):Nat),a,b,jB row (kk+1),e,i,mH n row l (kk+1)⟩:aX).sc) 5 1 aA ((⟨((kk+1):Nat),a,b,jB row (kk+1),e,i,mH n row l (kk+1)⟩:aX).sl)::Sl ((⟨((kk+1):Nat),a,b,jB row (kk+1),e,i,mH n row l (kk+1)⟩:aX).ma) ((⟨((kk+1):Nat),a,b,jB row (kk+1),e,i,mH n row l (kk+1)⟩:aX).mc) 51 121 aD.cells ((⟨((kk+1):Nat),a,b,jB row (kk+1),e,i,mH n row l (kk+1)⟩:aX).ml)::L) d9:=e2
     exact aN.back (kk+1,(⟨((kk+1):Nat),a,b,jB row (kk+1),e,i,mH n row l (kk+1)⟩:aX),0) [0,2,6,7,8,18,19,20] zk (by show row.length-(kk+1)<row.length-kk;omega) ⟨⟨za,KR za (by unfold mH jB;omega)⟩,e3⟩
    ·refine Zk (Zm (Zt (cS (dW 0 ((kk:Nat)+1) Hz) ?_)))
     have e4:=(((((((((a9.pl 9).pl 9).pl 9).pl 7).pl 7).pl 7).pl 7).pl 9).pl 9).pl 9
     exact aN.back (kk+1,xx,ee) [0,2,6,7,8,18,19,20] zk (by show row.length-(kk+1)<row.length-kk;omega) ⟨⟨za,(Ml za (by unfold mH jB;omega)).trans hp.2⟩,e4.dr 3⟩
  ·have hke:kk=row.length:=za
   exact Zx (aN.cJ (aN.fJ (aN.iT (Zt (Zs (bX [2] (fE 0 4 0 3 (aX.cells xx) x Hz) (Zu 4 0 (aX.cells xx) x λg7 b0=>Lz (Le (Dz (mZ 4 (.int .i64 ee) b0 ⟨xx,ee,rfl,(by unfold uI;rw [if_pos hft,<- hke];exact hp.2),b0.dr 5⟩))))))))))
end
section
variable {w0 w : World} {L : List cA} {ad : Option Addr} {c : Nat}
theorem Jw (n:Int){y:Nat}{z:Int}(hy:y<8) (hz:z=56-8*(y:Nat)):AA n y++[IntKind.u8.wrap (bF .u64 n (IntKind.u64.wrap z))]=AA n (y+1):=by
 rw [td,show IntKind.u64.wrap z=8*(7-(y:Nat)) from by rw [kn za za,hz];omega]
 rfl
theorem mV l n (hl:l.length<=900000) (hs:St w0 (Sl ad c 5 1 aA l::L) w):Cs Tryz.prog 91 #[.slice ad l.length c,.int .u64 n] w λrv w'=>∃ ao co,rv=.slice ao ((l++wd n).length) co/\St w0 (Sl ao co 5 1 aA (l++wd n)::L) w':=by
 refine cL Tryz.func91 Tryz.ntmps91 (En (Lq (Ls (Lq (Lb (Dz (bH.loop (T:=Nat×Int×(List Int)×(Option Addr)×Nat) (λgg=>[(0,.slice gg.2.2.2.1 gg.2.2.1.length gg.2.2.2.2),(1,.int .u64 n),(4,.slice none 0 0),(5,.int .i64 gg.2.1)]) (λgg w=>(gg.1<=8/\gg.2.1=56-8*(gg.1:Nat)/\gg.2.2.1=l++AA n gg.1)/\St w0 (Sl gg.2.2.2.1 gg.2.2.2.2 5 1 aA gg.2.2.1::L) w) (λgg=>8-gg.1) (0,56,l,ad,c) [0,1,4,5] zk ⟨⟨by first|omega|(simp only;omega),by first|omega|(simp only;omega),(List.append_nil _).symm⟩,hs⟩ ?_)))))))
 rintro⟨y,z,q,b,d⟩ w1 ⟨hp,a⟩
 dsimp only at hp a
 refine En (Ls (Lq (Dz (Zi ((z:Int) >= 0) (λe=>?_) (λe=>?_)))))
 ·refine Zk (Zt (Zs (Zb (bX [6,7] (Hg 4 (.shift (bF .u64 n (IntKind.u64.wrap z))) [.prop ((0:Int)<=IntKind.u64.wrap z/\Int.fdiv n (2 ^ (min (Int.toNat (IntKind.u64.wrap z)) (IntKind.bits .u64)))=bF .u64 n (IntKind.u64.wrap z))] (aL ⟨(by first|omega|exact bW rfl _),rfl⟩ aO) Hz) (tQ aP aF [(IntKind.u8.wrap (bF .u64 n (IntKind.u64.wrap z)):Int)] a λb5 w6 f=>Lo (Dz (oV aP aF (0:Int) (f.pl 1) (by first|omega|(rw [hp.2.2,List.length_append,iP];simp only [List.length_cons,List.length_nil];omega)|(simp only [List.length_append,List.length_cons,List.length_nil];omega)) λo u a3 x=>Lo (bO (Lm (Lt (Dz (cS (dW 1 (z-8) Hz) ?_))))))))))))
  have a0:=(x.pl 0).pl 1
  exact aN.back (y+1,z-8,q++([(IntKind.u8.wrap (bF .u64 n (IntKind.u64.wrap z)):Int)]),o,u) [0,1,4,5] zk (by show 8-(y+1)<8-y;omega) ⟨(by refine⟨by first|omega|(simp only;omega),by first|omega|(simp only;omega),?_⟩;rw [hp.2.2,List.append_assoc];exact congrArg (l++·) (Jw n za hp.2.1)),a0.dr 1⟩
 ·refine En (Lx (kD (kE (Lh (Lt (Lq (Le (Dz (bL (v:=.slice b q.length d) ?_)))))))))
  have a2:y=8:=za
  have hq:q=l++wd n:=by rw [hp.2.2,a2];rfl
  subst hq
  exact⟨b,d,rfl,a⟩
theorem FA (l:List Int) (s:ByteArray):(l++wd (s.size:Nat))++cV s=l++jT s:=by unfold jT;rw [List.append_assoc]
theorem rb l s (hl:l.length<=800000) (hs2:s.size<=40000) (hs:St w0 (Sl ad c 5 1 aA l::L) w):Cs Tryz.prog 92 #[.slice ad l.length c,.string s] w λrv w'=>∃ ao co,rv=.slice ao ((l++jT s).length) co/\St w0 (Sl ao co 5 1 aA (l++jT s)::L) w':=by
 refine cL Tryz.func92 Tryz.ntmps92 (En (Lq (Ls (Dz (bX [4,6] (tP 3 (s.size:Nat) Hz) (Zc (mV l (s.size:Nat) zm hs) ?_))))))
 rintro q x ⟨d,e,rfl,i⟩
 exact Lo (Lw (aU.rr rfl zk aP (u:=9) zk (f:=aA) rfl (ad:=d) (c:=e) (xs:=l++wd (s.size:Nat)) (s:=s) zk i (by first|omega|(simp only [List.length_append,List.length_cons,List.length_nil,bY,aZ,cM];omega)|(simp only [List.length_append,List.length_cons,List.length_nil,bY,aZ,cM] at *;omega)) λa b z o=>Lz (Le (Dz (bL (v:=.slice a (((l++wd (s.size:Nat))++cV s).length) b) ⟨a,b,by rw [<- FA],by rw [<- FA];exact o⟩)))))
theorem Af {α:Type}{f:α->List Int}{l:List α}{d:α}{k:Nat}(h:k<l.length) (q:List Int):q++(l.take (k+1)).flatMap f=(q++(l.take k).flatMap f)++f (l.getD k d):=by
 rw [bA (d:=d) h,List.flatMap_append,List.append_assoc]
 simp
theorem He {q:List Int}{x:aG}(h:Ab x):((q++wd x.time)++wd (IntKind.u64.wrap x.cQ.err))++jT x.cQ.value=q++qi x:=by
 rw [kn (by have:=h.2.1;omega) (by have:=h.2.1;omega)]
 unfold qi
 simp only [List.append_assoc]
theorem Hf (q:List Int) (x:aH):(q++jT x.key)++jT x.value=q++oH x:=by
 unfold oH
 rw [List.append_assoc]
theorem zB {p:Prop}(h:p:=by first|omega|(simp only [List.length_append,List.length_nil,aZ,cM];omega)):p:=h
theorem sf {p:Nat}{q:Nat}{ad:Option Addr}{c:Nat}(tl:List aG) (l:List aH) cnt (h8:tl.length=8) (hT:∀ x∈tl,Ab x) (hl6:l.length<=64) (iT:∀ x∈l,vj x) (hc:0<=cnt/\cnt<=18446744073709551615) (hs:St w0 (aC p (eI #[zP q 0] aG.cells tl #[.int .u64 cnt]) 105::aC q #[.slice ad l.length c] 144::Sl ad c 132 2 aH.cells l::L) w):Cs Tryz.prog 34 #[zP p 0] w λrv w'=>∃ ao co,rv=.slice ao ((wd cnt++cE tl l).length) co/\St w0 (Sl ao co 5 1 aA (wd cnt++cE tl l)::aC p (eI #[zP q 0] aG.cells tl #[.int .u64 cnt]) 105::aC q #[.slice ad l.length c] 144::Sl ad c 132 2 aH.cells l::L) w':=by
 refine cL Tryz.func34 Tryz.ntmps34 (En (Lq (Ls (Dz (bX [4] (Hg 3 (.gen [.int .u64 cnt]) [.cell ⟨p,25,none⟩ (.int .u64 cnt)] (bP (hs.cell 0 rfl (xw dG.size (show(tl).length=8 by first|assumption|omega|simp) (q:=0) rfl zk)) aO) Hz) ?_)))))
 have a7:St w0 (Sl none 0 5 1 aA ([]:List Int)::aC p (eI #[zP q 0] aG.cells tl #[.int .u64 cnt]) 105::aC q #[.slice ad l.length c] 144::Sl ad c 132 2 aH.cells l::L) w:=St.bJ hs 5 1 aA
 refine Zc (mV ([]:List Int) cnt zB a7) ?_
 rintro v5 w6 ⟨a8,a9,rfl,b0⟩
 refine Lz (Ls (Lq (Lb (Dz (bH.loop (T:=Nat×(List Int)×(Option Addr)×Nat) (λgg=>[(0,zP p 0),(2,.slice none 0 0),(3,.slice gg.2.2.1 gg.2.1.length gg.2.2.2),(4,.int .i64 (gg.1:Nat))]) (λgg w=>(gg.1<=tl.length/\gg.2.1=wd cnt++(tl.take gg.1).flatMap qi/\gg.2.1.length<=8+41000*gg.1)/\St w0 (Sl gg.2.2.1 gg.2.2.2 5 1 aA gg.2.1::aC p (eI #[zP q 0] aG.cells tl #[.int .u64 cnt]) 105::aC q #[.slice ad l.length c] 144::Sl ad c 132 2 aH.cells l::L) w) (λgg=>tl.length-gg.1) (0,(([]:List Int)++wd cnt),a8,a9) [0,2,3,4] zk ⟨⟨Nat.zero_le _,by simp only [List.nil_append,List.take_zero,List.flatMap_nil,List.append_nil],by first|omega|(simp only [List.length_append,List.length_nil,aZ];omega)⟩,b0⟩ ?_)))))
 rintro⟨a,e,c4,c5⟩ w7 ⟨a1,u⟩
 dsimp only at a1 u
 refine En (Ls (Lq (Dz (Zi ((a:Int)<8) (λb1=>?_) (λb1=>?_)))))
 ·have hk:a<tl.length:=za
  have hx:=hT _ (bC (d:=aM) hk)
  have b2:=hx.1
  have b3:=hx.2.1
  have c6:=hx.2.2
  refine Zk (Zt (Zs (Zb (Zs (bX [8] (Hx 5 (a:Int) (8:Int) p 1 3 (Hg 7 (.gen [.int .u64 ((tl.getD a aM).time)]) [.cell ⟨p,1+(a*3),none⟩ (.int .u64 ((tl.getD a aM).time))] (bP (aB.dX (pr u 1 rfl (n:=1) rfl dG.size aM) (k:=a) zo (j:=0) zf zk) aO) Hz)) (Zc (mV e ((tl.getD a aM).time) zB u) ?_))))))
  rintro c7 c8 ⟨c9,d0,rfl,a3⟩
  refine Lz (Ls (Dz (bX [10] (Hx 5 (a:Int) (8:Int) p 1 3 (Hg 8 (.gen [.int .i64 (((tl.getD a aM).cQ).err)]) [.cell ⟨p,1+(a*3)+1,none⟩ (.int .i64 (((tl.getD a aM).cQ).err))] (bP (aB.dX (pr a3 1 rfl (n:=1) rfl dG.size aM) (k:=a) zo (j:=1) zf zk) aO) Hz)) (Zc (mV (e++wd ((tl.getD a aM).time)) (IntKind.u64.wrap (((tl.getD a aM).cQ).err)) zB a3) ?_))))
  rintro d1 d2 ⟨d3,d4,rfl,a4⟩
  refine Lz (Dz (bX [9] (Hx 5 (a:Int) (8:Int) p 1 3 (Hg 8 (.gen [.string (((tl.getD a aM).cQ).value)]) [.cell ⟨p,1+(a*3)+1+1,none⟩ (.string (((tl.getD a aM).cQ).value))] (bP (aB.dX (pr a4 1 rfl (n:=1) rfl dG.size aM) (k:=a) zo (j:=2) zf zk) aO) Hz)) (Zc (rb ((e++wd ((tl.getD a aM).time))++wd (IntKind.u64.wrap (((tl.getD a aM).cQ).err))) (((tl.getD a aM).cQ).value) zB za a4) ?_)))
  rintro d5 d6 ⟨b4,b5,rfl,b6⟩
  exact Lo (bO (Lm (Lt (Dz (cS (dW 1 ((a:Nat)+1) Hz) (aN.back (a+1,((e++wd ((tl.getD a aM).time))++wd (IntKind.u64.wrap (((tl.getD a aM).cQ).err)))++jT (((tl.getD a aM).cQ).value),b4,b5) [0,2,3,4] zk (by show tl.length-(a+1)<tl.length-a;omega) ⟨⟨za,by show((e++wd ((tl.getD a aM).time))++wd (IntKind.u64.wrap (((tl.getD a aM).cQ).err)))++jT (((tl.getD a aM).cQ).value)=_;rw [Af (d:=aM) hk,<- a1.2.1];exact He (hT _ (bC (d:=aM) hk)),(show(((e++wd ((tl.getD a aM).time))++wd (IntKind.u64.wrap (((tl.getD a aM).cQ).err)))++jT (((tl.getD a aM).cQ).value)).length<=8+41000*(a+1) by(simp only [List.length_append,aZ,cM];omega))⟩,b6⟩))))))
 ·refine Zx (aN.cJ (aN.fJ (aN.iT (Zt (Zs (bX [10] (Hg 4 (.gen [zP q 0]) [.cell ⟨p,0,none⟩ (zP q 0)] (bP (u.cell 1 rfl (pq zk)) aO) (Hl 7 2 0 u Hz)) (Zc (mV e (IntKind.u64.wrap (l.length:Nat)) zB u) ?_)))))))
  rintro d7 d8 ⟨b7,b8,rfl,b9⟩
  refine Lz (Ls (Lq (Lb (Dz (bH.loop (T:=Nat×(List Int)×(Option Addr)×Nat) (λgg=>[(0,zP p 0),(2,.slice none 0 0),(3,.slice gg.2.2.1 gg.2.1.length gg.2.2.2),(5,.int .i64 (gg.1:Nat))]) (λgg w=>(gg.1<=l.length/\gg.2.1=(wd cnt++tl.flatMap qi++wd (l.length:Nat))++(l.take gg.1).flatMap oH/\gg.2.1.length<=350000+400*gg.1)/\St w0 (Sl gg.2.2.1 gg.2.2.2 5 1 aA gg.2.1::aC p (eI #[zP q 0] aG.cells tl #[.int .u64 cnt]) 105::aC q #[.slice ad l.length c] 144::Sl ad c 132 2 aH.cells l::L) w) (λgg=>l.length-gg.1) (0,(e++wd (IntKind.u64.wrap (l.length:Nat))),b7,b8) [0,2,3,5] zk ⟨⟨Nat.zero_le _,by show e++wd (IntKind.u64.wrap (l.length:Nat))=_;rw [a1.2.1,show a=tl.length by omega,List.take_length,List.take_zero,List.flatMap_nil,List.append_nil,show IntKind.u64.wrap (l.length:Nat)=(l.length:Nat) from kn za za],by first|omega|(simp only [List.length_append,List.length_nil,aZ];omega)⟩,b9⟩ ?_)))))
  rintro⟨b,i,a5,a6⟩ d9 ⟨a2,z⟩
  dsimp only at a2 z
  refine Zs (Zs (cS (Hg 4 (.gen [zP q 0]) [.cell ⟨p,0,none⟩ (zP q 0)] (bP (z.cell 1 rfl (pq zk)) aO) (Hl 7 2 0 z Hz)) (Zt (Zi ((b:Int)<(l.length:Nat)) (λc0=>?_) (λc0=>?_)))))
  ·have hk:b<l.length:=za
   have hx:=iT _ (bC (d:=aT) hk)
   have b2:=hx.1
   have b3:=hx.2
   obtain⟨f,rfl⟩:=Sl.isSome (z.at_ 3 rfl) za
   refine Zk (Zt (Zs (Zb (ZD (eR [0,1,2,3,4,5,6,7,8,9,10,11,13,14,15,16,17,18,19,20,21,22,23] (.ef 12 (.ef 24 (.rd 25 .done)))) z λe0 o e1=>Zj (Hg 4 (.gen [zP q 0]) [.cell ⟨p,0,none⟩ (zP q 0)] (bP (o.cell 1 rfl (pq zk)) aO) (Hl 7 2 0 o (Hx 9 (b:Int) (l.length:Int) f 0 2 (Hg 11 (.gen [.string ((l.getD b aT).key)]) [.cell ⟨f,0+(b*2),none⟩ (.string ((l.getD b aT).key))] (bP (aB.dX (o.rows 3 rfl gG.size aT) (k:=b) zo (j:=0) zf zk) aO) (Hg 16 (.gen [zP q 0]) [.cell ⟨p,0,none⟩ (zP q 0)] (bP (o.cell 1 rfl (pq zk)) aO) (Hl 19 2 0 o (Hx 21 (b:Int) (l.length:Int) f 0 2 (Hg 23 (.gen [.string ((l.getD b aT).value)]) [.cell ⟨f,0+(b*2)+1,none⟩ (.string ((l.getD b aT).value))] (bP (aB.dX (o.rows 3 rfl gG.size aT) (k:=b) zo (j:=1) zf zk) aO) Hz)))))))) (Zc (rb i ((l.getD b aT).key) zB za o) ?_)))))
   rintro e2 e3 ⟨e4,e5,rfl,a0⟩
   refine⟨fM (n:=[.cell ⟨f,0+(b*2)+1,none⟩ (.string ((l.getD b aT).value)),.prop (0<=(b:Int)/\(b:Int)<(l.length:Int)),.prop (Value.pointer (some (Addr.add ⟨f,0,none⟩ (Int.toNat (b:Nat)*2)))=Value.pointer (some ⟨f,0+(b*2),none⟩)),.cell ⟨q,0,none⟩ (zL f 0 l.length c),.cell ⟨p,0,none⟩ (zP q 0)]) zk (bP (aB.dX (a0.rows 3 rfl gG.size aT) (k:=b) zo (j:=1) zf zk) (aL za (aL (bK _ _ _) (bP (a0.cell 2 rfl zk) (bP (a0.cell 1 rfl (pq zk)) aO))))),Zc (rb (i++jT ((l.getD b aT).key)) ((l.getD b aT).value) zB za a0) ?_⟩
   rintro e6 e7 ⟨c1,c2,rfl,c3⟩
   exact Lo (bO (Lm (Lt (Dz (cS (dW 1 ((b:Nat)+1) Hz) (aN.back (b+1,(i++jT ((l.getD b aT).key))++jT ((l.getD b aT).value),c1,c2) [0,2,3,5] zk (by show l.length-(b+1)<l.length-b;omega) ⟨⟨za,by show(i++jT ((l.getD b aT).key))++jT ((l.getD b aT).value)=_;rw [Af (d:=aT) hk,<- a2.2.1];exact Hf _ _,(show((i++jT ((l.getD b aT).key))++jT ((l.getD b aT).value)).length<=350000+400*(b+1) by(simp only [List.length_append,aZ,cM];omega))⟩,c3⟩))))))
  ·refine En (Lx (kD (kE (Lh (Lt (Lq (Le (Dz (bL (v:=.slice a5 i.length a6) ?_)))))))))
   have hq:i=wd cnt++cE tl l:=by rw [a2.2.1,show b=l.length by omega,List.take_length];unfold cE;simp only [List.append_assoc]
   subst hq
   exact⟨a5,a6,rfl,z⟩
end
section
variable {w0 w : World} {L : List cA}
def lQ (n:Int) (row:List bE) (l:List aD) (k y:Nat):List aD:=fS (gP n (k:Nat) (cY (jB row k))) (n / 2) l y
theorem M1 {j:Nat}(h:0<j/\j<=1000000):IntKind.i64.wrap (((4*j:Nat):Int)-4)=((4*(j-1):Nat):Int):=by
 rw [show IntKind.i64.wrap (((4*j:Nat):Int)-4)=((4*j:Nat):Int)-4 from rN za za];omega
theorem KS {n:Int}{row:List bE}{l:List aD}{j:Nat}(hj:0<j) (h:n / 2<(((mH n row l (4*j)).length:Nat):Int)):uH n row l j=(⟨((4*j:Nat):Int),none,0,jB row (4*j),none,0,mH n row l (4*j)⟩,0):=by
 obtain⟨i,rfl⟩:∃ i,j=i+1:=⟨j-1,za⟩
 rw [uH,if_pos h]
theorem KT {n:Int}{row:List bE}{l:List aD}{j:Nat}(hj:0<j) (h:¬ n / 2<(((mH n row l (4*j)).length:Nat):Int)):uH n row l j=uH n row l (j-1):=by
 obtain⟨i,rfl⟩:∃ i,j=i+1:=⟨j-1,za⟩
 rw [uH,if_neg h,Nat.add_sub_cancel]
theorem xG (n:Int) (m:aD) (k:Int) (d:bI):mB n m k d=ph n m k d:=by
 unfold mB ph
 cases eY m<;>repeat' split
 all_goals simp_all
theorem vK (n k:Int) (d:bI) (r:Int) (m:aD):gP n k d r m=((m.og == r) && ph n m k d):=by
 unfold gP
 rw [xG]
 cases h:m.og == r<;>simp [h]
theorem EE {adr:Option Addr}{cr:Nat}{ad:Option Addr}{c:Nat}(n:Int) (row:List bE) (l:List aD) (hn:-9223372036854775808<=n/\n<=9223372036854775807) (hT:gE row) (hrl:row.length<=1000) (hms:∀ k,k<l.length->dw (l.getD k aJ)/\Rw w0 L bS.cells 2 cD (l.getD k aJ).bd.qa (l.getD k aJ).bd.ql) (hll:l.length<=1000000) (hr1:Rw w0 L bE.cells 40 iH adr row) (hr2:Rw w0 L aD.cells 121 aJ ad l) (hs:St w0 L w):Cs Tryz.prog 8 #[.int .i64 n,.slice adr row.length cr,.slice ad l.length c] w λrv w'=>∃ (x2:aX) (ee2:Int),rv=.tuple #[.agg (aX.cells x2),.int .i64 ee2]/\uI n row l=(xF x2,ee2)/\St w0 (Sl x2.sa x2.sc 5 1 aA x2.sl::Sl x2.ma x2.mc 51 121 aD.cells x2.ml::L) w':=by
 refine cL Tryz.func8 Tryz.ntmps8 (En (Ls (Lg [0] (Dz (eN (aX.cells dV) hs λa w2 c2=>Lz (Ls (Ls (Lg [1] (Lw (eE (yP n zc c2) λw6 b4=>Lz (Dz (cZ (t:=!(yO n)) (λh7=>?_) (λh7=>?_)))))))))))))
 ·have c3:=jV h7
  refine En (Ls (Lg [1] (Lw (Zu 0 0 (aX.cells dV) b4 λw8 b5=>Lz (Le (Ly (Dz (mZ 0 (.int .i64 1) b5 ?_))))))))
  have c4:=St.bJ b5 5 1 aA
  have c5:=St.bJ c4 51 121 aD.cells
  have c6:=((c5.pl 0).pl 1).pl 2
  exact⟨dV,1,rfl,(by unfold uI;rw [show oP n=false from(show yO n=false by simpa using h7)];rfl),c6.dr 1⟩
 ·have c3:=jN h7
  have hft:oP n=true:=show yO n=true by simpa using h7
  have hfew:=ra hft
  have hodd:n % 2=1:=by have h9:=hft;unfold oP at h9;simpa using (Bool.and_eq_true_iff.1 h9).2
  refine Zk (Zt (Zs (Zs (cS (Hg 2 (.div ((row.length:Nat) / 4)) [.prop (IntKind.i64=IntKind.i64/\(4:Int)≠0/\IntKind.i64.wrap (Int.tdiv (row.length:Nat) 4)=(row.length:Nat) / 4)] (aL ⟨rfl,zf,by rw [Int.tdiv_eq_ediv_of_nonneg za];exact rN za za⟩ aO) (dW 3 (((row.length:Nat) / 4)*4) Hz)) (Zt (Zb (Zn [(8,.int .i64 (((row.length:Nat) / 4)*4)),(7,.int .i64 0),(6,zP a 0),(0,.int .i64 n),(1,.slice adr row.length cr),(2,.slice ad l.length c)] (bH.fK (S':=[(8,.int .i64 ((4*(row.length / 4):Nat):Nat)),(7,.int .i64 0),(6,zP a 0),(0,.int .i64 n),(1,.slice adr row.length cr),(2,.slice ad l.length c)]) (by rw [(show((row.length:Int) / 4)*4=((4*(row.length / 4):Nat):Int) from by omega)]) (bH.loop (T:=Nat) (λgg=>[(0,.int .i64 n),(1,.slice adr row.length cr),(2,.slice ad l.length c),(6,zP a 0),(8,.int .i64 ((4*gg:Nat):Nat))]) (λgg w=>(gg<=row.length / 4/\uH n row l (row.length / 4)=uH n row l gg)/\St w0 (aC a (aX.cells dV) 35::L) w) (λgg=>gg) (row.length / 4) [0,1,2,6,8] zk ⟨⟨Nat.le_refl _,rfl⟩,b4⟩ ?_)))))))))
  rintro j h0 ⟨hp,b6⟩
  refine En (Ls (Lq (Dz (Zi ((((4*j:Nat):Nat):Int) >= 4) (λc8=>?_) (λc8=>?_)))))
  ·have hI2:=iZ (hT.take (4*j))
   refine En (Lk (Lt (Ls (Lb (Ls (Lg [2] (Lw (dE (f:=26) (args:=#[.slice adr row.length cr,.int .i64 ((4*j:Nat):Nat)]) Tryz.call26 (vm row (4*j:Nat) zc zc zc (λw h=>hr1 _ (h.drop 1)) b6) ?_))))))))
   rintro h1 h2 ⟨h3,h4,h5,h6,rfl,c9⟩
   refine Lz (Ls (Lg [1] (Lw (Zc (sf ((bB (row.take (4*j:Nat))).1) (cU (bB (row.take (4*j:Nat))).2) ((4*j:Nat):Nat) hI2.len hI2.CU hI2.BI hI2.xB zc c9) ?_))))
   rintro h8 i0 ⟨b,d,rfl,b7⟩
   refine Lz (Ls (Lg [1,2,3] (Lw (eE (sG (wd ((4*j:Nat):Nat)++cE ((bB (row.take (4*j:Nat))).1) (cU (bB (row.take (4*j:Nat))).2)) (Nat.le_trans (nH hT (4*j)) zf) (b7.dI 0 rfl) (tL row (4*j)) (λw h=>h.rows 0 rfl aF.size _) b7) λi2 d0=>Lo (Dz (eN (bI.cells aK) d0 λo i3 d1=>Lo (Dz (Zu 0 0 (bI.cells (cY (wd ((4*j:Nat):Nat)++cE ((bB (row.take (4*j:Nat))).1) (cU (bB (row.take (4*j:Nat))).2)))) d1 λd2 d3=>Lo (Ld (Lt (Lq (Ls (Lq (Lb (Dz ?_)))))))))))))))
   have d4:=St.bJ d3 51 121 aD.cells
   have d5:=((((((d4.pl 6).pl 2).pl 3).pl 3).pl 6).pl 6).pl 6
   have d6:=d5.dr 3
   have d7:St w0 (Sl none 0 51 121 aD.cells (lQ n row l (4*j) 0)::Sl b d 5 1 aA (jB row (4*j))::aC o (bI.cells (cY (jB row (4*j)))) 44::aC a (aX.cells dV) 35::L) d2:=d6
   refine Zn [(13,.int .i64 1),(12,.slice none 0 0),(11,zP o 0),(10,.slice b ((wd ((4*j:Nat):Nat)++cE ((bB (row.take (4*j:Nat))).1) (cU (bB (row.take (4*j:Nat))).2)).length) d),(0,.int .i64 n),(1,.slice adr row.length cr),(2,.slice ad l.length c),(6,zP a 0),(8,.int .i64 ((4*j:Nat):Nat))] (Zn [(13,.int .i64 1),(12,.slice none 0 0),(11,zP o 0),(10,.slice b ((jB row (4*j)).length) d),(0,.int .i64 n),(1,.slice adr row.length cr),(2,.slice ad l.length c),(6,zP a 0),(8,.int .i64 ((4*j:Nat):Nat))] (bH.loop (T:=Nat×Int×(Option Addr)×Nat) (λgg=>[(0,.int .i64 n),(1,.slice adr row.length cr),(2,.slice ad l.length c),(6,zP a 0),(8,.int .i64 ((4*j:Nat):Nat)),(10,.slice b ((jB row (4*j)).length) d),(11,zP o 0),(12,.slice gg.2.2.1 ((lQ n row l (4*j) gg.1).length) gg.2.2.2),(13,.int .i64 gg.2.1)]) (λgg w=>(gg.2.1=(gg.1:Int)+1/\(gg.1:Int)<=n)/\St w0 (Sl gg.2.2.1 gg.2.2.2 51 121 aD.cells (lQ n row l (4*j) gg.1)::Sl b d 5 1 aA (jB row (4*j))::aC o (bI.cells (cY (jB row (4*j)))) 44::aC a (aX.cells dV) 35::L) w) (λgg=>n.toNat-gg.1) (0,1,none,0) [0,1,2,6,8,10,11,12,13] zk ⟨⟨rfl,za⟩,d7⟩ ?_))
   rintro⟨y,r,q,u⟩ i4 ⟨a8,a9⟩
   dsimp only at a8 a9
   refine Zs (Zs (bH.join (T:=Unit) (E:=λ_=>[(44,.bool ((decide ((r:Int)<=n)) && (decide ((((lQ n row l (4*j) y).length:Nat):Int)<=((n-1) / 2))))),(0,.int .i64 n),(1,.slice adr row.length cr),(2,.slice ad l.length c),(6,zP a 0),(8,.int .i64 ((4*j:Nat):Nat)),(10,.slice b ((jB row (4*j)).length) d),(11,zP o 0),(12,.slice q ((lQ n row l (4*j) y).length) u),(13,.int .i64 r)]) (F:=λ_ w=>St w0 (Sl q u 51 121 aD.cells (lQ n row l (4*j) y)::Sl b d 5 1 aA (jB row (4*j))::aC o (bI.cells (cY (jB row (4*j)))) 44::aC a (aX.cells dV) 35::L) w) ?_ ?_))
   ·refine Zg [] (Zr 0 4 [] (dB 37 (decide ((r:Int)<=n)) (λa2=>?_) (λa2=>?_)))
    ·exact lD (dW 7 (n-1) (Hg 8 (.div ((n-1) / 2)) [.prop (IntKind.i64=IntKind.i64/\(2:Int)≠0/\IntKind.i64.wrap (Int.tdiv (n-1) 2)=(n-1) / 2)] (aL ⟨rfl,zf,by rw [Int.tdiv_eq_ediv_of_nonneg za];exact rN za za⟩ aO) Hz)) (gB [44,0,1,2,6,8,10,11,12,13] () (decide ((((lQ n row l (4*j) y).length:Nat):Int)<=((n-1) / 2))) (by first|rfl|simp [Hb,a2]) a9)
    ·exact En (bO (Dz (gB [44,0,1,2,6,8,10,11,12,13] () false (by first|rfl|simp [Hb,a2]) a9)))
   intro _ d9 b8
   refine Zt (cZ (t:=(decide ((r:Int)<=n)) && (decide ((((lQ n row l (4*j) y).length:Nat):Int)<=((n-1) / 2)))) (λa1=>?_) (λa1=>?_))
   ·have e0:=(Bool.and_eq_true_iff.1 a1).1
    have i5:=of_decide_eq_true e0
    have e1:=(Bool.and_eq_true_iff.1 a1).2
    have i6:=of_decide_eq_true e1
    refine En (Lk (Lt (Ls (Lb (Lq (Lb (Dz (bH.loop (T:=Nat) (λgg=>[(0,.int .i64 n),(1,.slice adr row.length cr),(2,.slice ad l.length c),(6,zP a 0),(8,.int .i64 ((4*j:Nat):Nat)),(10,.slice b ((jB row (4*j)).length) d),(11,zP o 0),(12,.slice q ((lQ n row l (4*j) y).length) u),(13,.int .i64 r),(14,.int .i64 (gg:Nat))]) (λgg w=>(gg<=l.length/\∀ i,i<gg->gP n ((4*j:Nat):Nat) (cY (jB row (4*j))) r (l.getD i aJ)=false)/\St w0 (Sl q u 51 121 aD.cells (lQ n row l (4*j) y)::Sl b d 5 1 aA (jB row (4*j))::aC o (bI.cells (cY (jB row (4*j)))) 44::aC a (aX.cells dV) 35::L) w) (λgg=>l.length-gg) 0 [0,1,2,6,8,10,11,12,13,14] zk ⟨⟨Nat.zero_le _,λi hi=>absurd hi (Nat.not_lt_zero _)⟩,b8⟩ ?_))))))))
    rintro ii e2 ⟨a5,b0⟩
    refine En (Ls (Lq (Dz (Zi ((ii:Int)<(l.length:Nat)) (λe3=>?_) (λe3=>?_)))))
    ·have hkl:ii<l.length:=za
     obtain⟨x,a0,rfl⟩:=aB.isSome (hr2 _ (b0.drop 4)) za
     refine Zk (Zt (Zs (Zb (Zs (ZD (eR [0,1,2,3,4,5,6,7,8,9,10,11,12,13,14,15] (.ef 16 (.rd 17 .done))) b0 λi7 a3 i8=>Zp 0 8 [(2,.eJ (zP x (a0+(ii*121))) .at_),(4,.gen [.int .i64 ((l.getD ii aJ).og)])] [(2,[.prop (0<=(ii:Int)/\(ii:Int)<(l.length:Int)),.prop (Value.pointer (some (Addr.add ⟨x,a0,none⟩ (Int.toNat (ii:Nat)*121)))=Value.pointer (some ⟨x,a0+(ii*121),none⟩))]),(4,[.cell ⟨x,a0+(ii*121),none⟩ (.int .i64 ((l.getD ii aJ).og))])] (ak (aL za (aL (bK _ _ _) aO)) (ak (bP (aB.dX (hr2 _ (a3.drop 4)) (k:=ii) zo (j:=0) zf zk) aO) gQ)) (dB 60 ((((l.getD ii aJ).og):Int) == r) (λa4=>?_) (λa4=>?_)))))))
     ·have e4:=iV a4
      refine Zj (Hx 11 (ii:Int) (l.length:Int) x a0 121 (Hg 12 (.agg (aD.cells (l.getD ii aJ))) [.prop (Array.size (aD.cells (l.getD ii aJ))=121),.cells ⟨x,a0+(ii*121),none⟩ (aD.cells (l.getD ii aJ))] (aL zk (eM (aB.iJ (hr2 _ (a3.drop 4)) zo (Nat.le_of_ble_eq_true zk) zk) aO)) (tP 14 ((4*j:Nat):Nat) (fE 15 2 0 32 (bI.cells (cY (jB row (4*j)))) a3 Hz)))) (eE (yQ n (l.getD ii aJ) ((4*j:Nat):Nat) (cY (jB row (4*j))) (hms ii hkl).1 (λw h=>(hms ii hkl).2 w (h.drop 4)) a3) λj0 b2=>Lz (Dz (cZ (t:=ph n (l.getD ii aJ) ((4*j:Nat):Nat) (cY (jB row (4*j)))) (λb3=>?_) (λb3=>?_))))
      ·refine Zs (bX [5,6] (Hx 3 (ii:Int) (l.length:Int) x a0 121 (Hg 4 (.agg (aD.cells (l.getD ii aJ))) [.prop (Array.size (aD.cells (l.getD ii aJ))=121),.cells ⟨x,a0+(ii*121),none⟩ (aD.cells (l.getD ii aJ))] (aL zk (eM (aB.iJ (hr2 _ (b2.drop 4)) zo (Nat.le_of_ble_eq_true zk) zk) aO)) Hz)) (aU.cT rfl zk (t:=24) (e:=51) (n:=1) (ps:=[(0,.agg (aD.cells (l.getD ii aJ)))]) zk zk (ti:=Tryz.t51) (z:=.agg (aD.cells aJ)) zk zk zf zf (cs:=aD.cells (l.getD ii aJ)) zk b2 λe5 e6 e7 e8=>?_))
       have e9:St w0 (Sl (some ⟨e5,0,none⟩) 1 51 121 aD.cells ([(l.getD ii aJ:aD)])::Sl q u 51 121 aD.cells (lQ n row l (4*j) y)::Sl b d 5 1 aA (jB row (4*j))::aC o (bI.cells (cY (jB row (4*j)))) 44::aC a (aX.cells dV) 35::L) e6:=St.lS (l:=[(l.getD ii aJ:aD)]) (f:=aD.cells) e7 e8 dJ.size zl zk
       refine Lo (Dz (oV eH dJ aJ (e9.pl 1) zj λa6 a7 f1 f2=>Lo (Lw (Zd (Zt (Zx (aN.nA zf (aN.cJ (aN.fJ (aN.iT (Zm (Zt (cS (dW 1 (r+1) Hz) ?_)))))))))))))
       have f3:=((((f2.pl 4).pl 4).pl 4).pl 3).pl 4
       have f4:=f3.dr 1
       have hce:(lQ n row l (4*j) (y+1))=(lQ n row l (4*j) y)++([(l.getD ii aJ:aD)]):=yS (p:=gP n ((4*j:Nat):Nat) (cY (jB row (4*j)))) (h:=n / 2) (l:=l) (y:=y) (by have:=of_decide_eq_true (Bool.and_eq_true_iff.1 a1).2;unfold lQ at this;omega) (by rw [<- a8.1];exact A4 hkl (by rw [vK,a4,b3];rfl) a5.2)
       have f5:St w0 (Sl a6 a7 51 121 aD.cells (lQ n row l (4*j) (y+1))::Sl b d 5 1 aA (jB row (4*j))::aC o (bI.cells (cY (jB row (4*j)))) 44::aC a (aX.cells dV) 35::L) f1:=(by rw [hce];exact f4)
       exact aN.pick [13,12,0,1,2,6,8,10,11] (S':=[(13,.int .i64 (r+1)),(12,.slice a6 (((lQ n row l (4*j) y)++([(l.getD ii aJ:aD)])).length) a7),(0,.int .i64 n),(1,.slice adr row.length cr),(2,zL x a0 l.length c),(6,zP a 0),(8,.int .i64 ((4*j:Nat):Nat)),(10,.slice b ((jB row (4*j)).length) d),(11,zP o 0)]) zk (aN.fK (S':=[(13,.int .i64 (r+1)),(12,.slice a6 ((lQ n row l (4*j) (y+1)).length) a7),(0,.int .i64 n),(1,.slice adr row.length cr),(2,zL x a0 l.length c),(6,zP a 0),(8,.int .i64 ((4*j:Nat):Nat)),(10,.slice b ((jB row (4*j)).length) d),(11,zP o 0)]) (by rw [hce]) (aN.back ((y+1),(r+1),a6,a7) [0,1,2,6,8,10,11,12,13] zk (by show n.toNat-(y+1)<n.toNat-y;omega) ⟨⟨by show r+1=((y+1:Nat):Int)+1;omega,by show((y+1:Nat):Int)<=n;omega⟩,f5⟩))
      ·exact Zk (Zm (Zt (cS (dW 1 ((ii:Nat)+1) Hz) (aN.back (ii+1) [0,1,2,6,8,10,11,12,13,14] zk (by show l.length-(ii+1)<l.length-ii;omega) ⟨⟨za,(λi hi=>(Nat.lt_or_ge i ii).elim (a5.2 i) (λh9=>by rw [show i=ii by omega];rw [vK,b3,Bool.and_false]))⟩,b2⟩))))
     ·exact En (Lw (gH (En (bO (Lt (LF (Lk (Lm (Lt (Dz (cS (dW 1 ((ii:Nat)+1) Hz) (aN.back (ii+1) [0,1,2,6,8,10,11,12,13,14] zk (by show l.length-(ii+1)<l.length-ii;omega) ⟨⟨za,(λi hi=>(Nat.lt_or_ge i ii).elim (a5.2 i) (λh9=>by rw [show i=ii by omega];rw [vK,a4];rfl))⟩,a3⟩))))))))))))
    ·refine Zx (aN.cJ (aN.fJ (aN.iT (Zm (Zt (cS (dW 1 (r+1) Hz) ?_))))))
     have hce:(lQ n row l (4*j) (y+1))=(lQ n row l (4*j) y):=Fp (p:=gP n ((4*j:Nat):Nat) (cY (jB row (4*j)))) (h:=n / 2) (l:=l) (y:=y) (by have:=of_decide_eq_true (Bool.and_eq_true_iff.1 a1).2;unfold lQ at this;omega) (by rw [<- a8.1];exact Fo (λi hi=>a5.2 i za))
     have f6:St w0 (Sl q u 51 121 aD.cells (lQ n row l (4*j) (y+1))::Sl b d 5 1 aA (jB row (4*j))::aC o (bI.cells (cY (jB row (4*j)))) 44::aC a (aX.cells dV) 35::L) e2:=(by rw [hce];exact b0)
     exact aN.pick [13,0,1,2,6,8,10,11,12] (S':=[(13,.int .i64 (r+1)),(0,.int .i64 n),(1,.slice adr row.length cr),(2,.slice ad l.length c),(6,zP a 0),(8,.int .i64 ((4*j:Nat):Nat)),(10,.slice b ((jB row (4*j)).length) d),(11,zP o 0),(12,.slice q ((lQ n row l (4*j) y).length) u)]) zk (aN.fK (S':=[(13,.int .i64 (r+1)),(0,.int .i64 n),(1,.slice adr row.length cr),(2,.slice ad l.length c),(6,zP a 0),(8,.int .i64 ((4*j:Nat):Nat)),(10,.slice b ((jB row (4*j)).length) d),(11,zP o 0),(12,.slice q ((lQ n row l (4*j) (y+1)).length) u)]) (by rw [hce]) (aN.back ((y+1),(r+1),q,u) [0,1,2,6,8,10,11,12,13] zk (by show n.toNat-(y+1)<n.toNat-y;omega) ⟨⟨by show r+1=((y+1:Nat):Int)+1;omega,by show((y+1:Nat):Int)<=n;omega⟩,f6⟩))
   ·have hcK:lQ n row l (4*j) y=mH n row l (4*j):=Cv (p:=gP n ((4*j:Nat):Nat) (cY (jB row (4*j)))) (h:=n / 2) (l:=l) za ((Bool.and_eq_false_iff.1 a1).elim (λh=>.inl (by have:=of_decide_eq_false h;omega)) (λh=>.inr (by have:=of_decide_eq_false h;unfold lQ at this;omega)))
    have b9:St w0 (Sl q u 51 121 aD.cells (mH n row l (4*j))::Sl b d 5 1 aA (jB row (4*j))::aC o (bI.cells (cY (jB row (4*j)))) 44::aC a (aX.cells dV) 35::L) d9:=(by rw [<- hcK];exact b8)
    refine Zn [(44,.bool ((decide ((r:Int)<=n)) && (decide ((((lQ n row l (4*j) y).length:Nat):Int)<=((n-1) / 2))))),(0,.int .i64 n),(1,.slice adr row.length cr),(2,.slice ad l.length c),(6,zP a 0),(8,.int .i64 ((4*j:Nat):Nat)),(10,.slice b ((jB row (4*j)).length) d),(11,zP o 0),(12,.slice q ((lQ n row l (4*j) y).length) u),(13,.int .i64 r)] (bH.fK (S':=[(44,.bool ((decide ((r:Int)<=n)) && (decide ((((lQ n row l (4*j) y).length:Nat):Int)<=((n-1) / 2))))),(0,.int .i64 n),(1,.slice adr row.length cr),(2,.slice ad l.length c),(6,zP a 0),(8,.int .i64 ((4*j:Nat):Nat)),(10,.slice b ((jB row (4*j)).length) d),(11,zP o 0),(12,.slice q ((mH n row l (4*j)).length) u),(13,.int .i64 r)]) (by rw [hcK]) (Zx (aN.cJ (aN.fJ (aN.iT (Zt (Zs (cS (dW 3 (n-1) (Hg 4 (.div ((n-1) / 2)) [.prop (IntKind.i64=IntKind.i64/\(2:Int)≠0/\IntKind.i64.wrap (Int.tdiv (n-1) 2)=(n-1) / 2)] (aL ⟨rfl,zf,by rw [Int.tdiv_eq_ediv_of_nonneg za];exact rN za za⟩ aO) Hz)) (Zt (Zi ((((mH n row l (4*j)).length:Nat):Int)>((n-1) / 2)) (λf7=>?_) (λf7=>?_)))))))))))
    ·refine Zs (bX [5] (tP 1 ((4*j:Nat):Nat) Hz) (Zu 3 0 (aX.cells (⟨((4*j:Nat):Nat),b,d,jB row (4*j),q,u,mH n row l (4*j)⟩:aX)) b9 λj1 c0=>Lz (Le (Ll (Ly (sT (Ll (Ly (Dz (mZ 3 (.int .i64 0) c0 ?_))))))))))
     have f8:=(((c0.pl 0).pl 1).pl 3).pl 3
     exact⟨(⟨((4*j:Nat):Nat),b,d,jB row (4*j),q,u,mH n row l (4*j)⟩:aX),0,rfl,(by unfold uI;rw [if_pos hft];exact hp.2.trans (KS za za)),f8.dr 2⟩
    ·have hno:¬ n / 2<(((mH n row l (4*j)).length:Nat):Int):=za
     exact Zk (Zm (Zt (cS (Hg 1 (.eJ (.int .i64 ((4*(j-1):Nat):Nat)) (.gen [])) [.prop (Value.int .i64 (IntKind.i64.wrap (((4*j:Nat):Nat)-4))=Value.int .i64 ((4*(j-1):Nat):Nat))] (aL (congrArg (Value.int .i64) (M1 za)) aO) Hz) (aN.back (j-1) [0,1,2,6,8] zk (by show(j-1)<j;omega) ⟨⟨za,hp.2.trans (KT za hno)⟩,b9.dr 3⟩))))
  ·refine En (Lx (kD (kE (Lh (Lt (Ls (Lg [1] (Lw (Zu 0 0 (aX.cells dV) b6 λj2 c1=>Lz (Le (Dz (mZ 0 (.int .i64 4) c1 ?_))))))))))))
   have g5:=St.bJ c1 5 1 aA
   have g7:=St.bJ g5 51 121 aD.cells
   have g8:=((g7.pl 0).pl 1).pl 2
   exact⟨dV,4,rfl,(by unfold uI;rw [if_pos hft,hp.2,show j=0 by omega];rfl),g8.dr 1⟩
end
section
variable {w0 w : World} {L : List cA}
def C3 (a:aX):Bool:=match Br a.sl with
 | none=>true
 | some x=>x.1 != a.ct
theorem FB {a:aX}(h:Br a.sl=none):C3 a=true:=by unfold C3;rw [h]
theorem tM {a:aX}{x:Int×List aG×List aH}(h:Br a.sl=some x):C3 a=(x.1 != a.ct):=by unfold C3;rw [h]
theorem Jx {ba:Nat}(a:aX) (hsome:xP a.sa a.sc) (hbl:a.sl.length<=40000) (hbb:∀ z∈a.sl,0<=z/\z<256) (hr:Rw w0 L aA 1 0 a.sa a.sl) (hs:St w0 (aC ba (aX.cells a) 31::L) w):Cs Tryz.prog 43 #[zP ba 0] w λrv w'=>rv=.bool (C3 a)/\St w0 (aC ba (aX.cells a) 31::L) w':=by
 refine cL Tryz.func43 Tryz.ntmps43 (En (Lq (Ls (Dz (bX [2] (Hl 1 0 1 hs Hz) (Zc (Ae a.sl zc zc zc (λw h=>hr _ (h.drop 1)) hs) ?_))))))
 rintro a2 a3 (⟨rfl,f,i⟩|⟨s3,p4,q5,g6,o,q,b,rfl,u,x⟩)
 ·exact Lz (Ls (Dz (ZD (eR [0,1,2,3,5,6] (.ef 4 (eR [7,8,9] .done))) i λa4 a0 a5=>En (Lw (gH (En (bO (Lt (Le (Dz (bL (v:=.bool true) ⟨(by rw [FB f]),a0⟩)))))))))))
 ·exact Lz (Ls (Dz (ZD (eR [0,1,2,3,5,6] (.ef 4 (eR [7,8,9] .done))) x λa6 d a7=>Zj (Hl 6 4 0 d Hz) (eE (nG o (cP q) b d) λa9 e=>⟨fM (n:=[.cell ⟨ba,0,none⟩ (.int .u64 a.ct)]) zk (bP (e.cell 4 rfl zk) aO),En (bO (Lt (Le (Dz (bL (v:=.bool ((b:Int) != a.ct)) ⟨(by rw [tM u]),e.dr 4⟩)))))⟩))))
def kT (n:Int) (a:aX):Int :=
 if (!(oP n))=true then
  1
 else
  if (C3 a)=true then
   5
  else
   if (rY n a)=true then
    6
   else
    if (anyI (BH n a) a.ml)=true then
     13
    else
     if (anyI (λ_ m=>!(eY m)) a.ml)=true then
      11
     else
      if (anyI (λ_ m=>!(mB n m a.ct (cY a.sl))) a.ml)=true then
       15
      else
       0
theorem re n (a:aX) (hsome:xP a.sa a.sc) (hbl:a.sl.length<=40000) (hbb:∀ z∈a.sl,0<=z/\z<256) (hms:∀ k,k<a.ml.length->dw (a.ml.getD k aJ)/\Rw w0 L bS.cells 2 cD (a.ml.getD k aJ).bd.qa (a.ml.getD k aJ).bd.ql) (hll:a.ml.length<=1000000) (hn:-9223372036854775808<=n/\n<=9223372036854775807) (hcap:a.sl.length<=a.sc) (hTab:∀ w,St w0 L w->jX w) (hr1:Rw w0 L aD.cells 121 aJ a.ma a.ml) (hr2:Rw w0 L aA 1 0 a.sa a.sl) (hs:St w0 L w):Cs Tryz.prog 11 #[.int .i64 n,.agg (aX.cells a)] w λrv w'=>rv=.int .i64 (kT n a)/\St w0 L w':=by
 refine cL Tryz.func11 Tryz.ntmps11 (En (Ls (Lg [0,1] (Dz (Nx (.int .i64 n) #[.int .i64 n] hs λd w2 c7=>Lo (Dz (hG (aX.cells a) c7 λb w5 c8=>Lz (Ls (Lg [1,2] (Lw (My .nilFunc #[.nilFunc] c8 λf w8 c9=>Lo (Dz (Zu 0 0 #[.func (.func 41) #[] #[zP b 0]] c9 λe5 a9=>Lo (Ld (Lt (Ls (Dz (bX [2,3,4] (Hl 1 1 1 a9 Hz) (eE (uG a.sl zc zc (λw h=>hTab w (h.drop 3)) (λw h=>hr2 _ (h.drop 3)) a9) λe7 d0=>Lo (Dz (eN (bI.cells aK) d0 λa0 e8 d1=>Lo (Dz (Zu 0 0 (bI.cells (cY a.sl)) d1 λe9 d2=>Lo (Ld (Lt (Ls (Ls (Lg [12] (Lw (aU.cT rfl zk (t:=96) (e:=92) (n:=6) (ps:=[(0,.agg #[.int .i64 1,.func (.func 42) #[] #[zP d 0]]),(1,.agg #[.int .i64 5,.func (.func 43) #[] #[zP b 0]]),(2,.agg #[.int .i64 6,.func (.func 45) #[] #[zP b 0,zP d 0]]),(3,.agg #[.int .i64 13,.func (.func 46) #[] #[zP f 0,zP d 0,zP b 0]]),(4,.agg #[.int .i64 11,.func (.func 48) #[] #[zP f 0]]),(5,.agg #[.int .i64 15,.func (.func 51) #[] #[zP f 0,zP d 0,zP b 0,zP a0 0]])]) zk zk (ti:=Tryz.t92) (z:=.agg #[.int .i64 0,.nilFunc]) zk zk zf zf (cs:=#[.int .i64 1,.func (.func 42) #[] #[zP d 0],.int .i64 5,.func (.func 43) #[] #[zP b 0],.int .i64 6,.func (.func 45) #[] #[zP b 0,zP d 0],.int .i64 13,.func (.func 46) #[] #[zP f 0,zP d 0,zP b 0],.int .i64 11,.func (.func 48) #[] #[zP f 0],.int .i64 15,.func (.func 51) #[] #[zP f 0,zP d 0,zP b 0,zP a0 0]]) zk d2 λq f0 b0 f1=>Lz (Lb (Dz (bH.tY 7 (En (Lq (Ls (LT (Lk (Lt (Ls (Lb (Ls (Dz (bX [2,3] (Hx 0 (0:Int) (6:Int) q 0 2 (fE 1 0 0 2 (#[.int .i64 1,.func (.func 42) #[] #[zP d 0]]) b0 Hz)) (eN #[.int .i64 0,.nilFunc] b0 λf2 f3 d3=>Lo (Dz (Zu 0 0 #[.int .i64 1,.func (.func 42) #[] #[zP d 0]] d3 λf4 b2=>Lo (Ld (Lt (Ls (Dz (bX [2] (Hl 1 0 1 b2 Hz) (eE (IK n zc (b2.pl 5)) λf6 a1=>Lo (Ld (Lt (Dz (cZ (t:=!(oP n)) (λi=>?_) (λi=>?_))))))))))))))))))))))))))))))))))))))))))))))))))))))))))
 ·refine Zs (cS (Hl 1 1 0 a1 Hz) (Zt (Ze (Zl (Zy (aN.sj (Zl (Zy (bL (v:=.int .i64 1) ?_)))))))))
  have hr:kT n a=1:=by rw [kT,if_pos i]
  have b3:=a1.dr 6
  exact⟨(by first|rfl|(rw [hr];done)|(rw [hr];rfl)),(by first|exact b3|(rw [hr];exact b3))⟩
 ·refine En (Lk (Lm (Lt (La (Dz (aN.again (En (Lq (Ls (LT (Lk (Lt (Ls (Lb (Ls (Dz (bX [2,3] (Hx 0 (1:Int) (6:Int) q 0 2 (fE 1 2 2 2 (#[.int .i64 5,.func (.func 43) #[] #[zP b 0]]) a1 Hz)) (eN #[.int .i64 0,.nilFunc] a1 λf7 f8 d5=>Lo (Dz (Zu 0 0 #[.int .i64 5,.func (.func 43) #[] #[zP b 0]] d5 λf9 b5=>Lo (Ld (Lt (Ls (Dz (bX [2] (Hl 1 0 1 b5 Hz) (eE (Jx a zc zc zc (λw h=>hr2 _ (h.drop 6)) (b5.pl 6)) λg5 a2=>Lo (Ld (Lt (Dz (cZ (t:=C3 a) (λo=>?_) (λo=>?_)))))))))))))))))))))))))))))))
  ·refine Zs (cS (Hl 1 1 0 a2 Hz) (Zt (Ze (Zl (Zy (aN.sj (Zl (Zy (bL (v:=.int .i64 5) ?_)))))))))
   have hr:kT n a=5:=by rw [kT,nI i,if_pos o]
   have b6:=a2.dr 7
   exact⟨(by first|rfl|(rw [hr];done)|(rw [hr];rfl)),(by first|exact b6|(rw [hr];exact b6))⟩
  ·refine En (Lk (Lm (Lt (La (Dz (aN.again (En (Lq (Ls (LT (Lk (Lt (Ls (Lb (Ls (Dz (bX [2,3] (Hx 0 (2:Int) (6:Int) q 0 2 (fE 1 4 4 2 (#[.int .i64 6,.func (.func 45) #[] #[zP b 0,zP d 0]]) a2 Hz)) (eN #[.int .i64 0,.nilFunc] a2 λg7 g8 d7=>Lo (Dz (Zu 0 0 #[.int .i64 6,.func (.func 45) #[] #[zP b 0,zP d 0]] d7 λg9 b8=>Lo (Ld (Lt (Ls (Dz (bX [2] (Hl 1 0 1 b8 Hz) (eE (IL n a (ra (n:=n) (by simpa using i)) ((b8.pl 1).pl 3)) λh1 a3=>Lo (Ld (Lt (Dz (cZ (t:=rY n a) (λu=>?_) (λu=>?_)))))))))))))))))))))))))))))))
   ·refine Zs (cS (Hl 1 2 0 a3 Hz) (Zt (Ze (Zl (Zy (aN.sj (Zl (Zy (bL (v:=.int .i64 6) ?_)))))))))
    have hr:kT n a=6:=by rw [kT,nI i,nI o,if_pos u]
    have b9:=a3.dr 8
    exact⟨(by first|rfl|(rw [hr];done)|(rw [hr];rfl)),(by first|exact b9|(rw [hr];exact b9))⟩
   ·refine En (Lk (Lm (Lt (La (Dz (aN.again (En (Lq (Ls (LT (Lk (Lt (Ls (Lb (Ls (Dz (bX [2,3] (Hx 0 (3:Int) (6:Int) q 0 2 (fE 1 5 6 2 (#[.int .i64 13,.func (.func 46) #[] #[zP f 0,zP d 0,zP b 0]]) a3 Hz)) (eN #[.int .i64 0,.nilFunc] a3 λh2 h3 d9=>Lo (Dz (Zu 0 0 #[.int .i64 13,.func (.func 46) #[] #[zP f 0,zP d 0,zP b 0]] d9 λh4 c0=>Lo (Ld (Lt (Ls (Dz (bX [2] (Hl 1 0 1 c0 Hz) (eE (IM n a (λk hk=>⟨(hms k hk).1,λw h=>(hms k hk).2 w (h.drop 6)⟩) zc (λw h=>hr1 _ (h.drop 6)) (((c0.pl 2).pl 2).pl 8)) λh6 a4=>Lo (Ld (Lt (Dz (cZ (t:=anyI (BH n a) a.ml) (λx=>?_) (λx=>?_)))))))))))))))))))))))))))))))
    ·refine Zs (cS (Hl 1 3 0 a4 Hz) (Zt (Ze (Zl (Zy (aN.sj (Zl (Zy (bL (v:=.int .i64 13) ?_)))))))))
     have hr:kT n a=13:=by rw [kT,nI i,nI o,nI u,if_pos x]
     have c1:=a4.dr 9
     exact⟨(by first|rfl|(rw [hr];done)|(rw [hr];rfl)),(by first|exact c1|(rw [hr];exact c1))⟩
    ·refine En (Lk (Lm (Lt (La (Dz (aN.again (En (Lq (Ls (LT (Lk (Lt (Ls (Lb (Ls (Dz (bX [2,3] (Hx 0 (4:Int) (6:Int) q 0 2 (fE 1 7 8 2 (#[.int .i64 11,.func (.func 48) #[] #[zP f 0]]) a4 Hz)) (eN #[.int .i64 0,.nilFunc] a4 λh7 h8 e1=>Lo (Dz (Zu 0 0 #[.int .i64 11,.func (.func 48) #[] #[zP f 0]] e1 λh9 c2=>Lo (Ld (Lt (Ls (Dz (bX [2] (Hl 1 0 1 c2 Hz) (eE (IP a (λk hk=>⟨(hms k hk).1,λw h=>(hms k hk).2 w (h.drop 8)⟩) zc (λw h=>hTab w (h.drop 8)) (λw h=>hr1 _ (h.drop 8)) ((c2.pl 3).pl 2)) λi1 a5=>Lo (Ld (Lt (Dz (cZ (t:=anyI (λ_ m=>!(eY m)) a.ml) (λa6=>?_) (λa6=>?_)))))))))))))))))))))))))))))))
     ·refine Zs (cS (Hl 1 2 0 a5 Hz) (Zt (Ze (Zl (Zy (aN.sj (Zl (Zy (bL (v:=.int .i64 11) ?_)))))))))
      have hr:kT n a=11:=by rw [kT,nI i,nI o,nI u,nI x,if_pos a6]
      have c3:=a5.dr 10
      exact⟨(by first|rfl|(rw [hr];done)|(rw [hr];rfl)),(by first|exact c3|(rw [hr];exact c3))⟩
     ·refine En (Lk (Lm (Lt (La (Dz (aN.again (En (Lq (Ls (LT (Lk (Lt (Ls (Lb (Ls (Dz (bX [2,3] (Hx 0 (5:Int) (6:Int) q 0 2 (fE 1 8 10 2 (#[.int .i64 15,.func (.func 51) #[] #[zP f 0,zP d 0,zP b 0,zP a0 0]]) a5 Hz)) (eN #[.int .i64 0,.nilFunc] a5 λi2 i3 e3=>Lo (Dz (Zu 0 0 #[.int .i64 15,.func (.func 51) #[] #[zP f 0,zP d 0,zP b 0,zP a0 0]] e3 λi4 c4=>Lo (Ld (Lt (Ls (Dz (bX [2] (Hl 1 0 1 c4 Hz) (eE (IQ n a (cY a.sl) (λk hk=>⟨(hms k hk).1,λw h=>(hms k hk).2 w (h.drop 7)⟩) zc (λw h=>hTab w (h.drop 7)) (λw h=>hr1 _ (h.drop 7)) ((((c4.pl 10).pl 3).pl 5).pl 4)) λi6 a7=>Lo (Ld (Lt (Dz (cZ (t:=anyI (λ_ m=>!(mB n m a.ct (cY a.sl))) a.ml) (λa8=>?_) (λa8=>?_)))))))))))))))))))))))))))))))
      ·refine Zs (cS (Hl 1 4 0 a7 Hz) (Zt (Ze (Zl (Zy (aN.sj (Zl (Zy (bL (v:=.int .i64 15) ?_)))))))))
       have hr:kT n a=15:=by rw [kT,nI i,nI o,nI u,nI x,nI a6,if_pos a8]
       have c5:=a7.dr 11
       exact⟨(by first|rfl|(rw [hr];done)|(rw [hr];rfl)),(by first|exact c5|(rw [hr];exact c5))⟩
      ·refine En (Lk (Lm (Lt (La (Dz (aN.again (En (Lq (Ls (LF (Lx (kD (kE (Lh (Lt (Lq (Le (Dz (bL (v:=.int .i64 0) ?_)))))))))))))))))))
       have hr:kT n a=0:=by rw [kT,nI i,nI o,nI u,nI x,nI a6,nI a8]
       have c6:=a7.dr 11
       exact⟨(by first|rfl|(rw [hr];done)|(rw [hr];rfl)),(by first|exact c6|(rw [hr];exact c6))⟩
end
section
variable {w0 w : World} {L : List cA}
theorem Jy {n:Int}(h:oP n=true):n % 2=1:=by
 unfold oP at h
 simpa using (Bool.and_eq_true_iff.1 h).2
theorem Bu Q n (a:aX) (hQ:∀ w,St w0 L w->Q.holds w) (hq:bG Q a.sa a.sl a.sc) (hbl:a.sl.length<=40000) (hms:∀ k,k<a.ml.length->dw (a.ml.getD k aJ)/\Rw w0 L bS.cells 2 cD (a.ml.getD k aJ).bd.qa (a.ml.getD k aJ).bd.ql) (hll:a.ml.length<=1000000) (hn:-9223372036854775808<=n/\n<=9223372036854775807) (hr1:Rw w0 L aD.cells 121 aJ a.ma a.ml) (hr2:Rw w0 L aA 1 0 a.sa a.sl) (hs:St w0 L w):Cs Tryz.prog 12 #[.int .i64 n,.agg (aX.cells a)] w λrv w'=>rv=.int .i64 (kT n a)/\St w0 L w':=by
 refine cL Tryz.func12 Tryz.ntmps12 (En (Ls (Lg [0] (Dz (hG (aX.cells a) hs λf w2 d6=>Lz (Ls (Ls (Lg [1] (Lw (eE (yP n zc d6) λw6 c5=>Lz (Dz (cZ (t:=!(yO n)) (λh7=>?_) (λh7=>?_)))))))))))))
 ·have d7:=jV h7
  exact En (Lq (Le (Ly (Dz (bL (v:=.int .i64 1) ⟨(by unfold kT;rw [if_pos (show(!(oP n))=true from h7)]),c5.dr 1⟩)))))
 ·have d7:=jN h7
  have a0:¬ ((!(oP n))=true):=by rw [show(!(oP n))=false from h7];decide
  have hft:oP n=true:=by simpa using (show(!(oP n))=false from h7)
  have hodd:=Jy hft
  have hfew:=ra hft
  refine Zk (Zt (Zs (bX [2] (Hl 1 0 1 c5 Hz) (Zc (ED Q a.sl (λw h=>hQ w (h.drop 1)) zc zc c5) ?_))))
  rintro h4 h5 (⟨rfl,d9,e0⟩|⟨e1,h6,h8,i0,e2,i1,a7,rfl,d1,i2,e3⟩)
  ·exact Lz (Ls (Ls (Dz (ZD (eR [0,1,2,3,4,5,6,7,8,9,10] .done) e0 λi3 e4 i4=>En (bO (Lt (LT (Lq (Le (Ly (Dz (bL (v:=.int .i64 5) ⟨(by unfold kT;rw [if_neg a0,if_pos (FB d9)]),e4.dr 1⟩))))))))))))
  ·refine Lz (Ls (Ls (Dz (ZD (eR [0,1,2,3,4,5,6,7,8,9,10] .done) e3 λe6 a5 i5=>lD (Hg 6 (.gen [.int .u64 a7]) [.cell ⟨e1,25,none⟩ (.int .u64 a7)] (bP (a5.cell 0 rfl (xw dG.size (show(e2).length=8 by first|assumption|omega|simp) (q:=0) rfl zk)) aO) (Hl 8 3 0 a5 Hz)) (Zt (cZ (t:=(a7:Int) != a.ct) (λa8=>?_) (λa8=>?_)))))))
   ·have e7:=tU a8
    exact En (Lq (Le (Ly (Dz (bL (v:=.int .i64 5) ⟨(by unfold kT;rw [if_neg a0,if_pos ((tM d1).trans a8)]),a5.dr 4⟩)))))
   ·have e7:=sR a8
    have a9:¬ (C3 a=true):=by rw [(tM d1).trans a8];decide
    refine Zk (Zt (Zs (Zs (cS (Hl 1 3 2 a5 (dW 4 (n-1) (Hg 5 (.div ((n-1) / 2)) [.prop (IntKind.i64=IntKind.i64/\(2:Int)≠0/\IntKind.i64.wrap (Int.tdiv (n-1) 2)=(n-1) / 2)] (aL ⟨rfl,zf,by rw [Int.tdiv_eq_ediv_of_nonneg za];exact rN za za⟩ aO) (dW 6 (((n-1) / 2)+1) Hz)))) (Zt (cZ (t:=(a.ml.length:Int) != (((n-1) / 2)+1)) (λb0=>?_) (λb0=>?_)))))))
    ·have e9:=tU b0
     exact En (Lq (Le (Ly (Dz (bL (v:=.int .i64 6) ⟨(by unfold kT;rw [if_neg a0,if_neg a9,if_pos (show rY n a=true by unfold rY;rw [show n / 2=(n-1) / 2 by omega];exact b0)]),a5.dr 4⟩)))))
    ·have e9:=sR b0
     have b8:¬ (rY n a=true):=by rw [(show rY n a=false by unfold rY;rw [show n / 2=(n-1) / 2 by omega];exact b0)];decide
     refine En (Lk (Lt (Ls (Lq (Lb (Dz ?_))))))
     have f1:=a5.dr 3
     obtain⟨aqi,hai⟩:∃ q,q=a.ma:=⟨_,rfl⟩
     have f2:St w0 (aC f (aX.cells (⟨a.ct,a.sa,a.sc,a.sl,aqi,a.mc,a.ml⟩:aX)) 35::L) e6:=(by rw [hai];exact f1)
     refine bH.loop (T:=Nat×(Option Addr)) (λgg=>[(0,.int .i64 n),(3,zP f 0),(7,.int .i64 (gg.1:Nat))]) (λgg w=>(gg.1<=a.ml.length/\(∀ i,i<gg.1->(BH n a) i (a.ml.getD i aJ)=false)/\∀ w,St w0 L w->aB w gg.2 a.ml.length 121 (λq=>aD.cells (a.ml.getD q aJ)))/\St w0 (aC f (aX.cells (⟨a.ct,a.sa,a.sc,a.sl,gg.2,a.mc,a.ml⟩:aX)) 35::L) w) (λgg=>a.ml.length-gg.1) (0,aqi) [0,3,7] zk ⟨⟨Nat.zero_le _,(λi hi=>absurd hi (Nat.not_lt_zero _)),(by rw [hai];exact hr1)⟩,f2⟩ ?_
     rintro⟨b,f3⟩ i6 ⟨b9,b2⟩
     dsimp only at b9 b2
     have a6:=b9.2.2
     refine Zs (Zs (cS (Hl 2 0 2 b2 Hz) (Zt (Zi ((b:Int)<(a.ml.length:Nat)) (λf4=>?_) (λf4=>?_)))))
     ·have f5:b<a.ml.length:=za
      obtain⟨o,u,rfl⟩:=aB.isSome (a6 _ (b2.drop 1)) za
      refine Zk (Zt (Zs (Zb (Zs (bH.join (T:=Unit) (E:=λ_=>[(72,.bool ((decide (((a.ml.getD b aJ).og:Int)>n)) || ((decide ((b:Int)>0)) && (decide (((a.ml.getD (b-1:Nat) aJ).og:Int) >= ((a.ml.getD b aJ).og)))))),(0,.int .i64 n),(3,zP f 0),(7,.int .i64 (b:Nat))]) (F:=λ_ w=>St w0 (aC f (aX.cells (⟨a.ct,a.sa,a.sc,a.sl,some ⟨o,u,none⟩,a.mc,a.ml⟩:aX)) 35::L) w) ?_ ?_)))))
      ·refine ZD (eR [0,1,2,3,4,5,6,7,8,9,10,11,12,13,14,15,16,17,18,19,20,21,22,23,24,25,26,27] .done) b2 λi7 x i8=>Zp 0 9 [(1,.gen [zL o u a.ml.length a.mc]),(3,.eJ (zP o (u+(b*121))) .at_),(5,.gen [.int .i64 ((a.ml.getD b aJ).og)])] [(1,[.cell ⟨f,2,none⟩ (zL o u a.ml.length a.mc)]),(3,[.prop (0<=(b:Int)/\(b:Int)<(a.ml.length:Int)),.prop (Value.pointer (some (Addr.add ⟨o,u,none⟩ (Int.toNat (b:Nat)*121)))=Value.pointer (some ⟨o,u+(b*121),none⟩))]),(5,[.cell ⟨o,u+(b*121),none⟩ (.int .i64 ((a.ml.getD b aJ).og))])] (ak (bP (x.cell 0 rfl zk) aO) (ak (aL za (aL (bK _ _ _) aO)) (ak (bP (aB.dX (a6 _ (x.drop 1)) (k:=b) zo (j:=0) zf zk) aO) gQ))) (dB 53 (decide (((a.ml.getD b aJ).og:Int)>n)) (λz=>?_) (λz=>?_))
       ·have f6:=of_decide_eq_true z
        exact En (bO (Dz (aN.pick [72,0,3,7] (S':=[(72,.bool true),(0,.int .i64 n),(3,zP f 0),(7,.int .i64 (b:Nat))]) zk (aN.eZ () (by first|rfl|(simp only [z,Bool.not_true,Bool.not_false,Bool.true_or,Bool.false_or,Bool.true_and,Bool.false_and,Bool.or_true,Bool.or_false,Bool.and_true,Bool.and_false];done)|(simp [z];done)) x))))
       ·have f6:=of_decide_eq_false z
        refine Zr 9 3 [] (dB 56 (decide ((b:Int)>0)) (λa1=>?_) (λa1=>?_))
        ·have f7:=of_decide_eq_true a1
         exact lD (Hl 13 0 2 x (Hg 15 (.eJ (.int .i64 ((b-1:Nat):Nat)) (.gen [])) [.prop (Value.int .i64 (IntKind.i64.wrap ((b:Nat)-1))=Value.int .i64 ((b-1:Nat):Nat))] (aL (congrArg (Value.int .i64) (MV za)) aO) (Hx 16 (((b-1:Nat):Nat):Int) (a.ml.length:Int) o u 121 (Hg 18 (.gen [.int .i64 ((a.ml.getD (b-1:Nat) aJ).og)]) [.cell ⟨o,u+((b-1:Nat)*121),none⟩ (.int .i64 ((a.ml.getD (b-1:Nat) aJ).og))] (bP (aB.dX (a6 _ (x.drop 1)) (k:=(b-1:Nat)) zo (j:=0) zf zk) aO) (Hl 20 0 2 x (Hx 22 (b:Int) (a.ml.length:Int) o u 121 (Hg 24 (.gen [.int .i64 ((a.ml.getD b aJ).og)]) [.cell ⟨o,u+(b*121),none⟩ (.int .i64 ((a.ml.getD b aJ).og))] (bP (aB.dX (a6 _ (x.drop 1)) (k:=b) zo (j:=0) zf zk) aO) Hz))))))) (aN.pick [72,0,3,7] (S':=[(72,.bool (decide (((a.ml.getD (b-1:Nat) aJ).og:Int) >= ((a.ml.getD b aJ).og)))),(0,.int .i64 n),(3,zP f 0),(7,.int .i64 (b:Nat))]) zk (aN.eZ () (by first|rfl|(simp only [z,a1,Bool.not_true,Bool.not_false,Bool.true_or,Bool.false_or,Bool.true_and,Bool.false_and,Bool.or_true,Bool.or_false,Bool.and_true,Bool.and_false];done)|(simp [z,a1];done)) x))
        ·exact En (bO (Dz (aN.pick [72,0,3,7] (S':=[(72,.bool false),(0,.int .i64 n),(3,zP f 0),(7,.int .i64 (b:Nat))]) zk (aN.eZ () (by first|rfl|(simp only [z,a1,Bool.not_true,Bool.not_false,Bool.true_or,Bool.false_or,Bool.true_and,Bool.false_and,Bool.or_true,Bool.or_false,Bool.and_true,Bool.and_false];done)|(simp [z,a1];done)) x))))
      intro _ i9 d2
      refine Zt (cZ (t:=(decide (((a.ml.getD b aJ).og:Int)>n)) || ((decide ((b:Int)>0)) && (decide (((a.ml.getD (b-1:Nat) aJ).og:Int) >= ((a.ml.getD b aJ).og))))) (λb3=>?_) (λb3=>?_))
      ·exact En (Lq (Le (Ll (Ly (sT (Ll (Ly (Dz (bL (v:=.int .i64 13) ⟨(by unfold kT;rw [if_neg a0,if_neg a9,if_neg b8,if_pos (pj (p:=BH n a) f5 b3)]),d2.dr 1⟩)))))))))
      ·have f9:=(Bool.or_eq_false_iff.1 b3).1
       have j1:((decide ((b:Int)>0)) && (decide (((a.ml.getD (b-1:Nat) aJ).og:Int) >= ((a.ml.getD b aJ).og))))=false:=(Bool.or_eq_false_iff.1 b3).2
       exact Zk (Zm (Zt (cS (dW 1 ((b:Nat)+1) Hz) (aN.back (b+1,some ⟨o,u,none⟩) [0,3,7] zk (by show a.ml.length-(b+1)<a.ml.length-b;omega) ⟨⟨za,(λi hi=>(Nat.lt_or_ge i b).elim (b9.2.1 i) (λh9=>by rw [show i=b by omega];exact b3)),a6⟩,d2⟩))))
     ·have c6:¬ (anyI (BH n a) a.ml=true):=by rw [pR (p:=BH n a) (l:=a.ml) (λi hi=>b9.2.1 i za)];decide
      refine En (Lx (kD (kE (Lh (Lt (Ls (Lq (Lb (Dz (bH.loop (T:=Nat×(Option Addr)) (λgg=>[(0,.int .i64 n),(3,zP f 0),(8,.int .i64 (gg.1:Nat))]) (λgg w=>(gg.1<=a.ml.length/\(∀ i,i<gg.1->(λ_ m=>!(eY m)) i (a.ml.getD i aJ)=false)/\∀ w,St w0 L w->aB w gg.2 a.ml.length 121 (λq=>aD.cells (a.ml.getD q aJ)))/\St w0 (aC f (aX.cells (⟨a.ct,a.sa,a.sc,a.sl,gg.2,a.mc,a.ml⟩:aX)) 35::L) w) (λgg=>a.ml.length-gg.1) (0,f3) [0,3,8] zk ⟨⟨Nat.zero_le _,(λi hi=>absurd hi (Nat.not_lt_zero _)),a6⟩,b2⟩ ?_))))))))))
      rintro⟨e,g0⟩ j2 ⟨c0,a2⟩
      dsimp only at c0 a2
      have c1:=c0.2.2
      refine Zs (Zs (cS (Hl 2 0 2 a2 Hz) (Zt (Zi ((e:Int)<(a.ml.length:Nat)) (λg5=>?_) (λg5=>?_)))))
      ·have c7:e<a.ml.length:=za
       obtain⟨c8,c9,rfl⟩:=aB.isSome (c1 _ (a2.drop 1)) za
       refine Zk (Zt (Zs (Zb (Zs (bX [5] (Hl 1 0 2 a2 (Hx 3 (e:Int) (a.ml.length:Int) c8 c9 121 (Hg 4 (.agg (aD.cells (a.ml.getD e aJ))) [.prop (Array.size (aD.cells (a.ml.getD e aJ))=121),.cells ⟨c8,c9+(e*121),none⟩ (aD.cells (a.ml.getD e aJ))] (aL zk (eM (aB.iJ (c1 _ (a2.drop 1)) zo (Nat.le_of_ble_eq_true zk) zk) aO)) Hz))) (eE (ve (a.ml.getD e aJ) (hms e c7).1 (λw h=>(hms e c7).2 w (h.drop 1)) a2) λj4 d3=>Lz (Dz (cZ (t:=!(eY (a.ml.getD e aJ))) (λb4=>?_) (λb4=>?_)))))))))
       ·exact En (Lq (Le (Ll (Ly (sT (Ll (Ly (Dz (bL (v:=.int .i64 11) ⟨(by unfold kT;rw [if_neg a0,if_neg a9,if_neg b8,if_neg c6,if_pos (pj (p:=λ_ m=>!(eY m)) c7 b4)]),d3.dr 1⟩)))))))))
       ·exact Zk (Zm (Zt (cS (dW 1 ((e:Nat)+1) Hz) (aN.back (e+1,some ⟨c8,c9,none⟩) [0,3,8] zk (by show a.ml.length-(e+1)<a.ml.length-e;omega) ⟨⟨za,(λi hi=>(Nat.lt_or_ge i e).elim (c0.2.1 i) (λh9=>by rw [show i=e by omega];exact b4)),c1⟩,d3⟩))))
      ·have d4:¬ (anyI (λ_ m=>!(eY m)) a.ml=true):=by rw [pR (p:=λ_ m=>!(eY m)) (l:=a.ml) (λi hi=>c0.2.1 i za)];decide
       refine En (Lx (kD (kE (Lh (Lt (Ls (Lq (Lb (Dz (bH.loop (T:=Nat×(Option Addr)) (λgg=>[(0,.int .i64 n),(3,zP f 0),(9,.int .i64 (gg.1:Nat))]) (λgg w=>(gg.1<=a.ml.length/\(∀ i,i<gg.1->(λ_ m=>!(mB n m a.ct (cY a.sl))) i (a.ml.getD i aJ)=false)/\∀ w,St w0 L w->aB w gg.2 a.ml.length 121 (λq=>aD.cells (a.ml.getD q aJ)))/\St w0 (aC f (aX.cells (⟨a.ct,a.sa,a.sc,a.sl,gg.2,a.mc,a.ml⟩:aX)) 35::L) w) (λgg=>a.ml.length-gg.1) (0,g0) [0,3,9] zk ⟨⟨Nat.zero_le _,(λi hi=>absurd hi (Nat.not_lt_zero _)),c1⟩,a2⟩ ?_))))))))))
       rintro⟨d,j5⟩ j6 ⟨c2,b5⟩
       dsimp only at c2 b5
       have c3:=c2.2.2
       refine Zs (Zs (cS (Hl 2 0 2 b5 Hz) (Zt (Zi ((d:Int)<(a.ml.length:Nat)) (λg9=>?_) (λg9=>?_)))))
       ·have d0:d<a.ml.length:=za
        obtain⟨a3,a4,rfl⟩:=aB.isSome (c3 _ (b5.drop 1)) za
        refine Zk (Zt (Zs (Zb (Zs (ZD (eR [0,1,2,3,4,5,6,7,8,9] (.ef 10 (.ef 11 (.rd 12 .done)))) b5 λj7 b6 j8=>Zj (Hl 2 0 2 b6 (Hx 4 (d:Int) (a.ml.length:Int) a3 a4 121 (Hg 5 (.agg (aD.cells (a.ml.getD d aJ))) [.prop (Array.size (aD.cells (a.ml.getD d aJ))=121),.cells ⟨a3,a4+(d*121),none⟩ (aD.cells (a.ml.getD d aJ))] (aL zk (eM (aB.iJ (c3 _ (b6.drop 1)) zo (Nat.le_of_ble_eq_true zk) zk) aO)) (Hl 7 0 0 b6 (Hl 9 0 1 b6 Hz))))) (eE (sG a.sl zc hq.L1.nn hq.nV (λw h=>hr2 _ (h.drop 1)) b6) λk3 c4=>⟨fM (n:=[.cell ⟨f,0,none⟩ (.int .u64 a.ct),.prop (Array.size (aD.cells (a.ml.getD d aJ))=121),.cells ⟨a3,a4+(d*121),none⟩ (aD.cells (a.ml.getD d aJ)),.prop (0<=(d:Int)/\(d:Int)<(a.ml.length:Int)),.prop (Value.pointer (some (Addr.add ⟨a3,a4,none⟩ (Int.toNat (d:Nat)*121)))=Value.pointer (some ⟨a3,a4+(d*121),none⟩)),.cell ⟨f,2,none⟩ (zL a3 a4 a.ml.length a.mc)]) zk (bP (c4.cell 0 rfl zk) (aL zk (eM (aB.iJ (c3 _ (c4.drop 1)) zo (Nat.le_of_ble_eq_true zk) zk) (aL za (aL (bK _ _ _) (bP (c4.cell 0 rfl zk) aO)))))),(eE (yQ n (a.ml.getD d aJ) a.ct (cY a.sl) (hms d d0).1 (λw h=>(hms d d0).2 w (h.drop 1)) c4) λk5 d5=>Lz (Dz (cZ (t:=!(ph n (a.ml.getD d aJ) a.ct (cY a.sl))) (λb7=>?_) (λb7=>?_))))⟩))))))
        ·exact En (Lq (Le (Ll (Ly (sT (Ll (Ly (Dz (bL (v:=.int .i64 15) ⟨(by unfold kT;rw [if_neg a0,if_neg a9,if_neg b8,if_neg c6,if_neg d4,if_pos (pj (p:=λ_ m=>!(mB n m a.ct (cY a.sl))) d0 (show(!(mB n _ a.ct (cY a.sl)))=true by rw [xG];exact b7))]),d5.dr 1⟩)))))))))
        ·exact Zk (Zm (Zt (cS (dW 1 ((d:Nat)+1) Hz) (aN.back (d+1,some ⟨a3,a4,none⟩) [0,3,9] zk (by show a.ml.length-(d+1)<a.ml.length-d;omega) ⟨⟨za,(λi hi=>(Nat.lt_or_ge i d).elim (c2.2.1 i) (λh9=>by rw [show i=d by omega];show(!(mB n _ a.ct (cY a.sl)))=false;rw [xG];exact b7)),c3⟩,d5⟩))))
       ·have h2:¬ (anyI (λ_ m=>!(mB n m a.ct (cY a.sl))) a.ml=true):=by rw [pR (p:=λ_ m=>!(mB n m a.ct (cY a.sl))) (l:=a.ml) (λi hi=>c2.2.1 i za)];decide
        exact En (Lx (kD (kE (Lh (Lt (Lq (Le (Dz (bL (v:=.int .i64 0) ⟨(by unfold kT;rw [if_neg a0,if_neg a9,if_neg b8,if_neg c6,if_neg d4,if_neg h2]),b5.dr 1⟩)))))))))
end
section
variable {w0 w : World} {L : List cA} {ay : Option Addr} {cy : Nat} {ax : Option Addr} {cx : Nat}
def pV (m:aD) (n:aD):Bool :=
 if ((m.og:Int) == n.og)=true then
  if ((m.nr:Int) == n.nr)=true then
   if (decide (m.dp=n.dp))=true then
    if (kP m.bd n.bd)=true then
     decide (m.tg=n.tg)
    else
     false
   else
    false
  else
   false
 else
  false
theorem EF m n (hqn:m.bd.ql.length<=9223372036854775807) (hr1:Rw w0 L bS.cells 2 cD m.bd.qa m.bd.ql) (hr2:Rw w0 L bS.cells 2 cD n.bd.qa n.bd.ql) (hs:St w0 L w):Cs Tryz.prog 137 #[.agg (aD.cells m),.agg (aD.cells n)] w λrv w'=>rv=.bool (pV m n)/\St w0 L w':=by
 refine cL Tryz.func137 Tryz.ntmps137 (En (Ls (Lg [0,1] (Dz (hG (aD.cells m) hs λu w2 a4=>Lo (Dz (hG (aD.cells n) a4 λx w5 a=>Lz (Ls (Lg [24] (Dz (gS 0 6 (Hl 1 1 0 a (Hl 3 0 0 a Hz)) (dB 10 ((m.og:Int) == n.og) (λd=>?_) (λd=>?_)))))))))))))
 ·refine gS 6 7 (Hl 7 1 1 a (Hl 9 0 1 a Hz)) (dB 17 ((m.nr:Int) == n.nr) (λe=>?_) (λe=>?_))
  ·refine Zp 13 4 [(14,.agg (cW.cells m.dp)),(16,.agg (cW.cells n.dp))] [(14,[.prop (Array.size (cW.cells m.dp)=11),.cells ⟨u,2,none⟩ (cW.cells m.dp)]),(16,[.prop (Array.size (cW.cells n.dp)=11),.cells ⟨x,2,none⟩ (cW.cells n.dp)])] (ak (aL zk (eM (a.cells 1 2 rfl zk) aO)) (ak (aL zk (eM (a.cells 0 2 rfl zk) aO)) gQ)) (aU.jO rfl zk (b:=true) (t:=41) (xs:=cW.cells m.dp) (ys:=cW.cells n.dp) (m:=2) zk zk zf zk (r:=decide (m.dp=n.dp)) (lE  (MK m.dp n.dp)) (Zr 18 2 [] (dB 24 (decide (m.dp=n.dp)) (λi=>?_) (λi=>?_))))
   ·refine Zj (fE 21 1 13 76 (aV.cells m.bd) a (fE 23 0 13 76 (aV.cells n.bd) a Hz)) (dE (f:=152) (args:=#[.agg (aV.cells m.bd),.agg (aV.cells n.bd)]) Tryz.call152 (qC m.bd n.bd zc (λw h=>hr1 _ (h.drop 2)) (λw h=>hr2 _ (h.drop 2)) a) ?_)
    rintro a8 a9 ⟨rfl,o⟩
    refine Lo (Dz (Zr 25 2 [] (dB 31 (kP m.bd n.bd) (λq=>?_) (λq=>?_))))
    ·exact Zp 27 4 [(28,.agg (bI.cells m.tg)),(30,.agg (bI.cells n.tg))] [(28,[.prop (Array.size (bI.cells m.tg)=32),.cells ⟨u,89,none⟩ (bI.cells m.tg)]),(30,[.prop (Array.size (bI.cells n.tg)=32),.cells ⟨x,89,none⟩ (bI.cells n.tg)])] (ak (aL zk (eM (o.cells 1 89 rfl zk) aO)) (ak (aL zk (eM (o.cells 0 89 rfl zk) aO)) gQ)) (aU.jO rfl zk (b:=true) (t:=44) (xs:=bI.cells m.tg) (ys:=bI.cells n.tg) (m:=2) zk zk zf zk (r:=decide (m.tg=n.tg)) (lE  (yv m.tg n.tg)) (En (bO (Lt (Le (Dz (bL (v:=.bool (decide (m.tg=n.tg))) (qj (by rw [pV,if_pos d,if_pos e,if_pos i,if_pos q]) (o.dr 2)))))))))
    ·exact En (bO (Lt (Le (Dz (bL (v:=.bool false) (qj (by rw [pV,if_pos d,if_pos e,if_pos i,nI q]) (o.dr 2)))))))
   ·exact En (Lw (gH (En (bO (Lt (Le (Dz (bL (v:=.bool false) (qj (by rw [pV,if_pos d,if_pos e,nI i]) (a.dr 2))))))))))
  ·exact En (Lw (gH (En (bO (Lt (Le (Dz (bL (v:=.bool false) (qj (by rw [pV,if_pos d,nI e]) (a.dr 2))))))))))
 ·exact En (Lw (gH (En (bO (Lt (Le (Dz (bL (v:=.bool false) (qj (by rw [pV,nI d]) (a.dr 2))))))))))
theorem Hh {m n:aD}(h:gM m=gM n):pV m n=true:=by
 unfold gM at h
 simp only [aD.mk.injEq] at h
 obtain⟨a,b,d,e,f⟩:=h
 unfold pV
 simp [a,b,d,uh e,f]
theorem Jz {l l2:List aD}(h:l.map gM=l2.map gM){k:Nat}(h1:k<l.length):gM (l.getD k aJ)=gM (l2.getD k aJ):=by
 have b:l.length=l2.length:=by have:=congrArg List.length h;simpa using this
 have a:(l.map gM)[k]?=(l2.map gM)[k]?:=by rw [h]
 rw [List.getElem?_map,List.getElem?_map,List.getElem?_eq_getElem h1,List.getElem?_eq_getElem za] at a
 rw [List.getD_eq_getElem?_getD,List.getD_eq_getElem?_getD,List.getElem?_eq_getElem h1,List.getElem?_eq_getElem za]
 simpa using a
theorem C4 x y (hxy:x.map gM=y.map gM) (hll:x.length<=1000000) (hmx:∀ k,k<x.length->dw (x.getD k aJ)/\Rw w0 L bS.cells 2 cD (x.getD k aJ).bd.qa (x.getD k aJ).bd.ql) (hmy:∀ k,k<y.length->dw (y.getD k aJ)/\Rw w0 L bS.cells 2 cD (y.getD k aJ).bd.qa (y.getD k aJ).bd.ql) (hr1:Rw w0 L aD.cells 121 aJ ax x) (hr2:Rw w0 L aD.cells 121 aJ ay y) (hs:St w0 L w):Cs Tryz.prog 95 #[.slice ax x.length cx,.slice ay y.length cy] w λrv w'=>rv=.bool true/\St w0 L w':=by
 refine cL Tryz.func95 Tryz.ntmps95 (Zs ?_)
 have hlen:x.length=y.length:=by have:=congrArg List.length hxy;simpa using this
 refine En (La (Lt (Ls (Lq (Dz (cZ (t:=(x.length:Int) != (y.length:Nat)) (λa=>?_) (λa=>?_)))))))
 ·exfalso;have z:=a;simp [hlen] at z
 ·refine En (Lk (Lt (Ls (Lq (Lb (Dz (bH.loop (T:=Nat) (λgg=>[(0,.slice ax x.length cx),(1,.slice ay y.length cy),(5,.int .i64 (gg:Nat))]) (λgg w=>(gg<=x.length)/\St w0 L w) (λgg=>x.length-gg) 0 [0,1,5] zk ⟨Nat.zero_le _,hs⟩ ?_)))))))
  rintro k w2 ⟨hp,b⟩
  refine En (Ls (Lq (Dz (Zi ((k:Int)<(x.length:Nat)) (λa0=>?_) (λa0=>?_)))))
  ·have hk:k<x.length:=za
   have a1:k<y.length:=za
   obtain⟨f,i,rfl⟩:=aB.isSome (hr1 _ (b.drop 0)) za
   obtain⟨o,q,rfl⟩:=aB.isSome (hr2 _ (b.drop 0)) za
   refine Zk (Zt (Zs (Zb (Zs (ZD (eR [0,1,2,3,4,5,6,7] (.ef 8 (.rd 9 .done))) b λa4 e a5=>Zj (Hx 2 (k:Int) (x.length:Int) f i 121 (Hg 3 (.agg (aD.cells (x.getD k aJ))) [.prop (Array.size (aD.cells (x.getD k aJ))=121),.cells ⟨f,i+(k*121),none⟩ (aD.cells (x.getD k aJ))] (aL zk (eM (aB.iJ (hr1 _ (e.drop 0)) zo (Nat.le_of_ble_eq_true zk) zk) aO)) (Hx 6 (k:Int) (y.length:Int) o q 121 (Hg 7 (.agg (aD.cells (y.getD k aJ))) [.prop (Array.size (aD.cells (y.getD k aJ))=121),.cells ⟨o,q+(k*121),none⟩ (aD.cells (y.getD k aJ))] (aL zk (eM (aB.iJ (hr2 _ (e.drop 0)) zo (Nat.le_of_ble_eq_true zk) zk) aO)) Hz)))) (eE (EF (x.getD k aJ) (y.getD k aJ) (hmx k hk).1.bd.qn (λw h=>(hmx k hk).2 w (h.drop 0)) (λw h=>(hmy k a1).2 w (h.drop 0)) e) λa7 a2=>Lz (Dz (cZ (t:=!(pV (x.getD k aJ) (y.getD k aJ))) (λd=>?_) (λd=>?_)))))))))
   ·exact absurd d (by rw [Hh (Jz hxy hk)];decide)
   ·exact Zk (Zm (Zt (cS (dW 1 ((k:Nat)+1) Hz) (aN.back (k+1) [0,1,5] zk (by show x.length-(k+1)<x.length-k;omega) ⟨za,a2⟩))))
  ·exact En (Lx (kD (kE (Lh (Lt (Lq (Le (Dz (bL (v:=.bool true) ⟨rfl,b⟩)))))))))
theorem KU {a b:aX}(h:qO a=qO b):a.ct=b.ct/\a.sl=b.sl/\a.ml.map gM=b.ml.map gM:=by
 unfold qO at h
 simp only [aX.mk.injEq] at h
 exact⟨h.1,h.2.2.2.1,h.2.2.2.2.2.2⟩
theorem C5 (a:aX) (b:aX) (hab:qO a=qO b) (hll:a.ml.length<=1000000) (hmx:∀ k,k<a.ml.length->dw (a.ml.getD k aJ)/\Rw w0 L bS.cells 2 cD (a.ml.getD k aJ).bd.qa (a.ml.getD k aJ).bd.ql) (hmy:∀ k,k<b.ml.length->dw (b.ml.getD k aJ)/\Rw w0 L bS.cells 2 cD (b.ml.getD k aJ).bd.qa (b.ml.getD k aJ).bd.ql) (hsa:a.sa=none->a.sc=0) (hsb:b.sa=none->b.sc=0) (hba:∀ z∈a.sl,0<=z/\z<256) (hsz:a.sl.length<=1000000000) (hr1:Rw w0 L aD.cells 121 aJ a.ma a.ml) (hr2:Rw w0 L aA 1 0 a.sa a.sl) (hr3:Rw w0 L aD.cells 121 aJ b.ma b.ml) (hr4:Rw w0 L aA 1 0 b.sa b.sl) (hs:St w0 L w):Cs Tryz.prog 37 #[.agg (aX.cells a),.agg (aX.cells b)] w λrv w'=>rv=.bool true/\St w0 L w':=by
 refine cL Tryz.func37 Tryz.ntmps37 (Zs ?_)
 obtain⟨u,i,x⟩:=KU hab
 have e4:b.sl.length<=1000000000:=by rw [<- i];exact hsz
 refine Zg [0,1] (hG (aX.cells a) hs λb1 w2 a0=>Lo (Dz (hG (aX.cells b) a0 λb4 w5 d=>Lz (Ls (Lg [19] (Dz (gS 0 6 (Hl 1 1 0 d (Hl 3 0 0 d Hz)) (dB 10 ((a.ct:Int) == b.ct) (λo=>?_) (λo=>?_)))))))))
 ·refine gS 6 2 (Hl 7 1 1 d Hz) (aU.fT rfl zk (src:=25) (dst:=9) (e:=5) (ad:=a.sa) (n:=a.sl.length) (cap:=a.sc) (f:=aA) rfl a.sl rfl zk zk zk zk hba (hr2 _ (d.drop 2)) (gS 9 2 (Hl 10 0 1 d Hz) (aU.fT rfl zk (src:=25) (dst:=9) (e:=5) (ad:=b.sa) (n:=b.sl.length) (cap:=b.sc) (f:=aA) rfl b.sl rfl zk zk zk zk (by rw [<- i];exact hba) (hr4 _ (d.drop 2)) (Zp 12 3 [(12,.eJ (.bool (decide ((strOf a.sl)=(strOf b.sl)))) (.gen []))] [(12,[.prop (Value.bool ((strOf a.sl).toList == (strOf b.sl).toList)=Value.bool (decide ((strOf a.sl)=(strOf b.sl))))])] (ak (aL (seq _ _) aO) gQ) (dB 19 (decide ((strOf a.sl)=(strOf b.sl))) (λq=>?_) (λq=>?_))))))
  ·refine Zj (Hl 16 1 2 d (Hl 18 0 2 d Hz)) (dE (f:=95) (args:=#[.slice a.ma a.ml.length a.mc,.slice b.ma b.ml.length b.mc]) Tryz.call95 (C4 a.ml b.ml x zc (λk hk=>⟨(hmx k hk).1,λw h=>(hmx k hk).2 w (h.drop 2)⟩) (λk hk=>⟨(hmy k hk).1,λw h=>(hmy k hk).2 w (h.drop 2)⟩) (λw h=>hr1 _ (h.drop 2)) (λw h=>hr3 _ (h.drop 2)) d) ?_)
   rintro a5 a6 ⟨rfl,a3⟩
   exact Lz (Le (Dz (bL (v:=.bool true) ⟨rfl,a3.dr 2⟩)))
  ·exact absurd q (by simp [u,i])
 ·exact absurd o (by simp [u,i])
theorem sH (a:aX) (b:aX) (hab:qO a=qO b) (hll:a.ml.length<=1000000) (hmx:∀ k,k<a.ml.length->dw (a.ml.getD k aJ)/\Rw w0 L bS.cells 2 cD (a.ml.getD k aJ).bd.qa (a.ml.getD k aJ).bd.ql) (hmy:∀ k,k<b.ml.length->dw (b.ml.getD k aJ)/\Rw w0 L bS.cells 2 cD (b.ml.getD k aJ).bd.qa (b.ml.getD k aJ).bd.ql) (hsa:a.sa=none->a.sc=0) (hsb:b.sa=none->b.sc=0) (hba:∀ z∈a.sl,0<=z/\z<256) (hsz:a.sl.length<=1000000000) (hr1:Rw w0 L aD.cells 121 aJ a.ma a.ml) (hr2:Rw w0 L aA 1 0 a.sa a.sl) (hr3:Rw w0 L aD.cells 121 aJ b.ma b.ml) (hr4:Rw w0 L aA 1 0 b.sa b.sl) (hs:St w0 L w):Cs Tryz.prog 9 #[.agg (aX.cells a),.agg (aX.cells b)] w λrv w'=>rv=.bool true/\St w0 L w':=by
 exact cL Tryz.func9 Tryz.ntmps9 (En (Ls (Lg [0,1] (Dz (hG (aX.cells a) hs λo q e=>Lo (Dz (hG (aX.cells b) e λu x d=>Lz (Ls (Dz (bX [2] (fE 0 1 0 3 (aX.cells a) d (fE 1 0 0 3 (aX.cells b) d Hz)) (eE (C5 a b zc zc (λk hk=>⟨(hmx k hk).1,λw h=>(hmx k hk).2 w (h.drop 2)⟩) (λk hk=>⟨(hmy k hk).1,λw h=>(hmy k hk).2 w (h.drop 2)⟩) zc zc zc zc (λw h=>hr1 _ (h.drop 2)) (λw h=>hr2 _ (h.drop 2)) (λw h=>hr3 _ (h.drop 2)) (λw h=>hr4 _ (h.drop 2)) d) λw9 f=>Lz (Le (Dz (bL (v:=.bool true) ⟨rfl,f.dr 2⟩))))))))))))))
end
section
variable {w0 w : World} {L : List cA}
def gR (m:aD):aD:=if dN m=true then ⟨m.og,m.nr,m.dp,m.bd,nD m.og m.nr (kX m)⟩ else m
theorem FC (m:aD):(gR m).bd=m.bd:=by unfold gR;split<;>rfl
theorem Bv {m:aD}(h:dw m):dw (gR m):=by
 unfold gR
 split
 ·exact⟨h.og,h.nr,h.dp,h.bd,Ct _ _ _⟩
 ·exact h
theorem FD (m:aD) (t:bI):dN ⟨m.og,m.nr,m.dp,m.bd,t⟩=dN m:=rfl
theorem Mm (m:aD) (t:bI):kX ⟨m.og,m.nr,m.dp,m.bd,t⟩=kX m:=rfl
theorem EG {m:aD}(h:dN m=true):eY (gR m)=true:=by
 have e:gR m=⟨m.og,m.nr,m.dp,m.bd,nD m.og m.nr (kX m)⟩:=if_pos h
 generalize hn:nD m.og m.nr (kX m)=t at e
 rw [e]
 unfold eY
 rw [FD,h,if_pos rfl,Mm]
 exact decide_eq_true hn.symm
theorem xH {row:List bE}(h:gE row) (k:Nat):(cE (bB (row.take k)).1 (cU (bB (row.take k)).2)).length<=90000:=by
 have:=nH h k
 simp only [jB,List.length_append] at this
 omega
theorem nJ m (hm:dw m) (hr:Rw w0 L bS.cells 2 cD m.bd.qa m.bd.ql) (hs:St w0 L w):Cs Tryz.prog 21 #[.agg (aD.cells m)] w λrv w'=>rv=.agg (aD.cells (gR m))/\St w0 L w':=by
 refine cL Tryz.func21 Tryz.ntmps21 (En (Ls (Lg [0,1] (Dz (hG (aD.cells m) hs λi w2 a0=>Lo (Dz (eN (aD.cells aJ) a0 λb4 w5 o=>Lo (Ld (Lt (Ls (Ls (Dz (bX [1] (fE 0 1 0 121 (aD.cells m) o Hz) (dE (f:=58) (args:=#[.agg (aD.cells m)]) Tryz.call58 (nM m zc (λw h=>hr _ (h.drop 2)) o) ?_))))))))))))))
 rintro v8 w9 ⟨rfl,e⟩
 refine Lo (Ld (Lt (Dz (cZ (t:=dN m) (λa=>?_) (λa=>?_)))))
 ·have hmt:=pf a
  have htl:=gA a
  have htb:∀ z∈kX m,0<=z/\z<256:=tj hm
  have hby:jU m=kX m:=if_pos a
  have hbl:(jU m).length<=1024:=by rw [hby];omega
  refine ZD (eR [0,1,2,3,4] (.ef 5 (.ef 6 (.rd 7 (.ef 8 .done))))) e λa6 b a7=>Zj (Hl 1 1 0 b (Hl 3 1 1 b (fE 4 1 0 121 (aD.cells m) b Hz))) (dE (f:=77) (args:=#[.agg (aD.cells m)]) Tryz.call77 (oz m zc (λw h=>hr _ (h.drop 2)) b) ?_)
  rintro a8 a9 ⟨a1,a2,rfl,d⟩
  refine⟨fM (n:=[.cell ⟨i,1,none⟩ (.int .u64 m.nr),.cell ⟨i,0,none⟩ (.int .i64 m.og)]) zk (bP (d.cell 2 rfl zk) (bP (d.cell 2 rfl zk) aO)),dE (f:=76) (args:=#[.int .i64 m.og,.int .u64 m.nr,.slice a1 ((jU m).length) a2]) Tryz.call76 (wS m.og m.nr (jU m) za za zc za (d.dI 0 rfl) (by rw [hby];exact htb) (λw h=>h.rows 0 rfl aF.size _) d) ?_⟩
  rintro b0 b2 ⟨rfl,a3⟩
  exact Lo (Lw (Zu 2 89 (aD.cells (⟨m.og,m.nr,m.dp,m.bd,nD m.og m.nr (jU m)⟩:aD)) a3 λb3 q=>Lo (Ld (Lt (Ls (Dz (bX [1] (fE 0 2 0 121 (aD.cells (⟨m.og,m.nr,m.dp,m.bd,nD m.og m.nr (jU m)⟩:aD)) q Hz) (Zu 1 0 (aD.cells (⟨m.og,m.nr,m.dp,m.bd,nD m.og m.nr (jU m)⟩:aD)) q λb5 u=>Lo (Ld (Lt (Le (Dz (mJ 1 u ⟨(by unfold gR;rw [if_pos a,<- hby]),u.dr 3⟩)))))))))))))
 ·exact Zk (Zt (Zs (bX [1] (fE 0 1 0 121 (aD.cells m) e Hz) (Zu 0 0 (aD.cells m) e λb6 x=>Lo (Ld (Lt (Le (Dz (mJ 0 x ⟨(by unfold gR;rw [if_neg (by rw [a];decide)]),x.dr 2⟩)))))))))
theorem xI {p:Nat}{q:Nat}{ad:Option Addr}{c:Nat}(tl:List aG) (l:List aH) cnt (h8:tl.length=8) (hT:∀ x∈tl,Ab x) (hl6:l.length<=64) (iT:∀ x∈l,vj x) (hc:0<=cnt/\cnt<=18446744073709551615) (hbs:(cE tl l).length<=90000) (hs:St w0 (aC p (eI #[zP q 0] aG.cells tl #[.int .u64 cnt]) 105::aC q #[.slice ad l.length c] 144::Sl ad c 132 2 aH.cells l::L) w):Cs Tryz.prog 27 #[zP p 0] w λrv w'=>rv=.agg (bI.cells (cY (wd cnt++cE tl l)))/\St w0 (aC p (eI #[zP q 0] aG.cells tl #[.int .u64 cnt]) 105::aC q #[.slice ad l.length c] 144::Sl ad c 132 2 aH.cells l::L) w':=by
 refine cL Tryz.func27 Tryz.ntmps27 (En (Ls (Lg [0] (Dz (eN (bI.cells aK) hs λu w2 d=>Lo (Ld (Lt (Ls (Lg [1,2,3] (Lw (Zc (sf tl l cnt zc zc zc zc zc (((d.pl 3).pl 3).pl 3)) ?_)))))))))))
 rintro v8 w9 ⟨a0,a1,rfl,a⟩
 refine Lo (Dz (eE (sG (wd cnt++cE tl l) (by rw [List.length_append,aZ];omega) (a.dI 0 rfl) (λz hz=>(List.mem_append.1 hz).elim (uC _ z) (CT _ _ z)) (λw h=>h.rows 0 rfl aF.size _) a) λa3 f=>Lo (Dz (Zu 4 0 (bI.cells (cY (wd cnt++cE tl l))) f λa4 b=>Lo (Ld (Lt (Le (Dz (mJ 4 b ?_)))))))))
 have i:=((((b.pl 3).pl 3).pl 3).pl 4).pl 4
 exact⟨rfl,i.dr 2⟩
structure vB where
 og:Int
 k:Int
 fa:Bool
def vB.cells (x:vB):Array Value:=#[.int .u8 x.og,.int .u8 x.k,.bool x.fa]
abbrev cR:vB:=⟨0,0,false⟩
theorem NI:gX vB.cells 3:=⟨λ_=>rfl,λ_=>rfl⟩
def mY (k:Nat) (v:Int):cW:=Vector.ofFn λi=>if i.val=k then v else 0
theorem M3 {og nr:Int}{bd:aV}{tg:bI}(v:Int){k:Nat}(hk:k<11):bZ (aD.cells ⟨og,nr,qk,bd,tg⟩) (2+k) [.int .u64 v]=aD.cells ⟨og,nr,mY k v,bd,tg⟩ :=
 match k,hk with
 | 0,_=>by kernel_rfl
 | 1,_=>by kernel_rfl
 | 2,_=>by kernel_rfl
 | 3,_=>by kernel_rfl
 | 4,_=>by kernel_rfl
 | 5,_=>by kernel_rfl
 | 6,_=>by kernel_rfl
 | 7,_=>by kernel_rfl
 | 8,_=>by kernel_rfl
 | 9,_=>by kernel_rfl
 | 10,_=>by kernel_rfl
 | n+11,h=>by omega
theorem JA {k:Nat}{v:Int}(h:0<=v/\v<=18446744073709551615):∀ x∈(mY k v).toList,0<=x/\x<=18446744073709551615:=by
 intro x hx
 rw [mY,Vector.toList_ofFn,List.mem_ofFn] at hx
 obtain⟨i,rfl⟩:=hx
 split
 ·exact h
 ·decide
theorem Bw {o n kk v:Int}{j:Nat}{d:bI}(ho:1<=o/\o<=11) (hn:0<=n/\n<=18446744073709551615) (hv:0<=v/\v<=18446744073709551615) (hk:0<=kk/\kk<=18446744073709551615) (hd:∀ z∈d.toList,0<=z/\z<256):dw ⟨o,n,mY j v,⟨6,0,kk,cN,none,0,[],d⟩,aK⟩:=⟨by dsimp only;omega,hn,JA hv,⟨by dsimp only;omega,by dsimp only;omega,hk,fZ,(λp hp=>by cases hp),hd,Nat.zero_le _⟩,cO⟩
theorem FE {m:aD}(h:dw m) (h1:m.bd.qa=none) (h2:m.bd.ql=[]):dw (gR m)/\(gR m).bd.qa=none/\(gR m).bd.ql=[]:=by
 rw [FC]
 exact⟨Bv h,h1,h2⟩
theorem FF {l:List Int}{k:Nat}{v b:Int}(h:∀ x∈l,0<=x/\x<=b) (hv:0<=v/\v<=b+1):∀ x∈l.set k v,0<=x/\x<=b+1:=λx hx=>(List.mem_or_eq_of_mem_set hx).elim (λh1=>⟨(h x h1).1,by have:=(h x h1).2;omega⟩) (λh1=>h1▸hv)
theorem Hi {adr:Option Addr}{cr:Nat}{ads:Option Addr}{cs:Nat}(row:List bE) (l:List vB) (hT:gE row) (hrl:row.length<=1000) (hl:l.length<=1000) (hsr:∀ x∈l,(0<=x.og/\x.og<=255)/\0<=x.k/\x.k<=255) (hr1:Rw w0 L bE.cells 40 iH adr row) (hr2:Rw w0 L vB.cells 3 cR ads l) (hs:St w0 L w):Cs Tryz.prog 6 #[.slice adr row.length cr,.slice ads l.length cs] w λrv w'=>∃ ao co ol,rv=.slice ao ol.length co/\ol.length=l.length/\(∀ m∈ol,dw m/\m.bd.qa=none/\m.bd.ql=[])/\St w0 (Sl ao co 51 121 aD.cells ol::L) w':=by
 refine cL Tryz.func6 Tryz.ntmps6 (En (Lq (Lq (Ls (Lg [0] (Dz (eN #[.int .u64 0,.int .u64 0,.int .u64 0,.int .u64 0,.int .u64 0,.int .u64 0,.int .u64 0,.int .u64 0,.int .u64 0,.int .u64 0,.int .u64 0] hs λa w2 b4=>Lo (Ld (Lt (Ls (Lq (Lb (Dz ?_)))))))))))))
 have b5:=St.bJ b4 51 121 aD.cells
 have b6:St w0 (Sl none 0 51 121 aD.cells ([]:List aD)::aC a (af pa (List.replicate 11 (0:Int))) 40::L) w2:=Eq.mp zk b5
 refine bH.loop (T:=Nat×(List aD)×(List Int)×(Option Addr)×Nat) (λgg=>[(0,.slice adr row.length cr),(1,.slice ads l.length cs),(4,.slice none 0 0),(5,.slice gg.2.2.2.1 gg.2.1.length gg.2.2.2.2),(6,zP a 0),(7,.int .i64 (gg.1:Nat))]) (λgg w=>(gg.1<=l.length/\gg.2.1.length=gg.1/\(∀ m∈gg.2.1,dw m/\m.bd.qa=none/\m.bd.ql=[])/\gg.2.2.1.length=11/\∀ x∈gg.2.2.1,0<=x/\x<=(gg.1:Nat))/\St w0 (Sl gg.2.2.2.1 gg.2.2.2.2 51 121 aD.cells gg.2.1::aC a (af pa gg.2.2.1) 40::L) w) (λgg=>l.length-gg.1) (0,([]:List aD),List.replicate 11 (0:Int),none,0) [0,1,4,5,6,7] zk ⟨⟨Nat.zero_le _,rfl,(λm hm=>by cases hm),rfl,zf⟩,b6⟩ ?_
 rintro⟨ii,ol,mn,i,o⟩ w6 ⟨hp,a1⟩
 dsimp only at hp a1
 refine En (Ls (Lq (Dz (Zi ((ii:Int)<(l.length:Nat)) (λb7=>?_) (λb7=>?_)))))
 ·have hk:ii<l.length:=za
  have f1:=hsr _ (bC (d:=cR) hk)
  have hmn:=hp.2.2.2.1
  have hKl:(Int.toNat ((1+(((l.getD ii cR).og) % 11))-1))<mn.length:=za
  have hK:=hp.2.2.2.2 _ (bC (d:=(0:Int)) hKl)
  obtain⟨u,a0,rfl⟩:=aB.isSome (hr2 _ (a1.drop 2)) za
  refine Zk (Zt (Zs (Zb (Zs (cS (Hx 2 (ii:Int) (l.length:Int) u a0 3 (Hg 4 (.gen [.int .u8 ((l.getD ii cR).og)]) [.cell ⟨u,a0+(ii*3),none⟩ (.int .u8 ((l.getD ii cR).og))] (bP (aB.dX (hr2 _ (a1.drop 2)) (k:=ii) zo (j:=0) zf zk) aO) (dW 5 ((l.getD ii cR).og) (Hg 6 (.div (((l.getD ii cR).og) % 11)) [.prop (IntKind.i64=IntKind.i64/\(11:Int)≠0/\Int.tmod ((l.getD ii cR).og) 11=((l.getD ii cR).og) % 11)] (aL ⟨rfl,zf,Int.tmod_eq_emod_of_nonneg (by first|omega|exact Int.natCast_nonneg _)⟩ aO) (dW 7 (1+(((l.getD ii cR).og) % 11)) Hz))))) (Zt (Zs (cS (Hx 2 (ii:Int) (l.length:Int) u a0 3 (Hg 4 (.gen [.int .u8 ((l.getD ii cR).k)]) [.cell ⟨u,a0+(ii*3)+1,none⟩ (.int .u8 ((l.getD ii cR).k))] (bP (aB.dX (hr2 _ (a1.drop 2)) (k:=ii) zo (j:=1) zf zk) aO) (dW 5 ((l.getD ii cR).k) (Hg 6 (.div (((l.getD ii cR).k) % 6)) [.prop (IntKind.i64=IntKind.i64/\(6:Int)≠0/\Int.tmod ((l.getD ii cR).k) 6=((l.getD ii cR).k) % 6)] (aL ⟨rfl,zf,Int.tmod_eq_emod_of_nonneg (by first|omega|exact Int.natCast_nonneg _)⟩ aO) (dW 7 (1+(((l.getD ii cR).k) % 6)) (dW 8 (4*(1+(((l.getD ii cR).k) % 6))) Hz)))))) (Zt (Zs (bX [10,11] (dW 2 ((1+(((l.getD ii cR).og) % 11))-1) (Hx 3 (((1+(((l.getD ii cR).og) % 11))-1):Int) (11:Int) a 0 1 (Hg 4 (.gen [.int .u64 (mn.getD (Int.toNat ((1+(((l.getD ii cR).og) % 11))-1)) (0:Int))]) [.cell ⟨a,0+((Int.toNat ((1+(((l.getD ii cR).og) % 11))-1))*1),none⟩ (.int .u64 (mn.getD (Int.toNat ((1+(((l.getD ii cR).og) % 11))-1)) (0:Int)))] (bP (aB.dX (aI a1 1 rfl B0.size (0:Int)) (k:=Int.toNat ((1+(((l.getD ii cR).og) % 11))-1)) zo (j:=0) zf zk) aO) (tP 5 ((mn.getD (Int.toNat ((1+(((l.getD ii cR).og) % 11))-1)) (0:Int))+1) (tP 7 (4*(1+(((l.getD ii cR).k) % 6))) Hz))))) (eN (aD.cells aJ) a1 λq f2 b8=>Lo (Dz (Zu 0 0 (aD.cells (⟨1+(((l.getD ii cR).og) % 11),(mn.getD (Int.toNat ((1+(((l.getD ii cR).og) % 11))-1)) (0:Int))+1,qk,(⟨6,0,4*(1+(((l.getD ii cR).k) % 6)),cN,none,0,[],aK⟩:aV),aK⟩:aD)) b8 λf3 a7=>Lo (Ld (Lt (Ls (Dz (bX [8] (dW 1 ((1+(((l.getD ii cR).og) % 11))-1) (dW 3 ((1+(((l.getD ii cR).og) % 11))-1) (Hx 4 (((1+(((l.getD ii cR).og) % 11))-1):Int) (11:Int) a 0 1 (Hg 5 (.gen [.int .u64 (mn.getD (Int.toNat ((1+(((l.getD ii cR).og) % 11))-1)) (0:Int))]) [.cell ⟨a,0+((Int.toNat ((1+(((l.getD ii cR).og) % 11))-1))*1),none⟩ (.int .u64 (mn.getD (Int.toNat ((1+(((l.getD ii cR).og) % 11))-1)) (0:Int)))] (bP (aB.dX (aI a7 2 rfl B0.size (0:Int)) (k:=Int.toNat ((1+(((l.getD ii cR).og) % 11))-1)) zo (j:=0) zf zk) aO) (Hx 7 (((1+(((l.getD ii cR).og) % 11))-1):Int) (11:Int) q 2 1 Hz))))) (aU.store rfl rfl zk (b:=q) (off:=2+((Int.toNat ((1+(((l.getD ii cR).og) % 11))-1))*1)) (v:=.int .u64 (mn.getD (Int.toNat ((1+(((l.getD ii cR).og) % 11))-1)) (0:Int))) zk zk (ti:=Tryz.t29) zk a7 0 rfl zk zk (by show 2+((Int.toNat ((1+(((l.getD ii cR).og) % 11))-1))*1)+1<=121;omega) (cs':=aD.cells (⟨1+(((l.getD ii cR).og) % 11),(mn.getD (Int.toNat ((1+(((l.getD ii cR).og) % 11))-1)) (0:Int))+1,mY (Int.toNat ((1+(((l.getD ii cR).og) % 11))-1)) (mn.getD (Int.toNat ((1+(((l.getD ii cR).og) % 11))-1)) (0:Int)),(⟨6,0,4*(1+(((l.getD ii cR).k) % 6)),cN,none,0,[],aK⟩:aV),aK⟩:aD)) (L':=(aC q (aD.cells (⟨1+(((l.getD ii cR).og) % 11),(mn.getD (Int.toNat ((1+(((l.getD ii cR).og) % 11))-1)) (0:Int))+1,mY (Int.toNat ((1+(((l.getD ii cR).og) % 11))-1)) (mn.getD (Int.toNat ((1+(((l.getD ii cR).og) % 11))-1)) (0:Int)),(⟨6,0,4*(1+(((l.getD ii cR).k) % 6)),cN,none,0,[],aK⟩:aV),aK⟩:aD)) 51)::Sl i o 51 121 aD.cells ol::aC a (af pa mn) 40::L) (by rw [Nat.mul_one];exact M3 _ za) rfl λf4 a8=>Lo (Ld (Lt (Ls (Dz (bX [6] (dW 1 ((1+(((l.getD ii cR).og) % 11))-1) (Hx 2 (((1+(((l.getD ii cR).og) % 11))-1):Int) (11:Int) a 0 1 (Hg 3 (.gen [.int .u64 (mn.getD (Int.toNat ((1+(((l.getD ii cR).og) % 11))-1)) (0:Int))]) [.cell ⟨a,0+((Int.toNat ((1+(((l.getD ii cR).og) % 11))-1))*1),none⟩ (.int .u64 (mn.getD (Int.toNat ((1+(((l.getD ii cR).og) % 11))-1)) (0:Int)))] (bP (aB.dX (aI a8 2 rfl B0.size (0:Int)) (k:=Int.toNat ((1+(((l.getD ii cR).og) % 11))-1)) zo (j:=0) zf zk) aO) (tP 4 ((mn.getD (Int.toNat ((1+(((l.getD ii cR).og) % 11))-1)) (0:Int))+1) (Hx 5 (((1+(((l.getD ii cR).og) % 11))-1):Int) (11:Int) a 0 1 Hz))))) (aU.store rfl rfl zk (b:=a) (off:=0+((Int.toNat ((1+(((l.getD ii cR).og) % 11))-1))*1)) (v:=.int .u64 ((mn.getD (Int.toNat ((1+(((l.getD ii cR).og) % 11))-1)) (0:Int))+1)) zk zk (ti:=Tryz.t29) zk a8 2 rfl zk zk (by rw [Nat.zero_add];exact fN (f:=pa) (size:=1) (l:=mn) (k:=Int.toNat ((1+(((l.getD ii cR).og) % 11))-1)) B0.size zo) (cs':=af pa (mn.set (Int.toNat ((1+(((l.getD ii cR).og) % 11))-1)) ((mn.getD (Int.toNat ((1+(((l.getD ii cR).og) % 11))-1)) (0:Int))+1))) (L':=(aC q (aD.cells (⟨1+(((l.getD ii cR).og) % 11),(mn.getD (Int.toNat ((1+(((l.getD ii cR).og) % 11))-1)) (0:Int))+1,mY (Int.toNat ((1+(((l.getD ii cR).og) % 11))-1)) (mn.getD (Int.toNat ((1+(((l.getD ii cR).og) % 11))-1)) (0:Int)),(⟨6,0,4*(1+(((l.getD ii cR).k) % 6)),cN,none,0,[],aK⟩:aV),aK⟩:aD)) 51)::Sl i o 51 121 aD.cells ol::aC a (af pa (mn.set (Int.toNat ((1+(((l.getD ii cR).og) % 11))-1)) ((mn.getD (Int.toNat ((1+(((l.getD ii cR).og) % 11))-1)) (0:Int))+1))) 40::L) (by rw [Nat.zero_add];exact eT (f:=pa) (size:=1) (l:=mn) (k:=Int.toNat ((1+(((l.getD ii cR).og) % 11))-1)) B0.size zo ((mn.getD (Int.toNat ((1+(((l.getD ii cR).og) % 11))-1)) (0:Int))+1)) rfl λf5 a4=>Lo (Ld (Lt (Ls (Ls (Dz (bH.join (T:=Unit) (E:=λ_=>[(69,.bool ((decide ((4*(1+(((l.getD ii cR).k) % 6)):Int)<=(row.length:Nat))) && (!((l.getD ii cR).fa)))),(10,zP q 0),(9,.int .i64 (4*(1+(((l.getD ii cR).k) % 6)))),(0,.slice adr row.length cr),(1,zL u a0 l.length cs),(4,.slice none 0 0),(5,.slice i ol.length o),(6,zP a 0),(7,.int .i64 (ii:Nat))]) (F:=λ_ w=>St w0 (aC q (aD.cells (⟨1+(((l.getD ii cR).og) % 11),(mn.getD (Int.toNat ((1+(((l.getD ii cR).og) % 11))-1)) (0:Int))+1,mY (Int.toNat ((1+(((l.getD ii cR).og) % 11))-1)) (mn.getD (Int.toNat ((1+(((l.getD ii cR).og) % 11))-1)) (0:Int)),(⟨6,0,4*(1+(((l.getD ii cR).k) % 6)),cN,none,0,[],aK⟩:aV),aK⟩:aD)) 51::Sl i o 51 121 aD.cells ol::aC a (af pa (mn.set (Int.toNat ((1+(((l.getD ii cR).og) % 11))-1)) ((mn.getD (Int.toNat ((1+(((l.getD ii cR).og) % 11))-1)) (0:Int))+1))) 40::L) w) ?_ ?_))))))))))))))))))))))))))))))))
  ·refine Zg [] (Zr 0 5 [] (dB 62 (decide ((4*(1+(((l.getD ii cR).k) % 6)):Int)<=(row.length:Nat))) (λa2=>?_) (λa2=>?_)))
   ·exact lD (Hx 7 (ii:Int) (l.length:Int) u a0 3 (Hg 9 (.gen [.bool ((l.getD ii cR).fa)]) [.cell ⟨u,a0+(ii*3)+2,none⟩ (.bool ((l.getD ii cR).fa))] (bP (aB.dX (hr2 _ (a4.drop 3)) (k:=ii) zo (j:=2) zf zk) aO) Hz)) (aN.pick [69,10,9,0,1,4,5,6,7] (S':=[(69,.bool (!((l.getD ii cR).fa))),(10,zP q 0),(9,.int .i64 (4*(1+(((l.getD ii cR).k) % 6)))),(0,.slice adr row.length cr),(1,zL u a0 l.length cs),(4,.slice none 0 0),(5,.slice i ol.length o),(6,zP a 0),(7,.int .i64 (ii:Nat))]) zk (aN.eZ () (by first|rfl|(simp only [a2,Bool.not_true,Bool.not_false,Bool.true_or,Bool.false_or,Bool.true_and,Bool.false_and,Bool.or_true,Bool.or_false,Bool.and_true,Bool.and_false];done)|(simp [a2];done)) a4))
   ·exact En (bO (Dz (aN.pick [69,10,9,0,1,4,5,6,7] (S':=[(69,.bool false),(10,zP q 0),(9,.int .i64 (4*(1+(((l.getD ii cR).k) % 6)))),(0,.slice adr row.length cr),(1,zL u a0 l.length cs),(4,.slice none 0 0),(5,.slice i ol.length o),(6,zP a 0),(7,.int .i64 (ii:Nat))]) zk (aN.eZ () (by first|rfl|(simp only [a2,Bool.not_true,Bool.not_false,Bool.true_or,Bool.false_or,Bool.true_and,Bool.false_and,Bool.or_true,Bool.or_false,Bool.and_true,Bool.and_false];done)|(simp [a2];done)) a4))))
  intro _ f6 a5
  refine Zt (cZ (t:=(decide ((4*(1+(((l.getD ii cR).k) % 6)):Int)<=(row.length:Nat))) && (!((l.getD ii cR).fa))) (λa3=>?_) (λa3=>?_))
  ·have c0:=(Bool.and_eq_true_iff.1 a3).1
   have c1:(!((l.getD ii cR).fa))=true:=(Bool.and_eq_true_iff.1 a3).2
   obtain⟨kq,hkq⟩:∃ n:Nat,4*(1+(((l.getD ii cR).k) % 6))=(n:Int):=⟨Int.toNat (4*(1+(((l.getD ii cR).k) % 6))),za⟩
   have hkl:kq<=row.length:=by have h0:=of_decide_eq_true (Bool.and_eq_true_iff.1 a3).1;omega
   refine Zn [(69,.bool ((decide ((4*(1+(((l.getD ii cR).k) % 6)):Int)<=(row.length:Nat))) && (!((l.getD ii cR).fa)))),(10,zP q 0),(9,.int .i64 (4*(1+(((l.getD ii cR).k) % 6)))),(0,.slice adr row.length cr),(1,zL u a0 l.length cs),(4,.slice none 0 0),(5,.slice i ol.length o),(6,zP a 0),(7,.int .i64 (ii:Nat))] (bH.fK (S':=[(69,.bool ((decide ((4*(1+(((l.getD ii cR).k) % 6)):Int)<=(row.length:Nat))) && (!((l.getD ii cR).fa)))),(10,zP q 0),(9,.int .i64 (kq:Nat)),(0,.slice adr row.length cr),(1,zL u a0 l.length cs),(4,.slice none 0 0),(5,.slice i ol.length o),(6,zP a 0),(7,.int .i64 (ii:Nat))]) (by rw [hkq]) (En (Lg [2,3,6] (Lw (dE (f:=26) (args:=#[.slice adr row.length cr,.int .i64 (kq:Nat)]) Tryz.call26 (vm row kq zc zc zc (λw h=>hr1 _ (h.drop 3)) a5) ?_)))))
   rintro f9 g0 ⟨c2,a9,b0,b2,rfl,c3⟩
   refine Lo (Dz (eE (xI ((bB (row.take kq)).1) (cU (bB (row.take kq)).2) (kq:Nat) (iZ (hT.take _)).len (iZ (hT.take _)).CU (iZ (hT.take _)).BI (iZ (hT.take _)).xB zc (xH hT _) c3) λg7 c4=>Lo (Lw (Zu 3 57 (aD.cells (⟨1+(((l.getD ii cR).og) % 11),(mn.getD (Int.toNat ((1+(((l.getD ii cR).og) % 11))-1)) (0:Int))+1,mY (Int.toNat ((1+(((l.getD ii cR).og) % 11))-1)) (mn.getD (Int.toNat ((1+(((l.getD ii cR).og) % 11))-1)) (0:Int)),(⟨6,0,4*(1+(((l.getD ii cR).k) % 6)),cN,none,0,[],cY (wd (kq:Nat)++cE ((bB (row.take kq)).1) (cU (bB (row.take kq)).2))⟩:aV),aK⟩:aD)) c4 λg8 b3=>Lo (Ld (Lt (Dz (bX [2,3,4] (fE 1 3 0 121 (aD.cells (⟨1+(((l.getD ii cR).og) % 11),(mn.getD (Int.toNat ((1+(((l.getD ii cR).og) % 11))-1)) (0:Int))+1,mY (Int.toNat ((1+(((l.getD ii cR).og) % 11))-1)) (mn.getD (Int.toNat ((1+(((l.getD ii cR).og) % 11))-1)) (0:Int)),(⟨6,0,4*(1+(((l.getD ii cR).k) % 6)),cN,none,0,[],cY (wd (kq:Nat)++cE ((bB (row.take kq)).1) (cU (bB (row.take kq)).2))⟩:aV),aK⟩:aD)) b3 Hz) (eE (nJ (⟨1+(((l.getD ii cR).og) % 11),(mn.getD (Int.toNat ((1+(((l.getD ii cR).og) % 11))-1)) (0:Int))+1,mY (Int.toNat ((1+(((l.getD ii cR).og) % 11))-1)) (mn.getD (Int.toNat ((1+(((l.getD ii cR).og) % 11))-1)) (0:Int)),(⟨6,0,4*(1+(((l.getD ii cR).k) % 6)),cN,none,0,[],cY (wd (kq:Nat)++cE ((bB (row.take kq)).1) (cU (bB (row.take kq)).2))⟩:aV),aK⟩:aD) (Bw za za za za (mU _)) (λ_ _=>aB.nil _ _ _) b3) λh1 c5=>Lo (Dz (aU.cT rfl zk (t:=24) (e:=51) (n:=1) (ps:=[(0,.agg (aD.cells (gR (⟨1+(((l.getD ii cR).og) % 11),(mn.getD (Int.toNat ((1+(((l.getD ii cR).og) % 11))-1)) (0:Int))+1,mY (Int.toNat ((1+(((l.getD ii cR).og) % 11))-1)) (mn.getD (Int.toNat ((1+(((l.getD ii cR).og) % 11))-1)) (0:Int)),(⟨6,0,4*(1+(((l.getD ii cR).k) % 6)),cN,none,0,[],cY (wd (kq:Nat)++cE ((bB (row.take kq)).1) (cU (bB (row.take kq)).2))⟩:aV),aK⟩:aD))))]) zk zk (ti:=Tryz.t51) (z:=.agg (aD.cells aJ)) zk zk zf zf (cs:=aD.cells (gR (⟨1+(((l.getD ii cR).og) % 11),(mn.getD (Int.toNat ((1+(((l.getD ii cR).og) % 11))-1)) (0:Int))+1,mY (Int.toNat ((1+(((l.getD ii cR).og) % 11))-1)) (mn.getD (Int.toNat ((1+(((l.getD ii cR).og) % 11))-1)) (0:Int)),(⟨6,0,4*(1+(((l.getD ii cR).k) % 6)),cN,none,0,[],cY (wd (kq:Nat)++cE ((bB (row.take kq)).1) (cU (bB (row.take kq)).2))⟩:aV),aK⟩:aD))) zk c5 λc6 c7 c8 c9=>?_)))))))))))
   have d0:St w0 (Sl (some ⟨c6,0,none⟩) 1 51 121 aD.cells ([(gR (⟨1+(((l.getD ii cR).og) % 11),(mn.getD (Int.toNat ((1+(((l.getD ii cR).og) % 11))-1)) (0:Int))+1,mY (Int.toNat ((1+(((l.getD ii cR).og) % 11))-1)) (mn.getD (Int.toNat ((1+(((l.getD ii cR).og) % 11))-1)) (0:Int)),(⟨6,0,4*(1+(((l.getD ii cR).k) % 6)),cN,none,0,[],cY (wd (kq:Nat)++cE ((bB (row.take kq)).1) (cU (bB (row.take kq)).2))⟩:aV),aK⟩:aD):aD)])::aC c2 (eI #[zP a9 0] aG.cells ((bB (row.take kq)).1) #[.int .u64 (kq:Nat)]) 105::aC a9 #[.slice b0 ((cU (bB (row.take kq)).2).length) b2] 144::Sl b0 b2 132 2 aH.cells (cU (bB (row.take kq)).2)::aC q (aD.cells (⟨1+(((l.getD ii cR).og) % 11),(mn.getD (Int.toNat ((1+(((l.getD ii cR).og) % 11))-1)) (0:Int))+1,mY (Int.toNat ((1+(((l.getD ii cR).og) % 11))-1)) (mn.getD (Int.toNat ((1+(((l.getD ii cR).og) % 11))-1)) (0:Int)),(⟨6,0,4*(1+(((l.getD ii cR).k) % 6)),cN,none,0,[],cY (wd (kq:Nat)++cE ((bB (row.take kq)).1) (cU (bB (row.take kq)).2))⟩:aV),aK⟩:aD)) 51::Sl i o 51 121 aD.cells ol::aC a (af pa (mn.set (Int.toNat ((1+(((l.getD ii cR).og) % 11))-1)) ((mn.getD (Int.toNat ((1+(((l.getD ii cR).og) % 11))-1)) (0:Int))+1))) 40::L) c7:=St.lS (l:=[(gR (⟨1+(((l.getD ii cR).og) % 11),(mn.getD (Int.toNat ((1+(((l.getD ii cR).og) % 11))-1)) (0:Int))+1,mY (Int.toNat ((1+(((l.getD ii cR).og) % 11))-1)) (mn.getD (Int.toNat ((1+(((l.getD ii cR).og) % 11))-1)) (0:Int)),(⟨6,0,4*(1+(((l.getD ii cR).k) % 6)),cN,none,0,[],cY (wd (kq:Nat)++cE ((bB (row.take kq)).1) (cU (bB (row.take kq)).2))⟩:aV),aK⟩:aD):aD)]) (f:=aD.cells) c8 c9 dJ.size zl zk
   refine Lo (Dz (oV eH dJ aJ (d0.pl 5) zj λd2 d3 h2 d4=>Lo (bO (Lm (Lt (Dz (cS (dW 1 ((ii:Nat)+1) Hz) ?_)))))))
   have d5:=((((((d4.pl 6).pl 1).pl 6).pl 6).pl 6).pl 6).pl 6
   exact aN.back (ii+1,ol++([(gR (⟨1+(((l.getD ii cR).og) % 11),(mn.getD (Int.toNat ((1+(((l.getD ii cR).og) % 11))-1)) (0:Int))+1,mY (Int.toNat ((1+(((l.getD ii cR).og) % 11))-1)) (mn.getD (Int.toNat ((1+(((l.getD ii cR).og) % 11))-1)) (0:Int)),(⟨6,0,4*(1+(((l.getD ii cR).k) % 6)),cN,none,0,[],cY (wd (kq:Nat)++cE ((bB (row.take kq)).1) (cU (bB (row.take kq)).2))⟩:aV),aK⟩:aD):aD)]),mn.set (Int.toNat ((1+(((l.getD ii cR).og) % 11))-1)) ((mn.getD (Int.toNat ((1+(((l.getD ii cR).og) % 11))-1)) (0:Int))+1),d2,d3) [0,1,4,5,6,7] zk (by show l.length-(ii+1)<l.length-ii;omega) ⟨⟨za,by rw [List.length_append,hp.2.1];rfl,(λm hm=>(List.mem_append.1 hm).elim (hp.2.2.1 m) (λa6=>by rw [List.mem_singleton.1 a6];exact FE (Bw za za za za (mU _)) rfl rfl)),(List.length_set ..).trans hp.2.2.2.1,FF hp.2.2.2.2 za⟩,d5.dr 5⟩
  ·refine Zk (Zt (bX [2,3,4] (fE 1 0 0 121 (aD.cells (⟨1+(((l.getD ii cR).og) % 11),(mn.getD (Int.toNat ((1+(((l.getD ii cR).og) % 11))-1)) (0:Int))+1,mY (Int.toNat ((1+(((l.getD ii cR).og) % 11))-1)) (mn.getD (Int.toNat ((1+(((l.getD ii cR).og) % 11))-1)) (0:Int)),(⟨6,0,4*(1+(((l.getD ii cR).k) % 6)),cN,none,0,[],aK⟩:aV),aK⟩:aD)) a5 Hz) (eE (nJ (⟨1+(((l.getD ii cR).og) % 11),(mn.getD (Int.toNat ((1+(((l.getD ii cR).og) % 11))-1)) (0:Int))+1,mY (Int.toNat ((1+(((l.getD ii cR).og) % 11))-1)) (mn.getD (Int.toNat ((1+(((l.getD ii cR).og) % 11))-1)) (0:Int)),(⟨6,0,4*(1+(((l.getD ii cR).k) % 6)),cN,none,0,[],aK⟩:aV),aK⟩:aD) (Bw za za za za cO) (λ_ _=>aB.nil _ _ _) a5) λh4 d7=>Lo (Dz (aU.cT rfl zk (t:=24) (e:=51) (n:=1) (ps:=[(0,.agg (aD.cells (gR (⟨1+(((l.getD ii cR).og) % 11),(mn.getD (Int.toNat ((1+(((l.getD ii cR).og) % 11))-1)) (0:Int))+1,mY (Int.toNat ((1+(((l.getD ii cR).og) % 11))-1)) (mn.getD (Int.toNat ((1+(((l.getD ii cR).og) % 11))-1)) (0:Int)),(⟨6,0,4*(1+(((l.getD ii cR).k) % 6)),cN,none,0,[],aK⟩:aV),aK⟩:aD))))]) zk zk (ti:=Tryz.t51) (z:=.agg (aD.cells aJ)) zk zk zf zf (cs:=aD.cells (gR (⟨1+(((l.getD ii cR).og) % 11),(mn.getD (Int.toNat ((1+(((l.getD ii cR).og) % 11))-1)) (0:Int))+1,mY (Int.toNat ((1+(((l.getD ii cR).og) % 11))-1)) (mn.getD (Int.toNat ((1+(((l.getD ii cR).og) % 11))-1)) (0:Int)),(⟨6,0,4*(1+(((l.getD ii cR).k) % 6)),cN,none,0,[],aK⟩:aV),aK⟩:aD))) zk d7 λd8 d9 e0 e1=>?_)))))
   have e2:St w0 (Sl (some ⟨d8,0,none⟩) 1 51 121 aD.cells ([(gR (⟨1+(((l.getD ii cR).og) % 11),(mn.getD (Int.toNat ((1+(((l.getD ii cR).og) % 11))-1)) (0:Int))+1,mY (Int.toNat ((1+(((l.getD ii cR).og) % 11))-1)) (mn.getD (Int.toNat ((1+(((l.getD ii cR).og) % 11))-1)) (0:Int)),(⟨6,0,4*(1+(((l.getD ii cR).k) % 6)),cN,none,0,[],aK⟩:aV),aK⟩:aD):aD)])::aC q (aD.cells (⟨1+(((l.getD ii cR).og) % 11),(mn.getD (Int.toNat ((1+(((l.getD ii cR).og) % 11))-1)) (0:Int))+1,mY (Int.toNat ((1+(((l.getD ii cR).og) % 11))-1)) (mn.getD (Int.toNat ((1+(((l.getD ii cR).og) % 11))-1)) (0:Int)),(⟨6,0,4*(1+(((l.getD ii cR).k) % 6)),cN,none,0,[],aK⟩:aV),aK⟩:aD)) 51::Sl i o 51 121 aD.cells ol::aC a (af pa (mn.set (Int.toNat ((1+(((l.getD ii cR).og) % 11))-1)) ((mn.getD (Int.toNat ((1+(((l.getD ii cR).og) % 11))-1)) (0:Int))+1))) 40::L) d9:=St.lS (l:=[(gR (⟨1+(((l.getD ii cR).og) % 11),(mn.getD (Int.toNat ((1+(((l.getD ii cR).og) % 11))-1)) (0:Int))+1,mY (Int.toNat ((1+(((l.getD ii cR).og) % 11))-1)) (mn.getD (Int.toNat ((1+(((l.getD ii cR).og) % 11))-1)) (0:Int)),(⟨6,0,4*(1+(((l.getD ii cR).k) % 6)),cN,none,0,[],aK⟩:aV),aK⟩:aD):aD)]) (f:=aD.cells) e0 e1 dJ.size zl zk
   refine Lo (Dz (oV eH dJ aJ (e2.pl 2) zj λe4 e5 h5 e6=>Lo (bO (Lm (Lt (Dz (cS (dW 1 ((ii:Nat)+1) Hz) ?_)))))))
   have e7:=(((e6.pl 3).pl 1).pl 3).pl 3
   exact aN.back (ii+1,ol++([(gR (⟨1+(((l.getD ii cR).og) % 11),(mn.getD (Int.toNat ((1+(((l.getD ii cR).og) % 11))-1)) (0:Int))+1,mY (Int.toNat ((1+(((l.getD ii cR).og) % 11))-1)) (mn.getD (Int.toNat ((1+(((l.getD ii cR).og) % 11))-1)) (0:Int)),(⟨6,0,4*(1+(((l.getD ii cR).k) % 6)),cN,none,0,[],aK⟩:aV),aK⟩:aD):aD)]),mn.set (Int.toNat ((1+(((l.getD ii cR).og) % 11))-1)) ((mn.getD (Int.toNat ((1+(((l.getD ii cR).og) % 11))-1)) (0:Int))+1),e4,e5) [0,1,4,5,6,7] zk (by show l.length-(ii+1)<l.length-ii;omega) ⟨⟨za,by rw [List.length_append,hp.2.1];rfl,(λm hm=>(List.mem_append.1 hm).elim (hp.2.2.1 m) (λa6=>by rw [List.mem_singleton.1 a6];exact FE (Bw za za za za cO) rfl rfl)),(List.length_set ..).trans hp.2.2.2.1,FF hp.2.2.2.2 za⟩,e7.dr 2⟩
 ·refine En (Lx (kD (kE (Lh (Lt (Lq (Le (Dz (bL (v:=.slice i ol.length o) ?_)))))))))
  have e9:=(a1.pl 0).pl 1
  exact⟨i,o,ol,rfl,za,hp.2.2.1,e9.dr 1⟩
end
section
variable {w0 w : World} {L : List cA} {ad : Option Addr} {c : Nat}
theorem EH l (hr:Rw w0 L aD.cells 121 aJ ad l) (hs:St w0 L w):Cs Tryz.prog 17 #[.slice ad l.length c] w λrv w'=>∃ bf,rv=.bool bf/\(bf=true->l.length<=20)/\St w0 L w':=by
 refine cL Tryz.func17 Tryz.ntmps17 (En (Lq (Ls (Lq (Dz (Zi ((l.length:Int)>20) (λu=>?_) (λu=>?_)))))))
 ·exact En (Lq (Le (Ly (Dz (bL (v:=.bool false) ⟨false,rfl,(λh=>by first|omega|cases h),hs⟩)))))
 ·refine En (Lk (Lt (Ls (Lq (Lb (Dz (bH.loop (T:=Nat) (λgg=>[(0,.slice ad l.length c),(3,.int .i64 (gg:Nat))]) (λgg w=>(gg<=l.length)/\St w0 L w) (λgg=>l.length-gg) 0 [0,3] zk ⟨Nat.zero_le _,hs⟩ ?_)))))))
  rintro k w2 ⟨hp,f⟩
  refine En (Ls (Lq (Dz (Zi ((k:Int)<(l.length:Nat)) (λx=>?_) (λx=>?_)))))
  ·have hk:k<l.length:=za
   obtain⟨a,b,rfl⟩:=aB.isSome (hr _ (f.drop 0)) za
   refine Zk (Zt (Zs (Zb (Zs (bX [7,8] (Hx 2 (k:Int) (l.length:Int) a b 121 (Hg 6 (.agg (lP.cells ((((l.getD k aJ).bd).rq).op))) [.prop (Array.size (lP.cells ((((l.getD k aJ).bd).rq).op))=6),.cells ⟨a,b+(k*121)+13+3+2,none⟩ (lP.cells ((((l.getD k aJ).bd).rq).op))] (aL zk (eM (aB.all (hr _ (f.drop 0)) (k:=k) (o:=18) (vs:=lP.cells ((((l.getD k aJ).bd).rq).op)) zo (Nat.le_of_ble_eq_true zk) zk) aO)) Hz)) (eN (lP.cells Nf) f λz w9 a0=>Lo (Dz (Zu 0 0 (lP.cells ((((l.getD k aJ).bd).rq).op)) a0 λa6 d=>Lo (Ld (Lt (Ls (Dz (bH.join (T:=Unit) (E:=λ_=>[(46,.bool ((decide (((((l.getD k aJ).bd).ql.length:Nat):Int)>20)) || (decide ((IntKind.i64.wrap ((IntKind.i64.wrap ((IntKind.i64.wrap (((((((l.getD k aJ).bd).rq).op).ky).size:Nat)+((((((l.getD k aJ).bd).rq).op).va).size:Nat)))+((((((l.getD k aJ).bd).rq).op).ol).size:Nat)))+((((((l.getD k aJ).bd).rq).op).tx).size:Nat)):Int)>2048)))),(0,zL a b l.length c),(3,.int .i64 (k:Nat))]) (F:=λ_ w=>St w0 (aC z (lP.cells ((((l.getD k aJ).bd).rq).op)) 43::L) w) ?_ ?_)))))))))))))
   ·refine Zg [] (Zp 0 9 [(2,.eJ (zP a (b+(k*121))) .at_),(5,.gen [.slice (((l.getD k aJ).bd).qa) (((l.getD k aJ).bd).ql.length) (((l.getD k aJ).bd).qc)])] [(2,[.prop (0<=(k:Int)/\(k:Int)<(l.length:Int)),.prop (Value.pointer (some (Addr.add ⟨a,b,none⟩ (Int.toNat (k:Nat)*121)))=Value.pointer (some ⟨a,b+(k*121),none⟩))]),(5,[.cell ⟨a,b+(k*121)+13+43,none⟩ (.slice (((l.getD k aJ).bd).qa) (((l.getD k aJ).bd).ql.length) (((l.getD k aJ).bd).qc))])] (ak (aL za (aL (bK _ _ _) aO)) (ak (bP (aB.dX (hr _ (d.drop 1)) (k:=k) zo (j:=56) zf zk) aO) gQ)) (dB 29 (decide (((((l.getD k aJ).bd).ql.length:Nat):Int)>20)) (λe=>?_) (λe=>?_)))
    ·exact En (bO (Dz (aN.pick [46,0,3] (S':=[(46,.bool true),(0,zL a b l.length c),(3,.int .i64 (k:Nat))]) zk (aN.eZ () (by first|rfl|(simp only [e,Bool.not_true,Bool.not_false,Bool.true_or,Bool.false_or,Bool.true_and,Bool.false_and,Bool.or_true,Bool.or_false,Bool.and_true,Bool.and_false];done)|(simp [e];done)) d))))
    ·exact lD (Hl 10 0 1 d (Hl 13 0 2 d (Hl 17 0 3 d (Hl 21 0 4 d Hz)))) (aN.pick [46,0,3] (S':=[(46,.bool (decide ((IntKind.i64.wrap ((IntKind.i64.wrap ((IntKind.i64.wrap (((((((l.getD k aJ).bd).rq).op).ky).size:Nat)+((((((l.getD k aJ).bd).rq).op).va).size:Nat)))+((((((l.getD k aJ).bd).rq).op).ol).size:Nat)))+((((((l.getD k aJ).bd).rq).op).tx).size:Nat)):Int)>2048))),(0,zL a b l.length c),(3,.int .i64 (k:Nat))]) zk (aN.eZ () (by first|rfl|(simp only [e,Bool.not_true,Bool.not_false,Bool.true_or,Bool.false_or,Bool.true_and,Bool.false_and,Bool.or_true,Bool.or_false,Bool.and_true,Bool.and_false];done)|(simp [e];done)) d))
   intro _ a7 q
   refine Zt (cZ (t:=(decide (((((l.getD k aJ).bd).ql.length:Nat):Int)>20)) || (decide ((IntKind.i64.wrap ((IntKind.i64.wrap ((IntKind.i64.wrap (((((((l.getD k aJ).bd).rq).op).ky).size:Nat)+((((((l.getD k aJ).bd).rq).op).va).size:Nat)))+((((((l.getD k aJ).bd).rq).op).ol).size:Nat)))+((((((l.getD k aJ).bd).rq).op).tx).size:Nat)):Int)>2048))) (λi=>?_) (λi=>?_))
   ·exact En (Lq (Le (Ll (Ly (sT (Ll (Ly (Dz (bL (v:=.bool false) ⟨false,rfl,(λh=>by first|omega|cases h),q.dr 1⟩)))))))))
   ·have a3:=(Bool.or_eq_false_iff.1 i).1
    have a4:(decide ((IntKind.i64.wrap ((IntKind.i64.wrap ((IntKind.i64.wrap (((((((l.getD k aJ).bd).rq).op).ky).size:Nat)+((((((l.getD k aJ).bd).rq).op).va).size:Nat)))+((((((l.getD k aJ).bd).rq).op).ol).size:Nat)))+((((((l.getD k aJ).bd).rq).op).tx).size:Nat)):Int)>2048))=false:=(Bool.or_eq_false_iff.1 i).2
    exact Zk (Zm (Zt (cS (dW 1 ((k:Nat)+1) Hz) (aN.back (k+1) [0,3] zk (by show l.length-(k+1)<l.length-k;omega) ⟨za,q.dr 1⟩))))
  ·exact En (Lx (kD (kE (Lh (Lt (Lq (Le (Dz (bL (v:=.bool true) ⟨true,rfl,(λh=>by first|omega|cases h),f⟩)))))))))
theorem EI {adr:Option Addr}{cr:Nat}{ads:Option Addr}{cs:Nat}{adw:Option Addr}{cw:Nat}(row:List bE) (l:List vB) raw (hsm:∀ r∈row,Small r.op) (hrl:row.length<=1100000000000) (hr1:Rw w0 L bE.cells 40 iH adr row) (hr2:Rw w0 L vB.cells 3 cR ads l) (hr3:Rw w0 L aD.cells 121 aJ adw raw) (hs:St w0 L w):Cs Tryz.prog 4 #[.slice adr row.length cr,.slice ads l.length cs,.slice adw raw.length cw] w λrv w'=>∃ bf,rv=.bool bf/\(bf=true->row.length<=30/\l.length<=40/\raw.length<=20)/\St w0 L w':=by
 refine cL Tryz.func4 Tryz.ntmps4 (En (Lq (Ls (Lg [1,14] (Lw (dE (f:=16) (args:=#[.slice adr row.length cr]) Tryz.call16 (Ep row zc zc (λw h=>hr1 _ (h.drop 0)) hs) ?_))))))
 rintro u x ⟨rfl,a⟩
 refine Lo (Dz (Zr 2 1 [] (dB 9 (BI (row.map λr=>r.op)) (λd=>?_) (λd=>?_))))
 ·refine Zr 3 5 [] (C9 14 ((row.length:Int)<=30) (λe=>?_) (λe=>?_))
  ·refine Zr 8 5 [] (C9 19 ((l.length:Int)<=40) (λi=>?_) (λi=>?_))
   ·refine En (Lw (dE (f:=17) (args:=#[.slice adw raw.length cw]) Tryz.call17 (EH raw (λw h=>hr3 _ (h.drop 0)) a) ?_))
    rintro z a0 ⟨b,rfl,o,q⟩
    exact Lz (Le (Dz (bL (v:=.bool b) ⟨b,rfl,(λh=>⟨za,za,o h⟩),q⟩)))
   ·exact En (Lw (gH (En (bO (Lt (Le (Dz (bL (v:=.bool false) ⟨false,rfl,(λh=>by cases h),a⟩))))))))
  ·exact En (Lw (gH (En (bO (Lt (Le (Dz (bL (v:=.bool false) ⟨false,rfl,(λh=>by cases h),a⟩))))))))
 ·exact En (Lw (gH (En (bO (Lt (Le (Dz (bL (v:=.bool false) ⟨false,rfl,(λh=>by cases h),a⟩))))))))
end
section
variable {w0 w : World} {L : List cA}
theorem Bx i (hi:i=1) (hs:St w0 L w):Cs Tryz.prog 123 #[.int .i64 i] w λrv w'=>∃ ao co ol,rv=.slice ao ol.length co/\ol.length<=64/\(∀ z∈ol,0<=z/\z<256)/\St w0 (Sl ao co 5 1 aA ol::L) w':=by
 refine cL Tryz.func123 Tryz.ntmps123 (En (Lq (Ls (Lg [1] (Lw (Zc (yM (⟨#[114,97,116,99,104,101,116,32,99,108,105,101,110,116]⟩:ByteArray) i 8 za za za zf zf hs) ?_))))))
 rintro e f ⟨a,b,rfl,d⟩
 exact Lz (Le (Dz (bL (v:=.slice a ((uo (⟨#[114,97,116,99,104,101,116,32,99,108,105,101,110,116]⟩:ByteArray) i).length) b) ⟨a,b,uo (⟨#[114,97,116,99,104,101,116,32,99,108,105,101,110,116]⟩:ByteArray) i,rfl,(by rw [oA];decide),pg _ 8,d⟩)))
theorem Hj {adk:Option Addr}{ck:Nat}{adb:Option Addr}{cb:Nat}key bl (hkl:key.length<=64) (hnk:adk=none->ck=0) (hbl:bl.length<=50000) (hnb:adb=none->cb=0) (hb1:∀ z∈key,0<=z/\z<256) (hb2:∀ z∈bl,0<=z/\z<256) (hr1:Rw w0 L aA 1 0 adk key) (hr2:Rw w0 L aA 1 0 adb bl) (hs:St w0 L w):Cs Tryz.prog 122 #[.slice adk key.length ck,.slice adb bl.length cb] w λrv w'=>rv=.agg (bI.cells (oN (lL key bl)))/\St w0 L w':=by
 rw [<- HQ (gY key bl)]
 exact Co key bl hkl hnk hbl hnb hb1 hb2 hr1 hr2 hs
theorem Bz r (hr9:vv r) (hz9:F1 r) (hcl:r.cl=1) (hs:St w0 L w):Cs Tryz.prog 74 #[.agg (eG.cells r)] w λrv w'=>∃ tg,rv=.agg (eG.cells (⟨r.cl,r.tm,r.op,tg⟩:eG))/\St w0 L w':=by
 refine cL Tryz.func74 Tryz.ntmps74 (En (Ls (Lg [0,1] (Dz (hG (eG.cells r) hs λb1 w2 a0=>Lo (Dz (eN (eG.cells cN) a0 λb4 w5 i=>Lo (Ld (Lt (Ls (Ls (Dz (bX [1] (fE 0 1 0 40 (eG.cells r) i Hz) (dE (f:=121) (args:=#[.agg (eG.cells r)]) Tryz.call121 (uU r i) ?_))))))))))))))
 rintro v8 w9 ⟨rfl,b⟩
 refine Lo (Ld (Lt (Dz (cZ (t:=ud r) (λa1=>?_) (λa1=>?_)))))
 ·refine ZD (eR [0,1,3] (.ef 2 (.ef 4 (.ef 5 (.rd 6 (.ef 7 .done)))))) b λa6 d a7=>Zj (Hl 1 1 0 d (fE 3 1 0 40 (eG.cells r) d Hz)) (Zc (Bx r.cl zc d) ?_)
  rintro a8 a9 ⟨b0,b2,a,rfl,b3,b5,o⟩
  refine⟨fM (n:=[.prop (Array.size (eG.cells r)=40),.cells ⟨b1,0,none⟩ (eG.cells r)]) zk (aL zk (eM (o.cells 2 0 rfl zk) aO)),dE (f:=124) (args:=#[.slice none (([]:List Int).length) 0,.agg (eG.cells r)]) Tryz.call124 (rV ([]:List Int) r (Nat.zero_le _) hr9 hz9 (St.bJ o 5 1 aA)) ?_⟩
  rintro b6 b7 ⟨b8,b9,rfl,e⟩
  exact Lo (Dz (eE (Hj a (([]:List Int)++uc r) zc (e.dI 1 rfl) (by have:=pO hz9;simp only [List.nil_append,List.length_append,List.length_nil];omega) (e.dI 0 rfl) zc (λz hz=>E3 hr9 z (by simpa using hz)) (λw h=>h.rows 1 rfl aF.size _) (λw h=>h.rows 0 rfl aF.size _) e) λc1 a3=>Lo (Lw (Zu 3 8 (eG.cells (⟨r.cl,r.tm,r.op,oN (lL a (([]:List Int)++uc r))⟩:eG)) a3 λc2 q=>Lo (Ld (Lt (Ls (Dz (bX [1] (fE 0 3 0 40 (eG.cells (⟨r.cl,r.tm,r.op,oN (lL a (([]:List Int)++uc r))⟩:eG)) q Hz) (Zu 2 0 (eG.cells (⟨r.cl,r.tm,r.op,oN (lL a (([]:List Int)++uc r))⟩:eG)) q λc3 u=>Lo (Ld (Lt (Le (Dz (mJ 2 u ⟨oN (lL a (([]:List Int)++uc r)),rfl,u.dr 4⟩)))))))))))))))
 ·exact Zk (Zt (Zs (bX [1] (fE 0 1 0 40 (eG.cells r) b Hz) (Zu 0 0 (eG.cells r) b λc4 x=>Lo (Ld (Lt (Le (Dz (mJ 0 x ⟨r.tg,rfl,x.dr 2⟩)))))))))
def LM (r:eG):bE:=⟨r.cl,r.tm,⟨r.op.kd,r.op.ky,r.op.va,r.op.ol,r.op.tx,r.op.am⟩,r.tg⟩
theorem C6 (r:eG):eG.cells r=bE.cells (LM r):=rfl
def yg (r:bE):Int×Int×cB:=(r.aQ,r.time,r.op)
def Mn (t:Int):Int×Int×cB:=(1,1+t,⟨2,⟨#[97]⟩,⟨([jR (48+(t % 10))]:List UInt8).toArray⟩,⟨#[]⟩,⟨#[]⟩,0⟩)
theorem Hk t (ht:0<=t/\t<=100) (hs:St w0 L w):Cs Tryz.prog 19 #[.int .u8 0,.int .u8 t,.int .u8 0] w λrv w'=>∃ (q:bE),rv=.agg (bE.cells q)/\yg q=Mn t/\St w0 L w':=by
 refine cL Tryz.func19 Tryz.ntmps19 (En (Ls (Lg [0] (Dz (eN (eG.cells cN) hs λb1 w2 o=>Lo (Ld (Lt (Ls (Dz (bX [10,15,19,20] (Hg 2 (.div 0) [.prop (IntKind.i64=IntKind.i64/\(4:Int)≠0/\Int.tmod 0 4=0)] (aL zf aO) (tP 5 t (tP 6 (1+t) (Hg 8 (.div 0) [.prop (IntKind.u8=IntKind.u8/\(4:Int)≠0/\Int.tmod 0 4=0)] (aL zf aO) Hz)))) (aU.cT rfl zk (t:=25) (e:=5) (n:=1) (ps:=[(0,.int .u8 97)]) zk zk (ti:=Tryz.t5) (z:=.int .u8 0) zk zk zf zf (cs:=#[.int .u8 97]) zk o λu w5 a a2=>Lo (Dz (aU.ta rfl zk (src:=25) (dst:=9) (e:=5) (b:=u) (off:=0) (cap:=1) (q:=([jR 97]:List UInt8)) zk zk zk zk (we [97] (a.at_ 0 rfl) (by intro x hx;simp only [List.mem_cons,List.not_mem_nil,or_false] at hx;omega)) (Zj (Hg 13 (.div (t % 10)) [.prop (IntKind.u8=IntKind.u8/\(10:Int)≠0/\Int.tmod t 10=t % 10)] (aL ⟨rfl,zf,Int.tmod_eq_emod_of_nonneg (by first|omega|exact Int.natCast_nonneg _)⟩ aO) (Nc 14 (48+(t % 10)) Hz)) (aU.cT rfl zk (t:=25) (e:=5) (n:=1) (ps:=[(0,.int .u8 (48+(t % 10)))]) zk zk (ti:=Tryz.t5) (z:=.int .u8 0) zk zk zf zf (cs:=#[.int .u8 (48+(t % 10))]) zk a λb8 w9 d a3=>Lo (Dz (aU.ta rfl zk (src:=25) (dst:=9) (e:=5) (b:=b8) (off:=0) (cap:=1) (q:=([jR (48+(t % 10))]:List UInt8)) zk zk zk zk (we [48+(t % 10)] (d.at_ 0 rfl) (by intro x hx;simp only [List.mem_cons,List.not_mem_nil,or_false] at hx;omega)) (En (Lw (Zc (Bz (⟨1,1+t,(⟨2,(⟨([jR 97]:List UInt8).toArray⟩:ByteArray),(⟨([jR (48+(t % 10))]:List UInt8).toArray⟩:ByteArray),aR,aR,0⟩:lP),aK⟩:eG) ⟨zq,zq,zq,zq,cO⟩ ⟨(by show(1:Nat)<=128;decide),(by show(1:Nat)<=128;decide),Nat.zero_le _,Nat.zero_le _⟩ rfl d) ?_))))))))))))))))))))
 rintro a4 a5 ⟨f,rfl,a0⟩
 exact Lo (Dz (Zu 2 0 (eG.cells (⟨(⟨1,1+t,(⟨2,(⟨([jR 97]:List UInt8).toArray⟩:ByteArray),(⟨([jR (48+(t % 10))]:List UInt8).toArray⟩:ByteArray),aR,aR,0⟩:lP),aK⟩:eG).cl,(⟨1,1+t,(⟨2,(⟨([jR 97]:List UInt8).toArray⟩:ByteArray),(⟨([jR (48+(t % 10))]:List UInt8).toArray⟩:ByteArray),aR,aR,0⟩:lP),aK⟩:eG).tm,(⟨1,1+t,(⟨2,(⟨([jR 97]:List UInt8).toArray⟩:ByteArray),(⟨([jR (48+(t % 10))]:List UInt8).toArray⟩:ByteArray),aR,aR,0⟩:lP),aK⟩:eG).op,f⟩:eG)) a0 λa6 i=>Lo (Ld (Lt (Le (Dz (mJ 2 i ⟨LM (⟨(⟨1,1+t,(⟨2,(⟨([jR 97]:List UInt8).toArray⟩:ByteArray),(⟨([jR (48+(t % 10))]:List UInt8).toArray⟩:ByteArray),aR,aR,0⟩:lP),aK⟩:eG).cl,(⟨1,1+t,(⟨2,(⟨([jR 97]:List UInt8).toArray⟩:ByteArray),(⟨([jR (48+(t % 10))]:List UInt8).toArray⟩:ByteArray),aR,aR,0⟩:lP),aK⟩:eG).tm,(⟨1,1+t,(⟨2,(⟨([jR 97]:List UInt8).toArray⟩:ByteArray),(⟨([jR (48+(t % 10))]:List UInt8).toArray⟩:ByteArray),aR,aR,0⟩:lP),aK⟩:eG).op,f⟩:eG),congrArg Value.agg (C6 _),rfl,i.dr 3⟩)))))))
end
section
variable {w0 w : World} {L : List cA}
theorem xJ {s:Nat}{p:Nat}{q:Nat}{g:Nat}(tl:List aG) (m:List (ByteArray×ByteArray)) cnt (hl:tl.length=8) (hm:m.length<=4294967296) (hT:∀ x∈tl,Ab x) (hln:(cU m).length<=64) (iT:∀ x∈cU m,vj x) (hc:0<=cnt/\cnt<=18446744073709551615) (hbs:(cE tl (cU m)).length<=90000) (hTab:∀ w,St w0 L w->jX w) (hs:St w0 (aC s #[zP q 0,zP p 0,.int .u64 cnt] 123::aC p (af aG.cells tl) 183::aC q #[.map (some g)] 181::cI Value.string Value.string g m::L) w):Cs Tryz.prog 22 #[zP s 0] w λrv w'=>rv=.agg (bI.cells (cY (wd cnt++cE tl (cU m))))/\St w0 (aC s #[zP q 0,zP p 0,.int .u64 cnt] 123::aC p (af aG.cells tl) 183::aC q #[.map (some g)] 181::cI Value.string Value.string g m::L) w':=by
 refine cL Tryz.func22 Tryz.ntmps22 (En (Ls (Lg [0] (Dz (eN (bI.cells aK) hs λu z d=>Lo (Ld (Lt (Ls (Lq (LF (Lk (Lt (Ls (Lg [1,2,3] (Lw (Zc (sF tl m cnt zc zc zc zc zc zc ((((d.pl 4).pl 4).pl 4).pl 4)) ?_))))))))))))))))
 rintro v8 w9 ⟨a0,c6,rfl,a⟩
 refine Lo (Dz (eE (uG (wd cnt++cE tl (cU m)) (Sl.cap (a.at_ 0 rfl)) (by rw [List.length_append,aZ];omega) (λw h=>hTab w (h.drop 6)) (λw h=>h.rows 0 rfl aF.size _) a) λa2 f=>Lo (Dz (Zu 5 0 (bI.cells (cY (wd cnt++cE tl (cU m)))) f λa3 b=>Lo (Ld (Lt (Le (Dz (mJ 5 b ?_)))))))))
 have i:=(((((b.pl 4).pl 4).pl 4).pl 4).pl 5).pl 5
 exact⟨rfl,i.dr 2⟩
theorem BA {s:Nat}{p:Nat}{q:Nat}{g:Nat}(tl:List aG) (m:List (ByteArray×ByteArray)) cnt (hm:m.length<=4294967296) (hs:St w0 (aC s #[zP q 0,zP p 0,.int .u64 cnt] 123::aC p (af aG.cells tl) 183::aC q #[.map (some g)] 181::cI Value.string Value.string g m::L) w):Cs Tryz.prog 78 #[zP s 0] w λrv w'=>∃ ad c,rv=.slice ad ((cU m).length) c/\St w0 (Sl ad c 132 2 aH.cells (cU m)::aC s #[zP q 0,zP p 0,.int .u64 cnt] 123::aC p (af aG.cells tl) 183::aC q #[.map (some g)] 181::cI Value.string Value.string g m::L) w':=by
 refine cL Tryz.func78 Tryz.ntmps78 (En (Lq (Ls (Lq (LF (Lk (Lt (Ls (Dz (bX [4] (Hl 3 0 0 hs Hz) (Zc (yZ m zc ((hs.pl 3).pl 3)) ?_)))))))))))
 rintro i o ⟨a,b,rfl,e⟩
 exact Lz (Le (Dz (bL (v:=.slice a ((cU m).length) b) ⟨a,b,rfl,((((e.pl 2).pl 2).pl 4).pl 4).pl 4⟩)))
theorem Hm n (a:aX) c0 (t0:List aG) (l0:List aH) (hsome:xP a.sa a.sc) (hbl:a.sl.length<=40000) (hbb:∀ z∈a.sl,0<=z/\z<256) (hms:∀ k,k<a.ml.length->dw (a.ml.getD k aJ)/\Rw w0 L bS.cells 2 cD (a.ml.getD k aJ).bd.qa (a.ml.getD k aJ).bd.ql) (hll:a.ml.length<=1000000) (hn:-9223372036854775808<=n/\n<=9223372036854775807) (hcap:a.sl.length<=a.sc) (hTab:∀ w,St w0 L w->jX w) (hv0:kT n a=0) (hst0:Br a.sl=some (c0,t0,l0)) (hr1:Rw w0 L aD.cells 121 aJ a.ma a.ml) (hr2:Rw w0 L aA 1 0 a.sa a.sl) (hs:St w0 L w):Cs Tryz.prog 23 #[.int .i64 n,.agg (aX.cells a)] w λrv w'=>∃ r s p q g,rv=.tuple #[zP r 0,.int .i64 0]/\St w0 (aC r #[zP s 0] 128::aC s #[zP q 0,zP p 0,.int .u64 c0] 123::aC p (af aG.cells t0) 183::aC q #[.map (some g)] 181::cI Value.string Value.string g (cP l0)::L) w':=by
 refine cL Tryz.func23 Tryz.ntmps23 (En (Ls (Lg [0] (Dz (hG (aX.cells a) hs λb1 w2 e=>Lz (Ls (Ls (Dz (bX [2] (fE 1 0 0 3 (aX.cells a) e Hz) (eE (re n a zc zc zc (λk hk=>⟨(hms k hk).1,λw h=>(hms k hk).2 w (h.drop 1)⟩) zc zc zc (λw h=>hTab w (h.drop 1)) (λw h=>hr1 _ (h.drop 1)) (λw h=>hr2 _ (h.drop 1)) e) λw6 f=>Lz (Lq (Dz (cZ (t:=((kT n a):Int) != 0) (λb=>?_) (λb=>?_))))))))))))))
 ·exfalso;rw [hv0] at b;simp at b
 ·refine Zk (Zt (Zs (bX [2] (Hl 1 0 1 f Hz) (Zc (Ae a.sl zc zc zc (λw h=>hr2 _ (h.drop 1)) f) ?_))))
  rintro a8 a9 (⟨rfl,i,b0⟩|⟨o,a0,a1,a2,b2,b3,b4,rfl,a3,a4⟩)
  ·rw [hst0] at i;cases i
  ·obtain⟨z1,d⟩:=Prod.mk.inj (Option.some.inj (hst0.symm.trans a3))
   obtain⟨d,z3⟩:=Prod.mk.inj d
   subst z1 d z3
   refine Lz (Ls (Lq (LF (Lk (Lt (Ls (Lg [2] (Lw (hG #[zP o 0] a4 λu b5 a5=>Lz (Le (Dz (om (v:=zP u 0) (v':=.int .i64 0) ?_))))))))))))
   have a6:=(((((a5.pl 4).pl 4).pl 4).pl 4).pl 4).pl 5
   exact⟨u,o,a0,a1,a2,rfl,a6.dr 1⟩
theorem EJ {r:Nat}{s:Nat}{p:Nat}{q:Nat}{g:Nat}(tl:List aG) (m:List (ByteArray×ByteArray)) cnt (hs:St w0 (aC r #[zP s 0] 128::aC s #[zP q 0,zP p 0,.int .u64 cnt] 123::aC p (af aG.cells tl) 183::aC q #[.map (some g)] 181::cI Value.string Value.string g m::L) w):Cs Tryz.prog 79 #[zP r 0] w λrv w'=>rv=zP s 0/\St w0 (aC r #[zP s 0] 128::aC s #[zP q 0,zP p 0,.int .u64 cnt] 123::aC p (af aG.cells tl) 183::aC q #[.map (some g)] 181::cI Value.string Value.string g m::L) w':=by
 exact cL Tryz.func79 Tryz.ntmps79 (En (Lq (Ls (Lq (LF (Lk (Lt (Ls (Dz (cS (Hl 3 0 0 hs Hz) (Zt (Ze (bL (v:=zP s 0) ⟨rfl,hs⟩)))))))))))))
theorem BB {r:Nat}{s:Nat}{p:Nat}{q:Nat}{g:Nat}(tl:List aG) (m:List (ByteArray×ByteArray)) cnt (hs:St w0 (aC r #[zP s 0] 128::aC s #[zP q 0,zP p 0,.int .u64 cnt] 123::aC p (af aG.cells tl) 183::aC q #[.map (some g)] 181::cI Value.string Value.string g m::L) w):Cs Tryz.prog 25 #[zP r 0] w λrv w'=>rv=.int .u64 cnt/\St w0 (aC r #[zP s 0] 128::aC s #[zP q 0,zP p 0,.int .u64 cnt] 123::aC p (af aG.cells tl) 183::aC q #[.map (some g)] 181::cI Value.string Value.string g m::L) w':=by
 exact cL Tryz.func25 Tryz.ntmps25 (En (Lq (Ls (Lg [1,2] (Lw (eE (EJ tl m cnt hs) λi a=>Lo (Dz (eE (nG tl m cnt ((((a.pl 4).pl 4).pl 4).pl 4)) λu d=>Lz (Le (Dz (bL (v:=.int .u64 cnt) ⟨rfl,((((d.pl 3).pl 3).pl 3).pl 3).pl 4⟩)))))))))))
def rf (l:List aH) (key:ByteArray):ByteArray×Int:=match l.find? λx=>decide (x.key=key) with
 | some x=>(x.value,0)
 | none=>(⟨#[]⟩,4)
theorem FH {key:ByteArray}:∀ {l:List aH}{k:Nat},k<l.length->decide ((l.getD k aT).key=key)=true->(∀ i,i<k->decide ((l.getD i aT).key=key)=false)->rf l key=((l.getD k aT).value,0)
 | [],k,hk,_,_=>absurd hk (Nat.not_lt_zero _)
 | x::l,0,_,h,_=>by
  have h1:decide (x.key=key)=true:=h
  unfold rf
  simp only [List.find?,h1]
  rfl
 | x::l,k+1,hk,h,no=>by
  have h0:decide (x.key=key)=false:=no 0 (Nat.succ_pos _)
  have:=FH (l:=l) (k:=k) (Nat.lt_of_succ_lt_succ hk) h (λi hi=>no (i+1) (Nat.succ_lt_succ hi))
  unfold rf at this ⊢
  simp only [List.find?,h0]
  exact this
theorem KV {key:ByteArray}{l:List aH}(no:∀ i,i<l.length->decide ((l.getD i aT).key=key)=false):rf l key=(⟨#[]⟩,4):=by
 unfold rf
 rw [List.find?_eq_none.2 λx hx=>?_]
 obtain⟨i,hi,rfl⟩:=List.getElem_of_mem hx
 have h:=no i hi
 rw [List.getD_eq_getElem?_getD,List.getElem?_eq_getElem hi] at h
 intro a
 exact Bool.noConfusion (a.symm.trans h)
theorem tN {r:Nat}{s:Nat}{p:Nat}{q:Nat}{g:Nat}(tl:List aG) (m:List (ByteArray×ByteArray)) cnt key (hm:m.length<=4294967296) (hs:St w0 (aC r #[zP s 0] 128::aC s #[zP q 0,zP p 0,.int .u64 cnt] 123::aC p (af aG.cells tl) 183::aC q #[.map (some g)] 181::cI Value.string Value.string g m::L) w):Cs Tryz.prog 24 #[zP r 0,.string key] w λrv w'=>rv=.tuple #[.string ((rf (cU m) key).1),.int .i64 ((rf (cU m) key).2)]/\St w0 (aC r #[zP s 0] 128::aC s #[zP q 0,zP p 0,.int .u64 cnt] 123::aC p (af aG.cells tl) 183::aC q #[.map (some g)] 181::cI Value.string Value.string g m::L) w':=by
 refine cL Tryz.func24 Tryz.ntmps24 (En (Lq (Ls (Lq (LF (Lk (Lt (Ls (Ls (Dz (bX [4] (Hl 3 0 0 hs Hz) (Zc (BA tl m cnt zc ((((hs.pl 4).pl 4).pl 4).pl 4)) ?_))))))))))))
 rintro v5 w6 ⟨e,f,rfl,x⟩
 refine Lz (Lb (Dz (bH.loop (T:=Nat) (λgg=>[(1,.string key),(14,.slice e ((cU m).length) f),(15,.int .i64 ((cU m).length:Nat)),(16,.int .i64 (gg:Nat))]) (λgg w=>(gg<=(cU m).length/\∀ i,i<gg->decide (((cU m).getD i aT).key=key)=false)/\St w0 (Sl e f 132 2 aH.cells (cU m)::aC s #[zP q 0,zP p 0,.int .u64 cnt] 123::aC p (af aG.cells tl) 183::aC q #[.map (some g)] 181::cI Value.string Value.string g m::aC r #[zP s 0] 128::L) w) (λgg=>(cU m).length-gg) 0 [1,14,15,16] zk ⟨⟨Nat.zero_le _,λi hi=>absurd hi (Nat.not_lt_zero _)⟩,x⟩ ?_)))
 rintro k w7 ⟨hp,a⟩
 refine En (Lq (Ls (Dz (Zi ((k:Int)<((cU m).length:Nat)) (λz=>?_) (λz=>?_)))))
 ·have hk:k<(cU m).length:=za
  have hlm:(cU m).length<=4294967296:=by rw [oa];exact hm
  obtain⟨o,rfl⟩:=Sl.isSome (a.at_ 0 rfl) za
  refine Zk (Zt (Zs (Zb (Zs (bX [2,3] (Hx 0 (k:Int) ((cU m).length:Int) o 0 2 (Hg 1 (.agg (aH.cells ((cU m).getD k aT))) [.prop (Array.size (aH.cells ((cU m).getD k aT))=2),.cells ⟨o,0+(k*2),none⟩ (aH.cells ((cU m).getD k aT))] (aL zk (eM (aB.iJ (a.rows 0 rfl gG.size aT) zo (Nat.le_of_ble_eq_true zk) zk) aO)) Hz)) (eN #[.string aR,.string aR] a λa6 a7 a0=>Lo (Dz (Zu 0 0 (aH.cells ((cU m).getD k aT)) a0 λa8 b=>Lo (Ld (Lt (Ls (Dz (cS (Hl 1 0 0 b (Hg 3 (.eJ (.bool (decide ((((cU m).getD k aT).key)=key))) (.gen [])) [.prop (Value.bool ((((cU m).getD k aT).key).toList == key.toList)=Value.bool (decide ((((cU m).getD k aT).key)=key)))] (aL (seq _ _) aO) Hz)) (Zt (Zi ((((cU m).getD k aT).key)=key) (λd=>?_) (λd=>?_))))))))))))))))
  ·refine Zs (cS (Hl 1 0 1 b Hz) (Zt (Ze (Zl (Zy (aN.sj (Zl (Zy (om (v:=.string (((cU m).getD k aT).value)) (v':=.int .i64 0) ?_)))))))))
   have a1:=((((((b.pl 5).pl 5).pl 5).pl 5).pl 6).pl 6).pl 6
   exact⟨(by rw [FH hk (decide_eq_true d) hp.2]),a1.dr 2⟩
  ·exact Zk (Zm (Zt (cS (dW 0 ((k:Nat)+1) Hz) (aN.back (k+1) [1,14,15,16] zk (by show(cU m).length-(k+1)<(cU m).length-k;omega) ⟨⟨za,(λi hi=>(Nat.lt_or_ge i k).elim (hp.2 i) (λa9=>by rw [show i=k by omega];exact(decide_eq_false d)))⟩,b.dr 1⟩))))
 ·refine En (Lx (kD (kE (Lh (Lt (Lq (Le (Dz (om (v:=.string aR) (v':=.int .i64 4) ?_)))))))))
  have a4:=(((((a.pl 4).pl 4).pl 4).pl 4).pl 5).pl 5
  exact⟨(by rw [KV (λi hi=>hp.2 i za)]),a4.dr 1⟩
end
end Go.Proofs.YtkmhmeldgfpfeaaGreatDoor
namespace Go.Proofs.YtkmhmeldgfpfeaaGreatDoor
open Go.RowKit Go.Sx
set_option linter.unusedVariables false
set_option linter.unusedSimpArgs false
set_option maxRecDepth 100000
theorem JB {tl:List aG}{m:hX}:∀ {r r2:bE},yg r=yg r2->qU tl m r=qU tl m r2
 | ⟨c,t,o,g⟩,⟨c2,t2,o2,g2⟩,h=>by
  obtain⟨rfl,h⟩:=Prod.mk.inj h
  obtain⟨rfl,rfl⟩:=Prod.mk.inj h
  rfl
theorem xK:∀ {l l2:List bE}{s:TS},l.map yg=l2.map yg->qZ s l=qZ s l2
 | [],[],_,_=>rfl
 | [],_::_,_,h=>by cases h
 | _::_,[],_,h=>by cases h
 | r::l,r2::l2,s,h=>by
  obtain⟨h1,h2⟩:=List.cons.inj h
  show qZ (qU s.1 s.2 r).2 l=qZ (qU s.1 s.2 r2).2 l2
  rw [JB h1]
  exact xK h2
theorem Hn (l:List bE) (q:bE):bB (l++[q])=(qU (bB l).1 (bB l).2 q).2:=by
 rw [bB,qZ,List.foldl_append];rfl
theorem FI {q:bE}{t:Int}(ht:0<=t/\t<=100) (h:yg q=Mn t):(0<=q.time/\q.time<=18446744073709551615)/\0<=q.op.aY:=by
 obtain⟨c,u,o,g⟩:=q
 obtain⟨-,h⟩:=Prod.mk.inj h
 obtain⟨rfl,rfl⟩:=Prod.mk.inj h
 exact⟨⟨by dsimp only;omega,by dsimp only;omega⟩,Int.le_refl 0⟩
def M4:List (Int×Int×cB):=[Mn 0,Mn 1,Mn 2,Mn 3]
def KW:List bE:=M4.map λt=>⟨t.1,t.2.1,t.2.2,aK⟩
theorem Mo {rw:List bE}(h:rw.map yg=M4):jB rw 4=jB KW 4:=by
 have hl:rw.length=4:=by have:=congrArg List.length h;rw [List.length_map] at this;exact this.trans rfl
 have e:bB rw=bB KW:=xK (h.trans rfl)
 unfold jB
 rw [List.take_of_length_le za,List.take_of_length_le zf,e]
theorem LN:∃ t0 l0,Br (jB KW 4)=some (4,t0,l0)/\rf (cU (cP l0)) ⟨#[97]⟩=(⟨#[51]⟩,0)/\rf (cU (cP l0)) ⟨#[122]⟩=(⟨#[]⟩,4)/\(cP l0).length<=4294967296:=by
 have h:((Br (jB KW 4)).map λx=>(x.1,rf (cU (cP x.2.2)) ⟨#[97]⟩,rf (cU (cP x.2.2)) ⟨#[122]⟩,(cP x.2.2).length))=some (4,(⟨#[51]⟩,0),(⟨#[]⟩,4),1):=by decide +kernel
 obtain⟨⟨c,t0,l0⟩,h1,h2⟩:=Option.map_eq_some_iff.1 h
 simp only [Prod.mk.injEq] at h2
 obtain⟨rfl,h3,h4,h5⟩:=h2
 exact⟨t0,l0,h1,h3,h4,za⟩
def uK (o:Int) (D:bI):aD:=⟨o,1,qk,⟨6,0,4,cN,none,0,[],D⟩,aK⟩
theorem C7 {o:Int}{D:bI}(ho:1<=o/\o<=11) (hD:∀ z∈D.toList,0<=z/\z<256):dw (uK o D):=⟨by show _<=o/\o<=_;omega,by show(0:Int)<=1/\(1:Int)<=_;decide,(show ∀ x∈(qk:cW).toList,0<=x/\x<=18446744073709551615 from by decide),⟨by show(0:Int)<=6/\(6:Int)<=_;decide,by show(0:Int)<=0/\(0:Int)<=_;decide,by show(0:Int)<=4/\(4:Int)<=_;decide,fZ,(λp hp=>by cases hp),hD,Nat.zero_le _⟩,cO⟩
theorem JC {o:Int}{D:bI}(ho:o=2\/o=3) (hD:∀ z∈D.toList,0<=z/\z<256):dN (uK o D)=true:=by
 have hb:kH (uK o D).bd=true:=by
  rw [<- B8 (C7 (o:=o) za hD).bd]
  unfold nt
  rw [uh (x:=iE (uK o D).bd) (y:=(uK o D).bd) rfl]
  rfl
 unfold dN
 rw [if_neg (show ¬ AH (uK o D)=true from by rcases ho with rfl|rfl<;>exact Bool.noConfusion),if_pos (show ∀ x∈(uK o D).dp.toList,x<=65536 from(by decide:∀ x∈(qk:cW).toList,x<=65536))]
 exact hb
def lz (o:Int) (rw:List bE):aD:=gR (uK o (cY (jB rw 4)))
theorem xL {o:Int}(rw:List bE):(lz o rw).og=o:=by unfold lz gR;split<;>rfl
theorem EK {o:Int}(rw:List bE):(lz o rw).bd=⟨6,0,4,cN,none,0,[],cY (jB rw 4)⟩:=FC _
theorem uL {o:Int}(ho:o=2\/o=3) (rw:List bE):eY (lz o rw)=true:=EG (JC ho (mU _))
theorem BC {o:Int}(ho:o=2\/o=3) (rw:List bE):ph 3 (lz o rw) 4 (cY (jB rw 4))=true:=by
 unfold ph
 rw [uL ho,xL,EK]
 rcases ho with rfl|rfl<;>simp
theorem Mq {rw:List bE}:mH 3 rw [lz 2 rw,lz 3 rw] 4=[lz 2 rw,lz 3 rw]:=by
 have c:∀ (r o:Int),o=2\/o=3->gP 3 4 (cY (jB rw 4)) r (lz o rw)=(o == r):=λr o ho=>by
  rw [vK,xL,BC ho,Bool.and_true]
 unfold mH
 show fS (gP 3 4 (cY (jB rw 4))) (3 / 2) [lz 2 rw,lz 3 rw] 3=_
 simp [fS,List.find?,c]
theorem KX {rw:List bE}(hl:rw.length=4):uI 3 rw [lz 2 rw,lz 3 rw]=(⟨4,none,0,jB rw 4,none,0,[lz 2 rw,lz 3 rw]⟩,0):=by
 unfold uI
 rw [if_pos zf,hl]
 show uH 3 rw _ 1=_
 unfold uH
 rw [show 4*(0+1)=4 from rfl,Mq]
 exact if_pos (show(3:Int) / 2<((2:Nat):Int) by decide)
theorem KY {rw:List bE}{l:List aD}(hl:rw.length=3):uI 3 rw l=(dV,4):=by
 unfold uI
 rw [if_pos zf,hl]
 rfl
theorem Ho {rw:List bE}(h:rw.map yg=M4){a:aX}(ha:xF a=⟨4,none,0,jB rw 4,none,0,[lz 2 rw,lz 3 rw]⟩):kT 3 a=0/\a.sl=jB KW 4/\a.ml=[lz 2 rw,lz 3 rw]/\a.ct=4:=by
 unfold xF at ha
 simp only [aX.mk.injEq] at ha
 obtain⟨h1,-,-,h2,-,-,h3⟩:=ha
 have h4:=h2.trans (Mo h)
 refine⟨?_,h4,h3,h1⟩
 obtain⟨t0,l0,hst,-⟩:=LN
 unfold kT
 have hk:∀ {p:Nat->aD->Bool},p 0 (lz 2 rw)=false->p 1 (lz 3 rw)=false->¬ anyI p a.ml=true:=λ{p} q1 q2=>by
  rw [h3,pR λi hi=>?_]
  ·decide
  ·rcases i with _|_|i
   ·exact q1
   ·exact q2
   ·exact absurd hi (by show ¬ (i+1+1<2);omega)
 rw [if_neg zf,if_neg (by rw [tM (by rw [h4];exact hst),h1];exact Bool.noConfusion),if_neg (by unfold rY;rw [h3];exact Bool.noConfusion),if_neg (hk ?_ ?_),if_neg (hk ?_ ?_),if_neg (hk ?_ ?_)]
 ·rw [xG,h1,h2,BC (.inl rfl)];rfl
 ·rw [xG,h1,h2,BC (.inr rfl)];rfl
 ·rw [uL (.inl rfl)];rfl
 ·rw [uL (.inr rfl)];rfl
 ·unfold BH;rw [xL];rfl
 ·unfold BH;rw [xL,h3];show(decide ((3:Int)>3) || (true && decide ((lz 2 rw).og >= 3)))=false;rw [xL];decide
theorem Hp {a:aX}(hct:0<=a.ct/\a.ct<=18446744073709551615) (hs:a.sl.length<=32768) (hl:a.ml.length<=6) (hm:∀ m∈a.ml,dN m=true/\dw m):qN (dO a)=(⟨a.ct,none,0,a.sl,none,0,a.ml.map gM⟩,0):=by
 have hp:dO a=(((wd a.ct++wd (a.sl.length:Nat))++a.sl)++hf (a.ml.length:Nat))++a.ml.flatMap (λm=>nC (cF m)):=by
  unfold dO
  rw [if_neg za,if_pos λm h=>(hm m h).1]
  rfl
 have h5:=A6 [] a.ml [] hm
 rw [List.append_nil] at h5
 refine wX (z:=a.sl.length) (n:=a.ml.length) (t:=a.sl) (ct:=a.ct) (s1:=(wd (a.sl.length:Nat)++(a.sl++(hf (a.ml.length:Nat)++a.ml.flatMap (λm=>nC (cF m)))),false)) ?_ (eV za) za (qD rfl) (tq za) h5 ?_
 ·rw [hp]
  simp only [List.append_assoc]
  exact eV ⟨hct.1,za⟩
 ·rintro(h|h)
  ·cases h
  ·exact h (nY ..)
theorem xM:gE KW:=by
 intro r hr
 unfold KW M4 at hr
 simp only [List.map_cons,List.map_nil,List.mem_cons,List.not_mem_nil,or_false] at hr
 rcases hr with rfl|rfl|rfl|rfl<;>exact⟨zf,zf⟩
theorem BD {rw:List bE}:∀ m∈[lz 2 rw,lz 3 rw],dw m:=λm hm=>by
 rcases List.mem_cons.1 hm with rfl|hm
 ·exact Bv (C7 zf (mU _))
 ·rw [List.mem_singleton.1 hm];exact Bv (C7 zf (mU _))
theorem xN {rw:List bE}(k:Nat) (hk:k < [lz 2 rw,lz 3 rw].length):dw ([lz 2 rw,lz 3 rw].getD k aJ):=BD _ (bC (d:=aJ) hk)
theorem rh {rw:List bE}{w:World}(k:Nat) (hk:k < [lz 2 rw,lz 3 rw].length):aB w ([lz 2 rw,lz 3 rw].getD k aJ).bd.qa ([lz 2 rw,lz 3 rw].getD k aJ).bd.ql.length 2 (λj=>bS.cells (([lz 2 rw,lz 3 rw].getD k aJ).bd.ql.getD j cD)):=by
 have h:∀ m∈[lz 2 rw,lz 3 rw],m.bd.ql=[]:=λm hm=>by
  rcases List.mem_cons.1 hm with rfl|hm
  ·rw [EK]
  ·rw [List.mem_singleton.1 hm,EK]
 rw [h _ (bC (d:=aJ) hk)]
 exact aB.nil _ _ _
theorem Mr {rw:List bE}{a:aX}(h2:a.sl=jB KW 4) (h3:a.ml=[lz 2 rw,lz 3 rw]):(dO a).length<=100000:=by
 unfold dO
 split
 ·exact Nat.zero_le _
 ·split
  ·have h1:=nH xM 4
   have h4:=qM a.ml
   have h5:a.ml.length=2:=by rw [h3];rfl
   have h6:=pQ a
   rw [h2] at h6
   rw [List.length_append]
   omega
  ·exact Nat.zero_le _
theorem JD {rw:List bE}{a:aX}(h1:a.ct=4) (h2:a.sl=jB KW 4) (h3:a.ml=[lz 2 rw,lz 3 rw]):qN (dO a)=(⟨4,none,0,a.sl,none,0,a.ml.map gM⟩,0):=by
 have key:∀ {o:Int},o=2\/o=3->dN (lz o rw)=true:=λ{o} ho=>by
  have h4:=JC (D:=cY (jB rw 4)) ho (mU _)
  have e:lz o rw=⟨(uK o (cY (jB rw 4))).og,(uK o (cY (jB rw 4))).nr,(uK o (cY (jB rw 4))).dp,(uK o (cY (jB rw 4))).bd,(lz o rw).tg⟩:=by unfold lz gR;split<;>rfl
  rw [e,FD]
  exact h4
 have hm:∀ m∈a.ml,dN m=true/\dw m:=by
  rw [h3]
  intro m hm
  refine⟨?_,BD m hm⟩
  rcases List.mem_cons.1 hm with rfl|hm
  ·exact key (.inl rfl)
  ·rw [List.mem_singleton.1 hm];exact key (.inr rfl)
 rw [Hp (a:=a) (by rw [h1];decide) (by rw [h2];exact Nat.le_trans (nH xM 4) zf) (by rw [h3];exact(by decide:2<=6)) hm,h1]
end Go.Proofs.YtkmhmeldgfpfeaaGreatDoor
namespace Go.Proofs.YtkmhmeldgfpfeaaGreatDoor
open Go.RowKit Go.Sx
set_option linter.unusedVariables false
set_option linter.unusedSimpArgs false
set_option linter.unnecessarySimpa false
set_option maxRecDepth 100000
section
variable {w0 w : World} {L : List cA}
theorem Ms:jZ Tryz.prog 22 46 40 128:=⟨zk,⟨Tryz.t46,.agg iH.cells,zk,zk,zk,zk,zk⟩,zf⟩
theorem sI (hTab:∀ w,St w0 L w->jX w) (hL:∀ w,St w0 L w->Laid w) (hs:St w0 L w):Cs Tryz.prog 5 #[] w λrv w'=>rv=.bool true/\St w0 L w':=by
 refine cL Tryz.func5 Tryz.ntmps5 (En (Lq (Ls (Lg [0] (Dz (Zc (xz hs) ?_))))))
 rintro v6 w7 ⟨x,i,o,g4,rfl,d8⟩
 refine Lz (Lq (Ls (Lq (Lb (Dz ?_)))))
 have d9:=St.bJ d8 46 40 bE.cells
 have e0:St w0 (Sl none 0 46 40 bE.cells ([]:List bE)::aC x #[zP o 0,zP i 0,.int .u64 (0:Nat)] 123::aC i (af aG.cells ((bB ([]:List bE)).1)) 183::aC o #[.map (some g4)] 181::cI Value.string Value.string g4 ((bB ([]:List bE)).2)::L) w7:=(show _ from d9)
 refine bH.loop (T:=Nat×(List bE)×(Option Addr)×Nat) (λgg=>[(0,.bool false),(1,zP x 0),(2,.slice gg.2.2.1 gg.2.1.length gg.2.2.2),(3,.int .i64 (gg.1:Nat))]) (λgg w=>(gg.1<=4/\gg.2.1.length=gg.1/\gE gg.2.1/\gg.2.1.map yg=(List.range gg.1).map λt=>Mn (t:Nat))/\St w0 (Sl gg.2.2.1 gg.2.2.2 46 40 bE.cells gg.2.1::aC x #[zP o 0,zP i 0,.int .u64 (gg.1:Nat)] 123::aC i (af aG.cells ((bB gg.2.1).1)) 183::aC o #[.map (some g4)] 181::cI Value.string Value.string g4 ((bB gg.2.1).2)::L) w) (λgg=>4-gg.1) (0,([]:List bE),none,0) [0,1,2,3] zk ⟨⟨Nat.zero_le _,rfl,(λr hr=>by cases hr),rfl⟩,e0⟩ ?_
 rintro⟨kk,rw,a0,q⟩ k7 ⟨hp,b8⟩
 dsimp only at hp b8
 have hI:=iZ hp.2.2.1
 refine En (Ls (Lq (Dz (Zi ((kk:Int)<4) (λe1=>?_) (λe1=>?_)))))
 ·refine Zk (Zt (Zs (Zb (Zs (bX [2,3,4] (Nc 1 (kk:Nat) Hz) (Zc (Hk (kk:Nat) zc b8) ?_))))))
  rintro k8 k9 ⟨u,rfl,b9,e2⟩
  refine Lo (Dz (eN (eG.cells cN) e2 λe3 l1 e4=>Lo (Dz (Zu 0 0 (bE.cells u) e4 λl2 c9=>Lo (Ld (Lt (Ls (Dz (bX [2,3] (fE 1 0 0 40 (bE.cells u) c9 Hz) (aU.cT rfl zk (t:=22) (e:=46) (n:=1) (ps:=[(0,.agg (bE.cells u))]) zk zk (ti:=Tryz.t46) (z:=.agg (eG.cells cN)) zk zk zf zf (cs:=bE.cells u) zk c9 λe5 e6 e7 e8=>?_))))))))))
  have e9:St w0 (Sl (some ⟨e5,0,none⟩) 1 46 40 bE.cells ([(u:bE)])::aC e3 (bE.cells u) 46::Sl a0 q 46 40 bE.cells rw::aC x #[zP o 0,zP i 0,.int .u64 (kk:Nat)] 123::aC i (af aG.cells ((bB rw).1)) 183::aC o #[.map (some g4)] 181::cI Value.string Value.string g4 ((bB rw).2)::L) e6:=St.lS (l:=[(u:bE)]) (f:=bE.cells) e7 e8 Ja.size zl zk
  refine Lo (Dz (oV Ms Ja iH (e9.pl 2) zj λd0 d1 l3 d2=>Lz (Dz (bX [2] (fE 1 2 0 40 (bE.cells u) d2 Hz) (eE (zZ ((bB rw).1) ((bB rw).2) u (kk:Nat) hI.len hI.inv.short (λw h=>hL w (h.drop 3)) (FI za b9).2 zc ((((d2.pl 6).pl 6).pl 6).pl 6)) λf2 f3=>Lo (Ld (Lm (Lt (Dz (cS (dW 1 ((kk:Nat)+1) Hz) ?_))))))))))
  have f4:=((((((f3.pl 3).pl 3).pl 3).pl 3).pl 4).pl 6).pl 6
  have f5:=f4.dr 2
  have f6:St w0 (Sl d0 d1 46 40 bE.cells (rw++[(u:bE)])::aC x #[zP o 0,zP i 0,.int .u64 ((kk+1):Nat)] 123::aC i (af aG.cells ((bB (rw++[(u:bE)])).1)) 183::aC o #[.map (some g4)] 181::cI Value.string Value.string g4 ((bB (rw++[(u:bE)])).2)::L) f2:=(by rw [Hn];exact f5)
  exact aN.back (kk+1,(rw++[(u:bE)]),d0,d1) [0,1,2,3] zk (by show 4-(kk+1)<4-kk;omega) ⟨⟨za,by rw [List.length_append,hp.2.1];rfl,(λr hr=>(List.mem_append.1 hr).elim (hp.2.2.1 r) (λe=>by rw [List.mem_singleton.1 e];exact FI za b9)),by rw [List.map_append,hp.2.2.2,List.range_succ,List.map_append];exact congrArg (λz=>_++[z]) b9⟩,f6⟩
 ·obtain rfl:kk=4:=za
  refine En (Lx (kD (kE (Lh (Lt (Lq (Ls (Lq (Lb (Dz (bH.tY 3 (En (Ls (Lq (LT (Lk (Lt (Ls (Lb (Lg [3,6,7,8] (Lw (eE (xJ ((bB rw).1) ((bB rw).2) (4:Nat) hI.len (by have:=hI.inv.len;omega) hI.CU hI.BI hI.xB zc (by have:=xH hp.2.2.1 4;rw [List.take_of_length_le za] at this;exact this) (λw h=>hTab w (h.drop 1)) ((((b8.pl 4).pl 4).pl 4).pl 4)) λl6 f8=>Lo (Lw (eE (nJ (⟨2,1,qk,(⟨6,0,4,cN,none,0,[],cY (wd (4:Nat)++cE ((bB rw).1) (cU ((bB rw).2)))⟩:aV),aK⟩:aD) (C7 zf (mU _)) (λ_ _=>aB.nil _ _ _) f8) λl8 f9=>Lo (Dz (aU.cT rfl zk (t:=24) (e:=51) (n:=1) (ps:=[(0,.agg (aD.cells (gR (⟨2,1,qk,(⟨6,0,4,cN,none,0,[],cY (wd (4:Nat)++cE ((bB rw).1) (cU ((bB rw).2)))⟩:aV),aK⟩:aD))))]) zk zk (ti:=Tryz.t51) (z:=.agg (aD.cells aJ)) zk zk zf zf (cs:=aD.cells (gR (⟨2,1,qk,(⟨6,0,4,cN,none,0,[],cY (wd (4:Nat)++cE ((bB rw).1) (cU ((bB rw).2)))⟩:aV),aK⟩:aD))) zk f9 λc0 g0 g5 g7=>?_))))))))))))))))))))))))))
  have g8:St w0 (Sl (some ⟨c0,0,none⟩) 1 51 121 aD.cells ([(gR (⟨2,1,qk,(⟨6,0,4,cN,none,0,[],cY (wd (4:Nat)++cE ((bB rw).1) (cU ((bB rw).2)))⟩:aV),aK⟩:aD):aD)])::aC x #[zP o 0,zP i 0,.int .u64 (4:Nat)] 123::aC i (af aG.cells ((bB rw).1)) 183::aC o #[.map (some g4)] 181::cI Value.string Value.string g4 ((bB rw).2)::Sl a0 q 46 40 bE.cells rw::L) g0:=St.lS (l:=[(gR (⟨2,1,qk,(⟨6,0,4,cN,none,0,[],cY (wd (4:Nat)++cE ((bB rw).1) (cU ((bB rw).2)))⟩:aV),aK⟩:aD):aD)]) (f:=aD.cells) g5 g7 dJ.size zl zk
  refine Lo (Dz (oV eH dJ aJ (St.bJ g8 51 121 aD.cells) zj λc1 c2 l9 h0=>Lo (bO (Lm (Lt (La (Dz (aN.again (En (Ls (Lq (LT (Lk (Lt (Ls (Lb (Lg [3,6,7,8] (Lw (eE (xJ ((bB rw).1) ((bB rw).2) (4:Nat) hI.len (by have:=hI.inv.len;omega) hI.CU hI.BI hI.xB zc (by have:=xH hp.2.2.1 4;rw [List.take_of_length_le za] at this;exact this) (λw h=>hTab w (h.drop 3)) ((((h0.pl 5).pl 5).pl 5).pl 5)) λm1 h2=>Lo (Lw (eE (nJ (⟨3,1,qk,(⟨6,0,4,cN,none,0,[],cY (wd (4:Nat)++cE ((bB rw).1) (cU ((bB rw).2)))⟩:aV),aK⟩:aD) (C7 zf (mU _)) (λ_ _=>aB.nil _ _ _) h2) λm3 h3=>Lo (Dz (aU.cT rfl zk (t:=24) (e:=51) (n:=1) (ps:=[(0,.agg (aD.cells (gR (⟨3,1,qk,(⟨6,0,4,cN,none,0,[],cY (wd (4:Nat)++cE ((bB rw).1) (cU ((bB rw).2)))⟩:aV),aK⟩:aD))))]) zk zk (ti:=Tryz.t51) (z:=.agg (aD.cells aJ)) zk zk zf zf (cs:=aD.cells (gR (⟨3,1,qk,(⟨6,0,4,cN,none,0,[],cY (wd (4:Nat)++cE ((bB rw).1) (cU ((bB rw).2)))⟩:aV),aK⟩:aD))) zk h3 λa3 h4 h5 h6=>?_)))))))))))))))))))))))
  have h7:St w0 (Sl (some ⟨a3,0,none⟩) 1 51 121 aD.cells ([(gR (⟨3,1,qk,(⟨6,0,4,cN,none,0,[],cY (wd (4:Nat)++cE ((bB rw).1) (cU ((bB rw).2)))⟩:aV),aK⟩:aD):aD)])::aC x #[zP o 0,zP i 0,.int .u64 (4:Nat)] 123::aC i (af aG.cells ((bB rw).1)) 183::aC o #[.map (some g4)] 181::cI Value.string Value.string g4 ((bB rw).2)::Sl c1 c2 51 121 aD.cells ([(gR (⟨2,1,qk,(⟨6,0,4,cN,none,0,[],cY (wd (4:Nat)++cE ((bB rw).1) (cU ((bB rw).2)))⟩:aV),aK⟩:aD):aD)])::Sl (some ⟨c0,0,none⟩) 1 51 121 aD.cells ([(gR (⟨2,1,qk,(⟨6,0,4,cN,none,0,[],cY (wd (4:Nat)++cE ((bB rw).1) (cU ((bB rw).2)))⟩:aV),aK⟩:aD):aD)])::Sl a0 q 46 40 bE.cells rw::L) h4:=St.lS (l:=[(gR (⟨3,1,qk,(⟨6,0,4,cN,none,0,[],cY (wd (4:Nat)++cE ((bB rw).1) (cU ((bB rw).2)))⟩:aV),aK⟩:aD):aD)]) (f:=aD.cells) h5 h6 dJ.size zl zk
  refine Lo (Dz (oV eH dJ aJ (h7.pl 5) zj λa1 a2 h9 i0=>Lo (bO (Lm (Lt (La (Dz (aN.again (En (Ls (Lq (LF (Lx (kD (kE (Lh (Lt (Ls (Dz ?_)))))))))))))))))))
  have hlen:=hp.2.1
  have hskl:rw.map yg=M4:=hp.2.2.2.trans rfl
  have hsb:jB rw 4=wd (4:Nat)++cE (bB rw).1 (cU (bB rw).2):=by unfold jB;rw [List.take_of_length_le za]
  have i1:St w0 (Sl a1 a2 51 121 aD.cells ([lz 2 rw,lz 3 rw])::Sl (some ⟨a3,0,none⟩) 1 51 121 aD.cells ([(gR (⟨3,1,qk,(⟨6,0,4,cN,none,0,[],cY (wd (4:Nat)++cE ((bB rw).1) (cU ((bB rw).2)))⟩:aV),aK⟩:aD):aD)])::aC x #[zP o 0,zP i 0,.int .u64 (4:Nat)] 123::aC i (af aG.cells ((bB rw).1)) 183::aC o #[.map (some g4)] 181::cI Value.string Value.string g4 ((bB rw).2)::Sl (some ⟨c0,0,none⟩) 1 51 121 aD.cells ([(gR (⟨2,1,qk,(⟨6,0,4,cN,none,0,[],cY (wd (4:Nat)++cE ((bB rw).1) (cU ((bB rw).2)))⟩:aV),aK⟩:aD):aD)])::Sl a0 q 46 40 bE.cells rw::L) h9:=(by unfold lz uK;rw [hsb];exact i0)
  refine Zn [(35,.bool false),(34,.int .i64 4),(6,.int .i64 4),(37,.int .i64 4),(36,.int .i64 3),(5,.slice a1 ((([(gR (⟨2,1,qk,(⟨6,0,4,cN,none,0,[],cY (wd (4:Nat)++cE ((bB rw).1) (cU ((bB rw).2)))⟩:aV),aK⟩:aD):aD)])++([(gR (⟨3,1,qk,(⟨6,0,4,cN,none,0,[],cY (wd (4:Nat)++cE ((bB rw).1) (cU ((bB rw).2)))⟩:aV),aK⟩:aD):aD)])).length) a2),(46,.slice a1 ((([(gR (⟨2,1,qk,(⟨6,0,4,cN,none,0,[],cY (wd (4:Nat)++cE ((bB rw).1) (cU ((bB rw).2)))⟩:aV),aK⟩:aD):aD)])++([(gR (⟨3,1,qk,(⟨6,0,4,cN,none,0,[],cY (wd (4:Nat)++cE ((bB rw).1) (cU ((bB rw).2)))⟩:aV),aK⟩:aD):aD)])).length) a2),(45,zL a3 0 1 1),(44,.agg (aD.cells (gR (⟨3,1,qk,(⟨6,0,4,cN,none,0,[],cY (wd (4:Nat)++cE ((bB rw).1) (cU ((bB rw).2)))⟩:aV),aK⟩:aD)))),(43,.agg (aD.cells (⟨3,1,qk,(⟨6,0,4,cN,none,0,[],cY (wd (4:Nat)++cE ((bB rw).1) (cU ((bB rw).2)))⟩:aV),aK⟩:aD))),(42,.agg (aV.cells (⟨6,0,4,cN,none,0,[],cY (wd (4:Nat)++cE ((bB rw).1) (cU ((bB rw).2)))⟩:aV))),(41,.agg (bI.cells (cY (wd (4:Nat)++cE ((bB rw).1) (cU ((bB rw).2)))))),(40,zP x 0),(39,.int .i64 3),(38,.slice c1 (([(gR (⟨2,1,qk,(⟨6,0,4,cN,none,0,[],cY (wd (4:Nat)++cE ((bB rw).1) (cU ((bB rw).2)))⟩:aV),aK⟩:aD):aD)]).length) c2),(0,.bool false),(1,zP x 0),(2,.slice a0 rw.length q)] (Zn [(35,.bool false),(34,.int .i64 4),(6,.int .i64 4),(37,.int .i64 4),(36,.int .i64 3),(5,.slice a1 (([lz 2 rw,lz 3 rw]).length) a2),(46,.slice a1 (([lz 2 rw,lz 3 rw]).length) a2),(45,zL a3 0 1 1),(44,.agg (aD.cells (gR (⟨3,1,qk,(⟨6,0,4,cN,none,0,[],cY (wd (4:Nat)++cE ((bB rw).1) (cU ((bB rw).2)))⟩:aV),aK⟩:aD)))),(43,.agg (aD.cells (⟨3,1,qk,(⟨6,0,4,cN,none,0,[],cY (wd (4:Nat)++cE ((bB rw).1) (cU ((bB rw).2)))⟩:aV),aK⟩:aD))),(42,.agg (aV.cells (⟨6,0,4,cN,none,0,[],cY (wd (4:Nat)++cE ((bB rw).1) (cU ((bB rw).2)))⟩:aV))),(41,.agg (bI.cells (cY (wd (4:Nat)++cE ((bB rw).1) (cU ((bB rw).2)))))),(40,zP x 0),(39,.int .i64 3),(38,.slice c1 (([(gR (⟨2,1,qk,(⟨6,0,4,cN,none,0,[],cY (wd (4:Nat)++cE ((bB rw).1) (cU ((bB rw).2)))⟩:aV),aK⟩:aD):aD)]).length) c2),(0,.bool false),(1,zP x 0),(2,.slice a0 rw.length q)] (En (Lg [2,6,7] (Lw (dE (f:=7) (args:=#[.int .i64 3,.slice a0 rw.length q,.slice a1 (([lz 2 rw,lz 3 rw]).length) a2]) Tryz.call7 (uJ 3 rw ([lz 2 rw,lz 3 rw]) ⟨zf,zf⟩ hp.2.2.1 zc (λk hk=>⟨xN k hk,λw h=>rh k hk⟩) (show 2<=1000000 by decide) (λw h=>hTab w (h.drop 8)) (λw h=>hL w (h.drop 8)) (λw h=>h.rows 7 rfl Ja.size _) (λw h=>h.rows 0 rfl dJ.size _) i1) ?_)))))
  rintro m4 m5 ⟨b,c3,rfl,i2,i3⟩
  refine Lo (Lw (eN (aX.cells dV) i3 λm6 m7 i4=>Lo (Dz (Zu 0 0 (aX.cells b) i4 λm8 d3=>Lz (Ls (Lg [3,7,8] (Dz ?_)))))))
  have m9:=Sl.cap (d3.at_ 10 rfl)
  refine Zj (Hg 1 (.eJ (.slice a0 ((rw.take 3).length) q) (.sub 0 3)) [.prop ((3:Int)=((3:Nat):Int)),.prop (((none:Option Operand)=none->(0:Nat)=0)/\(some (Operand.const (.int .i64 3))=none->(3:Nat)=rw.length)/\(0:Nat)<=3/\(3:Nat)<=q),.prop (Value.slice (if q=0 then a0 else (a0:Option Addr).map (λa=>a.add (0*40))) (3-0) (q-0)=Value.slice a0 ((rw.take 3).length) q)] (aL za (aL ⟨(by first|(intro _;rfl)|(intro hc;cases hc)),(by first|(intro _;rfl)|(intro hc;cases hc)),za,za⟩ (aL (so zw) aO))) Hz) (dE (f:=7) (args:=#[.int .i64 3,.slice a0 ((rw.take 3).length) q,.slice a1 (([lz 2 rw,lz 3 rw]).length) a2]) Tryz.call7 (uJ 3 (rw.take 3) ([lz 2 rw,lz 3 rw]) ⟨zf,zf⟩ (hp.2.2.1.take 3) zK (λk hk=>⟨xN k hk,λw h=>rh k hk⟩) (show 2<=1000000 by decide) (λw h=>hTab w (h.drop 11)) (λw h=>hL w (h.drop 11)) (λw h=>aB.tc (h.rows 10 rfl Ja.size _) _ za) (λw h=>h.rows 3 rfl dJ.size _) d3) ?_)
  rintro n0 n1 ⟨i5,c4,rfl,i6,i7⟩
  refine Lo (Lw (eN (aX.cells dV) i7 λn2 n3 i8=>Lo (Dz (Zu 0 0 (aX.cells i5) i8 λn4 a4=>Lz (Ls (Dz (bX [1] (fE 0 3 0 3 (aX.cells b) a4 Hz) ?_)))))))
  have hx:=Prod.mk.inj (i2.symm.trans (KX hlen))
  have i9:=Prod.mk.inj (i6.symm.trans (KY zK))
  have hvf:=Ho hskl hx.1
  obtain⟨t0,d,hst,a5,a6,d4⟩:=LN
  refine Zc (Hm 3 b 4 t0 d (rB a4 4 rfl) (by rw [hvf.2.1];exact Nat.le_trans (nH xM 4) zf) (by rw [hvf.2.1];exact tL _ _) (by rw [hvf.2.2.1];exact λk hk=>⟨xN k hk,λw h=>rh k hk⟩) (by rw [hvf.2.2.1];exact(by decide:2<=1000000)) ⟨zf,zf⟩ (Sl.cap (a4.at_ 4 rfl)) (λw h=>hTab w (h.drop 14)) hvf.1 (by rw [hvf.2.1];exact hst) (λw h=>h.rows 5 rfl dJ.size _) (λw h=>h.rows 4 rfl aF.size _) a4) ?_
  rintro n5 n6 ⟨n7,n8,n9,o0,o1,rfl,a7⟩
  refine Lz (Ls (Ls (Lg [16] (Dz (Zr 0 3 [] (dB 67 ((c3:Int) != 0) (λa8=>?_) (λa8=>?_)))))))
  ·exfalso;simp [hx.2] at a8
  ·refine Zr 3 4 [] (dB 71 ((c4:Int) != 4) (λa9=>?_) (λa9=>?_))
   ·exfalso;simp [i9.2] at a9
   ·refine Zj (fE 15 8 0 3 (aX.cells b) a7 Hz) (eE (re 3 b (rB a7 9 rfl) (by rw [hvf.2.1];exact Nat.le_trans (nH xM 4) zf) (by rw [hvf.2.1];exact tL _ _) (by rw [hvf.2.2.1];exact λk hk=>⟨xN k hk,λw h=>rh k hk⟩) (by rw [hvf.2.2.1];exact(by decide:2<=1000000)) ⟨zf,zf⟩ (Sl.cap (a7.at_ 9 rfl)) (λw h=>hTab w (h.drop 19)) (λw h=>h.rows 10 rfl dJ.size _) (λw h=>h.rows 9 rfl aF.size _) a7) λo3 j2=>Lz (Dz (cZ (t:=((kT 3 b):Int) != 0) (λb0=>?_) (λb0=>?_))))
    ·exfalso;simp [hvf.1] at b0
    ·refine En (Lk (Lt (Ls (Lg [1] (Lw (eE (tN t0 (cP d) 4 (⟨#[97]⟩:ByteArray) d4 j2) λo5 j4=>Lz (Ls (Lg [1] (Lw (eE (tN t0 (cP d) 4 (⟨#[122]⟩:ByteArray) d4 j4) λo7 c5=>Lz (Ls (Dz (bX [1,2,6,7] (fE 0 8 0 3 (aX.cells b) c5 Hz) (Zc (uq b (by rw [hvf.2.2.2];decide) (by rw [hvf.2.2.1];exact λk hk=>⟨xN k hk,λw h=>rh k hk⟩) (c5.dI 9 rfl) ⟨by rw [hvf.2.1];exact Nat.le_trans (nH xM 4) zf,by rw [hvf.2.2.1];exact(by decide:2<=9223372036854775807)⟩ (λw h=>h.rows 10 rfl dJ.size _) (λw h=>h.rows 9 rfl aF.size _) c5) ?_))))))))))))))
     rintro o8 o9 ⟨p0,p1,rfl,d5⟩
     refine Lo (Dz (Zc (uu (dO b) (rB d5 0 rfl) (Mr hvf.2.1 hvf.2.2.1) (mT (by rw [hvf.2.1];exact tL _ _) (by rw [hvf.2.2.1];exact BD)) (λw h=>h.rows 0 rfl aF.size _) d5) ?_))
     rintro p3 p4 ⟨c6,c7,rfl,d6,p5,p6,p7,j5⟩
     refine Lo (Lw (eN (aX.cells dV) j5 λp8 p9 j6=>Lo (Dz (Zu 0 0 (aX.cells c6) j6 λq0 c8=>Lz (Ls (Lg [11] (Dz (gS 0 4 (Hl 1 13 0 c8 Hz) (dB 103 ((b.ct:Int) == 4) (λb1=>?_) (λb1=>?_))))))))))
     ·refine gS 4 6 (Hl 5 13 2 c8 Hz) (dB 109 ((b.ml.length:Int) == 2) (λb2=>?_) (λb2=>?_))
      ·refine En (Lw (eE (BB t0 (cP d) 4 (((((c8.pl 9).pl 9).pl 9).pl 9).pl 9)) λq2 d7=>Lo (Dz (Zr 12 3 [] (dB 114 ((4:Int) == 4) (λb3=>?_) (λb3=>?_))))))
       ·refine Zp 15 4 [(16,.eJ (.bool (decide (((rf (cU (cP d)) (⟨#[97]⟩:ByteArray)).1)=(⟨#[51]⟩:ByteArray)))) (.gen []))] [(16,[.prop (Value.bool (((rf (cU (cP d)) (⟨#[97]⟩:ByteArray)).1).toList == (⟨#[51]⟩:ByteArray).toList)=Value.bool (decide (((rf (cU (cP d)) (⟨#[97]⟩:ByteArray)).1)=(⟨#[51]⟩:ByteArray))))])] (ak (aL (seq _ _) aO) gQ) (dB 118 (decide (((rf (cU (cP d)) (⟨#[97]⟩:ByteArray)).1)=(⟨#[51]⟩:ByteArray))) (λb4=>?_) (λb4=>?_))
        ·refine Zr 19 4 [] (dB 122 ((((rf (cU (cP d)) (⟨#[97]⟩:ByteArray)).2):Int) == 0) (λb5=>?_) (λb5=>?_))
         ·refine Zr 23 4 [] (dB 126 ((((rf (cU (cP d)) (⟨#[122]⟩:ByteArray)).2):Int) == 4) (λb6=>?_) (λb6=>?_))
          ·refine Zr 27 4 [] (dB 130 ((c7:Int) == 0) (λb7=>?_) (λb7=>?_))
           ·exact lD (Hl 32 5 0 d7 Hz) (Zt (Ze (bL (v:=.bool ((c6.ct:Int) == 4)) ⟨(by rw [show((c6.ct:Int) == 4)=true from by have k6:=congrArg aX.ct (Prod.mk.inj (d6.symm.trans (JD hvf.2.2.2 hvf.2.1 hvf.2.2.1))).1;exact beq_iff_eq.2 k6]),d7.dr 24⟩)))
           ·exfalso;simp [(Prod.mk.inj (d6.symm.trans (JD hvf.2.2.2 hvf.2.1 hvf.2.2.1))).2] at b7
          ·exfalso;simp [a5,a6] at b6
         ·exfalso;simp [a5,a6] at b5
        ·exfalso;simp [a5,a6] at b4
       ·exfalso;simp [a5,a6] at b3
      ·exfalso;simp [hvf.2.2.1] at b2
     ·exfalso;simp [hvf.2.2.2] at b1
end
section
variable {w0 w : World} {L : List cA}
def MA (w0:World) (L:List cA) (m:aD):Prop:=dw m/\∀ w,St w0 L w->aB w m.bd.qa m.bd.ql.length 2 (λj=>bS.cells (m.bd.ql.getD j cD))
theorem KZ {w0:World}{L:List cA}{m:aD}(h:dw m/\m.bd.qa=none/\m.bd.ql=[]):MA w0 L m:=⟨h.1,λw _=>by rw [h.2.2];exact aB.nil _ _ _⟩
structure MC (w0:World) (L:List cA) (B:Nat) (a:aX):Prop where
 ct:0<=a.ct/\a.ct<=18446744073709551615
 sl:a.sl.length<=20000
 nV:∀ z∈a.sl,0<=z/\z<256
 ml:a.ml.length<=B
 mem:∀ m∈a.ml,MA w0 L m
theorem tO {α:Type}{p:α->Prop}{l:List α}{k:Nat}{v:α}(h:∀ m∈l,p m) (hv:p v):∀ m∈l.set k v,p m:=λm hm=>(List.mem_or_eq_of_mem_set hm).elim (h m) (λe=>e▸hv)
theorem N4 (n:Int):0<=IntKind.u64.wrap n/\IntKind.u64.wrap n<=18446744073709551615:=by
 show 0<=n % 18446744073709551616/\n % 18446744073709551616<=_
 omega
def NJ:List aX->cA
 | []=>St.nothing
 | a::l=>cA.and (cA.and (Sl a.sa a.sc 5 1 aA a.sl) (Sl a.ma a.mc 51 121 aD.cells a.ml)) (NJ l)
def YS (l:List aX):cA:=NJ l.reverse
theorem Mt (l:List aX) (a:aX):YS (l++[a])=cA.and (cA.and (Sl a.sa a.sc 5 1 aA a.sl) (Sl a.ma a.mc 51 121 aD.cells a.ml)) (YS l):=by
 unfold YS
 rw [List.reverse_append]
 rfl
theorem JE {w:World}:∀ {l:List aX},(NJ l).holds w->∀ a∈l,(Sl a.sa a.sc 5 1 aA a.sl).holds w/\(Sl a.ma a.mc 51 121 aD.cells a.ml).holds w
 | [],_,a,ha=>by cases ha
 | b::l,h,a,ha=>by
  rcases List.mem_cons.1 ha with rfl|ha
  ·exact⟨h.1.1,h.1.2.1⟩
  ·exact JE h.2.1 a ha
theorem ri {w:World}{l:List aX}(h:(YS l).holds w){k:Nat}(hk:k<l.length):(Sl (l.getD k dV).sa (l.getD k dV).sc 5 1 aA (l.getD k dV).sl).holds w/\(Sl (l.getD k dV).ma (l.getD k dV).mc 51 121 aD.cells (l.getD k dV).ml).holds w:=JE h _ (List.mem_reverse.2 (bC (d:=dV) hk))
theorem Sl.L1 {α:Type}{w:World}{ad:Option Addr}{c size:Nat}{e:TypeId}{f:α->Array Value}{l:List α}(h:(Sl ad c e size f l).holds w):xP ad c:=by
 have h:w.ownsRow 0 e size (.slice ad l.length c) l.length (l.flatMap λx=>(f x).toList):=h
 rcases h.2 with⟨a,b⟩|⟨g,cap,cur,hv,_⟩
 ·simp only [Value.slice.injEq] at a
  exact .inr ⟨a.1,a.2.2⟩
 ·simp only [Value.slice.injEq] at hv
  exact .inl ⟨g,0,hv.1⟩
theorem Mu {w:World}{l:List aX}(h:(YS l).holds w){k:Nat}(hk:k<l.length):xP (l.getD k dV).sa (l.getD k dV).sc/\(l.getD k dV).sl.length<=(l.getD k dV).sc:=⟨Sl.L1 (ri h hk).1,Sl.cap (ri h hk).1⟩
theorem px {w0:World}{L:List cA}{B:Nat}{a:aX}(h:MC w0 L B a):(dO a).length<=60000:=by
 unfold dO
 split
 ·exact Nat.zero_le _
 ·split
  ·have b:=h.sl
   have d:=qM a.ml
   rw [List.length_append,pQ]
   omega
  ·exact Nat.zero_le _
theorem JF {a b:aX}(h:xF a=xF b):qO a=qO b:=(congrArg qO h:qO (xF a)=qO (xF b))
theorem JG (s:CS):(jF s).1<65536:=lV (v:=(jF s).1) (s2:=(jF s).2) rfl
theorem FJ:∀ (n:Nat) (s:CS) (l:List aD),(yV n s l).1.length<=l.length+n
 | 0,_,l=>Nat.le_refl _
 | n+1,s,l=>by
  unfold yV
  split
  ·exact Nat.le_add_right _ _
  ·split
   ·exact Nat.le_add_right _ _
   ·have:=FJ n (ur s).2.2 (l++[(ur s).1])
    rw [List.length_append,List.length_singleton] at this
    omega
theorem pW {b:List Int}{x:aX}{e:Int}(hb:b.length<=1000000) (h:qN b=(qO x,e)):x.sl.length<=1000000000/\x.ml.length<=1000000:=by
 have key:(qN b).1.sl.length<=1000000/\(qN b).1.ml.length<=1000000:=by
  unfold qN
  simp only []
  repeat' split
  all_goals first|exact⟨Nat.zero_le _,Nat.zero_le _⟩|skip
  refine⟨?_,?_⟩
  ·exact vH (Nat.le_trans (iI _) (Nat.le_trans (iI _) hb))
  ·exact Nat.le_trans (FJ _ _ _) (Nat.le_trans (Nat.add_le_add (Nat.le_refl _) (Nat.le_of_lt (JG _))) zf)
 rw [h] at key
 have e:(qO x).ml.length=x.ml.length:=by unfold qO;exact List.length_map ..
 exact⟨Nat.le_trans key.1 zf,e▸key.2⟩
def sg (t:bI):bI:=#v[t[0],t[1],t[2],IntKind.u8.wrap (t[3]+1),t[4],t[5],t[6],t[7],t[8],t[9],t[10],t[11],t[12],t[13],t[14],t[15],t[16],t[17],t[18],t[19],t[20],t[21],t[22],t[23],t[24],t[25],t[26],t[27],t[28],t[29],t[30],t[31]]
theorem Hq {t:bI}(h:∀ z∈t.toList,0<=z/\z<256):∀ z∈(sg t).toList,0<=z/\z<256:=by
 have a:∀ (i:Nat) (hi:i<32),(0:Int)<=t[i]'hi/\t[i]'hi<(256:Int):=λi hi=>h _ (by rw [Vector.mem_toList_iff];exact Vector.getElem_mem hi)
 intro z hz
 have e:(sg t).toList=[t[0],t[1],t[2],IntKind.u8.wrap (t[3]+1),t[4],t[5],t[6],t[7],t[8],t[9],t[10],t[11],t[12],t[13],t[14],t[15],t[16],t[17],t[18],t[19],t[20],t[21],t[22],t[23],t[24],t[25],t[26],t[27],t[28],t[29],t[30],t[31]]:=rfl
 rw [e] at hz
 simp only [List.mem_cons,List.not_mem_nil,or_false] at hz
 rcases hz with rfl|rfl|rfl|rfl|rfl|rfl|rfl|rfl|rfl|rfl|rfl|rfl|rfl|rfl|rfl|rfl|rfl|rfl|rfl|rfl|rfl|rfl|rfl|rfl|rfl|rfl|rfl|rfl|rfl|rfl|rfl|rfl
 all_goals first|exact a _ zf|exact iW _
theorem K0 {w0:World}{L:List cA}{m:aD}(h:MA w0 L m):MA w0 L ⟨m.og,m.nr,m.dp,m.bd,sg m.tg⟩:=⟨⟨h.1.og,h.1.nr,h.1.dp,h.1.bd,Hq h.1.tg⟩,h.2⟩
theorem FL {w0:World}{L:List cA}{n:Int}{row:List bE}{l:List aD}{a:aX}{e:Int}(hT:gE row) (hr:row.length<=1000) (hl:∀ m∈l,MA w0 L m) (h:uI n row l=(xF a,e)):MC w0 L 100 a:=by
 unfold uI at h
 split at h
 ·rename_i hf
  have b:=Ju (n:=n) (l:=l) hT (row.length / 4) za
  have d:=Fz (n:=n) (row:=row) (l:=l) (row.length / 4)
  rw [h] at b d
  have q:=ra hf
  exact⟨⟨b.1.1,Int.le_trans b.1.2 zf⟩,b.2.1,b.2.2.1,Nat.le_trans b.2.2.2 za,λm hm=>hl m (d m hm)⟩
 ·obtain⟨b,-⟩:=Prod.mk.inj h
  unfold xF at b
  simp only [aX.mk.injEq] at b
  obtain⟨o,-,-,f,-,-,i⟩:=b
  exact⟨by rw [<- o];decide,by rw [<- f];exact Nat.zero_le _,by rw [<- f];exact(λz hz=>by cases hz),by rw [<- i];exact Nat.zero_le _,by rw [<- i];exact(λm hm=>by cases hm)⟩
theorem M5:jZ Tryz.prog 39 35 3 56:=⟨zk,⟨Tryz.t35,.agg (aX.cells dV),zk,zk,zk,zk,zk⟩,zf⟩
theorem JH {adr:Option Addr}{cr:Nat}{ads:Option Addr}{cs:Nat}{adw:Option Addr}{cw:Nat}{adb:Option Addr}{cb:Nat}(n:Int) (row:List bE) (l:List vB) (raw:List aD) (turn:Int) (Q:cA) (b:List Int) (hn:-9223372036854775808<=n/\n<=9223372036854775807) (hT:gE row) (hsm:∀ r∈row,Small r.op) (hrl:row.length<=1100000000000) (hsr:∀ x∈l,(0<=x.og/\x.og<=255)/\0<=x.k/\x.k<=255) (hraw:∀ m∈raw,MA w0 L m) (hnw:adw=none->cw=0) (htn:0<=turn/\turn<=255) (hQ:∀ w,St w0 L w->Q.holds w) (hbc:b.length<=cb) (hbs:xP adb cb) (hbr:∀ w,Q.holds w->aB w adb b.length 1 (λk=>aA (b.getD k 0))) (hbb:∀ z∈b,0<=z/\z<256) (hTab:∀ w,St w0 L w->jX w) (hL:∀ w,St w0 L w->Laid w) (hr1:Rw w0 L bE.cells 40 iH adr row) (hr2:Rw w0 L vB.cells 3 cR ads l) (hr3:Rw w0 L aD.cells 121 aJ adw raw) (hr4:Rw w0 L aA 1 0 adb b) (hs:St w0 L w):Cs Tryz.prog 3 #[.int .i64 n,.slice adr row.length cr,.slice ads l.length cs,.slice adw raw.length cw,.int .u8 turn,.slice adb b.length cb] w λrv w'=>rv=.bool true/\St w0 L w':=by
 refine cL Tryz.func3 Tryz.ntmps3 (En (Lq (Ls (Ls (Lg [3] (Lw (dE (f:=4) (args:=#[.slice adr row.length cr,.slice ads l.length cs,.slice adw raw.length cw]) Tryz.call4 (EI row l raw zc zc (λw h=>hr1 _ (h.drop 0)) (λw h=>hr2 _ (h.drop 0)) (λw h=>hr3 _ (h.drop 0)) hs) ?_)))))))
 rintro v4 w5 ⟨e9,rfl,v0,f0⟩
 refine Lo (Dz (Zr 4 2 [] ?_))
 rcases Bool.eq_false_or_eq_true (!e9) with h6|h6
 ·refine py 37 true h6 ?_
  have c7:=jV h6
  exact En (bO (Lt (LT (Ls (Lg [0] (Dz (eE (sI (λw h=>hTab w (h.drop 0)) (λw h=>hL w (h.drop 0)) f0) λw9 v1=>Lz (Le (Ly (Dz (bL (v:=.bool true) ⟨rfl,v1⟩)))))))))))
 ·refine py 37 false h6 ?_
  have c7:=jN h6
  have hfw:=v0 (by simpa using h6)
  have fu:=hfw.1
  have fv:=hfw.2.1
  have fw:=hfw.2.2
  refine En (bO (Lt (Dz (Zi ((b.length:Int)>8192) (λv2=>?_) (λv2=>?_)))))
  ·exact En (Ls (Lg [0] (Dz (eE (sI (λw h=>hTab w (h.drop 0)) (λw h=>hL w (h.drop 0)) f0) λfy v3=>Lz (Le (Ly (Dz (bL (v:=.bool true) ⟨rfl,v3⟩))))))))
  ·have hq:bG Q adb b cb:=⟨hbc,hbs,hbr,hbb,za⟩
   refine En (Lk (Lt (Ls (Lg [2,4] (Lw (dE (f:=6) (args:=#[.slice adr row.length cr,.slice ads l.length cs]) Tryz.call6 (Hi row l zc zc zc zc (λw h=>hr1 _ (h.drop 0)) (λw h=>hr2 _ (h.drop 0)) f0) ?_))))))
   rintro fz ga ⟨v5,v6,a0,rfl,gb,v7,j6⟩
   refine Lo (Lw (aU.append rfl zk eH dJ (ad:=v5) (c:=v6) (xs:=a0) (ys:=raw) (adx:=adw) (cx:=cw) aJ zk j6 (hr3 _ (j6.drop 1)) hnw zb zb λa7 a5 gc v9=>Lz (Ls (Lg [3,7,8] (Lw ?_)))))
   have hall:∀ m∈a0++raw,MA w0 L m:=λm hm=>(List.mem_append.1 hm).elim (λh=>KZ (v7 m h)) (hraw m)
   refine dE (f:=7) (args:=#[.int .i64 n,.slice adr row.length cr,.slice a7 ((a0++raw).length) a5]) Tryz.call7 (uJ n row (a0++raw) zc zc zc (λk hk=>⟨(hall _ (bC (d:=aJ) hk)).1,λw h=>(hall _ (bC (d:=aJ) hk)).2 w (h.drop 1)⟩) (by rw [List.length_append];omega) (λw h=>hTab w (h.drop 1)) (λw h=>hL w (h.drop 1)) (λw h=>hr1 _ (h.drop 1)) (λw h=>h.rows 0 rfl dJ.size _) v9) ?_
   rintro gd ge ⟨d4,f1,rfl,f2,w1⟩
   refine Lo (Lw (eN (aX.cells dV) w1 λgf gh w2=>Lo (Dz (Zu 0 0 (aX.cells d4) w2 λgi w3=>Lz (Ls (Lg [3,7,8] (Lw ?_)))))))
   have c0:MC w0 L 100 d4:=FL hT za hall f2
   have gj:=c0.sl
   have gk:=c0.ml
   refine dE (f:=8) (args:=#[.int .i64 n,.slice adr row.length cr,.slice a7 ((a0++raw).length) a5]) Tryz.call8 (EE n row (a0++raw) zc zc zc (λk hk=>⟨(hall _ (bC (d:=aJ) hk)).1,λw h=>(hall _ (bC (d:=aJ) hk)).2 w (h.drop 4)⟩) (by rw [List.length_append];omega) (λw h=>hr1 _ (h.drop 4)) (λw h=>h.rows 3 rfl dJ.size _) w3) ?_
   rintro gl gm ⟨i,f3,rfl,f4,w4⟩
   refine Lo (Lw (eN (aX.cells dV) w4 λa4 gn w6=>Lo (Dz (Zu 0 0 (aX.cells i) w6 λgo c8=>Lz (Ls (Ls (Lg [6] (Dz (Zr 0 4 [] (dB 65 ((f1:Int) != f3) (λb9=>?_) (λb9=>?_)))))))))))
   ·have w7:=tU b9
    exfalso;have c1:=(Prod.mk.inj (f2.symm.trans f4)).2;simp [c1] at b9
   ·have w7:=sR b9
    have hee:=(Prod.mk.inj (f2.symm.trans f4)).1
    refine Zj (fE 4 3 0 3 (aX.cells d4) c8 (fE 5 0 0 3 (aX.cells i) c8 Hz)) ?_
    have q:MC w0 L 100 i:=FL hT za hall f4
    have gp:=q.sl
    have gq:=q.ml
    refine eE (sH d4 i (JF hee) (Nat.le_trans c0.ml zf) (λk hk=>⟨(c0.mem _ (bC (d:=aJ) hk)).1,λw h=>(c0.mem _ (bC (d:=aJ) hk)).2 w (h.drop 7)⟩) (λk hk=>⟨(q.mem _ (bC (d:=aJ) hk)).1,λw h=>(q.mem _ (bC (d:=aJ) hk)).2 w (h.drop 7)⟩) (c8.dI 4 rfl) (c8.dI 1 rfl) c0.nV (Nat.le_trans c0.sl zf) (λw h=>h.rows 5 rfl dJ.size _) (λw h=>h.rows 4 rfl aF.size _) (λw h=>h.rows 2 rfl dJ.size _) (λw h=>h.rows 1 rfl aF.size _) c8) λgs w8=>Lz (LF (Lk (Lt (Lq (Ls (Lq (Lb (Dz ?_))))))))
    have x0:=St.bJ w8 35 3 aX.cells
    have x1:=St.fD x0
    have x2:=((((((((x1.pl 8).pl 5).pl 5).pl 5).pl 4).pl 5).pl 8).pl 8).pl 8
    refine bH.loop (T:=Nat×(List aX)×(Option Addr)×Nat) (λgg=>[(0,.int .i64 n),(3,.slice adw raw.length cw),(4,.int .u8 turn),(5,.slice adb b.length cb),(12,.bool false),(13,.slice a7 ((a0++raw).length) a5),(16,zP a4 0),(18,.slice gg.2.2.1 gg.2.1.length gg.2.2.2),(19,.int .i64 (gg.1:Nat))]) (λgg w=>(gg.1<=8/\gg.2.1.length=gg.1/\∀ y∈gg.2.1,MC w0 L 200 y)/\St w0 (Sl gg.2.2.1 gg.2.2.2 35 3 aX.cells gg.2.1::YS gg.2.1::aC a4 (aX.cells i) 35::Sl i.sa i.sc 5 1 aA i.sl::Sl i.ma i.mc 51 121 aD.cells i.ml::Sl a7 a5 51 121 aD.cells (a0++raw)::L) w) (λgg=>8-gg.1) (0,([]:List aX),none,0) [0,3,4,5,12,13,16,18,19] zk ⟨⟨Nat.zero_le _,rfl,λy hy=>by cases hy⟩,x2.dr 3⟩ ?_
    rintro⟨ii,ys,a9,b0⟩ gt ⟨hp,f5⟩
    dsimp only at hp f5
    refine En (Ls (Lq (Dz (Zi ((ii:Int)<8) (λx4=>?_) (λx4=>?_)))))
    ·refine Zk (Zt (Zs (Zb (Zs (bH.join (T:=Nat×Option Addr×Nat×Option Addr×Nat) (E:=λjx=>[(0,.int .i64 n),(3,.slice adw raw.length cw),(4,.int .u8 turn),(5,.slice adb b.length cb),(12,.bool false),(13,.slice a7 ((a0++raw).length) a5),(16,zP a4 0),(18,.slice a9 ys.length b0),(19,.int .i64 (ii:Nat)),(20,zP jx.1 0)]) (F:=λjx w=>St w0 (aC jx.1 (aX.cells (⟨i.ct,jx.2.1,jx.2.2.1,i.sl,jx.2.2.2.1,jx.2.2.2.2,i.ml⟩:aX)) 35::Sl jx.2.2.2.1 jx.2.2.2.2 51 121 aD.cells i.ml::Sl jx.2.1 jx.2.2.1 5 1 aA i.sl::Sl a9 b0 35 3 aX.cells ys::YS ys::aC a4 (aX.cells i) 35::Sl i.sa i.sc 5 1 aA i.sl::Sl i.ma i.mc 51 121 aD.cells i.ml::Sl a7 a5 51 121 aD.cells (a0++raw)::L) w) ?_ ?_)))))
     ·refine bH.vr [0,1,0,0,8,28,0,0,128,508,1023,0,4095] (.rd 0 (.rd 1 (.rd 3 (.rd 4 (.rd 7 (.rd 8 (.alt (.ef 2 (.alt (.ef 5 (.alt (.ef 6 (.alt (.ef 9 (.rd 10 (.ef 11 (.ef 12 .done)))) (.ef 11 (.ef 9 (.rd 10 (.ef 12 .done)))))) (.ef 11 (.ef 6 (.ef 9 (.rd 10 (.ef 12 .done))))))) (.alt (.ef 6 (.alt (.ef 5 (.alt (.ef 9 (.rd 10 (.ef 11 (.ef 12 .done)))) (.ef 11 (.ef 9 (.rd 10 (.ef 12 .done)))))) (.ef 11 (.ef 5 (.ef 9 (.rd 10 (.ef 12 .done))))))) (.ef 11 (.alt (.ef 5 (.ef 6 (.ef 9 (.rd 10 (.ef 12 .done))))) (.ef 6 (.ef 5 (.ef 9 (.rd 10 (.ef 12 .done)))))))))) (.alt (.ef 6 (.alt (.ef 2 (.alt (.ef 5 (.alt (.ef 9 (.rd 10 (.ef 11 (.ef 12 .done)))) (.ef 11 (.ef 9 (.rd 10 (.ef 12 .done)))))) (.ef 11 (.ef 5 (.ef 9 (.rd 10 (.ef 12 .done))))))) (.ef 11 (.ef 2 (.ef 5 (.ef 9 (.rd 10 (.ef 12 .done)))))))) (.ef 11 (.alt (.ef 2 (.alt (.ef 5 (.ef 6 (.ef 9 (.rd 10 (.ef 12 .done))))) (.ef 6 (.ef 5 (.ef 9 (.rd 10 (.ef 12 .done))))))) (.ef 6 (.ef 2 (.ef 5 (.ef 9 (.rd 10 (.ef 12 .done)))))))))))))))) zk zk fX zk f5 λgu c4 gv=>Zh [(0,.gen []),(1,.gen [.int .u64 i.ct]),(3,.gen []),(4,.gen [.slice i.sa i.sl.length i.sc]),(7,.gen []),(8,.gen [.slice i.ma i.ml.length i.mc])] [(1,[.cell ⟨a4,0,none⟩ (.int .u64 i.ct)]),(4,[.cell ⟨a4,1,none⟩ (.slice i.sa i.sl.length i.sc)]),(8,[.cell ⟨a4,2,none⟩ (.slice i.ma i.ml.length i.mc)])] (ak (bP (c4.cell 2 rfl zk) aO) (ak (bP (c4.cell 2 rfl zk) aO) (ak (bP (c4.cell 2 rfl zk) aO) gQ))) (aU.alt ?_ ?_)
      ·refine Aw aP aF c4 λgw gx d5=>⟨lF d5 3 rfl [2,1,0],aU.alt ?_ ?_⟩
       ·refine uQ aP aF (0:Int) d5 4 rfl zb zb λc5 c6 gy f6=>⟨lF f6 3 rfl [2,0],aU.alt ?_ ?_⟩
        ·refine Aw eH dJ f6 λgz ha f7=>⟨lF f7 4 rfl [2,1,0],aU.alt ?_ ?_⟩
         ·exact uQ eH dJ aJ f7 6 rfl zb zb λj7 j8 hb j9=>⟨lF j9 4 rfl [0],Zr 10 1 [] (eN (aX.cells dV) j9 λx5 hd k0=>⟨lF k0 5 rfl [2,1,0],(Zu 0 0 (aX.cells (⟨i.ct,c5,c6,i.sl,j7,j8,i.ml⟩:aX)) k0 λhe x6=>Lo (Ld (Dz (oU [0,3,4,5,12,13,16,18,19,20] (x5,c5,c6,j7,j8) x6))))⟩)⟩
         exact eN (aX.cells dV) f7 λx7 hg k1=>⟨lF k1 5 rfl [2,1,0],(uQ eH dJ aJ (k1.pl 1) 7 rfl zb zb λk2 k3 hh k4=>⟨lF k4 5 rfl [0],Zr 10 1 [] (Zu 1 0 (aX.cells (⟨i.ct,c5,c6,i.sl,k2,k3,i.ml⟩:aX)) k4 λhi x9=>Lo (Ld (Dz (oU [0,3,4,5,12,13,16,18,19,20] (x7,c5,c6,k2,k3) (((((((((x9.pl 8).pl 8).pl 8).pl 8).pl 8).pl 8).pl 8).pl 7).pl 8)))))⟩)⟩
        exact eN (aX.cells dV) f6 λy1 hj k5=>⟨lF k5 4 rfl [2,1,0],(Aw eH dJ k5 λhl ho k6=>⟨lF k6 5 rfl [2,1,0],(uQ eH dJ aJ k6 7 rfl zb zb λk7 k8 hr k9=>⟨lF k9 5 rfl [0],Zr 10 1 [] (Zu 1 0 (aX.cells (⟨i.ct,c5,c6,i.sl,k7,k8,i.ml⟩:aX)) k9 λht y2=>Lo (Ld (Dz (oU [0,3,4,5,12,13,16,18,19,20] (y1,c5,c6,k7,k8) (((((((((y2.pl 8).pl 8).pl 8).pl 8).pl 8).pl 8).pl 8).pl 7).pl 8)))))⟩)⟩)⟩
       refine aU.alt ?_ ?_
       ·refine Aw eH dJ d5 λhu hv f8=>⟨lF f8 4 rfl [2,1,0],aU.alt ?_ ?_⟩
        ·refine uQ aP aF (0:Int) (f8.pl 1) 5 rfl zb zb λd6 d7 hw f9=>⟨lF f9 4 rfl [2,0],aU.alt ?_ ?_⟩
         ·exact uQ eH dJ aJ (f9.pl 1) 6 rfl zb zb λl0 l1 hx l2=>⟨lF l2 4 rfl [0],Zr 10 1 [] (eN (aX.cells dV) l2 λy6 hz l3=>⟨lF l3 5 rfl [2,1,0],(Zu 0 0 (aX.cells (⟨i.ct,d6,d7,i.sl,l0,l1,i.ml⟩:aX)) l3 λia y7=>Lo (Ld (Dz (oU [0,3,4,5,12,13,16,18,19,20] (y6,d6,d7,l0,l1) y7))))⟩)⟩
         exact eN (aX.cells dV) f9 λy8 ic l4=>⟨lF l4 5 rfl [2,1,0],(uQ eH dJ aJ (l4.pl 2) 7 rfl zb zb λl5 l6 id l7=>⟨lF l7 5 rfl [0],Zr 10 1 [] (Zu 1 0 (aX.cells (⟨i.ct,d6,d7,i.sl,l5,l6,i.ml⟩:aX)) l7 λie z0=>Lo (Ld (Dz (oU [0,3,4,5,12,13,16,18,19,20] (y8,d6,d7,l5,l6) (((((((((z0.pl 8).pl 8).pl 8).pl 8).pl 8).pl 8).pl 8).pl 7).pl 8)))))⟩)⟩
        exact eN (aX.cells dV) f8 λz2 ig l8=>⟨lF l8 5 rfl [2,1,0],(uQ aP aF (0:Int) (l8.pl 2) 6 rfl zb zb λl9 m0 ih m1=>⟨lF m1 5 rfl [2,0],(uQ eH dJ aJ (m1.pl 2) 7 rfl zb zb λm2 m3 ij m4=>⟨lF m4 5 rfl [0],Zr 10 1 [] (Zu 2 0 (aX.cells (⟨i.ct,l9,m0,i.sl,m2,m3,i.ml⟩:aX)) m4 λik z5=>Lo (Ld (Dz (oU [0,3,4,5,12,13,16,18,19,20] (z2,l9,m0,m2,m3) (((((((((z5.pl 8).pl 8).pl 8).pl 8).pl 8).pl 8).pl 7).pl 7).pl 8)))))⟩)⟩)⟩
       refine eN (aX.cells dV) d5 λm5 il g0=>⟨lF g0 4 rfl [2,1,0],aU.alt ?_ ?_⟩
       ·exact uQ aP aF (0:Int) (g0.pl 1) 5 rfl zb zb λm6 m7 io m8=>⟨lF m8 4 rfl [2,0],(Aw eH dJ m8 λip iq m9=>⟨lF m9 5 rfl [2,1,0],(uQ eH dJ aJ m9 7 rfl zb zb λn0 n1 ir n2=>⟨lF n2 5 rfl [0],Zr 10 1 [] (Zu 2 0 (aX.cells (⟨i.ct,m6,m7,i.sl,n0,n1,i.ml⟩:aX)) n2 λit z8=>Lo (Ld (Dz (oU [0,3,4,5,12,13,16,18,19,20] (m5,m6,m7,n0,n1) (((((((((z8.pl 8).pl 8).pl 8).pl 8).pl 8).pl 8).pl 7).pl 7).pl 8)))))⟩)⟩)⟩
       exact Aw eH dJ g0 λiu iv n3=>⟨lF n3 5 rfl [2,1,0],(uQ aP aF (0:Int) (n3.pl 2) 6 rfl zb zb λn4 n5 iw n6=>⟨lF n6 5 rfl [2,0],(uQ eH dJ aJ (n6.pl 1) 7 rfl zb zb λn7 n8 iy n9=>⟨lF n9 5 rfl [0],Zr 10 1 [] (Zu 2 0 (aX.cells (⟨i.ct,n4,n5,i.sl,n7,n8,i.ml⟩:aX)) n9 λiz ae=>Lo (Ld (Dz (oU [0,3,4,5,12,13,16,18,19,20] (m5,n4,n5,n7,n8) (((((((((ae.pl 8).pl 8).pl 8).pl 8).pl 8).pl 8).pl 7).pl 7).pl 8)))))⟩)⟩)⟩
      refine aU.alt ?_ ?_
      ·refine Aw eH dJ c4 λja jb g5=>⟨lF g5 3 rfl [2,1,0],aU.alt ?_ ?_⟩
       ·refine Aw aP aF g5 λjc jd g7=>⟨lF g7 4 rfl [2,1,0],aU.alt ?_ ?_⟩
        ·refine uQ aP aF (0:Int) g7 5 rfl zb zb λd8 d9 je g8=>⟨lF g8 4 rfl [2,0],aU.alt ?_ ?_⟩
         ·exact uQ eH dJ aJ (g8.pl 1) 6 rfl zb zb λo0 o1 jf o2=>⟨lF o2 4 rfl [0],Zr 10 1 [] (eN (aX.cells dV) o2 λah jg o3=>⟨lF o3 5 rfl [2,1,0],(Zu 0 0 (aX.cells (⟨i.ct,d8,d9,i.sl,o0,o1,i.ml⟩:aX)) o3 λjh ai=>Lo (Ld (Dz (oU [0,3,4,5,12,13,16,18,19,20] (ah,d8,d9,o0,o1) ai))))⟩)⟩
         exact eN (aX.cells dV) g8 λaj ji o4=>⟨lF o4 5 rfl [2,1,0],(uQ eH dJ aJ (o4.pl 2) 7 rfl zb zb λo5 o6 jj o7=>⟨lF o7 5 rfl [0],Zr 10 1 [] (Zu 1 0 (aX.cells (⟨i.ct,d8,d9,i.sl,o5,o6,i.ml⟩:aX)) o7 λjk an=>Lo (Ld (Dz (oU [0,3,4,5,12,13,16,18,19,20] (aj,d8,d9,o5,o6) (((((((((an.pl 8).pl 8).pl 8).pl 8).pl 8).pl 8).pl 8).pl 7).pl 8)))))⟩)⟩
        exact eN (aX.cells dV) g7 λap jl o8=>⟨lF o8 5 rfl [2,1,0],(uQ aP aF (0:Int) (o8.pl 1) 6 rfl zb zb λo9 p0 jm p1=>⟨lF p1 5 rfl [2,0],(uQ eH dJ aJ (p1.pl 2) 7 rfl zb zb λp2 p3 jn p4=>⟨lF p4 5 rfl [0],Zr 10 1 [] (Zu 2 0 (aX.cells (⟨i.ct,o9,p0,i.sl,p2,p3,i.ml⟩:aX)) p4 λjo au=>Lo (Ld (Dz (oU [0,3,4,5,12,13,16,18,19,20] (ap,o9,p0,p2,p3) (((((((((au.pl 8).pl 8).pl 8).pl 8).pl 8).pl 8).pl 7).pl 7).pl 8)))))⟩)⟩)⟩
       exact eN (aX.cells dV) g5 λaw jp p5=>⟨lF p5 4 rfl [2,1,0],(Aw aP aF p5 λjq jr p6=>⟨lF p6 5 rfl [2,1,0],(uQ aP aF (0:Int) p6 6 rfl zb zb λp7 p8 js p9=>⟨lF p9 5 rfl [2,0],(uQ eH dJ aJ (p9.pl 2) 7 rfl zb zb λq0 r0 jt r4=>⟨lF r4 5 rfl [0],Zr 10 1 [] (Zu 2 0 (aX.cells (⟨i.ct,p7,p8,i.sl,q0,r0,i.ml⟩:aX)) r4 λju ay=>Lo (Ld (Dz (oU [0,3,4,5,12,13,16,18,19,20] (aw,p7,p8,q0,r0) (((((((((ay.pl 8).pl 8).pl 8).pl 8).pl 8).pl 8).pl 7).pl 7).pl 8)))))⟩)⟩)⟩)⟩
      refine eN (aX.cells dV) c4 λg9 jv h0=>⟨lF h0 3 rfl [2,1,0],aU.alt ?_ ?_⟩
      ·refine Aw aP aF h0 λjw jy h1=>⟨lF h1 4 rfl [2,1,0],aU.alt ?_ ?_⟩
       ·exact uQ aP aF (0:Int) h1 5 rfl zb zb λr5 r6 jz r7=>⟨lF r7 4 rfl [2,0],(Aw eH dJ r7 λka kb r8=>⟨lF r8 5 rfl [2,1,0],(uQ eH dJ aJ r8 7 rfl zb zb λr9 s0 kc s1=>⟨lF s1 5 rfl [0],Zr 10 1 [] (Zu 2 0 (aX.cells (⟨i.ct,r5,r6,i.sl,r9,s0,i.ml⟩:aX)) s1 λke ba=>Lo (Ld (Dz (oU [0,3,4,5,12,13,16,18,19,20] (g9,r5,r6,r9,s0) (((((((((ba.pl 8).pl 8).pl 8).pl 8).pl 8).pl 8).pl 7).pl 7).pl 8)))))⟩)⟩)⟩
       exact Aw eH dJ h1 λkf kg s2=>⟨lF s2 5 rfl [2,1,0],(uQ aP aF (0:Int) (s2.pl 1) 6 rfl zb zb λs3 s4 kh s5=>⟨lF s5 5 rfl [2,0],(uQ eH dJ aJ (s5.pl 1) 7 rfl zb zb λs6 s7 ki s8=>⟨lF s8 5 rfl [0],Zr 10 1 [] (Zu 2 0 (aX.cells (⟨i.ct,s3,s4,i.sl,s6,s7,i.ml⟩:aX)) s8 λkj bf=>Lo (Ld (Dz (oU [0,3,4,5,12,13,16,18,19,20] (g9,s3,s4,s6,s7) (((((((((bf.pl 8).pl 8).pl 8).pl 8).pl 8).pl 8).pl 7).pl 7).pl 8)))))⟩)⟩)⟩
      exact Aw eH dJ h0 λkl km s9=>⟨lF s9 4 rfl [2,1,0],(Aw aP aF s9 λko kp t0=>⟨lF t0 5 rfl [2,1,0],(uQ aP aF (0:Int) t0 6 rfl zb zb λt1 t2 kq t3=>⟨lF t3 5 rfl [2,0],(uQ eH dJ aJ (t3.pl 1) 7 rfl zb zb λt4 t6 kr t7=>⟨lF t7 5 rfl [0],Zr 10 1 [] (Zu 2 0 (aX.cells (⟨i.ct,t1,t2,i.sl,t4,t6,i.ml⟩:aX)) t7 λks bi=>Lo (Ld (Dz (oU [0,3,4,5,12,13,16,18,19,20] (g9,t1,t2,t4,t6) (((((((((bi.pl 8).pl 8).pl 8).pl 8).pl 8).pl 8).pl 7).pl 7).pl 8)))))⟩)⟩)⟩)⟩
     rintro⟨b2,a3,a2,a6,a1⟩ bk bm
     have b1:St w0 (aC b2 (aX.cells (⟨i.ct,a3,a2,i.sl,a6,a1,i.ml⟩:aX)) 35::Sl a6 a1 51 121 aD.cells i.ml::Sl a3 a2 5 1 aA i.sl::Sl a9 b0 35 3 aX.cells ys::YS ys::aC a4 (aX.cells i) 35::Sl i.sa i.sc 5 1 aA i.sl::Sl i.ma i.mc 51 121 aD.cells i.ml::Sl a7 a5 51 121 aD.cells (a0++raw)::L) bk:=bm
     refine aN.fK (S':=[(0,.int .i64 n),(3,.slice adw raw.length cw),(4,.int .u8 turn),(5,.slice adb b.length cb),(12,.bool false),(13,.slice a7 ((a0++raw).length) a5),(16,zP a4 0),(18,.slice a9 ys.length b0),(19,.int .i64 (ii:Nat)),(20,zP b2 0)]) rfl (En (Lt (Ls (Lq (Dz (bH.join (T:=aX) (E:=λgg=>[(0,.int .i64 n),(3,.slice adw raw.length cw),(4,.int .u8 turn),(5,.slice adb b.length cb),(12,.bool false),(13,.slice a7 ((a0++raw).length) a5),(16,zP a4 0),(18,.slice a9 ys.length b0),(19,.int .i64 (ii:Nat)),(20,zP b2 0)]) (F:=λgg w=>(MC w0 L 200 gg)/\St w0 (aC b2 (aX.cells gg) 35::Sl gg.sa gg.sc 5 1 aA gg.sl::Sl gg.ma gg.mc 51 121 aD.cells gg.ml::Sl a9 b0 35 3 aX.cells ys::YS ys::aC a4 (aX.cells i) 35::Sl i.sa i.sc 5 1 aA i.sl::Sl i.ma i.mc 51 121 aD.cells i.ml::Sl a7 a5 51 121 aD.cells (a0++raw)::L) w) ?_ ?_))))))
     ·refine En (Lb (Lq (Dz (cZ (t:=(ii:Int) == 1) (λh2=>?_) (λh2=>?_)))))
      ·have bn:=iV h2
       exact bX [4] (Hl 1 0 0 b1 Hz) (Zu 0 0 (aX.cells (⟨IntKind.u64.wrap (i.ct+1),a3,a2,i.sl,a6,a1,i.ml⟩:aX)) b1 λkt bo=>Lo (Ld (Lm (Dz (oU [0,3,4,5,12,13,16,18,19,20] (⟨IntKind.u64.wrap (i.ct+1),a3,a2,i.sl,a6,a1,i.ml⟩:aX) ⟨⟨N4 _,q.sl,q.nV,Nat.le_trans q.ml zf,q.mem⟩,((((((((bo.pl 8).pl 8).pl 8).pl 8).pl 8).pl 8).pl 7).pl 8).pl 8⟩)))))
      ·have bn:=jC h2
       refine En (Lq (Dz (cZ (t:=(ii:Int) == 2) (λh3=>?_) (λh3=>?_))))
       ·have bq:=iV h3
        refine Zs (cS (Hl 1 0 1 b1 Hz) (Zt (Zi ((i.sl.length:Int)>0) (λbr=>?_) (λbr=>?_))))
        ·obtain⟨b6,rfl⟩:=Sl.isSome (b1.at_ 2 rfl) za
         refine ZD (eR [0,1,2,3,4,5,6,7,8,9,10,11] (.ef 12 .done)) b1 λku e0 kv=>?_
         obtain⟨a8,bs⟩:∃ n:Nat,(turn:Int) % (i.sl.length:Nat)=(n:Int)/\(n:Int)<(i.sl.length:Nat):=Dl za za
         refine Zj (Hl 1 0 1 e0 (dW 3 turn (Hl 5 0 1 e0 (Hg 7 (.div (a8:Nat)) [.prop (IntKind.i64=IntKind.i64/\(i.sl.length:Int)≠0/\Int.tmod turn (i.sl.length:Nat)=(a8:Nat))] (aL ⟨rfl,za,by rw [Int.tmod_eq_emod_of_nonneg za];exact bs.1⟩ aO) (Hx 8 (a8:Int) (i.sl.length:Int) b6 0 1 (Hg 9 (.gen [.int .u8 (i.sl.getD a8 0)]) [.cell ⟨b6,0+(a8*1),none⟩ (.int .u8 (i.sl.getD a8 0))] (bP (aB.dX (e0.rows 2 rfl aF.size (0:Int)) (k:=a8) zo (j:=0) zf zk) aO) (Hx 11 (a8:Int) (i.sl.length:Int) b6 0 1 Hz))))))) (aU.rn rfl rfl zk (b:=b6) (off:=0+(a8*1)) (v:=.int .u8 (IntKind.u8.wrap ((i.sl.getD a8 0)+1))) zk zk (ti:=Tryz.t5) zk e0 2 aF.size rfl zk zk (by rw [Nat.zero_add];exact lU (f:=aA) (size:=1) (l:=i.sl) (k:=a8) (o:=0) (n:=1) aF.size zo zf) (List.length_set ..) (xs':=i.sl.set a8 (IntKind.u8.wrap ((i.sl.getD a8 0)+1))) (by rw [Nat.zero_add];exact jW (f:=aA) (size:=1) (l:=i.sl) (k:=a8) (o:=0) aF.size zo (0:Int) (IntKind.u8.wrap ((i.sl.getD a8 0)+1)) (Nat.le_of_ble_eq_true rfl) zk) (L':=(aC b2 (aX.cells (⟨i.ct,some ⟨b6,0,none⟩,a2,i.sl,a6,a1,i.ml⟩:aX)) 35)::Sl a6 a1 51 121 aD.cells i.ml::Sl (some ⟨b6,0,none⟩) a2 5 1 aA (i.sl.set a8 (IntKind.u8.wrap ((i.sl.getD a8 0)+1)))::Sl a9 b0 35 3 aX.cells ys::YS ys::aC a4 (aX.cells i) 35::Sl i.sa i.sc 5 1 aA i.sl::Sl i.ma i.mc 51 121 aD.cells i.ml::Sl a7 a5 51 121 aD.cells (a0++raw)::L) rfl λbt bu=>Lo (Ld (Lm (Dz ?_))))
         have bv:St w0 (aC b2 (aX.cells (⟨i.ct,some ⟨b6,0,none⟩,a2,i.sl.set a8 (IntKind.u8.wrap ((i.sl.getD a8 0)+1)),a6,a1,i.ml⟩:aX)) 35::Sl a6 a1 51 121 aD.cells i.ml::Sl (some ⟨b6,0,none⟩) a2 5 1 aA (i.sl.set a8 (IntKind.u8.wrap ((i.sl.getD a8 0)+1)))::Sl a9 b0 35 3 aX.cells ys::YS ys::aC a4 (aX.cells i) 35::Sl i.sa i.sc 5 1 aA i.sl::Sl i.ma i.mc 51 121 aD.cells i.ml::Sl a7 a5 51 121 aD.cells (a0++raw)::L) bt:=(by rw [show aX.cells (⟨i.ct,some ⟨b6,0,none⟩,a2,i.sl.set a8 (IntKind.u8.wrap ((i.sl.getD a8 0)+1)),a6,a1,i.ml⟩:aX)=aX.cells (⟨i.ct,some ⟨b6,0,none⟩,a2,i.sl,a6,a1,i.ml⟩:aX) from by simp [aX.cells]];exact bu)
         exact oU [0,3,4,5,12,13,16,18,19,20] (⟨i.ct,some ⟨b6,0,none⟩,a2,i.sl.set a8 (IntKind.u8.wrap ((i.sl.getD a8 0)+1)),a6,a1,i.ml⟩:aX) ⟨⟨q.ct,(by rw [List.length_set];exact q.sl),tO q.nV (iW _),Nat.le_trans q.ml zf,q.mem⟩,((((((((bv.pl 8).pl 8).pl 8).pl 8).pl 8).pl 8).pl 7).pl 8).pl 8⟩
        ·exact Zk (Zm (oU [0,3,4,5,12,13,16,18,19,20] (⟨i.ct,a3,a2,i.sl,a6,a1,i.ml⟩:aX) ⟨⟨q.ct,q.sl,q.nV,Nat.le_trans q.ml zf,q.mem⟩,((((((((b1.pl 8).pl 8).pl 8).pl 8).pl 8).pl 8).pl 7).pl 8).pl 8⟩))
       ·have bq:=jC h3
        refine En (Lq (Dz (cZ (t:=(ii:Int) == 3) (λh4=>?_) (λh4=>?_))))
        ·have bz:=iV h4
         refine bX [3,5] (Hl 1 0 2 b1 Hz) ?_
         have t8:=b1.pl 1
         exact aU.append rfl zk eH dJ (ad:=a6) (c:=a1) (xs:=i.ml) (ys:=raw) (adx:=adw) (cx:=cw) aJ zk t8 (hr3 _ (t8.drop 9)) hnw zb zb λt9 u0 kw ca=>Lo (Lw (Zu 1 2 (aX.cells (⟨i.ct,a3,a2,i.sl,t9,u0,(i.ml++raw)⟩:aX)) ca λkx cc=>Lo (Ld (Lm (Dz (oU [0,3,4,5,12,13,16,18,19,20] (⟨i.ct,a3,a2,i.sl,t9,u0,(i.ml++raw)⟩:aX) ⟨⟨q.ct,q.sl,q.nV,(by have:=q.ml;simp only [List.length_append,List.length_set,List.length_take];omega),(λm hm=>(List.mem_append.1 hm).elim (q.mem m) (hraw m))⟩,((((((((cc.pl 8).pl 8).pl 8).pl 8).pl 8).pl 8).pl 6).pl 8).pl 8⟩))))))
        ·have bz:=jC h4
         refine En (Lq (Dz (cZ (t:=(ii:Int) == 4) (λh5=>?_) (λh5=>?_))))
         ·have ce:=iV h5
          refine Zs (cS (Hl 1 0 2 b1 Hz) (Zt (Zi ((i.ml.length:Int)>0) (λcf=>?_) (λcf=>?_))))
          ·obtain⟨b5,rfl⟩:=Sl.isSome (b1.at_ 1 rfl) za
           refine ZD (eR [0,1,2,3,4,5,6,7,8,9,10,11,12,13,14,15] (.ef 16 .done)) b1 λkz e1 la=>?_
           obtain⟨u,ch⟩:∃ n:Nat,(turn:Int) % (i.ml.length:Nat)=(n:Int)/\(n:Int)<(i.ml.length:Nat):=Dl za za
           refine Zj (Hl 1 0 2 e1 (dW 3 turn (Hl 5 0 2 e1 (Hg 7 (.div (u:Nat)) [.prop (IntKind.i64=IntKind.i64/\(i.ml.length:Int)≠0/\Int.tmod turn (i.ml.length:Nat)=(u:Nat))] (aL ⟨rfl,za,by rw [Int.tmod_eq_emod_of_nonneg za];exact ch.1⟩ aO) (Hx 8 (u:Int) (i.ml.length:Int) b5 0 121 (Hx 10 (3:Int) (32:Int) b5 (0+(u*121)+89) 1 (Hg 11 (.gen [.int .u8 (((i.ml.getD u aJ).tg)[3])]) [.cell ⟨b5,0+(u*121)+89+3,none⟩ (.int .u8 (((i.ml.getD u aJ).tg)[3]))] (bP (aB.dX (e1.rows 1 rfl dJ.size aJ) (k:=u) zo (j:=92) zf zk) aO) (Hx 13 (u:Int) (i.ml.length:Int) b5 0 121 (Hx 15 (3:Int) (32:Int) b5 (0+(u*121)+89) 1 Hz))))))))) (aU.rn rfl rfl zk (b:=b5) (off:=0+(u*121)+89+3) (v:=.int .u8 (IntKind.u8.wrap ((((i.ml.getD u aJ).tg)[3])+1))) zk zk (ti:=Tryz.t5) zk e1 1 dJ.size rfl zk zk (by rw [Nat.zero_add];exact lU (f:=aD.cells) (size:=121) (l:=i.ml) (k:=u) (o:=92) (n:=1) dJ.size zo zf) (List.length_set ..) (xs':=i.ml.set u (⟨(i.ml.getD u aJ).og,(i.ml.getD u aJ).nr,(i.ml.getD u aJ).dp,(i.ml.getD u aJ).bd,sg ((i.ml.getD u aJ).tg)⟩:aD)) (by rw [Nat.zero_add];exact jW (f:=aD.cells) (size:=121) (l:=i.ml) (k:=u) (o:=92) dJ.size zo aJ (⟨(i.ml.getD u aJ).og,(i.ml.getD u aJ).nr,(i.ml.getD u aJ).dp,(i.ml.getD u aJ).bd,sg ((i.ml.getD u aJ).tg)⟩:aD) (Nat.le_of_ble_eq_true rfl) zk) (L':=(aC b2 (aX.cells (⟨i.ct,a3,a2,i.sl,some ⟨b5,0,none⟩,a1,i.ml⟩:aX)) 35)::Sl (some ⟨b5,0,none⟩) a1 51 121 aD.cells (i.ml.set u (⟨(i.ml.getD u aJ).og,(i.ml.getD u aJ).nr,(i.ml.getD u aJ).dp,(i.ml.getD u aJ).bd,sg ((i.ml.getD u aJ).tg)⟩:aD))::Sl a3 a2 5 1 aA i.sl::Sl a9 b0 35 3 aX.cells ys::YS ys::aC a4 (aX.cells i) 35::Sl i.sa i.sc 5 1 aA i.sl::Sl i.ma i.mc 51 121 aD.cells i.ml::Sl a7 a5 51 121 aD.cells (a0++raw)::L) rfl λci cj=>Lo (Ld (Lm (Dz ?_))))
           have ck:St w0 (aC b2 (aX.cells (⟨i.ct,a3,a2,i.sl,some ⟨b5,0,none⟩,a1,i.ml.set u (⟨(i.ml.getD u aJ).og,(i.ml.getD u aJ).nr,(i.ml.getD u aJ).dp,(i.ml.getD u aJ).bd,sg ((i.ml.getD u aJ).tg)⟩:aD)⟩:aX)) 35::Sl (some ⟨b5,0,none⟩) a1 51 121 aD.cells (i.ml.set u (⟨(i.ml.getD u aJ).og,(i.ml.getD u aJ).nr,(i.ml.getD u aJ).dp,(i.ml.getD u aJ).bd,sg ((i.ml.getD u aJ).tg)⟩:aD))::Sl a3 a2 5 1 aA i.sl::Sl a9 b0 35 3 aX.cells ys::YS ys::aC a4 (aX.cells i) 35::Sl i.sa i.sc 5 1 aA i.sl::Sl i.ma i.mc 51 121 aD.cells i.ml::Sl a7 a5 51 121 aD.cells (a0++raw)::L) ci:=(by rw [show aX.cells (⟨i.ct,a3,a2,i.sl,some ⟨b5,0,none⟩,a1,i.ml.set u (⟨(i.ml.getD u aJ).og,(i.ml.getD u aJ).nr,(i.ml.getD u aJ).dp,(i.ml.getD u aJ).bd,sg ((i.ml.getD u aJ).tg)⟩:aD)⟩:aX)=aX.cells (⟨i.ct,a3,a2,i.sl,some ⟨b5,0,none⟩,a1,i.ml⟩:aX) from by simp [aX.cells]];exact cj)
           exact oU [0,3,4,5,12,13,16,18,19,20] (⟨i.ct,a3,a2,i.sl,some ⟨b5,0,none⟩,a1,i.ml.set u (⟨(i.ml.getD u aJ).og,(i.ml.getD u aJ).nr,(i.ml.getD u aJ).dp,(i.ml.getD u aJ).bd,sg ((i.ml.getD u aJ).tg)⟩:aD)⟩:aX) ⟨⟨q.ct,q.sl,q.nV,(by have:=q.ml;simp only [List.length_append,List.length_set,List.length_take];omega),tO q.mem (K0 (q.mem _ (bC (d:=aJ) za)))⟩,((((((((ck.pl 8).pl 8).pl 8).pl 8).pl 8).pl 8).pl 7).pl 8).pl 8⟩
          ·exact Zk (Zm (oU [0,3,4,5,12,13,16,18,19,20] (⟨i.ct,a3,a2,i.sl,a6,a1,i.ml⟩:aX) ⟨⟨q.ct,q.sl,q.nV,Nat.le_trans q.ml zf,q.mem⟩,((((((((b1.pl 8).pl 8).pl 8).pl 8).pl 8).pl 8).pl 7).pl 8).pl 8⟩))
         ·have ce:=jC h5
          refine En (Lq (Dz (cZ (t:=(ii:Int) == 5) (λh7=>?_) (λh7=>?_))))
          ·have cq:=iV h7
           refine Zs (cS (Hl 1 0 2 b1 Hz) (Zt (Zi ((i.ml.length:Int)>1) (λcu=>?_) (λcu=>?_))))
           ·obtain⟨b3,rfl⟩:=Sl.isSome (b1.at_ 1 rfl) za
            refine ZD (eR [0,1,2,3,4,5,6,7,8,9,10,11,12] (.ef 13 (.rd 14 (.ef 15 .done)))) b1 λlb c2 lc=>Zj (Hl 1 0 2 c2 (Hl 3 0 2 c2 (Hl 5 0 2 c2 (Hx 6 (1:Int) (i.ml.length:Int) b3 0 121 (Hg 7 (.agg (aD.cells (i.ml.getD 1 aJ))) [.prop (Array.size (aD.cells (i.ml.getD 1 aJ))=121),.cells ⟨b3,121,none⟩ (aD.cells (i.ml.getD 1 aJ))] (aL zk (eM (aB.iJ (c2.rows 1 rfl dJ.size aJ) (k:=1) zo (Nat.le_of_ble_eq_true zk) zk) aO)) (Hl 9 0 2 c2 (Hx 10 (0:Int) (i.ml.length:Int) b3 0 121 (Hg 11 (.agg (aD.cells (i.ml.getD 0 aJ))) [.prop (Array.size (aD.cells (i.ml.getD 0 aJ))=121),.cells ⟨b3,0,none⟩ (aD.cells (i.ml.getD 0 aJ))] (aL zk (eM (aB.iJ (c2.rows 1 rfl dJ.size aJ) (k:=0) zo (Nat.le_of_ble_eq_true zk) zk) aO)) (Hx 12 (0:Int) (i.ml.length:Int) b3 0 121 Hz))))))))) (aU.rn rfl rfl zk (b:=b3) (off:=0) (v:=.agg (aD.cells (i.ml.getD 1 aJ))) zk zk (ti:=Tryz.t51) zk c2 1 dJ.size rfl zk zk (by exact lU (f:=aD.cells) (size:=121) (l:=i.ml) (k:=0) (o:=0) (n:=121) dJ.size zo zf) (List.length_set ..) (xs':=i.ml.set 0 (i.ml.getD 1 aJ)) (by exact jW (f:=aD.cells) (size:=121) (l:=i.ml) (k:=0) (o:=0) dJ.size zo aJ (i.ml.getD 1 aJ) (Nat.le_of_ble_eq_true rfl) zk) (L':=(aC b2 (aX.cells (⟨i.ct,a3,a2,i.sl,some ⟨b3,0,none⟩,a1,i.ml⟩:aX)) 35)::Sl (some ⟨b3,0,none⟩) a1 51 121 aD.cells (i.ml.set 0 (i.ml.getD 1 aJ))::Sl a3 a2 5 1 aA i.sl::Sl a9 b0 35 3 aX.cells ys::YS ys::aC a4 (aX.cells i) 35::Sl i.sa i.sc 5 1 aA i.sl::Sl i.ma i.mc 51 121 aD.cells i.ml::Sl a7 a5 51 121 aD.cells (a0++raw)::L) rfl λld u1=>⟨lF u1 0 rfl [2],Zj (Hx 14 (1:Int) (i.ml.length:Int) b3 0 121 Hz) (aU.rn rfl rfl zk (b:=b3) (off:=121) (v:=.agg (aD.cells (i.ml.getD 0 aJ))) zk zk (ti:=Tryz.t51) zk u1 1 dJ.size rfl zk zk (by exact lU (f:=aD.cells) (size:=121) (l:=i.ml.set 0 (i.ml.getD 1 aJ)) (k:=1) (o:=0) (n:=121) dJ.size zo zf) (List.length_set ..) (xs':=(i.ml.set 0 (i.ml.getD 1 aJ)).set 1 (i.ml.getD 0 aJ)) (by exact jW (f:=aD.cells) (size:=121) (l:=i.ml.set 0 (i.ml.getD 1 aJ)) (k:=1) (o:=0) dJ.size zo aJ (i.ml.getD 0 aJ) (Nat.le_of_ble_eq_true rfl) zk) (L':=(aC b2 (aX.cells (⟨i.ct,a3,a2,i.sl,some ⟨b3,0,none⟩,a1,i.ml⟩:aX)) 35)::Sl (some ⟨b3,0,none⟩) a1 51 121 aD.cells ((i.ml.set 0 (i.ml.getD 1 aJ)).set 1 (i.ml.getD 0 aJ))::Sl a3 a2 5 1 aA i.sl::Sl a9 b0 35 3 aX.cells ys::YS ys::aC a4 (aX.cells i) 35::Sl i.sa i.sc 5 1 aA i.sl::Sl i.ma i.mc 51 121 aD.cells i.ml::Sl a7 a5 51 121 aD.cells (a0++raw)::L) rfl λcv cy=>Lo (Ld (Lm (Dz ?_))))⟩)
            have cz:St w0 (aC b2 (aX.cells (⟨i.ct,a3,a2,i.sl,some ⟨b3,0,none⟩,a1,(i.ml.set 0 (i.ml.getD 1 aJ)).set 1 (i.ml.getD 0 aJ)⟩:aX)) 35::Sl (some ⟨b3,0,none⟩) a1 51 121 aD.cells ((i.ml.set 0 (i.ml.getD 1 aJ)).set 1 (i.ml.getD 0 aJ))::Sl a3 a2 5 1 aA i.sl::Sl a9 b0 35 3 aX.cells ys::YS ys::aC a4 (aX.cells i) 35::Sl i.sa i.sc 5 1 aA i.sl::Sl i.ma i.mc 51 121 aD.cells i.ml::Sl a7 a5 51 121 aD.cells (a0++raw)::L) cv:=(by rw [show aX.cells (⟨i.ct,a3,a2,i.sl,some ⟨b3,0,none⟩,a1,(i.ml.set 0 (i.ml.getD 1 aJ)).set 1 (i.ml.getD 0 aJ)⟩:aX)=aX.cells (⟨i.ct,a3,a2,i.sl,some ⟨b3,0,none⟩,a1,i.ml⟩:aX) from by simp [aX.cells]];exact cy)
            exact oU [0,3,4,5,12,13,16,18,19,20] (⟨i.ct,a3,a2,i.sl,some ⟨b3,0,none⟩,a1,(i.ml.set 0 (i.ml.getD 1 aJ)).set 1 (i.ml.getD 0 aJ)⟩:aX) ⟨⟨q.ct,q.sl,q.nV,(by have:=q.ml;simp only [List.length_append,List.length_set,List.length_take];omega),tO (tO q.mem (q.mem _ (bC (d:=aJ) za))) (q.mem _ (bC (d:=aJ) za))⟩,((((((((cz.pl 8).pl 8).pl 8).pl 8).pl 8).pl 8).pl 7).pl 8).pl 8⟩
           ·exact Zk (Zm (oU [0,3,4,5,12,13,16,18,19,20] (⟨i.ct,a3,a2,i.sl,a6,a1,i.ml⟩:aX) ⟨⟨q.ct,q.sl,q.nV,Nat.le_trans q.ml zf,q.mem⟩,((((((((b1.pl 8).pl 8).pl 8).pl 8).pl 8).pl 8).pl 7).pl 8).pl 8⟩))
          ·have cq:=jC h7
           refine En (Lq (Dz (cZ (t:=(ii:Int) == 6) (λh8=>?_) (λh8=>?_))))
           ·have dc:=iV h8
            refine Zs (bH.join (T:=Unit) (E:=λ_=>[(170,.bool ((decide ((i.ml.length:Int)>0)) && (decide ((((a0++raw).length:Nat):Int)>0)))),(0,.int .i64 n),(3,.slice adw raw.length cw),(4,.int .u8 turn),(5,.slice adb b.length cb),(12,.bool false),(13,.slice a7 ((a0++raw).length) a5),(16,zP a4 0),(18,.slice a9 ys.length b0),(19,.int .i64 (ii:Nat)),(20,zP b2 0)]) (F:=λ_ w=>St w0 (aC b2 (aX.cells (⟨i.ct,a3,a2,i.sl,a6,a1,i.ml⟩:aX)) 35::Sl a6 a1 51 121 aD.cells i.ml::Sl a3 a2 5 1 aA i.sl::Sl a9 b0 35 3 aX.cells ys::YS ys::aC a4 (aX.cells i) 35::Sl i.sa i.sc 5 1 aA i.sl::Sl i.ma i.mc 51 121 aD.cells i.ml::Sl a7 a5 51 121 aD.cells (a0++raw)::L) w) ?_ ?_)
            ·refine Zg [] (gS 0 5 (Hl 1 0 2 b1 Hz) (dB 166 (decide ((i.ml.length:Int)>0)) (λc3=>?_) (λc3=>?_)))
             ·exact En (bO (Dz (aN.pick [170,0,3,4,5,12,13,16,18,19,20] (S':=[(170,.bool (decide ((((a0++raw).length:Nat):Int)>0))),(0,.int .i64 n),(3,.slice adw raw.length cw),(4,.int .u8 turn),(5,.slice adb b.length cb),(12,.bool false),(13,.slice a7 ((a0++raw).length) a5),(16,zP a4 0),(18,.slice a9 ys.length b0),(19,.int .i64 (ii:Nat)),(20,zP b2 0)]) zk (aN.eZ () (by first|rfl|(simp only [h6,c7,b9,c3,Bool.not_true,Bool.not_false,Bool.true_or,Bool.false_or,Bool.true_and,Bool.false_and,Bool.or_true,Bool.or_false,Bool.and_true,Bool.and_false];done)|(simp [h6,c7,b9,c3];done)) b1))))
             ·exact En (bO (Dz (aN.pick [170,0,3,4,5,12,13,16,18,19,20] (S':=[(170,.bool false),(0,.int .i64 n),(3,.slice adw raw.length cw),(4,.int .u8 turn),(5,.slice adb b.length cb),(12,.bool false),(13,.slice a7 ((a0++raw).length) a5),(16,zP a4 0),(18,.slice a9 ys.length b0),(19,.int .i64 (ii:Nat)),(20,zP b2 0)]) zk (aN.eZ () (by first|rfl|(simp only [h6,c7,b9,c3,Bool.not_true,Bool.not_false,Bool.true_or,Bool.false_or,Bool.true_and,Bool.false_and,Bool.or_true,Bool.or_false,Bool.and_true,Bool.and_false];done)|(simp [h6,c7,b9,c3];done)) b1))))
            intro _ lg e2
            refine Zt (cZ (t:=(decide ((i.ml.length:Int)>0)) && (decide ((((a0++raw).length:Nat):Int)>0))) (λh9=>?_) (λh9=>?_))
            ·have de:=(Bool.and_eq_true_iff.1 h9).1
             have lh:=of_decide_eq_true de
             have df:=(Bool.and_eq_true_iff.1 h9).2
             have li:=of_decide_eq_true df
             obtain⟨b7,rfl⟩:=Sl.isSome (e2.at_ 1 rfl) za
             obtain⟨e3,rfl⟩:=Sl.isSome (e2.at_ 8 rfl) za
             refine ZD (eR [0,1,2,3,4,5,6,7,8,9,10] (.ef 11 .done)) e2 ?_
             intro lj i0 ll
             obtain⟨b4,dh⟩:∃ n:Nat,(turn:Int) % ((a0++raw).length:Nat)=(n:Int)/\(n:Int)<((a0++raw).length:Nat):=Dl za za
             refine Zj (Hl 1 0 2 i0 (dW 4 turn (Hg 7 (.div (b4:Nat)) [.prop (IntKind.i64=IntKind.i64/\(((a0++raw).length:Nat):Int)≠0/\Int.tmod turn ((a0++raw).length:Nat)=(b4:Nat))] (aL ⟨rfl,za,by rw [Int.tmod_eq_emod_of_nonneg za];exact dh.1⟩ aO) (Hx 8 (b4:Int) (((a0++raw).length:Nat):Int) e3 0 121 (Hg 9 (.agg (aD.cells ((a0++raw).getD b4 aJ))) [.prop (Array.size (aD.cells ((a0++raw).getD b4 aJ))=121),.cells ⟨e3,0+(b4*121),none⟩ (aD.cells ((a0++raw).getD b4 aJ))] (aL zk (eM (aB.iJ (i0.rows 8 rfl dJ.size aJ) (k:=b4) zo (Nat.le_of_ble_eq_true zk) zk) aO)) (Hx 10 (0:Int) (i.ml.length:Int) b7 0 121 Hz)))))) ?_
             refine aU.rn rfl rfl zk (b:=b7) (off:=0) (v:=.agg (aD.cells ((a0++raw).getD b4 aJ))) zk zk (ti:=Tryz.t51) zk i0 1 dJ.size rfl zk zk (by exact lU (f:=aD.cells) (size:=121) (l:=i.ml) (k:=0) (o:=0) (n:=121) dJ.size zo zf) (List.length_set ..) (xs':=i.ml.set 0 ((a0++raw).getD b4 aJ)) (by exact jW (f:=aD.cells) (size:=121) (l:=i.ml) (k:=0) (o:=0) dJ.size zo aJ ((a0++raw).getD b4 aJ) (Nat.le_of_ble_eq_true rfl) zk) (L':=(aC b2 (aX.cells (⟨i.ct,a3,a2,i.sl,some ⟨b7,0,none⟩,a1,i.ml⟩:aX)) 35)::Sl (some ⟨b7,0,none⟩) a1 51 121 aD.cells (i.ml.set 0 ((a0++raw).getD b4 aJ))::Sl a3 a2 5 1 aA i.sl::Sl a9 b0 35 3 aX.cells ys::YS ys::aC a4 (aX.cells i) 35::Sl i.sa i.sc 5 1 aA i.sl::Sl i.ma i.mc 51 121 aD.cells i.ml::Sl (some ⟨e3,0,none⟩) a5 51 121 aD.cells (a0++raw)::L) rfl λdi dj=>Lo (Ld (Lm (Dz ?_)))
             have dk:St w0 (aC b2 (aX.cells (⟨i.ct,a3,a2,i.sl,some ⟨b7,0,none⟩,a1,i.ml.set 0 ((a0++raw).getD b4 aJ)⟩:aX)) 35::Sl (some ⟨b7,0,none⟩) a1 51 121 aD.cells (i.ml.set 0 ((a0++raw).getD b4 aJ))::Sl a3 a2 5 1 aA i.sl::Sl a9 b0 35 3 aX.cells ys::YS ys::aC a4 (aX.cells i) 35::Sl i.sa i.sc 5 1 aA i.sl::Sl i.ma i.mc 51 121 aD.cells i.ml::Sl (some ⟨e3,0,none⟩) a5 51 121 aD.cells (a0++raw)::L) di:=(by rw [show aX.cells (⟨i.ct,a3,a2,i.sl,some ⟨b7,0,none⟩,a1,i.ml.set 0 ((a0++raw).getD b4 aJ)⟩:aX)=aX.cells (⟨i.ct,a3,a2,i.sl,some ⟨b7,0,none⟩,a1,i.ml⟩:aX) from by simp [aX.cells]];exact dj)
             exact oU [0,3,4,5,12,13,16,18,19,20] (⟨i.ct,a3,a2,i.sl,some ⟨b7,0,none⟩,a1,i.ml.set 0 ((a0++raw).getD b4 aJ)⟩:aX) ⟨⟨q.ct,q.sl,q.nV,(by have:=q.ml;simp only [List.length_append,List.length_set,List.length_take];omega),tO q.mem (hall _ (bC (d:=aJ) za))⟩,((((((((dk.pl 8).pl 8).pl 8).pl 8).pl 8).pl 8).pl 7).pl 8).pl 8⟩
            ·exact Zk (Zm (oU [0,3,4,5,12,13,16,18,19,20] (⟨i.ct,a3,a2,i.sl,a6,a1,i.ml⟩:aX) ⟨⟨q.ct,q.sl,q.nV,Nat.le_trans q.ml zf,q.mem⟩,((((((((e2.pl 8).pl 8).pl 8).pl 8).pl 8).pl 8).pl 7).pl 8).pl 8⟩))
           ·refine En (Lq (Dz (cZ (t:=(ii:Int) == 7) (λi1=>?_) (λi1=>?_))))
            ·refine Zg [11] ?_
             have lm:=Sl.cap (b1.at_ 1 rfl)
             refine Zj (Hl 1 0 2 b1 (Hl 3 0 2 b1 (dW 6 turn (Hg 7 (.div (turn % 4)) [.prop (IntKind.i64=IntKind.i64/\(4:Int)≠0/\Int.tmod turn 4=turn % 4)] (aL ⟨rfl,zf,Int.tmod_eq_emod_of_nonneg (by first|omega|exact Int.natCast_nonneg _)⟩ aO) (Hg 8 (.eJ (.int .i64 (min (i.ml.length:Nat) (turn % 4))) (.gen [])) [.prop (Value.int .i64 (if (turn % 4)<(i.ml.length:Nat) then (turn % 4) else (i.ml.length:Nat))=Value.int .i64 (min (i.ml.length:Nat) (turn % 4)))] (aL ME aO) (Hg 9 (.eJ (.slice a6 ((i.ml.take (Int.toNat (min (i.ml.length:Nat) (turn % 4)))).length) a1) (.sub 0 (Int.toNat (min (i.ml.length:Nat) (turn % 4))))) [.prop ((min (i.ml.length:Nat) (turn % 4):Int)=((Int.toNat (min (i.ml.length:Nat) (turn % 4)):Nat):Int)),.prop (((none:Option Operand)=none->(0:Nat)=0)/\(some (Operand.tmp 192)=none->(Int.toNat (min (i.ml.length:Nat) (turn % 4)):Nat)=i.ml.length)/\(0:Nat)<=Int.toNat (min (i.ml.length:Nat) (turn % 4))/\(Int.toNat (min (i.ml.length:Nat) (turn % 4)):Nat)<=a1),.prop (Value.slice (if a1=0 then a6 else (a6:Option Addr).map (λa=>a.add (0*121))) ((Int.toNat (min (i.ml.length:Nat) (turn % 4)))-0) (a1-0)=Value.slice a6 ((i.ml.take (Int.toNat (min (i.ml.length:Nat) (turn % 4)))).length) a1)] (aL za (aL ⟨(by first|(intro _;rfl)|(intro hc;cases hc)),(by first|(intro _;rfl)|(intro hc;cases hc)),za,za⟩ (aL (so zw) aO))) Hz)))))) (Zu 0 2 (aX.cells (⟨i.ct,a3,a2,i.sl,a6,a1,i.ml.take (Int.toNat (min (i.ml.length:Nat) (turn % 4)))⟩:aX)) b1 λdq ds=>Lo (Ld (Lm (Dz ?_))))
             have dt:=ds.pl 1
             have du:St w0 (Sl a6 a1 51 121 aD.cells (i.ml.take (Int.toNat (min (i.ml.length:Nat) (turn % 4))))::aC b2 (aX.cells (⟨i.ct,a3,a2,i.sl,a6,a1,i.ml.take (Int.toNat (min (i.ml.length:Nat) (turn % 4)))⟩:aX)) 35::Sl a3 a2 5 1 aA i.sl::Sl a9 b0 35 3 aX.cells ys::YS ys::aC a4 (aX.cells i) 35::Sl i.sa i.sc 5 1 aA i.sl::Sl i.ma i.mc 51 121 aD.cells i.ml::Sl a7 a5 51 121 aD.cells (a0++raw)::L) dq:=St.Jm (ys:=i.ml.drop (Int.toNat (min (i.ml.length:Nat) (turn % 4)))) dJ.size (by rw [List.take_append_drop];exact dt)
             exact oU [0,3,4,5,12,13,16,18,19,20] (⟨i.ct,a3,a2,i.sl,a6,a1,i.ml.take (Int.toNat (min (i.ml.length:Nat) (turn % 4)))⟩:aX) ⟨⟨q.ct,q.sl,q.nV,(by have:=q.ml;simp only [List.length_append,List.length_set,List.length_take];omega),(λm hm=>q.mem m (List.mem_of_mem_take hm))⟩,((((((((du.pl 8).pl 8).pl 8).pl 8).pl 8).pl 8).pl 6).pl 8).pl 8⟩
            ·exact Zk (Zm (oU [0,3,4,5,12,13,16,18,19,20] (⟨i.ct,a3,a2,i.sl,a6,a1,i.ml⟩:aX) ⟨⟨q.ct,q.sl,q.nV,Nat.le_trans q.ml zf,q.mem⟩,((((((((b1.pl 8).pl 8).pl 8).pl 8).pl 8).pl 8).pl 7).pl 8).pl 8⟩))
     rintro yy lo ⟨hyv,u2⟩
     refine aN.fK (S':=[(0,.int .i64 n),(3,.slice adw raw.length cw),(4,.int .u8 turn),(5,.slice adb b.length cb),(12,.bool false),(13,.slice a7 ((a0++raw).length) a5),(16,zP a4 0),(18,.slice a9 ys.length b0),(19,.int .i64 (ii:Nat)),(20,zP b2 0)]) rfl (Zt (bX [2,3] (fE 1 0 0 3 (aX.cells yy) u2 Hz) (aU.cT rfl zk (t:=39) (e:=35) (n:=1) (ps:=[(0,.agg (aX.cells yy))]) zk zk (ti:=Tryz.t35) (z:=.agg (aX.cells dV)) zk zk zf zf (cs:=aX.cells yy) zk u2 λdy dz ea eb=>?_)))
     have ec:St w0 (Sl (some ⟨dy,0,none⟩) 1 35 3 aX.cells ([(yy:aX)])::aC b2 (aX.cells yy) 35::Sl yy.sa yy.sc 5 1 aA yy.sl::Sl yy.ma yy.mc 51 121 aD.cells yy.ml::Sl a9 b0 35 3 aX.cells ys::YS ys::aC a4 (aX.cells i) 35::Sl i.sa i.sc 5 1 aA i.sl::Sl i.ma i.mc 51 121 aD.cells i.ml::Sl a7 a5 51 121 aD.cells (a0++raw)::L) dz:=St.lS (l:=[(yy:aX)]) (f:=aX.cells) ea eb GF.size zl zk
     refine Lo (Dz (oV M5 GF dV (ec.pl 4) zb λu3 u4 ee eg=>Lo (bO (Lm (Lt (Dz (cS (dW 1 ((ii:Nat)+1) Hz) ?_)))))))
     have eh:=(((((((((eg.pl 9).pl 9).pl 9).pl 9).pl 4).pl 9).pl 9).pl 9).pl 9).pl 9
     have ei:=eh.dr 2
     have ej:St w0 (YS (ys++[yy])::Sl u3 u4 35 3 aX.cells (ys++([(yy:aX)]))::aC a4 (aX.cells i) 35::Sl i.sa i.sc 5 1 aA i.sl::Sl i.ma i.mc 51 121 aD.cells i.ml::Sl a7 a5 51 121 aD.cells (a0++raw)::L) ee:=by rw [Mt];exact St.join (St.join ei)
     exact aN.back (ii+1,(ys++[yy]),u3,u4) [0,3,4,5,12,13,16,18,19] zk (by show 8-(ii+1)<8-ii;omega) ⟨⟨za,by rw [List.length_append,hp.2.1];rfl,λy hy=>(List.mem_append.1 hy).elim (hp.2.2 y) (λc1=>by rw [List.mem_singleton.1 c1];exact hyv)⟩,(((((ej.pl 5).pl 5).pl 5).pl 5).pl 4).pl 5⟩
    ·refine En (Lx (kD (kE (Lh (Lt (Ls (Lq (Lb (Dz ?_)))))))))
     have el:=(((((f5.pl 1).pl 1).pl 5).pl 5).pl 5).pl 5
     refine bH.loop (T:=Nat) (λgg=>[(0,.int .i64 n),(5,.slice adb b.length cb),(18,.slice a9 ys.length b0),(21,.int .i64 (gg:Nat))]) (λgg w=>(gg<=ys.length)/\St w0 (Sl a9 b0 35 3 aX.cells ys::YS ys::L) w) (λgg=>ys.length-gg) 0 [0,5,18,21] zk ⟨Nat.zero_le _,el.dr 4⟩ ?_
     rintro kk lp ⟨lq,c9⟩
     refine En (Ls (Lq (Dz (Zi ((kk:Int)<(ys.length:Nat)) (λen=>?_) (λen=>?_)))))
     ·have hk:kk<ys.length:=za
      have hy:=hp.2.2 _ (bC (d:=dV) hk)
      have hys:=Mu (c9.at_ 1 rfl) hk
      obtain⟨b8,rfl⟩:=Sl.isSome (c9.at_ 0 rfl) za
      refine Zk (Zt (Zs (Zb (Zs (bX [4,5] (Hx 2 (kk:Int) (ys.length:Int) b8 0 3 (Hg 3 (.agg (aX.cells (ys.getD kk dV))) [.prop (Array.size (aX.cells (ys.getD kk dV))=3),.cells ⟨b8,0+(kk*3),none⟩ (aX.cells (ys.getD kk dV))] (aL zk (eM (aB.iJ (c9.rows 0 rfl GF.size dV) (k:=kk) zo (Nat.le_of_ble_eq_true zk) zk) aO)) Hz)) (eN (aX.cells dV) c9 λlr ls eo=>Lo (Dz (Zu 0 0 (aX.cells (ys.getD kk dV)) eo λlu u5=>Lo (Ld (Lt (Ls (Dz (bX [1] (fE 0 0 0 3 (aX.cells (ys.getD kk dV)) u5 Hz) (Zc (uq (ys.getD kk dV) hy.ct (λk hk=>⟨(hy.mem _ (bC (d:=aJ) hk)).1,λw h=>(hy.mem _ (bC (d:=aJ) hk)).2 w (h.drop 3)⟩) hys.1.nn ⟨Nat.le_trans hy.sl zf,Nat.le_trans hy.ml zf⟩ (λw h=>Sl.rows dJ.size (ri (h.at_ 2 rfl) hk).2 aJ) (λw h=>Sl.rows aF.size (ri (h.at_ 2 rfl) hk).1 (0:Int)) u5) ?_))))))))))))))
      rintro lv lw ⟨i2,u6,rfl,ep⟩
      refine Lz (Ls (Ls (Dz (ZD (eR [0,1,3,4,5,6,7] (.ef 2 (.ef 8 (eR [9,10,11,12,13,14,15,16] (.ef 17 (eR [18,19,20] .done)))))) ep λlx i3 ly=>Zj (fE 1 1 0 3 (aX.cells (ys.getD kk dV)) i3 (Hx 6 (kk:Int) (ys.length:Int) b8 0 3 (Hg 7 (.agg (aX.cells (ys.getD kk dV))) [.prop (Array.size (aX.cells (ys.getD kk dV))=3),.cells ⟨b8,0+(kk*3),none⟩ (aX.cells (ys.getD kk dV))] (aL zk (eM (aB.iJ (i3.rows 2 rfl GF.size dV) (k:=kk) zo (Nat.le_of_ble_eq_true zk) zk) aO)) Hz))) (eE (re n (ys.getD kk dV) hys.1 (Nat.le_trans hy.sl zf) hy.nV (λk hk=>⟨(hy.mem _ (bC (d:=aJ) hk)).1,λw h=>(hy.mem _ (bC (d:=aJ) hk)).2 w (h.drop 4)⟩) (Nat.le_trans hy.ml zf) zc zc (λw h=>hTab w (h.drop 4)) (λw h=>Sl.rows dJ.size (ri (h.at_ 3 rfl) hk).2 aJ) (λw h=>Sl.rows aF.size (ri (h.at_ 3 rfl) hk).1 (0:Int)) i3) λmb u7=>⟨fM (n:=[.prop (Array.size (aX.cells (ys.getD kk dV))=3),.cells ⟨b8,0+(kk*3),none⟩ (aX.cells (ys.getD kk dV)),.prop (0<=(kk:Int)/\(kk:Int)<(ys.length:Int)),.prop (Value.pointer (some (Addr.add ⟨b8,0,none⟩ (Int.toNat (kk:Nat)*3)))=Value.pointer (some ⟨b8,0+(kk*3),none⟩))]) zk (aL zk (eM (aB.iJ (u7.rows 2 rfl GF.size dV) (k:=kk) zo (Nat.le_of_ble_eq_true zk) zk) (aL za (aL (bK _ _ _) aO)))),(eE (Bu (YS ys) n (ys.getD kk dV) (λw h=>h.at_ 3 rfl) ⟨hys.2,hys.1,λw h=>Sl.rows aF.size (ri h hk).1 (0:Int),hy.nV,Nat.le_trans hy.sl zf⟩ (Nat.le_trans hy.sl zf) (λk hk=>⟨(hy.mem _ (bC (d:=aJ) hk)).1,λw h=>(hy.mem _ (bC (d:=aJ) hk)).2 w (h.drop 4)⟩) (Nat.le_trans hy.ml zf) zc (λw h=>Sl.rows dJ.size (ri (h.at_ 3 rfl) hk).2 aJ) (λw h=>Sl.rows aF.size (ri (h.at_ 3 rfl) hk).1 (0:Int)) u7) λme i4=>Lo (Dz (Zr 9 2 [] (dB 221 (((kT n (ys.getD kk dV)):Int) != (kT n (ys.getD kk dV))) (λe4=>?_) (λe4=>?_)))))⟩)))))
      ·exfalso;simp at e4
      ·refine Zr 11 1 [] (aU.fT rfl zk (src:=25) (dst:=9) (e:=5) (ad:=i2) (n:=(dO (ys.getD kk dV)).length) (cap:=u6) (f:=aA) rfl (dO (ys.getD kk dV)) rfl zk zk zk zk (mT hy.nV λm hm=>(hy.mem m hm).1) (i4.rows 0 rfl aF.size (0:Int)) (Zj (Hx 15 (kk:Int) (ys.length:Int) b8 0 3 (Hg 16 (.agg (aX.cells (ys.getD kk dV))) [.prop (Array.size (aX.cells (ys.getD kk dV))=3),.cells ⟨b8,0+(kk*3),none⟩ (aX.cells (ys.getD kk dV))] (aL zk (eM (aB.iJ (i4.rows 2 rfl GF.size dV) (k:=kk) zo (Nat.le_of_ble_eq_true zk) zk) aO)) Hz)) (Zc (wV (ys.getD kk dV) hy.ct (λk hk=>⟨(hy.mem _ (bC (d:=aJ) hk)).1,λw h=>(hy.mem _ (bC (d:=aJ) hk)).2 w (h.drop 4)⟩) hys.1.nn ⟨Nat.le_trans hy.sl zf,Nat.le_trans hy.ml zf⟩ (λw h=>Sl.rows dJ.size (ri (h.at_ 3 rfl) hk).2 aJ) (λw h=>Sl.rows aF.size (ri (h.at_ 3 rfl) hk).1 (0:Int)) i4) ?_)))
       rintro mf mg ⟨et,eu,rfl,e5⟩
       refine⟨fM (n:=[.holds (λw=>aB w i2 (dO (ys.getD kk dV)).length 1 (λk=>aA ((dO (ys.getD kk dV)).getD k 0)))]) zk (JM (e5.rows 1 rfl aF.size (0:Int)) aO),aU.fT rfl zk (src:=25) (dst:=9) (e:=5) (ad:=et) (n:=(dO (ys.getD kk dV)).length) (cap:=eu) (f:=aA) rfl (dO (ys.getD kk dV)) rfl zk zk zk zk (mT hy.nV λm hm=>(hy.mem m hm).1) (e5.rows 0 rfl aF.size (0:Int)) (lD (Hg 19 (.eJ (.bool (!(decide ((strOf (dO (ys.getD kk dV)))=(strOf (dO (ys.getD kk dV))))))) (.gen [])) [.prop (Value.bool (!((strOf (dO (ys.getD kk dV))).toList == (strOf (dO (ys.getD kk dV))).toList))=Value.bool (!(decide ((strOf (dO (ys.getD kk dV)))=(strOf (dO (ys.getD kk dV)))))))] (aL (LY _ _) aO) Hz) (Zt (cZ (t:=!(decide ((strOf (dO (ys.getD kk dV)))=(strOf (dO (ys.getD kk dV)))))) (λe6=>?_) (λe6=>?_))))⟩
       ·have i5:=jV e6
        exfalso;simp at e6
       ·have i5:=jN e6
        refine En (Lk (Lt (Ls (Lg [1,5,6] (Lw (Zc (uu (dO (ys.getD kk dV)) (rB e5 1 rfl) (Nat.le_trans (px hy) zf) (mT hy.nV λm hm=>(hy.mem m hm).1) (λw h=>h.rows 1 rfl aF.size _) e5) ?_))))))
        rintro mh mi ⟨i6,i7,rfl,d0,mj,ev,ew,ex⟩
        refine Lo (Lw (eN (aX.cells dV) ex λmm mn ey=>Lo (Dz (Zu 0 0 (aX.cells i6) ey λmo u9=>Lz (Ls (Lg [1,5,6] (Lw (Zc (wY (Sl i2 u6 5 1 aA (dO (ys.getD kk dV))) (dO (ys.getD kk dV)) (λw h=>h.at_ 5 rfl) (bG.new u9 (j:=5) rfl (mT hy.nV λm hm=>(hy.mem m hm).1) (Nat.le_trans (px hy) zf)) u9) ?_))))))))
        rintro mp mq ⟨i8,i9,rfl,j0,mr,ez,mt,fb⟩
        refine Lo (Lw (eN (aX.cells dV) fb λmu mv fc=>Lo (Dz (Zu 0 0 (aX.cells i8) fc λmw d1=>Lz (Ls (Lg [6] (Dz (Zr 0 4 [] (dB 245 ((i7:Int) != i9) (λe7=>?_) (λe7=>?_))))))))))
        ·exfalso;have c1:=(Prod.mk.inj (d0.symm.trans j0)).2;simp [c1] at e7
        ·have hee:=(Prod.mk.inj (d0.symm.trans j0)).1
         exact Zj (fE 4 4 0 3 (aX.cells i6) d1 (fE 5 0 0 3 (aX.cells i8) d1 Hz)) (eE (sH i6 i8 (Prod.mk.inj (d0.symm.trans j0)).1 (pW (by first|omega|exact Nat.le_trans (px hy) zf) d0).2 (λk hk=>⟨ev _ (bC (d:=aJ) hk),λw h=>rH (h.at_ 7 rfl) hk⟩) (λk hk=>⟨ez _ (bC (d:=aJ) hk),λw h=>rH (h.at_ 3 rfl) hk⟩) (d1.dI 5 rfl) (d1.dI 1 rfl) ew (pW (by first|omega|exact Nat.le_trans (px hy) zf) d0).1 (λw h=>h.rows 6 rfl dJ.size _) (λw h=>h.rows 5 rfl aF.size _) (λw h=>h.rows 2 rfl dJ.size _) (λw h=>h.rows 1 rfl aF.size _) d1) λmy fe=>Lz (LF (Lk (Lm (Lt (Dz (cS (dW 1 ((kk:Nat)+1) Hz) (aN.back (kk+1) [0,5,18,21] zk (by show ys.length-(kk+1)<ys.length-kk;omega) ⟨za,fe.dr 11⟩))))))))
     ·refine En (Lx (kD (kE (Lh (Lt (Ls (Lg [1,5,6] (Lw (Zc (uu b hq.L1 zc hq.nV (λw h=>hr4 _ (h.drop 2)) c9) ?_)))))))))
      rintro mz na ⟨j1,j2,rfl,d2,nb,fg,fh,fi⟩
      refine Lo (Lw (eN (aX.cells dV) fi λnc nd fj=>Lo (Dz (Zu 0 0 (aX.cells j1) fj λnf fk=>Lz (Ls (Lg [1,5,6] (Lw (Zc (wY Q b (λw h=>hQ w (h.drop 6)) hq fk) ?_))))))))
      rintro ng nh ⟨j3,j4,rfl,j5,ni,fl,nj,fm⟩
      refine Lo (Lw (eN (aX.cells dV) fm λnk nl fo=>Lo (Dz (Zu 0 0 (aX.cells j3) fo λnp d3=>Lz (Ls (Lg [6,9] (Dz (Zr 0 4 [] (dB 264 ((j2:Int) == j4) (λe8=>?_) (λe8=>?_))))))))))
      ·have hee:=(Prod.mk.inj (d2.symm.trans j5)).1
       exact Zj (fE 4 4 0 3 (aX.cells j1) d3 (fE 5 0 0 3 (aX.cells j3) d3 Hz)) (eE (sH j1 j3 (Prod.mk.inj (d2.symm.trans j5)).1 (pW (by first|omega|exact Nat.le_trans (px hy) zf) d2).2 (λk hk=>⟨fg _ (bC (d:=aJ) hk),λw h=>rH (h.at_ 7 rfl) hk⟩) (λk hk=>⟨fl _ (bC (d:=aJ) hk),λw h=>rH (h.at_ 3 rfl) hk⟩) (d3.dI 5 rfl) (d3.dI 1 rfl) fh (pW (by first|omega|exact Nat.le_trans (px hy) zf) d2).1 (λw h=>h.rows 6 rfl dJ.size _) (λw h=>h.rows 5 rfl aF.size _) (λw h=>h.rows 2 rfl dJ.size _) (λw h=>h.rows 1 rfl aF.size _) d3) λns fq=>Lo (Lw (eE (sI (λw h=>hTab w (h.drop 10)) (λw h=>hL w (h.drop 10)) fq) λnu fs=>Lz (Le (Dz (bL (v:=.bool true) ⟨rfl,fs.dr 10⟩))))))
      ·exfalso;have c1:=(Prod.mk.inj (d2.symm.trans j5)).2;simp [c1] at e8
end
end Go.Proofs.YtkmhmeldgfpfeaaGreatDoor
namespace Go.Proofs.YtkmhmeldgfpfeaaGreatDoor
open Go.RowKit Go.Sx Go.Deep
set_option linter.unusedVariables false
set_option linter.unusedSimpArgs false
set_option linter.unnecessarySimpa false
set_option maxRecDepth 100000
variable {ad : Option Addr}
abbrev cB.kinds:List FK:=[.int .u8,.str,.str,.str,.str,.int .u64]
structure cB.OK (o:cB):Prop where
 kind:0<=o.kind/\o.kind<=255
 key:o.key.size<=140737488351232
 value:o.value.size<=140737488351232
 jK:o.jK.size<=140737488351232
 dest:o.dest.size<=140737488351232
 aY:0<=o.aY/\o.aY<=18446744073709551615
theorem cB.of {cs:Array Value}(h:hZ cB.kinds cs.toList) (hw:∀ s,Value.string s∈cs.toList->s.size<=140737488351232):∃ o:cB,cB.OK o/\cs=cB.cells o:=by
 obtain⟨l⟩:=cs
 simp only at h hw
 obtain⟨_,z,rfl,⟨⟨f,rfl,i⟩,-⟩,q⟩:=aS h
 obtain⟨_,r1,rfl,⟨⟨a,rfl,w1⟩,-⟩,g1⟩:=aS q
 obtain⟨_,r2,rfl,⟨⟨b,rfl,w2⟩,-⟩,g2⟩:=aS g1
 obtain⟨_,r3,rfl,⟨⟨d,rfl,w3⟩,-⟩,g3⟩:=aS g2
 obtain⟨_,r4,rfl,⟨⟨e,rfl,w4⟩,-⟩,g4⟩:=aS g3
 obtain⟨_,r5,rfl,⟨⟨u,rfl,w⟩,-⟩,x⟩:=aS g4
 obtain rfl:=qu x
 exact⟨⟨f,a,b,d,e,u⟩,⟨(by have h:=wf_u8 i;exact h),hw a zG,hw b zG,hw d zG,hw e zG,(by have h:=wf_u64 w;exact h)⟩,rfl⟩
abbrev bE.kinds:List FK:=[.int .i64,.int .u64,.int .u8,.str,.str,.str,.str,.int .u64,.int .u8,.int .u8,.int .u8,.int .u8,.int .u8,.int .u8,.int .u8,.int .u8,.int .u8,.int .u8,.int .u8,.int .u8,.int .u8,.int .u8,.int .u8,.int .u8,.int .u8,.int .u8,.int .u8,.int .u8,.int .u8,.int .u8,.int .u8,.int .u8,.int .u8,.int .u8,.int .u8,.int .u8,.int .u8,.int .u8,.int .u8,.int .u8]
structure bE.OK (o:bE):Prop where
 aQ:-9223372036854775808<=o.aQ/\o.aQ<=9223372036854775807
 time:0<=o.time/\o.time<=18446744073709551615
 op:cB.OK o.op
theorem bE.of {cs:Array Value}(h:hZ bE.kinds cs.toList) (hw:∀ s,Value.string s∈cs.toList->s.size<=140737488351232):∃ o:bE,bE.OK o/\cs=bE.cells o:=by
 obtain⟨l⟩:=cs
 simp only at h hw
 obtain⟨_,r0,rfl,⟨⟨f,rfl,i⟩,-⟩,q⟩:=aS h
 obtain⟨_,r1,rfl,⟨⟨u,rfl,w⟩,-⟩,g1⟩:=aS q
 obtain⟨_,r2,rfl,⟨⟨x,rfl,z⟩,-⟩,g2⟩:=aS g1
 obtain⟨_,r3,rfl,⟨⟨a,rfl,w3⟩,-⟩,g3⟩:=aS g2
 obtain⟨_,r4,rfl,⟨⟨b,rfl,w4⟩,-⟩,g4⟩:=aS g3
 obtain⟨_,r5,rfl,⟨⟨d,rfl,w5⟩,-⟩,g5⟩:=aS g4
 obtain⟨_,r6,rfl,⟨⟨e,rfl,w6⟩,-⟩,g6⟩:=aS g5
 obtain⟨_,r7,rfl,⟨⟨n7,rfl,w7⟩,-⟩,g7⟩:=aS g6
 obtain⟨_,r8,rfl,⟨⟨n8,rfl,w8⟩,-⟩,g8⟩:=aS g7
 obtain⟨_,r9,rfl,⟨⟨n9,rfl,w9⟩,-⟩,g9⟩:=aS g8
 obtain⟨_,h0,rfl,⟨⟨a0,rfl,h1⟩,-⟩,a1⟩:=aS g9
 obtain⟨_,h2,rfl,⟨⟨a2,rfl,h3⟩,-⟩,a3⟩:=aS a1
 obtain⟨_,h4,rfl,⟨⟨a4,rfl,h5⟩,-⟩,a5⟩:=aS a3
 obtain⟨_,h6,rfl,⟨⟨a6,rfl,h7⟩,-⟩,a7⟩:=aS a5
 obtain⟨_,h8,rfl,⟨⟨a8,rfl,h9⟩,-⟩,a9⟩:=aS a7
 obtain⟨_,i0,rfl,⟨⟨b0,rfl,i1⟩,-⟩,b1⟩:=aS a9
 obtain⟨_,i2,rfl,⟨⟨b2,rfl,i3⟩,-⟩,b3⟩:=aS b1
 obtain⟨_,i4,rfl,⟨⟨b4,rfl,i5⟩,-⟩,b5⟩:=aS b3
 obtain⟨_,i6,rfl,⟨⟨b6,rfl,i7⟩,-⟩,b7⟩:=aS b5
 obtain⟨_,i8,rfl,⟨⟨b8,rfl,i9⟩,-⟩,b9⟩:=aS b7
 obtain⟨_,j0,rfl,⟨⟨c0,rfl,j1⟩,-⟩,c1⟩:=aS b9
 obtain⟨_,j2,rfl,⟨⟨c2,rfl,j3⟩,-⟩,c3⟩:=aS c1
 obtain⟨_,j4,rfl,⟨⟨c4,rfl,j5⟩,-⟩,c5⟩:=aS c3
 obtain⟨_,j6,rfl,⟨⟨c6,rfl,j7⟩,-⟩,c7⟩:=aS c5
 obtain⟨_,j8,rfl,⟨⟨c8,rfl,j9⟩,-⟩,c9⟩:=aS c7
 obtain⟨_,k0,rfl,⟨⟨d0,rfl,k1⟩,-⟩,d1⟩:=aS c9
 obtain⟨_,k2,rfl,⟨⟨d2,rfl,k3⟩,-⟩,d3⟩:=aS d1
 obtain⟨_,k4,rfl,⟨⟨d4,rfl,k5⟩,-⟩,d5⟩:=aS d3
 obtain⟨_,k6,rfl,⟨⟨d6,rfl,k7⟩,-⟩,d7⟩:=aS d5
 obtain⟨_,k8,rfl,⟨⟨d8,rfl,k9⟩,-⟩,d9⟩:=aS d7
 obtain⟨_,l0,rfl,⟨⟨e0,rfl,l1⟩,-⟩,e1⟩:=aS d9
 obtain⟨_,l2,rfl,⟨⟨e2,rfl,l3⟩,-⟩,e3⟩:=aS e1
 obtain⟨_,l4,rfl,⟨⟨e4,rfl,l5⟩,-⟩,e5⟩:=aS e3
 obtain⟨_,l6,rfl,⟨⟨e6,rfl,l7⟩,-⟩,e7⟩:=aS e5
 obtain⟨_,l8,rfl,⟨⟨e8,rfl,l9⟩,-⟩,e9⟩:=aS e7
 obtain⟨_,m0,rfl,⟨⟨f0,rfl,m1⟩,-⟩,f1⟩:=aS e9
 obtain⟨_,m2,rfl,⟨⟨f2,rfl,m3⟩,-⟩,f3⟩:=aS f1
 obtain⟨_,m4,rfl,⟨⟨f4,rfl,m5⟩,-⟩,f5⟩:=aS f3
 obtain⟨_,m6,rfl,⟨⟨f6,rfl,m7⟩,-⟩,f7⟩:=aS f5
 obtain⟨_,m8,rfl,⟨⟨f8,rfl,m9⟩,-⟩,f9⟩:=aS f7
 obtain rfl:=qu f9
 exact⟨⟨f,u,⟨x,a,b,d,e,n7⟩,#v[n8,n9,a0,a2,a4,a6,a8,b0,b2,b4,b6,b8,c0,c2,c4,c6,c8,d0,d2,d4,d6,d8,e0,e2,e4,e6,e8,f0,f2,f4,f6,f8]⟩,⟨(by have h:=wf_i64 i;exact h),(by have h:=wf_u64 w;exact h),⟨(by have h:=wf_u8 z;exact h),hw a zG,hw b zG,hw d zG,hw e zG,(by have h:=wf_u64 w7;exact h)⟩⟩,rfl⟩
theorem cB.OK.small {o:cB}(h:cB.OK o):oC o<=1000000000000000:=by have h1:=h.key;have h2:=h.value;have h3:=h.jK;have h4:=h.dest;simp only [oC];omega
abbrev vB.kinds:List FK:=[.int .u8,.int .u8,.bool]
structure vB.OK (o:vB):Prop where
 og:0<=o.og/\o.og<=255
 k:0<=o.k/\o.k<=255
theorem vB.of {cs:Array Value}(h:hZ vB.kinds cs.toList) (hw:∀ s,Value.string s∈cs.toList->s.size<=140737488351232):∃ o:vB,vB.OK o/\cs=vB.cells o:=by
 obtain⟨l⟩:=cs
 simp only at h hw
 obtain⟨_,q,rfl,⟨⟨a,rfl,b⟩,-⟩,d⟩:=aS h
 obtain⟨_,r1,rfl,⟨⟨e,rfl,f⟩,-⟩,g1⟩:=aS d
 obtain⟨_,r2,rfl,⟨⟨i,rfl⟩,-⟩,g2⟩:=aS g1
 obtain rfl:=qu g2
 exact⟨⟨a,e,i⟩,⟨by have h:=wf_u8 b;exact h,by have h:=wf_u8 f;exact h⟩,rfl⟩
theorem JI {T:TypeId->Value->Prop}{k:IntKind}{ks:List GK}:∀ (n:Nat){vs:List Value},gN T (List.replicate n (.int k)++ks) vs->∃ (l:List Int) (rest:List Value),l.length=n/\(∀ z∈l,(Lit.int k z).wf=true)/\vs=l.map (Value.int k)++rest/\gN T ks rest
 | 0,vs,h=>⟨[],vs,rfl,λz hz=>(by cases hz),rfl,h⟩
 | n+1,vs,h=>by
  obtain⟨_,r,rfl,⟨a,rfl,w⟩,g⟩:=dU (show gN T (GK.int k::(List.replicate n (.int k)++ks)) vs from h)
  obtain⟨l,rest,h1,h2,rfl,h3⟩:=JI n g
  refine⟨a::l,rest,by rw [List.length_cons,h1],λz hz=>?_,rfl,h3⟩
  rcases List.mem_cons.1 hz with rfl|hz
  ·exact w
  ·exact h2 z hz
section
variable {T : TypeId -> Value -> Prop} {ks : List GK} {vs : List Value} {W : World}
theorem bI.of (h:gN T (List.replicate 32 (.int .u8)++ks) vs):∃ (d:bI) (rest:List Value),vs=(bI.cells d).toList++rest/\(∀ z∈d.toList,0<=z/\z<256)/\gN T ks rest:=by
 obtain⟨l,rest,a,b,rfl,e⟩:=JI 32 h
 refine⟨⟨l.toArray,by simpa using a⟩,rest,?_,λz hz=>?_,e⟩
 ·rw [bI.JX];simp
 ·have:=wf_u8 (b z (by simpa using hz));omega
theorem cW.of (h:gN T (List.replicate 11 (.int .u64)++ks) vs):∃ (d:cW) (rest:List Value),vs=(cW.cells d).toList++rest/\(∀ z∈d.toList,0<=z/\z<=18446744073709551615)/\gN T ks rest:=by
 obtain⟨l,rest,a,b,rfl,e⟩:=JI 11 h
 refine⟨⟨l.toArray,by simpa using a⟩,rest,?_,λz hz=>wf_u64 (b z (by simpa using hz)),e⟩
 rw [cW.JX];simp
abbrev NK:List GK:=[.int .u8,.str,.str,.str,.str,.int .u64]
abbrev NL:List GK:=.int .i64::.int .u64::(NK++List.replicate 32 (.int .u8))
abbrev M6:List GK:=.int .u8::.int .u64::.int .u64::(NL++(.sl 47::List.replicate 32 (.int .u8)))
abbrev NM:List GK:=.int .i64::.int .u64::(List.replicate 11 (.int .u64)++(M6++List.replicate 32 (.int .u8)))
theorem lP.of (h:gN T (NK++ks) vs):∃ (o:lP) (rest:List Value),vs=(lP.cells o).toList++rest/\((0<=o.kd/\o.kd<=255)/\(0<=o.am/\o.am<=18446744073709551615))/\gN T ks rest:=by
 obtain⟨_,z,rfl,⟨a,rfl,b⟩,g1⟩:=dU h
 obtain⟨_,r1,rfl,⟨d,rfl,-⟩,g2⟩:=dU g1
 obtain⟨_,r2,rfl,⟨e,rfl,-⟩,g3⟩:=dU g2
 obtain⟨_,r3,rfl,⟨f,rfl,-⟩,g4⟩:=dU g3
 obtain⟨_,r4,rfl,⟨i,rfl,-⟩,q⟩:=dU g4
 obtain⟨_,u,rfl,⟨w,rfl,x⟩,g6⟩:=dU q
 exact⟨⟨a,d,e,f,i,w⟩,u,rfl,⟨wf_u8 b,wf_u64 x⟩,g6⟩
theorem eG.of (h:gN T (NL++ks) vs):∃ (o:eG) (rest:List Value),vs=(eG.cells o).toList++rest/\vv o/\gN T ks rest:=by
 replace h:gN T (.int .i64::.int .u64::(NK++(List.replicate 32 (.int .u8)++ks))) vs:=h
 obtain⟨_,u,rfl,⟨b,rfl,e⟩,g1⟩:=dU h
 obtain⟨_,r1,rfl,⟨f,rfl,i⟩,g2⟩:=dU g1
 obtain⟨op,r2,rfl,a,g3⟩:=lP.of g2
 obtain⟨d,r3,rfl,q,g4⟩:=bI.of g3
 exact⟨⟨b,f,op,d⟩,r3,rfl,⟨wf_i64 e,wf_u64 i,a.1,a.2,q⟩,g4⟩
def Mv (W:World) (T:TypeId->Value->Prop):Prop:=∀ ad n c,T 47 (.slice ad n c)->∃ l:List bS,l.length=n/\l.length<=9223372036854775807/\(∀ p∈l,(-9223372036854775808<=p.rp/\p.rp<=9223372036854775807)/\(0<=p.nm/\p.nm<=18446744073709551615))/\aB W ad l.length 2 (λk=>bS.cells (l.getD k cD))
def NN (W:World) (T:TypeId->Value->Prop):Prop:=∀ ad n c,T 24 (.slice ad n c)->∃ l:List aD,l.length=n/\(∀ m∈l,dw m/\aB W m.bd.qa m.bd.ql.length 2 (λk=>bS.cells (m.bd.ql.getD k cD)))/\aB W ad l.length 121 (λk=>aD.cells (l.getD k aJ))
def NO (W:World) (T:TypeId->Value->Prop):Prop:=∀ ad n c,T 25 (.slice ad n c)->∃ l:List Int,l.length=n/\(∀ z∈l,0<=z/\z<256)/\(ad=none->c=0)/\aB W ad l.length 1 (λk=>aA (l.getD k 0))
theorem aV.of (hP:Mv W T) (h:gN T (M6++ks) vs):∃ (o:aV) (rest:List Value),vs=(aV.cells o).toList++rest/\(kN o/\aB W o.qa o.ql.length 2 (λk=>bS.cells (o.ql.getD k cD)))/\gN T ks rest:=by
 replace h:gN T (.int .u8::.int .u64::.int .u64::(NL++(.sl 47::(List.replicate 32 (.int .u8)++ks)))) vs:=h
 obtain⟨_,r0,rfl,⟨a,rfl,b⟩,g1⟩:=dU h
 obtain⟨_,r1,rfl,⟨e,rfl,f⟩,g2⟩:=dU g1
 obtain⟨_,r2,rfl,⟨i,rfl,q⟩,g3⟩:=dU g2
 obtain⟨rq,r3,rfl,u,g4⟩:=eG.of g3
 obtain⟨_,r4,rfl,⟨ad,n,c,rfl,w⟩,x⟩:=dU g4
 obtain⟨l,rfl,z,h2,h3⟩:=hP _ _ _ w
 obtain⟨d,r5,rfl,w5,g6⟩:=bI.of x
 exact⟨⟨a,e,i,rq,ad,c,l,d⟩,r5,rfl,⟨⟨wf_u8 b,wf_u64 f,wf_u64 q,u,h2,w5,z⟩,h3⟩,g6⟩
theorem aD.of (hP:Mv W T) (h:gN T (NM++ks) vs):∃ (o:aD) (rest:List Value),vs=(aD.cells o).toList++rest/\(dw o/\aB W o.bd.qa o.bd.ql.length 2 (λk=>bS.cells (o.bd.ql.getD k cD)))/\gN T ks rest:=by
 replace h:gN T (.int .i64::.int .u64::(List.replicate 11 (.int .u64)++(M6++(List.replicate 32 (.int .u8)++ks)))) vs:=h
 obtain⟨_,r0,rfl,⟨b,rfl,e⟩,g1⟩:=dU h
 obtain⟨_,r1,rfl,⟨f,rfl,i⟩,g2⟩:=dU g1
 obtain⟨dp,r2,rfl,q,g3⟩:=cW.of g2
 have u:gN T (M6++(List.replicate 32 (.int .u8)++ks)) r2:=by simpa only [M6,List.cons_append,List.append_assoc] using g3
 obtain⟨bd,r3,rfl,a,g4⟩:=aV.of hP u
 obtain⟨d,w,rfl,x,z⟩:=bI.of g4
 exact⟨⟨b,f,dp,bd,d⟩,w,rfl,⟨⟨wf_i64 e,wf_u64 i,q,a.1,x⟩,a.2⟩,z⟩
end
section
variable {H : Type} {enc : TypeId × Value -> H} {w : World} {base : Nat} {spare : Nat -> Bool} {held : Bool}
theorem K1:Mv w (LO enc Tryz.prog w base spare held):=λad n c ⟨d,ps,h⟩=>by
 obtain⟨hn,cell,hr,hc⟩:=sJ (m:=8) (ks:=[.int .i64,.int .u64]) Tryz.underlying47 zk zk zf h
 obtain⟨l,hl,hp,hw⟩:=kG cD (f:=bS.cells) (λp=>(-9223372036854775808<=p.rp/\p.rp<=9223372036854775807)/\(0<=p.nm/\p.nm<=18446744073709551615)) hr (λk hk=>by
  have g:=hc k hk
  generalize cell k=cs at g ⊢
  obtain⟨vs⟩:=cs
  obtain⟨_,r0,rfl,⟨n0,rfl,w0⟩,g1⟩:=dU g
  obtain⟨_,r1,rfl,⟨n1,rfl,w1⟩,g2⟩:=dU g1
  obtain rfl:=uM g2
  exact⟨⟨n0,n1⟩,⟨wf_i64 w0,wf_u64 w1⟩,rfl⟩)
 exact⟨l,hl,by rw [hl];exact hn,hp,hw⟩
theorem K2:NN w (LO enc Tryz.prog w base spare held):=λad n c ⟨d,ps,h⟩=>by
 obtain⟨-,cell,hr,hc⟩:=sJ (m:=8) (ks:=NM) Tryz.underlying24 zk zk zf h
 obtain⟨l,hl,hp,hw⟩:=kG aJ (f:=aD.cells) (λm=>dw m/\aB w m.bd.qa m.bd.ql.length 2 (λk=>bS.cells (m.bd.ql.getD k cD))) hr (λk hk=>by
  have g:=hc k hk
  generalize cell k=cs at g ⊢
  obtain⟨vs⟩:=cs
  rw [<- List.append_nil NM] at g
  obtain⟨m,r,rfl,w1,g1⟩:=aD.of K1 g
  obtain rfl:=uM g1
  exact⟨m,w1,rfl⟩)
 exact⟨l,hl,hp,hw⟩
theorem K3:NO w (LO enc Tryz.prog w base spare held):=λad n c ⟨d,ps,h⟩=>by
 have h0:ad=none->c=0:=λe=>by
  subst e
  obtain⟨fuel,hf⟩:=h
  rcases open_slice Tryz.underlying25 hf with⟨hcs,_⟩|⟨a,len,cap,mm,nn,D,Pl,hcs,_⟩
  ·simp [Value.cells] at hcs;exact hcs.2
  ·simp [Value.cells] at hcs
 obtain⟨-,cell,hr,hc⟩:=sJ (m:=8) (ks:=[.int .u8]) Tryz.underlying25 zk zk zf h
 obtain⟨l,hl,hp,hw⟩:=kG (0:Int) (f:=aA) (λz=>0<=z/\z<256) hr (λk hk=>by
  have g:=hc k hk
  generalize cell k=cs at g ⊢
  obtain⟨vs⟩:=cs
  obtain⟨_,r0,rfl,⟨n0,rfl,w0⟩,g1⟩:=dU g
  obtain rfl:=uM g1
  exact⟨n0,by have:=wf_u8 w0;omega,rfl⟩)
 exact⟨l,hl,hp,h0,hw⟩
end
def NP (ad:Option Addr) (b:List Int):cA:=⟨λ_=>True,λw=>aB w ad b.length 1 (λk=>aA (b.getD k 0)),λw w' h h1 hn=>by
 obtain⟨c,off,he,h2⟩:=h1 hn
 exact⟨c,off,he,λk hk i hi=>(World.cell?_of_block (h _ trivial)).trans (h2 k hk i hi)⟩⟩
section
variable {H : Type} {enc : TypeId × Value -> H} {w : World} {base : Nat} {spare : Nat -> Bool} {held : Bool}
theorem JJ {n c:Nat}{d:DataW H}{ps:List MemPlace}(h:DataW.Trod enc Tryz.prog w base spare held 25 (.slice ad n c) d ps):∃ l:List Int,l.length=n/\l.length<=c/\(∀ z∈l,0<=z/\z<256)/\aB w ad l.length 1 (λk=>aA (l.getD k 0)):=by
 obtain⟨hcap,-,-,-,-⟩:=qv (m:=8) (ks:=[.int .u8]) Tryz.underlying25 zk zk zf h
 obtain⟨l,rfl,a,-,b⟩:=K3 (w:=w) _ _ _ ⟨d,ps,h⟩
 exact⟨l,rfl,hcap,a,b⟩
theorem K4 {n c:Nat}{d:DataW H}{ps:List MemPlace}(h:DataW.Trod enc Tryz.prog w base spare held 24 (.slice ad n c) d ps):∃ l:List aD,l.length=n/\(∀ m∈l,dw m/\aB w m.bd.qa m.bd.ql.length 2 (λk=>bS.cells (m.bd.ql.getD k cD)))/\aB w ad l.length 121 (λk=>aD.cells (l.getD k aJ)):=K2 (w:=w) _ _ _ ⟨d,ps,h⟩
end
theorem xO {P:Program}{w:World}{r:Reach}{base:Nat}{t e:TypeId}{ad:Option Addr}{n c:Nat}(ht:P.underlying t=some (.slice e)) (h:Value.okWide P w r base t (.slice ad n c)):xP ad c:=by
 simp only [Value.okWide,ht,Cell.okWide,Cell.ok] at h
 cases ad with
 | none=>cases n<;>cases c<;>first|exact .inr ⟨rfl,rfl⟩|exact absurd h zG
 | some a =>
  obtain⟨b,off,s⟩:=a
  have d:s=none:=h.2.2.2.1
  subst d
  exact .inl ⟨b,off,rfl⟩
theorem Hr {l:List bE}(h:∀ r∈l,bE.OK r):gE l:=λr hr=>⟨(h r hr).time,(h r hr).op.aY.1⟩
theorem St.tab {W w:World}{L:List cA}(hs:St W L w){j:Nat}(hj:L[j]?=some (Ao W)) (hT:jX W):jX w:=aB.base hT (λk _=>bN.size _) hs j hj
theorem EM (W:World) (hL:Laid W) (hT:jX W){n turn:Int}(hn:-9223372036854775808<=n/\n<=9223372036854775807) (htn:0<=turn/\turn<=255){adr ads adw adb:Option Addr}{cr cs cw cb:Nat}(row:List bE) (l:List vB) (raw:List aD) (b:List Int) (hrow:∀ r∈row,bE.OK r) (hrl:row.length<=1100000000000) (hl:∀ x∈l,vB.OK x) (hraw:∀ m∈raw,dw m/\aB W m.bd.qa m.bd.ql.length 2 (λk=>bS.cells (m.bd.ql.getD k cD))) (hsw:xP adw cw) (hbc:b.length<=cb) (hbs:xP adb cb) (hbb:∀ z∈b,0<=z/\z<256)
 (r1:aB W adr row.length 40 (λk=>bE.cells (row.getD k iH))) (r2:aB W ads l.length 3 (λk=>vB.cells (l.getD k cR))) (r3:aB W adw raw.length 121 (λk=>aD.cells (raw.getD k aJ))) (r4:aB W adb b.length 1 (λk=>aA (b.getD k 0))) :
 Calls Tryz.prog 3 #[.int .i64 n,.slice adr row.length cr,.slice ads l.length cs,.slice adw raw.length cw,.int .u8 turn,.slice adb b.length cb] W (pE λrv w'=>rv=.bool true/\Below W.heap.size W w'):=by
 refine Calls.ret (JH (w0:=W) (L:=[Ao W]) n row l raw turn (NP adb b) b hn (Hr hrow) (λr hr=>(hrow r hr).op.small) hrl (λx hx=>⟨(hl x hx).og,(hl x hx).k⟩) (λm hm=>⟨(hraw m hm).1,λw h=>(hraw m hm).2.base (λk _=>vu.size _) h 0 rfl⟩) hsw.nn htn (λw h=>r4.base (λk _=>rfl) h 0 rfl) hbc hbs (λw h=>h) hbb (λw h=>St.tab h (j:=0) rfl hT) (λw h=>hL.base h 0 rfl) (λw h=>r1.base (λk _=>Ja.size _) h 0 rfl) (λw h=>r2.base (λk _=>NI.size _) h 0 rfl) (λw h=>r3.base (λk _=>dJ.size _) h 0 rfl) (λw h=>r4.base (λk _=>rfl) h 0 rfl) (St.start W)) ?_
 rintro rv w' ⟨rfl,h⟩
 exact⟨rfl,h.below 0 rfl⟩
end Go.Proofs.YtkmhmeldgfpfeaaGreatDoor
