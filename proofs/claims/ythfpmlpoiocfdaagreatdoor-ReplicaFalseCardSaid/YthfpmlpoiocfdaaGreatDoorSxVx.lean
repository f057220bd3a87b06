/-
  Several texts in one: SxK, SxL, SxN, SxO, SxCF, SxF, SxM, SxQ, SxR, SxU, SxY, SxZ, SxIN, SxX, SxWB, SxRF, SxST, SxV, SxAP, SxP.
-/
import Derived.Test.YthfpmlpoiocfdaaGreatDoorSxUx
import Derived.Maps.RangeRun
import Derived.Laws.IdiomStrings
import Derived.ProofKit
import Derived.OpenShut
import Derived.ShutString
import Derived.ChangeOld
import Derived.Deep.Slices
import Derived.SizedLaws
import Derived.Laws.CopyRow
import Derived.Laws.BytesString
import Derived.Laws.MakeOwn
import Derived.Laws.Append
namespace Go.Sx
open Go.RowKit
open Go.ChangeMaps (setBlock)
set_option linter.unusedVariables false
set_option linter.unusedSimpArgs false
set_option linter.unusedSectionVars false
section
variable {α β : Type} [DecidableEq α] {ek : α -> Value} {ev : β -> Value}
theorem mB (x:List ((α×β)×Nat)) (j:Nat):(dP ek ev x)[j]?=x[j]?.map λy=>({ key:=ek y.1.1,val:=ev y.1.2,born:=y.2 }:MapEntry):=by simp [dP]
theorem sE {γ:Type}{q:List γ}(h:q.Nodup){i j:Nat}(hi:i<q.length) (hj:j<q.length) (e:q[i]=q[j]):i=j:=by
 have hp:=List.pairwise_iff_getElem.1 h
 rcases Nat.lt_trichotomy i j with h1|h1|h1
 ·exact absurd e (hp i j hi hj h1)
 ·exact h1
 ·exact absurd e.symm (hp j i hj hi h1)
theorem mU {γ δ:Type}{f:γ->δ}{q:List γ}(h:(q.map f).Nodup):q.Nodup:=(List.pairwise_map.1 h).imp λh1 e=>h1 (congrArg f e)
theorem ye {γ δ:Type}{f:γ->δ}{q:List γ}(h:(q.map f).Nodup){a b:γ}(ha:a∈q) (hb:b∈q) (e:f a=f b):a=b:=by
 obtain⟨i,hi,rfl⟩:=List.getElem_of_mem ha
 obtain⟨j,hj,rfl⟩:=List.getElem_of_mem hb
 have:=sE h (i:=i) (j:=j) (by simpa using hi) (by simpa using hj) (by simpa using e)
 subst this
 rfl
theorem rj {γ:Type}:∀ {q m:List γ},q.Nodup->(∀ a∈q,a∈m)->q.length<=m.length
 | [],_,_,_=>Nat.zero_le _
 | a::q,m,h,hs=>by
  obtain⟨m1,m2,rfl⟩:=List.append_of_mem (hs a (List.mem_cons_self ..))
  have h1:=List.nodup_cons.1 h
  have:=rj (q:=q) (m:=m1++m2) h1.2 (λb hb=>by
   have hb':=hs b (List.mem_cons_of_mem _ hb)
   rcases List.mem_append.1 hb' with h2|h2
   ·exact List.mem_append_left _ h2
   ·rcases List.mem_cons.1 h2 with h3|h3
    ·subst h3;exact absurd hb h1.1
    ·exact List.mem_append_right _ h3)
  simp only [List.length_append,List.length_cons] at this ⊢
  omega
theorem yO (x:List ((α×β)×Nat)) (k:α) (v:β) (b:Nat):(dP ek ev x).push { key:=ek k,val:=ev v,born:=b }=dP ek ev (x++[((k,v),b)]):=by simp [dP]
theorem nY (x:List ((α×β)×Nat)) (j:Nat) (f:MapEntry->MapEntry) (g:((α×β)×Nat)->((α×β)×Nat)) (h:∀ y,x[j]?=some y->f { key:=ek y.1.1,val:=ev y.1.2,born:=y.2 }={ key:=ek (g y).1.1,val:=ev (g y).1.2,born:=(g y).2 }) :
 (dP ek ev x).modify j f=dP ek ev (x.modify j g):=by
 apply Array.ext_getElem?
 intro i
 rw [Array.getElem?_modify,mB,mB,List.getElem?_modify]
 by_cases hij:j=i
 ·subst hij
  simp only [if_true]
  cases hx:x[j]? with
  | none=>rfl
  | some y=>simp [h y hx]
 ·simp only [if_neg hij]
  cases x[i]? <;> rfl
theorem vD (k:α) (v:β):∀ (x:List ((α×β)×Nat)) (i:Nat),posOf x k i=none->hY (x.map (λy:(α×β)×Nat=>y.1)) k v=x.map (λy:(α×β)×Nat=>y.1)++[(k,v)]/\qp (x.map (λy:(α×β)×Nat=>y.1)) k=x.map (λy:(α×β)×Nat=>y.1)/\jA (x.map (λy:(α×β)×Nat=>y.1)) k=none
 | [],_,_=>⟨rfl,rfl,rfl⟩
 | x::m,i,h=>by
  by_cases hx:x.1.1=k
  ·simp [posOf,hx] at h
  ·simp only [posOf,if_neg hx] at h
   obtain⟨h1,h2,h3⟩:=vD k v m (i+1) h
   simp only [jA] at h3
   simp only [List.map_cons,hY,qp,jA,if_neg hx,h1,h2,List.find?_cons,decide_eq_false hx,h3,List.cons_append,and_self]
theorem vE (k:α) (v:β):∀ (x:List ((α×β)×Nat)) (i j:Nat) (u:β),posOf x k i=some (j,u)->∃ d s,j=i+d/\x[d]?=some ((k,u),s)/\hY (x.map (λy:(α×β)×Nat=>y.1)) k v=(x.modify d λy=>((k,v),y.2)).map (λy:(α×β)×Nat=>y.1) /\
 qp (x.map (λy:(α×β)×Nat=>y.1)) k=(x.eraseIdx d).map (λy:(α×β)×Nat=>y.1)/\jA (x.map (λy:(α×β)×Nat=>y.1)) k=some u
 | [],_,_,_,h=>by simp [posOf] at h
 | x::m,i,j,u,h=>by
  by_cases hx:x.1.1=k
  ·subst hx
   simp only [posOf,if_true,Option.some.injEq,Prod.mk.injEq] at h
   obtain⟨rfl,rfl⟩:=h
   exact⟨0,x.2,rfl,rfl,by simp [hY],by simp [qp],by simp [jA]⟩
  ·simp only [posOf,if_neg hx] at h
   obtain⟨d,s,h1,h2,h3,h4,h5⟩:=vE k v m (i+1) j u h
   simp only [jA] at h5
   refine⟨d+1,s,za,by simpa using h2,?_,?_,?_⟩
   ·simp only [List.map_cons,hY,if_neg hx,h3,List.modify_succ_cons]
   ·simp only [List.map_cons,qp,if_neg hx,h4,List.eraseIdx_cons_succ]
   ·simp only [jA,List.map_cons,List.find?_cons,decide_eq_false hx,h5]
theorem rk (x:List ((α×β)×Nat)) (d:Nat) (k:α) (v:β):(x.modify d λy=>((k,v),y.2)).map (λy:(α×β)×Nat=>y.2)=x.map (λy:(α×β)×Nat=>y.2):=by
 apply List.ext_getElem?
 intro i
 simp only [List.getElem?_map,List.getElem?_modify]
 by_cases h:d=i
 ·subst h;cases x[d]? <;> simp
 ·simp [h]
variable {P : Program} {T K E : TypeId} {w w0 : World} {L : List bA} {r : Nat} {m : List (α × β)}
theorem gH {es:Array MapEntry}{clock:Nat}(o:Obj) (hb:w.heap[r]?=some (.map es clock)):(setObj r o).run P w=.ok () (setBlock w r o):=by simp [setObj,Sem.run,hb,setBlock]
theorem St.nZ {A':bA}(hs:St w0 (bR ek ev r m::L) w){o:Obj}(hA:A'.holds (setBlock w r o)) (hown:∀ b,A'.own b->b=r):St w0 (A'::L) (setBlock w r o):=by
 have hlt:r<w.heap.size:=hs.lt _ (List.mem_cons_self ..) r rfl
 refine St.step hs rfl rfl rfl (by simp [setBlock]) (λb hb hn=>?_) hA (λb hb=>⟨.inl (hown b hb),by rw [hown b hb];simpa [setBlock] using hlt⟩)
 simp only [setBlock,Array.getElem?_setIfInBounds]
 rw [if_neg (λe=>hn e.symm)]
theorem nF.PQ {x:List ((α×β)×Nat)}{clk:Nat}(h:nF ek ev r m x clk w) (k:α) (v:β) (hlt:r<w.heap.size) :
 (∃ d u s,posOf x k 0=some (d,u)/\x[d]?=some ((k,u),s)/\nF ek ev r (hY m k v) (x.modify d λy=>((k,v),y.2)) clk (setBlock w r (.map (dP ek ev (x.modify d λy=>((k,v),y.2))) clk))/\((k,v),s)∈(x.modify d λy=>((k,v),y.2))/\jA m k=some u /\
  nF ek ev r (qp m k) (x.eraseIdx d) clk (setBlock w r (.map (dP ek ev (x.eraseIdx d)) clk))) \/
 (posOf x k 0=none/\nF ek ev r (hY m k v) (x++[((k,v),clk)]) (clk+1) (setBlock w r (.map (dP ek ev (x++[((k,v),clk)])) (clk+1)))/\jA m k=none/\qp m k=m):=by
 obtain⟨hb,rfl,h1,h2,h3⟩:=h
 have hset:∀ o,(setBlock w r o).heap[r]?=some o:=λo=>by simp [setBlock,hlt]
 cases hp:posOf x k 0 with
 | none =>
  obtain⟨e1,e2,e3⟩:=vD k v x 0 hp
  refine .inr ⟨rfl,⟨hset _,by rw [e1];simp,?_,?_,qq k v _ h3⟩,e3,e2⟩
  ·intro y hy
   rcases List.mem_append.1 hy with hy|hy
   ·have:=h1 y hy;omega
   ·simp only [List.mem_singleton] at hy;subst hy;simp
  ·rw [List.map_append,List.nodup_append]
   refine⟨h2,by simp,?_⟩
   intro a ha b hb' e
   simp only [List.map_cons,List.map_nil,List.mem_singleton] at hb'
   subst hb' e
   obtain⟨y,hy,rfl⟩:=List.mem_map.1 ha
   have:=h1 y hy
   omega
 | some q =>
  obtain⟨j,u⟩:=q
  obtain⟨d,s,hd,e1,e2,e3,e4⟩:=vE k v x 0 j u hp
  have hd':j=d:=za
  subst hd'
  have hsub:(x.eraseIdx j).Sublist x:=List.eraseIdx_sublist ..
  refine .inl ⟨j,u,s,rfl,e1,⟨hset _,e2.symm,?_,by rw [rk];exact h2,qq k v _ h3⟩,?_,e4,⟨hset _,e3.symm,λy hy=>h1 y (hsub.subset hy),h2.sublist (hsub.map _),h3.sublist ((CJ k _).map _)⟩⟩
  ·intro y hy
   have hm:y.2∈(x.modify j λy=>((k,v),y.2)).map (λy:(α×β)×Nat=>y.2):=List.mem_map.2 ⟨y,hy,rfl⟩
   rw [rk] at hm
   obtain⟨z,hz,hz'⟩:=List.mem_map.1 hm
   have:=h1 z hz
   omega
  ·refine List.mem_of_getElem? (i:=j) ?_
   rw [List.getElem?_modify,e1]
   simp
theorem rm (h:gG P T ek ev K E){x:List ((α×β)×Nat)}{d:Nat}{k:α}{u:β}{s:Nat}(e:x[d]?=some ((k,u),s)):(Instr.keyThatStays ((((dP ek ev x)[d]?).map (·.key)).getD (ek k)) (ek k)).run P w=.ok (ek k) w:=by
 rw [mB,e]
 simp only [Option.map_some,Option.getD_some,Instr.keyThatStays,h.bits,if_true,Sem.run_pure]
end
section
variable {P : Program} {R0 : Exit -> Act -> World -> Prop} {N : Fr} {Kk : List fQ} {S : Env} {w w0 : World} {l : List Oper} {M : List Nat} {A : dN} {rest : PT} {L : List bA}
variable {α β : Type} [DecidableEq α] {ek : α -> Value} {ev : β -> Value} {T K E : TypeId}
def GH (S:Env) (o:Oper):Option (TypeId×Value×Value×Value) :=
 match o.op with
 | .mapUpdate t x i y=>match S.op x,S.op i,S.op y with
  | some m,some k,some v=>some (t,m,k,v)
  | _,_,_=>none
 | _=>none
theorem pU (hl:gG P T ek ev K E){r:Nat}{k:α}{v:β}{m:List (α×β)}(hs:St w0 (bR ek ev r m::L) w) :
 ∃ w',(Instr.mapUpdate T (.map (some r)) (ek k) (ev v)).run P w=.ok () w'/\St w0 (bR ek ev r (hY m k v)::L) w':=by
 obtain⟨x,clk,h⟩:=hs.holds _ (List.mem_cons_self ..)
 have hlt:r<w.heap.size:=hs.lt _ (List.mem_cons_self ..) r rfl
 have hb:=h.cN
 have hg:(getObj r).run P w=.ok (.map (dP ek ev x) clk) w:=by simp [getObj,Sem.run,hb]
 rcases h.PQ k v hlt with⟨d,u,s,hp,hx,h1,h2,h3,h4⟩|⟨hp,h1,h2,h3⟩
 ·refine⟨_,?_,St.nZ (A':=bR ek ev r (hY m k v)) (o:=.map (dP ek ev (x.modify d λy=>((k,v),y.2))) clk) hs ⟨_,_,h1⟩ (λb hb=>hb)⟩
  simp only [Instr.mapUpdate,Sem.run_bind,run_underlying hl.CA,Result.andThen_ok,hg,run_checkKey hl,run_findKey hl,hp,Option.map_some,rm hl hx,gH _ hb]
  rw [nY (ek:=ek) (ev:=ev) x d _ (λy=>((k,v),y.2)) (λy hy=>rfl)]
 ·refine⟨_,?_,St.nZ (A':=bR ek ev r (hY m k v)) (o:=.map (dP ek ev (x++[((k,v),clk)])) (clk+1)) hs ⟨_,_,h1⟩ (λb hb=>hb)⟩
  simp only [Instr.mapUpdate,Sem.run_bind,run_underlying hl.CA,Result.andThen_ok,hg,run_checkKey hl,run_findKey hl,hp,Option.map_none,gH _ hb,yO]
theorem aL.mapUpdate {i:Nat}{o:Oper}(ho:l[i]?=some o) (hw:cZ l.toArray S o=some true) (hl:gG P T ek ev K E){r:Nat}{k:α}{v:β}(ha:GH S o=some (T,.map (some r),ek k,ev v)) (hs:St w0 L w) (j:Nat){m:List (α×β)}(hj:L[j]?=some (bR ek ev r m))
 (h:∀ w',St w0 (bR ek ev r (hY m k v)::L.eraseIdx j) w'->bH w' (opens M A i)/\aL P l M R0 Kk N A rest (S.dO o.dst undef) w'):aL P l M R0 Kk N A (.ef i rest) S w:=by
 obtain⟨w',hr,hs'⟩:=pU hl (k:=k) (v:=v) (hs.pull j hj)
 obtain⟨k1,k2⟩:=h w' hs'
 refine aL.run ho hw _ _ (λa hf=>.inr ⟨?_,rfl⟩) k1 k2
 unfold GH at ha
 split at ha
 ·rename_i t' x' i' y' hop
  split at ha
  ·rename_i m' k' v' h1 h2 h3
   simp only [Option.some.injEq,Prod.mk.injEq] at ha
   obtain⟨rfl,rfl,rfl,rfl⟩:=ha
   have h1':=hf.op h1
   have h2':=hf.op h2
   have h3':=hf.op h3
   generalize a.eval=ρ at h1' h2' h3' ⊢
   simp only [execOp,hop,h1',h2',h3',Sem.run_bind,hr,Result.andThen_ok]
   rfl
  ·cases ha
 ·cases ha
theorem St.L7 {r:Nat}{m:List (α×β)}{s:Nat}{k:α}{A':bA}(hs:St w0 (E9 ek ev r m s k::L) w){o:Obj}(hA:A'.holds (setBlock w r o)) (hown:∀ b,A'.own b->b=r):St w0 (A'::L) (setBlock w r o) :=
 St.nZ (ek:=ek) (ev:=ev) (m:=m) (hs.conv (λ⟨x,clk,h,_⟩=>⟨x,clk,h⟩) (λb hb=>hb)) hA hown
theorem AW (hl:gG P T ek ev K E){z:β}(hz:(P.info? E).bind (·.zero)=some (ev z)){r:Nat}{k:α}{m:List (α×β)}(hs:St w0 (bR ek ev r m::L) w) :
 ∃ s w',(Instr.mapEntry T (.map (some r)) (ek k)).run P w=.ok (.tuple #[ev ((jA m k).getD z),.int .i64 (s:Nat)]) w'/\St w0 (E9 ek ev r (hY m k ((jA m k).getD z)) s k::L) w':=by
 obtain⟨x,clk,h⟩:=hs.holds _ (List.mem_cons_self ..)
 have hlt:r<w.heap.size:=hs.lt _ (List.mem_cons_self ..) r rfl
 have hb:=h.cN
 have hg:(getObj r).run P w=.ok (.map (dP ek ev x) clk) w:=by simp [getObj,Sem.run,hb]
 rcases h.PQ k ((jA m k).getD z) hlt with⟨d,u,s,hp,hx,h1,h2,h3,h4⟩|⟨hp,h1,h2,h3⟩
 ·rw [h3] at h1 h2 ⊢
  simp only [Option.getD_some] at h1 h2 ⊢
  refine⟨s,_,?_,St.nZ (A':=E9 ek ev r (hY m k u) s k) (o:=.map (dP ek ev (x.modify d λy=>((k,u),y.2))) clk) hs ⟨_,_,h1,u,h2⟩ (λb hb=>hb)⟩
  simp only [Instr.mapEntry,Sem.run_bind,run_underlying hl.CA,Result.andThen_ok,hg,run_checkKey hl,run_findKey hl,hp,Option.map_some,rm hl hx,gH _ hb]
  have hm:(dP ek ev x).modify d (λe=>{ e with key:=ek k })=dP ek ev (x.modify d λy=>((k,u),y.2)):=by
   refine nY (ek:=ek) (ev:=ev) x d _ (λy=>((k,u),y.2)) (λy hy=>?_)
   rw [hx] at hy
   have:=Option.some.inj hy
   subst this
   rfl
  rw [hm]
  simp only [gH _ hb,Result.andThen_ok,Sem.run_pure,mB,hx,Option.map_some,Option.getD_some]
  rfl
 ·rw [h2] at h1 ⊢
  simp only [Option.getD_none] at h1 ⊢
  refine⟨clk,_,?_,St.nZ (A':=E9 ek ev r (hY m k z) clk k) (o:=.map (dP ek ev (x++[((k,z),clk)])) (clk+1)) hs ⟨_,_,h1,z,by simp⟩ (λb hb=>hb)⟩
  cases hei:P.info? E with
  | none=>rw [hei] at hz;cases hz
  | some ei =>
  rw [hei] at hz
  simp only [Option.bind_some] at hz
  simp only [Instr.mapEntry,Sem.run_bind,run_underlying hl.CA,Result.andThen_ok,hg,run_checkKey hl,run_findKey hl,hp,Option.map_none,zeroValue,typeInfo,run_program,hei,hz,Sem.run_pure,gH _ hb,yO]
  rfl
theorem vF {r:Nat}{k:α}{v:β}{s:Nat}{m:List (α×β)}(hs:St w0 (E9 ek ev r m s k::L) w) :
 ∃ w',(Instr.entryStore T (.map (some r)) (.int .i64 (s:Nat)) (ev v)).run P w=.ok () w'/\St w0 (bR ek ev r (hY m k v)::L) w':=by
 obtain⟨x,clk,h,u,hu⟩:=hs.holds _ (List.mem_cons_self ..)
 have hlt:r<w.heap.size:=hs.lt _ (List.mem_cons_self ..) r rfl
 have hb:=h.cN
 have hg:(getObj r).run P w=.ok (.map (dP ek ev x) clk) w:=by simp [getObj,Sem.run,hb]
 obtain⟨d,hd,hd'⟩:=List.getElem_of_mem hu
 have hxd:x[d]?=some ((k,u),s):=by rw [List.getElem?_eq_getElem hd,hd']
 have hpos:∃ d' u' s',posOf x k 0=some (d',u')/\x[d']?=some ((k,u'),s')/\nF ek ev r (hY m k v) (x.modify d' λy=>((k,v),y.2)) clk (setBlock w r (.map (dP ek ev (x.modify d' λy=>((k,v),y.2))) clk)):=by
  rcases h.PQ k v hlt with⟨d',u',s',hp,hx,h1,h2,h3,h4⟩|⟨hp,h1,h2,h3⟩
  ·exact⟨d',u',s',hp,hx,h1⟩
  ·exfalso
   have hk:k∈m.map (λy:α×β=>y.1):=by
    rw [<- h.eq]
    exact List.mem_map.2 ⟨(k,u),List.mem_map.2 ⟨((k,u),s),hu,rfl⟩,rfl⟩
   obtain⟨y,hy,hyk⟩:=List.mem_map.1 hk
   simp only [jA,Option.map_eq_none_iff,List.find?_eq_none,decide_eq_true_eq] at h2
   exact h2 y hy hyk
 obtain⟨d',u',s',hp,hx,h1⟩:=hpos
 have hdd:d'=d:=by
  have e1:(x.map λy:(α×β)×Nat=>y.1.1)[d']?=some k:=by simp [hx]
  have e2:(x.map λy:(α×β)×Nat=>y.1.1)[d]?=some k:=by simp [hxd]
  have hnd:(x.map λy:(α×β)×Nat=>y.1.1).Nodup:=by
   have:=h.apart
   rw [<- h.eq,List.map_map] at this
   exact this
  obtain⟨l1,e1⟩:=List.getElem?_eq_some_iff.1 e1
  obtain⟨l2,e2⟩:=List.getElem?_eq_some_iff.1 e2
  exact sE hnd l1 l2 (e1.trans e2.symm)
 subst hdd
 rw [hxd] at hx
 have hfind:(dP ek ev x).findIdx? (λe=>(e.born:Int) == (s:Int))=some d':=by
  rw [Array.findIdx?_eq_some_iff_getElem]
  have hsz:(dP ek ev x).size=x.length:=by simp [dP]
  refine⟨by rw [hsz];exact hd,?_,λj hj=>?_⟩
  ·have:(dP ek ev x)[d']'(by rw [hsz];exact hd)={ key:=ek k,val:=ev u,born:=s }:=by
    have h9:=mB (ek:=ek) (ev:=ev) x d'
    rw [hxd,Array.getElem?_eq_getElem (by rw [hsz];exact hd)] at h9
    simpa using h9
   rw [this]
   simp
  ·have hjl:j<x.length:=za
   have h9:=mB (ek:=ek) (ev:=ev) x j
   rw [Array.getElem?_eq_getElem (by rw [hsz];exact hjl),List.getElem?_eq_getElem hjl] at h9
   simp only [Option.map_some,Option.some.injEq] at h9
   rw [h9]
   simp only [Bool.not_eq_true,beq_eq_false_iff_ne,ne_eq]
   intro e
   have e':x[j].2=s:=by exact_mod_cast e
   have n1:(x.map λy:(α×β)×Nat=>y.2)[j]'(by simpa using hjl)=s:=by simp [e']
   have n2:(x.map λy:(α×β)×Nat=>y.2)[d']'(by simpa using hd)=s:=by simp [hd']
   have:=sE h.once _ _ (n1.trans n2.symm)
   omega
 refine⟨_,?_,St.L7 (A':=bR ek ev r (hY m k v)) (o:=.map (dP ek ev (x.modify d' λy=>((k,v),y.2))) clk) hs ⟨_,_,h1⟩ (λb hb=>hb)⟩
 have hai:(asInt (.int .i64 (s:Nat))).run P w=.ok (s:Int) w:=rfl
 simp only [Instr.entryStore,Sem.run_bind,Result.andThen_ok,hg,hai,hfind,gH _ hb]
 rw [nY (ek:=ek) (ev:=ev) x d' _ (λy=>((k,v),y.2)) (λy hy=>?_)]
 rw [hxd] at hy
 have:=Option.some.inj hy
 subst this
 rfl
def GI (S:Env) (o:Oper):Option (TypeId×Value×Value) :=
 match o.op with
 | .mapEntry t x i=>match S.op x,S.op i with
  | some m,some k=>some (t,m,k)
  | _,_=>none
 | _=>none
theorem aL.mapEntry {i:Nat}{o:Oper}(ho:l[i]?=some o) (hw:cZ l.toArray S o=some true) (hl:gG P T ek ev K E){z:β}(hz:(P.info? E).bind (·.zero)=some (ev z)){r:Nat}{k:α}(ha:GI S o=some (T,.map (some r),ek k)) (hs:St w0 L w) (j:Nat){m:List (α×β)}(hj:L[j]?=some (bR ek ev r m))
 (h:∀ (s:Nat) w',St w0 (E9 ek ev r (hY m k ((jA m k).getD z)) s k::L.eraseIdx j) w'->bH w' (opens M A i)/\aL P l M R0 Kk N A rest (S.dO o.dst (.tuple #[ev ((jA m k).getD z),.int .i64 (s:Nat)])) w'):aL P l M R0 Kk N A (.ef i rest) S w:=by
 obtain⟨s,w',hr,hs'⟩:=AW hl hz (k:=k) (hs.pull j hj)
 obtain⟨k1,k2⟩:=h s w' hs'
 refine aL.run ho hw _ _ (λa hf=>.inl ?_) k1 k2
 unfold GI at ha
 split at ha
 ·rename_i t' x' i' hop
  split at ha
  ·rename_i m' k' h1 h2
   simp only [Option.some.injEq,Prod.mk.injEq] at ha
   obtain⟨rfl,rfl,rfl⟩:=ha
   have h1':=hf.op h1
   have h2':=hf.op h2
   generalize a.eval=ρ at h1' h2' ⊢
   simp only [execOp,hop,h1',h2',Sem.run_bind,hr,Result.andThen_ok]
   rfl
  ·cases ha
 ·cases ha
def GJ (S:Env) (o:Oper):Option (Value×Value×Value) :=
 match o.op with
 | .entryStore _ x s y=>match S.op x,S.op s,S.op y with
  | some m,some k,some v=>some (m,k,v)
  | _,_,_=>none
 | _=>none
theorem aL.entryStore {i:Nat}{o:Oper}(ho:l[i]?=some o) (hw:cZ l.toArray S o=some true){r:Nat}{s:Nat}{k:α}{v:β}(ha:GJ S o=some (.map (some r),.int .i64 (s:Nat),ev v)) (hs:St w0 L w) (j:Nat){m:List (α×β)}(hj:L[j]?=some (E9 ek ev r m s k))
 (h:∀ w',St w0 (bR ek ev r (hY m k v)::L.eraseIdx j) w'->bH w' (opens M A i)/\aL P l M R0 Kk N A rest (S.dO o.dst undef) w'):aL P l M R0 Kk N A (.ef i rest) S w:=by
 unfold GJ at ha
 split at ha
 ·rename_i t' x' s' y' hop
  split at ha
  ·rename_i m' k' v' h1 h2 h3
   simp only [Option.some.injEq,Prod.mk.injEq] at ha
   obtain⟨rfl,rfl,rfl⟩:=ha
   obtain⟨w',hr,hs'⟩:=vF (P:=P) (T:=t') (v:=v) (hs.pull j hj)
   obtain⟨k1,k2⟩:=h w' hs'
   refine aL.run ho hw _ _ (λa hf=>.inr ⟨?_,rfl⟩) k1 k2
   have h1':=hf.op h1
   have h2':=hf.op h2
   have h3':=hf.op h3
   generalize a.eval=ρ at h1' h2' h3' ⊢
   simp only [execOp,hop,h1',h2',h3',Sem.run_bind,hr,Result.andThen_ok]
   rfl
  ·cases ha
 ·cases ha
theorem aL.delete {i:Nat}{o:Oper}(ho:l[i]?=some o) (hw:cZ l.toArray S o=some true) (hl:gG P T ek ev K E){t2:TypeId}{r:Nat}{k:α}(hb:pR S o=some (.delete,[T,t2],[.map (some r),ek k])) (v0:β) (hs:St w0 L w) (j:Nat){m:List (α×β)}(hj:L[j]?=some (bR ek ev r m))
 (h:∀ w',St w0 (bR ek ev r (qp m k)::L.eraseIdx j) w'->bH w' (opens M A i)/\aL P l M R0 Kk N A rest (S.dO o.dst (.tuple #[])) w'):aL P l M R0 Kk N A (.ef i rest) S w:=by
 have key:∃ w',(Builtin.delete_ #[T,t2] o.type #[.map (some r),ek k]).run P w=.ok (.tuple #[]) w'/\St w0 (bR ek ev r (qp m k)::L.eraseIdx j) w':=by
  have hs2:=hs.pull j hj
  obtain⟨x,clk,h⟩:=hs2.holds _ (List.mem_cons_self ..)
  have hlt:r<w.heap.size:=hs2.lt _ (List.mem_cons_self ..) r rfl
  have hb:=h.cN
  have hg:(getObj r).run P w=.ok (.map (dP ek ev x) clk) w:=by simp [getObj,Sem.run,hb]
  rcases h.PQ k v0 hlt with⟨d,u,s,hp,hx,h1,h2,h3,h4⟩|⟨hp,h1,h2,h3⟩
  ·refine⟨_,?_,St.nZ (A':=bR ek ev r (qp m k)) (o:=.map (dP ek ev (x.eraseIdx d)) clk) hs2 ⟨_,_,h4⟩ (λb hb=>hb)⟩
   have he:(dP ek ev x).eraseIdxIfInBounds d=dP ek ev (x.eraseIdx d):=by
    apply Array.ext'
    rw [Array.toList_eraseIdxIfInBounds]
    simp only [dP,<- Go.ChangeMaps.map_eraseIdx]
   simp only [Builtin.delete_,List.getElem?_toArray,List.getElem?_cons_zero,List.getElem?_cons_succ,Sem.run_bind,run_underlying hl.CA,Result.andThen_ok,hg,run_checkKey hl,run_findKey hl,hp,Option.map_some,gH _ hb,he,Sem.run_pure]
  ·refine⟨_,?_,St.nZ (A':=bR ek ev r (qp m k)) (o:=.map (dP ek ev x) clk) hs2 ⟨x,clk,⟨by simp [setBlock,hlt],h.eq.trans h3.symm,h.lt,h.once,by rw [h3];exact h.apart⟩⟩ (λb hb=>hb)⟩
   simp only [Builtin.delete_,List.getElem?_toArray,List.getElem?_cons_zero,List.getElem?_cons_succ,Sem.run_bind,run_underlying hl.CA,Result.andThen_ok,hg,run_checkKey hl,run_findKey hl,hp,Option.map_none,gH _ hb,Sem.run_pure]
 obtain⟨w',hr,hs'⟩:=key
 obtain⟨k1,k2⟩:=h w' hs'
 refine aL.run ho hw _ w' (λa hfit=>.inl ?_) k1 k2
 obtain⟨cs,hrun⟩:=kW (P:=P) hfit hb w
 rw [hrun]
 simp only [builtin,Sem.run_bind]
 rw [hr]
 rfl
def GL (S:Env) (o:Oper):Option (TypeId×Value) :=
 match o.op with
 | .range t x=>match S.op x with
  | some m=>some (t,m)
  | _=>none
 | _=>none
theorem aL.range {i:Nat}{o:Oper}(ho:l[i]?=some o) (hw:cZ l.toArray S o=some true) (hu:P.underlying T=some (.map K E)){r:Nat}(ha:GL S o=some (T,.map (some r))) (hs:St w0 L w) (j:Nat){m:List (α×β)}(hj:L[j]?=some (bR ek ev r m))
 (h:∀ it w',St w0 (pT ek ev r it m []::L.eraseIdx j) w'->bH w' (opens M A i)/\aL P l M R0 Kk N A rest (S.dO o.dst (.pointer (some ⟨it,0,none⟩))) w'):aL P l M R0 Kk N A (.ef i rest) S w:=by
 have hs2:=hs.pull j hj
 obtain⟨x,clk,hx⟩:=hs2.holds _ (List.mem_cons_self ..)
 have hlt:r<w.heap.size:=hs2.lt _ (List.mem_cons_self ..) r rfl
 have hb:=hx.cN
 have hr:=run_range_map (P:=P) w T K E r (dP ek ev x) clk hu hb
 have hnew:(w.alloc (.mapIter (some r) clk #[] clk)).heap[w.heap.size]?=some (.mapIter (some r) clk #[] clk):=heap_alloc_new w _
 have hold:∀ b,b<w.heap.size->(w.alloc (.mapIter (some r) clk #[] clk)).heap[b]?=w.heap[b]?:=λb hb=>heap_alloc_old w _ hb
 have hsz:(w.alloc (.mapIter (some r) clk #[] clk)).heap.size=w.heap.size+1:=by simp
 have hst:St w0 (pT ek ev r w.heap.size m []::L.eraseIdx j) (w.alloc (.mapIter (some r) clk #[] clk)):=by
  refine St.step hs2 rfl rfl rfl (by rw [hsz];omega) (λb hb _=>hold b hb) ⟨za,x,[],clk,hx.mono (hold r hlt),hnew,rfl,by simp,by simp⟩ (λb hb=>?_)
  have hb':b=r\/b=w.heap.size:=hb
  rcases hb' with rfl|rfl
  ·exact⟨.inl rfl,by rw [hsz];omega⟩
  ·exact⟨.inr (Nat.le_refl _),by rw [hsz];omega⟩
 obtain⟨k1,k2⟩:=h _ _ hst
 refine aL.run ho hw _ _ (λa hf=>.inl ?_) k1 k2
 unfold GL at ha
 split at ha
 ·rename_i t' x' hop
  split at ha
  ·rename_i m' h1
   simp only [Option.some.injEq,Prod.mk.injEq] at ha
   obtain⟨rfl,rfl⟩:=ha
   have h1':=hf.op h1
   generalize a.eval=ρ at h1' ⊢
   simp only [execOp,hop,h1',Sem.run_bind,hr,Result.andThen_ok]
   rfl
  ·cases ha
 ·cases ha
theorem AX {x y:List ((α×β)×Nat)}(h1:∀ z∈y,z∈x) (h2:(y.map (λz:(α×β)×Nat=>z.2)).Nodup) (h3:(x.map (λz:(α×β)×Nat=>z.2)).Nodup) (h4:∀ z∈x,z.2∈y.map (λz:(α×β)×Nat=>z.2)):y.Perm x:=by
 have hy:y.Nodup:=mU h2
 have hx:x.Nodup:=mU h3
 refine(List.perm_ext_iff_of_nodup hy hx).2 λz=>⟨h1 z,λhz=>?_⟩
 obtain⟨z',hz',e⟩:=List.mem_map.1 (h4 z hz)
 have:z'=z:=ye h3 (h1 z' hz') hz e
 exact this▸hz'
theorem aL.next {i:Nat}{o:Oper}{xo:Operand}(ho:l[i]?=some o) (hop:o.op=.next xo false) (hw:cZ l.toArray S o=some true){r it:Nat}(ha:S.op xo=some (.pointer (some ⟨it,0,none⟩))){m done:List (α×β)}(hs:St w0 (pT ek ev r it m done::L) w)
 (h0:done.Perm m->bH w (opens M A i)/\aL P l M R0 Kk N A rest (S.dO o.dst (.tuple #[.bool false])) w)
 (h1:∀ k v w',(k,v)∈m->done.length<m.length->St w0 (pT ek ev r it m (done++[(k,v)])::L) w'->bH w' (opens M A i)/\aL P l M R0 Kk N A rest (S.dO o.dst (.tuple #[.bool true,ek k,ev v])) w'):aL P l M R0 Kk N A (.ef i rest) S w:=by
 obtain⟨hne,x,y,clk,hx,kI,rfl,hyx,hyn⟩:=hs.holds _ (List.mem_cons_self ..)
 have hltr:r<w.heap.size:=hs.lt _ (List.mem_cons_self ..) r (.inl rfl)
 have hlti:it<w.heap.size:=hs.lt _ (List.mem_cons_self ..) it (.inr rfl)
 have hmeq:=hx.eq
 have hrun:∀ (v:Value) w',(Instr.next (.pointer (some ⟨it,0,none⟩)) false o.type).run P w=.ok v w'->∀ a,Fits N S a->(execOp a.eval o).run P w=.ok (.value v) w':=by
  intro v w' hr a hf
  have h1':=hf.op ha
  generalize a.eval=ρ at h1' ⊢
  simp only [execOp,hop,h1',Sem.run_bind,hr,Result.andThen_ok]
  rfl
 have hmem:∀ z∈(dP ek ev x).toList,z.born<clk:=by
  intro z hz
  simp only [dP,List.toList_toArray,List.mem_map] at hz
  obtain⟨q,hq,rfl⟩:=hz
  exact hx.lt q hq
 rcases run_next_at (P:=P) w o.type it r clk clk _ (dP ek ev x) clk kI hx.cN hmem (Nat.le_refl _) with⟨hz,hr⟩|⟨e,he,w1,hw1,hr⟩
 ·have hall:∀ z∈x,z.2∈y.map (λz:(α×β)×Nat=>z.2):=by
   intro z hz'
   have hemp:leftOf (dP ek ev x) (y.map (λz:(α×β)×Nat=>z.2)).toArray=#[]:=Array.eq_empty_of_size_eq_zero hz
   unfold leftOf at hemp
   rw [Array.filter_eq_empty_iff] at hemp
   have:=hemp { key:=ek z.1.1,val:=ev z.1.2,born:=z.2 } (by simp only [dP,List.mem_toArray,List.mem_map];exact⟨z,hz',rfl⟩)
   simpa using this
  have hp:=AX hyx hyn hx.once hall
  obtain⟨k1,k2⟩:=h0 (hmeq▸hp.map _)
  exact aL.run ho hw _ _ (λa hf=>.inl (hrun _ _ hr a hf)) k1 k2
 ·simp only [leftOf,Array.toList_filter,List.mem_filter] at he
  obtain⟨hem,hen⟩:=he
  simp only [dP,List.mem_map] at hem
  obtain⟨z,hz,rfl⟩:=hem
  have hzy:z.2 ∉ y.map (λz:(α×β)×Nat=>z.2):=by
   intro hc
   simp only [Bool.not_eq_true',Array.contains_eq_mem,decide_eq_false_iff_not,List.mem_toArray] at hen
   exact hen hc
  have hs1:St w0 (pT ek ev r it m (y.map (λz:(α×β)×Nat=>z.1))::L) w1:=by
   rcases hw1 with rfl|rfl
   ·exact hs
   ·exact hs.drew
  have hheap:w1.heap=w.heap:=by rcases hw1 with rfl|rfl<;>rfl
  have hst:St w0 (pT ek ev r it m (y.map (λz:(α×β)×Nat=>z.1)++[(z.1.1,z.1.2)])::L) (setBlock w1 it (.mapIter (some r) clk ((y.map (λz:(α×β)×Nat=>z.2)).toArray.push z.2) clk)):=by
   refine St.step hs1 rfl rfl rfl (by simp [setBlock]) (λb hb hn=>?_) ⟨hne,x,y++[z],clk,hx.mono ?_,?_,by simp,?_,?_⟩ (λb hb=>⟨.inl hb,?_⟩)
   ·simp only [setBlock,Array.getElem?_setIfInBounds]
    rw [if_neg (λe=>hn (.inr e.symm))]
   ·simp only [setBlock,Array.getElem?_setIfInBounds,hheap]
    rw [if_neg (λe=>hne e.symm)]
   ·simp [setBlock,hheap,hlti]
   ·intro q hq
    rcases List.mem_append.1 hq with hq|hq
    ·exact hyx q hq
    ·simp only [List.mem_singleton] at hq;subst hq;exact hz
   ·rw [List.map_append,List.nodup_append]
    refine⟨hyn,by simp,λa ha b hb e=>?_⟩
    simp only [List.map_cons,List.map_nil,List.mem_singleton] at hb
    subst hb e
    exact hzy ha
   ·have hb':b=r\/b=it:=hb
    rcases hb' with rfl|rfl<;>simp [setBlock,hheap,hltr,hlti]
  have hlen:(y.map (λz:(α×β)×Nat=>z.1)).length<m.length:=by
   rw [<- hmeq,List.length_map,List.length_map]
   have hnd:((y++[z]).map (λz:(α×β)×Nat=>z.2)).Nodup:=by
    rw [List.map_append,List.nodup_append]
    refine⟨hyn,by simp,λa ha b hb e=>?_⟩
    simp only [List.map_cons,List.map_nil,List.mem_singleton] at hb
    subst hb e
    exact hzy ha
   have hsub:∀ q∈y++[z],q∈x:=by
    intro q hq
    rcases List.mem_append.1 hq with hq|hq
    ·exact hyx q hq
    ·simp only [List.mem_singleton] at hq;subst hq;exact hz
   have:=rj (mU hnd) hsub
   simp at this
   omega
  obtain⟨k1,k2⟩:=h1 z.1.1 z.1.2 _ (by rw [<- hmeq];exact List.mem_map.2 ⟨z,hz,rfl⟩) hlen hst
  exact aL.run ho hw _ _ (λa hf=>.inl (hrun _ _ hr a hf)) k1 k2
theorem aL.entry {i:Nat}{o:Oper}{xo:Operand}(ho:l[i]?=some o) (hop:o.op=.entry xo) (hw:cZ l.toArray S o=some true){r it:Nat}(ha:S.op xo=some (.pointer (some ⟨it,0,none⟩))){m done:List (α×β)}{k:α}{v:β}(hs:St w0 L w) (j:Nat) (hj:L[j]?=some (pT ek ev r it m (done++[(k,v)])))
 (h:aL P l M R0 Kk N ((i,[.holds (pT ek ev r it m (done++[(k,v)])).holds])::A) rest (S.dO o.dst (.tuple #[ek k,ev v])) w):aL P l M R0 Kk N A (.rd i rest) S w:=by
 refine aL.read ho hw [.holds (pT ek ev r it m (done++[(k,v)])).holds] _ (λa w' hf hn=>?_) ⟨hs.at_ j hj,trivial⟩ h
 obtain⟨hne,x,y,clk,hx,kI,hd,hyx,hyn⟩:=hn.1
 obtain⟨y',z,rfl⟩:∃ y' z,y=y'++[z]:=by
  rcases List.eq_nil_or_concat y with rfl|⟨y',z,e⟩
  ·simp at hd
  ·exact⟨y',z,by simpa using e⟩
 have hz:z.1=(k,v):=by
  rw [List.map_append] at hd
  have:=(List.append_inj' hd rfl).2
  simpa using this
 have he:=run_entry_at (P:=P) w' it r clk (y'.map (λz:(α×β)×Nat=>z.2)).toArray (dP ek ev x) clk { key:=ek z.1.1,val:=ev z.1.2,born:=z.2 } (by simpa using kI) hx.cN
  (by simp only [dP,List.mem_map];exact⟨z,hyx z zw,rfl⟩) (by simpa [dP,Function.comp_def] using hx.once)
 have h1':=hf.op ha
 generalize a.eval=ρ at h1' ⊢
 simp only [execOp,hop,h1',Sem.run_bind,he,Result.andThen_ok,hz]
 rfl
end
theorem OJ {w:World}{p:World->Prop}{l:List fG}(h:p w) (t:bH w l):bH w (.holds p::l):=⟨h,t⟩
theorem seq (x y:ByteArray):Value.bool (x.toList == y.toList)=Value.bool (decide (x=y)):=congrArg _ (CG x y)
theorem CL {x r:Bool}(h:x=r):(if true=true then x else !x)=r:=h
theorem M6 {x r:Bool}(h:x=r):(if false=true then x else !x)=!r:=by rw [h];rfl
theorem aC.cV {w:World}{b off n size:Nat}{cell:Nat->Array Value}(h:aC w (some ⟨b,off,none⟩) n size cell){k j:Nat}(hk:k<n) (hj:j<size){v:Value}(hv:(cell k)[j]?=some v):w.cell? ⟨b,off+k*size+j,none⟩=some v:=(h.at hk hj).trans hv
theorem aC.mj {w:World}{b off n size:Nat}{cell:Nat->Array Value}(h:aC w (some ⟨b,off,none⟩) n size cell){k:Nat}(hk:k<n){vs:Array Value}(ho:vs.size<=size) (hv:(cell k).extract 0 vs.size=vs) :
 ∀ i,i<vs.size->w.cell? ((Addr.mk b (off+k*size) none).add i)=vs[i]?:=by
 have:=aC.all h hk (o:=0) (vs:=vs) za (by simpa using hv)
 simpa using this
theorem St.hZ {α:Type}{w0 w:World}{L:List bA}{ad:Option Addr}{c size:Nat}{e:TypeId}{f:α->Array Value}{l:List α}(hs:St w0 L w) (i:Nat) (hi:L[i]?=some (Sl ad c e size f l)):ad=none->c=0:=by
 rintro rfl
 have h:w.ownsRow 0 e size (.slice none l.length c) l.length (l.flatMap λx=>(f x).toList):=hs.at_ i hi
 rcases h.2 with⟨h1,h2⟩|⟨g,cap,cur,hv,_⟩
 ·simp only [Value.slice.injEq] at h1
  exact h1.2.2
 ·simp at hv
end Go.Sx
namespace Go.Sx
open Go.RowKit
set_option linter.unusedVariables false
set_option linter.unusedSimpArgs false
theorem St.refl {w:World}{L:List bA}{w0:World}(hs:St w0 L w):St w0 L w:=hs
theorem eM (b off n s h:Nat) (hn:0<n):Value.slice (some (if n=0 then Addr.mk b off none else (Addr.mk b off none).add (0*s))) (h-0) (n-0)=.slice (some ⟨b,off,none⟩) h n:=by
 rw [if_neg za,dI]
 simp
section
variable {P : Program} {R0 : Exit -> Act -> World -> Prop} {N : Fr} {Kk : List fQ} {S : Env} {w w0 : World} {l : List Oper} {M : List Nat} {A : dN} {rest : PT} {L : List bA}
def qt (S:Env) (o:Oper):Option (TypeId×TypeId×Value) :=
 match o.op with
 | .convert src dst x=>match S.op x with
  | some v=>some (src,dst,v)
  | none=>none
 | _=>none
def pq (b off:Nat) (l:List UInt8) (w:World):Prop:=∀ j (hj:j<l.length),w.cell? ⟨b,off+j,none⟩=some (.int .u8 (l[j].toNat:Int))
theorem aL.rr {i:Nat}{o:Oper}(ho:l[i]?=some o) (hw:cZ l.toArray S o=some true){src dst e:TypeId}{b off cap:Nat}{q:List UInt8}(ha:qt S o=some (src,dst,.slice (some ⟨b,off,none⟩) q.length cap)) (h1:P.underlying src=some (.slice e)) (h2:P.underlying e=some (.int .u8)) (h3:P.underlying dst=some .string)
 (hq:pq b off q w) (h:aL P l M R0 Kk N ((i,[.holds (pq b off q)])::A) rest (S.dO o.dst (.string ⟨q.toArray⟩)) w):aL P l M R0 Kk N A (.rd i rest) S w:=by
 refine aL.read ho hw [.holds (pq b off q)] _ (λa w' hf hn=>?_) ⟨hq,trivial⟩ h
 have hb:pq b off q w':=hn.1
 unfold qt at ha
 split at ha
 ·rename_i s' d' x' hop
  split at ha
  ·rename_i v hv
   simp only [Option.some.injEq,Prod.mk.injEq] at ha
   obtain⟨rfl,rfl,rfl⟩:=ha
   have hv':=hf.op hv
   generalize a.eval=ρ at hv' ⊢
   have hr:=run_convert_bytes_back (P:=P) w' s' d' e ⟨b,off,none⟩ cap q h1 h2 h3 (λj hj=>by rw [dI];exact hb j hj)
   simp only [execOp,hop,hv',Sem.run_bind,hr,Result.andThen_ok]
   rfl
  ·cases ha
 ·cases ha
end
def aA {α:Type}(f:α->Array Value) (l:List α):Array Value:=(l.flatMap λx=>(f x).toList).toArray
section
variable {α : Type} {f : α -> Array Value} {size : Nat} {l : List α}
theorem eI (hf:∀ x,(f x).size=size) (l:List α):(aA f l).size=l.length*size:=by
 rw [aA,List.size_toArray,bQ hf]
theorem lR (hf:∀ x,(f x).size=size) (d:α){k j:Nat}(hk:k<l.length) (hj:j<size):(aA f l)[k*size+j]?=(f (l.getD k d))[j]?:=by
 rw [aA,List.getElem?_toArray]
 exact nX hf d l k j hk hj
theorem aG {w0 w:World}{L:List bA}{b:Nat}{T:TypeId}(hs:St w0 L w) (i:Nat) (hi:L[i]?=some (aB b (aA f l) T)) (hf:∀ x,(f x).size=size) (d:α):aC w (some ⟨b,0,none⟩) l.length size (λk=>f (l.getD k d)):=λhn=>by
 obtain⟨fr,hb,hfr⟩:=hs.at_ i hi
 refine⟨b,0,rfl,λk hk j hj=>?_⟩
 simp only [World.cell?,hb,Nat.zero_add]
 exact lR hf d hk hj
theorem iQ:∀ (vs:List Value) (cs:Array Value) (off i:Nat),(aV cs off vs)[i]?=if off<=i/\i<off+vs.length/\i<cs.size then vs[i-off]? else cs[i]?
 | [],cs,off,i=>by
  simp only [aV,List.length_nil,Nat.add_zero]
  rw [if_neg za]
 | v::vs,cs,off,i=>by
  rw [aV,iQ vs (cs.setIfInBounds off v) (off+1) i]
  simp only [Array.size_setIfInBounds,List.length_cons,Array.getElem?_setIfInBounds]
  by_cases h1:off+1<=i/\i<off+1+vs.length/\i<cs.size
  ·rw [if_pos h1,if_pos za]
   obtain⟨u,rfl⟩:∃ u,i=off+1+u:=⟨i-(off+1),za⟩
   rw [show off+1+u-(off+1)=u by omega,show off+1+u-off=u+1 by omega,List.getElem?_cons_succ]
  ·rw [if_neg h1]
   by_cases h2:off=i
   ·subst h2
    rw [if_pos rfl]
    by_cases h3:off<cs.size
    ·rw [if_pos h3,if_pos za,Nat.sub_self]
     rfl
    ·rw [if_neg h3,if_neg za,Array.getElem?_eq_none za]
   ·rw [if_neg h2,if_neg za]
theorem fO (hf:∀ x,(f x).size=size){k:Nat}(hk:k<l.length) (x:α):aV (aA f l) (k*size) (f x).toList=aA f (l.set k x):=by
 have hl1:=eI hf l
 have hl2:=eI hf (l.set k x)
 rw [List.length_set] at hl2
 have hx:(f x).toList.length=size:=by rw [Array.length_toList,hf]
 have hk2:k*size+size<=l.length*size:=by
  calc k*size+size=(k+1)*size:=by rw [Nat.add_mul,Nat.one_mul]
   _<=l.length*size:=Nat.mul_le_mul_right _ hk
 apply Array.ext_getElem?
 intro i
 rw [iQ,hx,hl1]
 by_cases hi:i<l.length*size
 ·have hpos:0<size:=by
   rcases Nat.eq_zero_or_pos size with h|h
   ·rw [h] at hi;omega
   ·exact h
  have hq:i / size<l.length:=Nat.div_lt_of_lt_mul (by rw [Nat.mul_comm];exact hi)
  have hr:i % size<size:=Nat.mod_lt _ hpos
  have hi2:i / size*size+i % size=i:=by rw [Nat.mul_comm];exact Nat.div_add_mod i size
  have e1:=lR (l:=l) hf x hq hr
  have e2:=lR (l:=l.set k x) hf x (k:=i / size) (j:=i % size) (by rw [List.length_set];exact hq) hr
  rw [hi2] at e1 e2
  rw [e1,e2]
  by_cases hkk:i / size=k
  ·have h3:k*size+i % size=i:=by rw [<- hkk];exact hi2
   rw [if_pos za]
   have e3:(l.set k x).getD (i / size) x=x:=by
    rw [hkk,List.getD_eq_getElem?_getD,List.getElem?_set]
    simp [hk]
   rw [e3,show i-k*size=i % size by omega,Array.getElem?_toList]
  ·have hne:¬ (k*size<=i/\i<k*size+size/\i<l.length*size):=by
    rintro⟨h4,h5,-⟩
    exact hkk (Nat.div_eq_of_lt_le h4 (by rw [Nat.add_mul,Nat.one_mul];exact h5))
   rw [if_neg hne]
   have e3:(l.set k x).getD (i / size) x=l.getD (i / size) x:=by
    rw [List.getD_eq_getElem?_getD,List.getD_eq_getElem?_getD,List.getElem?_set_ne (λe=>hkk e.symm)]
   rw [e3]
 ·rw [if_neg za,Array.getElem?_eq_none za,Array.getElem?_eq_none za]
theorem gN (hf:∀ x,(f x).size=size){k:Nat}(hk:k<l.length):k*size+size<=(aA f l).size:=by
 rw [eI hf]
 calc k*size+size=(k+1)*size:=by rw [Nat.add_mul,Nat.one_mul]
  _<=l.length*size:=Nat.mul_le_mul_right _ hk
end
def fY (x:Int):UInt8:=UInt8.ofNat x.toNat
theorem qu {x:Int}(h0:0<=x) (h1:x<256):((fY x).toNat:Int)=x:=by
 rw [fY,UInt8.toNat_ofNat'];omega
theorem ru {b:Nat}{T:TypeId}{w:World}(l:List Int) (h:(aB b (l.map λx=>Value.int .u8 x).toArray T).holds w) (hr:∀ x∈l,0<=x/\x<256):pq b 0 (l.map fY) w:=by
 intro j hj
 rw [List.length_map] at hj
 rw [aB.cell h,Nat.zero_add,List.getElem?_toArray,List.getElem?_map,List.getElem?_eq_getElem hj,List.getElem_map]
 obtain⟨h0,h1⟩:=hr _ (List.getElem_mem hj)
 rw [qu h0 h1]
 rfl
def ja (ad:Option Addr) (c lo size:Nat):Option Addr:=if c=lo then ad else ad.map (λa=>a.add (lo*size))
theorem M7 {ad:Option Addr}{c lo size m n k:Nat}(h:m=n):Value.slice (if c=lo then ad else ad.map (λa=>a.add (lo*size))) m k=.slice (ja ad c lo size) n k:=by subst h;rfl
theorem add_zero (a:Addr) (size:Nat):a.add (0*size)=a:=by rw [Nat.zero_mul];unfold Addr.add;simp
theorem JN {ad:Option Addr}{c size m n:Nat}(h:m-0=n):Value.slice (if c=0 then ad else ad.map (λa=>a.add (0*size))) (m-0) (c-0)=.slice ad n c:=by
 subst h
 have:(if c=0 then ad else ad.map (λa=>a.add (0*size)))=ad:=by
  split
  ·rfl
  ·cases ad with
   | none=>rfl
   | some a=>simp only [Option.map_some,add_zero]
 rw [this]
 rfl
section
variable {P : Program} {R0 : Exit -> Act -> World -> Prop} {N : Fr} {K : List fQ} {S : Env} {w w0 : World} {l : List Oper} {M : List Nat} {A : dN} {rest : PT} {L : List bA}
theorem aL.gT {i:Nat}{o:Oper}(ho:l[i]?=some o) (hw:cZ l.toArray S o=some true){t e:TypeId}(hl:po S o=some (t,0,[])) (hu:P.underlying t=some (.slice e)){ti:TypeInfo}(hi:P.info? e=some ti) (hs:St w0 L w)
 (h:∀ b w',St w0 (aB b #[] e::L) w'->w'.heap[b]?=some (.cells #[] e (0,0))->bH w' (opens M A i)/\aL P l M R0 K N A rest (S.dO o.dst (.slice (some ⟨b,0,none⟩) 0 0)) w'):aL P l M R0 K N A (.ef i rest) S w:=by
 obtain⟨k1,k2⟩:=h _ _ (hs.gM #[] e) zw
 refine aL.run ho hw _ _ (λa hfit=>.inl ?_) k1 k2
 unfold po at hl
 split at hl
 ·rename_i t' n' parts hop
  split at hl
  ·rename_i vs hvs
   simp only [Option.some.injEq,Prod.mk.injEq] at hl
   obtain⟨rfl,rfl,hp⟩:=hl
   have h3:=hfit.ops hvs
   have h4:(parts.map λ(i,x)=>(i,a.eval x)).toList=[]:=by
    rw [<- hp,<- h3]
    simp only [Array.toList_map]
    generalize parts.toList=q
    induction q with
    | nil=>rfl
    | cons y q ih=>simp [ih]
   generalize a.eval=ρ at h4 ⊢
   have hns:¬ (0>2 ^ 24):=za
   simp only [execOp,hop,Instr.buildSlice,Sem.run_bind,run_underlying hu,Result.andThen_ok,sizeOf,typeInfo,run_program,hi,Sem.run_pure,Nat.zero_mul,hns,if_false,if_true,h4,newRow,newObj]
   simp [Sem.run,Instr.fill]
   have hz:(Array.map (λ_=>(default:Value)) (Array.range 0))=#[]:=Array.ext' zw
   rw [hz]
  ·cases hl
 ·cases hl
end
section
variable {w w0 : World} {L : List bA} {α : Type} {ad : Option Addr} {c size : Nat} {e : TypeId} {f : α -> Array Value} {l : List α}
theorem aC.GM {d:α}(h:aC w ad l.length size (λk=>f (l.getD k d))) (n:Nat) (hn:n<=l.length):aC w ad (l.take n).length size (λk=>f ((l.take n).getD k d)):=by
 have h1:(l.take n).length=n:=by rw [List.length_take];omega
 rw [h1]
 refine(h.lt hn).NF λk hk=>?_
 congr 1
 rw [List.getD_eq_getElem?_getD,List.getD_eq_getElem?_getD,List.getElem?_take_of_lt hk]
theorem aC.JO {d:α}{lo:Nat}(h:aC w ad l.length size (λk=>f (l.getD k d))) (hc:l.length<=c) (hn:lo<=l.length):aC w (ja ad c lo size) (l.drop lo).length size (λk=>f ((l.drop lo).getD k d)):=λhm=>by
 rw [List.length_drop] at hm
 obtain⟨b,off,h1,h2⟩:=h za
 subst h1
 refine⟨b,off+lo*size,?_,λk hk j hj=>?_⟩
 ·unfold ja
  rw [if_neg za,Option.map_some,dI]
 ·rw [List.length_drop] at hk
  rw [Nat.add_assoc off,<- Nat.add_mul,h2 (lo+k) za j hj]
  show(f (l.getD (lo+k) d))[j]?=(f ((l.drop lo).getD k d))[j]?
  rw [List.getD_eq_getElem?_getD,List.getD_eq_getElem?_getD,List.getElem?_drop]
theorem Sl.isSome (h:(Sl ad c e size f l).holds w) (hn:0<l.length):∃ b,ad=some ⟨b,0,none⟩:=by
 have h0:w.ownsRow 0 e size (.slice ad l.length c) l.length (l.flatMap λx=>(f x).toList):=h
 rcases h0.2 with⟨h1,h2⟩|⟨g,cap,cur,hv,_⟩
 ·omega
 ·simp only [Value.slice.injEq] at hv
  exact⟨g,hv.1⟩
theorem Sl.cap (h:(Sl ad c e size f l).holds w):l.length<=c:=by
 have h0:w.ownsRow 0 e size (.slice ad l.length c) l.length (l.flatMap λx=>(f x).toList):=h
 rcases h0.2 with⟨h1,h2⟩|⟨g,cap,cur,hv,_,_,hnc,_⟩
 ·omega
 ·simp only [Value.slice.injEq] at hv
  obtain⟨_,_,rfl⟩:=hv
  exact hnc
theorem bJ {l:List α}{d:α}{k:Nat}(hk:k<l.length):l.getD k d∈l:=by
 rw [List.getD_eq_getElem?_getD,List.getElem?_eq_getElem hk]
 exact List.getElem_mem hk
theorem bL {l:List α}{d:α}{k:Nat}(hk:k<l.length):l.take (k+1)=l.take k++[l.getD k d]:=by
 rw [List.take_succ_eq_append_getElem hk,List.getD_eq_getElem?_getD,List.getElem?_eq_getElem hk]
 rfl
end
section
variable {P : Program} {R0 : Exit -> Act -> World -> Prop} {N : Fr} {K : List fQ} {S : Env} {w w0 : World} {l : List Oper} {M : List Nat} {A : dN} {rest : PT} {L : List bA} {i : Nat} {o : Oper}
theorem Rj {α:Type}{t e:TypeId}{size bytes:Nat}(he:hU P t e size bytes){f:α->Array Value}(hf:fD f size) (hs:St w0 L w)
 (h:∀ b w',St w0 (Sl (some ⟨b,0,none⟩) 0 e size f ([]:List α)::L) w'->bH w' (opens M A i)/\aL P l M R0 K N A rest (S.dO (gO l i).dst (.slice (some ⟨b,0,none⟩) 0 0)) w')
 (hl:po S (gO l i)=some (t,0,[]):=by kernel_rfl) (ho:Nat.blt i l.length=true:=by kernel_rfl) (hw:cZ l.toArray S (gO l i)=some true:=by kernel_rfl):aL P l M R0 K N A (.ef i rest) S w:=by
 obtain⟨ti,z,h1,h2,h3,h4,h5⟩:=he.info
 exact aL.gT (pS ho) hw hl he.CA h1 hs λb w' h6 h7=>h b w' (St.iw (l:=([]:List α)) (f:=f) h6 h7 hf.size (by simp [maxLen]) rfl)
theorem O3 {b:Nat}{cs:Array Value}{T:TypeId}{L:List bA}(hs:St w0 L w) (j:Nat) (hj:L[j]?=some (aB b cs T)):∀ (os:List Nat),os.all (λo=>Nat.blt o cs.size)=true->bH w (os.map λo=>fG.cell ⟨b,o,none⟩ (cs.getD o default))
 | [],_=>trivial
 | o::r,h=>by
  simp only [List.all_cons,Bool.and_eq_true,Nat.blt_eq] at h
  refine⟨hs.cell j hj ?_,O3 hs j hj r h.2⟩
  rw [Array.getElem?_eq_getElem h.1,Array.getD,dif_pos h.1]
  rfl
theorem Mv {b:Nat}{cs:Array Value}{T:TypeId}{L:List bA}(hs:St w0 L w) (j:Nat) (hj:L[j]?=some (aB b cs T)) (os:List Nat) (h:opens M A i=os.map λo=>fG.cell ⟨b,o,none⟩ (cs.getD o default):=by kernel_rfl) (hb:(os.all λo=>Nat.blt o cs.size)=true:=by kernel_rfl):bH w (opens M A i):=h▸O3 hs j hj os hb
end
end Go.Sx
namespace Go.Sx
open Go.RowKit Go.ChangeShapes Go.WideShapes Go.Deep
set_option linter.unusedVariables false
set_option linter.unusedSimpArgs false
inductive FK where
 | int (k:IntKind)
 | bool
 | str
def FK.fits:FK->Value->Prop
 | .int k,v=>∃ n,v=.int k n/\(Lit.int k n).wf=true
 | .bool,v=>∃ b,v=.bool b
 | .str,v=>∃ s,v=.string s/\s.size<=maxLen
section
variable {H : Type} {enc : TypeId × Value -> H} {P : Program} {w : World} {base : Nat} {spare : Nat -> Bool} {held : Bool}
end
theorem aC.congr {W:World}{ad:Option Addr}{n size:Nat}{cell cell':Nat->Array Value}(h:aC W ad n size cell) (hc:∀ k,k<n->cell k=cell' k):aC W ad n size cell':=λhn=>by
 obtain⟨b,off,h1,h2⟩:=h hn
 exact⟨b,off,h1,λk hk j hj=>by rw [<- hc k hk];exact h2 k hk j hj⟩
theorem Calls.law {P:Program}{f:FuncId}{args:Array Value}{w:World}{B:World->Prop}(h:Calls P f args w (eD λv w'=>v=.bool true/\B w')):Calls P f args w λe w'=>e=.returned (.bool true)/\B w' :=
 Calls.mono h λe w' he=>by
  cases e with
  | returned v=>exact⟨by rw [he.1],he.2⟩
  | panicked c=>exact he.elim
  | outgrown=>exact he.elim
theorem wf_u8 {n:Int}(h:(Lit.int .u8 n).wf=true):0<=n/\n<=255:=by simp [Lit.wf,IntKind.min,IntKind.max,IntKind.signed,IntKind.bits] at h;omega
section
variable {H : Type} {enc : TypeId × Value -> H} {P : Program} {w : World} {base : Nat} {spare : Nat -> Bool} {held : Bool}
theorem pV {α:Type}(dd:α){f:α->Array Value}{size n:Nat}{ad:Option Addr}{cell:Nat->Array Value}(Q:α->Prop) (hr:aC w ad n size cell) (hc:∀ k,k<n->∃ x,Q x/\cell k=f x) :
 ∃ l:List α,l.length=n/\(∀ x∈l,Q x)/\aC w ad l.length size (λk=>f (l.getD k dd)):=by
 have H:∀ k,∃ x:α,k<n->(Q x/\cell k=f x):=λk=>by
  by_cases h:k<n
  ·obtain⟨x,hx⟩:=hc k h
   exact⟨x,λ_=>hx⟩
  ·exact⟨dd,λh'=>absurd h' h⟩
 obtain⟨F,hF⟩:=Classical.axiomOfChoice H
 refine⟨(List.range n).map F,by simp,λx hx=>?_,?_⟩
 ·obtain⟨k,hk,rfl⟩:=List.mem_map.1 hx
  exact(hF k (List.mem_range.1 hk)).1
 ·rw [List.length_map,List.length_range]
  intro hn
  obtain⟨b,off,h1,h2⟩:=hr hn
  refine⟨b,off,h1,λk hk j hj=>?_⟩
  rw [h2 k hk j hj,(hF k hk).2]
  congr 2
  rw [List.getD_eq_getElem?_getD,List.getElem?_map,List.getElem?_range hk]
  rfl
end
end Go.Sx
namespace Go.Sx
open Go.RowKit
set_option linter.unusedVariables false
set_option linter.unusedSimpArgs false
theorem Fa {x y:Int}(hx:0<=x) (hy:0<y):∃ n:Nat,x % y=(n:Int)/\(n:Int)<y :=
 ⟨(x % y).toNat,by have:=Int.emod_nonneg x (show y≠0 by omega);omega,by have:=Int.emod_nonneg x (show y≠0 by omega);have:=Int.emod_lt_of_pos x hy;omega⟩
section
variable {α : Type} {f : α -> Array Value} {size : Nat} {l : List α}
theorem eN (hf:∀ x,(f x).size=size){k o:Nat}(hk:k<l.length) (d x':α){vs:List Value}(ho:o+vs.length<=size) (hx:aV (f (l.getD k d)) o vs=f x'):aV (aA f l) (k*size+o) vs=aA f (l.set k x'):=by
 have hl1:=eI hf l
 have hl2:=eI hf (l.set k x')
 rw [List.length_set] at hl2
 have hk2:k*size+size<=l.length*size:=by
  calc k*size+size=(k+1)*size:=by rw [Nat.add_mul,Nat.one_mul]
   _<=l.length*size:=Nat.mul_le_mul_right _ hk
 apply Array.ext_getElem?
 intro i
 rw [iQ,hl1]
 by_cases hi:i<l.length*size
 ·have hpos:0<size:=by
   rcases Nat.eq_zero_or_pos size with h|h
   ·rw [h] at hi;omega
   ·exact h
  have hq:i / size<l.length:=Nat.div_lt_of_lt_mul (by rw [Nat.mul_comm];exact hi)
  have hr:i % size<size:=Nat.mod_lt _ hpos
  have hi2:i / size*size+i % size=i:=by rw [Nat.mul_comm];exact Nat.div_add_mod i size
  have e1:=lR (l:=l) hf d hq hr
  have e2:=lR (l:=l.set k x') hf d (k:=i / size) (j:=i % size) (by rw [List.length_set];exact hq) hr
  rw [hi2] at e1 e2
  rw [e1,e2]
  by_cases hkk:i / size=k
  ·have h3:k*size+i % size=i:=by rw [<- hkk];exact hi2
   have e3:(l.set k x').getD (i / size) d=x':=by
    rw [hkk,List.getD_eq_getElem?_getD,List.getElem?_set]
    simp [hk]
   rw [e3,<- hx,iQ,hkk,hf]
   by_cases hc:o<=i % size/\i % size<o+vs.length/\i % size<size
   ·rw [if_pos hc,if_pos za]
    congr 1
    omega
   ·rw [if_neg hc,if_neg za]
  ·have hne:¬ (k*size+o<=i/\i<k*size+o+vs.length/\i<l.length*size):=by
    rintro⟨h4,h5,-⟩
    exact hkk (Nat.div_eq_of_lt_le za (by rw [Nat.add_mul,Nat.one_mul];omega))
   rw [if_neg hne]
   have e3:(l.set k x').getD (i / size) d=l.getD (i / size) d:=by
    rw [List.getD_eq_getElem?_getD,List.getD_eq_getElem?_getD,List.getElem?_set_ne (λe=>hkk e.symm)]
   rw [e3]
 ·rw [if_neg za,Array.getElem?_eq_none za,Array.getElem?_eq_none za]
theorem gI (hf:∀ x,(f x).size=size){k o n:Nat}(hk:k<l.length) (ho:o+n<=size):k*size+o+n<=(aA f l).size:=by
 rw [eI hf]
 have:k*size+size<=l.length*size:=by
  calc k*size+size=(k+1)*size:=by rw [Nat.add_mul,Nat.one_mul]
   _<=l.length*size:=Nat.mul_le_mul_right _ hk
 omega
end
section
variable {P : Program} {R0 : Exit -> Act -> World -> Prop} {N : Fr} {K : List fQ} {S : Env} {w w0 : World} {l : List Oper} {M : List Nat} {A : dN} {rest : PT} {L : List bA}
theorem aL.kO {i:Nat}{o:Oper}{t:TypeId}{x y:Operand}(ho:l[i]?=some o) (hop:o.op=.store t x y) (hw:cZ l.toArray S o=some true){b off:Nat}{v:Value}{ti:TypeInfo}
 (hx:S.op x=some (.pointer (some ⟨b,off,none⟩))) (hy:S.op y=some v) (ht:P.info? t=some ti) (hs:St w0 L w) (j:Nat){α:Type}{f:α->Array Value}{size:Nat}(hf:∀ x,(f x).size=size){c:Nat}{e:TypeId}{xs xs':List α}(hj:L[j]?=some (Sl (some ⟨b,0,none⟩) c e size f xs))
 (hsz:v.cells.size=ti.size) (h1:v.cells.toList.all qZ=true) (hoff:off+v.cells.size<=(aA f xs).size) (hlen:xs'.length=xs.length) (hcs:aV (aA f xs) off v.cells.toList=aA f xs'){L':List bA}(hL:L.set j (Sl (some ⟨b,0,none⟩) c e size f xs')=L')
 (h:∀ w',St w0 L' w'->bH w' (opens M A i)/\aL P l M R0 K N A rest (S.dO o.dst undef) w'):aL P l M R0 K N A (.ef i rest) S w:=by
 have hp:=hs.pull j hj
 have h0:w.ownsRow 0 e size (.slice (some ⟨b,0,none⟩) xs.length c) xs.length (xs.flatMap λx=>(f x).toList):=hp.holds _ (List.mem_cons_self ..)
 rw [eI hf] at hoff
 rcases h0.2 with⟨h2,h3⟩|⟨g,cap,cur,hv,hg0,hg,hnc,hcm,hcur,htake⟩
 ·cases h2
 ·simp only [Value.slice.injEq,Option.some.injEq,Addr.mk.injEq,and_true,true_and] at hv
  obtain⟨rfl,rfl⟩:=hv
  have hlt:b<w.heap.size:=(Array.getElem?_eq_some_iff.1 hg).1
  have hnsz:xs.length*size<=cur.size:=by rw [hcur];exact Nat.mul_le_mul_right _ hnc
  have hr:=fV (P:=P) v.cells.toList w cur (0,0) off 0 hg (λj _=>by omega) (by simp only [Array.length_toList];omega) h1
  simp only [Nat.add_zero] at hr
  have hcells:∀ i,i<xs.length*size->cur[i]?=(aA f xs)[i]?:=λi hi=>by
   have e1:cur[i]?=cur.toList[i]?:=Array.getElem?_toList.symm
   have e2:(cur.toList.take (xs.length*size))[i]?=cur.toList[i]?:=List.getElem?_take_of_lt hi
   have e3:(aA f xs)[i]?=(xs.flatMap λx=>(f x).toList)[i]?:=List.getElem?_toArray ..
   rw [e1,<- e2,htake,e3]
  have hnew:(aV cur off v.cells.toList).toList.take (xs'.length*size)=xs'.flatMap λx=>(f x).toList:=by
   rw [hlen]
   apply List.ext_getElem?
   intro i
   have hfl:=bQ hf xs'
   rw [hlen] at hfl
   by_cases hi:i<xs.length*size
   ·rw [List.getElem?_take_of_lt hi,Array.getElem?_toList]
    have e1:(xs'.flatMap λx=>(f x).toList)[i]?=(aA f xs')[i]?:=by rw [aA,List.getElem?_toArray]
    rw [e1,<- hcs,iQ,iQ,hcells i hi,eI hf]
    by_cases hc:off<=i/\i<off+v.cells.toList.length/\i<cur.size
    ·rw [if_pos hc,if_pos ⟨hc.1,hc.2.1,hi⟩]
    ·rw [if_neg hc,if_neg (λq=>hc ⟨q.1,q.2.1,za⟩)]
   ·rw [List.getElem?_eq_none zK,List.getElem?_eq_none za]
  have hst:St w0 (Sl (some ⟨b,0,none⟩) c e size f xs'::L.eraseIdx j) (dw w b (.cells (aV cur off v.cells.toList) e (0,0))):=by
   refine St.step hp rfl rfl rfl (by simp [dw]) (λk hk hn=>?_) ?_ (λk hk=>⟨.inl hk,?_⟩)
   ·simp only [dw,Array.getElem?_setIfInBounds]
    rw [if_neg (λe=>hn (by subst e;rfl))]
   ·show World.ownsRow _ 0 e size (.slice _ xs'.length c) xs'.length _
    refine⟨bQ hf xs',.inr ⟨b,c,aV cur off v.cells.toList,rfl,hg0,by simp [dw,hlt],by rw [hlen];exact hnc,hcm,by rw [lQ];exact hcur,hnew⟩⟩
   ·have h5:(some b:Option Nat)=some k:=hk
    have h6:=Option.some.inj h5
    subst h6
    simpa [dw] using hlt
  obtain⟨k1,k2⟩:=h _ (hL▸hst.perm (vy _ hj))
  refine aL.run ho hw _ _ (λa hfit=>.inr ⟨?_,rfl⟩) k1 k2
  have hx':=hfit.op hx
  have hy':=hfit.op hy
  generalize a.eval=ρ at hx' hy' ⊢
  have h2:(storeVar t ⟨b,off,none⟩ v).run P w=.ok () (dw w b (.cells (aV cur off v.cells.toList) e (0,0))):=by
   simp only [storeVar,sizeOf,typeInfo,program,bind,Sem.bind,Sem.run,ht,pure]
   rw [if_neg (by simpa using hsz)]
   exact hr
  simp [execOp,hop,Instr.storeAt,hx',hy',Instr.sureAddr,bind,Sem.bind,pure]
  rw [Sem.run_bind',h2]
  rfl
theorem AY {α:Type}{t1 t2 ty e:TypeId}{ti:TypeInfo}{size:Nat}(hu:P.underlying t1=some (.slice e)) (hi:P.info? e=some ti) (hsz:ti.size=size) (hpos:0<size){f:α->Array Value}(hf:∀ x,(f x).size=size) (h1:∀ x,∀ u∈(f x).toList,u.oneCell'=true)
 {b off dLen dCap:Nat}{cs:Array Value}{T:TypeId}(hs:St w0 (aB b cs T::L) w) (d:α){adx:Option Addr}{cx:Nat}{ys:List α}(hx:aC w adx ys.length size (λk=>f (ys.getD k d))) (hfit:off+min ys.length dLen*size<=cs.size) :
 ∃ w',(Builtin.copy_ #[t1,t2] ty #[.slice (some ⟨b,off,none⟩) dLen dCap,.slice adx ys.length cx]).run P w=.ok (goInt (min ys.length dLen:Nat)) w'/\St w0 (aB b (aV cs off ((ys.take (min ys.length dLen)).flatMap λx=>(f x).toList)) T::L) w':=by
 obtain⟨fr,hb,hfr⟩:=hs.holds _ (List.mem_cons_self ..)
 have hlenc:((ys.take (min ys.length dLen)).flatMap λx=>(f x).toList).length=min ys.length dLen*size:=by
  rw [bQ hf,List.length_take]
  congr 1
  omega
 cases adx with
 | none =>
  have hy:ys=[]:=by
   cases ys with
   | nil=>rfl
   | cons y ys =>
    obtain⟨b,off,hh,_⟩:=hx zw
    cases hh
  subst hy
  refine⟨w,?_,?_⟩
  ·simp [Builtin.copy_,run_underlying hu,Builtin.lenOf,Builtin.firstCells,sizeOf,typeInfo,hi,storeCells]
  ·simpa [aV] using hs
 | some a =>
  have hsrc:∀ j v,((ys.take (min ys.length dLen)).flatMap λx=>(f x).toList)[j]?=some v->w.cell? (a.add j)=some v:=by
   intro j v hj
   have hlen:j<min ys.length dLen*size:=by rw [<- hlenc];exact(List.getElem?_eq_some_iff.1 hj).1
   have hy:0<ys.length:=by
    rcases Nat.eq_zero_or_pos ys.length with hz|hz
    ·rw [hz] at hlen;simp at hlen
    ·exact hz
   obtain⟨b',off',hh,hrow⟩:=hx hy
   simp only [Option.some.injEq] at hh
   subst hh
   have hk:j / size<min ys.length dLen:=Nat.div_lt_of_lt_mul (by rw [Nat.mul_comm];exact hlen)
   have hm:j % size<size:=Nat.mod_lt _ hpos
   have h2:=hrow (j / size) za (j % size) hm
   have h3:=nX hf d (ys.take (min ys.length dLen)) (j / size) (j % size) zK hm
   have h4:j / size*size+j % size=j:=by rw [Nat.mul_comm];exact Nat.div_add_mod j size
   have h5:(ys.take (min ys.length dLen)).getD (j / size) d=ys.getD (j / size) d:=by
    rw [List.getD_eq_getElem?_getD,List.getD_eq_getElem?_getD,List.getElem?_take_of_lt hk]
   rw [Nat.add_assoc,h4] at h2
   rw [h4,h5] at h3
   rw [dI,h2,<- h3]
   exact hj
  have hone:(((ys.take (min ys.length dLen)).flatMap λx=>(f x).toList).all qZ)=true:=by
   rw [List.all_eq_true]
   intro u hu
   obtain⟨y,_,hy⟩:=List.mem_flatMap.1 hu
   have:=h1 y u hy
   cases u<;>simp_all [qZ,Value.oneCell']
  have hl:=run_loadCells_list (P:=P) w a _ hsrc
  rw [hlenc] at hl
  have hst:=fV (P:=P) ((ys.take (min ys.length dLen)).flatMap λx=>(f x).toList) w cs fr off 0 hb hfr (by rw [hlenc];simpa using hfit) hone
  simp only [Nat.add_zero] at hst
  refine⟨_,?_,St.put hs hb hfr (cs':=aV cs off ((ys.take (min ys.length dLen)).flatMap λx=>(f x).toList)) (lQ ..)⟩
  have hmin:Nat.min ys.length dLen=min ys.length dLen:=rfl
  simp only [Builtin.copy_,run_underlying hu,Builtin.lenOf,Builtin.firstCells,sizeOf,typeInfo,Sem.run_bind,hi,hsz,hmin]
  simp [run_underlying hu,hi,hsz,hl,hst,hmin]
theorem aL.copy {α:Type}{i:Nat}{o:Oper}(ho:l[i]?=some o) (hw:cZ l.toArray S o=some true){t e:TypeId}{size bytes:Nat}(he:hU P t e size bytes){f:α->Array Value}(hf:fD f size){b off dLen dCap:Nat}{cs:Array Value}{T:TypeId}{ys:List α}{adx:Option Addr}{cx:Nat}(d:α)
 (hb:pR S o=some (.copy,[t,t],[.slice (some ⟨b,off,none⟩) dLen dCap,.slice adx ys.length cx])) (hs:St w0 (aB b cs T::L) w) (hx:aC w adx ys.length size (λk=>f (ys.getD k d))) (hfit:off+min ys.length dLen*size<=cs.size){cs':Array Value}(hcs:aV cs off ((ys.take (min ys.length dLen)).flatMap λx=>(f x).toList)=cs')
 (h:∀ w',St w0 (aB b cs' T::L) w'->bH w' (opens M A i)/\aL P l M R0 K N A rest (S.dO o.dst (.int .i64 (min ys.length dLen:Nat))) w'):aL P l M R0 K N A (.ef i rest) S w:=by
 subst hcs
 obtain⟨ti,z,h1,h2,h3,h4,h5⟩:=he.info
 obtain⟨w',hr,hs'⟩:=AY (P:=P) (t2:=t) (ty:=o.type) (dCap:=dCap) (cx:=cx) he.CA h1 h3 he.pos hf.size hf.NG hs d hx hfit
 obtain⟨k1,k2⟩:=h w' hs'
 refine aL.run ho hw _ w' (λa hfit=>.inl ?_) k1 k2
 obtain⟨cs,hrun⟩:=kW (P:=P) hfit hb w
 rw [hrun]
 simp only [builtin,Sem.run_bind]
 rw [hr]
 rfl
end
section
variable {α : Type} {f : α -> Array Value} {size n m : Nat} {l : List α}
theorem bS (hf:fD f size) (h:l.length=n) (hm:(n*size).beq m=true):Array.size (aA f l)=m:=by
 rw [eI hf.size,h];exact Nat.eq_of_beq_eq_true hm
theorem cR (hf:fD f size) (h:l.length=n) (hm:(n*size).beq m=true):(Value.cells (.agg (aA f l))).size=m:=bS hf h hm
theorem eO (hf:fD f size):(Value.cells (.agg (aA f l))).toList.all qZ=true:=by
 show(aA f l).toList.all _=true
 rw [List.all_eq_true]
 intro u hu
 simp only [aA] at hu
 obtain⟨x,_,hx⟩:=List.mem_flatMap.1 hu
 have h1:=hf.NG x u hx
 cases u<;>simp_all [qZ,Value.oneCell']
theorem eC (hf:fD f size) (h:l.length=n){cs:Array Value}(hm:(n*size).beq cs.size=true):0+(Value.cells (.agg (aA f l))).size<=cs.size:=by
 rw [Nat.zero_add,cR hf h hm];exact Nat.le_refl _
theorem fA (hf:fD f size) (h:l.length=n){cs:Array Value}(hm:(n*size).beq cs.size=true):aV cs 0 (Value.cells (.agg (aA f l))).toList=aA f l:=by
 have hs:(aA f l).size=cs.size:=bS hf h hm
 apply Array.ext_getElem?
 intro i
 have he:(Value.cells (.agg (aA f l))).toList=(aA f l).toList:=rfl
 rw [he,iQ]
 have hl:(aA f l).toList.length=cs.size:=by rw [Array.length_toList,hs]
 by_cases hi:i<cs.size
 ·rw [if_pos ⟨Nat.zero_le _,za,hi⟩,Nat.sub_zero,Array.getElem?_toList]
 ·rw [if_neg za,Array.getElem?_eq_none za,Array.getElem?_eq_none za]
end
def ic (k:IntKind) (x y:Int):Int:=k.wrap ((BitVec.ofInt k.bits x &&& BitVec.ofInt k.bits y).toNat:Int)
def jQ (k:IntKind) (x y:Int):Int:=k.wrap ((BitVec.ofInt k.bits x ||| BitVec.ofInt k.bits y).toNat:Int)
def bX (k:IntKind) (x y:Int):Int:=k.wrap ((BitVec.ofInt k.bits x ^^^ BitVec.ofInt k.bits y).toNat:Int)
def H4 (k:IntKind) (x:Int):Int:=bX k (if k.signed then -1 else k.max) x
def cD (k:IntKind) (x y:Int):Int:=k.wrap (x*2 ^ (min y.toNat k.bits))
def aW (k:IntKind) (x y:Int):Int:=x.fdiv (2 ^ (min y.toNat k.bits))
theorem lh (x:Int):0<=IntKind.u8.wrap x/\IntKind.u8.wrap x<256:=by
 have:IntKind.u8.wrap x=x % 256:=by
  simp [IntKind.wrap,IntKind.bits,IntKind.signed]
 rw [this];omega
theorem bK {k:IntKind}(h:k.signed=false) (x:Int):0<=k.wrap x:=by
 cases k<;>first|(exact absurd h zb)|(simp [IntKind.wrap,IntKind.bits,IntKind.signed];omega)
theorem AZ {b off n lo s h m:Nat}(h1:lo<n) (h2:h-lo=m):Value.slice (some (if n=lo then Addr.mk b off none else (Addr.mk b off none).add (lo*s))) (h-lo) (n-lo)=.slice (some ⟨b,off+lo*s,none⟩) m (n-lo):=by
 rw [if_neg za,dI,h2]
theorem L8 (b e n s:Nat):Value.pointer (some ((Addr.mk b (0+e*s) none).add (n*s)))=.pointer (some ⟨b,0+(e+n)*s,none⟩):=by
 rw [dI,Nat.add_assoc,<- Nat.add_mul]
theorem A0 {α:Type}{f:α->Array Value}(hf:fD f 1){l:List α}{d:α}{n:Int}{k:Nat}(hn:n.toNat=k) (hk:k<l.length){v:Value}(hv:(f (l.getD k d))[0]?=some v):(aA f l)[n.toNat*1]?=some v:=by
 subst hn
 have:=lR hf.size d hk (j:=0) za
 rw [Nat.add_zero] at this
 rw [this,hv]
section
variable {P : Program} {w w0 : World} {L : List bA}
def eG (n:Int):Array Value:=#[.int .u8 n]
theorem Ff (n:Int):(eG n).size=1:=rfl
def cH (s:ByteArray):List Int:=s.data.toList.map λb=>(b.toNat:Int)
theorem dK (s:ByteArray):(cH s).length=s.size:=by simp only [cH,List.length_map,Array.length_toList];rfl
def mn (s:ByteArray):List Value:=s.data.toList.map λb=>Value.int .u8 (b.toNat:Int)
theorem yP (s:ByteArray):((cH s).flatMap λx=>(eG x).toList)=mn s:=by
 unfold cH mn
 induction s.data.toList with
 | nil=>rfl
 | cons a l ih=>simp only [List.map_cons,List.flatMap_cons,ih];rfl
theorem gy (s:ByteArray):(mn s).length=s.size:=by simp only [mn,List.length_map,Array.length_toList];rfl
theorem vH (s:ByteArray):Array.map (λb:UInt8=>Value.int IntKind.u8 (b.toNat:Int)) s.data=(mn s).toArray:=by
 apply Array.ext'
 simp [mn]
theorem tY (s:ByteArray):(Array.map (λb:UInt8=>Value.int IntKind.u8 (b.toNat:Int)) s.data).extract 0 s.size=(mn s).toArray:=by
 have hs:s.size=(Array.map (λb:UInt8=>Value.int IntKind.u8 (b.toNat:Int)) s.data).size:=by rw [Array.size_map];rfl
 rw [hs,Array.extract_size]
 apply Array.ext'
 simp [mn]
theorem pL (t u ty e:TypeId) (i:TypeInfo) (ht:P.underlying t=some (.slice e)) (hu:P.underlying u=some .string) (hi:P.info? e=some i) (hsz:i.size=1)
 (g sLen sCap:Nat) (cur:Array Value) (hg:w.heap[g]?=some (.cells cur e (0,0))) (s:ByteArray) (hroom:sLen+s.size<=sCap) (hfit:sLen+s.size<=cur.size) :
 (Builtin.append_ #[t,u] ty #[.slice (some ⟨g,0,none⟩) sLen sCap,.string s]).run P w =
  .ok (.slice (some ⟨g,0,none⟩) (sLen+s.size) sCap) (w.setRow g (cur.toList.take sLen++mn s++cur.toList.drop (sLen+s.size)).toArray):=by
 have hst:=run_storeCells_at P g sLen e (mn s) 0 cur w hg (by rw [gy];simpa using hfit) (λu hu=>by
  obtain⟨b,-,rfl⟩:=List.mem_map.1 hu
  rfl)
 simp only [Nat.add_zero,gy] at hst
 simp [Builtin.append_,run_underlying ht,run_underlying hu,sizeOf,typeInfo,hi,hsz,Builtin.lenOf,hroom,Builtin.firstCells,Addr.add_lit,tY,hst]
theorem pM (t u ty e:TypeId) (i:TypeInfo) (z:Value) (ht:P.underlying t=some (.slice e)) (hu:P.underlying u=some .string) (hi:P.info? e=some i) (hz:i.zero=some z) (hsz:i.size=1)
 (b:Addr) (sLen sCap:Nat) (olds:List Value) (hlo:olds.length=sLen) (holds:∀ j v,olds[j]?=some v->w.cell? (b.add j)=some v)
 (s:ByteArray) (hg:sCap<sLen+s.size) (h63:((sLen+s.size:Nat):Int)<=9223372036854775807) (hfit:Builtin.nextslicecap (sLen+s.size) sCap*i.bytes<=281474976710656) :
 (Builtin.append_ #[t,u] ty #[.slice (some b) sLen sCap,.string s]).run P w =
  .ok (.slice (some ⟨w.heap.size,0,none⟩) (sLen+s.size) (grownCap w (sLen+s.size) sCap e))
   (w.drew.alloc (.cells (olds.toArray++(mn s).toArray++Builtin.zeroCells z.cells (grownCap w (sLen+s.size) sCap e-(sLen+s.size))) e)):=by
 have hn:¬ (sLen+s.size<=sCap):=za
 have h63':¬ (9223372036854775807<((sLen:Int)+(s.size:Int))):=za
 have h48':¬ (281474976710656<Builtin.nextslicecap (sLen+s.size) sCap*i.bytes):=za
 have hfo:=run_firstCells_some (P:=P) w.drew i.size sLen b sLen sCap olds (by rw [hsz,Nat.mul_one];exact hlo) (by simpa using holds)
 rw [hsz] at hfo
 simp [Builtin.append_,run_underlying ht,run_underlying hu,sizeOf,typeInfo,zeroValue,hi,hz,hsz,Builtin.lenOf,hn,h63',h48',Question.forced,hfo,newRow,grownCap]
 have hfs:(Builtin.firstCells 1 s.size (.string s)).run P w.drew=.ok (mn s).toArray w.drew:=by
  have he:=tY s
  simp only [vH] at he
  simp [Builtin.firstCells,vH,he]
 rw [hfs]
 simp only [Result.andThen_ok]
 have harr:∀ zz:Array Value,olds.toArray++((mn s).toArray++zz)=(olds++mn s).toArray++zz:=λzz=>by
  apply Array.ext'
  simp [List.append_assoc]
 simp only [harr]
 rfl
theorem vI {t u ty e:TypeId}{ti:TypeInfo}{z:Value}(ht:P.underlying t=some (.slice e)) (hu:P.underlying u=some .string) (hi:P.info? e=some ti) (hz:ti.zero=some z) (hsize:ti.size=1) (hby:ti.bytes=1) (hzs:z.cells.size=1)
 {ad:Option Addr}{c:Nat}{l:List Int}(hs:St w0 (Sl ad c e 1 eG l::L) w) (s:ByteArray) (h63:l.length+s.size<=1000000000000) :
 ∃ ad' c' w',(Builtin.append_ #[t,u] ty #[.slice ad l.length c,.string s]).run P w=.ok (.slice ad' (l++cH s).length c') w'/\St w0 (Sl ad' c' e 1 eG (l++cH s)::L) w':=by
 have hf:=Ff
 have h0:w.ownsRow 0 e 1 (.slice ad l.length c) l.length (l.flatMap λx=>(eG x).toList):=hs.holds _ (List.mem_cons_self ..)
 have hl:(l++cH s).length=l.length+s.size:=by rw [List.length_append,dK]
 have hfl:((l++cH s).flatMap λx=>(eG x).toList)=(l.flatMap λx=>(eG x).toList)++mn s:=by rw [List.flatMap_append,yP]
 have hll:(l.flatMap λx=>(eG x).toList).length=l.length:=by rw [bQ hf,Nat.mul_one]
 have fresh:∀ cap,St w0 (Sl (some ⟨w.heap.size,0,none⟩) (grownCap w (l.length+s.size) cap e) e 1 eG (l++cH s)::L)
  (w.drew.alloc (.cells ((l.flatMap λx=>(eG x).toList).toArray++(mn s).toArray++Builtin.zeroCells z.cells (grownCap w (l.length+s.size) cap e-(l.length+s.size))) e)):=by
  intro cap
  have hge:=grownCap_ge w (l.length+s.size) cap e
  have hcm:grownCap w (l.length+s.size) cap e<=maxLen:=grownCap_le_maxLen w (l.length+s.size) cap e zH
  refine St.step hs rfl rfl rfl zw (λk hk _=>heap_alloc_old w.drew _ hk) ?_ (λk hk=>⟨.inr ?_,?_⟩)
  ·show World.ownsRow _ 0 e 1 (.slice _ (l++cH s).length _) (l++cH s).length ((l++cH s).flatMap λx=>(eG x).toList)
   rw [hl,hfl]
   refine⟨by rw [List.length_append,hll,gy,Nat.mul_one],.inr ⟨w.heap.size,_,_,rfl,Nat.zero_le _,heap_alloc_new w.drew _,hge,hcm,?_,?_⟩⟩
   ·simp only [Array.size_append,List.size_toArray,size_zeroCells,hzs,hll,gy]
    omega
   ·have h9:(l.length+s.size)*1=((l.flatMap λx=>(eG x).toList)++mn s).length:=by rw [List.length_append,hll,gy,Nat.mul_one]
    simp only [Array.toList_append,List.append_assoc]
    rw [<- List.append_assoc,h9]
    exact List.take_left
  ·have h1:(some w.heap.size:Option Nat)=some k:=hk
   have h2:=Option.some.inj h1
   omega
  ·have h1:(some w.heap.size:Option Nat)=some k:=hk
   have h2:=Option.some.inj h1
   subst h2
   simp
 rcases h0.2 with⟨h3,h4⟩|⟨g,cap,cur,h3,hbg,hg,hnc,hcm,hcs,htake⟩
 ·simp only [Value.slice.injEq] at h3
  obtain⟨rfl,_,rfl⟩:=h3
  have hle:l=[]:=List.eq_nil_of_length_eq_zero h4
  subst hle
  by_cases hm:s.size=0
  ·have hye:cH s=[]:=List.eq_nil_of_length_eq_zero (by rw [dK];exact hm)
   refine⟨none,0,w,?_,by rw [hye];exact hs⟩
   rw [hye]
   simp [Builtin.append_,run_underlying ht,run_underlying hu,sizeOf,typeInfo,hi,Builtin.lenOf,Builtin.firstCells,hm]
  ·have hr:=run_append_nil_string (P:=P) (w:=w) t u ty e ti z ht hu hi hz s za za (by rw [hby];simp only [List.length_nil] at h63;omega)
   have hfr:=fresh 0
   rw [vH] at hr
   simp only [List.length_nil,Nat.zero_add,List.nil_append,List.flatMap_nil,Array.empty_append] at hfr hr ⊢
   exact⟨_,_,_,by rw [dK];exact hr,hfr⟩
 ·simp only [Value.slice.injEq] at h3
  obtain⟨rfl,_,rfl⟩:=h3
  by_cases hroom:l.length+s.size<=c
  ·have hr:=pL (P:=P) (w:=w) t u ty e ti ht hu hi hsize g l.length c cur hg s hroom za
   refine⟨some ⟨g,0,none⟩,c,_,by rw [hl];exact hr,?_⟩
   have htake':cur.toList.take l.length=l.flatMap λx=>(eG x).toList:=by rw [<- htake,Nat.mul_one]
   have hown':(Sl (some ⟨g,0,none⟩) c e 1 eG (l++cH s)).holds (w.setRow g (cur.toList.take l.length++mn s++cur.toList.drop (l.length+s.size)).toArray):=by
    show World.ownsRow _ 0 e 1 (.slice _ (l++cH s).length c) (l++cH s).length ((l++cH s).flatMap λx=>(eG x).toList)
    rw [hl,hfl]
    refine⟨by rw [List.length_append,hll,gy,Nat.mul_one],.inr ⟨g,c,_,rfl,Nat.zero_le _,setRow_heap w g cur _ e _ hg,hroom,hcm,?_,?_⟩⟩
    ·simp only [List.size_toArray,List.length_append,List.length_take,List.length_drop,Array.length_toList,gy]
     omega
    ·rw [htake',Nat.mul_one]
     have h9:l.length+s.size=((l.flatMap λx=>(eG x).toList)++mn s).length:=by rw [List.length_append,hll,gy]
     rw [h9]
     exact List.take_left
   have hgr:w.grownBy (w.setRow g (cur.toList.take l.length++mn s++cur.toList.drop (l.length+s.size)).toArray) (some g):=⟨rfl,rfl,rfl,by simp,λk _ hk=>setRow_other w g k _ (λe=>hk (by simp [e]))⟩
   refine St.grown hs hgr (λb hb=>hb) hown' (λb hb=>⟨.inl hb,?_⟩)
   have h1:(some g:Option Nat)=some b:=hb
   have h2:=Option.some.inj h1
   subst h2
   exact Nat.lt_of_lt_of_le (Array.getElem?_eq_some_iff.1 hg).1 hgr.size
  ·have holds:∀ j u,(l.flatMap λx=>(eG x).toList)[j]?=some u->w.cell? ((⟨g,0,none⟩:Addr).add j)=some u:=h0.cells (g:=g) rfl
   have hr:=pM (P:=P) (w:=w) t u ty e ti z ht hu hi hz hsize ⟨g,0,none⟩ l.length c _ hll holds s za za (growslice_fits za (by rw [hby];omega))
   exact⟨_,_,_,by rw [hl];exact hr,fresh c⟩
end
section
variable {P : Program} {R0 : Exit -> Act -> World -> Prop} {N : Fr} {Kk : List fQ} {S : Env} {w w0 : World} {l : List Oper} {M : List Nat} {A : dN} {rest : PT} {L : List bA}
theorem aL.yQ {i:Nat}{o:Oper}(ho:l[i]?=some o) (hw:cZ l.toArray S o=some true){t u e:TypeId}(he:hU P t e 1 1) (hu:P.underlying u=some .string){f:Int->Array Value}(hfv:f=eG){ad:Option Addr}{c:Nat}{xs:List Int}{s:ByteArray}
 (hb:pR S o=some (.append,[t,u],[.slice ad xs.length c,.string s])) (hs:St w0 (Sl ad c e 1 f xs::L) w) (hlen:xs.length+s.size<=1000000000000)
 (h:∀ ad' c' w',St w0 (Sl ad' c' e 1 f (xs++cH s)::L) w'->bH w' (opens M A i)/\aL P l M R0 Kk N A rest (S.dO o.dst (.slice ad' (xs++cH s).length c')) w'):aL P l M R0 Kk N A (.ef i rest) S w:=by
 subst hfv
 obtain⟨ti,z,h1,h2,h3,h4,h5⟩:=he.info
 obtain⟨ad',c',w',hr,hs'⟩:=vI (P:=P) (ty:=o.type) he.CA hu h1 h2 h3 h4 h5 hs s hlen
 obtain⟨k1,k2⟩:=h ad' c' w' hs'
 refine aL.run ho hw _ w' (λa hfit=>.inl ?_) k1 k2
 obtain⟨cs,hrun⟩:=kW (P:=P) hfit hb w
 rw [hrun]
 simp only [builtin,Sem.run_bind]
 rw [hr]
 rfl
end
section
variable {P : Program} {R0 : Exit -> Act -> World -> Prop} {N : Fr} {Kk : List fQ} {S : Env} {w w0 : World} {l : List Oper} {M : List Nat} {A : dN} {rest : PT} {L : List bA}
def strOf (xs:List Int):ByteArray:=⟨(xs.map fY).toArray⟩
theorem H8 (w:World) (src e:TypeId) (hs:P.underlying src=some (.slice e)) (he:P.underlying e=some (.int .u8)) (p:Option Addr) (c:Nat) (dst:TypeId) (hd:P.underlying dst=some .string) :
 (convert src dst (.slice p 0 c)).run P w=.ok (.string ByteArray.empty) w:=by
 rw [run_convert_bytes_string w src dst e _ 0 c hs he hd]
 cases p<;>simp [Conv.bytesToString,loadCells]
 all_goals rfl
theorem aL.H9 {i:Nat}{o:Oper}(ho:l[i]?=some o) (hw:cZ l.toArray S o=some true){src dst e:TypeId}{ad:Option Addr}{n cap:Nat}{f:Int->Array Value}(hfv:f=eG) (xs:List Int) (hn:n=xs.length) (ha:qt S o=some (src,dst,.slice ad n cap)) (h1:P.underlying src=some (.slice e)) (h2:P.underlying e=some (.int .u8)) (h3:P.underlying dst=some .string)
 (hb:∀ x∈xs,0<=x/\x<256) (hr:aC w ad xs.length 1 (λk=>f (xs.getD k 0)))
 (h:aL P l M R0 Kk N ((i,[.holds (λw=>aC w ad xs.length 1 (λk=>f (xs.getD k 0)))])::A) rest (S.dO o.dst (.string (strOf xs))) w):aL P l M R0 Kk N A (.rd i rest) S w:=by
 subst hfv hn
 refine aL.read ho hw [.holds (λw=>aC w ad xs.length 1 (λk=>eG (xs.getD k 0)))] _ (λa w' hf hn=>?_) ⟨hr,trivial⟩ h
 have hq:aC w' ad xs.length 1 (λk=>eG (xs.getD k 0)):=hn.1
 by_cases hpos:0<xs.length
 case neg =>
  have hx:xs=[]:=List.length_eq_zero_iff.1 za
  subst hx
  unfold qt at ha
  split at ha
  ·rename_i s' d' x' hop
   split at ha
   ·rename_i v hv
    simp only [Option.some.injEq,Prod.mk.injEq] at ha
    obtain⟨rfl,rfl,rfl⟩:=ha
    have hv':=hf.op hv
    generalize a.eval=ρ at hv' ⊢
    simp only [execOp,hop,hv',Sem.run_bind,H8 w' s' e h1 h2 ad cap d' h3,List.length_nil,Result.andThen_ok]
    rfl
   ·cases ha
  ·cases ha
 obtain⟨b,off,rfl,hc⟩:=hq hpos
 have hl:(xs.map fY).length=xs.length:=List.length_map ..
 have hB:pq b off (xs.map fY) w':=by
  intro j hj
  rw [hl] at hj
  have h5:w'.cell? ⟨b,off+j*1+0,none⟩=(eG (xs.getD j 0))[0]?:=hc j hj 0 za
  have h6:xs.getD j 0=xs[j]:=by rw [List.getD_eq_getElem?_getD,List.getElem?_eq_getElem hj];rfl
  have h7:=hb xs[j] (List.getElem_mem hj)
  rw [Nat.mul_one,Nat.add_zero,h6] at h5
  rw [h5,List.getElem_map,qu h7.1 h7.2]
  rfl
 unfold qt at ha
 split at ha
 ·rename_i s' d' x' hop
  split at ha
  ·rename_i v hv
   simp only [Option.some.injEq,Prod.mk.injEq] at ha
   obtain⟨rfl,rfl,rfl⟩:=ha
   have hv':=hf.op hv
   generalize a.eval=ρ at hv' ⊢
   have hr:=run_convert_bytes_back (P:=P) w' s' d' e ⟨b,off,none⟩ cap (xs.map fY) h1 h2 h3 (λj hj=>by rw [dI];exact hB j hj)
   rw [hl] at hr
   simp only [execOp,hop,hv',Sem.run_bind,hr,Result.andThen_ok]
   rfl
  ·cases ha
 ·cases ha
end
section
variable {P : Program} {R0 : Exit -> Act -> World -> Prop} {N : Fr} {Kk : List fQ} {S : Env} {w w0 : World} {l : List Oper} {M : List Nat} {A : dN} {rest : PT} {L : List bA}
variable {α β : Type} [DecidableEq α] {ek : α -> Value} {ev : β -> Value} {T K E : TypeId}
def GO (S:Env) (o:Oper):Option (TypeId×Value×Value×Value) :=
 match o.op with
 | .insert t x i y=>match S.op x,S.op i,S.op y with
  | some m,some k,some v=>some (t,m,k,v)
  | _,_,_=>none
 | _=>none
theorem aL.insert {i:Nat}{o:Oper}(ho:l[i]?=some o) (hw:cZ l.toArray S o=some true) (hl:gG P T ek ev K E){r:Nat}{k:α}{v:β}(ha:GO S o=some (T,.map (some r),ek k,ev v)) (hs:St w0 L w) (j:Nat){m:List (α×β)}(hj:L[j]?=some (bR ek ev r m))
 (h:∀ w',St w0 (bR ek ev r (hY m k v)::L.eraseIdx j) w'->bH w' (opens M A i)/\aL P l M R0 Kk N A rest (S.dO o.dst undef) w'):aL P l M R0 Kk N A (.ef i rest) S w:=by
 obtain⟨w',hr,hs'⟩:=pU hl (k:=k) (v:=v) (hs.pull j hj)
 obtain⟨k1,k2⟩:=h w' hs'
 refine aL.run ho hw _ _ (λa hf=>.inr ⟨?_,rfl⟩) k1 k2
 unfold GO at ha
 split at ha
 ·rename_i t' x' i' y' hop
  split at ha
  ·rename_i m' k' v' h1 h2 h3
   simp only [Option.some.injEq,Prod.mk.injEq] at ha
   obtain⟨rfl,rfl,rfl,rfl⟩:=ha
   have h1':=hf.op h1
   have h2':=hf.op h2
   have h3':=hf.op h3
   generalize a.eval=ρ at h1' h2' h3' ⊢
   simp only [execOp,hop,h1',h2',h3',Sem.run_bind,hr,Result.andThen_ok]
   rfl
  ·cases ha
 ·cases ha
def vJ (P:Program) (N:Fr) (R0:Exit->Act->World->Prop) (K:List fQ) (c:Code):Nat->Act->World->Prop
 | 0,_,_=>False
 | n+1,a,w=>c.wpIn (cS N.r) 0 P (Exit.then (vJ P N R0 K c n) (KQ P N R0 K)) a w
theorem Exit.Ib {Q:Exit->Act->World->Prop}{I J:Act->World->Prop}(h:∀ a w,I a w->J a w){e:Exit}{a:Act}{w:World}(x:Exit.then I Q e a w):Exit.then J Q e a w:=by
 cases e
 case normal=>exact h a w x
 all_goals exact x
theorem aX.qw {c:Code}(n:Nat) (h:aX P R0 N (.lp (vJ P N R0 Kk c n)::Kk) c S w):aX P R0 N Kk (.loop c) S w:=λa hf =>
 jm (λn=>vJ P N R0 Kk c n) id (λx a w h=>by
  cases x with
  | zero=>exact False.elim h
  | succ m =>
   exact wpIn_mono h λe a w hq=>Exit.Ib (λ_ _ h=>⟨m,Nat.lt_succ_self m,h⟩) hq) (n+1) a w (h a hf)
theorem aS.again {c:Code}{n:Nat}(h:aX P R0 N (.lp (vJ P N R0 Kk c n)::Kk) c S w):aS P R0 N (.lp (vJ P N R0 Kk c (n+1))::Kk) .normal S w:=λa hf=>h a hf
end
theorem GU {k:IntKind}{x y:Int}:Value.int k (if y>x then y else x)=Value.int k (max x y):=by
 congr 1
 by_cases h:y>x
 ·rw [if_pos h];omega
 ·rw [if_neg h];omega
theorem vN:∀ (vs pre lk post:List Value),lk.length=vs.length->aV (pre++lk++post).toArray pre.length vs=(pre++vs++post).toArray
 | [],pre,lk,post,h=>by
  have:lk=[]:=List.length_eq_zero_iff.1 h
  subst this
  rfl
 | v::vs,pre,m::lk,post,h=>by
  have h1:lk.length=vs.length:=by simpa using h
  have e:((pre++m::lk++post).toArray.setIfInBounds pre.length v)=((pre++[v])++lk++post).toArray:=by
   apply Array.ext'
   simp [List.set_append]
  have ih:=vN vs (pre++[v]) lk post h1
  rw [List.length_append] at ih
  show aV ((pre++m::lk++post).toArray.setIfInBounds pre.length v) (pre.length+1) vs=_
  rw [e]
  rw [show pre.length+1=pre.length+[v].length from rfl,ih]
  congr 1
  simp
 | _::_,_,[],_,h=>by simp at h
def kz {α:Type}(l:List α) (a:Nat) (ys:List α):List α:=l.take a++ys++l.drop (a+ys.length)
theorem tZ {α:Type}{l ys:List α}{a:Nat}(h:a+ys.length<=l.length):(kz l a ys).length=l.length:=by
 simp only [kz,List.length_append,List.length_take,List.length_drop];omega
theorem CX {α:Type}{f:α->Array Value}{size:Nat}(hf:∀ x,(f x).size=size){l ys:List α}{a:Nat}(h:a+ys.length<=l.length):aV (aA f l) (a*size) (ys.flatMap λx=>(f x).toList)=aA f (kz l a ys):=by
 have e1:l=l.take a++(l.drop a).take ys.length++l.drop (a+ys.length):=by
  rw [List.append_assoc,<- List.drop_drop,List.take_append_drop,List.take_append_drop]
 have:=vN (ys.flatMap λx=>(f x).toList) ((l.take a).flatMap λx=>(f x).toList) (((l.drop a).take ys.length).flatMap λx=>(f x).toList) ((l.drop (a+ys.length)).flatMap λx=>(f x).toList)
  (by rw [bQ hf,bQ hf,List.length_take,List.length_drop];congr 1;omega)
 rw [show((l.take a).flatMap λx=>(f x).toList).length=a*size by rw [bQ hf,List.length_take];congr 1;omega] at this
 rw [<- List.flatMap_append,<- List.flatMap_append,<- e1,<- List.flatMap_append,<- List.flatMap_append] at this
 exact this
theorem yS {α:Type}{f:α->Array Value}{size:Nat}(hf:∀ x,(f x).size=size) (d:α) (n:Nat) (hp:0<size):madeCells (f d) (n*size)=aA f (List.replicate n d):=by
 apply Array.ext_getElem?
 intro i
 by_cases hi:i<n*size
 ·have h1:i / size<n:=Nat.div_lt_of_lt_mul (by rw [Nat.mul_comm];exact hi)
  have h2:i % size<size:=Nat.mod_lt _ hp
  have h3:=lR (f:=f) (l:=List.replicate n d) hf d (k:=i / size) (j:=i % size) (by rw [List.length_replicate];exact h1) h2
  rw [show i / size*size+i % size=i by rw [Nat.mul_comm];exact Nat.div_add_mod i size] at h3
  rw [h3]
  have h4:(List.replicate n d).getD (i / size) d=d:=by
   rw [List.getD_eq_getElem?_getD,List.getElem?_replicate];split<;>rfl
  rw [h4]
  unfold madeCells
  rw [hf d,Array.getElem?_map,Array.getElem?_range,if_pos hi]
  simp only [Option.map_some]
  rw [getElem!_pos (f d) (i % size) (by rw [hf d];exact h2),getElem?_pos (f d) (i % size) (by rw [hf d];exact h2)]
 ·rw [Array.getElem?_eq_none (by rw [size_madeCells];omega),Array.getElem?_eq_none (by rw [eI hf,List.length_replicate];omega)]
section
variable {P : Program} {R0 : Exit -> Act -> World -> Prop} {N : Fr} {K : List fQ} {S : Env} {w w0 : World} {l : List Oper} {M : List Nat} {A : dN} {rest : PT} {L : List bA}
def A3 (S:Env) (o:Oper):Option (TypeId×Value×Value) :=
 match o.op with
 | .makeSlice t x y=>match S.op x,S.op y with
  | some a,some b=>some (t,a,b)
  | _,_=>none
 | _=>none
theorem aL.M8 {α:Type}{i:Nat}{o:Oper}(ho:l[i]?=some o) (hw:cZ l.toArray S o=some true){t e:TypeId}{size bytes:Nat}(he:hU P t e size bytes){f:α->Array Value}(hf:fD f size){b off dLen dCap n:Nat}{cs:Array Value}{T:TypeId}{ys:List α}{adx:Option Addr}{cx:Nat}(d:α) (hn:n=ys.length)
 (hb:pR S o=some (.copy,[t,t],[.slice (some ⟨b,off,none⟩) dLen dCap,.slice adx n cx])) (hs:St w0 (aB b cs T::L) w) (hx:aC w adx ys.length size (λk=>f (ys.getD k d))) (hfit:off+min ys.length dLen*size<=cs.size){cs':Array Value}(hcs:aV cs off ((ys.take (min ys.length dLen)).flatMap λx=>(f x).toList)=cs')
 (h:∀ w',St w0 (aB b cs' T::L) w'->bH w' (opens M A i)/\aL P l M R0 K N A rest (S.dO o.dst (.int .i64 (min ys.length dLen:Nat))) w'):aL P l M R0 K N A (.ef i rest) S w:=by
 subst hn
 exact aL.copy ho hw he hf d hb hs hx hfit hcs h
theorem aL.makeSlice {α:Type}{i:Nat}{o:Oper}(ho:l[i]?=some o) (hw:cZ l.toArray S o=some true){t e:TypeId}{n:Nat}(ha:A3 S o=some (t,.int .i64 (n:Int),.int .i64 (n:Int))) (he:P.underlying t=some (.slice e)){ti:TypeInfo}(hi:P.info? e=some ti){z:Value}(hz:ti.zero=some z){f:α->Array Value}(d:α) (hzc:z.cells=f d){size:Nat}(hsz:ti.size=size) (hf:fD f size) (hp:0<size) (hn:n<=100000) (hby:ti.bytes<=100000) (hs:St w0 L w)
 (h:∀ b w',St w0 (aB b (aA f (List.replicate n d)) e::L) w'->bH w' (opens M A i)/\aL P l M R0 K N A rest (S.dO o.dst (.slice (some ⟨b,0,none⟩) n n)) w'):aL P l M R0 K N A (.ef i rest) S w:=by
 have hbn:ti.bytes*n<=281474976710656:=by
  have:=Nat.mul_le_mul hby hn
  omega
 have hr:=run_make (P:=P) w t e ti z he hi hz .i64 .i64 (n:Int) (n:Int) za (Int.le_refl _) (by rw [<- Int.natCast_mul];omega) za
 rw [Int.toNat_natCast,hzc,hsz,yS hf.size d n hp] at hr
 obtain⟨k1,k2⟩:=h _ _ (hs.gM (aA f (List.replicate n d)) e)
 refine aL.run ho hw _ _ (λa hfit=>.inl ?_) k1 k2
 unfold A3 at ha
 split at ha
 ·rename_i t' x y hop
  split at ha
  ·rename_i a1 b1 h1 h2
   simp only [Option.some.injEq,Prod.mk.injEq] at ha
   obtain⟨rfl,rfl,rfl⟩:=ha
   have e1:=hfit.op h1
   have e2:=hfit.op h2
   generalize a.eval=ρ at e1 e2 ⊢
   simp only [execOp,hop,e1,e2,Sem.run_bind,hr,Result.andThen_ok]
   rfl
  ·cases ha
 ·cases ha
end
theorem jI {P:Program}(e:TypeId) (cs:Array Value) (w1:World):(newRow e cs).run P w1=.ok ⟨w1.heap.size,0,none⟩ { w1 with heap:=w1.heap.push (.cells cs e) }:=rfl
theorem mX {P:Program}(e:TypeId) (s:ByteArray) (hs:s.size<=1000000000) (w:World):∃ cap,s.size<=cap/\cap<=9223372036854775807/\(Conv.stringToBytes e s).run P w=.ok (.slice (some ⟨w.heap.size,0,none⟩) s.size cap)
 { w with drawn:=w.drawn+1,heap:=w.heap.push (.cells ((s.toList.map λb=>Value.int .u8 (b.toNat:Int))++List.replicate (cap-s.size) (Value.int .u8 0)).toArray e (((s.toList.map λb=>Value.int .u8 (b.toNat:Int))++List.replicate (cap-s.size) (Value.int .u8 0)).length,((s.toList.map λb=>Value.int .u8 (b.toNat:Int))++List.replicate (cap-s.size) (Value.int .u8 0)).length+1)) }:=by
 refine⟨grownCap w s.size 0 e,grownCap_ge w s.size 0 e,grownCap_le_maxLen w s.size 0 e zH,?_⟩
 have harr:(s.data.map λb=>Value.int .u8 (b.toNat:Int))++Array.replicate (grownCap w s.size 0 e-s.size) (Value.int .u8 0)=((s.toList.map λb=>Value.int .u8 (b.toNat:Int))++List.replicate (grownCap w s.size 0 e-s.size) (Value.int .u8 0)).toArray:=by
  apply Array.ext'
  simp [ByteArray.toList_eq]
 have hch:(choose (.appendCap s.size 0 e)).run P w=.ok (grownCap w s.size 0 e) { w with drawn:=w.drawn+1 }:=by
  simp [choose,Sem.run,Question.forced,grownCap]
 simp only [Conv.stringToBytes,Sem.run_bind,hch,Result.andThen_ok]
 rw [harr,jI]
 generalize ((s.toList.map λb=>Value.int .u8 (b.toNat:Int))++List.replicate (grownCap w s.size 0 e-s.size) (Value.int .u8 0))=l
 have hsh:World.shape? { w with drawn:=w.drawn+1,heap:=w.heap.push (.cells l.toArray e) } w.heap.size=some (e,l.length):=by
  simp [World.shape?]
 have hfz:World.freeze { w with drawn:=w.drawn+1,heap:=w.heap.push (.cells l.toArray e) } { block:=w.heap.size,off:=l.length } 1={ w with drawn:=w.drawn+1,heap:=w.heap.push (.cells l.toArray e (l.length,l.length+1)) }:=by
  simp only [World.freeze,Nat.one_ne_zero,if_false]
  congr 1
  apply Array.ext_getElem?
  intro k
  rw [Array.getElem?_modify]
  by_cases hk:w.heap.size=k
  ·subst hk;simp
  ·rw [if_neg hk]
   simp only [Array.getElem?_push]
   rw [if_neg (λe=>hk e.symm),if_neg (λe=>hk e.symm)]
 simp only [Result.andThen_ok,markStringish,shape,freeze,bind,Sem.bind,Sem.run,hsh,hfz,pure]
theorem Kh (l:List Int):l=(List.range l.length).map (λi=>l.getD i 0):=by
 apply List.ext_getElem zw
 intro i h1 h2
 simp [List.getD_eq_getElem?_getD,List.getElem?_eq_getElem h1]
section
variable {P : Program} {R0 : Exit -> Act -> World -> Prop} {N : Fr} {Kk : List fQ} {S : Env} {w w0 : World} {l : List Oper} {M : List Nat} {A : dN} {rest : PT} {L : List bA}
theorem Ki (m:Nat):((List.replicate m (0:Int)).flatMap λx=>(eG x).toList)=List.replicate m (Value.int .u8 0):=by
 induction m with
 | zero=>rfl
 | succ m ih=>rw [List.replicate_succ,List.replicate_succ,List.flatMap_cons,ih];rfl
theorem Dd (s:ByteArray) (m:Nat):(aA eG (cH s++List.replicate m 0)).toList=mn s++List.replicate m (Value.int .u8 0):=by
 show((cH s++List.replicate m 0).flatMap λx=>(eG x).toList).toArray.toList=_
 rw [List.flatMap_append,yP,Ki]
theorem aL.De {i:Nat}{o:Oper}(ho:l[i]?=some o) (hw:cZ l.toArray S o=some true){src dst e:TypeId}{f:Int->Array Value}(hfv:f=eG) (s:ByteArray) (ha:qt S o=some (src,dst,.string s)) (h1:P.underlying src=some .string) (h2:P.underlying dst=some (.slice e)) (h3:P.underlying e=some (.int .u8)) (hsz:s.size<=1000000000) (hs:St w0 L w)
 (h:∀ b m w',St w0 (aB b (aA f (cH s++List.replicate m 0)) e::L) w'->bH w' (opens M A i)/\aL P l M R0 Kk N A rest (S.dO o.dst (.slice (some ⟨b,0,none⟩) (cH s).length ((cH s).length+m))) w'):aL P l M R0 Kk N A (.ef i rest) S w:=by
 subst hfv
 obtain⟨cap,hc,hcm,hr⟩:=mX (P:=P) e s hsz w
 have harr:((s.toList.map λb=>Value.int .u8 (b.toNat:Int))++List.replicate (cap-s.size) (Value.int .u8 0))=(aA eG (cH s++List.replicate (cap-s.size) 0)).toList:=by
  rw [Dd,ByteArray.toList_eq];rfl
 rw [harr] at hr
 have hcap:cap=(cH s).length+(cap-s.size):=by rw [dK];omega
 have hs2:St w0 (aB w.heap.size (aA eG (cH s++List.replicate (cap-s.size) 0)) e::L) { w with drawn:=w.drawn+1,heap:=w.heap.push (.cells (aA eG (cH s++List.replicate (cap-s.size) 0)).toList.toArray e ((aA eG (cH s++List.replicate (cap-s.size) 0)).toList.length,(aA eG (cH s++List.replicate (cap-s.size) 0)).toList.length+1)) }:=by
  have hd:St w0 L { w with drawn:=w.drawn+1 }:=hs.drew
  refine St.new hd rfl rfl rfl zw (λb hb=>?_) ⟨((aA eG (cH s++List.replicate (cap-s.size) 0)).size,(aA eG (cH s++List.replicate (cap-s.size) 0)).size+1),by simp,λi hi h=>?_⟩ (λb hb=>?_)
  ·have hb':b<w.heap.size:=hb
   simp only [Array.getElem?_push];rw [if_neg za]
  ·omega
  ·have:b=w.heap.size:=hb
   subst this
   simp
 obtain⟨k1,k2⟩:=h _ _ _ hs2
 refine aL.run ho hw _ _ (λa hfit=>.inl ?_) k1 k2
 unfold qt at ha
 split at ha
 ·rename_i s' d' x' hop
  split at ha
  ·rename_i v hv
   simp only [Option.some.injEq,Prod.mk.injEq] at ha
   obtain⟨rfl,rfl,rfl⟩:=ha
   have hv':=hfit.op hv
   generalize a.eval=ρ at hv' ⊢
   have hcv:(convert s' d' (ρ x')).run P w=(Conv.stringToBytes e s).run P w:=by
    rw [hv']
    simp only [convert,Sem.run_bind,run_underlying h1,run_underlying h2,Result.andThen_ok,run_underlying h3]
   simp only [execOp,hop,Sem.run_bind,hcv,hr,Result.andThen_ok,Sem.run_pure]
   rw [<- hcap,dK]
  ·cases ha
 ·cases ha
theorem uh {w:World}{L:List bA}{b e m:Nat}{s:ByteArray}(hs:St w0 L w) (j:Nat) (hj:L[j]?=some (aB b (aA eG (cH s++List.replicate m 0)) e)):aC w (some ⟨b,0,none⟩) (cH s).length 1 (λk=>eG ((cH s).getD k 0)):=by
 have h:=aG hs j hj (f:=eG) (size:=1) (λ_=>rfl) (0:Int)
 have h2:=aC.GM h (cH s).length zw
 rw [List.take_left' rfl] at h2
 exact h2
end
section
variable {P : Program} {R0 : Exit -> Act -> World -> Prop} {N : Fr} {K : List fQ} {S : Env} {w w0 : World} {l : List Oper} {M : List Nat} {A : dN} {rest : PT} {L : List bA} {n b D : Nat} {φ : Value -> World -> Prop} {body asg : Code}
theorem St.wB {o o':Obj}(hs:St w0 (eK b o::L) w):St w0 (eK b o'::L) (w.putObj b o'):=by
 have hlt:=hs.lt (eK b o) (List.mem_cons_self ..) b rfl
 refine St.step hs rfl rfl rfl zw (λk _ hn=>World.putObj_heap_other λe=>hn e) (World.putObj_heap_same hlt) (λk hk=>⟨.inl hk,?_⟩)
 have:k=b:=hk
 rw [this]
 simpa using hlt
def Yl (P:Program) (b:Nat) (args:Array Value) (w:World) (φ:Value->World->Prop):Prop :=
 ∃ f tmps asg body,(Instr.yield b args).run P w=.ok (.round b f tmps asg body) w/\RoundIn (cS none) 0 P b f tmps asg body w (eD φ)
theorem Yl.mono {args:Array Value}{ψ:Value->World->Prop}(h:Yl P b args w φ) (hm:∀ v w',φ v w'->ψ v w'):Yl P b args w ψ:=by
 obtain⟨f,tmps,asg,body,h1,h2⟩:=h
 refine⟨f,tmps,asg,body,h1,RoundIn.mono h2 λe w' he=>?_⟩
 cases e with
 | returned v=>exact hm v w' he
 | panicked c=>exact he.elim
 | outgrown=>exact he.elim
def zZ (S:Env) (c:Call):Option (Nat×Array Value) :=
 match c.callee with
 | .value x =>
  match S.op x,S.ops c.args.toList with
  | some (.func (.yield b) ⟨[]⟩ ⟨[]⟩),some vs=>some (b,vs.toArray)
  | _,_=>none
 | _=>none
theorem aL.yield {i:Nat}{o:Oper}{c:Call}(ho:l[i]?=some o) (hop:o.op=.call c) (hw:cZ l.toArray S o=some true){args:Array Value}(hc:zZ S c=some (b,args)) (spec:Yl P b args w φ)
 (h:∀ v w',φ v w'->bH w' (opens M A i)/\aL P l M R0 K N A rest (S.dO o.dst v) w'):aL P l M R0 K N A (.ef i rest) S w:=λhN a hf=>by
 have ho':l.toArray[i]?=some o:=by simpa using ho
 obtain⟨f,tmps,asg,body,hy,hround⟩:=spec
 have run:(execOp a.eval o).run P w=.ok (.round b f tmps asg body) w:=by
  unfold zZ at hc
  split at hc
  ·rename_i x hx
   split at hc
   ·rename_i b' vs h1 h2
    simp only [Option.some.injEq,Prod.mk.injEq] at hc
    obtain⟨rfl,rfl⟩:=hc
    have h1':=hf.op h1
    have h2':=hf.ops h2
    have h3:c.args.map a.eval=vs.toArray:=by
     rw [<- h2']
     apply Array.ext'
     simp
    generalize a.eval=ρ at h1' h3 ⊢
    simp [execOp,hop,resolve,hx,h1',h3,Deferred.ofValue,invoke,go_sem]
    exact hy
   ·cases hc
  ·cases hc
 refine bZ.ef ?_
 show wpOpIn (cS N.r) 0 P l.toArray _ i _ a w
 unfold wpOpIn
 simp only [ho',fH hf hw (iu hN),if_true]
 refine⟨λ_ _=>trivial,?_⟩
 rw [Oper.semAt_eq _ _ _ (λc' e=>by rw [hop] at e;cases e),run]
 simp only [Oper.uponIn]
 refine⟨λh=>by simp [cS,Fence.wide] at h,RoundIn.mono (F:=cS none) hround λe w' he=>?_⟩
 cases e with
 | returned v =>
  obtain⟨h1,h2⟩:=h v w' he
  exact⟨nV h1,h2 hN _ (hf.dO (gx hN i o ho') v)⟩
 | panicked c=>exact he.elim
 | outgrown=>exact he.elim
def RP (P:Program) (b:Nat) (φ:Value->World->Prop):Exit->Act->World->Prop:=roundPost P b (eD φ)
def RA (P:Program) (b:Nat) (body:Code) (φ:Value->World->Prop):Exit->Act->World->Prop :=
 Exit.then (λa₁ w₁=>∃ w₂,(Instr.beginRound b).run P w₁=.ok () w₂/\body.wpIn (cS (some b)) 0 P (RP P b φ) a₁ w₂) (λ_ _ _=>False)
theorem RP.qY:tV (RP P b φ):=λ_ _ _ h=>h
theorem Yl.of {r:Loop}{p:Tmp}{v:Value}(hs:St w0 (eK b (.loop r)::L) w) (hps:r.params=#[p]) (hf:Fits ⟨n,[],some b⟩ S ⟨r.tmps,[]⟩) (hp:p<n)
 (h:aX P (RA P b r.body φ) ⟨n,[],some b⟩ [] r.assign (S.set p v) w):Yl P b #[v] w φ:=by
 have hr:w.heap[b]?=some (.loop r):=hs.holds _ (List.mem_cons_self ..)
 refine⟨_,_,_,_,run_yield hr (by rw [hps];rfl),roundIn_of_wpIn (F:=cS none) trivial ?_⟩
 refine h _ ?_
 have h1:=hf.set hp v
 rw [hps]
 simpa [Act.put] using h1
theorem aS.begin {r:Loop}(hs:St w0 (eK b (.loop r)::L) w) (hr:r.state=.ready) (h:∀ w',St w0 (eK b (.loop { r with state:=.busy })::L) w'->aX P (RP P b φ) ⟨n,[],some b⟩ [] body S w') :
 aS P (RA P b body φ) ⟨n,[],some b⟩ [] .normal S w:=λa hf =>
 ⟨_,run_beginRound (hs.holds _ (List.mem_cons_self ..)) hr,h _ hs.wB a hf⟩
theorem aS.on {r:Loop}(hst:r.state=.ready) (hpd:r.pending=none) (hs:St w0 (eK b (.loop { r with state:=.busy })::L) w) (h:∀ w',St w0 (eK b (.loop r)::L) w'->φ (.bool true) w'):aS P (RP P b φ) N [] .normal S w:=λa hf=>by
 obtain⟨st,pd,f,t,p,a1,b1,d⟩:=r
 obtain rfl:st=.ready:=hst
 obtain rfl:pd=none:=hpd
 exact⟨_,_,run_endRound none (hs.holds _ (List.mem_cons_self ..)),h _ hs.wB⟩
theorem aS.off {r:Loop}(hs:St w0 (eK b (.loop { r with state:=.busy })::L) w) (h:∀ w',St w0 (eK b (.loop { r with state:=.done,pending:=some .ret })::L) w'->φ (.bool false) w'):aS P (RP P b φ) N [] .ret S w:=λa hf =>
 ⟨_,_,run_endRound (some .ret) (hs.holds _ (List.mem_cons_self ..)),h _ hs.wB⟩
def IP:List bA->bA
 | []=>St.nothing
 | A::l=>A.and (IP l)
theorem St.Dw:∀ {l L:List bA},St w0 (l++L) w->St w0 (IP l::L) w
 | [],_,h=>h.qm
 | A::l,L,h=>St.join ((St.Dw (l:=l) (L:=A::L) (h.perm List.perm_middle.symm)).perm (List.Perm.swap _ _ _))
theorem St.splits:∀ {l L:List bA},St w0 (IP l::L) w->St w0 (l++L) w
 | [],_,h=>h.tail
 | A::l,L,h=>(St.splits (l:=l) (L:=A::L) (h.split.perm (List.Perm.swap _ _ _))).perm List.perm_middle
theorem IQ {ty:TypeId}{p:Addr}{v:Value}(ha:iP P ty=false) (hu:(P.underlying ty).isSome=true) (hc:w.cell? p=some v):(loadVar ty p).run P w=.ok v w:=by
 obtain⟨d,hd⟩:=Option.isSome_iff_exists.1 hu
 have h3:(isAgg ty).run P w=.ok false w:=by
  simp only [iP,hd] at ha
  simp only [isAgg,Sem.run_bind,run_underlying hd,Result.andThen_ok]
  cases d<;>first|rfl|simp at ha
 simp only [loadVar,Sem.run_bind,h3,Result.andThen_ok,Bool.false_eq_true,if_false]
 simp [load,Sem.run,hc]
def IU (P:Program) (S:Env) (w:World) (t:Tmp) (ty:TypeId) (v:Value):Prop:=∃ p,S.get t=some (.pointer (some p))/\(loadVar ty p).run P w=.ok v w
theorem IU.of {t:Tmp}{ty:TypeId}{v:Value}{c:Nat}(hg:S.get t=some (.pointer (some ⟨c,0,none⟩))) (ha:iP P ty=false) (hu:(P.underlying ty).isSome=true) (hc:w.cell? ⟨c,0,none⟩=some v):IU P S w t ty v:=⟨_,hg,IQ ha hu hc⟩
abbrev mark (D:Nat):Deferred:={ target:=.collected D,args:=#[] }
theorem rM {N N':Fr}(h:N.r=N'.r):∀ K,KQ P N R0 K=KQ P N' R0 K
 | []=>rfl
 | .code c::k=>by simp only [KQ,rM h k,h]
 | .cN id::k=>by simp only [KQ,rM h k]
 | .lp I::k=>by simp only [KQ,rM h k]
theorem aX.range {g:Operand}{ps:Array Tmp}{f:FuncId}{fst cap:Array Value}(hg:S.op g=some (.func (.func f) fst cap)) (hcall:∀ args w,(callFunc f args).run P w=.ok (.enter f args) w) (hs:St w0 L w)
 (h:∀ (b D:Nat) (r:Loop) (w1:World),r.state=.ready->r.pending=none->r.params=ps->r.assign=asg->r.body=body->Fits ⟨n,[],some b⟩ S ⟨r.tmps,[]⟩->St w0 (eK b (.loop r)::eK D (.deferred (some []))::L) w1 ->
  Calls P f (fst.toList++[Value.func (.yield b) #[] #[]]++cap.toList).toArray w1 (eD λ_ w2=>∃ (r2:Loop) (L2:List bA),St w0 (eK b (.loop r2)::L2) w2/\r2.state≠.busy /\
   ((r2.pending=none/\∀ w3,St w0 L2 w3->aS P R0 ⟨n,[mark D],none⟩ K .normal S w3)\/(r2.pending=some .ret/\∀ w3,St w0 L2 w3->aS P R0 ⟨n,[mark D],none⟩ K .ret S w3)))) :
 aX P R0 ⟨n,[],none⟩ K (.rangeFunc g ps asg body) S w:=λa hf=>by
 refine wpIn_rangeFunc λfn _=>?_
 have hs1:St w0 (eK w.heap.size (.deferred (some []))::L) (w.alloc (.deferred (some []))):=hs.AR _
 have hs2:=hs1.AR (.loop { state:=.ready,pending:=none,fn:=fn,tmps:=a.tmps,params:=ps,assign:=asg,body:=body,defers:=w.heap.size })
 have hsz:(w.alloc (.deferred (some []))).heap.size=w.heap.size+1:=World.size_alloc _ _
 rw [hsz] at hs2
 have hc:=h _ _ _ _ rfl rfl rfl rfl rfl ⟨rfl,hf.size,hf.at_⟩ hs2
 obtain⟨W1,hW1⟩:∃ W1:World,(w.alloc (.deferred (some []))).alloc (.loop { state:=.ready,pending:=none,fn:=fn,tmps:=a.tmps,params:=ps,assign:=asg,body:=body,defers:=w.heap.size })=W1:=⟨_,rfl⟩
 have hE:(Instr.enterLoop fn a.tmps ps asg body none).run P w=.ok (w.heap.size+1,[mark w.heap.size]) W1:=by rw [<- hW1];exact run_enterLoop_outer _ _ _ _ _
 change Calls P f _ ((w.alloc (.deferred (some []))).alloc (.loop { state:=.ready,pending:=none,fn:=fn,tmps:=a.tmps,params:=ps,assign:=asg,body:=body,defers:=w.heap.size })) _ at hc
 rw [hW1] at hc
 refine⟨_,_,W1,{ target:=.fn (.func f) cap,args:=fst++#[Value.func (.yield (w.heap.size+1)) #[] #[]] },W1,f,(fst.toList++[Value.func (.yield (w.heap.size+1)) #[] #[]]++cap.toList).toArray,W1,hE,?_,λ_ _=>trivial,?_,(λh=>by simp [cS,Fence.wide] at h),?_⟩
 ·simp only [resolve,hf.op hg]
  simp [Deferred.ofValue,go_sem,Act.eval]
 ·have h5:(fst++#[Value.func (.yield (w.heap.size+1)) #[] #[]])++cap=(fst.toList++[Value.func (.yield (w.heap.size+1)) #[] #[]]++cap.toList).toArray:=by
   apply Array.ext'
   simp
  simp only [invoke]
  rw [h5]
  exact hcall _ _
 ·refine gQ.2 (Calls.mono hc λe w3 he=>?_)
  cases e with
  | panicked c=>exact he.elim
  | outgrown=>exact he.elim
  | returned v =>
   obtain⟨⟨st2,pd2,f2,t2,p2,a2,b2,d2⟩,L2,h1,h2,h3⟩:=he
   have hr:=h1.holds _ (List.mem_cons_self ..)
   have hf':Fits ⟨n,[mark w.heap.size],none⟩ S { a with defers:=[mark w.heap.size]++a.defers }:=⟨by rw [show a.defers=[] from hf.defers];rfl,hf.size,hf.at_⟩
   have hk:KQ P ⟨n,[],none⟩ R0 K=KQ P ⟨n,[mark w.heap.size],none⟩ R0 K:=rM (N:=⟨n,[],none⟩) (N':=⟨n,[mark w.heap.size],none⟩) rfl K
   refine⟨pd2,_,run_endLoop hr h2,?_⟩
   rw [hk]
   have h4:=(h1.wB (o':=.loop ⟨.exhausted,pd2,f2,t2,p2,a2,b2,d2⟩)).tail
   rcases h3 with⟨hp,h3⟩|⟨hp,h3⟩
   ·obtain rfl:pd2=none:=hp
    exact h3 _ h4 _ hf'
   ·obtain rfl:pd2=some .ret:=hp
    exact wpIn_ret (h3 _ h4 _ hf')
def BP (P:Program) (fn:Func) (φ:Value->World->Prop):Exit->Act->World->Prop:=λe a w=>(e=.ret\/e=.normal)/\LeavesInM (cS none) 0 P fn a.tmps (eD φ) a.defers .returning w
theorem BP.qY {fn:Func}:tV (BP P fn φ):=λ_ _ _ h=>by rcases h.1 with h|h<;>cases h
end
section
variable {α : Type} {w0 w : World} {L : List bA}
def aE (F:α->bA) (l:List α):bA:=IP (l.map F)
theorem aE.out {F:α->bA}{l:List α}(h:St w0 (aE F l::L) w):St w0 (l.map F++L) w:=St.splits h
theorem aE.OW {F:α->bA}{l:List α}(h:St w0 (l.map F++L) w):St w0 (aE F l::L) w:=St.Dw h
theorem aE.nil {F:α->bA}(h:St w0 L w):St w0 (aE F []::L) w:=aE.OW h
theorem Ku (d:α):∀ {l:List α}{i:Nat},i<l.length->List.Perm l (l.getD i d::l.eraseIdx i)
 | [],i,h=>absurd h (Nat.not_lt_zero _)
 | x::l,0,_=>List.Perm.refl _
 | x::l,i+1,h=>(List.Perm.cons x (Ku d (Nat.lt_of_succ_lt_succ h))).trans (List.Perm.swap ..)
theorem Hc (x:α):∀ {l:List α}{i:Nat},i<l.length->List.Perm (x::l.eraseIdx i) (l.set i x)
 | [],i,h=>absurd h (Nat.not_lt_zero _)
 | y::l,0,_=>List.Perm.refl _
 | y::l,i+1,h=>(List.Perm.swap ..).trans (List.Perm.cons y (Hc x (Nat.lt_of_succ_lt_succ h)))
theorem aE.take {F:α->bA}{l:List α}(d:α){i:Nat}(hi:i<l.length) (h:St w0 (aE F l::L) w):St w0 (F (l.getD i d)::aE F (l.eraseIdx i)::L) w:=by
 have h1:=(aE.out h).perm (((Ku d hi).map F).append_right L)
 have h2:St w0 ((l.eraseIdx i).map F++(F (l.getD i d)::L)) w:=h1.perm List.perm_middle.symm
 exact(aE.OW h2).perm (List.Perm.swap ..)
theorem aE.put {F:α->bA}{l:List α}{x:α}{i:Nat}(hi:i<l.length) (h:St w0 (F x::aE F (l.eraseIdx i)::L) w):St w0 (aE F (l.set i x)::L) w:=by
 have h1:St w0 (aE F (l.eraseIdx i)::(F x::L)) w:=h.perm (List.Perm.swap ..)
 have h2:=(aE.out h1).perm List.perm_middle
 exact aE.OW (h2.perm (((Hc x hi).map F).append_right L))
theorem aE.add {F:α->bA}{l:List α}{x:α}(h:St w0 (F x::aE F l::L) w):St w0 (aE F (l++[x])::L) w:=by
 have h1:St w0 (aE F l::(F x::L)) w:=h.perm (List.Perm.swap ..)
 have h2:=aE.out h1
 refine aE.OW ?_
 rw [List.map_append,List.append_assoc]
 exact h2
end
end Go.Sx
namespace Go.Sx
open Go.RowKit
open Go.ChangeMaps (setBlock)
set_option linter.unusedVariables false
section
variable {P : Program} {R0 : Exit -> Act -> World -> Prop} {N : Fr} {Kk : List fQ} {S : Env} {w w0 : World} {l : List Oper} {M : List Nat} {A : dN} {rest : PT} {L : List bA} {α β : Type} [DecidableEq α] {ek : α -> Value} {ev : β -> Value}
end
end Go.Sx
namespace Go.Sx
open Go.RowKit
set_option linter.unusedVariables false
set_option linter.unusedSimpArgs false
section
variable {α : Type} {f : α -> Array Value} {size : Nat} {l : List α} {pre suf : Array Value}
end
theorem St.Kz {α:Type}{w0 w:World}{L:List bA}{ad:Option Addr}{c:Nat}{e:TypeId}{size:Nat}{f:α->Array Value}{xs ys:List α}(hf:∀ x,(f x).size=size) (hs:St w0 (Sl ad c e size f (xs++ys)::L) w):St w0 (Sl ad c e size f xs::L) w:=by
 refine hs.conv (λh=>?_) (λb hb=>by cases ad with|none=>cases hb|some a=>exact hb)
 have h0:w.ownsRow 0 e size (.slice ad (xs++ys).length c) (xs++ys).length ((xs++ys).flatMap λx=>(f x).toList):=h
 show w.ownsRow 0 e size (.slice ad xs.length c) xs.length (xs.flatMap λx=>(f x).toList)
 have hl:xs.length<=(xs++ys).length:=by rw [List.length_append];omega
 refine⟨bQ hf xs,?_⟩
 rcases h0.2 with⟨h1,h2⟩|⟨g,cap,cur,hv,hb,hg,hn,hm,hz,ht⟩
 ·simp only [Value.slice.injEq] at h1
  have hx:xs.length=0:=za
  exact .inl ⟨by rw [h1.1,hx,h1.2.2],hx⟩
 ·simp only [Value.slice.injEq] at hv
  refine .inr ⟨g,cap,cur,by rw [hv.1,hv.2.2],hb,hg,za,hm,hz,?_⟩
  have h3:(cur.toList.take ((xs++ys).length*size)).take (xs.length*size)=(xs.flatMap λx=>(f x).toList):=by
   rw [ht,List.flatMap_append,<- bQ hf xs,List.take_left' rfl]
  rw [List.take_take,Nat.min_eq_left (Nat.mul_le_mul_right _ hl)] at h3
  exact h3
end Go.Sx
namespace Go.Sx
open Go.RowKit Go.ChangeShapes Go.WideShapes Go.Deep
set_option linter.unusedVariables false
set_option linter.unusedSimpArgs false
inductive GK where
 | int (k:IntKind)
 | bool
 | str
 | sl (t:TypeId)
def GK.fits (T:TypeId->Value->Prop):GK->Value->Prop
 | .int k,v=>∃ n,v=.int k n/\(Lit.int k n).wf=true
 | .bool,v=>∃ b,v=.bool b
 | .str,v=>∃ s,v=.string s/\s.size<=maxLen
 | .sl t,v=>∃ ad n c,v=.slice ad n c/\T t v
def lL (T:TypeId->Value->Prop):List GK->List Value->Prop
 | [],[]=>True
 | k::ks,v::vs=>k.fits T v/\lL T ks vs
 | _,_=>False
theorem nC {T:TypeId->Value->Prop}:∀ {ks ks':List GK}{vs vs':List Value},lL T ks vs->lL T ks' vs'->lL T (ks++ks') (vs++vs')
 | [],_,[],_,_,h=>h
 | [],_,_::_,_,h,_=>h.elim
 | _::_,_,[],_,h,_=>h.elim
 | _::_,_,_::_,_,h,h'=>⟨h.1,nC h.2 h'⟩
def jR (f:TypeId->Option (List GK)) (P:Program):List Field->Nat->Nat->Option (List GK)
 | [],off,tot=>if off == tot then some [] else none
 | fd::fs,off,tot =>
  if fd.offset == off then
   match f fd.type with
   | some ks=>if ks.length == P.cellsOf fd.type then (match jR f P fs (off+ks.length) tot with|some r=>some (ks++r)|none=>none) else none
   | none=>none
  else none
def ir (P:Program):Nat->TypeId->Option (List GK)
 | 0,_=>none
 | m+1,t =>
  match P.underlying t with
  | some .bool=>some [.bool]
  | some (.int k)=>some [.int k]
  | some .string=>some [.str]
  | some (.slice _)=>some [.sl t]
  | some (.struct fs)=>jR (ir P m) P fs.toList 0 (P.cellsOf t)
  | some (.array n e) =>
   match ir P m e with
   | some ks=>if ks.length == P.cellsOf e && n*ks.length == P.cellsOf t then some (List.replicate n ks).flatten else none
   | none=>none
  | _=>none
section
variable {H : Type} {enc : TypeId × Value -> H} {P : Program} {w : World} {base : Nat} {spare : Nat -> Bool} {held : Bool}
def Ou (enc:TypeId×Value->H) (P:Program) (w:World) (base:Nat) (spare:Nat->Bool) (held:Bool) (t:TypeId) (v:Value):Prop:=∃ d ps,DataW.Trod enc P w base spare held t v d ps
theorem xW:∀ (m:Nat) (t:TypeId) (fuel:Nat) (cs:List Value) (x:DataW H×List MemPlace) (ks:List GK),ir P m t=some ks->DataW.trod enc P w base spare held fuel t cs=some x->lL (Ou enc P w base spare held) ks cs:=by
 intro m
 induction m with
 | zero=>intro t fuel cs x ks h;cases h
 | succ m ih =>
  intro t fuel cs x ks hk h
  unfold ir at hk
  cases hu:P.underlying t with
  | none=>rw [hu] at hk;cases hk
  | some d =>
   rw [hu] at hk
   cases d with
   | bool =>
    simp only [Option.some.injEq] at hk
    subst hk
    cases fuel with
    | zero=>simp [DataW.trod] at h
    | succ fuel =>
     unfold DataW.trod at h
     rw [hu] at h
     split at h<;>simp_all
     exact⟨⟨_,rfl⟩,trivial⟩
   | int k =>
    simp only [Option.some.injEq] at hk
    subst hk
    cases fuel with
    | zero=>simp [DataW.trod] at h
    | succ fuel =>
     unfold DataW.trod at h
     rw [hu] at h
     split at h<;>simp_all
     exact⟨⟨_,rfl,h.1.2⟩,trivial⟩
   | string =>
    simp only [Option.some.injEq] at hk
    subst hk
    cases fuel with
    | zero=>simp [DataW.trod] at h
    | succ fuel =>
     unfold DataW.trod at h
     rw [hu] at h
     split at h<;>simp_all
     exact⟨⟨_,rfl,h.1⟩,trivial⟩
   | slice e =>
    simp only [Option.some.injEq] at hk
    subst hk
    cases fuel with
    | zero=>simp [DataW.trod] at h
    | succ fuel =>
     have h0:=h
     rcases open_slice hu h with⟨hcs,_⟩|⟨a,len,cap,mm,nn,D,Pl,hcs,_⟩
     ·subst hcs
      exact⟨⟨_,_,_,rfl,_,_,fuel+1,by simpa [Value.cells] using h0⟩,trivial⟩
     ·subst hcs
      exact⟨⟨_,_,_,rfl,_,_,fuel+1,by simpa [Value.cells] using h0⟩,trivial⟩
   | struct fs =>
    simp only at hk
    obtain⟨xs,n,_,_,hlen,hxl,hget⟩:=DataW.trod_struct hu h
    have key:∀ (l:List Field) (off i:Nat) (ks:List GK),(∀ j f,l[j]?=some f->fs[i+j]?=some f)->jR (ir P m) P l off (P.cellsOf t)=some ks->lL (Ou enc P w base spare held) ks (cs.drop off):=by
     intro l
     induction l with
     | nil =>
      intro off i ks _ hf
      simp only [jR] at hf
      split at hf
      ·rename_i he
       simp only [Option.some.injEq] at hf
       subst hf
       have:off=P.cellsOf t:=by simpa using he
       rw [List.drop_eq_nil_of_le za]
       trivial
      ·cases hf
     | cons f l ihl =>
      intro off i ks hsub hf
      simp only [jR] at hf
      split at hf
      ·rename_i he
       have he:f.offset=off:=by simpa using he
       cases hfk:ir P m f.type with
       | none=>rw [hfk] at hf;cases hf
       | some k1 =>
        rw [hfk] at hf
        simp only at hf
        split at hf
        ·rename_i hl1
         have hl1:k1.length=P.cellsOf f.type:=by simpa using hl1
         cases hr:jR (ir P m) P l (off+k1.length) (P.cellsOf t) with
         | none=>rw [hr] at hf;cases hf
         | some r =>
          rw [hr] at hf
          simp only [Option.some.injEq] at hf
          subst hf
          have hfi:fs[i]?=some f:=by simpa using hsub 0 f rfl
          have h1:=hget i f hfi
          have hi:i<xs.length:=by rw [hxl];exact(Array.getElem?_eq_some_iff.1 hfi).1
          rw [List.getElem?_eq_getElem hi] at h1
          have h2:=ih _ _ _ _ _ hfk h1
          rw [he] at h2
          have h3:=ihl (off+k1.length) (i+1) r (λj g hg=>by rw [Nat.add_assoc,Nat.add_comm 1 j];exact hsub (j+1) g (by simpa using hg)) hr
          have h4:cs.drop off=(cs.drop off).take (P.cellsOf f.type)++cs.drop (off+k1.length):=by
           rw [hl1,<- List.drop_drop,List.take_append_drop]
          rw [h4]
          exact nC h2 h3
        ·cases hf
      ·cases hf
    simpa using key fs.toList 0 0 ks (λj f hj=>by simpa using hj) hk
   | array n e =>
    simp only at hk
    cases hfk:ir P m e with
    | none=>rw [hfk] at hk;cases hk
    | some k1 =>
     rw [hfk] at hk
     simp only at hk
     split at hk
     ·rename_i hc
      simp only [Bool.and_eq_true,beq_iff_eq] at hc
      simp only [Option.some.injEq] at hk
      subst hk
      obtain⟨xs,q,_,_,hlen,hxl,hget⟩:=DataW.trod_array hu h
      have key:∀ (r i:Nat),i+r=n->lL (Ou enc P w base spare held) (List.replicate r k1).flatten (cs.drop (i*P.cellsOf e)):=by
       intro r
       induction r with
       | zero =>
        intro i hi
        have:cs.drop (i*P.cellsOf e)=[]:=List.drop_eq_nil_of_le (by rw [hlen,<- hc.2,hc.1,<- hi];simp)
        rw [this]
        trivial
       | succ r ihr =>
        intro i hi
        have h1:=hget i za
        rw [List.getElem?_eq_getElem za] at h1
        have h2:=ih _ _ _ _ _ hfk h1
        have h3:=ihr (i+1) za
        have h4:cs.drop (i*P.cellsOf e)=(cs.drop (i*P.cellsOf e)).take (P.cellsOf e)++cs.drop ((i+1)*P.cellsOf e):=by
         rw [show(i+1)*P.cellsOf e=i*P.cellsOf e+P.cellsOf e from by rw [Nat.add_mul,Nat.one_mul],<- List.drop_drop,List.take_append_drop]
        rw [h4,List.replicate_succ,List.flatten_cons]
        exact nC h2 h3
      simpa using key n 0 za
     ·cases hk
   | _=>cases hk
theorem eE {T:TypeId->Value->Prop}{k:GK}{ks:List GK}:∀ {vs:List Value},lL T (k::ks) vs->∃ v rest,vs=v::rest/\k.fits T v/\lL T ks rest
 | [],h=>h.elim
 | v::rest,h=>⟨v,rest,rfl,h.1,h.2⟩
theorem AH {T:TypeId->Value->Prop}:∀ {vs:List Value},lL T [] vs->vs=[]
 | [],_=>rfl
 | _::_,h=>h.elim
theorem xX {t e:TypeId}{m:Nat}{ks:List GK}(ht:P.underlying t=some (.slice e)) (hk:ir P m e=some ks) (hsz:P.cellsOf e=ks.length) (h0:0<ks.length){ad:Option Addr}{n c:Nat}{d:DataW H}{ps:List MemPlace}
 (h:DataW.Trod enc P w base spare held t (.slice ad n c) d ps) :
 n<=maxLen/\∃ cell:Nat->Array Value,aC w ad n ks.length cell/\∀ k,k<n->lL (Ou enc P w base spare held) ks (cell k).toList:=by
 obtain⟨fuel,hf⟩:=h
 rcases open_slice ht hf with⟨hcs,_⟩|⟨a,len,cap,mm,nn,D,Pl,hcs,_,hl,hm,hmm,_,hi⟩
 ·simp [Value.cells] at hcs
  obtain⟨rfl,rfl,rfl⟩:=hcs
  exact⟨Nat.zero_le _,λ_=>#[],λh=>absurd h za,λk hk=>absurd hk za⟩
 ·simp [Value.cells] at hcs
  obtain⟨rfl,rfl,rfl⟩:=hcs
  have hle:n<=mm:=by rw [hmm];split<;>omega
  have H:∀ k,∃ cs':List Value,k<n->(w.cells? base (a.add (k*P.cellsOf e)) (P.cellsOf e)=some cs'/\lL (Ou enc P w base spare held) ks cs'):=λk=>by
   by_cases hk':k<n
   ·obtain⟨cs',h1,h2⟩:=hi k za
    exact⟨cs',λ_=>⟨h1,xW _ _ _ _ _ _ hk h2⟩⟩
   ·exact⟨[],λh=>absurd h hk'⟩
  obtain⟨F,hF⟩:=Classical.axiomOfChoice H
  refine⟨za,λk=>(F k).toArray,λhn=>?_,λk hk'=>by simpa using (hF k hk').2⟩
  have hsp:a.spot=none:=by
   obtain⟨h1,h2⟩:=hF 0 hn
   obtain⟨_,h3,h4⟩:=World.cells?_some h1
   have h5:=h4 0 (by rw [hsz];exact h0)
   simp only [Nat.zero_mul,Addr.add,if_true] at h5
   cases hs:a.spot with
   | none=>rfl
   | some q =>
    exfalso
    rw [List.getElem?_eq_getElem (by rw [h3,hsz];exact h0)] at h5
    simp only [World.cell?,hs] at h5
    split at h5<;>simp at h5
  obtain⟨b,off,sp⟩:=a
  simp only at hsp
  subst hsp
  refine⟨b,off,rfl,λk hk' j hj=>?_⟩
  obtain⟨h1,h2⟩:=hF k hk'
  obtain⟨_,h3,h4⟩:=World.cells?_some h1
  have h5:=h4 j za
  rw [dI,dI,hsz] at h5
  rw [h5]
  simp
end
end Go.Sx
