/-
  Several texts in one: EvE, EvF, EvG, EvH, EvI.
-/
import Derived.Test.YthfpmlpoiocfdaaGreatDoorEvTx
import Derived.Laws.Tables
import Derived.Laws.IdiomStrings
namespace Go.Ev
open Go.Sx
set_option linter.unusedVariables false
set_option linter.unusedSimpArgs false
section
variable {δ : List Deferred} {P : Program} {G : Nat -> Option (List Value)} {ν : Nu} {N : Nat} {S : AE} {a : Act} {m : AM} {w : World}
theorem hH {id off:Nat}{v:Value}(h:AV.val ν (.ptr id off)=some v):∃ p,ν id=some p/\v=.pointer (some ⟨p.1,off,none⟩):=by
 simp only [AV.val] at h
 cases hp:ν id with
 | none=>rw [hp] at h;cases h
 | some p=>rw [hp] at h;simp only [Option.some.injEq] at h;exact⟨p,rfl,h.symm⟩
theorem ju {id off len cap:Nat}{kn:Bool}{v:Value}(h:AV.val ν (.sl id off len cap kn)=some v) :
 ∃ p c,ν id=some p/\v=.slice (some ⟨p.1,off,none⟩) len c/\len<=c/\(kn=true->c=cap)/\(kn=false->c+cap=p.2):=by
 simp only [AV.val] at h
 cases hp:ν id with
 | none=>rw [hp] at h;cases h
 | some p =>
  rw [hp] at h
  cases kn with
  | true =>
   simp only at h
   split at h
   ·rename_i hc
    simp only [Option.some.injEq] at h
    exact⟨p,cap,rfl,h.symm,hc,(λ_=>rfl),(λe=>by cases e)⟩
   ·cases h
  | false =>
   simp only at h
   split at h
   ·rename_i hc
    simp only [Option.some.injEq] at h
    exact⟨p,p.2-cap,rfl,h.symm,za,(λe=>by cases e),(λ_=>by omega)⟩
   ·cases h
theorem qF {id o1 o2 sub:Nat}{v:Value}(h:AV.val ν (.se id o1 o2 sub)=some v):∃ p off c,ν id=some p/\v=.slice (some ⟨p.1,off,none⟩) 0 c:=by
 simp only [AV.val] at h
 cases hp:ν id with
 | none=>rw [hp] at h;cases h
 | some p =>
  rw [hp] at h
  simp only at h
  split at h
  ·simp only [Option.some.injEq] at h;exact⟨p,_,_,rfl,h.symm⟩
  ·cases h
theorem BN {ν:Nu}{t:TypeId}{a:AV}{v:Value}(h:(AV.LZ t a).val ν=some v):∃ u,a.val ν=some u/\v=.iface t u:=by
 simp only [AV.val] at h
 split at h
 ·rename_i u hu
  simp only [Option.some.injEq] at h
  exact⟨u,hu,h.symm⟩
 ·cases h
theorem K5 {ν:Nu}{id:Nat}{v:Value}(h:(AV.yl id).val ν=some v):∃ p,ν id=some p/\v=.func (.yield p.1) #[] #[]:=by
 simp only [AV.val] at h
 split at h
 ·rename_i p hp
  simp only [Option.some.injEq] at h
  exact⟨p,hp,h.symm⟩
 ·cases h
theorem lH {id:Nat}{v:Value}(h:AV.val ν (.mp id)=some v):∃ p,ν id=some p/\v=.map (some p.1):=by
 simp only [AV.val] at h
 cases hp:ν id with
 | none=>rw [hp] at h;cases h
 | some p=>rw [hp] at h;simp only [Option.some.injEq] at h;exact⟨p,rfl,h.symm⟩
theorem BO {cs:List AV}{v:Value}(h:AV.val ν (.agg cs)=some v):∃ vs,bF ν cs=some vs/\v=.agg vs.toArray:=by
 simp only [AV.val] at h
 cases hp:bF ν cs with
 | none=>rw [hp] at h;cases h
 | some p=>rw [hp] at h;simp only [Option.some.injEq] at h;exact⟨p,rfl,h.symm⟩
theorem MD {cs:List AV}{v:Value}(h:AV.val ν (.qU cs)=some v):∃ vs,bF ν cs=some vs/\v=.tuple vs.toArray:=by
 simp only [AV.val] at h
 cases hp:bF ν cs with
 | none=>rw [hp] at h;cases h
 | some p=>rw [hp] at h;simp only [Option.some.injEq] at h;exact⟨p,rfl,h.symm⟩
theorem sX {f:FuncId}{x y:List AV}{v:Value}(h:AV.val ν (.fn f x y)=some v):∃ vs us,bF ν x=some vs/\bF ν y=some us/\v=.func (.func f) vs.toArray us.toArray:=by
 simp only [AV.val] at h
 cases hx:bF ν x with
 | none=>rw [hx] at h;cases h
 | some p =>
  cases hy:bF ν y with
  | none=>rw [hx,hy] at h;cases h
  | some q=>rw [hx,hy] at h;simp only [Option.some.injEq] at h;exact⟨p,q,rfl,rfl,h.symm⟩
theorem kZ {x:AV}{n:Nat}{v:Value}(h:oL x=some n) (hv:x.val ν=some v):∃ k,v=.int k (n:Int):=by
 unfold oL at h
 split at h
 ·rename_i k n'
  simp only [Option.some.injEq] at h
  subst h
  simp only [AV.val,Option.some.injEq] at hv
  exact⟨k,hv.symm⟩
 ·cases h
theorem np {x:AV}{b:Bool}{v:Value}(h:oO x=some b) (hv:x.val ν=some v) :
 (b=true/\(v=.pointer none\/(∃ l c,v=.slice none l c)\/v=.map none\/v=.nilFunc)) \/
 (b=false/\((∃ ad,v=.pointer (some ad))\/(∃ ad l c,v=.slice (some ad) l c)\/(∃ r,v=.map (some r))\/∃ f x y,v=.func f x y)):=by
 unfold oO at h
 split at h
 ·obtain⟨p,_,rfl⟩:=hH hv;cases h;exact .inr ⟨rfl,.inl ⟨_,rfl⟩⟩
 ·obtain⟨p,c,_,rfl,_⟩:=ju hv;cases h;exact .inr ⟨rfl,.inr (.inl ⟨_,_,_,rfl⟩)⟩
 ·obtain⟨p,c,_,_,rfl⟩:=qF hv;cases h;exact .inr ⟨rfl,.inr (.inl ⟨_,_,_,rfl⟩)⟩
 ·obtain⟨p,_,rfl⟩:=lH hv;cases h;exact .inr ⟨rfl,.inr (.inr (.inl ⟨_,rfl⟩))⟩
 ·obtain⟨_,_,_,_,rfl⟩:=sX hv;cases h;exact .inr ⟨rfl,.inr (.inr (.inr ⟨_,_,_,rfl⟩))⟩
 ·simp only [AV.val,Option.some.injEq] at hv;subst hv;cases h;exact .inl ⟨rfl,.inl rfl⟩
 ·simp only [AV.val,Option.some.injEq] at hv;subst hv;cases h;exact .inl ⟨rfl,.inr (.inl ⟨_,_,rfl⟩)⟩
 ·simp only [AV.val,Option.some.injEq] at hv;subst hv;cases h;exact .inl ⟨rfl,.inr (.inr (.inl rfl))⟩
 ·simp only [AV.val,Option.some.injEq] at hv;subst hv;cases h;exact .inl ⟨rfl,.inr (.inr (.inr rfl))⟩
 ·simp only [AV.val,Option.some.injEq] at hv;subst hv;cases h;exact .inr ⟨rfl,.inr (.inr (.inr ⟨_,_,_,rfl⟩))⟩
 ·simp only [AV.val,Option.some.injEq] at hv;subst hv;cases h;exact .inr ⟨rfl,.inl ⟨_,rfl⟩⟩
 ·cases h
theorem K6 {x y:AV}{b:Bool}(h:KN x y=some b):(oO x=some true/\oO y=some b)\/(oO y=some true/\oO x=some b)\/∃ id i j,x=.ptr id i/\y=.ptr id j/\b=Nat.beq i j:=by
 unfold KN at h
 split at h
 ·rename_i b' h1 h2
  simp only [Option.some.injEq] at h;subst h
  exact .inl ⟨h1,h2⟩
 ·rename_i b' h0 h1 h2
  simp only [Option.some.injEq] at h;subst h
  exact .inr (.inl ⟨h2,h1⟩)
 ·rename_i h1 h2
  split at h
  ·rename_i a i b' j
   cases hb:Nat.beq a b' with
   | false=>rw [hb] at h;cases h
   | true =>
    rw [hb] at h
    obtain rfl:=Nat.eq_of_beq_eq_true hb
    simp only [cond_true,Option.some.injEq] at h
    exact .inr (.inr ⟨a,i,j,rfl,rfl,h.symm⟩)
  ·cases h
 ·cases h
theorem BQ (d:Nat){x y:AV}{b:Bool}{u v:Value}{t:TypeId}(h:KN x y=some b) (hx:x.val ν=some u) (hy:y.val ν=some v) (ht:(∃ e ti,P.underlying t=some (.pointer e)/\P.info? e=some ti/\ti.size≠0/\(∃ a,u=.pointer a)/\∃ a,v=.pointer a) \/
 (∃ e,P.underlying t=some (.slice e)/\(∃ a l c,u=.slice a l c)/\∃ a l c,v=.slice a l c)\/(∃ k e,P.underlying t=some (.map k e)/\(∃ a,u=.map a)/\∃ a,v=.map a) \/
 (∃ q r s,P.underlying t=some (.func q r s)/\(u=.nilFunc\/∃ f x y,u=.func f x y)/\(v=.nilFunc\/∃ f x y,v=.func f x y))) (w:World) :
 (Op.equalIn (d+1) t u v).run P w=.ok b w:=by
 rcases K6 h with⟨h1,h2⟩|⟨h1,h2⟩|⟨id,i,j,rfl,rfl,rfl⟩
 ·have k1:=np h1 hx
  have k2:=np h2 hy
  rcases ht with⟨e,ti,hu,hi,hz,⟨p,rfl⟩,q,rfl⟩|⟨e,hu,⟨p,l,c,rfl⟩,q,l',c',rfl⟩|⟨k,e,hu,⟨p,rfl⟩,q,rfl⟩|⟨q,r,s,hu,hp,hq⟩
  ·simp only [Bool.true_eq_false,false_and,or_false,true_and,Value.pointer.injEq,reduceCtorEq,exists_false] at k1
   subst k1
   simp only [Op.equalIn,Sem.run_bind,run_underlying hu,Result.andThen_ok,Sem.run_pure]
   congr 1
   cases q<;>simp at k2 ⊢ <;> simp [k2]
  ·simp only [Bool.true_eq_false,false_and,or_false,true_and,Value.slice.injEq,reduceCtorEq,exists_false,false_or] at k1
   obtain⟨_,_,rfl,rfl,rfl⟩:=k1
   simp only [Op.equalIn,Sem.run_bind,run_underlying hu,Result.andThen_ok,Sem.run_pure]
   congr 1
   cases q<;>simp at k2 ⊢ <;> simp [k2]
  ·simp only [Bool.true_eq_false,false_and,or_false,true_and,Value.map.injEq,reduceCtorEq,exists_false,false_or] at k1
   subst k1
   simp only [Op.equalIn,Sem.run_bind,run_underlying hu,Result.andThen_ok,Sem.run_pure]
   congr 1
   cases q<;>simp at k2 ⊢ <;> simp [k2]
  ·rcases hp with rfl|⟨f,x',y',rfl⟩
   ·rcases hq with rfl|⟨f,x',y',rfl⟩
    ·simp at k2;subst k2
     simp only [Op.equalIn,Sem.run_bind,run_underlying hu,Result.andThen_ok,Sem.run_pure]
    ·simp at k2;subst k2
     simp only [Op.equalIn,Sem.run_bind,run_underlying hu,Result.andThen_ok,Sem.run_pure]
   ·simp at k1
 ·have k1:=np h1 hy
  have k2:=np h2 hx
  rcases ht with⟨e,ti,hu,hi,hz,⟨p,rfl⟩,q,rfl⟩|⟨e,hu,⟨p,l,c,rfl⟩,q,l',c',rfl⟩|⟨k,e,hu,⟨p,rfl⟩,q,rfl⟩|⟨q,r,s,hu,hp,hq⟩
  ·simp only [Bool.true_eq_false,false_and,or_false,true_and,Value.pointer.injEq,reduceCtorEq,exists_false] at k1
   subst k1
   cases p<;>simp at k2<;>subst k2<;>simp only [Op.equalIn,Sem.run_bind,run_underlying hu,Result.andThen_ok,Sem.run_pure]<;>rfl
  ·simp only [Bool.true_eq_false,false_and,or_false,true_and,Value.slice.injEq,reduceCtorEq,exists_false,false_or] at k1
   obtain⟨_,_,rfl,rfl,rfl⟩:=k1
   cases p<;>simp at k2<;>subst k2<;>simp only [Op.equalIn,Sem.run_bind,run_underlying hu,Result.andThen_ok,Sem.run_pure]<;>rfl
  ·simp only [Bool.true_eq_false,false_and,or_false,true_and,Value.map.injEq,reduceCtorEq,exists_false,false_or] at k1
   subst k1
   cases p<;>simp at k2<;>subst k2<;>simp only [Op.equalIn,Sem.run_bind,run_underlying hu,Result.andThen_ok,Sem.run_pure]<;>rfl
  ·rcases hq with rfl|⟨f,x',y',rfl⟩
   ·rcases hp with rfl|⟨f,x',y',rfl⟩
    ·simp at k2;subst k2
     simp only [Op.equalIn,Sem.run_bind,run_underlying hu,Result.andThen_ok,Sem.run_pure]
    ·simp at k2;subst k2
     simp only [Op.equalIn,Sem.run_bind,run_underlying hu,Result.andThen_ok,Sem.run_pure]
   ·simp at k1
 ·obtain⟨p,hp,rfl⟩:=hH hx
  obtain⟨p',hp',rfl⟩:=hH hy
  rw [hp] at hp'
  cases hp'
  rcases ht with⟨e,ti,hu,hi,hz,_,_⟩|⟨e,hu,⟨_,_,_,h⟩,_⟩|⟨k,e,hu,⟨_,h⟩,_⟩|⟨q,r,s,hu,h|⟨_,_,_,h⟩,_⟩
  ·simp only [Op.equalIn,Sem.run_bind,run_underlying hu,Result.andThen_ok,sizeOf,typeInfo,run_program,hi,Sem.run_pure,ne_eq,hz,not_false_eq_true,if_true,sameAddr]
   congr 1
   by_cases hij:i=j
   ·subst hij;simp [sd]
   ·simp [sd,hij]
  ·cases h
  ·cases h
  ·cases h
  ·cases h
theorem Ao {x:AV}{v:Value}(h:js x=1) (hv:x.val ν=some v):∃ a,v=.pointer a:=by
 unfold js at h
 split at h
 ·obtain⟨p,_,rfl⟩:=hH hv;exact⟨_,rfl⟩
 ·cases h
 ·cases h
 ·cases h
 ·cases h
 ·simp only [AV.val,Option.some.injEq] at hv
  subst hv
  split at h<;>first|exact⟨_,rfl⟩|cases h
 ·cases h
theorem DV {x:AV}{v:Value}(h:js x=2) (hv:x.val ν=some v):∃ a l c,v=.slice a l c:=by
 unfold js at h
 split at h
 ·cases h
 ·obtain⟨p,c,_,rfl,_⟩:=ju hv;exact⟨_,_,_,rfl⟩
 ·obtain⟨p,c,_,_,rfl⟩:=qF hv;exact⟨_,_,_,rfl⟩
 ·cases h
 ·cases h
 ·simp only [AV.val,Option.some.injEq] at hv
  subst hv
  split at h<;>first|exact⟨_,_,_,rfl⟩|cases h
 ·cases h
theorem DW {x:AV}{v:Value}(h:js x=3) (hv:x.val ν=some v):∃ a,v=.map a:=by
 unfold js at h
 split at h
 ·cases h
 ·cases h
 ·cases h
 ·obtain⟨p,_,rfl⟩:=lH hv;exact⟨_,rfl⟩
 ·cases h
 ·simp only [AV.val,Option.some.injEq] at hv
  subst hv
  split at h<;>first|exact⟨_,rfl⟩|cases h
 ·cases h
theorem DX {x:AV}{v:Value}(h:js x=4) (hv:x.val ν=some v):v=.nilFunc\/∃ f a b,v=.func f a b:=by
 unfold js at h
 split at h
 ·cases h
 ·cases h
 ·cases h
 ·cases h
 ·obtain⟨_,_,_,_,rfl⟩:=sX hv;exact .inr ⟨_,_,_,rfl⟩
 ·simp only [AV.val,Option.some.injEq] at hv
  subst hv
  split at h<;>first|exact .inl rfl|exact .inr ⟨_,_,_,rfl⟩|cases h
 ·cases h
theorem Jc (x:AV):js x<=4:=by
 unfold js
 split<;>(try split)<;>omega
theorem DY {op:BinOp}{t:TypeId}{x y av:AV}{u v:Value}(h:Hn P op t x y=some av) (hx:x.val ν=some u) (hy:y.val ν=some v) (x' y':Operand) (w:World) :
 ∃ r,av.val ν=some r/\(do eqGuard op t x' y' u v;binOp op t u v:Sem Value).run P w=.ok r w:=by
 unfold Hn at h
 cases hb:(Nat.beq (js x) (wL P t) && Nat.beq (js y) (wL P t)) with
 | false=>rw [hb] at h;cases h
 | true =>
  rw [hb] at h
  simp only [cond_true] at h
  simp only [Bool.and_eq_true] at hb
  have e1:=Nat.eq_of_beq_eq_true hb.1
  have e2:=(Nat.eq_of_beq_eq_true hb.2).trans e1.symm
  have hle:=Jc x
  have guard:∀ op,(eqGuard op t x' y' u v).run P w=.ok () w/\(∀ b,(Op.equal t u v).run P w=.ok b w->(binOp .eql t u v).run P w=.ok (.bool b) w/\(binOp .neq t u v).run P w=.ok (.bool (!b)) w)/\∀ b,KN x y=some b->(Op.equal t u v).run P w=.ok b w:=by
   intro op
   unfold wL at e1
   split at e1
   ·rename_i e hu
    split at e1
    ·rename_i ie hi
     cases hz:Nat.beq ie.size 0 with
     | true=>rw [hz] at e1;simp only [cond_true] at e1;omega
     | false =>
      rw [hz] at e1
      simp only [cond_false] at e1
      obtain⟨p,rfl⟩:=Ao e1 hx
      obtain⟨q,rfl⟩:=Ao (e2.trans e1) hy
      refine⟨by unfold eqGuard;split<;>simp,λb hb=>?_,λb hb=>BQ 9999 hb hx hy (.inl ⟨e,ie,hu,hi,Nat.ne_of_beq_eq_false hz,⟨p,rfl⟩,q,rfl⟩) w⟩
      constructor<;>simp [binOp,hb,Sem.run_bind]
    ·omega
   ·rename_i e hu
    obtain⟨p,l,c,rfl⟩:=DV e1 hx
    obtain⟨q,l',c',rfl⟩:=DV (e2.trans e1) hy
    refine⟨by unfold eqGuard;split<;>simp,λb hb=>?_,λb hb=>BQ 9999 hb hx hy (.inr (.inl ⟨e,hu,⟨_,_,_,rfl⟩,_,_,_,rfl⟩)) w⟩
    constructor<;>simp [binOp,hb,Sem.run_bind]
   ·rename_i k e hu
    obtain⟨p,rfl⟩:=DW e1 hx
    obtain⟨q,rfl⟩:=DW (e2.trans e1) hy
    refine⟨by unfold eqGuard;split<;>simp,λb hb=>?_,λb hb=>BQ 9999 hb hx hy (.inr (.inr (.inl ⟨k,e,hu,⟨_,rfl⟩,_,rfl⟩))) w⟩
    constructor<;>simp [binOp,hb,Sem.run_bind]
   ·rename_i q r s hu
    have h1:=DX e1 hx
    have h2:=DX (e2.trans e1) hy
    refine⟨?_,λb hb=>?_,λb hb=>BQ 9999 hb hx hy (.inr (.inr (.inr ⟨q,r,s,hu,h1,h2⟩))) w⟩
    ·rcases h1 with rfl|⟨_,_,_,rfl⟩<;>rcases h2 with rfl|⟨_,_,_,rfl⟩<;>(unfold eqGuard;split<;>simp)
    ·rcases h1 with rfl|⟨_,_,_,rfl⟩<;>rcases h2 with rfl|⟨_,_,_,rfl⟩<;>(constructor<;>simp [binOp,hb,Sem.run_bind])
   ·omega
  split at h
  ·rename_i b hq
   simp only [Option.some.injEq] at h
   subst h
   obtain⟨g1,g2,g3⟩:=guard .eql
   exact⟨_,rfl,by rw [Sem.run_bind,g1];exact(g2 _ (g3 _ hq)).1⟩
  ·rename_i b hq
   simp only [Option.some.injEq] at h
   subst h
   obtain⟨g1,g2,g3⟩:=guard .neq
   exact⟨_,rfl,by rw [Sem.run_bind,g1];exact(g2 _ (g3 _ hq)).2⟩
  ·cases h
theorem sg (hf:bP δ ν N S a){o:Oper}{op:BinOp}{t t':TypeId}{x y:Operand}(ho:o.op=.binOp op t x y t'){av:AV}(h:sR P S o op t (cC S x) (cC S y)=some av) (w:World) :
 ∃ v,av.val ν=some v/\(execOp a.eval o).run P w=.ok (.value v) w:=by
 unfold sR at h
 split at h
 ·rename_i b c hb hc
  obtain⟨u,hu,ex⟩:=hf.op hb
  obtain⟨u',hu',ey⟩:=hf.op hc
  split at h
  ·rename_i r hr
   simp only [Option.some.injEq] at h
   subst h
   obtain⟨k,k',n,n',v,rfl,rfl,h1,h2⟩:=Gm hu hu' t hr
   exact⟨v,h1,DU ho ex ey h2 w⟩
  ·refine fL hf h w λh=>?_
   obtain⟨r,h1,h2⟩:=DY h hu hu' x y w
   refine⟨r,h1,?_⟩
   simp only [execOp,ho,ex,ey,Sem.run_bind] at h2 ⊢
   rw [h2]
   rfl
 ·cases h
theorem uU (hf:bP δ ν N S a){o:Oper}{x:Operand}(ho:o.op=.nilCheck x){av:AV}(h:pF (cC S x)=some av) (w:World) :
 ∃ v,av.val ν=some v/\(execOp a.eval o).run P w=.ok (.value v) w:=by
 unfold pF at h
 split at h
 ·rename_i id off hx
  obtain⟨u,hu,ex⟩:=hf.op hx
  simp only [Option.some.injEq] at h;subst h
  obtain⟨p,_,rfl⟩:=hH hu
  exact⟨_,hu,by simp [execOp,ho,ex]⟩
 ·rename_i f y z hx
  obtain⟨u,hu,ex⟩:=hf.op hx
  simp only [Option.some.injEq] at h;subst h
  obtain⟨_,_,_,_,rfl⟩:=sX hu
  exact⟨_,hu,by simp [execOp,ho,ex]⟩
 ·rename_i id hx
  obtain⟨u,hu,ex⟩:=hf.op hx
  simp only [Option.some.injEq] at h;subst h
  have hu':=hu
  simp only [AV.val] at hu'
  split at hu'
  ·simp only [Option.some.injEq] at hu'
   subst hu'
   exact⟨_,hu,by simp [execOp,ho,ex]⟩
  ·cases hu'
 ·rename_i ad hx
  obtain⟨u,hu,ex⟩:=hf.op hx
  simp only [Option.some.injEq] at h;subst h
  simp only [AV.val,Option.some.injEq] at hu;subst hu
  exact⟨_,rfl,by simp [execOp,ho,ex]⟩
 ·rename_i f y z hx
  obtain⟨u,hu,ex⟩:=hf.op hx
  simp only [Option.some.injEq] at h;subst h
  simp only [AV.val,Option.some.injEq] at hu;subst hu
  exact⟨_,rfl,by simp [execOp,ho,ex]⟩
 ·cases h
end
section
variable {δ : List Deferred} {P : Program} {G : Nat -> Option (List Value)} {ν : Nu} {N : Nat} {S : AE} {a : Act} {m : AM} {w : World}
theorem oT {id off:Nat}{p:Nat×Nat}(h:ν id=some p):AV.val ν (.ptr id off)=some (.pointer (some ⟨p.1,off,none⟩)):=by simp [AV.val,h]
theorem wZ {id off len cap:Nat}{p:Nat×Nat}(h:ν id=some p) (hc:len<=cap):AV.val ν (.sl id off len cap true)=some (.slice (some ⟨p.1,off,none⟩) len cap):=by simp [AV.val,h,hc]
theorem my {id off len cap c:Nat}{p:Nat×Nat}(h:ν id=some p) (hc:len<=c) (e:c+cap=p.2):AV.val ν (.sl id off len cap false)=some (.slice (some ⟨p.1,off,none⟩) len c):=by
 have:len+cap<=p.2:=za
 have h2:p.2-cap=c:=za
 simp [AV.val,h,this,h2]
theorem bN {x y:Nat}(h:Nat.ble x y=true):x<=y:=Nat.le_of_ble_eq_true h
theorem sY {o:Oper}{t:TypeId}{x i:Operand}(ho:o.op=.indexAddr t x i){ρ:Operand->Value}{xa ia av:AV}(hx:xa.val ν=some (ρ x)) (hi:ia.val ν=some (ρ i)) (h:ng P t xa ia=some av) (w:World) :
 ∃ v,av.val ν=some v/\(execOp ρ o).run P w=.ok (.value v) w:=by
 unfold ng at h
 split at h
 ·rename_i n hn
  obtain⟨k,hk⟩:=kZ hn hi
  split at h
  ·rename_i e id off len cap kn hu
   split at h
   ·rename_i ie hie
    cases hb:Nat.ble (n+1) len with
    | false=>rw [hb] at h;cases h
    | true =>
     rw [hb] at h
     have hlt:=bN hb
     simp only [cond_true,Option.some.injEq] at h
     subst h
     obtain⟨p,c,hp,hv,_⟩:=ju hx
     refine⟨_,oT hp,?_⟩
     have h1:(0:Int)<=n/\(n:Int)<len:=za
     simp [execOp,ho,Instr.indexAt,hv,hk,asIntOf,run_underlying hu,sizeOf,typeInfo,hie,h1,go_sem,dI]
     intro hh;omega
   ·cases h
  ·rename_i len e id off hu
   split at h
   ·rename_i ie hie
    cases hb:Nat.ble (n+1) len with
    | false=>rw [hb] at h;cases h
    | true =>
     rw [hb] at h
     have hlt:=bN hb
     simp only [cond_true,Option.some.injEq] at h
     subst h
     obtain⟨p,hp,hv⟩:=hH hx
     refine⟨_,oT hp,?_⟩
     have h1:(0:Int)<=n/\(n:Int)<len:=za
     simp [execOp,ho,Instr.indexAt,hv,hk,asIntOf,Instr.sureAddr,run_underlying hu,sizeOf,typeInfo,hie,h1,go_sem,dI]
     intro hh;omega
   ·cases h
  ·cases h
 ·cases h
theorem BR {o:Oper}{t:TypeId}{x i:Operand}(ho:o.op=.index t x i){ρ:Operand->Value}{xa ia av:AV}(hx:xa.val ν=some (ρ x)) (hi:ia.val ν=some (ρ i)) (h:Bu P t xa ia=some av) (w:World) :
 ∃ v,av.val ν=some v/\(execOp ρ o).run P w=.ok (.value v) w:=by
 unfold Bu at h
 split at h
 ·rename_i n cs hn
  obtain⟨k,hk⟩:=kZ hn hi
  obtain⟨vs,hvs,hv⟩:=BO hx
  split at h
  ·rename_i len e hu
   split at h
   ·rename_i ie hie
    cases hb:Nat.ble (n+1) len with
    | false=>rw [hb] at h;cases h
    | true =>
     rw [hb] at h
     have hlt:=bN hb
     simp only [cond_true] at h
     obtain⟨v,h1,h2⟩:=wX h hvs w
     refine⟨v,h1,?_⟩
     have h3:(0:Int)<=n/\(n:Int)<len:=za
     simp only [execOp,ho,Instr.index,hv,hk,asIntOf,Sem.run_bind,Sem.run_pure,Result.andThen_ok,run_underlying hu,h3,and_self,if_true,sizeOf,typeInfo,run_program,hie,Int.toNat_natCast,h2]
   ·cases h
  ·cases h
 ·cases h
theorem sZ {o:Oper}{t:TypeId}{x:Operand}{f:Nat}(ho:o.op=.fieldAddr t x f){ρ:Operand->Value}{xa av:AV}(hx:xa.val ν=some (ρ x)) (h:jM P t xa f=some av) (w:World) :
 ∃ v,av.val ν=some v/\(execOp ρ o).run P w=.ok (.value v) w:=by
 unfold jM at h
 split at h
 ·rename_i id off fields hu
  obtain⟨p,hp,hv⟩:=hH hx
  split at h
  ·rename_i fd hfd
   split at h
   ·rename_i i hi
    cases hb:Nat.beq i.size 0 with
    | true=>rw [hb] at h;cases h
    | false =>
     rw [hb] at h
     simp only [cond_false,Option.some.injEq] at h
     subst h
     have hne:=Nat.ne_of_beq_eq_false hb
     refine⟨_,oT hp,?_⟩
     have hfd':fields[f]?=some fd:=by simpa using hfd
     simp only [execOp,ho,Instr.fieldAt,hv,Sem.run_bind,run_underlying hu,Result.andThen_ok,hfd',Instr.sureAddr,fieldPlace,sizeOf,typeInfo,run_program,hi,Sem.run_pure,hne,if_false,dI]
   ·cases h
  ·cases h
 ·cases h
theorem BS {o:Oper}{t:TypeId}{x:Operand}{f:Nat}(ho:o.op=.field t x f){ρ:Operand->Value}{xa av:AV}(hx:xa.val ν=some (ρ x)) (h:Bv P t xa f=some av) (w:World) :
 ∃ v,av.val ν=some v/\(execOp ρ o).run P w=.ok (.value v) w:=by
 unfold Bv at h
 split at h
 ·rename_i cs fields hu
  obtain⟨vs,hvs,hv⟩:=BO hx
  split at h
  ·rename_i fd hfd
   obtain⟨v,h1,h2⟩:=wX h hvs w
   refine⟨v,h1,?_⟩
   have hfd':fields[f]?=some fd:=by simpa using hfd
   simp only [execOp,ho,Instr.field,hv,Sem.run_bind,run_underlying hu,Result.andThen_ok,hfd',asAgg,Sem.run_pure,h2]
  ·cases h
 ·cases h
theorem xi {o:Oper}{t:TypeId}{x:Operand}(ho:o.op=.sliceToArrayPointer t x){ρ:Operand->Value}{xa av:AV}(hx:xa.val ν=some (ρ x)) (h:rT P t xa=some av) (w:World) :
 ∃ v,av.val ν=some v/\(execOp ρ o).run P w=.ok (.value v) w:=by
 unfold rT at h
 split at h
 ·rename_i n e id off len cap kn hu
  obtain⟨p,c,hp,hv,_⟩:=ju hx
  cases hb:Nat.ble n len with
  | false=>rw [hb] at h;cases h
  | true =>
   rw [hb] at h
   simp only [cond_true,Option.some.injEq] at h
   subst h
   have h1:=bN hb
   have h2:¬ len<n:=za
   refine⟨_,oT hp,?_⟩
   simp only [execOp,ho,Instr.arrayAt,hv,Sem.run_bind,run_underlying hu,Result.andThen_ok,h2,if_false,Sem.run_pure]
 ·cases h
theorem xj (hf:bP δ ν N S a){o:Oper}{x:Operand}{i:Nat}(ho:o.op=.extract x i){av:AV}(h:rU P S o (cC S x) i=some av) (w:World) :
 ∃ v,av.val ν=some v/\(execOp a.eval o).run P w=.ok (.value v) w:=by
 unfold rU at h
 split at h
 ·rename_i cs hx
  obtain⟨u,hu,ex⟩:=hf.op hx
  obtain⟨vs,hvs,rfl⟩:=MD hu
  obtain⟨v,h1,h2⟩:=mK hvs h
  refine⟨v,h1,?_⟩
  have h3:vs.toArray[i]?=some v:=by simpa using h2
  simp only [execOp,ho,Instr.extract,ex,h3,Sem.run_bind,Sem.run_pure,Result.andThen_ok]
 ·exact jY hf h w
 ·cases h
theorem jh (hf:bP δ ν N S a){d l:Nat}{x:Option Operand}(h:oM S d x=some l):(x=none/\l=d)\/∃ y k,x=some y/\a.eval y=.int k (l:Int):=by
 unfold oM at h
 split at h
 ·simp only [Option.some.injEq] at h;exact .inl ⟨rfl,h.symm⟩
 ·rename_i y
  split at h
  ·rename_i b hb
   obtain⟨v,h1,h2⟩:=hf.op hb
   obtain⟨k,rfl⟩:=kZ h h1
   exact .inr ⟨y,k,rfl,h2⟩
  ·cases h
theorem qG {sl:Bool}{ρ:Operand->Value}{lo hi:Option Operand}{l h len cap:Nat}(h1:(lo=none/\l=0)\/∃ y k,lo=some y/\ρ y=.int k (l:Int)) (h2:(hi=none/\h=len)\/∃ y k,hi=some y/\ρ y=.int k (h:Int))
 (h3:l<=h) (h4:h<=cap) (w:World):(Instr.sliceBounds sl len cap (lo.map ρ) (hi.map ρ) none).run P w=.ok (l,h,cap) w:=by
 refine uO sl ?_ ?_ ⟨?_,?_,h3,h4⟩
 ·rcases h1 with⟨h,_⟩|h
  ·exact .inl h
  ·exact .inr h
 ·rcases h2 with⟨h,_⟩|h
  ·exact .inl h
  ·exact .inr h
 ·intro e
  rcases h1 with⟨_,h⟩|⟨y,k,h,_⟩
  ·exact h
  ·rw [e] at h;cases h
 ·intro e
  rcases h2 with⟨_,h⟩|⟨y,k,h,_⟩
  ·exact h
  ·rw [e] at h;cases h
theorem Ap {id off len cap size l h:Nat}{kn:Bool}{av:AV}{p:Nat×Nat}{c:Nat}(hr:MB id off len cap kn size l h=some av) (hp:ν id=some p) (hc:len<=c) (k1:kn=true->c=cap) (k2:kn=false->c+cap=p.2) :
 l<=h/\h<=c/\AV.val ν av=some (.slice (some (if c=l then ⟨p.1,off,none⟩ else (Addr.mk p.1 off none).add (l*size))) (h-l) (c-l)):=by
 unfold MB at hr
 cases kn with
 | true =>
  obtain rfl:=k1 rfl
  simp only at hr
  cases hb:(Nat.ble l h && Nat.ble h c) with
  | false=>rw [hb] at hr;cases hr
  | true =>
   rw [hb] at hr
   simp only [Bool.and_eq_true] at hb
   have h1:=bN hb.1
   have h2:=bN hb.2
   simp only [cond_true,Option.some.injEq] at hr
   subst hr
   refine⟨h1,h2,?_⟩
   rw [wZ hp za]
   by_cases e:c=l
   ·have:Nat.beq c l=true:=by rw [sd];simp [e]
    rw [this,if_pos e];rfl
   ·have:Nat.beq c l=false:=by rw [sd];simp [e]
    rw [this,if_neg e,dI];rfl
 | false =>
  have k2:=k2 rfl
  simp only at hr
  cases hb:(Nat.ble l h && Nat.ble h len) with
  | false=>rw [hb] at hr;cases hr
  | true =>
   rw [hb] at hr
   simp only [Bool.and_eq_true] at hb
   have h1:=bN hb.1
   have h2:=bN hb.2
   refine⟨h1,za,?_⟩
   simp only [cond_true] at hr
   cases e0:Nat.beq l 0 with
   | true =>
    rw [e0] at hr
    have:=Nat.eq_of_beq_eq_true e0
    subst this
    simp only [cond_true,Option.some.injEq] at hr
    subst hr
    rw [my hp (c:=c) za k2]
    simp [dI]
   | false =>
    have hne:=Nat.ne_of_beq_eq_false e0
    rw [e0] at hr
    simp only [cond_false] at hr
    cases e1:Nat.beq l h with
    | true =>
     rw [e1] at hr
     have:=Nat.eq_of_beq_eq_true e1
     subst this
     simp only [cond_true,Option.some.injEq] at hr
     subst hr
     have h5:cap+l<=p.2:=za
     have h6:p.2-(cap+l)=c-l:=za
     have h7:(p.2=cap+l)↔(c=l):=za
     have e5:AV.val ν (.se id off (off+l*size) (cap+l))=some (.slice (some ⟨p.1,if p.2=cap+l then off else off+l*size,none⟩) 0 (p.2-(cap+l))):=by simp only [AV.val,hp,h5,if_true]
     rw [e5,h6,Nat.sub_self]
     by_cases hcl:c=l
     ·rw [if_pos (h7.2 hcl),if_pos hcl]
     ·rw [if_neg (λh=>hcl (h7.1 h)),if_neg hcl,dI]
    | false =>
     rw [e1] at hr
     have:=Nat.ne_of_beq_eq_false e1
     simp only [cond_false,Option.some.injEq] at hr
     subst hr
     rw [my hp (c:=c-l) za za,if_neg za,dI]
theorem BT (hf:bP δ ν N S a){o:Oper}{t:TypeId}{x:Operand}{lo hi:Option Operand}(ho:o.op=.slice t x lo hi none){xa av:AV}(hx:xa.val ν=some (a.eval x)) (h:Gd P S t xa lo hi=some av) (w:World) :
 ∃ v,av.val ν=some v/\(execOp a.eval o).run P w=.ok (.value v) w:=by
 unfold Gd at h
 split at h
 ·rename_i n e id off hu
  split at h
  ·rename_i ie l hh hie hl hhi
   obtain⟨p,hp,hv⟩:=hH hx
   obtain⟨h1,h2,h3⟩:=Ap (ν:=ν) (c:=n) h hp (Nat.le_refl _) (λ_=>rfl) (λe=>by cases e)
   refine⟨_,h3,?_⟩
   have b1:=jh hf hl
   have b2:=jh hf hhi
   have hr:=qG (P:=P) (sl:=false) b1 b2 h1 h2 w
   generalize a.eval=ρ at hv hr ⊢
   simp only [execOp,ho,Instr.sliceAt,Sem.run_bind,run_underlying hu,Result.andThen_ok,hv,Instr.sureAddr,Sem.run_pure,Option.map_none,hr,sizeOf,typeInfo,run_program,hie]
  ·cases h
 ·rename_i e id off len cap kn hu
  split at h
  ·rename_i ie l hh hie hl hhi
   obtain⟨p,c,hp,hv,hc,k1,k2⟩:=ju hx
   obtain⟨h1,h2,h3⟩:=Ap (ν:=ν) (c:=c) h hp hc k1 k2
   refine⟨_,h3,?_⟩
   have b1:=jh hf hl
   have b2:=jh hf hhi
   have hr:=qG (P:=P) (sl:=true) (len:=len) b1 b2 h1 h2 w
   generalize a.eval=ρ at hv hr ⊢
   simp only [execOp,ho,Instr.sliceAt,Instr.slice,Sem.run_bind,run_underlying hu,Result.andThen_ok,hv,Sem.run_pure,Option.map_none,hr,sizeOf,typeInfo,run_program,hie]
   congr 3
   split<;>rfl
  ·cases h
 ·rename_i e id o1 o2 sub hu
  split at h
  ·rename_i ie hi2 hl hhi
   simp only [Option.some.injEq] at h
   subst h
   have hx2:=hx
   simp only [AV.val] at hx2
   cases hp:ν id with
   | none=>rw [hp] at hx2;cases hx2
   | some p =>
    rw [hp] at hx2
    simp only at hx2
    split at hx2
    ·rename_i hs
     refine⟨_,hx,?_⟩
     have b1:=jh hf hl
     have b2:=jh hf hhi
     have hr:=qG (P:=P) (sl:=true) (len:=0) (cap:=p.2-sub) b1 b2 (Nat.le_refl _) (Nat.zero_le _) w
     simp only [Option.some.injEq] at hx2
     generalize a.eval=ρ at hx2 hr ⊢
     simp only [execOp,ho,Instr.sliceAt,Instr.slice,Sem.run_bind,run_underlying hu,Result.andThen_ok,<- hx2,Sem.run_pure,Option.map_none,hr,sizeOf,typeInfo,run_program,hi2]
     congr 3
     simp [dI]
    ·cases hx2
  ·cases h
 ·cases h
end
theorem qH {α:Type}:∀ (n:Nat) (v:α) (vs cs:List α),n+(vs.length+1)<=cs.length->aV n (v::vs) cs=aV (n+1) vs (cs.set n v)
 | 0,v,vs,[],h=>by simp at h
 | 0,v,vs,c::cs,h=>rfl
 | n+1,v,vs,[],h=>by simp at h
 | n+1,v,vs,c::cs,h=>by
  simp only [List.set_cons_succ,aV]
  rw [qH n v vs cs (by simp at h;omega)]
theorem qI {α:Type}:∀ (n:Nat) (cs:List α),n<=cs.length->aV n [] cs=cs
 | 0,cs,_=>rfl
 | n+1,[],h=>by simp at h
 | n+1,c::cs,h=>by simp [aV,qI n cs (by simpa using h)]
theorem si {α:Type}(off:Nat):∀ (vs:List α) (k:Nat) (cells:Array α),off+k+vs.length<=cells.size ->
 (vs.zipIdx k).foldl (λcs x=>cs.setIfInBounds (off+x.2) x.1) cells=(aV (off+k) vs cells.toList).toArray
 | [],k,cells,h=>by
  simp only [List.zipIdx_nil,List.foldl_nil]
  rw [qI _ _ (by simpa using h)]
 | v::vs,k,cells,h=>by
  simp only [List.length_cons] at h
  simp only [List.zipIdx_cons,List.foldl_cons]
  rw [si off vs (k+1) _ zO,qH _ _ _ _ zO]
  simp [Nat.add_assoc]
theorem DZ {cells:Array Value}:∀ (vs:List Value) (off:Nat),off+vs.length<=cells.size->Go.Sx.aV cells off vs=(aV off vs cells.toList).toArray:=by
 intro vs
 induction vs generalizing cells with
 | nil=>intro off h;rw [qI _ _ (by simpa using h)];simp [Go.Sx.aV]
 | cons v vs ih =>
  intro off h
  simp only [List.length_cons] at h
  rw [Go.Sx.aV,ih _ zO,qH _ _ _ _ zO]
  simp
section
variable {δ : List Deferred} {P : Program} {G : Nat -> Option (List Value)} {ν : Nu} {N : Nat} {S : AE} {a : Act} {m : AM} {w : World}
def K7 (ν:Nu):List (Nat×AV)->List (Nat×Value)->Prop
 | [],[]=>True
 | (i,x)::l,(j,v)::l'=>i=j/\x.val ν=some v/\K7 ν l l'
 | _,_=>False
theorem nq (place:Nat->Option (Nat×Nat)):∀ {ps:List (Nat×AV)}{qs:List (Nat×Value)}{cells cs:List AV}{us:List Value},uu place cells ps=some cs->bF ν cells=some us->K7 ν ps qs ->
 ∃ ws,bF ν cs=some ws/\Instr.fill place us.toArray qs=some ws.toArray
 | [],[],cells,cs,us,h,hu,_=>by
  simp only [uu,Option.some.injEq] at h
  subst h
  exact⟨us,hu,rfl⟩
 | (i,x)::ps,(j,v)::qs,cells,cs,us,h,hu,hp=>by
  obtain⟨rfl,hx,hp⟩:=hp
  simp only [uu] at h
  split at h
  ·cases h
  ·rename_i off size fS
   cases hb:(Nat.beq (cellsOf x).length size && Nat.ble (off+(cellsOf x).length) cells.length) with
   | false=>rw [hb] at h;cases h
   | true =>
    rw [hb] at h
    simp only [Bool.and_eq_true] at hb
    simp only [cond_true] at h
    have h1:=Nat.eq_of_beq_eq_true hb.1
    have h2:=bN hb.2
    have hc:=kT hx
    have l1:=cO hc
    have l2:=cO hu
    obtain⟨ws,h3,h4⟩:=nq place h (oS off hc hu) hp
    refine⟨ws,h3,?_⟩
    have e1:v.cells.size=size:=by rw [<- Array.length_toList,l1,h1]
    have e2:¬ (off+v.cells.size>us.toArray.size):=by
     simp only [List.size_toArray,l2,e1]
     rw [h1] at h2
     omega
    simp only [Instr.fill,fS]
    rw [if_neg (by simp only [Bool.or_eq_true,decide_eq_true_eq,not_or];exact⟨by simpa using e1,by simpa using e2⟩)]
    have e3:(v.cells.zipIdx.foldl (λcs x=>cs.setIfInBounds (off+x.2) x.1) us.toArray)=(aV off v.cells.toList us).toArray:=by
     rw [<- Array.foldl_toList,Array.toList_zipIdx]
     have:=si off v.cells.toList 0 us.toArray (by simp only [Array.length_toList,List.size_toArray] at e2 ⊢;omega)
     simpa using this
    exact(congrArg (λz=>Instr.fill place z qs) e3).trans h4
theorem lY (hf:bP δ ν N S a):∀ {l:List (Nat×Operand)}{ps:List (Nat×AV)},jL S l=some ps->K7 ν ps (l.map λ(i,x)=>(i,a.eval x))
 | [],ps,h=>by simp only [jL,Option.some.injEq] at h;subst h;trivial
 | (i,x)::l,ps,h=>by
  simp only [jL] at h
  split at h
  ·rename_i b hb
   split at h
   ·rename_i bs hbs
    simp only [Option.some.injEq] at h
    subst h
    obtain⟨v,h1,h2⟩:=hf.op hb
    exact⟨rfl,by rw [h2];exact h1,lY hf hbs⟩
   ·cases h
  ·cases h
theorem uA:∀ {fs:List Field}{pl:List (Nat×Nat)},places P fs=some pl->fs.mapM (λf=>(P.info? f.type).map λi=>(f.offset,i.size))=some pl
 | [],pl,h=>by simp only [places,Option.some.injEq] at h;subst h;rfl
 | f::fs,pl,h=>by
  simp only [places] at h
  split at h
  ·rename_i i hi
   split at h
   ·rename_i ps hps
    simp only [Option.some.injEq] at h
    subst h
    simp [List.mapM_cons,hi,uA hps]
   ·cases h
  ·cases h
theorem gz {t:TypeId}{z:List AV}(h:zeroOf P t=some z):∃ ti zv,P.info? t=some ti/\ti.zero=some zv/\bF ν z=some zv.cells.toList:=by
 unfold zeroOf at h
 split at h
 ·rename_i i hi
  split at h
  ·rename_i zv hz
   simp only [Option.some.injEq] at h
   subst h
   exact⟨i,zv,hi,hz,kT (il ν zv)⟩
  ·cases h
 ·cases h
theorem BU (hf:bP δ ν N S a){o:Oper}{t:TypeId}{parts:Array (Nat×Operand)}(ho:o.op=.build t parts){av:AV}(h:Bt P S t parts.toList=some av) (w:World) :
 ∃ v,av.val ν=some v/\(execOp a.eval o).run P w=.ok (.value v) w:=by
 have key:∀ cells,P.built t (parts.map λ(i,x)=>(i,a.eval x)).toList=some cells->(execOp a.eval o).run P w=.ok (.value (.agg cells)) w:=by
  intro cells hc
  have:=run_build (P:=P) w t (parts.map λ(i,x)=>(i,a.eval x)) cells hc
  generalize a.eval=ρ at this ⊢
  simp only [execOp,ho,Sem.run_bind,this,Result.andThen_ok,Sem.run_pure]
 unfold Bt at h
 split at h
 ·rename_i z ps fields hz hps hu
  obtain⟨ti,zv,h1,h2,h3⟩:=gz (ν:=ν) hz
  have hq:=lY hf hps
  split at h
  ·rename_i pl fS
   split at h
   ·rename_i cs hcs
    simp only [Option.some.injEq] at h
    subst h
    obtain⟨ws,h4,h5⟩:=nq _ hcs h3 hq
    refine⟨_,by simp only [AV.val,h4];rfl,key _ ?_⟩
    simp only [Program.built,h1,hu,h2,uA fS,Array.toList_map]
    have:(λx:Nat=>pl.toArray[x]?)=(λx:Nat=>pl[x]?):=by funext x;simp
    rw [this]
    simpa using h5
   ·cases h
  ·cases h
 ·rename_i z ps n e hz hps hu
  obtain⟨ti,zv,h1,h2,h3⟩:=gz (ν:=ν) hz
  have hq:=lY hf hps
  split at h
  ·rename_i ie hie
   split at h
   ·rename_i cs hcs
    simp only [Option.some.injEq] at h
    subst h
    obtain⟨ws,h4,h5⟩:=nq _ hcs h3 hq
    refine⟨_,by simp only [AV.val,h4];rfl,key _ ?_⟩
    simp only [Program.built,h1,hu,h2,hie,Array.toList_map]
    simpa using h5
   ·cases h
  ·cases h
 ·cases h
theorem nt {α:Type}:∀ (s:Sem α){x:α},iI P s=some x->∀ w,s.run P w=.ok x w:=by
 intro s
 induction s with
 | pure b=>intro x h w;simp only [iI,Option.some.injEq] at h;subst h;rfl
 | program k ih=>intro x h w;exact ih P h w
 | mark mk k ih=>intro x h w;exact ih h w
 | _=>intro x h;simp [iI] at h
theorem uB {α β:Type}:∀ (s:Sem α) (f:α->Sem β){y:β},iI P (s.bind f)=some y->∃ x,iI P s=some x/\iI P (f x)=some y:=by
 intro s f
 induction s with
 | pure b=>intro y h;exact⟨b,rfl,h⟩
 | program k ih=>intro y h;exact ih P h
 | mark mk k ih=>intro y h;exact ih h
 | _=>intro y h;simp [iI,Sem.bind] at h
theorem iW:∀ {es:List (Value×AV×Nat)}{l:List MapEntry},cX ν es=some l->l.map (·.key)=es.map (·.1)/\l.map (·.born)=es.map (·.2.2)/\∀ (i:Nat) (e:Value×AV×Nat),es[i]?=some e->∃ v,e.2.1.val ν=some v/\l[i]?=some ⟨e.1,v,e.2.2⟩
 | [],l,h=>by simp only [cX,Option.some.injEq] at h;subst h;exact⟨rfl,rfl,λi e h=>by simp at h⟩
 | e::es,l,h=>by
  simp only [cX] at h
  split at h
  ·rename_i v vs hv hvs
   simp only [Option.some.injEq] at h
   subst h
   obtain⟨h1,h2,h3⟩:=iW hvs
   refine⟨by simp [h1],by simp [h2],λi x hx=>?_⟩
   cases i with
   | zero=>simp at hx;subst hx;exact⟨v,hv,rfl⟩
   | succ i=>simpa using h3 i x (by simpa using hx)
  ·cases h
theorem findNow_spec (kind:TypeDesc) (k:Value):∀ (es l:List MapEntry) (i:Nat),l.map (·.key)=es.map (·.key) ->
 (Instr.findNow kind k es i=none->Instr.findNow kind k l i=none)/\(Instr.findNow kind k es i=some none->Instr.findNow kind k l i=some none) /\
 ∀ j v,Instr.findNow kind k es i=some (some (j,v))->∃ e,i<=j/\l[j-i]?=some e/\Instr.findNow kind k l i=some (some (j,e.val))
 | [],[],i,_=>⟨λh=>h,λh=>h,λj v h=>by simp [Instr.findNow] at h⟩
 | e::es,x::l,i,h=>by
  simp only [List.map_cons,List.cons.injEq] at h
  obtain⟨h1,h2⟩:=h
  obtain⟨k1,k2,k3⟩:=findNow_spec kind k es l (i+1) h2
  simp only [Instr.findNow,h1]
  cases Instr.sameNow kind k e.key with
  | none=>exact⟨λh=>h,λh=>h,λj v h=>by simp at h⟩
  | some b =>
   cases b with
   | true =>
    refine⟨λh=>by simp at h,λh=>by simp at h,λj v h=>?_⟩
    simp only [Option.some.injEq,Prod.mk.injEq] at h
    obtain⟨rfl,_⟩:=h
    exact⟨x,Nat.le_refl _,by simp,rfl⟩
   | false =>
    refine⟨k1,k2,λj v h=>?_⟩
    obtain⟨y,h3,h4,h5⟩:=k3 j v h
    refine⟨y,za,?_,h5⟩
    rw [show j-i=(j-(i+1))+1 from by omega]
    simpa using h4
 | [],x::l,i,h=>by simp at h
 | e::es,[],i,h=>by simp at h
theorem nN (kt:TypeId) (k:Value) (w:World):∀ (es l:List MapEntry) (i:Nat),l.map (·.key)=es.map (·.key)->∀ r,iI P (Instr.findAsking kt k es i)=some r ->
 (r=none/\(Instr.findAsking kt k l i).run P w=.ok none w)\/∃ j v e,r=some (j,v)/\i<=j/\l[j-i]?=some e/\(Instr.findAsking kt k l i).run P w=.ok (some (j,e.val)) w
 | [],[],i,_,r,h=>by simp only [Instr.findAsking,pure,iI,Option.some.injEq] at h;subst h;exact .inl ⟨rfl,rfl⟩
 | e::es,x::l,i,h,r,hr=>by
  simp only [List.map_cons,List.cons.injEq] at h
  obtain⟨h1,h2⟩:=h
  simp only [Instr.findAsking,bind] at hr
  obtain⟨b,hb,hr⟩:=uB _ _ hr
  have hb':=nt _ hb w
  simp only [Instr.findAsking,Sem.run_bind,h1,hb',Result.andThen_ok]
  cases b with
  | true =>
   simp only [if_true,pure,iI,Option.some.injEq] at hr
   subst hr
   exact .inr ⟨i,_,x,rfl,Nat.le_refl _,by simp,rfl⟩
  | false =>
   simp only [Bool.false_eq_true,if_false] at hr ⊢
   rcases nN kt k w es l (i+1) h2 r hr with h|⟨j,v,y,h3,h4,h5,h6⟩
   ·exact .inl h
   ·refine .inr ⟨j,v,y,h3,za,?_,h6⟩
    rw [show j-i=(j-(i+1))+1 from by omega]
    simpa using h5
 | [],x::l,i,h,_,_=>by simp at h
 | e::es,[],i,h,_,_=>by simp at h
theorem D0 (es:List (Value×AV×Nat)):(oN es).map (·.key)=es.map (·.1):=by simp [oN]
theorem iq {kt:TypeId}{k:Value}{es:List (Value×AV×Nat)}{l:List MapEntry}{r:Option Nat}(h:Ae P kt k es=some r) (hl:cX ν es=some l) (w:World) :
 (r=none/\(Instr.findKey kt k l).run P w=.ok none w)\/∃ j e,r=some j/\l[j]?=some e/\(Instr.findKey kt k l).run P w=.ok (some (j,e.val)) w:=by
 have hk:l.map (·.key)=(oN es).map (·.key):=by rw [D0,(iW hl).1]
 have key:∀ q,iI P (Instr.findKey kt k (oN es))=some q->(q=none/\(Instr.findKey kt k l).run P w=.ok none w)\/∃ j v e,q=some (j,v)/\l[j]?=some e/\(Instr.findKey kt k l).run P w=.ok (some (j,e.val)) w:=by
  intro q hq
  simp only [Instr.findKey,bind] at hq
  obtain⟨d,hd,hq⟩:=uB _ _ hq
  have hd':=nt _ hd w
  obtain⟨k1,k2,k3⟩:=findNow_spec d k (oN es) l 0 hk
  simp only [Instr.findKey,Sem.run_bind,hd',Result.andThen_ok]
  cases hn:Instr.findNow d k (oN es) 0 with
  | none =>
   rw [hn] at hq
   rw [k1 hn]
   rcases nN kt k w (oN es) l 0 hk q hq with h|⟨j,v,e,h3,_,h5,h6⟩
   ·exact .inl h
   ·exact .inr ⟨j,v,e,h3,by simpa using h5,h6⟩
  | some z =>
   rw [hn] at hq
   simp only [pure,iI,Option.some.injEq] at hq
   subst hq
   cases z with
   | none=>rw [k2 hn];exact .inl ⟨rfl,rfl⟩
   | some jv =>
    obtain⟨j,v⟩:=jv
    obtain⟨e,_,h5,h6⟩:=k3 j v hn
    rw [h6]
    exact .inr ⟨j,v,e,rfl,by simpa using h5,rfl⟩
 unfold Ae at h
 split at h
 ·rename_i j v hq
  simp only [Option.some.injEq] at h
  subst h
  rcases key _ hq with⟨h,_⟩|⟨j',v',e,h1,h2,h3⟩
  ·cases h
  ·cases h1;exact .inr ⟨_,e,rfl,h2,h3⟩
 ·rename_i hq
  simp only [Option.some.injEq] at h
  subst h
  rcases key _ hq with⟨_,h⟩|⟨j',v',e,h1,h2,h3⟩
  ·exact .inl ⟨rfl,h⟩
  ·cases h1
 ·cases h
theorem RB {em:Bool}{kt:TypeId}{k:Value}(h:qh P em kt k=true) (w:World):(Instr.checkKey em 10000 kt k).run P w=.ok () w:=by
 unfold qh at h
 split at h
 ·rename_i u hu;exact nt _ hu w
 ·cases h
theorem Aq {α:Type}(l:List α):kE l=l.isEmpty:=by cases l<;>rfl
theorem jw {es:List (Value×AV×Nat)}{l:List MapEntry}(h:cX ν es=some l):l.length=es.length:=by
 have:=congrArg List.length (iW h).1
 simpa using this
theorem lI (hm:Rt ν m w){id clock:Nat}{es:List (Value×AV×Nat)}(h:m.get id=some (.map es clock)):∃ p l,ν id=some p/\cX ν es=some l/\w.heap[p.1]?=some (.map l.toArray clock):=by
 obtain⟨p,o,h1,h2,l,h3,rfl⟩:=hm.at_ id _ h
 exact⟨p,l,h1,h3,h2⟩
theorem yv (hm:Rt ν m w){o:Oper}{t:TypeId}{x k:Operand}{ok:Bool}(ho:o.op=.lookup t x k ok){ρ:Operand->Value}{xa ka av:AV}(hx:xa.val ν=some (ρ x)) (hk:ka.val ν=some (ρ k)) (h:uX P m t xa ka ok=some av) :
 ∃ v,av.val ν=some v/\(execOp ρ o).run P w=.ok (.value v) w:=by
 unfold uX at h
 split at h
 ·rename_i id kv kt e hkv hu
  have hkv':=lF (ν:=ν) hkv
  rw [hk] at hkv'
  obtain⟨p,hp,hv⟩:=lH hx
  split at h
  ·rename_i es clock ie hg hie
   obtain⟨p',l,hp',hl,hb⟩:=lI hm hg
   rw [hp] at hp'
   cases hp'
   cases hko:qh P (kE es) kt kv with
   | false=>rw [hko] at h;cases h
   | true =>
    rw [hko] at h
    simp only [cond_true] at h
    have hck:=RB hko w
    have hem:l.toArray.isEmpty=kE es:=by
     rw [Aq]
     have:=jw hl
     cases l<;>cases es<;>simp at this ⊢
    have hrun:∀ r,(Instr.findKey kt kv l).run P w=.ok r w->(execOp ρ o).run P w=((match r with
     | some (_,v)=>(pure (v,true):Sem (Value×Bool))
     | none=>do pure (<- zeroValue e,false)).run P w).andThen λq w'=>.ok (.value (if ok then .tuple #[q.1,.bool q.2] else q.1)) w':=by
     intro r hr
     have hbo:(getObj p.1).run P w=.ok (.map l.toArray clock) w:=by simp [getObj,Sem.run,hb]
     simp only [Option.some.injEq] at hkv'
     simp only [execOp,ho,hv,hkv',Instr.lookup,Sem.run_bind,run_underlying hu,Result.andThen_ok,hbo,Sem.run_pure,hem,hck,hr]
     cases r with
     | none =>
      simp only [Sem.run_bind,zeroValue,typeInfo,run_program,hie,Result.andThen_ok,Sem.run_pure]
      cases hz:ie.zero with
      | none=>rfl
      | some z=>cases ok<;>simp
     | some q=>cases ok<;>simp
    split at h
    ·rename_i i _ hfi
     split at h
     ·rename_i en hen
      rcases iq hfi hl w with⟨h1,_⟩|⟨j,e',h1,h2,h3⟩
      ·cases h1
      ·cases h1
       obtain⟨v,h4,h5⟩:=(iW hl).2.2 _ _ hen
       rw [h2] at h5
       cases h5
       rw [hrun _ h3]
       simp only [Option.some.injEq] at h
       subst h
       cases ok with
       | true=>exact⟨_,by simp only [AV.val,bF,h4];rfl,by simp⟩
       | false=>exact⟨v,h4,by simp⟩
     ·cases h
    ·rename_i z hfi hz
     rcases iq hfi hl w with⟨_,h1⟩|⟨j,e',h1,h2,h3⟩
     ·rw [hrun _ h1]
      simp only [Option.some.injEq] at h
      subst h
      cases ok with
      | true=>exact⟨.tuple #[z,.bool false],by simp only [AV.val,bF,il],by simp [Sem.run_bind,zeroValue,typeInfo,hie,hz]⟩
      | false=>exact⟨z,il ν z,by simp [Sem.run_bind,zeroValue,typeInfo,hie,hz]⟩
     ·cases h1
    ·cases h
  ·cases h
 ·cases h
theorem K8 (hf:bP δ ν N S a){o:Oper}{c:Call}{b:Builtin}(ho:o.op=.call c) (hc:c.callee=.builtin b){asx:List AV}(ha:jX S c.args.toList=some asx) (w:World) :
 ∃ (vs:List Value) (cs:Array Bool),bF ν asx=some vs/\(execOp a.eval o).run P w=(builtin b c.argTypes o.type cs vs.toArray).run P w:=by
 have h1:=hf.ops ha
 have h4:c.args.map a.eval=(c.args.toList.map a.eval).toArray:=by apply Array.ext';simp
 generalize a.eval=ρ at h1 h4 ⊢
 exact⟨_,_,h1,by rw [<- h4];simp [execOp,ho,resolve,hc,invoke];rfl⟩
theorem D1 (hm:Rt ν m w){ts:Array TypeId}{asx:List AV}{vs:List Value}(hv:bF ν asx=some vs){av:AV}(h:KL P m ts.toList asx=some av) (ty:TypeId):∃ v,av.val ν=some v/\(Builtin.len_ ts ty vs.toArray).run P w=.ok v w:=by
 unfold KL at h
 split at h
 ·rename_i t x ht
  obtain⟨xv,l0,hx,h0,rfl⟩:=cB.1 hv
  simp only [bF,Option.some.injEq] at h0
  subst h0
  have ht0:ts[0]?=some t:=by rw [<- Array.getElem?_toList,ht];rfl
  split at h
  ·rename_i e id off len cap kn hu
   obtain⟨p,c,_,rfl,_⟩:=ju hx
   cases h
   exact⟨_,rfl,by simp [Builtin.len_,ht0,run_underlying hu,goInt]⟩
  ·rename_i e id o1 o2 sub hu
   obtain⟨p,_,c,_,rfl⟩:=qF hx
   cases h
   exact⟨_,rfl,by simp [Builtin.len_,ht0,run_underlying hu,goInt]⟩
  ·rename_i k e id hu
   obtain⟨p,hp,rfl⟩:=lH hx
   split at h
   ·rename_i es clock hg
    obtain⟨p',l,hp',hl,hb⟩:=lI hm hg
    rw [hp] at hp'
    cases hp'
    cases h
    have hbo:(getObj p.1).run P w=.ok (.map l.toArray clock) w:=by simp [getObj,Sem.run,hb]
    exact⟨_,rfl,by simp [Builtin.len_,ht0,run_underlying hu,goInt,Sem.run_bind,hbo,jw hl]⟩
   ·cases h
  ·rename_i arr id off hu
   obtain⟨p,_,rfl⟩:=hH hx
   split at h
   ·rename_i n e hu2
    cases h
    exact⟨_,rfl,by simp [Builtin.len_,ht0,run_underlying hu,run_underlying hu2,goInt,Sem.run_bind]⟩
   ·cases h
  ·rename_i n e cs hu
   obtain⟨us,_,rfl⟩:=BO hx
   cases h
   exact⟨_,rfl,by simp [Builtin.len_,ht0,run_underlying hu,goInt]⟩
  ·cases h
 ·cases h
theorem BV (hf:bP δ ν N S a) (hm:Rt ν m w){o:Oper}{c:Call}(ho:o.op=.call c) (hc:c.callee=.builtin .len){av:AV}(h:BB P m S o c=some av) :
 ∃ v,av.val ν=some v/\(execOp a.eval o).run P w=.ok (.value v) w:=by
 unfold BB at h
 split at h
 ·rename_i asx ha
  refine fL hf h w λh=>?_
  obtain⟨vs,cs,h1,h2⟩:=K8 hf ho hc ha w
  obtain⟨v,h3,h4⟩:=D1 hm h1 h o.type
  refine⟨v,h3,?_⟩
  rw [h2]
  simp only [builtin,Sem.run_bind,h4,Result.andThen_ok,Sem.run_pure]
 ·cases h
theorem xk {n:Nat}:∀ {es:List (Value×AV×Nat)}{l:List MapEntry}{k:Value}{x:AV},Hm n es=some (k,x)->cX ν es=some l->∃ v,x.val ν=some v/\l.find? (·.born == n)=some ⟨k,v,n⟩
 | e::es,l,k,x,h,hl=>by
  simp only [cX] at hl
  split at hl
  ·rename_i v vs hv hvs
   simp only [Option.some.injEq] at hl
   subst hl
   simp only [Hm] at h
   cases hb:Nat.beq e.2.2 n with
   | true =>
    rw [hb] at h
    have:=Nat.eq_of_beq_eq_true hb
    simp only [cond_true,Option.some.injEq,Prod.mk.injEq] at h
    obtain⟨rfl,rfl⟩:=h
    subst this
    exact⟨v,hv,by simp⟩
   | false =>
    rw [hb] at h
    have hne:=Nat.ne_of_beq_eq_false hb
    obtain⟨u,h1,h2⟩:=xk h hvs
    refine⟨u,h1,?_⟩
    rw [List.find?_cons_of_neg (by simpa using hne)]
    exact h2
  ·cases hl
theorem BW (hm:Rt ν m w){o:Oper}{x:Operand}(ho:o.op=.entry x){ρ:Operand->Value}{xa av:AV}(hx:xa.val ν=some (ρ x)) (h:Gg m xa=some av) :
 ∃ v,av.val ν=some v/\(execOp ρ o).run P w=.ok (.value v) w:=by
 unfold Gg at h
 split at h
 ·rename_i id
  obtain⟨p,hp,hv⟩:=hH hx
  split at h
  ·rename_i lk since seen stepped hg
   obtain⟨p',ob,hp',hb,q,hq,rfl⟩:=hm.at_ id _ hg
   rw [hp] at hp'
   cases hp'
   split at h
   ·rename_i es clock stamp hg2 hst
    obtain⟨q',l,hq',hl,hb2⟩:=lI hm hg2
    rw [hq] at hq'
    cases hq'
    cases hc:Nat.beq clock stepped with
    | false=>rw [hc] at h;cases h
    | true =>
     rw [hc] at h
     have:=Nat.eq_of_beq_eq_true hc
     subst this
     simp only [cond_true] at h
     split at h
     ·rename_i k v hbo
      simp only [Option.some.injEq] at h
      subst h
      obtain⟨u,h1,h2⟩:=xk hbo hl
      refine⟨.tuple #[k,u],by simp only [AV.val,bF,il,h1],?_⟩
      have g1:(getObj p.1).run P w=.ok (.mapIter (some q.1) since seen.toArray clock) w:=by simp [getObj,Sem.run,hb]
      have g2:(getObj q.1).run P w=.ok (.map l.toArray clock) w:=by simp [getObj,Sem.run,hb2]
      have g3:seen.toArray.back?=some stamp:=by simpa using hst
      have g4:l.toArray.find? (λe=>e.born == stamp)=some ⟨k,u,stamp⟩:=by simpa using h2
      simp only [execOp,ho,hv,Instr.entry,Sem.run_bind,g1,Result.andThen_ok,g3,g2,g4,Sem.run_pure,bne_self_eq_false,Bool.false_eq_true,if_false]
     ·cases h
   ·cases h
  ·cases h
 ·cases h
theorem ke {x:Option AV}{f:AV->Option AV}{av:AV}(h:Jx x f=some av):∃ b,x=some b/\f b=some av:=by
 cases x with
 | none=>cases h
 | some b=>exact⟨b,rfl,h⟩
theorem xm {x y:Option AV}{f:AV->AV->Option AV}{av:AV}(h:N0 x y f=some av):∃ b c,x=some b/\y=some c/\f b c=some av:=by
 cases x with
 | none=>cases h
 | some b =>
  cases y with
  | none=>cases h
  | some c=>exact⟨b,c,rfl,rfl,h⟩
theorem BX {o:Oper}{t:TypeId}{x:Operand}(ho:o.op=.makeInterface t x){b av:AV}(hx:b.val ν=some (a.eval x)) (h:Gh P t b=some av) (w:World):∃ v,av.val ν=some v/\(execOp a.eval o).run P w=.ok (.value v) w:=by
 unfold Gh at h
 split at h
 ·cases h
 ·rename_i d hd hu
  simp only [Option.some.injEq] at h
  subst h
  refine⟨.iface t (a.eval x),by simp only [AV.val,hx],?_⟩
  simp only [execOp,ho,Instr.makeInterface,Sem.run_bind,run_underlying hu w,Result.andThen_ok]
  cases d<;>first|exact(hd _ rfl).elim|simp only [Sem.run_pure,Result.andThen_ok]
 ·cases h
theorem yw (hf:bP δ ν N S a){o:Oper}{t t':TypeId}{x:Operand}{ok:Bool}(ho:o.op=.typeAssert x t' t ok){av:AV}(h:BC P t ok (cC S x)=some av) (w:World):∃ v,av.val ν=some v/\(execOp a.eval o).run P w=.ok (.value v) w:=by
 unfold BC at h
 split at h
 ·rename_i t1 b hx
  obtain⟨u,hu1,ex⟩:=hf.op hx
  obtain⟨v,hv,rfl⟩:=BN hu1
  split at h
  ·cases h
  ·rename_i d hd hu
   cases hb:Nat.beq t1 t with
   | false=>rw [hb] at h;cases h
   | true =>
    rw [hb] at h
    have:=Nat.eq_of_beq_eq_true hb
    subst this
    simp only [cond_true,Option.some.injEq] at h
    subst h
    cases ok with
    | true =>
     refine⟨.tuple #[v,.bool true],by simp only [AV.val,bF,hv],?_⟩
     simp only [execOp,ho,Instr.typeAssert,Sem.run_bind,run_underlying hu w,Result.andThen_ok,ex]
     cases d<;>first|exact(hd _ rfl).elim|simp [Sem.run_pure,Result.andThen_ok]
    | false =>
     refine⟨v,hv,?_⟩
     simp only [execOp,ho,Instr.typeAssert,Sem.run_bind,run_underlying hu w,Result.andThen_ok,ex]
     cases d<;>first|exact(hd _ rfl).elim|simp [Sem.run_pure,Result.andThen_ok]
  ·cases h
 ·cases h
theorem dU (hf:bP δ ν N S a) (hm:Rt ν m w) (hG:Glob G w){o:Oper}{av:AV}(h:ik P G m S o=some av):∃ v,av.val ν=some v/\(execOp a.eval o).run P w=.ok (.value v) w:=by
 have op1:∀ {x:Operand}{b:AV},cC S x=some b->b.val ν=some (a.eval x):=by
  intro x b hb
  obtain⟨v,h1,h2⟩:=hf.op hb
  rw [h2];exact h1
 unfold ik at h
 split at h
 ·rename_i x ho
  obtain⟨v,h1,h2⟩:=hf.op h
  exact⟨v,h1,by simp [execOp,ho,h2]⟩
 ·rename_i x ho
  obtain⟨v,h1,h2⟩:=hf.op h
  exact⟨v,h1,by simp [execOp,ho,h2]⟩
 ·rename_i c x y ho
  unfold KR at h
  split at h
  ·rename_i t ht
   obtain⟨v,h1,h2⟩:=hf.op ht
   simp only [AV.val,Option.some.injEq] at h1
   subst h1
   split at h
   ·obtain⟨u,h3,h4⟩:=hf.op h
    exact⟨u,h3,by simp [execOp,ho,h2,asBool,h4]⟩
   ·obtain⟨u,h3,h4⟩:=hf.op h
    exact⟨u,h3,by simp [execOp,ho,h2,asBool,h4]⟩
  ·cases h
 ·rename_i t parts ho
  exact fL hf h w λh=>BU hf ho h w
 ·rename_i t x ho
  obtain⟨b,hb,h⟩:=ke h
  obtain⟨ad,v,h1,h2,h3⟩:=lX hm hG (op1 hb) h
  exact⟨v,h2,run_load ho h1 h3⟩
 ·rename_i x ho
  exact uU hf ho h w
 ·rename_i op t x y t' ho
  exact sg hf ho h w
 ·rename_i fn fst cap ho
  unfold sS at h
  split at h
  ·rename_i f x y hx hy
   simp only [Option.some.injEq] at h
   subst h
   have h1:=hf.ops hx
   have h2:=hf.ops hy
   refine⟨_,by simp only [AV.val,h1,h2];rfl,?_⟩
   generalize a.eval=ρ
   simp only [execOp,ho,Instr.makeFunc,Sem.run_bind,Sem.run_pure,Result.andThen_ok]
   congr 3<;>(apply Array.ext';simp)
  ·cases h
 ·rename_i t x lo hi mx ho
  unfold wN at h
  split at h
  ·rename_i b hb
   exact fL hf h w λh=>BT hf ho (op1 hb) h w
  ·cases h
 ·rename_i t x f ho
  refine fL hf h w λh=>?_
  obtain⟨b,hb,h⟩:=ke h
  exact sZ ho (op1 hb) h w
 ·rename_i t x f ho
  refine fL hf h w λh=>?_
  obtain⟨b,hb,h⟩:=ke h
  exact BS ho (op1 hb) h w
 ·rename_i t x i ho
  refine fL hf h w λh=>?_
  obtain⟨b,c,hb,hc,h⟩:=xm h
  exact sY ho (op1 hb) (op1 hc) h w
 ·rename_i t x i ho
  refine fL hf h w λh=>?_
  obtain⟨b,c,hb,hc,h⟩:=xm h
  exact BR ho (op1 hb) (op1 hc) h w
 ·rename_i t x k ok ho
  refine fL hf h w λh=>?_
  obtain⟨b,c,hb,hc,h⟩:=xm h
  exact yv hm ho (op1 hb) (op1 hc) h
 ·rename_i x i ho
  exact xj hf ho h w
 ·rename_i x ho
  obtain⟨b,hb,h⟩:=ke h
  exact BW hm ho (op1 hb) h
 ·rename_i t x ho
  obtain⟨b,hb,h⟩:=ke h
  exact xi ho (op1 hb) h w
 ·exact jY hf h w
 ·exact jY hf h w
 ·rename_i t x ho
  obtain⟨b,hb,h⟩:=ke h
  exact BX ho (op1 hb) h w
 ·rename_i x t' t ok ho
  exact yw hf ho h w
 ·rename_i c ho
  split at h
  ·rename_i b hc
   split at h
   ·exact BV hf hm ho hc h
   ·exact jY hf h w
  ·cases h
 ·cases h
end
section
variable {δ : List Deferred} {P : Program} {G : Nat -> Option (List Value)} {ν : Nu} {N : Nat} {S : AE} {a : Act} {m m' : AM} {w w0 : World} {L : List bA}
def Ht (P:Program) (ν:Nu) (w0:World) (L:List bA) (m':AM) (s:Sem Next) (w:World) (av:AV):Prop :=
 ∃ v ν' w',ν.le ν'/\av.val ν'=some v/\St w0 (Mem ν' m'::L) w'/\(s.run P w=.ok (.value v) w'\/(s.run P w=.ok .skip w'/\v=undef))
theorem dD (hs:St w0 (Mem ν m::L) w):Rt ν m w:=hs.holds _ (List.mem_cons_self ..)
theorem qJ:∀ {l:List AV}{vs:List Value},kM l=true->bF ν l=some vs->vs.all qZ=true
 | [],vs,_,h=>by simp only [bF,Option.some.injEq] at h;subst h;rfl
 | x::l,vs,h1,h=>by
  obtain⟨v,ws,h2,h3,rfl⟩:=cB.1 h
  simp only [kM] at h1
  cases ho:NZ x with
  | false=>rw [ho] at h1;cases h1
  | true =>
   rw [ho] at h1
   simp only [cond_true] at h1
   simp only [List.all_cons,Bool.and_eq_true]
   refine⟨?_,qJ h1 h3⟩
   cases x with
   | num k n=>simp only [AV.val,Option.some.injEq] at h2;subst h2;rfl
   | bool b=>simp only [AV.val,Option.some.injEq] at h2;subst h2;rfl
   | flat u=>simp only [AV.val,Option.some.injEq] at h2;subst h2;exact ho
   | ptr id off=>obtain⟨_,_,rfl⟩:=hH h2;rfl
   | sl id off len cap kn=>obtain⟨_,_,_,rfl,_⟩:=ju h2;rfl
   | se id o1 o2 sub=>obtain⟨_,_,_,_,rfl⟩:=qF h2;rfl
   | mp id=>obtain⟨_,_,rfl⟩:=lH h2;rfl
   | fn f x y=>obtain⟨_,_,_,_,rfl⟩:=sX h2;rfl
   | agg cs=>cases ho
   | qU cs=>cases ho
   | yl id=>obtain⟨_,_,rfl⟩:=K5 h2;rfl
   | LZ t a=>obtain⟨_,_,rfl⟩:=BN h2;rfl
theorem BZ {l l':List AV}:kM (l++l')=(kM l && kM l'):=by
 induction l with
 | nil=>rfl
 | cons x l ih=>simp only [List.cons_append,kM];cases NZ x<;>simp [ih]
theorem jy {id off:Nat}{xs:List AV}(h:jf m id off xs=some m'){p:Nat×Nat}(hp:ν id=some p){us:List Value}(hu:bF ν xs=some us) (hs:St w0 (Mem ν m::L) w) :
 ∃ w',St w0 (Mem ν m'::L) w'/\(storeCells ⟨p.1,off,none⟩ us).run P w=.ok () w':=by
 have hm:=dD hs
 unfold jf at h
 split at h
 ·rename_i cs hc
  cases hb:Nat.ble (off+xs.length) cs.length with
  | false=>rw [hb] at h;cases h
  | true =>
   rw [hb] at h
   simp only [cond_true] at h
   cases ho:kM xs with
   | false=>rw [ho] at h;cases h
   | true =>
    rw [ho] at h
    simp only [cond_true] at h
    have hle:=bN hb
    have hone:=qJ ho hu
    have lu:=cO hu
    obtain⟨p',vs,rest,T,fr,h1,h2,h3,h4⟩:=kU hm hc
    rw [hp] at h1
    cases h1
    have lv:=cO h2
    have hr:=fV (P:=P) us w (vs++rest).toArray fr off 0 h3 (by simpa using h4) zO hone
    simp only [Nat.add_zero] at hr
    have hsp:Go.Sx.aV (vs++rest).toArray off us=(aV off us vs++rest).toArray:=by
     rw [DZ us off zO]
     simp only [List.toList_toArray]
     rw [uz off us vs rest za]
    rw [hsp] at hr
    have lsp:=qi off us vs za
    have hsv:=oS off hu h2
    refine⟨_,?_,hr⟩
    unfold kQ at hc
    unfold Ad at h
    split at hc
    ·rename_i cs' hg
     rw [hg] at h
     simp only [Option.some.injEq] at hc h
     subst hc h
     obtain⟨p',o',h5,h6,vs',T',fr',h7,rfl,h8⟩:=hm.at_ id _ hg
     rw [hp] at h5
     cases h5
     rw [h2] at h7
     cases h7
     rw [h3] at h6
     simp only [Option.some.injEq,Obj.cells.injEq] at h6
     obtain⟨h6,-,-⟩:=h6
     have hrest:rest=[]:=by
      have:=congrArg Array.size h6
      simp only [List.size_toArray,List.length_append] at this
      exact List.eq_nil_of_length_eq_zero za
     subst hrest
     exact St.BK hs hg hp _ ⟨aV off us vs,T,fr,hsv,by simp,by rw [lsp];simpa using h4⟩
    ·rename_i cs' z hg
     rw [hg] at h
     simp only [Option.some.injEq] at hc h
     subst hc h
     obtain⟨p',o',h5,h6,vs',rest',T',fr',h7,rfl,h8,h9⟩:=hm.at_ id _ hg
     rw [hp] at h5
     cases h5
     rw [h2] at h7
     cases h7
     rw [h3] at h6
     simp only [Option.some.injEq,Obj.cells.injEq] at h6
     obtain⟨h6,-,-⟩:=h6
     have hrest:rest=rest':=by
      have:=congrArg Array.toList h6
      simpa using this
     subst hrest
     refine St.BK hs hg hp _ ⟨aV off us vs,rest,T,fr,hsv,rfl,?_,?_,h9.2⟩
     ·simp only [List.length_append,lsp] at h8 ⊢;exact h8
     ·simp only [List.length_append,lsp] at h4 ⊢;exact h4
    ·cases hc
 ·cases h
theorem gM (hs:St w0 (Mem ν m::L) w){cs:List AV}{us:List Value}(hu:bF ν cs=some us) (T:TypeId) (cap:Nat) :
 St w0 (Mem (ν.add m.next (w.heap.size,cap)) (m.new (.cells cs))::L) { w with heap:=w.heap.push (.cells us.toArray T) }/\ν.le (ν.add m.next (w.heap.size,cap)):=by
 have hle:ν.le (ν.add m.next (w.heap.size,cap)):=Nu.nk ((dD hs).fresh _ (Nat.le_refl _))
 exact St.K1 hs _ _ cap ⟨us,T,(0,0),dX hle cs hu,rfl,λi _ h=>by simp at h⟩
theorem tb (hs:St w0 (Mem ν m::L) w){cs:List AV}{us rest:List Value}(hu:bF ν cs=some us) (T:TypeId){cap z:Nat}(hl:(us++rest).length=cap*z) (fr:Nat×Nat) (hfr:∀ i,i<(us++rest).length->¬ (fr.1<=i/\i<fr.2)) (hk:cap<=9223372036854775807) :
 St w0 (Mem (ν.add m.next (w.heap.size,cap)) (m.new (.buf cs z))::L) { w with heap:=w.heap.push (.cells (us++rest).toArray T fr) }/\ν.le (ν.add m.next (w.heap.size,cap)):=by
 have hle:ν.le (ν.add m.next (w.heap.size,cap)):=Nu.nk ((dD hs).fresh _ (Nat.le_refl _))
 exact St.K1 hs _ _ cap ⟨us,rest,T,fr,dX hle cs hu,rfl,hl,hfr,hk⟩
theorem B0 {r:Option AM}{av:AV}(h:wr r=some (av,m')):r=some m'/\av=.flat undef:=by
 cases r with
 | none=>cases h
 | some x=>simp only [wr,Option.some.injEq,Prod.mk.injEq] at h;exact⟨by rw [h.2],h.1.symm⟩
theorem yx (hf:bP δ ν N S a) (hs:St w0 (Mem ν m::L) w){o:Oper}{t:TypeId}{x y:Operand}(ho:o.op=.store t x y){av:AV}(h:uY P m t (cC S x) (cC S y)=some (av,m')):Ht P ν w0 L m' (execOp a.eval o) w av:=by
 unfold uY at h
 split at h
 ·rename_i b hb
  split at h
  ·rename_i c hc
   obtain⟨h9,e9⟩:=B0 h
   subst e9
   clear h
   obtain⟨u,h1,ex⟩:=hf.op hb
   obtain⟨v,h2,ey⟩:=hf.op hc
   have h:=h9
   clear h9
   unfold KI at h
   cases b with
   | ptr id off =>
    simp only at h
    cases hi:P.info? t with
    | none=>rw [hi] at h;cases h
    | some ti =>
    rw [hi] at h
    simp only at h
    cases hl:Nat.beq (cellsOf c).length ti.size with
    | false=>rw [hl] at h;cases h
    | true =>
     rw [hl] at h
     simp only [cond_true] at h
     have hl:=Nat.eq_of_beq_eq_true hl
     obtain⟨p,hp,rfl⟩:=hH h1
     have hcs:=kT h2
     obtain⟨w',h3,h4⟩:=jy (P:=P) h hp hcs hs
     refine⟨undef,ν,w',Nu.le_refl ν,rfl,h3,.inr ⟨?_,rfl⟩⟩
     have hsz:v.cells.size=ti.size:=by rw [<- Array.length_toList,cO hcs,hl]
     generalize a.eval=ρ at ex ey ⊢
     simp only [execOp,ho,Instr.storeAt,ex,ey,Instr.sureAddr,storeVar,sizeOf,typeInfo,Sem.run_bind,run_program,hi,Sem.run_pure,Result.andThen_ok,ne_eq,hsz,not_true_eq_false,if_false,h4]
   | _=>cases h
  ·cases h
 ·cases h
theorem yy (hs:St w0 (Mem ν m::L) w){o:Oper}{t:TypeId}(ho:o.op=.alloc t){ρ:Operand->Value}{av:AV}(h:rV P m t=some (av,m')):Ht P ν w0 L m' (execOp ρ o) w av:=by
 unfold rV at h
 split at h
 ·rename_i z hz
  simp only [Option.some.injEq,Prod.mk.injEq] at h
  obtain⟨rfl,rfl⟩:=h
  obtain⟨ti,zv,h1,h2,h3⟩:=gz (ν:=ν) hz
  obtain⟨k1,k2⟩:=gM hs h3 t 0
  refine⟨_,_,_,k2,oT (Nu.bV _ _ _),k1,.inl ?_⟩
  simp [execOp,ho,Instr.alloc,zeroValue,typeInfo,h1,h2,newVar,newRow,newObj,Sem.run,bind,Sem.bind,pure,program]
 ·cases h
theorem D3 (hf:bP δ ν N S a) (hs:St w0 (Mem ν m::L) w){o:Oper}{t:TypeId}{x:Operand}(ho:o.op=.box t x){av:AV}(h:Ho m (cC S x)=some (av,m')):Ht P ν w0 L m' (execOp a.eval o) w av:=by
 unfold Ho at h
 split at h
 ·rename_i b hb
  simp only [Option.some.injEq,Prod.mk.injEq] at h
  obtain⟨rfl,rfl⟩:=h
  obtain⟨u,h1,ex⟩:=hf.op hb
  obtain⟨k1,k2⟩:=gM hs (kT h1) t 0
  refine⟨_,_,_,k2,oT (Nu.bV _ _ _),k1,.inl ?_⟩
  generalize a.eval=ρ at ex ⊢
  simp [execOp,ho,Instr.box,ex,newVar,newRow,newObj,Sem.run,bind,Sem.bind,pure]
 ·cases h
theorem oU {z:List AV}{us:List Value}(h:bF ν z=some us):∀ n,bF ν (rep n z)=some (rep n us)
 | 0=>rfl
 | n+1=>eA h (oU h n)
theorem jO {α:Type}(z:List α):∀ n,(rep n z).length=n*z.length
 | 0=>by simp [rep]
 | n+1=>by simp [rep,jO z n,Nat.add_mul,Nat.add_comm]
theorem Hu {α:Type}(z:List α) (hz:0<z.length):∀ (n i:Nat),i<n*z.length->(rep n z)[i]?=z[i % z.length]?
 | 0,i,h=>by simp at h
 | n+1,i,h=>by
  simp only [rep]
  by_cases hi:i<z.length
  ·rw [List.getElem?_append_left hi,Nat.mod_eq_of_lt hi]
  ·rw [List.getElem?_append_right za,Hu z hz n (i-z.length) (by rw [Nat.add_mul] at h;omega)]
   congr 1
   exact(Nat.mod_eq_sub_mod za).symm
theorem xn {α:Type}(f:Nat->α):(Array.range 0).map f=#[]:=by apply Array.ext';simp [Array.toList_range]
theorem xp {zs:Array Value}(n:Nat) (hz:0<zs.size):(Array.range (n*zs.size)).map (λi=>zs[i % zs.size]!)=(rep n zs.toList).toArray:=by
 apply Array.ext_getElem?
 intro i
 by_cases hi:i<n*zs.size
 ·have h1:i % zs.size<zs.size:=Nat.mod_lt _ hz
  have:=Hu zs.toList (by simpa using hz) n i (by simpa using hi)
  simp only [List.getElem?_toArray,this,Array.getElem?_map]
  simp [hi,h1]
 ·have h2:(rep n zs.toList).length=n*zs.size:=by rw [jO];simp
  rw [Array.getElem?_eq_none zO,Array.getElem?_eq_none (by simp [h2];omega)]
theorem sj {zs:Array Value}(n:Nat) (hz:0<zs.size):Builtin.zeroCells zs n=(rep n zs.toList).toArray:=xp n hz
theorem oV (hf:bP δ ν N S a){o:Oper}{t:TypeId}{len:Nat}{parts:Array (Nat×Operand)}(ho:o.op=.buildSlice t len parts){cs:List AV}(h:iU P S t len parts.toList=some cs) :
 ∃ (ws:List Value) (e:TypeId),bF ν cs=some ws/\∀ w:World,(execOp a.eval o).run P w=.ok (.value (.slice (some ⟨w.heap.size,0,none⟩) len len)) { w with heap:=w.heap.push (.cells ws.toArray e) }:=by
 unfold iU at h
 split at h
 ·rename_i e hu
  split at h
  ·rename_i ie z ps hie hz hps
   cases hb:(Nat.ble (len*ie.size) 16777216 && Nat.beq z.length ie.size && Nat.ble 1 ie.size) with
   | false=>rw [hb] at h;cases h
   | true =>
    rw [hb] at h
    simp only [Bool.and_eq_true] at hb
    have b1:=bN hb.1.1
    have b2:=Nat.eq_of_beq_eq_true hb.1.2
    have b3:=bN hb.2
    have hcs:uu (λi=>some (i*ie.size,ie.size)) (rep len z) ps=some cs:=by simpa only [cond_true] using h
    obtain⟨ti,zv,h1,h2,h3⟩:=gz (ν:=ν) hz
    rw [hie] at h1
    cases h1
    have lz:zv.cells.size=ie.size:=by rw [<- Array.length_toList,cO h3,b2]
    obtain⟨ws,h4,h5⟩:=nq _ hcs (oU h3 len) (lY hf hps)
    refine⟨ws,e,h4,λw=>?_⟩
    have hns:¬ (len*ie.size>2 ^ 24):=za
    have hfill:Instr.fill (λi=>some (i*ie.size,ie.size)) ((Array.range (len*ie.size)).map (λi=>(if len*ie.size=0 then #[] else zv.cells)[i % (if len*ie.size=0 then (#[]:Array Value) else zv.cells).size]!)) (parts.map λ(i,x)=>(i,a.eval x)).toList=some ws.toArray:=by
     rw [Array.toList_map]
     by_cases hz0:len*ie.size=0
     ·rw [if_pos hz0,hz0]
      have hl0:len=0:=by
       rcases Nat.mul_eq_zero.1 hz0 with h|h
       ·exact h
       ·omega
      subst hl0
      rw [xn]
      simpa [rep] using h5
     ·rw [if_neg hz0]
      have e1:=xp (zs:=zv.cells) len za
      rw [lz] at e1
      rw [lz,e1]
      exact h5
    generalize a.eval=ρ at hfill ⊢
    simp only [execOp,ho,Instr.buildSlice,Sem.run_bind,run_underlying hu,Result.andThen_ok,sizeOf,typeInfo,run_program,hie,Sem.run_pure,hns,if_false,zeroValue,newRow,newObj]
    by_cases hz0:len*ie.size=0
    ·simp only [hz0,if_true] at hfill ⊢
     simp only [Sem.run_bind,Sem.run_pure,Result.andThen_ok]
     simp only [hfill]
     simp [Sem.run,bind,Sem.bind,pure]
    ·simp only [hz0,if_false] at hfill ⊢
     simp only [Sem.run_bind,run_program,Result.andThen_ok,hie,Sem.run_pure,h2]
     simp only [hfill]
     simp [Sem.run,bind,Sem.bind,pure]
  ·cases h
 ·cases h
theorem sk (hf:bP δ ν N S a) (hs:St w0 (Mem ν m::L) w){o:Oper}{t:TypeId}{len:Nat}{parts:Array (Nat×Operand)}(ho:o.op=.buildSlice t len parts){av:AV}(h:lU P S m t len parts.toList=some (av,m')):Ht P ν w0 L m' (execOp a.eval o) w av:=by
 unfold lU at h
 split at h
 ·rename_i cs hc
  simp only [Option.some.injEq,Prod.mk.injEq] at h
  obtain⟨rfl,rfl⟩:=h
  obtain⟨ws,e,h4,h5⟩:=oV hf ho hc
  obtain⟨k1,k2⟩:=gM hs h4 e 0
  exact⟨_,_,_,k2,wZ (Nu.bV _ _ _) (Nat.le_refl _),k1,.inl (h5 w)⟩
 ·cases h
theorem uV (hs:St w0 (Mem ν m::L) w){o:Oper}{t:TypeId}{r:Option Operand}(ho:o.op=.makeMap t r){ρ:Operand->Value}{av:AV}(h:sT m r=some (av,m')):Ht P ν w0 L m' (execOp ρ o) w av:=by
 cases r with
 | some r=>cases h
 | none =>
  simp only [sT,Option.some.injEq,Prod.mk.injEq] at h
  obtain⟨rfl,rfl⟩:=h
  obtain⟨k1,k2⟩:=St.K1 hs (.map [] 0) (.map #[] 0) 0 ⟨[],rfl,rfl⟩
  refine⟨.map (some w.heap.size),_,_,k2,by simp [AV.val,Nu.bV],k1,.inl ?_⟩
  simp [execOp,ho,Instr.makeMap,newObj,Sem.run,bind,Sem.bind,pure]
theorem RC (hf:bP δ ν N S a) (hs:St w0 (Mem ν m::L) w){o:Oper}{t:TypeId}{x y:Operand}(ho:o.op=.makeSlice t x y){av:AV}(h:oP P m t (cC S x) (cC S y)=some (av,m')):Ht P ν w0 L m' (execOp a.eval o) w av:=by
 unfold oP at h
 split at h
 ·rename_i xa hxa
  split at h
  ·rename_i ya hya
   obtain⟨u,hu,ex⟩:=hf.op hxa
   obtain⟨v,hv,ey⟩:=hf.op hya
   unfold wJ at h
   split at h
   ·rename_i e l c hun hl hc
    obtain⟨k,rfl⟩:=kZ hl hu
    obtain⟨k',rfl⟩:=kZ hc hv
    split at h
    ·rename_i ie z hie hz
     cases hb:(Nat.ble l c && Nat.ble c 1000000 && Nat.ble (ie.bytes*c) 281474976710656 && Nat.beq z.length ie.size && Nat.ble 1 ie.size) with
     | false=>rw [hb] at h;cases h
     | true =>
      rw [hb] at h
      simp only [Bool.and_eq_true] at hb
      have b1:=bN hb.1.1.1.1
      have b2:=bN hb.1.1.1.2
      have b3:=bN hb.1.1.2
      have b4:=Nat.eq_of_beq_eq_true hb.1.2
      have b5:=bN hb.2
      simp only [cond_true,Option.some.injEq,Prod.mk.injEq] at h
      obtain⟨rfl,rfl⟩:=h
      obtain⟨ti,zv,h1,h2,h3⟩:=gz (ν:=ν) hz
      rw [hie] at h1
      cases h1
      have lz:zv.cells.size=ie.size:=by rw [<- Array.length_toList,cO h3,b4]
      obtain⟨k1,k2⟩:=gM hs (oU h3 c) e 0
      refine⟨_,_,_,k2,wZ (Nu.bV _ _ _) b1,k1,.inl ?_⟩
      have w1:IntKind.i64.wrap (l:Int)=(l:Int):=uP za za
      have w2:IntKind.i64.wrap (c:Int)=(c:Int):=uP za za
      have t1:¬ ((c:Int)<0):=za
      have t2:¬ ((ie.bytes:Int)*(c:Int)>2 ^ 48):=by
       rw [<- Int.natCast_mul]
       omega
      have t3:¬ ((l:Int)<0):=za
      have t4:¬ ((l:Int)>(c:Int)):=za
      have e0:(Array.range (c*ie.size)).map (λi=>(if c*ie.size=0 then #[] else zv.cells)[i % (if c*ie.size=0 then (#[]:Array Value) else zv.cells).size]!)=(rep c zv.cells.toList).toArray:=by
       by_cases hz0:c*ie.size=0
       ·rw [if_pos hz0,hz0]
        have hl0:c=0:=by
         rcases Nat.mul_eq_zero.1 hz0 with h|h
         ·exact h
         ·omega
        subst hl0
        rw [xn]
        simp [rep]
       ·rw [if_neg hz0]
        have e1:=xp (zs:=zv.cells) c za
        rw [lz] at e1
        rw [lz,e1]
      have ask:∀ b,(askRoom b).run P w=.ok () w:=by
       intro b
       unfold askRoom
       split<;>simp [mark,Sem.run]
      generalize a.eval=ρ at ex ey ⊢
      simp only [execOp,ho,ex,ey,Instr.makeSlice,Sem.run_bind,run_underlying hun,Result.andThen_ok,asInt,asIntOf,Sem.run_pure,typeInfo,run_program,hie,w1,w2,t1,t2,t3,t4,decide_false,Bool.false_or,Bool.or_self,Bool.false_eq_true,if_false,ask,Int.toNat_natCast,sizeOf,zeroValue,newRow,newObj]
      by_cases hz0:c*ie.size=0
      ·simp only [hz0,if_true] at e0 ⊢
       simp only [Sem.run_bind,Sem.run_pure,Result.andThen_ok,e0]
       simp [Sem.run,bind,Sem.bind,pure]
      ·simp only [hz0,if_false] at e0 ⊢
       simp only [Sem.run_bind,run_program,Result.andThen_ok,hie,Sem.run_pure,h2,e0]
       simp [Sem.run,bind,Sem.bind,pure]
    ·cases h
   ·cases h
  ·cases h
 ·cases h
end
theorem xq {α:Type}:∀ (l:List α) (i k:Nat) (f:α->α),(jr l i f)[k]?=if k=i then (l[k]?).map f else l[k]?
 | [],i,k,f=>by simp [jr]
 | x::l,0,k,f=>by cases k<;>simp [jr]
 | x::l,i+1,k,f=>by
  cases k with
  | zero=>simp [jr]
  | succ k=>simp [jr,xq l i k f]
theorem modify_eq {α:Type}(l:List α) (i:Nat) (f:α->α):l.toArray.modify i f=(jr l i f).toArray:=by
 apply Array.ext_getElem?
 intro k
 rw [Array.getElem?_modify]
 simp only [List.getElem?_toArray,xq]
 by_cases h:i=k
 ·subst h;simp
 ·rw [if_neg h,if_neg (λe=>h e.symm)]
section
variable {δ : List Deferred} {P : Program} {G : Nat -> Option (List Value)} {ν : Nu} {N : Nat} {S : AE} {a : Act} {m m' : AM} {w w0 : World} {L : List bA}
theorem sn {es es':List (Value×AV×Nat)}{l l':List MapEntry}(h:cX ν es=some l) (h':cX ν es'=some l'):cX ν (es++es')=some (l++l'):=by
 induction es generalizing l with
 | nil=>simp only [cX,Option.some.injEq] at h;subst h;exact h'
 | cons e es ih =>
  simp only [cX] at h
  split at h
  ·rename_i v vs hv hvs
   simp only [Option.some.injEq] at h
   subst h
   simp only [List.cons_append,cX,hv,ih hvs]
  ·cases h
theorem tc {es:List (Value×AV×Nat)}{l:List MapEntry}(h:cX ν es=some l) (i:Nat){f:(Value×AV×Nat)->(Value×AV×Nat)}{g:MapEntry->MapEntry}
 (hfg:∀ e v,es[i]?=some e->e.2.1.val ν=some v->∃ u,(f e).2.1.val ν=some u/\g ⟨e.1,v,e.2.2⟩=⟨(f e).1,u,(f e).2.2⟩):cX ν (jr es i f)=some (jr l i g):=by
 induction es generalizing l i with
 | nil=>simp only [cX,Option.some.injEq] at h;subst h;rfl
 | cons e es ih =>
  simp only [cX] at h
  split at h
  ·rename_i v vs hv hvs
   simp only [Option.some.injEq] at h
   subst h
   cases i with
   | zero =>
    obtain⟨u,h1,h2⟩:=hfg e v rfl hv
    simp only [jr,cX,h1,hvs,h2]
   | succ i =>
    have:=ih hvs i (λe v he hv=>hfg e v (by simpa using he) hv)
    simp only [jr,cX,hv,this]
  ·cases h
theorem D4 {es:List (Value×AV×Nat)}{l:List MapEntry}(h:cX ν es=some l) (i:Nat):cX ν (es.eraseIdx i)=some (l.eraseIdx i):=by
 induction es generalizing l i with
 | nil=>simp only [cX,Option.some.injEq] at h;subst h;rfl
 | cons e es ih =>
  simp only [cX] at h
  split at h
  ·rename_i v vs hv hvs
   simp only [Option.some.injEq] at h
   subst h
   cases i with
   | zero=>simpa using hvs
   | succ i=>simp only [List.eraseIdx_cons_succ,cX,hv,ih hvs i]
  ·cases h
theorem so {es:List (Value×AV×Nat)}{l:List MapEntry}(h:cX ν es=some l) (p:Nat->Bool):cX ν (es.filter λe=>p e.2.2)=some (l.filter λe=>p e.born):=by
 induction es generalizing l with
 | nil=>simp only [cX,Option.some.injEq] at h;subst h;rfl
 | cons e es ih =>
  simp only [cX] at h
  split at h
  ·rename_i v vs hv hvs
   simp only [Option.some.injEq] at h
   subst h
   cases hp:p e.2.2 with
   | true =>
    rw [List.filter_cons_of_pos (by simpa using hp),List.filter_cons_of_pos (by simpa using hp)]
    simp only [cX,hv,ih hvs]
   | false =>
    rw [List.filter_cons_of_neg (by simpa using hp),List.filter_cons_of_neg (by simpa using hp)]
    exact ih hvs
  ·cases h
theorem iX {r:Nat}{es:Array MapEntry}{c:Nat}(h:w.heap[r]?=some (.map es c)):(getObj r).run P w=.ok (.map es c) w:=by simp [getObj,Sem.run,h]
theorem gA {r:Nat}{es:Array MapEntry}{c:Nat}(h:w.heap[r]?=some (.map es c)) (o:Obj):(setObj r o).run P w=.ok () { w with heap:=w.heap.setIfInBounds r o }:=by simp [setObj,Sem.run,h]
theorem qK (hs:St w0 (Mem ν m::L) w){id clock:Nat}{es:List (Value×AV×Nat)}(hg:m.get id=some (.map es clock)){p:Nat×Nat}(hp:ν id=some p){es':List (Value×AV×Nat)}{l':List MapEntry}(hl:cX ν es'=some l') (clock':Nat) :
 St w0 (Mem ν (m.set id (.map es' clock'))::L) { w with heap:=w.heap.setIfInBounds p.1 (.map l'.toArray clock') } :=
 St.BK hs hg hp _ ⟨l',hl,rfl⟩
theorem xr {es:List (Value×AV×Nat)}{l:List MapEntry}(hl:cX ν es=some l){i:Nat}{k:Value}(h:stays es i k=true):∃ e,l[i]?=some e/\Instr.sameBits 10000 e.key k=true:=by
 unfold stays at h
 split at h
 ·rename_i e he
  obtain⟨v,_,h2⟩:=(iW hl).2.2 i e he
  exact⟨_,h2,h⟩
 ·cases h
theorem uC (hf:bP δ ν N S a) (hs:St w0 (Mem ν m::L) w){o:Oper}{t:TypeId}{x k v:Operand}(ho:o.op=.mapUpdate t x k v\/o.op=.insert t x k v){av:AV}(h:Hp P m t (cC S x) (cC S k) (cC S v)=some (av,m')):Ht P ν w0 L m' (execOp a.eval o) w av:=by
 have hm:=dD hs
 have hexec:execOp a.eval o=(do Instr.mapUpdate t (a.eval x) (a.eval k) (a.eval v);pure .skip):=by rcases ho with ho|ho<;>simp [execOp,ho]
 rw [hexec]
 unfold Hp at h
 split at h
 ·rename_i xa ka va hxa hka hva
  obtain⟨h9,e9⟩:=B0 h
  subst e9
  clear h
  obtain⟨xv,hxv,ex⟩:=hf.op hxa
  obtain⟨kv,hkv,ek⟩:=hf.op hka
  obtain⟨vv,hvv,ev⟩:=hf.op hva
  rw [ex,ek,ev]
  unfold Hk at h9
  split at h9
  ·rename_i id k0 kt e hk0 hu
   have hk1:=lF (ν:=ν) hk0
   rw [hkv] at hk1
   cases hk1
   obtain⟨p,hp,rfl⟩:=lH hxv
   split at h9
   ·rename_i es clock hg
    obtain⟨p',l,hp',hl,hb⟩:=lI hm hg
    rw [hp] at hp'
    cases hp'
    cases hko:qh P false kt kv with
    | false=>rw [hko] at h9;cases h9
    | true =>
     rw [hko] at h9
     simp only [cond_true] at h9
     have hck:=RB hko w
     have g1:=iX (P:=P) hb
     split at h9
     ·rename_i i hfi
      cases hst:stays es i kv with
      | false=>rw [hst] at h9;cases h9
      | true =>
       rw [hst] at h9
       simp only [cond_true,Option.some.injEq] at h9
       subst h9
       rcases iq hfi hl w with⟨h1,_⟩|⟨j,e',h1,h2,h3⟩
       ·cases h1
       ·cases h1
        obtain⟨e2,h4,h5⟩:=xr hl hst
        rw [h2] at h4
        cases h4
        refine⟨undef,ν,_,Nu.le_refl ν,rfl,qK hs hg hp (tc hl i (f:=λe=>(kv,va,e.2.2)) (g:=λe=>{ e with key:=kv,val:=vv }) λe v _ _=>⟨vv,hvv,rfl⟩) clock,.inr ⟨?_,rfl⟩⟩
        have h6:(Instr.keyThatStays (((l.toArray[i]?).map (·.key)).getD kv) kv).run P w=.ok kv w:=by
         simp [Instr.keyThatStays,h2,h5]
        simp only [Instr.mapUpdate,Sem.run_bind,run_underlying hu,Result.andThen_ok,g1,hck,h3,h6,modify_eq,gA hb,Sem.run_pure]
     ·rename_i hfi
      simp only [Option.some.injEq] at h9
      subst h9
      rcases iq hfi hl w with⟨_,h1⟩|⟨j,e',h1,_,_⟩
      ·refine⟨undef,ν,_,Nu.le_refl ν,rfl,qK hs hg hp (sn hl (es':=[(kv,va,clock)]) (l':=[⟨kv,vv,clock⟩]) (by simp [cX,hvv])) (clock+1),.inr ⟨?_,rfl⟩⟩
       simp only [Instr.mapUpdate,Sem.run_bind,run_underlying hu,Result.andThen_ok,g1,hck,h1,List.push_toArray,gA hb,Sem.run_pure]
      ·cases h1
     ·cases h9
   ·cases h9
  ·cases h9
 ·cases h
theorem uD {n:Nat}:∀ {es:List (Value×AV×Nat)}{l:List MapEntry}{i j:Nat},Bx n es i=some j->cX ν es=some l->i<=j/\l.findIdx? (λe=>((e.born:Int) == (n:Int)))=some (j-i)
 | e::es,l,i,j,h,hl=>by
  simp only [cX] at hl
  split at hl
  ·rename_i v vs hv hvs
   simp only [Option.some.injEq] at hl
   subst hl
   simp only [Bx] at h
   cases hb:Nat.beq e.2.2 n with
   | true =>
    rw [hb] at h
    have:=Nat.eq_of_beq_eq_true hb
    simp only [cond_true,Option.some.injEq] at h
    subst h
    exact⟨Nat.le_refl _,by simp [List.findIdx?_cons,this]⟩
   | false =>
    rw [hb] at h
    have hne:=Nat.ne_of_beq_eq_false hb
    obtain⟨h1,h2⟩:=uD h hvs
    refine⟨za,?_⟩
    rw [List.findIdx?_cons]
    have:((e.2.2:Int) == (n:Int))=false:=by simp only [beq_eq_false_iff_ne,ne_eq];omega
    simp only [this,Bool.false_eq_true,if_false,h2,Option.map_some]
    congr 1
    omega
  ·cases hl
theorem Gn (hf:bP δ ν N S a) (hs:St w0 (Mem ν m::L) w){o:Oper}{t:TypeId}{x st v:Operand}(ho:o.op=.entryStore t x st v){av:AV}(h:N4 m (cC S x) (cC S st) (cC S v)=some (av,m')):Ht P ν w0 L m' (execOp a.eval o) w av:=by
 have hm:=dD hs
 unfold N4 at h
 split at h
 ·rename_i xa ka va hxa hka hva
  obtain⟨h9,e9⟩:=B0 h
  subst e9
  clear h
  obtain⟨xv,hxv,ex⟩:=hf.op hxa
  obtain⟨kv,hkv,ek⟩:=hf.op hka
  obtain⟨vv,hvv,ev⟩:=hf.op hva
  unfold uv at h9
  split at h9
  ·rename_i id k n
   obtain⟨p,hp,rfl⟩:=lH hxv
   simp only [AV.val,Option.some.injEq] at hkv
   subst hkv
   split at h9
   ·rename_i es clock hg
    obtain⟨p',l,hp',hl,hb⟩:=lI hm hg
    rw [hp] at hp'
    cases hp'
    have g1:=iX (P:=P) hb
    split at h9
    ·rename_i i hi
     simp only [Option.some.injEq] at h9
     subst h9
     obtain⟨_,h2⟩:=uD hi hl
     simp only [Nat.sub_zero] at h2
     refine⟨undef,ν,_,Nu.le_refl ν,rfl,qK hs hg hp (tc hl i (f:=λe=>(e.1,va,e.2.2)) (g:=λe=>{ e with val:=vv }) λe v _ _=>⟨vv,hvv,rfl⟩) clock,.inr ⟨?_,rfl⟩⟩
     have h3:l.toArray.findIdx? (λe=>((e.born:Int) == Int.ofNat n))=some i:=by simpa using h2
     generalize a.eval=ρ at ex ek ev ⊢
     simp only [execOp,ho,ex,ek,ev,Instr.entryStore,Sem.run_bind,g1,Result.andThen_ok,asInt,asIntOf,Sem.run_pure,h3,modify_eq,gA hb]
    ·cases h9
   ·cases h9
  ·cases h9
 ·cases h
theorem Gp (hf:bP δ ν N S a) (hs:St w0 (Mem ν m::L) w){o:Oper}{t:TypeId}{x k:Operand}(ho:o.op=.mapEntry t x k){av:AV}(h:N5 P m t (cC S x) (cC S k)=some (av,m')):Ht P ν w0 L m' (execOp a.eval o) w av:=by
 have hm:=dD hs
 unfold N5 at h
 split at h
 ·rename_i xa hxa
  split at h
  ·rename_i ka hka
   obtain⟨xv,hxv,ex⟩:=hf.op hxa
   obtain⟨kv,hkv,ek⟩:=hf.op hka
   have h9:=h
   clear h
   have hexec:execOp a.eval o=(do pure (.value (<- Instr.mapEntry t xv kv))):=by simp [execOp,ho,ex,ek]
   rw [hexec]
   unfold Af at h9
   split at h9
   ·rename_i id k0 kt e hk0 hu
    have hk1:=lF (ν:=ν) hk0
    rw [hkv] at hk1
    cases hk1
    obtain⟨p,hp,rfl⟩:=lH hxv
    split at h9
    ·rename_i es clock ie hg hie
     obtain⟨p',l,hp',hl,hb⟩:=lI hm hg
     rw [hp] at hp'
     cases hp'
     cases hko:qh P false kt kv with
     | false=>rw [hko] at h9;cases h9
     | true =>
      rw [hko] at h9
      simp only [cond_true] at h9
      have hck:=RB hko w
      have g1:=iX (P:=P) hb
      split at h9
      ·rename_i i hfi
       split at h9
       ·rename_i old hold
        cases hst:stays es i kv with
        | false=>rw [hst] at h9;cases h9
        | true =>
         rw [hst] at h9
         simp only [cond_true,Option.some.injEq,Prod.mk.injEq] at h9
         obtain⟨rfl,rfl⟩:=h9
         rcases iq hfi hl w with⟨h1,_⟩|⟨j,e',h1,h2,h3⟩
         ·cases h1
         ·cases h1
          obtain⟨e2,h4,h5⟩:=xr hl hst
          rw [h2] at h4
          cases h4
          obtain⟨u,h6,h7⟩:=(iW hl).2.2 i old hold
          rw [h2] at h7
          cases h7
          refine⟨.tuple #[u,.int .i64 old.2.2],ν,_,Nu.le_refl ν,by simp only [AV.val,bF,h6];rfl,qK hs hg hp (tc hl i (f:=λe=>(kv,e.2.1,e.2.2)) (g:=λe=>{ e with key:=kv }) λe v _ hv=>⟨v,hv,rfl⟩) clock,.inl ?_⟩
          have h8:(Instr.keyThatStays (((l.toArray[i]?).map (·.key)).getD kv) kv).run P w=.ok kv w:=by
           simp [Instr.keyThatStays,h2,h5]
          have h10:((l.toArray[i]?).map (λx=>(x.born:Int))).getD 0=(old.2.2:Int):=by simp [h2]
          simp only [Instr.mapEntry,Sem.run_bind,run_underlying hu,Result.andThen_ok,g1,hck,h3,h8,h10,modify_eq,gA hb,Sem.run_pure,goInt]
       ·cases h9
      ·rename_i z hfi hz
       simp only [Option.some.injEq,Prod.mk.injEq] at h9
       obtain⟨rfl,rfl⟩:=h9
       rcases iq hfi hl w with⟨_,h1⟩|⟨j,e',h1,_,_⟩
       ·refine⟨.tuple #[z,.int .i64 clock],ν,_,Nu.le_refl ν,by simp only [AV.val,bF,il];rfl,qK hs hg hp (sn hl (es':=[(kv,lift z,clock)]) (l':=[⟨kv,z,clock⟩]) (by simp [cX,il])) (clock+1),.inl ?_⟩
        simp only [Instr.mapEntry,Sem.run_bind,run_underlying hu,Result.andThen_ok,g1,hck,h1,zeroValue,typeInfo,run_program,hie,Sem.run_pure,hz,List.push_toArray,gA hb,goInt]
       ·cases h1
      ·cases h9
    ·cases h9
   ·cases h9
  ·cases h
 ·cases h
theorem B1 (hs:St w0 (Mem ν m::L) w){o:Oper}{t:TypeId}{x:Operand}(ho:o.op=.range t x){ρ:Operand->Value}{xa av:AV}(hx:xa.val ν=some (ρ x)) (h:Gf P m t xa=some (av,m')):Ht P ν w0 L m' (execOp ρ o) w av:=by
 have hm:=dD hs
 unfold Gf at h
 split at h
 ·rename_i k e id hu
  obtain⟨p,hp,hv⟩:=lH hx
  split at h
  ·rename_i es clock hg
   simp only [Option.some.injEq,Prod.mk.injEq] at h
   obtain⟨rfl,rfl⟩:=h
   obtain⟨p',l,hp',hl,hb⟩:=lI hm hg
   rw [hp] at hp'
   cases hp'
   have g1:=iX (P:=P) hb
   have hne:id≠m.next:=λe=>by have:=hm.K0 hg;omega
   obtain⟨k1,k2⟩:=St.K1 hs (.iter id clock [] clock) (.mapIter (some p.1) clock #[] clock) 0 ⟨p,by rw [Nu.add,if_neg hne];exact hp,by simp⟩
   refine⟨_,_,_,k2,oT (Nu.bV _ _ _),k1,.inl ?_⟩
   simp only [execOp,ho,Instr.range,hv,Sem.run_bind,run_underlying hu,Result.andThen_ok,g1,Sem.run_pure,newObj]
   simp [Sem.run]
  ·cases h
 ·cases h
theorem D5 (hs:St w0 (Mem ν m::L) w){o:Oper}{str:Bool}{x:Operand}(ho:o.op=.next x str){ρ:Operand->Value}{xa av:AV}(hx:xa.val ν=some (ρ x)) (h:KM m xa str=some (av,m')):Ht P ν w0 L m' (execOp ρ o) w av:=by
 have hm:=dD hs
 unfold KM at h
 split at h
 ·rename_i id
  obtain⟨p,hp,hv⟩:=hH hx
  split at h
  ·rename_i lk since seen last hg
   obtain⟨p',ob,hp',hb,q,hq,rfl⟩:=hm.at_ id _ hg
   rw [hp] at hp'
   cases hp'
   split at h
   ·rename_i es clock hg2
    obtain⟨q',l,hq',hl,hb2⟩:=lI hm hg2
    rw [hq] at hq'
    cases hq'
    have g1:(getObj p.1).run P w=.ok (.mapIter (some q.1) since seen.toArray last) w:=by simp [getObj,Sem.run,hb]
    have g2:=iX (P:=P) hb2
    cases hc:(!seen.isEmpty && !es.isEmpty && es.all λe=>Nat.ble last e.2.2) with
    | true=>rw [hc] at h;cases h
    | false =>
     rw [hc] at h
     simp only [cond_false] at h
     have hc2:(!seen.toArray.isEmpty && !l.toArray.isEmpty && l.toArray.all λe=>decide (e.born >= last))=false:=by
      rw [<- hc]
      have e1:l.isEmpty=es.isEmpty:=by have:=jw hl;cases l<;>cases es<;>simp at this ⊢
      have e2:(l.all λe=>decide (e.born >= last))=es.all λe=>Nat.ble last e.2.2:=by
       have h1:=(iW hl).2.1
       have:∀ (l:List MapEntry) (es:List (Value×AV×Nat)),l.map (·.born)=es.map (·.2.2)->(l.all λe=>decide (e.born >= last))=es.all λe=>Nat.ble last e.2.2:=by
        intro l
        induction l with
        | nil=>intro es h;cases es<;>simp at h ⊢
        | cons x l ih =>
         intro es h
         cases es with
         | nil=>simp at h
         | cons e es =>
          simp only [List.map_cons,List.cons.injEq] at h
          simp only [List.all_cons,ih es h.2,sf,h.1,ge_iff_le]
       exact this l es h1
      simp only [List.isEmpty_toArray,e1]
      congr 1
      simpa using e2
     have hleft:l.toArray.filter (λe=>!seen.toArray.contains e.born)=(l.filter λe=>!seen.contains e.born).toArray:=by simp
     have hv2:=so hl (λn=>!seen.contains n)
     have g3:∀ f:Nat->Sem Next,(Sem.bind (choose (.mapNext 1)) f).run P w=(f 0).run P w:=by
      intro f
      rw [Sem.run_bind']
      simp [choose,Sem.run,Question.forced]
     split at h
     ·rename_i hfl
      simp only [Option.some.injEq,Prod.mk.injEq] at h
      obtain⟨rfl,rfl⟩:=h
      rw [hfl] at hv2
      simp only [cX,Option.some.injEq] at hv2
      refine⟨_,ν,w,Nu.le_refl ν,by simp only [AV.val,bF];rfl,hs,.inl ?_⟩
      simp only [execOp,ho,Instr.next,hv,Sem.run_bind,g1,Result.andThen_ok,g2,hc2,Bool.false_eq_true,if_false,hleft,<- hv2]
      simp [choose,Sem.run,Question.forced]
     ·rename_i e hfl
      cases hlt:Nat.ble (e.2.2+1) since with
      | false=>rw [hlt] at h;cases h
      | true =>
       rw [hlt] at h
       have hlt:=bN hlt
       simp only [cond_true,Option.some.injEq,Prod.mk.injEq] at h
       obtain⟨rfl,rfl⟩:=h
       rw [hfl] at hv2
       simp only [cX] at hv2
       cases hev:e.2.1.val ν with
       | none=>rw [hev] at hv2;cases hv2
       | some u =>
        rw [hev] at hv2
        simp only [Option.some.injEq] at hv2
        refine⟨.tuple #[.bool true,e.1,u],ν,_,Nu.le_refl ν,by simp only [AV.val,bF,il,hev],St.BK hs hg hp (.mapIter (some q.1) since (seen++[e.2.2]).toArray clock) ⟨q,hq,rfl⟩,.inl ?_⟩
        have e1:e.2.2<since:=za
        have e2:¬ (since<=e.2.2):=za
        have g4:(setObj p.1 (.mapIter (some q.1) since (seen.toArray.push e.2.2) clock)).run P w=.ok () { w with heap:=w.heap.setIfInBounds p.1 (.mapIter (some q.1) since (seen++[e.2.2]).toArray clock) }:=by
         simp [setObj,Sem.run,hb]
        simp only [execOp,ho,Instr.next,hv,Sem.run_bind,g1,Result.andThen_ok,g2,hc2,Bool.false_eq_true,if_false,hleft,<- hv2]
        simp [choose,Sem.run,Question.forced,e1,e2,Sem.run_bind,g4,List.push_toArray]
        simp [setObj,Sem.run,hb]
     ·cases h
   ·cases h
  ·cases h
 ·cases h
end
end Go.Ev
