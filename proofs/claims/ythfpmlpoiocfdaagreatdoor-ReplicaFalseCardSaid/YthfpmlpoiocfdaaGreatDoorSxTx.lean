/-
  Several texts in one: SxAA, SxA, SxB, SxB2, SxC, SxD, SxE.
-/
import Derived.KernelRfl
import Derived.OrdersHeld
import Derived.OrdersIn
import Derived.RangeFuncRecord
import Derived.RangeFuncLeaves
import Derived.Below
import Derived.WalkKit
namespace Go.Sx
theorem zo {p:Prop}(h:p:=by first|omega|(simp only [List.length_set];omega)|(simp only [List.length_set,List.length_append,List.length_cons,List.length_nil];omega)):p:=h
theorem zk {p:Prop}(h:p:=by kernel_rfl):p:=h
theorem za {p:Prop}(h:p:=by omega):p:=h
theorem zc {p:Prop}(h:p:=by first|assumption|omega):p:=h
theorem zb {p:Prop}(h:p:=by decide):p:=h
theorem zi {p:Prop}(h:p:=by first|omega|(simp only [List.length_append,List.length_cons,List.length_nil];omega)):p:=h
theorem zm {p:Prop}(h:p:=by first|omega|(simp only [List.length_set];omega)):p:=h
theorem zf {p:Prop}(h:p:=by simp only [List.length_cons,List.length_nil,maxLen];omega):p:=h
theorem zt {p:Prop}(h:p:=by simp only [List.length_append,List.length_cons,List.length_nil,List.length_map] at *;omega):p:=h
theorem zu {p:Prop}(h:p:=by first|omega|(dsimp only;omega)):p:=h
theorem zw {p:Prop}(h:p:=by simp):p:=h
theorem zx {p:Prop}(h:p:=by dsimp only;omega):p:=h
theorem zy {p:Prop}(h:p:=by first|omega|(simp only [List.length_append,List.length_nil];omega)):p:=h
theorem zB {p:Prop}(h:p:=by simp only [List.length_take,List.length_replicate];omega):p:=h
theorem zC {p:Prop}(h:p:=by simp only [List.length_nil,List.length_cons,List.length_append] at *;omega):p:=h
theorem zE {p:Prop}(h:p:=by simp only [List.length_take,List.length_drop]<;>omega):p:=h
theorem zF {p:Prop}(h:p:=by first|assumption|omega|decide):p:=h
theorem zG {p:Prop}(h:p:=by simp only [List.length_cons,List.length_nil];omega):p:=h
theorem zH {p:Prop}(h:p:=by simp only [maxLen];omega):p:=h
theorem zJ {p:Prop}(h:p:=by simp only [List.length_append,List.length_cons,List.length_nil];omega):p:=h
theorem zK {p:Prop}(h:p:=by rw [List.length_take];omega):p:=h
theorem zM {p:Prop}(h:p:=by rw [List.length_drop];omega):p:=h
theorem zN {p:Prop}(h:p:=by first|omega|(exact Nat.le_of_ble_eq_true rfl)):p:=h
theorem zO {p:Prop}(h:p:=by simp;omega):p:=h
end Go.Sx
namespace Go.Sx
set_option linter.unusedVariables false
set_option linter.unusedSimpArgs false
section
variable {P : Program} {ops : Array Oper} {Q : Exit -> Act -> World -> Prop}
inductive PT where
 | done
 | rd (i:Nat) (t:PT)
 | ef (i:Nat) (t:PT)
 | alt (s t:PT)
abbrev Reads:=List (Nat×(World->Prop))
def Cw (M:List Nat) (x i:Nat):Bool:=(M.getD i 0).testBit x
def AJ (o:Oper):List Nat:=(o.after.toList.filter (Region.binds .any ·)).map (·.on)
theorem tS {o:Oper}{j:Nat}:j∈AJ o↔∃ e∈o.after,Region.binds .any e=true/\e.on=j:=by
 simp [AJ,and_assoc]
def nD (ops:Array Oper) (i:Nat):List Nat:=((ops[i]?).map AJ).getD []
def mP (ops:Array Oper) (M:List Nat):Bool :=
 (List.range ops.size).all λi=>(nD ops i).all (λe=>decide (e<i)) &&
  (List.range ops.size).all λx=>!(Cw M x i) || (nD ops i).any λe=>e == x || Cw M x e
def AK (ops:Array Oper) (x y:Nat):Bool :=
 match ops[x]?,ops[y]? with
 | some ox,some oy=>ox.apart ops oy
 | _,_=>false
def Cx (L j:Nat):Bool:=L.testBit j
def qV (L i:Nat):Nat:=L ||| (1 <<< i)
theorem qW (L i j:Nat):Cx (qV L i) j=(Cx L j || decide (i=j)):=by
 simp only [Cx,qV,Nat.testBit_or,Nat.one_shiftLeft,Nat.testBit_two_pow]
theorem HZ (L i j:Nat):qV (qV L i) j=qV (qV L j) i:=by
 simp only [qV,Nat.or_assoc]
 rw [Nat.or_comm (1 <<< i)]
def ld (ops:Array Oper) (L j:Nat):Bool:=!Cx L j && (nD ops j).all (Cx L)
def PT.yE:PT->List Nat
 | .ef i _=>[i]
 | .alt s t=>s.yE++t.yE
 | _=>[]
def PT.depth:PT->Nat
 | .done=>0
 | .rd _ t=>t.depth+1
 | .ef _ t=>t.depth+1
 | .alt s _=>s.depth
def PT.idxs:PT->List Nat
 | .done=>[]
 | .rd i t=>i::t.idxs
 | .ef i t=>i::t.idxs
 | .alt s _=>s.idxs
def vi (ops:Array Oper) (M:List Nat):PT->List Nat->Nat->Bool
 | .done,_,L=>(List.range ops.size).all (Cx L)
 | .rd i t,_,L=>decide (i<ops.size) && ld ops L i && (List.range ops.size).all (λj=>Cx L j || j == i || Cw M i j || AK ops i j) && vi ops M t [] (qV L i)
 | .ef i t,off,L=>decide (i<ops.size) && ld ops L i && (List.range ops.size).all (λj=>!ld ops L j || j == i || off.contains j) && vi ops M t [] (qV L i)
 | .alt s t,off,L=>s.depth == t.depth && vi ops M s (off++t.yE) L && vi ops M t (off++s.yE) L
def qj (ops:Array Oper) (M:List Nat) (p:PT):Bool :=
 Region.noSelect ops && mP ops M && vi ops M p [] 0 && p.depth == ops.size
def yF (ops:Array Oper) (L:Nat):Prop:=∀ j,j<ops.size->Cx L j=true->∀ e∈nD ops j,Cx L e=true
theorem yG (l:Array Bool) (j:Nat) (h:j<l.size) (d:Bool):l.getD j d=l.getD j true:=by
 simp [Array.getD,h]
theorem CC {M:List Nat}(hM:mP ops M=true){i:Nat}(hi:i<ops.size):∀ e∈nD ops i,e<i:=by
 simp only [mP,List.all_eq_true,List.mem_range,Bool.and_eq_true,decide_eq_true_eq] at hM
 exact(hM i hi).1
theorem EZ {M:List Nat}(hM:mP ops M=true){L:Nat}(hd:yF ops L)
 {x:Nat}(hx:x<ops.size):∀ i,i<ops.size->(∀ e∈nD ops i,Cx L e=true)->Cw M x i=true->Cx L x=true:=by
 intro i
 induction i using Nat.strongRecOn with
 | _ i ih =>
  intro hi hp ha
  have hlt:=CC hM hi
  have hM':=hM
  simp only [mP,List.all_eq_true,List.mem_range,Bool.and_eq_true,decide_eq_true_eq] at hM'
  have h1:=(hM' i hi).2 x hx
  rw [ha] at h1
  simp only [Bool.not_true,Bool.false_or,List.any_eq_true,Bool.or_eq_true,beq_iff_eq] at h1
  obtain⟨e,he,h|h⟩:=h1
  ·exact h▸hp e he
  ·have hei:=hlt e he
   exact ih e hei za (hd e za (hp e he)) h
theorem gC {L j:Nat}:ld ops L j=true↔Cx L j=false/\∀ e∈nD ops j,Cx L e=true:=by
 simp [ld]
theorem vj {L i j:Nat}(h:ld ops L j=true) (hne:i≠j):ld ops (qV L i) j=true:=by
 rw [gC] at h ⊢
 refine⟨by rw [qW,h.1];simpa using hne,λe he=>by rw [qW,h.2 e he];rfl⟩
theorem yF.add {L i:Nat}(hd:yF ops L) (h:ld ops L i=true):yF ops (qV L i):=by
 intro j hj hl e he
 rw [qW] at hl ⊢
 rw [gC] at h
 by_cases hij:i=j
 ·subst hij;rw [h.2 e he];rfl
 ·rw [hd j hj (by simpa [hij] using hl) e he];rfl
theorem PT.vk {M:List Nat}{L:Nat}:∀ (t:PT) (off:List Nat),vi ops M t off L=true->t.depth≠0->∃ s,s<ops.size/\ld ops L s=true
 | .done,_,_,h=>absurd rfl h
 | .rd i t,_,hc,_=>by
  simp only [vi,Bool.and_eq_true,decide_eq_true_eq] at hc
  exact⟨i,hc.1.1.1,hc.1.1.2⟩
 | .ef i t,_,hc,_=>by
  simp only [vi,Bool.and_eq_true,decide_eq_true_eq] at hc
  exact⟨i,hc.1.1.1,hc.1.1.2⟩
 | .alt x y,_,hc,h=>by
  simp only [vi,Bool.and_eq_true] at hc
  exact PT.vk x _ hc.1.2 h
end
def cS (r:Option Nat):Fence:={ Fence.wide with round:=r }
section
variable {P : Program} {r : Option Nat} {n : Nat}
theorem gQ {f:FuncId}{args:Array Value}{w:World}{R:Ending->World->Prop}:CallsIn (cS r) n P f args w R↔Calls P f args w R :=
 (Iff.rfl:CallsIn (cS r) n P f args w R↔CallsIn Fence.wide n P f args w R).trans callsIn_wide
theorem AL {row:String}{args:Array Value}{w:World}{R:Value->World->Prop}(h:Rows P row args w R):RowsIn (cS r) n P row args w R :=
 λc cs _=>let ⟨v,w',q,s⟩:=h c cs;⟨v,w',q,stepsIn_wide.2 s⟩
theorem Oper.mQ {o:Oper}{a:Act}{w:World}{K:Act->World->Prop}{Q:Exit->Act->World->Prop}(hd:∀ c,o.op≠.defer c) (h:o.wp P a w K Q):o.wpIn (cS r) n P a w K Q:=by
 refine⟨λ_ _=>trivial,?_⟩
 rw [Oper.semAt_eq _ _ _ hd]
 unfold Oper.wp at h
 generalize (execOp a.eval o).run P w=x at *
 cases x with
 | ok x w' =>
  cases x<;>simp only [Oper.upon] at h<;>simp only [Oper.uponIn]
  case value=>exact h
  case skip=>exact h
  case defer=>exact h
  case enter f args =>
   refine⟨λh=>by simp [cS,Fence.wide] at h,gQ.2 ?_⟩
   refine Calls.mono h λe w'' he=>?_
   cases e<;>exact he
  case row=>exact⟨λh=>by simp [cS,Fence.wide] at h,AL h⟩
 | halt x w' =>
  cases x<;>simp only [Oper.upon] at h<;>simp only [Oper.uponIn]
  case panic=>exact h
section
variable {ops : Array Oper} {Q : Exit -> Act -> World -> Prop}
abbrev jS (r:Option Nat) (P:Program) (ops:Array Oper) (Q:Exit->Act->World->Prop) (i:Nat) (K:Act->World->Prop) (a:Act) (w:World):Prop:=wpOpIn (cS r) 0 P ops Q i K a w
def bZ (r:Option Nat) (P:Program) (ops:Array Oper) (M:List Nat) (Q:Exit->Act->World->Prop):Reads->PT->Act->World->Prop
 | _,.done,a,w=>Q .normal a w
 | D,.rd i p,a,w=>∃ (o:Oper) (v:Value) (R:World->Prop),ops[i]?=some o/\YieldsIf P ops R o v a/\R w/\bZ r P ops M Q ((i,R)::D) p (a.put o.dst v) w
 | D,.ef i p,a,w=>jS r P ops Q i (λa' w'=>(∀ x∈D,Cw M x.1 i=false->x.2 w')/\bZ r P ops M Q D p a' w') a w
 | D,.alt s t,a,w=>bZ r P ops M Q D s a w/\bZ r P ops M Q D t a w
theorem bZ.ef {M:List Nat}{D:Reads}{i:Nat}{p:PT}{a:Act}{w:World}(h:jS r P ops Q i (λa' w'=>(∀ x∈D,Cw M x.1 i=false->x.2 w')/\bZ r P ops M Q D p a' w') a w):bZ r P ops M Q D (.ef i p) a w:=h
theorem bZ.mono {M:List Nat}:∀ (p:PT) (D D':Reads) (a:Act) (w:World),(∀ x∈D',x∈D)->bZ r P ops M Q D p a w->bZ r P ops M Q D' p a w
 | .done,_,_,_,_,_,h=>h
 | .rd i p,D,D',a,w,hs,h=>by
  obtain⟨o,v,R,ho,hy,hR,hp⟩:=h
  refine⟨o,v,R,ho,hy,hR,bZ.mono p _ _ _ _ ?_ hp⟩
  intro x hx
  rcases List.mem_cons.1 hx with h|h
  ·exact List.mem_cons.2 (.inl h)
  ·exact List.mem_cons.2 (.inr (hs x h))
 | .ef i p,D,D',a,w,hs,h=>by
  change jS r P ops Q i (λa' w'=>(∀ x∈D,Cw M x.1 i=false->x.2 w')/\bZ r P ops M Q D p a' w') a w at h
  show jS r P ops Q i (λa' w'=>(∀ x∈D',Cw M x.1 i=false->x.2 w')/\bZ r P ops M Q D' p a' w') a w
  exact wpOpIn_mono (λa' w' h'=>⟨λx hx=>h'.1 x (hs x hx),bZ.mono p _ _ _ _ hs h'.2⟩) h
 | .alt s t,D,D',a,w,hs,h=>⟨bZ.mono s _ _ _ _ hs h.1,bZ.mono t _ _ _ _ hs h.2⟩
theorem pk {ρ:Operand->Value}{o:Oper}{c:Call}{x:Next}{w w':World}(hc:o.op=.defer c) (h:(execOp ρ o).run P w=.ok x w'):∃ d,x=.defer d:=by
 unfold execOp at h
 rw [hc] at h
 simp only [Sem.run_bind] at h
 cases hr:(resolve ρ c o.type).run P w with
 | ok d w1=>rw [hr] at h;simp [Result.andThen,Sem.run_pure] at h;exact⟨_,h.1.symm⟩
 | halt x w1=>rw [hr] at h;simp [Result.andThen] at h
theorem vm {i:Nat}{o:Oper}{a:Act}{w:World}{K:Act->World->Prop}(hi:ops[i]?=some o) (hw:Region.wanted o (yielded ops a.tmps)=true) (hd:∀ c,o.op≠.defer c) (h:o.wp P a w K Q):jS r P ops Q i K a w:=by
 show wpOpIn (cS r) 0 P ops Q i K a w
 unfold wpOpIn
 simp only [hi,hw,if_true]
 exact Oper.mQ hd h
theorem yH {i:Nat}{o:Oper}{a:Act}{w:World}{K:Act->World->Prop}(hi:ops[i]?=some o) (hw:Region.wanted o (yielded ops a.tmps)=false) (h:K (a.put o.dst undef) w):jS r P ops Q i K a w:=by
 show wpOpIn (cS r) 0 P ops Q i K a w
 unfold wpOpIn
 simp only [hi,hw,Bool.false_eq_true,if_false];exact⟨λ_ _=>trivial,h⟩
theorem YieldsIf.jS {S:World->Prop}{i:Nat}{o:Oper}{v:Value}{a:Act}(hi:ops[i]?=some o) (hy:YieldsIf P ops S o v a)
 {K:Act->World->Prop}{w:World}(hS:S w) (h:K (a.put o.dst v) w):jS r P ops Q i K a w:=by
 rcases hy with⟨hw,hv⟩|⟨hw,rfl⟩
 ·refine vm hi hw (λc hc=>?_) ?_
  ·obtain⟨d,hd⟩:=pk hc (hv w hS);cases hd
  ·unfold Oper.wp
   rw [hv w hS]
   exact h
 ·exact yH hi hw h
theorem H2 {ro:Option Nat}(o:Oper) (hs:∀ cs b,o.op≠.select cs b) (a:Act) (dst:Option Tmp) (v:Value) (h:∀ d,dst=some d->d ∉ o.looksAt ops):Oper.semAt ro (a.put dst v).eval o=Oper.semAt ro a.eval o:=by
 cases ro with
 | none=>exact execOp_put o hs a dst v h
 | some l =>
  by_cases hd:∃ c,o.op=.defer c
  ·obtain⟨c,hc⟩:=hd
   have e:resolve (a.put dst v).eval c o.type=resolve a.eval c o.type:=resolve_congr c o.type λx hx=>Act.eval_put λd hd hxd=>h d hd (by
    subst hxd
    exact List.mem_append_left _ (List.mem_filterMap.2 ⟨.tmp d,by rw [hc];simpa [Op.operands] using hx,rfl⟩))
   unfold Oper.semAt
   simp only [hc,e]
  ·have hd':∀ c,o.op≠.defer c:=λc hc=>hd ⟨c,hc⟩
   rw [Oper.semAt_eq _ _ _ hd',Oper.semAt_eq _ _ _ hd']
   exact execOp_put o hs a dst v h
theorem CD {S:World->Prop}{j:Nat}{oi oj:Oper}{v:Value}(hj:ops[j]?=some oj) (hap:oi.apart ops oj=true)
 (hsi:∀ cs b,oi.op≠.select cs b) (hsj:∀ cs b,oj.op≠.select cs b)
 (hQ:∀ c a w,Q (.panic c) (a.put oi.dst v) w->Q (.panic c) a w){K:Act->World->Prop}{a:Act}{w:World}
 (hy:YieldsIf P ops S oi v a) (h:jS r P ops Q j K (a.put oi.dst v) w) :
 jS r P ops Q j (λa' w'=>YieldsIf P ops S oi v a'/\K (a'.put oi.dst v) w') a w:=by
 obtain⟨h1,h2,h3⟩:=Oper.apart_spec hap
 have keep:∀ (a:Act),YieldsIf P ops S oi v a->∀ u,YieldsIf P ops S oi v (a.put oj.dst u):=λa hy u =>
  hy.of_same (execOp_put oi hsi a oj.dst u h3) (wanted_put oi a oj.dst u h3)
 have keepD:∀ d,YieldsIf P ops S oi v { a with defers:=d::a.defers }:=λd=>hy.of_same rfl rfl
 change wpOpIn (cS r) 0 P ops Q j K (a.put oi.dst v) w at h
 show wpOpIn (cS r) 0 P ops Q j (λa' w'=>YieldsIf P ops S oi v a'/\K (a'.put oi.dst v) w') a w
 unfold wpOpIn at *
 simp only [hj] at *
 rw [wanted_put oj a oi.dst v h1] at h
 split
 ·rename_i hw
  simp only [hw,if_true] at h
  unfold Oper.wpIn at *
  refine⟨λ_ _=>trivial,?_⟩
  have h:=h.2
  rw [H2 oj hsj a oi.dst v h1] at h
  generalize (oj.semAt (cS r).round a.eval).run P w=x at *
  cases x with
  | ok x w' =>
   cases x<;>simp only [Oper.uponIn] at h ⊢
   case value u=>exact⟨keep a hy u,by rw [<- Act.put_comm a v u h2];exact h⟩
   case skip=>exact⟨keep a hy _,by rw [<- Act.put_comm a v undef h2];exact h⟩
   case defer d =>
    refine⟨keep _ (keepD d) _,?_⟩
    rw [<- Act.put_comm _ v undef h2,<- Act.put_defers]
    exact h
   case enter f args =>
    refine⟨h.1,CallsIn.mono h.2 λe w'' he=>?_⟩
    cases e with
    | returned u=>exact⟨keep a hy u,by rw [<- Act.put_comm a v u h2];exact he⟩
    | panicked c=>exact hQ _ _ _ he
    | outgrown=>exact he
   case row row args=>exact⟨h.1,RowsIn.mono h.2 λu w'' he=>⟨keep a hy u,by rw [<- Act.put_comm a v u h2];exact he⟩⟩
   case round l f tmps assign body =>
    refine⟨h.1,RoundIn.mono h.2 λe w'' he=>?_⟩
    cases e with
    | returned u=>exact⟨keep a hy u,by rw [<- Act.put_comm a v u h2];exact he⟩
    | panicked c=>exact hQ _ _ _ he
    | outgrown=>exact he
  | halt x w' =>
   cases x<;>simp only [Oper.uponIn] at h ⊢
   case panic u=>exact hQ _ _ _ h
 ·rename_i hw
  simp only [hw] at h
  exact⟨λ_ _=>trivial,keep a hy _,by rw [<- Act.put_comm a v undef h2];exact h.2⟩
def sy (r:Option Nat) (P:Program) (ops:Array Oper) (M:List Nat) (Q:Exit->Act->World->Prop) (D:Reads) (t:PT) (L s:Nat) (a:Act) (w:World):Prop :=
 ∃ t',vi ops M t' [] (qV L s)=true/\t.depth=t'.depth+1/\jS r P ops Q s (λa' w'=>(∀ y∈D,Cw M y.1 s=false->y.2 w')/\bZ r P ops M Q D t' a' w') a w
theorem sy.head {M:List Nat}{D:Reads}{L s:Nat}{a:Act}{w:World}:∀ (t:PT) (off:List Nat),s∈t.yE->vi ops M t off L=true->bZ r P ops M Q D t a w->sy r P ops M Q D t L s a w
 | .done,_,h,_,_=>by cases h
 | .rd _ _,_,h,_,_=>by cases h
 | .ef i t,off,h,hc,hp=>by
  simp only [PT.yE,List.mem_singleton] at h
  subst h
  simp only [vi,Bool.and_eq_true] at hc
  exact⟨t,hc.2,rfl,hp⟩
 | .alt x y,off,h,hc,hp=>by
  simp only [vi,Bool.and_eq_true,beq_iff_eq] at hc
  rcases List.mem_append.1 h with h|h
  ·obtain⟨t',h1,h2,h3⟩:=sy.head x _ h hc.1.2 hp.1
   exact⟨t',h1,h2,h3⟩
  ·obtain⟨t',h1,h2,h3⟩:=sy.head y _ h hc.2 hp.2
   exact⟨t',h1,hc.1.1.trans h2,h3⟩
theorem bZ.move {M:List Nat}(hQ:∀ c a w,¬ Q (.panic c) a w) (hsel:Region.noSelect ops=true) (hM:mP ops M=true){s:Nat}(hs:s<ops.size) :
 ∀ (t:PT) (off:List Nat) (L:Nat) (D:Reads) (a:Act) (w:World),vi ops M t off L=true->yF ops L->ld ops L s=true->(∀ y∈D,y.2 w)->bZ r P ops M Q D t a w ->
  s∈off\/sy r P ops M Q D t L s a w:=by
 intro t
 induction t with
 | done =>
  intro off L D a w hc hd hr _ _
  simp only [vi,List.all_eq_true,List.mem_range] at hc
  have:=hc s hs
  rw [(gC.1 hr).1] at this
  cases this
 | ef i t ih =>
  intro off L D a w hc hd hr _ hp
  simp only [vi,Bool.and_eq_true,List.all_eq_true,List.mem_range,Bool.or_eq_true,Bool.not_eq_true',beq_iff_eq,List.contains_eq_mem,decide_eq_true_eq] at hc
  rcases hc.1.2 s hs with(h|h)|h
  ·rw [hr] at h;cases h
  ·subst h;exact .inr ⟨t,hc.2,rfl,hp⟩
  ·exact .inl h
 | alt x y ihx ihy =>
  intro off L D a w hc hd hr hD hp
  have hc':=hc
  simp only [vi,Bool.and_eq_true,beq_iff_eq] at hc
  rcases ihx _ L D a w hc.1.2 hd hr hD hp.1 with h|h
  ·rcases List.mem_append.1 h with h|h
   ·exact .inl h
   ·exact .inr (sy.head (.alt x y) off (List.mem_append.2 (.inr h)) hc' hp)
  ·obtain⟨t',h1,h2,h3⟩:=h
   exact .inr ⟨t',h1,h2,h3⟩
 | rd x t ih =>
  intro off L D a w hc hd hr hD hp
  simp only [vi,Bool.and_eq_true,List.all_eq_true,List.mem_range,Bool.or_eq_true,beq_iff_eq,decide_eq_true_eq] at hc
  obtain⟨⟨⟨hxl,hxr⟩,hall⟩,hct⟩:=hc
  obtain⟨ox,vx,Rx,hox,hyx,hRx,hp⟩:=hp
  by_cases hxs:x=s
  ·subst hxs
   refine .inr ⟨t,hct,rfl,YieldsIf.jS hox hyx hRx ⟨λy hy _=>hD y hy,bZ.mono _ _ _ _ _ (λz hz=>List.mem_cons.2 (.inr hz)) hp⟩⟩
  ·right
   have hsL:=(gC.1 hr).1
   have han:Cw M x s=false:=by
    cases ha:Cw M x s with
    | false=>rfl
    | true =>
     have:=EZ hM hd hxl s hs (gC.1 hr).2 ha
     rw [(gC.1 hxr).1] at this
     cases this
   have hap:AK ops x s=true:=by
    rcases hall s hs with((h|h)|h)|h
    ·rw [hsL] at h;cases h
    ·exact absurd h.symm hxs
    ·rw [han] at h;cases h
    ·exact h
   have h1:=ih [] (qV L x) ((x,Rx)::D) (a.put ox.dst vx) w hct (hd.add hxr) (vj hr hxs) (λy hy=>by
    rcases List.mem_cons.1 hy with rfl|hy
    ·exact hRx
    ·exact hD y hy) hp
   rcases h1 with h1|⟨t',hc1,hdp,h1⟩
   ·cases h1
   refine⟨.rd x t',?_,by simp [PT.depth,hdp],?_⟩
   ·simp only [vi,Bool.and_eq_true,List.all_eq_true,List.mem_range,Bool.or_eq_true,beq_iff_eq,decide_eq_true_eq]
    refine⟨⟨⟨hxl,vj hxr (λh=>hxs h.symm)⟩,λj hj=>?_⟩,by rw [HZ];exact hc1⟩
    rcases hall j hj with((h|h)|h)|h
    ·exact .inl (.inl (.inl (by rw [qW,h];rfl)))
    ·exact .inl (.inl (.inr h))
    ·exact .inl (.inr h)
    ·exact .inr h
   ·simp only [AK,hox] at hap
    cases hj:ops[s]? with
    | none=>rw [hj] at hap;cases hap
    | some oj =>
     rw [hj] at hap
     have h2:=CD (S:=Rx) hj hap (Region.noSelect_spec hsel x ox · · hox) (Region.noSelect_spec hsel s oj · · hj) (λc a w hq=>absurd hq (hQ c _ w)) hyx h1
     refine wpOpIn_mono (λa' w' h3=>?_) h2
     obtain⟨hyx',h4,h5⟩:=h3
     exact⟨λy hy=>h4 y (List.mem_cons.2 (.inr hy)),ox,vx,Rx,hox,hyx',h4 (x,Rx) (List.mem_cons_self ..) han,h5⟩
theorem PT.yI {M:List Nat}{L:Nat}:∀ (t:PT) (off:List Nat) (D:Reads) (a:Act) (w:World),vi ops M t off L=true->t.depth=0->bZ r P ops M Q D t a w->(∀ j,j<ops.size->Cx L j=true)/\Q .normal a w
 | .done,_,_,_,_,hc,_,hp=>by
  simp only [vi,List.all_eq_true,List.mem_range] at hc
  exact⟨hc,hp⟩
 | .rd i t,_,_,_,_,_,h,_=>by simp [PT.depth] at h
 | .ef i t,_,_,_,_,_,h,_=>by simp [PT.depth] at h
 | .alt x y,_,D,a,w,hc,h,hp=>by
  simp only [vi,Bool.and_eq_true] at hc
  exact PT.yI x _ D a w hc.1.2 h hp.1
theorem bZ.sound {M:List Nat}(hQ:∀ c a w,¬ Q (.panic c) a w) (hsel:Region.noSelect ops=true) (hM:mP ops M=true) :
 ∀ (n:Nat) (t:PT) (listed:Array Bool) (L:Nat) (a:Act) (w:World),t.depth=n->listed.size=ops.size->(∀ j,j<ops.size->listed.getD j true=Cx L j)->yF ops L->vi ops M t [] L=true ->
  bZ r P ops M Q [] t a w->wpAnyIn (cS r) 0 P .any ops Q n listed a w:=by
 have fS:∀ i,i<ops.size->∀ e∈nD ops i,e<ops.size:=λi hi e he=>Nat.lt_trans (CC hM hi e he) hi
 have key:∀ (listed:Array Bool) (L j:Nat),listed.size=ops.size->(∀ j,j<ops.size->listed.getD j true=Cx L j)->(j∈Region.ready .any ops listed↔j<ops.size/\ld ops L j=true):=by
  intro listed L j hsz hl
  constructor
  ·intro h
   obtain⟨h1,o,ho,h2⟩:=mem_ready.1 h
   have hj:=(Array.getElem?_eq_some_iff.1 ho).1
   refine⟨hj,gC.2 ⟨by rw [<- hl j hj];exact h1,λe he=>?_⟩⟩
   have hel:=fS j hj e he
   rw [<- hl e hel]
   simp only [nD,ho,Option.map_some,Option.getD_some] at he
   obtain⟨e',hm,hb,rfl⟩:=tS.1 he
   rw [<- yG listed _ za false]
   exact h2 e' hm hb
  ·rintro⟨hj,hr⟩
   obtain⟨h1,h2⟩:=gC.1 hr
   refine mem_ready.2 ⟨by rw [hl j hj];exact h1,ops[j],Array.getElem?_eq_getElem hj,λe he hb=>?_⟩
   have hm:e.on∈nD ops j:=by
    simp only [nD,Array.getElem?_eq_getElem hj,Option.map_some,Option.getD_some]
    exact tS.2 ⟨e,he,hb,rfl⟩
   have hel:=fS j hj _ hm
   rw [yG listed _ za false,hl _ hel]
   exact h2 _ hm
 intro n
 induction n with
 | zero =>
  intro t listed L a w hn hsz hl hd hc h
  obtain⟨h1,h2⟩:=PT.yI t [] [] a w hc hn h
  refine⟨List.eq_nil_iff_forall_not_mem.2 λj hj=>?_,h2⟩
  obtain⟨hj1,hj2⟩:=(key listed L j hsz hl).1 hj
  have:=h1 j hj1
  rw [(gC.1 hj2).1] at this
  cases this
 | succ n ih =>
  intro t listed L a w hn hsz hl hd hc h
  refine⟨λhr=>?_,λi hi=>?_⟩
  ·obtain⟨s,hs1,hs2⟩:=PT.vk t [] hc za
   have:=(key listed L s hsz hl).2 ⟨hs1,hs2⟩
   rw [hr] at this
   cases this
  ·obtain⟨hi1,hi2⟩:=(key listed L i hsz hl).1 hi
   rcases bZ.move hQ hsel hM hi1 t [] L [] a w hc hd hi2 (λy hy=>by cases hy) h with h|⟨t',h1,h2,h3⟩
   ·cases h
   ·refine wpOpIn_mono (λa' w' h4=>ih t' _ (qV L i) a' w' za (by simpa using hsz) (λj hj=>?_) (hd.add hi2) h1 h4.2) h3
    rw [qW]
    by_cases hij:i=j
    ·subst hij;simp [Array.getD,hsz,hj]
    ·rw [getD_set_ne true hij,hl j hj];simp [hij]
theorem kp {id:Nat}{a:Act}{w:World}(M:List Nat) (p:PT) (hm:P.follows .mixedOrders=true) (hok:qj ops M p=true)
 (hQ:∀ c a w,¬ Q (.panic c) a w) (h:bZ r P ops M Q [] p a { w with drawn:=w.drawn+1 }):(Code.region id ops true).wpIn (cS r) 0 P Q a w:=by
 refine wpIn_region_any hm ?_
 simp only [qj,Bool.and_eq_true,beq_iff_eq] at hok
 obtain⟨⟨⟨h0,h1⟩,h2⟩,h3⟩:=hok
 exact bZ.sound hQ h0 h1 ops.size p _ 0 a _ h3 zw (λj hj=>by simp [Array.getD,hj,Cx]) (λj hj hl=>by simp [Cx] at hl) h2 h
theorem bZ.GC {M:List Nat}:∀ (p:PT) (D:Reads) (a:Act) (w:World),bZ r P ops M Q D p a w->wpOpsIn (cS r) 0 P ops Q p.idxs a w
 | .done,_,_,_,h=>h
 | .rd i p,D,a,w,h=>by
  obtain⟨o,v,R,ho,hy,hR,hp⟩:=h
  rw [PT.idxs,wpOpsIn_cons]
  exact YieldsIf.jS ho hy hR (bZ.GC p _ _ _ hp)
 | .ef i p,D,a,w,h=>by
  rw [PT.idxs,wpOpsIn_cons]
  change jS r P ops Q i (λa' w'=>(∀ x∈D,Cw M x.1 i=false->x.2 w')/\bZ r P ops M Q D p a' w') a w at h
  exact wpOpIn_mono (λa' w' h'=>bZ.GC p _ _ _ h'.2) h
 | .alt s t,D,a,w,h=>bZ.GC s D a w h.1
theorem uM {id:Nat}{a:Act}{w:World}{M:List Nat}(p:PT) (hp:p.idxs=List.range ops.size) (h:bZ r P ops M Q [] p a w):(Code.region id ops false).wpIn (cS r) 0 P Q a w :=
 wpIn_region (by rw [<- hp];exact bZ.GC p _ _ _ h)
end
end
end Go.Sx
namespace Go.Sx
open Go.RowKit
set_option linter.unusedVariables false
set_option linter.unusedSimpArgs false
abbrev Env:=List (Nat×Value)
structure Fr where
 n:Nat
 δ:List Deferred
 r:Option Nat
instance:Coe Fr Nat:=⟨Fr.n⟩
structure Fits (N:Fr) (S:Env) (a:Act):Prop where
 defers:a.defers=N.δ
 size:a.tmps.size=N.n
 at_:∀ p∈S,a.tmps.getD p.1 undef=p.2
namespace Env
def get (S:Env) (n:Nat):Option Value:=(S.find? (λp=>p.1 == n)).map (·.2)
def set (S:Env) (d:Nat) (v:Value):Env:=(d,v)::S.filter (λp=>p.1 != d)
def dO (S:Env) (d:Option Tmp) (v:Value):Env:=match d with|some d=>S.set d v|none=>S
def pick (S:Env) (ks:List Nat):Env:=ks.filterMap λk=>(S.get k).map λv=>(k,v)
def op (S:Env):Operand->Option Value
 | .tmp t=>S.get t
 | .const v=>some v
 | .global g=>some (.pointer (some ⟨g,0,none⟩))
 | .func f=>some (.func (.func f) #[] #[])
def ops (S:Env):List Operand->Option (List Value)
 | []=>some []
 | x::l=>match S.op x,S.ops l with
  | some v,some vs=>some (v::vs)
  | _,_=>none
end Env
theorem Fits.get {N:Fr}{S:Env}{a:Act}(h:Fits N S a){n:Nat}{v:Value}(hg:S.get n=some v):a.tmps.getD n undef=v:=by
 unfold Env.get at hg
 cases hf:S.find? (λp=>p.1 == n) with
 | none=>rw [hf] at hg;cases hg
 | some p =>
  rw [hf] at hg
  simp only [Option.map_some,Option.some.injEq] at hg
  have h1:=h.at_ p (List.mem_of_find?_eq_some hf)
  have h2:=List.find?_some hf
  simp only [beq_iff_eq] at h2
  rw [<- h2,<- hg]
  exact h1
theorem Fits.op {N:Fr}{S:Env}{a:Act}(h:Fits N S a){x:Operand}{v:Value}(hg:S.op x=some v):a.eval x=v:=by
 cases x with
 | tmp t=>exact h.get hg
 | const c=>simpa [Env.op,Act.eval] using hg
 | global g=>simpa [Env.op,Act.eval] using hg
 | func f=>simpa [Env.op,Act.eval] using hg
theorem Fits.ops {N:Fr}{S:Env}{a:Act}(h:Fits N S a):∀ {l:List Operand}{vs:List Value},S.ops l=some vs->l.map a.eval=vs
 | [],vs,hg=>by simpa [Env.ops] using hg
 | x::l,vs,hg=>by
  simp only [Env.ops] at hg
  cases h1:S.op x with
  | none=>rw [h1] at hg;cases hg
  | some v =>
   cases h2:S.ops l with
   | none=>rw [h1,h2] at hg;cases hg
   | some ws =>
    rw [h1,h2] at hg
    simp only [Option.some.injEq] at hg
    rw [<- hg,List.map_cons,h.op h1,Fits.ops h h2]
theorem Fits.set {N:Fr}{S:Env}{a:Act}(h:Fits N S a){d:Nat}(hd:d<N.n) (v:Value):Fits N (S.set d v) (a.put (some d) v):=by
 refine⟨h.defers,by simpa [Act.put] using h.size,λp hp=>?_⟩
 rcases List.mem_cons.1 hp with rfl|hp
 ·simp [Act.put,Array.getD,h.size,hd]
 ·obtain⟨h1,h2⟩:=List.mem_filter.1 hp
  simp only [bne_iff_ne,ne_eq] at h2
  rw [<- h.at_ p h1]
  simp only [Act.put,Array.getD_eq_getD_getElem?]
  rw [Array.getElem?_setIfInBounds_ne (λe=>h2 e.symm)]
def CE (N:Nat):Option Tmp->Bool
 | some d=>decide (d<N)
 | none=>true
theorem Fits.dO {N:Fr}{S:Env}{a:Act}(h:Fits N S a){d:Option Tmp}(hd:CE N d=true) (v:Value):Fits N (S.dO d v) (a.put d v):=by
 cases d with
 | none=>exact h
 | some d=>exact h.set (by simpa [CE] using hd) v
theorem Fits.pick {N:Fr}{S:Env}{a:Act}(h:Fits N S a) (ks:List Nat):Fits N (S.pick ks) a:=by
 refine⟨h.defers,h.size,λp hp=>?_⟩
 obtain⟨k,_,hk⟩:=List.mem_filterMap.1 hp
 cases hg:S.get k with
 | none=>rw [hg] at hk;cases hk
 | some v =>
  rw [hg] at hk
  simp only [Option.map_some,Option.some.injEq] at hk
  rw [<- hk]
  exact h.get hg
inductive fG where
 | cell (p:Addr) (v:Value)
 | cells (p:Addr) (vs:Array Value)
 | map (r:Nat) (es:Array MapEntry) (clock:Nat)
 | prop (p:Prop)
 | holds (p:World->Prop)
def fG.ok (w:World):fG->Prop
 | .cell p v=>w.cell? p=some v
 | .cells p vs=>∀ i,i<vs.size->w.cell? (p.add i)=vs[i]?
 | .map r es clock=>w.heap[r]?=some (.map es clock)
 | .prop p=>p
 | .holds p=>p w
def bH (w:World):List fG->Prop
 | []=>True
 | n::l=>n.ok w/\bH w l
theorem pn {w:World}:∀ {l:List fG},bH w l->∀ n∈l,n.ok w
 | _::_,h,n,hn=>by
  rcases List.mem_cons.1 hn with rfl|hn
  ·exact h.1
  ·exact pn h.2 n hn
theorem kN {w:World}:∀ {l:List fG},(∀ n∈l,n.ok w)->bH w l
 | [],_=>trivial
 | _::_,h=>⟨h _ (List.mem_cons_self ..),kN λn hn=>h n (List.mem_cons.2 (.inr hn))⟩
theorem gD {w:World}{l m:List fG}(h:bH w (l++m)):bH w l/\bH w m :=
 ⟨kN λn hn=>pn h n (List.mem_append.2 (.inl hn)),kN λn hn=>pn h n (List.mem_append.2 (.inr hn))⟩
def nS (P:Program):Sem Next->List Value->Option (List fG×Value)
 | .pure (.value v),_=>some ([],v)
 | .load _ p k,v::ans=>match nS P (k v) ans with
  | some (n,r)=>some (.cell p v::n,r)
  | none=>none
 | .program k,ans=>nS P (k P) ans
 | .mark _ k,ans=>nS P k ans
 | _,_=>none
theorem tT {P:Program}{w:World}:∀ (s:Sem Next) (ans:List Value) (n:List fG) (v:Value),nS P s ans=some (n,v)->bH w n->s.run P w=.ok (.value v) w:=by
 intro s
 induction s with
 | pure a =>
  intro ans n v h _
  cases a<;>simp [nS] at h
  simp [Sem.run,h]
 | load m p k ih =>
  intro ans n v h hn
  cases ans with
  | nil=>simp [nS] at h
  | cons x ans =>
   simp only [nS] at h
   cases hd:nS P (k x) ans with
   | none=>rw [hd] at h;cases h
   | some r =>
    obtain⟨n',v'⟩:=r
    rw [hd] at h
    simp only [Option.some.injEq,Prod.mk.injEq] at h
    obtain⟨rfl,rfl⟩:=h
    have h1:w.cell? p=some x:=hn.1
    simp only [Sem.run,h1]
    exact ih x ans n' v' hd hn.2
 | program k ih=>intro ans n v h hn;exact ih P ans n v h hn
 | mark m k ih=>intro ans n v h hn;exact ih ans n v h hn
 | _=>intro ans n v h;simp [nS] at h
inductive Hint where
 | gen (ans:List Value)
 | agg (vs:Array Value)
 | at_
 | byte (b:UInt8)
 | elem (v:Value)
 | sub (l h:Nat)
 | div (n:Int)
 | shift (n:Int)
 | OE
 | JB (es:Array MapEntry) (clock:Nat)
 | dH (v:Value) (h:Hint)
def nT:Op->Bool
 | .select ..=>true
 | _=>false
def known (S:Env) (o:Oper):Bool:=!nT o.op && (S.ops o.op.operands.toList).isSome
def AN (P:Program) (S:Env) (o:Oper) (ans:List Value):Option (List fG×Value) :=
 if known S o then nS P (execOp (λx=>(S.op x).getD undef) o) ans else none
def E0 (P:Program) (S:Env) (o:Oper):Option (List fG×Value) :=
 match o.op with
 | .indexAddr t x i =>
  match P.underlying t,S.op x,S.op i with
  | some (.slice e),some (.slice (some a) len _),some (.int _ n) =>
   match P.info? e with
   | some ie=>some ([.prop (0<=n/\n<(len:Int))],.pointer (some (a.add (n.toNat*ie.size))))
   | none=>none
  | some (.array len e),some (.pointer (some a)),some (.int _ n) =>
   match P.info? e with
   | some ie=>some ([.prop (0<=n/\n<(len:Int))],.pointer (some (a.add (n.toNat*ie.size))))
   | none=>none
  | _,_,_=>none
 | _=>none
def AO (P:Program) (S:Env) (o:Oper) (vs:Array Value):Option (List fG×Value) :=
 match o.op with
 | .load t x =>
  match S.op x,P.info? t,P.underlying t with
  | some (.pointer (some p)),some i,some (.struct _)=>some ([.prop (vs.size=i.size),.cells p vs],.agg vs)
  | some (.pointer (some p)),some i,some (.array _ _)=>some ([.prop (vs.size=i.size),.cells p vs],.agg vs)
  | _,_,_=>none
 | _=>none
def vn (P:Program) (S:Env) (o:Oper) (b:UInt8):Option (List fG×Value) :=
 match o.op with
 | .index t x i =>
  match P.underlying t,S.op x,S.op i with
  | some .string,some (.string s),some (.int _ n)=>some ([.prop (0<=n/\s[n.toNat]?=some b)],.int .u8 b.toNat)
  | _,_,_=>none
 | _=>none
def vo (P:Program) (S:Env) (o:Oper) (v:Value):Option (List fG×Value) :=
 match o.op with
 | .index t x i =>
  match P.underlying t,S.op x,S.op i with
  | some (.array len e),some (.agg cs),some (.int _ n) =>
   match P.info? e,P.underlying e with
   | some ie,some (.struct _)=>some ([.prop (0<=n/\n<(len:Int)),.prop (Value.agg (cs.extract (n.toNat*ie.size) (n.toNat*ie.size+ie.size))=v)],v)
   | some ie,some (.array _ _)=>some ([.prop (0<=n/\n<(len:Int)),.prop (Value.agg (cs.extract (n.toNat*ie.size) (n.toNat*ie.size+ie.size))=v)],v)
   | some ie,some (.int _)=>some ([.prop (0<=n/\n<(len:Int)),.prop (cs[n.toNat*ie.size]?=some v)],v)
   | some ie,some .string=>some ([.prop (0<=n/\n<(len:Int)),.prop (cs[n.toNat*ie.size]?=some v)],v)
   | some ie,some .bool=>some ([.prop (0<=n/\n<(len:Int)),.prop (cs[n.toNat*ie.size]?=some v)],v)
   | some ie,some (.func _ _ _)=>some ([.prop (0<=n/\n<(len:Int)),.prop (cs[n.toNat*ie.size]?=some v)],v)
   | some ie,some (.slice _)=>some ([.prop (0<=n/\n<(len:Int)),.prop (cs[n.toNat*ie.size]?=some v)],v)
   | _,_=>none
  | _,_,_=>none
 | _=>none
def iZ (S:Env) (x:Option Operand) (l:Nat):Option (List fG) :=
 match x with
 | some x=>match S.op x with
  | some (.int _ n)=>some [.prop (n=(l:Int))]
  | _=>none
 | none=>some []
def evalSub (P:Program) (S:Env) (o:Oper) (l h:Nat):Option (List fG×Value) :=
 match o.op with
 | .slice t x lo hi none =>
  match P.underlying t,S.op x with
  | some .string,some (.string s) =>
   match iZ S lo l,iZ S hi h with
   | some n1,some n2=>some (n1++(n2++[.prop ((lo=none->l=0)/\(hi=none->h=s.size)/\l<=h/\h<=s.size)]),.string (s.extract l h))
   | _,_=>none
  | some (.slice e),some (.slice a len cap) =>
   match iZ S lo l,iZ S hi h,P.info? e with
   | some n1,some n2,some ie=>some (n1++(n2++[.prop ((lo=none->l=0)/\(hi=none->h=len)/\l<=h/\h<=cap)]),.slice (if cap=l then a else a.map (·.add (l*ie.size))) (h-l) (cap-l))
   | _,_,_=>none
  | some (.array n e),some (.pointer (some a)) =>
   match iZ S lo l,iZ S hi h,P.info? e with
   | some n1,some n2,some ie=>some (n1++(n2++[.prop ((lo=none->l=0)/\(hi=none->h=n)/\l<=h/\h<=n)]),.slice (some (if n=l then a else a.add (l*ie.size))) (h-l) (n-l))
   | _,_,_=>none
  | _,_=>none
 | _=>none
def evalDiv (S:Env) (o:Oper) (n:Int):Option (List fG×Value) :=
 match o.op with
 | .binOp .quo _ x y _=>match S.op x,S.op y with
  | some (.int k a),some (.int k' b)=>some ([.prop (k=k'/\b≠0/\k.wrap (a.tdiv b)=n)],.int k n)
  | _,_=>none
 | .binOp .rem _ x y _=>match S.op x,S.op y with
  | some (.int k a),some (.int k' b)=>some ([.prop (k=k'/\b≠0/\a.tmod b=n)],.int k n)
  | _,_=>none
 | _=>none
def evalShift (S:Env) (o:Oper) (n:Int):Option (List fG×Value) :=
 match o.op with
 | .binOp .shl _ x y _=>match S.op x,S.op y with
  | some (.int k a),some (.int _ b)=>some ([.prop (0<=b/\k.wrap (a*2 ^ (min b.toNat k.bits))=n)],.int k n)
  | _,_=>none
 | .binOp .shr _ x y _=>match S.op x,S.op y with
  | some (.int k a),some (.int _ b)=>some ([.prop (0<=b/\a.fdiv (2 ^ (min b.toNat k.bits))=n)],.int k n)
  | _,_=>none
 | _=>none
def vp (S:Env) (o:Oper):Option (List fG×Value) :=
 match o.op with
 | .binOp .add _ x y _=>match S.op x,S.op y with
  | some (.string a),some (.string b)=>some ([.prop (((a.size+b.size:Nat):Int)<=IntKind.i64.max)],.string (a++b))
  | _,_=>none
 | _=>none
def qk (P:Program) (S:Env) (o:Oper) (es:Array MapEntry) (clock:Nat):Option (List fG×Value) :=
 match o.op with
 | .call c =>
  match c.callee,c.args.toList,c.argTypes.toList with
  | .builtin .len,[x],[t]=>match P.underlying t,S.op x with
   | some (.map _ _),some (.map (some r))=>some ([.map r es clock],.int .i64 es.size)
   | _,_=>none
  | _,_,_=>none
 | _=>none
def evalOp (P:Program) (S:Env) (o:Oper):Hint->Option (List fG×Value)
 | .gen ans=>AN P S o ans
 | .agg vs=>AO P S o vs
 | .at_=>E0 P S o
 | .byte b=>vn P S o b
 | .elem v=>vo P S o v
 | .sub l h=>evalSub P S o l h
 | .div n=>evalDiv S o n
 | .shift n=>evalShift S o n
 | .OE=>vp S o
 | .JB es c=>qk P S o es c
 | .dH v h=>match evalOp P S o h with
  | some (n,u)=>some (n++[.prop (u=v)],v)
  | none=>none
section
variable {P : Program}
theorem E1 {S:Env}{o:Oper}(h:known S o=true):(∀ cs b,o.op≠.select cs b)/\∀ x∈o.op.operands,∃ v,S.op x=some v:=by
 simp only [known,Bool.and_eq_true,Bool.not_eq_true'] at h
 refine⟨λcs b e=>by rw [e] at h;simp [nT] at h,?_⟩
 have key:∀ (l:List Operand),(S.ops l).isSome=true->∀ x∈l,∃ v,S.op x=some v:=by
  intro l
  induction l with
  | nil=>intro _ x hx;cases hx
  | cons y l ih =>
   intro hs x hx
   simp only [Env.ops] at hs
   cases h1:S.op y with
   | none=>rw [h1] at hs;cases hs
   | some u =>
    cases h2:S.ops l with
    | none=>rw [h1,h2] at hs;cases hs
    | some us =>
     rcases List.mem_cons.1 hx with rfl|hx
     ·exact⟨u,h1⟩
     ·exact ih (by rw [h2];rfl) x hx
 intro x hx
 exact key _ h.2 x (Array.mem_toList_iff.2 hx)
theorem CF {N:Fr}{S:Env}{a:Act}(hf:Fits N S a){o:Oper}(h:known S o=true):execOp a.eval o=execOp (λx=>(S.op x).getD undef) o:=by
 obtain⟨h1,h2⟩:=E1 h
 refine execOp_congr o h1 λx hx=>?_
 obtain⟨v,hv⟩:=h2 x hx
 rw [hf.op hv,hv]
 rfl
theorem xY {N:Fr}{S:Env}{a:Act}(hf:Fits N S a){o:Oper}{ans:List Value}{n:List fG}{v:Value}{w:World}
 (h:AN P S o ans=some (n,v)) (hn:bH w n):(execOp a.eval o).run P w=.ok (.value v) w:=by
 unfold AN at h
 split at h
 ·rename_i hk
  rw [CF hf hk]
  exact tT _ _ _ _ h hn
 ·cases h
theorem AP {N:Fr}{S:Env}{a:Act}(hf:Fits N S a){o:Oper}{n:List fG}{v:Value}{w:World}
 (h:E0 P S o=some (n,v)) (hn:bH w n):(execOp a.eval o).run P w=.ok (.value v) w:=by
 unfold E0 at h
 split at h
 ·rename_i t x i ho
  split at h
  ·rename_i e ad len cap k m hu hx hi
   split at h
   ·rename_i ie hie
    simp only [Option.some.injEq,Prod.mk.injEq] at h
    obtain⟨rfl,rfl⟩:=h
    have hb:0<=m/\m<(len:Int):=hn.1
    have hx':=hf.op hx
    have hi':=hf.op hi
    generalize a.eval=ρ at hx' hi' ⊢
    simp [execOp,ho,Instr.indexAt,hx',hi',asIntOf,run_underlying hu,sizeOf,typeInfo,hie,hb.1,hb.2,go_sem]
   ·cases h
  ·rename_i len e ad k m hu hx hi
   split at h
   ·rename_i ie hie
    simp only [Option.some.injEq,Prod.mk.injEq] at h
    obtain⟨rfl,rfl⟩:=h
    have hb:0<=m/\m<(len:Int):=hn.1
    have hx':=hf.op hx
    have hi':=hf.op hi
    generalize a.eval=ρ at hx' hi' ⊢
    simp [execOp,ho,Instr.indexAt,hx',hi',asIntOf,Instr.sureAddr,run_underlying hu,sizeOf,typeInfo,hie,hb.1,hb.2,go_sem]
   ·cases h
  ·cases h
 ·cases h
theorem run_loadCells {w:World}(p:Addr) (vs:Array Value) (h:∀ i,i<vs.size->w.cell? (p.add i)=vs[i]?) :
 ∀ (n i:Nat) (acc:Array Value),i+n=vs.size->(loadCellsFrom p i n acc).run P w=.ok (acc++vs.extract i (i+n)) w:=by
 intro n
 induction n with
 | zero=>intro i acc hi;simp [loadCellsFrom,go_sem];omega
 | succ n ih =>
  intro i acc hi
  have h1:=h i za
  rw [Array.getElem?_eq_getElem za] at h1
  simp only [loadCellsFrom,load,bind,Sem.bind,Sem.run,h1]
  have h2:=ih (i+1) (acc.push vs[i]) za
  refine(h2:_).trans ?_
  congr 1
  rw [show i+1+n=i+(n+1) from by omega]
  apply Array.ext'
  simp [Array.toList_extract,List.extract_eq_take_drop]
  rw [show i+(n+1)-(i+1)=n from by omega]
  have hl:i<vs.toList.length:=by simpa using (by omega:i<vs.size)
  rw [List.drop_eq_getElem_cons hl,List.take_succ_cons]
  simp
theorem fT {w:World}(p:Addr) (vs:Array Value){n:Nat}(hs:vs.size=n) (h:∀ i,i<vs.size->w.cell? (p.add i)=vs[i]?):(loadCellsFrom p 0 n #[]).run P w=.ok vs w:=by
 have h1:=run_loadCells (P:=P) p vs h n 0 #[] za
 rw [Nat.zero_add,<- hs,Array.extract_size] at h1
 rw [<- hs]
 simpa using h1
theorem nE {w:World}{t:TypeId}{ti:TypeInfo}(hi:P.info? t=some ti) (ha:∀ w,(isAgg t).run P w=.ok true w) (p:Addr) (vs:Array Value) (hs:vs.size=ti.size)
 (h:∀ i,i<vs.size->w.cell? (p.add i)=vs[i]?):(loadVar t p).run P w=.ok (.agg vs) w:=by
 have h1:=run_loadCells (P:=P) p vs h vs.size 0 #[] zw
 simp only [Nat.zero_add,Array.extract_size,Array.empty_append] at h1
 simp only [hs] at h1
 simp [loadVar,ha,sizeOf,typeInfo,hi,loadCells,h1,go_sem]
theorem qX {t:TypeId}{fs:Array Field}(h:P.underlying t=some (.struct fs)) (w:World):(isAgg t).run P w=.ok true w:=by
 simp [isAgg,run_underlying h,go_sem]
theorem tU {t e:TypeId}{n:Nat}(h:P.underlying t=some (.array n e)) (w:World):(isAgg t).run P w=.ok true w:=by
 simp [isAgg,run_underlying h,go_sem]
theorem xZ {N:Fr}{S:Env}{a:Act}(hf:Fits N S a){o:Oper}{vs:Array Value}{n:List fG}{v:Value}{w:World}
 (h:AO P S o vs=some (n,v)) (hn:bH w n):(execOp a.eval o).run P w=.ok (.value v) w:=by
 unfold AO at h
 split at h
 ·rename_i t x ho
  split at h
  ·rename_i p i fs hx hi hu
   simp only [Option.some.injEq,Prod.mk.injEq] at h
   obtain⟨rfl,rfl⟩:=h
   have h1:vs.size=i.size:=hn.1
   have h2:=fT (P:=P) p vs h1 hn.2.1
   have h3:=qX hu
   have hx':=hf.op hx
   generalize a.eval=ρ at hx' ⊢
   simp [execOp,ho,Instr.loadAt,hx',Instr.sureAddr,h2,h3,sizeOf,typeInfo,hi,go_sem]
  ·rename_i p i len e hx hi hu
   simp only [Option.some.injEq,Prod.mk.injEq] at h
   obtain⟨rfl,rfl⟩:=h
   have h1:vs.size=i.size:=hn.1
   have h2:=fT (P:=P) p vs h1 hn.2.1
   have h3:=tU hu
   have hx':=hf.op hx
   generalize a.eval=ρ at hx' ⊢
   simp [execOp,ho,Instr.loadAt,hx',Instr.sureAddr,h2,h3,sizeOf,typeInfo,hi,go_sem]
  ·cases h
 ·cases h
theorem RD {N:Fr}{S:Env}{a:Act}(hf:Fits N S a){o:Oper}{b:UInt8}{n:List fG}{v:Value}{w:World}
 (h:vn P S o b=some (n,v)) (hn:bH w n):(execOp a.eval o).run P w=.ok (.value v) w:=by
 unfold vn at h
 split at h
 ·rename_i t x i ho
  split at h
  ·rename_i s k m hu hx hi
   simp only [Option.some.injEq,Prod.mk.injEq] at h
   obtain⟨rfl,rfl⟩:=h
   have hb:0<=m/\s[m.toNat]?=some b:=hn.1
   have hx':=hf.op hx
   have hi':=hf.op hi
   generalize a.eval=ρ at hx' hi' ⊢
   simp [execOp,ho,Instr.index,hx',hi',asIntOf,run_underlying hu,hb.1,hb.2,go_sem]
  ·cases h
 ·cases h
theorem vr {N:Fr}{S:Env}{a:Act}(hf:Fits N S a){o:Oper}{u:Value}{n:List fG}{v:Value}{w:World}
 (h:vo P S o u=some (n,v)) (hn:bH w n):(execOp a.eval o).run P w=.ok (.value v) w:=by
 unfold vo at h
 split at h
 ·rename_i t x i ho
  split at h
  ·rename_i len e cs k m hu hx hi
   have hx':=hf.op hx
   have hi':=hf.op hi
   generalize a.eval=ρ at hx' hi' ⊢
   split at h
   ·rename_i ie fs hie he
    simp only [Option.some.injEq,Prod.mk.injEq] at h
    obtain⟨rfl,rfl⟩:=h
    have hb:0<=m/\m<(len:Int):=hn.1
    have hv:Value.agg (cs.extract (m.toNat*ie.size) (m.toNat*ie.size+ie.size))=u:=hn.2.1
    subst hv
    simp [execOp,ho,Instr.index,hx',hi',asIntOf,run_underlying hu,hb.1,hb.2,part,isAgg,run_underlying he,sizeOf,typeInfo,hie,asAgg,go_sem]
   ·rename_i ie k' e' hie he
    simp only [Option.some.injEq,Prod.mk.injEq] at h
    obtain⟨rfl,rfl⟩:=h
    have hb:0<=m/\m<(len:Int):=hn.1
    have hv:Value.agg (cs.extract (m.toNat*ie.size) (m.toNat*ie.size+ie.size))=u:=hn.2.1
    subst hv
    simp [execOp,ho,Instr.index,hx',hi',asIntOf,run_underlying hu,hb.1,hb.2,part,isAgg,run_underlying he,sizeOf,typeInfo,hie,asAgg,go_sem]
   ·rename_i ie k' hie he
    simp only [Option.some.injEq,Prod.mk.injEq] at h
    obtain⟨rfl,rfl⟩:=h
    have hb:0<=m/\m<(len:Int):=hn.1
    have hv:cs[m.toNat*ie.size]?=some u:=hn.2.1
    simp [execOp,ho,Instr.index,hx',hi',asIntOf,run_underlying hu,hb.1,hb.2,part,isAgg,run_underlying he,sizeOf,typeInfo,hie,asAgg,hv,go_sem]
   ·rename_i ie hie he
    simp only [Option.some.injEq,Prod.mk.injEq] at h
    obtain⟨rfl,rfl⟩:=h
    have hb:0<=m/\m<(len:Int):=hn.1
    have hv:cs[m.toNat*ie.size]?=some u:=hn.2.1
    simp [execOp,ho,Instr.index,hx',hi',asIntOf,run_underlying hu,hb.1,hb.2,part,isAgg,run_underlying he,sizeOf,typeInfo,hie,asAgg,hv,go_sem]
   ·rename_i ie hie he
    simp only [Option.some.injEq,Prod.mk.injEq] at h
    obtain⟨rfl,rfl⟩:=h
    have hb:0<=m/\m<(len:Int):=hn.1
    have hv:cs[m.toNat*ie.size]?=some u:=hn.2.1
    simp [execOp,ho,Instr.index,hx',hi',asIntOf,run_underlying hu,hb.1,hb.2,part,isAgg,run_underlying he,sizeOf,typeInfo,hie,asAgg,hv,go_sem]
   ·rename_i ie p1 p2 p3 hie he
    simp only [Option.some.injEq,Prod.mk.injEq] at h
    obtain⟨rfl,rfl⟩:=h
    have hb:0<=m/\m<(len:Int):=hn.1
    have hv:cs[m.toNat*ie.size]?=some u:=hn.2.1
    simp [execOp,ho,Instr.index,hx',hi',asIntOf,run_underlying hu,hb.1,hb.2,part,isAgg,run_underlying he,sizeOf,typeInfo,hie,asAgg,hv,go_sem]
   ·rename_i ie p1 hie he
    simp only [Option.some.injEq,Prod.mk.injEq] at h
    obtain⟨rfl,rfl⟩:=h
    have hb:0<=m/\m<(len:Int):=hn.1
    have hv:cs[m.toNat*ie.size]?=some u:=hn.2.1
    simp [execOp,ho,Instr.index,hx',hi',asIntOf,run_underlying hu,hb.1,hb.2,part,isAgg,run_underlying he,sizeOf,typeInfo,hie,asAgg,hv,go_sem]
   ·cases h
  ·cases h
 ·cases h
theorem x6 {N:Fr}{S:Env}{a:Act}(hf:Fits N S a){o:Oper}{q:Int}{n:List fG}{v:Value}{w:World}
 (h:evalDiv S o q=some (n,v)) (hn:bH w n):(execOp a.eval o).run P w=.ok (.value v) w:=by
 unfold evalDiv at h
 split at h
 ·rename_i t x y t' ho
  split at h
  ·rename_i k a' k' b hx hy
   simp only [Option.some.injEq,Prod.mk.injEq] at h
   obtain⟨rfl,rfl⟩:=h
   obtain⟨rfl,hb,rfl⟩:k=k'/\b≠0/\k.wrap (a'.tdiv b)=q:=hn.1
   have hx':=hf.op hx
   have hy':=hf.op hy
   generalize a.eval=ρ at hx' hy' ⊢
   simp [execOp,ho,eqGuard,binOp,hx',hy',Op.intDiv,hb,go_sem]
  ·cases h
 ·rename_i t x y t' ho
  split at h
  ·rename_i k a' k' b hx hy
   simp only [Option.some.injEq,Prod.mk.injEq] at h
   obtain⟨rfl,rfl⟩:=h
   obtain⟨rfl,hb,rfl⟩:k=k'/\b≠0/\a'.tmod b=q:=hn.1
   have hx':=hf.op hx
   have hy':=hf.op hy
   generalize a.eval=ρ at hx' hy' ⊢
   simp [execOp,ho,eqGuard,binOp,hx',hy',Op.intDiv,hb,go_sem]
  ·cases h
 ·cases h
theorem uN {N:Fr}{S:Env}{a:Act}(hf:Fits N S a){o:Oper}{q:Int}{n:List fG}{v:Value}{w:World}
 (h:evalShift S o q=some (n,v)) (hn:bH w n):(execOp a.eval o).run P w=.ok (.value v) w:=by
 unfold evalShift at h
 split at h
 ·rename_i t x y t' ho
  split at h
  ·rename_i k a' k' b hx hy
   simp only [Option.some.injEq,Prod.mk.injEq] at h
   obtain⟨rfl,rfl⟩:=h
   obtain⟨hb,rfl⟩:0<=b/\k.wrap (a'*2 ^ (min b.toNat k.bits))=q:=hn.1
   have hx':=hf.op hx
   have hy':=hf.op hy
   generalize a.eval=ρ at hx' hy' ⊢
   have hb':¬ b<0:=za
   simp [execOp,ho,eqGuard,binOp,hx',hy',Op.shift,hb',go_sem]
  ·cases h
 ·rename_i t x y t' ho
  split at h
  ·rename_i k a' k' b hx hy
   simp only [Option.some.injEq,Prod.mk.injEq] at h
   obtain⟨rfl,rfl⟩:=h
   obtain⟨hb,rfl⟩:0<=b/\a'.fdiv (2 ^ (min b.toNat k.bits))=q:=hn.1
   have hx':=hf.op hx
   have hy':=hf.op hy
   generalize a.eval=ρ at hx' hy' ⊢
   have hb':¬ b<0:=za
   simp [execOp,ho,eqGuard,binOp,hx',hy',Op.shift,hb',go_sem]
  ·cases h
 ·cases h
theorem vt {N:Fr}{S:Env}{a:Act}(hf:Fits N S a){o:Oper}{n:List fG}{v:Value}{w:World}
 (h:vp S o=some (n,v)) (hn:bH w n):(execOp a.eval o).run P w=.ok (.value v) w:=by
 unfold vp at h
 split at h
 ·rename_i t x y t' ho
  split at h
  ·rename_i s u hx hy
   simp only [Option.some.injEq,Prod.mk.injEq] at h
   obtain⟨rfl,rfl⟩:=h
   have hb:((s.size+u.size:Nat):Int)<=IntKind.i64.max:=hn.1
   have hx':=hf.op hx
   have hy':=hf.op hy
   generalize a.eval=ρ at hx' hy' ⊢
   have hb':¬ ((s.size+u.size:Nat):Int)>IntKind.i64.max:=za
   simp only [execOp,ho,eqGuard,binOp,hx',hy',Op.stringOp,hb',if_false]
   simp [go_sem]
  ·cases h
 ·cases h
theorem sz {N:Fr}{S:Env}{a:Act}(hf:Fits N S a){o:Oper}{es:Array MapEntry}{c:Nat}{n:List fG}{v:Value}{w:World}
 (h:qk P S o es c=some (n,v)) (hn:bH w n):(execOp a.eval o).run P w=.ok (.value v) w:=by
 unfold qk at h
 split at h
 ·rename_i cl ho
  split at h
  ·rename_i x t hc ha ht
   split at h
   ·rename_i k e r hu hx
    simp only [Option.some.injEq,Prod.mk.injEq] at h
    obtain⟨rfl,rfl⟩:=h
    have hb0:w.heap[r]?=some (.map es c):=hn.1
    have hb:(getObj r).run P w=.ok (.map es c) w:=by simp [getObj,Sem.run,hb0]
    have hx':=hf.op hx
    have ha':cl.args=#[x]:=by rw [<- Array.toArray_toList (xs:=cl.args),ha]
    have ht':cl.argTypes=#[t]:=by rw [<- Array.toArray_toList (xs:=cl.argTypes),ht]
    generalize a.eval=ρ at hx' ⊢
    simp [execOp,ho,resolve,hc,ha',ht',invoke,builtin,Builtin.len_,hx',run_underlying hu,hb,goInt,go_sem]
   ·cases h
  ·cases h
 ·cases h
theorem fU {N:Fr}{S:Env}{a:Act}(hf:Fits N S a){x:Option Operand}{l:Nat}{n:List fG}{w:World}(h:iZ S x l=some n) (hn:bH w n) :
 (x=none)\/∃ y k,x=some y/\a.eval y=.int k (l:Int):=by
 unfold iZ at h
 split at h
 ·rename_i y
  split at h
  ·rename_i k m hy
   simp only [Option.some.injEq] at h
   subst h
   have:m=(l:Int):=hn.1
   subst this
   exact .inr ⟨y,k,rfl,hf.op hy⟩
  ·cases h
 ·exact .inl rfl
theorem run_sliceBound {w:World}(k:IntKind) (l y:Nat) (c:BoundsCode) (h:l<=y):(Instr.sliceBound (.int k (l:Int)) y c).run P w=.ok l w:=by
 have h1:(0:Int)<=l/\(l:Int)<=y:=za
 simp [Instr.sliceBound,asIntOf,h1,go_sem]
theorem uO {w:World}{ρ:Operand->Value}{lo hi:Option Operand}{l h len cap:Nat}(sl:Bool)
 (h1:lo=none\/∃ y k,lo=some y/\ρ y=.int k (l:Int)) (h2:hi=none\/∃ y k,hi=some y/\ρ y=.int k (h:Int))
 (h3:(lo=none->l=0)/\(hi=none->h=len)/\l<=h/\h<=cap):(Instr.sliceBounds sl len cap (lo.map ρ) (hi.map ρ) none).run P w=.ok (l,h,cap) w:=by
 obtain⟨h4,h5,h6,h7⟩:=h3
 rcases h1 with rfl|⟨y,k,rfl,hy⟩<;>rcases h2 with rfl|⟨z,k',rfl,hz⟩
 ·obtain rfl:=h4 rfl
  obtain rfl:=h5 rfl
  simp [Instr.sliceBounds,go_sem]
 ·obtain rfl:=h4 rfl
  simp [Instr.sliceBounds,hz,run_sliceBound,h7,go_sem]
 ·obtain rfl:=h5 rfl
  simp [Instr.sliceBounds,hy,run_sliceBound,h6,go_sem]
 ·simp [Instr.sliceBounds,hy,hz,run_sliceBound,h6,h7,go_sem]
theorem yb {N:Fr}{S:Env}{a:Act}(hf:Fits N S a){o:Oper}{l hh:Nat}{n:List fG}{v:Value}{w:World}
 (h:evalSub P S o l hh=some (n,v)) (hn:bH w n):(execOp a.eval o).run P w=.ok (.value v) w:=by
 unfold evalSub at h
 split at h
 ·rename_i t x lo hi ho
  split at h
  ·rename_i s hu hx
   split at h
   ·rename_i n1 n2 e1 e2
    simp only [Option.some.injEq,Prod.mk.injEq] at h
    obtain⟨rfl,rfl⟩:=h
    obtain⟨k1,k2⟩:=gD hn
    obtain⟨k2,k3⟩:=gD k2
    have b1:=fU hf e1 k1
    have b2:=fU hf e2 k2
    have hx':=hf.op hx
    generalize a.eval=ρ at hx' b1 b2 ⊢
    obtain⟨q1,q2,q3,q4⟩:=k3.1
    clear e1 e2 k1 k2 k3
    rcases b1 with rfl|⟨y,k,rfl,hy⟩<;>rcases b2 with rfl|⟨z,k',rfl,hz⟩
    all_goals (try obtain rfl:=q1 rfl)
    all_goals (try obtain rfl:=q2 rfl)
    all_goals simp [execOp,ho,Instr.sliceAt,Instr.slice,hx',run_underlying hu,run_sliceBound,q3,q4,go_sem, *]
   ·cases h
  ·rename_i e ad len cap hu hx
   split at h
   ·rename_i n1 n2 ie e1 e2 hie
    simp only [Option.some.injEq,Prod.mk.injEq] at h
    obtain⟨rfl,rfl⟩:=h
    obtain⟨k1,k2⟩:=gD hn
    obtain⟨k2,k3⟩:=gD k2
    have b1:=fU hf e1 k1
    have b2:=fU hf e2 k2
    have hx':=hf.op hx
    generalize a.eval=ρ at hx' b1 b2 ⊢
    obtain⟨q1,q2,q3,q4⟩:=k3.1
    clear e1 e2 k1 k2 k3
    rcases b1 with rfl|⟨y,k,rfl,hy⟩<;>rcases b2 with rfl|⟨z,k',rfl,hz⟩
    all_goals (try obtain rfl:=q1 rfl)
    all_goals (try obtain rfl:=q2 rfl)
    all_goals simp [execOp,ho,Instr.sliceAt,Instr.slice,hx',run_underlying hu,run_sliceBound,q3,q4,sizeOf,typeInfo,hie,go_sem, *]
   ·cases h
  ·rename_i m e ad hu hx
   split at h
   ·rename_i n1 n2 ie e1 e2 hie
    simp only [Option.some.injEq,Prod.mk.injEq] at h
    obtain⟨rfl,rfl⟩:=h
    obtain⟨k1,k2⟩:=gD hn
    obtain⟨k2,k3⟩:=gD k2
    have b1:=fU hf e1 k1
    have b2:=fU hf e2 k2
    have hx':=hf.op hx
    generalize a.eval=ρ at hx' b1 b2 ⊢
    obtain⟨q1,q2,q3,q4⟩:=k3.1
    clear e1 e2 k1 k2 k3
    rcases b1 with rfl|⟨y,k,rfl,hy⟩<;>rcases b2 with rfl|⟨z,k',rfl,hz⟩
    all_goals (try obtain rfl:=q1 rfl)
    all_goals (try obtain rfl:=q2 rfl)
    all_goals simp [execOp,ho,Instr.sliceAt,Instr.sureAddr,hx',run_underlying hu,run_sliceBound,q3,q4,sizeOf,typeInfo,hie,go_sem, *]
   ·cases h
  ·cases h
 ·cases h
theorem mR {N:Fr}{S:Env}{a:Act}(hf:Fits N S a){o:Oper}{w:World}:∀ {h:Hint}{n:List fG}{v:Value},
 evalOp P S o h=some (n,v)->bH w n->(execOp a.eval o).run P w=.ok (.value v) w
 | .gen _,_,_,e,hn=>xY hf e hn
 | .agg _,_,_,e,hn=>xZ hf e hn
 | .at_,_,_,e,hn=>AP hf e hn
 | .byte _,_,_,e,hn=>RD hf e hn
 | .elem _,_,_,e,hn=>vr hf e hn
 | .sub _ _,_,_,e,hn=>yb hf e hn
 | .div _,_,_,e,hn=>x6 hf e hn
 | .shift _,_,_,e,hn=>uN hf e hn
 | .OE,_,_,e,hn=>vt hf e hn
 | .JB _ _,_,_,e,hn=>sz hf e hn
 | .dH u h,n,v,e,hn=>by
  simp only [evalOp] at e
  split at e
  ·rename_i n' u' e'
   simp only [Option.some.injEq,Prod.mk.injEq] at e
   obtain⟨rfl,rfl⟩:=e
   obtain⟨h1,h2⟩:=gD hn
   have h3:u'=u:=h2.1
   rw [<- h3]
   exact mR hf e' h1
  ·cases e
def cZ (ops:Array Oper) (S:Env) (o:Oper):Option Bool :=
 match o.guard with
 | none=>some true
 | some (j,want) =>
  match (ops[j]?).bind (λo:Oper=>o.dst) with
  | none=>some false
  | some d =>
   match S.get d with
   | some (.bool b)=>some (b == want)
   | some (.tuple _)=>some false
   | _=>none
theorem fH {N:Fr}{S:Env}{a:Act}(hf:Fits N S a){ops:Array Oper}{o:Oper}{b:Bool}(h:cZ ops S o=some b) (hd:∀ (j d:Nat),(ops[j]?).bind (λo:Oper=>o.dst)=some d->d<N) :
 Region.wanted o (yielded ops a.tmps)=b:=by
 unfold cZ at h
 unfold Region.wanted
 split at h
 ·rename_i hg
  simp only [Option.some.injEq] at h
  rw [hg]
  exact h
 ·rename_i j want hg
  rw [hg]
  simp only [yielded]
  split at h
  ·rename_i hn
   rw [hn]
   simpa using h
  ·rename_i d hs
   have hlt:=hd j d hs
   rw [hs]
   split at h
   ·rename_i b' hb'
    have:=hf.get hb'
    simp only [Option.bind_some]
    rw [Array.getElem?_eq_getElem (by rw [hf.size];exact hlt)]
    simp only [Array.getD,hf.size,hlt,dite_true] at this
    have h5:a.tmps[d]'(by rw [hf.size];exact hlt)=Value.bool b':=this
    rw [h5]
    simpa using h
   ·rename_i vs hb'
    have:=hf.get hb'
    simp only [Option.bind_some]
    rw [Array.getElem?_eq_getElem (by rw [hf.size];exact hlt)]
    simp only [Array.getD,hf.size,hlt,dite_true] at this
    have h5:a.tmps[d]'(by rw [hf.size];exact hlt)=Value.tuple vs:=this
    rw [h5]
    simpa using h
   ·cases h
abbrev dN:=List (Nat×List fG)
def mi (N:Nat) (ops:Array Oper):Bool:=ops.all λo=>CE N o.dst
theorem gx {N:Nat}{ops:Array Oper}(h:mi N ops=true) (j:Nat) (o:Oper) (hj:ops[j]?=some o):CE N o.dst=true:=by
 simp only [mi,Array.all_eq_true_iff_forall_mem] at h
 exact h o (Array.mem_of_getElem? hj)
theorem iu {N:Nat}{ops:Array Oper}(h:mi N ops=true):∀ (j d:Nat),(ops[j]?).bind (λo:Oper=>o.dst)=some d->d<N:=by
 intro j d hj
 cases ho:ops[j]? with
 | none=>rw [ho] at hj;cases hj
 | some o =>
  rw [ho] at hj
  simp only [Option.bind_some] at hj
  have:=gx h j o ho
  rw [hj] at this
  simpa [CE] using this
def phase (P:Program) (ops:Array Oper):List (Nat×Hint)->Env->Option (dN×Env)
 | [],S=>some ([],S)
 | (i,h)::l,S =>
  match ops[i]? with
  | none=>none
  | some o =>
   match cZ ops S o with
   | none=>none
   | some false=>phase P ops l (S.dO o.dst undef)
   | some true =>
    match evalOp P S o h with
    | none=>none
    | some (n,v) =>
     match phase P ops l (S.dO o.dst v) with
     | none=>none
     | some (A,S')=>some (if n.isEmpty then (A,S') else ((i,n)::A,S'))
def jP (w:World):dN->Prop
 | []=>True
 | x::A=>bH w x.2/\jP w A
def dN.reads (A:dN):Reads:=A.map λx=>(x.1,λw=>bH w x.2)
def M3 (P:Program) (ops:Array Oper) (M:List Nat) (Q:Exit->Act->World->Prop) (N:Fr) (A:dN) (rest:PT) (S:Env) (w:World):Prop :=
 ∀ a,Fits N S a->bZ N.r P ops M Q A.reads rest a w
theorem bZ.mS {ops:Array Oper}{r:Option Nat}{Q:Exit->Act->World->Prop}{M:List Nat}(i:Nat){R:World->Prop}(hR:∀ w,R w):∀ (p:PT) (D:Reads) (a:Act) (w:World),bZ r P ops M Q D p a w->bZ r P ops M Q ((i,R)::D) p a w
 | .done,_,_,_,h=>h
 | .alt s t,_,_,_,h=>⟨bZ.mS i hR s _ _ _ h.1,bZ.mS i hR t _ _ _ h.2⟩
 | .rd j p,D,a,w,h=>by
  obtain⟨o,v,R',ho,hy,hR',hp⟩:=h
  refine⟨o,v,R',ho,hy,hR',?_⟩
  refine bZ.mono p ((i,R)::(j,R')::D) _ _ _ (λx hx=>?_) (bZ.mS i hR p _ _ _ hp)
  simp only [List.mem_cons] at hx ⊢
  rcases hx with h|h|h
  ·exact .inr (.inl h)
  ·exact .inl h
  ·exact .inr (.inr h)
 | .ef j p,D,a,w,h=>by
  change jS r P ops Q j (λa' w'=>(∀ x∈D,Cw M x.1 j=false->x.2 w')/\bZ r P ops M Q D p a' w') a w at h
  exact bZ.ef (wpOpIn_mono (λa' w' h'=>⟨λx hx hx'=>by
   rcases List.mem_cons.1 hx with rfl|hx
   ·exact hR w'
   ·exact h'.1 x hx hx',bZ.mS i hR p _ _ _ h'.2⟩) h)
def gE:List Nat->PT->PT
 | [],t=>t
 | i::l,t=>.rd i (gE l t)
theorem M3.phase {ops:Array Oper}{M:List Nat}{Q:Exit->Act->World->Prop}{N:Fr}(hN:mi N ops=true){rest:PT}{w:World} :
 ∀ (l:List (Nat×Hint)) (S:Env) (A A':dN) (S':Env),Go.Sx.phase P ops l S=some (A',S')->jP w A'->M3 P ops M Q N (A'.reverse++A) rest S' w ->
  M3 P ops M Q N A (gE (l.map λx=>x.1) rest) S w
 | [],S,A,A',S',h,_,hg=>by
  simp only [Go.Sx.phase,Option.some.injEq,Prod.mk.injEq] at h
  obtain⟨rfl,rfl⟩:=h
  exact hg
 | (i,h)::l,S,A,A',S',hp,hA,hg=>by
  simp only [Go.Sx.phase] at hp
  cases ho:ops[i]? with
  | none=>rw [ho] at hp;cases hp
  | some o =>
   simp only [ho] at hp
   have hdo:=gx hN i o ho
   cases hw:cZ ops S o with
   | none=>rw [hw] at hp;cases hp
   | some b =>
    simp only [hw] at hp
    cases b with
    | false =>
     intro a hf
     have h1:=M3.phase hN l (S.dO o.dst undef) A A' S' hp hA hg (a.put o.dst undef) (hf.dO hdo _)
     exact⟨o,undef,λ_=>True,ho,.inr ⟨fH hf hw (iu hN),rfl⟩,trivial,bZ.mS i (λ_=>trivial) _ _ _ _ h1⟩
    | true =>
     simp only at hp
     cases he:evalOp P S o h with
     | none=>rw [he] at hp;cases hp
     | some r =>
      obtain⟨n,v⟩:=r
      simp only [he] at hp
      cases hq:Go.Sx.phase P ops l (S.dO o.dst v) with
      | none=>rw [hq] at hp;cases hp
      | some r =>
       obtain⟨A1,S1⟩:=r
       simp only [hq] at hp
       by_cases hemp:n.isEmpty=true
       ·simp only [hemp,if_true,Option.some.injEq,Prod.mk.injEq] at hp
        obtain⟨rfl,rfl⟩:=hp
        obtain rfl:n=[]:=by simpa using hemp
        intro a hf
        have h1:=M3.phase hN l _ A _ _ hq hA hg (a.put o.dst v) (hf.dO hdo _)
        exact⟨o,v,λ_=>True,ho,.inl ⟨fH hf hw (iu hN),λw' _=>mR hf he trivial⟩,trivial,bZ.mS i (λ_=>trivial) _ _ _ _ h1⟩
       ·simp only [hemp,Bool.false_eq_true,if_false,Option.some.injEq,Prod.mk.injEq] at hp
        obtain⟨rfl,rfl⟩:=hp
        intro a hf
        have h1:=M3.phase hN l _ ((i,n)::A) _ _ hq hA.2 (by simpa using hg) (a.put o.dst v) (hf.dO hdo _)
        exact⟨o,v,λw=>bH w n,ho,.inl ⟨fH hf hw (iu hN),λw' hw'=>mR hf he hw'⟩,hA.1,h1⟩
end
structure bA where
 own:Nat->Prop
 holds:World->Prop
 loc:∀ w w':World,(∀ b,own b->w'.heap[b]?=w.heap[b]?)->holds w->holds w'
structure St (w0:World) (L:List bA) (w:World):Prop where
 os:w.os=w0.os
 tape:w.tape=w0.tape
 output:w.output=w0.output
 holds:∀ A∈L,A.holds w
 lt:∀ A∈L,∀ b,A.own b->b<w.heap.size
 apart:L.Pairwise (λA B=>∀ b,A.own b->¬ B.own b)
namespace St
variable {w0 w w' : World} {L L' : List bA} {A A' B : bA}
theorem tail (h:St w0 (A::L) w):St w0 L w :=
 ⟨h.os,h.tape,h.output,λB hB=>h.holds B (List.mem_cons_of_mem _ hB),λB hB=>h.lt B (List.mem_cons_of_mem _ hB),(List.pairwise_cons.1 h.apart).2⟩
theorem sub (h:St w0 L w) (hs:List.Sublist L' L):St w0 L' w :=
 ⟨h.os,h.tape,h.output,λB hB=>h.holds B (hs.subset hB),λB hB=>h.lt B (hs.subset hB),h.apart.sublist hs⟩
theorem drop (n:Nat) (h:St w0 L w):St w0 (L.drop n) w:=h.sub (List.drop_sublist n L)
theorem perm (h:St w0 L w) (hp:L.Perm L'):St w0 L' w :=
 ⟨h.os,h.tape,h.output,λB hB=>h.holds B (hp.mem_iff.2 hB),λB hB=>h.lt B (hp.mem_iff.2 hB),
  (hp.pairwise_iff (λ{A B} hab b hb ha=>hab b ha hb)).1 h.apart⟩
theorem yJ:∀ {L:List bA}{i:Nat}{A:bA},L[i]?=some A->L.Perm (A::L.eraseIdx i)
 | _::_,0,_,h=>by simp at h;subst h;exact List.Perm.refl _
 | B::L,i+1,A,h=>by
  simp only [List.getElem?_cons_succ] at h
  exact((yJ h).cons B).trans (List.Perm.swap A B _)
theorem pull (h:St w0 L w) (i:Nat) (hi:L[i]?=some A):St w0 (A::L.eraseIdx i) w:=h.perm (yJ hi)
theorem at_ (h:St w0 L w) (i:Nat) (hi:L[i]?=some A):A.holds w:=h.holds A (List.mem_of_getElem? hi)
theorem drew (h:St w0 L w):St w0 L { w with drawn:=w.drawn+1 } :=
 ⟨h.os,h.tape,h.output,λB hB=>B.loc w _ (λ_ _=>rfl) (h.holds B hB),h.lt,h.apart⟩
theorem same (h:St w0 L w) (h1:w'.os=w.os) (h2:w'.tape=w.tape) (h3:w'.output=w.output) (h4:w'.heap=w.heap):St w0 L w' :=
 ⟨h1.trans h.os,h2.trans h.tape,h3.trans h.output,λB hB=>B.loc w w' (λb _=>by rw [h4]) (h.holds B hB),λB hB b hb=>by rw [h4];exact h.lt B hB b hb,h.apart⟩
theorem step (h:St w0 (A::L) w) (h1:w'.os=w.os) (h2:w'.tape=w.tape) (h3:w'.output=w.output) (hsz:w.heap.size<=w'.heap.size)
 (hfr:∀ b,b<w.heap.size->¬ A.own b->w'.heap[b]?=w.heap[b]?) (hA:A'.holds w') (hown:∀ b,A'.own b->(A.own b\/w.heap.size<=b)/\b<w'.heap.size):St w0 (A'::L) w':=by
 have hp:=List.pairwise_cons.1 h.apart
 refine⟨h1.trans h.os,h2.trans h.tape,h3.trans h.output,λB hB=>?_,λB hB b hb=>?_,List.pairwise_cons.2 ⟨λB hB b hb hb'=>?_,hp.2⟩⟩
 ·rcases List.mem_cons.1 hB with rfl|hB
  ·exact hA
  ·refine B.loc w w' (λb hb=>hfr b (h.lt B (List.mem_cons_of_mem _ hB) b hb) λha=>hp.1 B hB b ha hb) (h.holds B (List.mem_cons_of_mem _ hB))
 ·rcases List.mem_cons.1 hB with rfl|hB
  ·exact(hown b hb).2
  ·exact Nat.lt_of_lt_of_le (h.lt B (List.mem_cons_of_mem _ hB) b hb) hsz
 ·have hlt:=h.lt B (List.mem_cons_of_mem _ hB) b hb'
  rcases(hown b hb).1 with ha|hn
  ·exact hp.1 B hB b ha hb'
  ·omega
def nothing:bA:=⟨λ_=>False,λ_=>True,λ_ _ _ _=>trivial⟩
theorem qm (h:St w0 L w):St w0 (nothing::L) w :=
 ⟨h.os,h.tape,h.output,λB hB=>by
  rcases List.mem_cons.1 hB with rfl|hB;· trivial
  ·exact h.holds B hB,
  λB hB b hb=>by
   rcases List.mem_cons.1 hB with rfl|hB;· exact hb.elim
   ·exact h.lt B hB b hb,
  List.pairwise_cons.2 ⟨λ_ _ _ hb=>hb.elim,h.apart⟩⟩
theorem new (h:St w0 L w) (h1:w'.os=w.os) (h2:w'.tape=w.tape) (h3:w'.output=w.output) (hsz:w.heap.size<=w'.heap.size)
 (hfr:∀ b,b<w.heap.size->w'.heap[b]?=w.heap[b]?) (hA:A'.holds w') (hown:∀ b,A'.own b->w.heap.size<=b/\b<w'.heap.size):St w0 (A'::L) w' :=
 step (qm h) h1 h2 h3 hsz (λb hb _=>hfr b hb) hA (λb hb=>⟨.inr (hown b hb).1,(hown b hb).2⟩)
theorem conv (h:St w0 (A::L) w) (hh:A.holds w->A'.holds w) (ho:∀ b,A'.own b->A.own b):St w0 (A'::L) w :=
 step h rfl rfl rfl (Nat.le_refl _) (λ_ _ _=>rfl) (hh (h.holds A (List.mem_cons_self ..))) (λb hb=>⟨.inl (ho b hb),h.lt A (List.mem_cons_self ..) b (ho b hb)⟩)
end St
def bA.and (A B:bA):bA :=
 ⟨λb=>A.own b\/B.own b,λw=>A.holds w/\B.holds w/\∀ b,A.own b->¬ B.own b,λw w' h ⟨h1,h2,h3⟩=>⟨A.loc w w' (λb hb=>h b (.inl hb)) h1,B.loc w w' (λb hb=>h b (.inr hb)) h2,h3⟩⟩
theorem St.join {w0 w:World}{L:List bA}{A B:bA}(h:St w0 (A::B::L) w):St w0 (A.and B::L) w:=by
 have hp:=List.pairwise_cons.1 h.apart
 have hq:=List.pairwise_cons.1 hp.2
 refine⟨h.os,h.tape,h.output,λC hC=>?_,λC hC b hb=>?_,List.pairwise_cons.2 ⟨λC hC b hb hc=>?_,hq.2⟩⟩
 ·rcases List.mem_cons.1 hC with rfl|hC
  ·exact⟨h.holds A zw,h.holds B zw,hp.1 B zw⟩
  ·exact h.holds C (by simp [hC])
 ·rcases List.mem_cons.1 hC with rfl|hC
  ·rcases hb with hb|hb
   ·exact h.lt A zw b hb
   ·exact h.lt B zw b hb
  ·exact h.lt C (by simp [hC]) b hb
 ·rcases hb with hb|hb
  ·exact hp.1 C (by simp [hC]) b hb hc
  ·exact hq.1 C hC b hb hc
theorem St.split {w0 w:World}{L:List bA}{A B:bA}(h:St w0 (A.and B::L) w):St w0 (A::B::L) w:=by
 have hp:=List.pairwise_cons.1 h.apart
 have hAB:=h.holds (A.and B) zw
 refine⟨h.os,h.tape,h.output,λC hC=>?_,λC hC b hb=>?_,List.pairwise_cons.2 ⟨λC hC b hb hc=>?_,List.pairwise_cons.2 ⟨λC hC b hb hc=>?_,hp.2⟩⟩⟩
 ·rcases List.mem_cons.1 hC with rfl|hC
  ·exact hAB.1
  ·rcases List.mem_cons.1 hC with rfl|hC
   ·exact hAB.2.1
   ·exact h.holds C (by simp [hC])
 ·rcases List.mem_cons.1 hC with rfl|hC
  ·exact h.lt (C.and B) zw b (.inl hb)
  ·rcases List.mem_cons.1 hC with rfl|hC
   ·exact h.lt (A.and C) zw b (.inr hb)
   ·exact h.lt C (by simp [hC]) b hb
 ·rcases List.mem_cons.1 hC with rfl|hC
  ·exact hAB.2.2 b hb hc
  ·exact hp.1 C hC b (.inl hb) hc
 ·exact hp.1 C hC b (.inr hb) hc
def aB (b:Nat) (cs:Array Value) (T:TypeId):bA :=
 ⟨λk=>k=b,λw=>∃ fr:Nat×Nat,w.heap[b]?=some (.cells cs T fr)/\∀ i,i<cs.size->¬ (fr.1<=i/\i<fr.2),λw w' h ⟨fr,h1,h2⟩=>⟨fr,(h b rfl).trans h1,h2⟩⟩
def eK (b:Nat) (o:Obj):bA:=⟨λk=>k=b,λw=>w.heap[b]?=some o,λw w' h h1=>(h b rfl).trans h1⟩
def AQ (W:World):bA:=⟨λk=>k<W.heap.size,λw=>∀ k,k<W.heap.size->w.heap[k]?=W.heap[k]?,λw w' h h1 k hk=>(h k hk).trans (h1 k hk)⟩
theorem dI (b off n:Nat):(Addr.mk b off none).add n=⟨b,off+n,none⟩:=by
 unfold Addr.add
 split
 ·rename_i h;subst h;rfl
 ·rfl
theorem aB.cell {b:Nat}{cs:Array Value}{T:TypeId}{w:World}(h:(aB b cs T).holds w) (off:Nat):w.cell? ⟨b,off,none⟩=cs[off]?:=by
 obtain⟨fr,h1,_⟩:=h
 simp [World.cell?,h1]
theorem St.cell {w0 w:World}{L:List bA}(h:St w0 L w) (i:Nat){b:Nat}{cs:Array Value}{T:TypeId}{off:Nat}{v:Value}(hi:L[i]?=some (aB b cs T)) (hv:cs[off]?=some v) :
 w.cell? ⟨b,off,none⟩=some v:=(aB.cell (h.at_ i hi) off).trans hv
theorem St.cells {w0 w:World}{L:List bA}(h:St w0 L w) (i:Nat){b:Nat}{cs:Array Value}{T:TypeId}(off:Nat){vs:Array Value}(hi:L[i]?=some (aB b cs T)) (hv:cs.extract off (off+vs.size)=vs) :
 ∀ j,j<vs.size->w.cell? ((Addr.mk b off none).add j)=vs[j]?:=by
 intro j hj
 rw [dI,aB.cell (h.at_ i hi)]
 have h1:(cs.extract off (off+vs.size))[j]?=vs[j]?:=by rw [hv]
 rw [<- h1,Array.getElem?_extract]
 have h2:=congrArg Array.size hv
 simp only [Array.size_extract] at h2
 rw [if_pos za]
theorem St.base {w0 w W:World}{L:List bA}(h:St w0 L w) (i:Nat) (hi:L[i]?=some (AQ W)){p:Addr}{v:Value}(hv:W.cell? p=some v):w.cell? p=some v:=by
 have h1:=h.at_ i hi
 have hlt:p.block<W.heap.size:=World.block_lt_of_cell? W p hv
 rw [<- hv]
 exact World.cell?_of_block (w:=W) (h1 p.block hlt)
inductive fQ where
 | code (c:Code)
 | cN (id:Nat)
 | lp (I:Act->World->Prop)
def KQ (P:Program) (N:Fr) (R0:Exit->Act->World->Prop):List fQ->Exit->Act->World->Prop
 | []=>R0
 | .code c::k=>Exit.then (c.wpIn (cS N.r) 0 P (KQ P N R0 k)) (KQ P N R0 k)
 | .cN id::k=>Exit.inBlock id (KQ P N R0 k)
 | .lp I::k=>Exit.then I (KQ P N R0 k)
def tV (Q:Exit->Act->World->Prop):Prop:=∀ c a w,¬ Q (.panic c) a w
theorem KQ.qY {P:Program}{N:Fr}{R0:Exit->Act->World->Prop}(h:tV R0):∀ K,tV (KQ P N R0 K)
 | []=>h
 | .code _::k=>λc a w hq=>KQ.qY h k c a w hq
 | .cN _::k=>λc a w hq=>KQ.qY h k c a w hq
 | .lp _::k=>λc a w hq=>KQ.qY h k c a w hq
def aX (P:Program) (R0:Exit->Act->World->Prop) (N:Fr) (K:List fQ) (c:Code) (S:Env) (w:World):Prop:=∀ a,Fits N S a->c.wpIn (cS N.r) 0 P (KQ P N R0 K) a w
def aS (P:Program) (R0:Exit->Act->World->Prop) (N:Fr) (K:List fQ) (e:Exit) (S:Env) (w:World):Prop:=∀ a,Fits N S a->KQ P N R0 K e a w
section rules
variable {P : Program} {R0 : Exit -> Act -> World -> Prop} {N : Fr} {K : List fQ} {S : Env} {w : World}
theorem aX.seq {x y:Code}(h:aX P R0 N (.code y::K) x S w):aX P R0 N K (.seq x y) S w:=λa hf=>wpIn_seq (h a hf)
theorem aX.block {id:Nat}{c:Code}(h:aX P R0 N (.cN id::K) c S w):aX P R0 N K (.block id c) S w:=λa hf=>wpIn_block (h a hf)
theorem aX.skip (h:aS P R0 N K .normal S w):aX P R0 N K .skip S w:=λa hf=>wpIn_skip (h a hf)
theorem aX.label {l:Nat}(h:aS P R0 N K .normal S w):aX P R0 N K (.label l) S w:=λa hf=>wpIn_label (h a hf)
theorem aX.exit {id:Nat}(h:aS P R0 N K (.exit id) S w):aX P R0 N K (.exit id) S w:=λa hf=>wpIn_exit (h a hf)
theorem aX.ret (h:aS P R0 N K .ret S w):aX P R0 N K .ret S w:=λa hf=>wpIn_ret (h a hf)
theorem aX.cond {c:Operand}{x y:Code}{t:Bool}(hc:S.op c=some (.bool t)) (h1:t=true->aX P R0 N K x S w) (h2:t=false->aX P R0 N K y S w):aX P R0 N K (.cond c x y) S w :=
 λa hf=>wpIn_cond_split (hf.op hc) (λh=>h1 h a hf) (λh=>h2 h a hf)
theorem aX.JC {c:Operand}{x y:Code}(hc:S.op c=some (.bool true)) (h1:aX P R0 N K x S w):aX P R0 N K (.cond c x y) S w :=
 aX.cond hc (λ_=>h1) (λh=>by cases h)
theorem aX.JD {c:Operand}{x y:Code}(hc:S.op c=some (.bool false)) (h1:aX P R0 N K y S w):aX P R0 N K (.cond c x y) S w :=
 aX.cond hc (λh=>by cases h) (λ_=>h1)
theorem aX.pick {c:Code}(ks:List Nat){S':Env}(he:S.pick ks=S') (h:aX P R0 N K c S' w):aX P R0 N K c S w:=λa hf=>h a (he▸hf.pick ks)
theorem aX.gL {c:Code}{S':Env}(he:S=S') (h:aX P R0 N K c S' w):aX P R0 N K c S w:=he▸h
theorem aS.qo {y:Code}(h:aX P R0 N K y S w):aS P R0 N (.code y::K) .normal S w:=h
theorem aS.eQ {y:Code}{id:Nat}(h:aS P R0 N K (.exit id) S w):aS P R0 N (.code y::K) (.exit id) S w:=h
theorem aS.eR {I:Act->World->Prop}{id:Nat}(h:aS P R0 N K (.exit id) S w):aS P R0 N (.lp I::K) (.exit id) S w:=h
theorem aS.NB {I:Act->World->Prop}(h:aS P R0 N K .ret S w):aS P R0 N (.lp I::K) .ret S w:=h
theorem aS.kI {id:Nat}(h:aS P R0 N K .normal S w):aS P R0 N (.cN id::K) (.exit id) S w:=λa hf=>by
 show(if id=id then KQ P N R0 K .normal a w else KQ P N R0 K (.exit id) a w)
 rw [if_pos rfl]
 exact h a hf
def M4 {T:Type}(N:Fr) (E:T->Env) (F:T->World->Prop) (mu:T->Nat) (m:Nat):Act->World->Prop:=λa w=>∃ x,mu x<m/\Fits N (E x) a/\F x w
theorem jm {r:Option Nat}{T:Type}{c:Code}{Q:Exit->Act->World->Prop}(I:T->Act->World->Prop) (mu:T->Nat) (round:∀ x a w,I x a w->c.wpIn (cS r) 0 P (Exit.then (λa' w'=>∃ x',mu x' < mu x/\I x' a' w') Q) a w) :
 ∀ (x:T) (a:Act) (w:World),I x a w->(Code.loop c).wpIn (cS r) 0 P Q a w:=by
 intro x a w h0 b k cs hro hb hr
 have key:∀ n x a w,mu x=n->I x a w->∃ e a' w',Q e a' w'/\ArrivesIn (Machine.fenced P (cS r)) P (lone (b.atR a (.code c::.inLoop c::k)) cs w) b k cs e a' w':=by
  intro n
  induction n using Nat.strongRecOn with
  | _ n ih =>
   intro x a w hn hI
   obtain⟨e,a1,w1,hq,harr⟩:=round x a w hI b (.inLoop c::k) cs hro hb hr
   cases e with
   | normal =>
    obtain⟨x',hlt,hI1⟩:=hq
    obtain⟨e2,a2,w2,hq2,harr2⟩:=ih (mu x') (hn▸hlt) x' a1 w1 rfl hI1
    exact⟨e2,a2,w2,hq2,.of_steps (StepsIn.trans harr (.one (fenced_calm hb hr rfl) stepR_inLoop)) harr2⟩
   | exit id=>exact⟨_,a1,w1,hq,.pass (x:=.inLoop c) rfl (λ_ _=>.inl zw) harr⟩
   | goto l=>exact⟨_,a1,w1,hq,.pass (x:=.inLoop c) rfl (λ_ _=>.inl zw) harr⟩
   | ret=>exact⟨_,a1,w1,hq,.pass (x:=.inLoop c) rfl (λ_ _=>.inl zw) harr⟩
   | panic ch=>exact⟨_,a1,w1,hq,.pass (x:=.inLoop c) rfl (λ_ _=>.inl zw) harr⟩
   | outgrown=>exact⟨_,a1,w1,hq,.pass (x:=.inLoop c) rfl (λ_ _=>.inl zw) harr⟩
 obtain⟨e,a',w',hq,harr⟩:=key _ x a w rfl h0
 exact⟨e,a',w',hq,.of_steps (.one (fenced_calm hb hr rfl) stepR_loop) harr⟩
theorem aX.loop {T:Type}{c:Code}(E:T->Env) (F:T->World->Prop) (mu:T->Nat) (x0:T) (ks:List Nat) (hE:S.pick ks=E x0) (h0:F x0 w)
 (round:∀ x w,F x w->aX P R0 N (.lp (M4 N E F mu (mu x))::K) c (E x) w):aX P R0 N K (.loop c) S w:=λa hf =>
 jm (λx a w=>Fits N (E x) a/\F x w) mu (λx a w h=>round x w h.2 a h.1) x0 a w ⟨hE▸hf.pick ks,h0⟩
theorem aS.back {T:Type}{E:T->Env}{F:T->World->Prop}{mu:T->Nat}{m:Nat}(x:T) (ks:List Nat) (hE:S.pick ks=E x) (hmu:mu x<m) (hF:F x w):aS P R0 N (.lp (M4 N E F mu m)::K) .normal S w :=
 λ_ hf=>⟨x,hmu,hE▸hf.pick ks,hF⟩
def eD (φ:Value->World->Prop):Ending->World->Prop
 | .returned v,w=>φ v w
 | _,_=>False
theorem aZ {fn:Func}{φ:Value->World->Prop}:tV (bodyPost P fn (eD φ)):=λ_ _ _ h=>h.2
theorem aS.done {N:Nat}{fn:Func}{φ:Value->World->Prop}{e:Exit}(he:e=.ret\/e=.normal){v:Value}(hr:∀ a,Fits ⟨N,[],none⟩ S a->(results fn a.tmps).run P w=.ok v w) (h:φ v w):aS P (bodyPost P fn (eD φ)) ⟨N,[],none⟩ [] e S w:=by
 rcases he with rfl|rfl
 ·exact λa hf=>⟨hf.defers,v,hr a hf,h⟩
 ·exact λa hf=>⟨hf.defers,v,hr a hf,h⟩
theorem results0 {fn:Func}(hr:fn.results=#[]) (a:Act) (_:Fits N S a):(results fn a.tmps).run P w=.ok (.tuple #[]) w:=results_none hr _ _ _
theorem results1 {fn:Func}{t:Tmp}{v:Value}(hr:fn.results=#[.tmp t]) (hv:S.get t=some v) (a:Act) (hf:Fits N S a):(results fn a.tmps).run P w=.ok v w:=by
 rw [results_tmp hr,hf.get hv]
theorem results2 {fn:Func}{t u:Tmp}{v v':Value}(hr:fn.results=#[.tmp t,.tmp u]) (hv:S.get t=some v) (hu:S.get u=some v') (a:Act) (hf:Fits N S a):(results fn a.tmps).run P w=.ok (.tuple #[v,v']) w:=by
 rw [results_tmp2 hr,hf.get hv,hf.get hu]
def vu (k:Nat):List Value->Env
 | []=>[]
 | v::l=>(k,v)::vu (k+1) l
theorem nU:∀ (l:List Value) (k:Nat) (p:Nat×Value),p∈vu k l->k<=p.1/\l[p.1-k]?=some p.2
 | v::l,k,p,h=>by
  rcases List.mem_cons.1 h with rfl|h
  ·simp
  ·obtain⟨h1,h2⟩:=nU l (k+1) p h
   refine⟨za,?_⟩
   rw [show p.1-k=(p.1-(k+1))+1 from by omega,List.getElem?_cons_succ]
   exact h2
theorem enter {N:Nat}{f:FuncId}{fn:Func}{c:Code}{args:List Value}{φ:Value->World->Prop}(hf:P.funcs[f]?=some fn) (hb:fn.body=some c) (hn:fn.ntmps=N) (hl:args.length<=N)
 (h:aX P (bodyPost P fn (eD φ)) ⟨N,[],none⟩ [] c (vu 0 args) w):Calls P f args.toArray w (eD φ):=by
 refine calls_of_wp hf hb (wpIn_wide.1 (h _ ⟨rfl,by simp [hn];omega,λp hp=>?_⟩))
 obtain⟨_,h2⟩:=nU args 0 p hp
 simp only [Nat.sub_zero] at h2
 have h3:p.1<args.length:=(List.getElem?_eq_some_iff.1 h2).1
 simp only [Array.getD_eq_getD_getElem?]
 rw [Array.getElem?_append_left (by simpa using h3)]
 simp [h2]
end rules
theorem Calls.ret {P:Program}{f:FuncId}{args:Array Value}{w:World}{φ ψ:Value->World->Prop}(h:Calls P f args w (eD φ)) (hm:∀ v w',φ v w'->ψ v w'):Calls P f args w (eD ψ) :=
 Calls.mono h λe w' he=>by
  cases e with
  | returned v=>exact hm v w' he
  | panicked c=>exact he.elim
  | outgrown=>exact he.elim
def aL (P:Program) (l:List Oper) (M:List Nat) (R0:Exit->Act->World->Prop) (K:List fQ) (N:Fr) (A:dN) (rest:PT) (S:Env) (w:World):Prop :=
 mi N l.toArray=true->M3 P l.toArray M (KQ P N R0 K) N A rest S w
section
variable {P : Program} {R0 : Exit -> Act -> World -> Prop} {N : Fr} {K : List fQ} {S : Env} {w w0 : World} {l : List Oper} {M : List Nat} {A : dN} {rest : PT} {L : List bA}
theorem aX.jT {id:Nat}(M:List Nat) (p:PT) (hp:p.idxs=List.range l.length) (hN:mi N l.toArray=true) (h:aL P l M R0 K N [] p S w):aX P R0 N K (.region id l.toArray false) S w :=
 λa hf=>uM p (by simpa using hp) (h hN a hf)
theorem aX.fI {id:Nat}(M:List Nat) (p:PT) (hm:P.follows .mixedOrders=true) (hok:qj l.toArray M p=true) (hR:tV R0) (hN:mi N l.toArray=true) (hs:St w0 L w)
 (h:∀ w1,St w0 L w1->w1.heap=w.heap->aL P l M R0 K N [] p S w1):aX P R0 N K (.region id l.toArray true) S w :=
 λa hf=>kp M p hm hok (KQ.qY hR K) (h _ hs.drew rfl hN a hf)
theorem aL.done (h:aS P R0 N K .normal S w):aL P l M R0 K N A .done S w:=λ_ a hf=>h a hf
theorem aL.alt {x y:PT}(h1:aL P l M R0 K N A x S w) (h2:aL P l M R0 K N A y S w):aL P l M R0 K N A (.alt x y) S w:=λhN a hf=>⟨h1 hN a hf,h2 hN a hf⟩
theorem aL.phase (hs:List (Nat×Hint)){rest':PT}(A':dN) (S':Env) (h1:phase P l.toArray hs S=some (A',S')) (hr:gE (hs.map λx=>x.1) rest=rest') (h2:jP w A') (h3:aL P l M R0 K N (A'.reverse++A) rest S' w) :
 aL P l M R0 K N A rest' S w:=λhN=>by
 rw [<- hr]
 exact M3.phase hN hs S A A' S' h1 h2 (h3 hN)
theorem aL.pick (ks:List Nat){S':Env}(he:S.pick ks=S') (h:aL P l M R0 K N A rest S' w):aL P l M R0 K N A rest S w:=λhN a hf=>h hN a (he▸hf.pick ks)
theorem aL.gL {S':Env}(he:S=S') (h:aL P l M R0 K N A rest S' w):aL P l M R0 K N A rest S w:=he▸h
def opens (M:List Nat) (A:dN) (i:Nat):List fG:=(A.filter λx=>!Cw M x.1 i).flatMap (·.2)
theorem nV {i:Nat}(h:bH w (opens M A i)):∀ x∈A.reads,Cw M x.1 i=false->x.2 w:=by
 intro x hx ha
 obtain⟨y,hy,rfl⟩:=List.mem_map.1 hx
 exact kN λn hn=>pn h n (List.mem_flatMap.2 ⟨y,List.mem_filter.2 ⟨hy,by simp only at ha;simp [ha]⟩,hn⟩)
theorem aL.read {i:Nat}{o:Oper}(ho:l[i]?=some o) (hw:cZ l.toArray S o=some true) (n:List fG) (v:Value) (hv:∀ a w,Fits N S a->bH w n->(execOp a.eval o).run P w=.ok (.value v) w) (hn:bH w n)
 (h:aL P l M R0 K N ((i,n)::A) rest (S.dO o.dst v) w):aL P l M R0 K N A (.rd i rest) S w:=λhN a hf =>
 ⟨o,v,λw=>bH w n,by simpa using ho,.inl ⟨fH hf hw (iu hN),λw' hw'=>hv a w' hf hw'⟩,hn,h hN _ (hf.dO (gx hN i o (by simpa using ho)) v)⟩
theorem aL.skip {i:Nat}{o:Oper}(ho:l[i]?=some o) (hw:cZ l.toArray S o=some false) (hO:bH w (opens M A i)) (h:aL P l M R0 K N A rest (S.dO o.dst undef) w):aL P l M R0 K N A (.ef i rest) S w:=λhN a hf=>by
 have ho':l.toArray[i]?=some o:=by simpa using ho
 exact bZ.ef (yH ho' (fH hf hw (iu hN)) ⟨nV hO,h hN _ (hf.dO (gx hN i o ho') undef)⟩)
theorem aL.run {i:Nat}{o:Oper}(ho:l[i]?=some o) (hw:cZ l.toArray S o=some true) (v:Value) (w':World)
 (hv:∀ a,Fits N S a->(execOp a.eval o).run P w=.ok (.value v) w'\/((execOp a.eval o).run P w=.ok .skip w'/\v=undef)) (hO:bH w' (opens M A i))
 (h:aL P l M R0 K N A rest (S.dO o.dst v) w'):aL P l M R0 K N A (.ef i rest) S w:=λhN a hf=>by
 have ho':l.toArray[i]?=some o:=by simpa using ho
 refine bZ.ef (vm ho' (fH hf hw (iu hN)) (λc hc=>?_) ?_)
 ·rcases hv a hf with h1|h1
  ·obtain⟨d,hd⟩:=pk hc h1;cases hd
  ·obtain⟨d,hd⟩:=pk hc h1.1;cases hd
 unfold Oper.wp
 have hk:=h hN _ (hf.dO (gx hN i o ho') v)
 rcases hv a hf with h1|⟨h1,h2⟩
 ·rw [h1];exact⟨nV hO,hk⟩
 ·subst h2
  rw [h1];exact⟨nV hO,hk⟩
def mz (S:Env) (c:Call):Option (FuncId×Array Value) :=
 match c.callee with
 | .value x =>
  match S.op x,S.ops c.args.toList with
  | some (.func (.func f) fst cap),some vs=>some (f,(fst.toList++vs++cap.toList).toArray)
  | _,_=>none
 | _=>none
theorem JF {a:Act}(hf:Fits N S a){o:Oper}{c:Call}{f:FuncId}{args:Array Value}(hop:o.op=.call c) (hc:mz S c=some (f,args))
 (hcall:∀ args w,(callFunc f args).run P w=.ok (.enter f args) w):(execOp a.eval o).run P w=.ok (.enter f args) w:=by
 unfold mz at hc
 split at hc
 ·rename_i x hx
  split at hc
  ·rename_i f' fst cap vs h1 h2
   simp only [Option.some.injEq,Prod.mk.injEq] at hc
   obtain⟨rfl,rfl⟩:=hc
   have h1':=hf.op h1
   have h2':=hf.ops h2
   have h3:c.args.map a.eval=vs.toArray:=by
    rw [<- h2']
    apply Array.ext'
    simp
   generalize a.eval=ρ at h1' h3 ⊢
   simp [execOp,hop,resolve,hx,h1',h3,Deferred.ofValue,invoke,go_sem]
   have h5:fst++(vs.toArray++cap)=(fst.toList++(vs++cap.toList)).toArray:=by
    apply Array.ext'
    simp
   rw [h5]
   exact hcall _ _
  ·cases hc
 ·cases hc
theorem aL.call {i:Nat}{o:Oper}{c:Call}(ho:l[i]?=some o) (hop:o.op=.call c) (hw:cZ l.toArray S o=some true){f:FuncId}{args:Array Value}(hc:mz S c=some (f,args))
 (hcall:∀ args w,(callFunc f args).run P w=.ok (.enter f args) w){φ:Value->World->Prop}(spec:Calls P f args w (eD φ))
 (h:∀ v w',φ v w'->bH w' (opens M A i)/\aL P l M R0 K N A rest (S.dO o.dst v) w'):aL P l M R0 K N A (.ef i rest) S w:=λhN a hf=>by
 have ho':l.toArray[i]?=some o:=by simpa using ho
 refine bZ.ef (vm ho' (fH hf hw (iu hN)) (λc hc=>by rw [hop] at hc;cases hc) ?_)
 unfold Oper.wp
 rw [JF hf hop hc hcall]
 refine Calls.mono spec λe w' he=>?_
 cases e with
 | returned v =>
  obtain⟨h1,h2⟩:=h v w' he
  exact⟨nV h1,h2 hN _ (hf.dO (gx hN i o ho') v)⟩
 | panicked c=>exact he.elim
 | outgrown=>exact he.elim
theorem St.gM (hs:St w0 L w) (cs:Array Value) (T:TypeId):St w0 (aB w.heap.size cs T::L) { w with heap:=w.heap.push (.cells cs T) }:=by
 refine St.new hs rfl rfl rfl zw (λb hb=>?_) ⟨(0,0),by simp,λi _ h=>by simp at h⟩ (λb hb=>?_)
 ·simp only [Array.getElem?_push];rw [if_neg za]
 ·have:b=w.heap.size:=hb
  subst this
  simp
theorem St.AR (hs:St w0 L w) (o:Obj):St w0 (eK w.heap.size o::L) { w with heap:=w.heap.push o }:=by
 refine St.new hs rfl rfl rfl zw (λb hb=>?_) (show(w.heap.push o)[w.heap.size]?=some o by simp) (λb hb=>?_)
 ·simp only [Array.getElem?_push];rw [if_neg za]
 ·have:b=w.heap.size:=hb
  subst this
  simp
theorem aL.box {i:Nat}{o:Oper}{T:TypeId}{x:Operand}(ho:l[i]?=some o) (hop:o.op=.box T x) (hw:cZ l.toArray S o=some true){v:Value}(hx:S.op x=some v) (hs:St w0 L w){cs:Array Value}(hcs:v.cells=cs)
 (h:∀ b w',St w0 (aB b cs T::L) w'->bH w' (opens M A i)/\aL P l M R0 K N A rest (S.dO o.dst (.pointer (some ⟨b,0,none⟩))) w'):aL P l M R0 K N A (.ef i rest) S w:=by
 subst hcs
 obtain⟨h1,h2⟩:=h _ _ (hs.gM v.cells T)
 refine aL.run ho hw _ _ (λa hf=>.inl ?_) h1 h2
 have hx':=hf.op hx
 generalize a.eval=ρ at hx' ⊢
 simp [execOp,hop,Instr.box,newVar,newRow,newObj,hx',Sem.run,bind,Sem.bind,pure]
theorem aL.alloc {i:Nat}{o:Oper}{T:TypeId}(ho:l[i]?=some o) (hop:o.op=.alloc T) (hw:cZ l.toArray S o=some true){z:Value}(hz:(P.info? T).bind (·.zero)=some z) (hs:St w0 L w){cs:Array Value}(hcs:z.cells=cs)
 (h:∀ b w',St w0 (aB b cs T::L) w'->bH w' (opens M A i)/\aL P l M R0 K N A rest (S.dO o.dst (.pointer (some ⟨b,0,none⟩))) w'):aL P l M R0 K N A (.ef i rest) S w:=by
 subst hcs
 obtain⟨h1,h2⟩:=h _ _ (hs.gM z.cells T)
 refine aL.run ho hw _ _ (λa hf=>.inl ?_) h1 h2
 cases hi:P.info? T with
 | none=>rw [hi] at hz;cases hz
 | some ti =>
  rw [hi] at hz
  simp only [Option.bind_some] at hz
  simp [execOp,hop,Instr.alloc,zeroValue,typeInfo,program,hi,hz,newVar,newRow,newObj,Sem.run,bind,Sem.bind,pure]
def aV (cs:Array Value) (off:Nat):List Value->Array Value
 | []=>cs
 | v::vs=>aV (cs.setIfInBounds off v) (off+1) vs
theorem lQ:∀ (vs:List Value) (cs:Array Value) (off:Nat),(aV cs off vs).size=cs.size
 | [],_,_=>rfl
 | v::vs,cs,off=>by simp [aV,lQ vs]
def qZ:Value->Bool
 | .agg _=>false
 | .tuple _=>false
 | _=>true
def dw (w:World) (b:Nat) (o:Obj):World:={ w with heap:=w.heap.setIfInBounds b o }
theorem fV {b:Nat}{T:TypeId}:∀ (vs:List Value) (w:World) (cs:Array Value) (fr:Nat×Nat) (off i:Nat),w.heap[b]?=some (.cells cs T fr)->(∀ j,j<cs.size->¬ (fr.1<=j/\j<fr.2)) ->
 off+i+vs.length<=cs.size->(vs.all qZ)=true->(storeCells ⟨b,off,none⟩ vs i).run P w=.ok () (dw w b (.cells (aV cs (off+i) vs) T fr))
 | [],w,cs,fr,off,i,hb,_,_,_=>by
  have hlt:b<w.heap.size:=(Array.getElem?_eq_some_iff.1 hb).1
  have:w.heap.setIfInBounds b (.cells cs T fr)=w.heap:=by
   apply Array.ext_getElem?
   intro k
   rw [Array.getElem?_setIfInBounds]
   split
   ·rename_i h;subst h;exact hb.symm
   ·rfl
  simp [storeCells,aV,dw,this,pure,Sem.run]
 | v::vs,w,cs,fr,off,i,hb,hfr,hl,h1=>by
  simp only [List.length_cons] at hl
  simp only [List.all_cons,Bool.and_eq_true] at h1
  have hlt:b<w.heap.size:=(Array.getElem?_eq_some_iff.1 hb).1
  have hc:w.cell? ⟨b,off+i,none⟩=some (cs[off+i]' za):=by
   simp [World.cell?,hb]
  have hz:w.frozen? ⟨b,off+i,none⟩=false:=by
   have:=hfr (off+i) za
   simp only [World.frozen?,hb]
   simpa using this
  have hset:w.setCell ⟨b,off+i,none⟩ v=dw w b (.cells (cs.setIfInBounds (off+i) v) T fr):=by
   unfold World.setCell dw
   congr 1
   apply Array.ext_getElem?
   intro k
   rw [Array.getElem?_setIfInBounds,Array.getElem?_modify]
   split
   ·rename_i h;subst h;show Option.map _ w.heap[b]?=_;rw [hb];simp
   ·rfl
  have hb':(dw w b (.cells (cs.setIfInBounds (off+i) v) T fr)).heap[b]?=some (.cells (cs.setIfInBounds (off+i) v) T fr):=by
   simp [dw,hlt]
  have ih:=fV vs (dw w b (.cells (cs.setIfInBounds (off+i) v) T fr)) (cs.setIfInBounds (off+i) v) fr off (i+1) hb' (by simpa using hfr) zO h1.2
  have hpp:dw (dw w b (.cells (cs.setIfInBounds (off+i) v) T fr)) b (.cells (aV (cs.setIfInBounds (off+i) v) (off+(i+1)) vs) T fr)=dw w b (.cells (aV cs (off+i) (v::vs)) T fr):=by
   simp [dw,aV,Nat.add_assoc]
  rw [hpp] at ih
  have hrun:∀ (k:Sem Unit),(Sem.store .plain ⟨b,off+i,none⟩ v k).run P w=k.run P (w.setCell ⟨b,off+i,none⟩ v):=by
   intro k
   cases v<;>first
    | (exfalso;simp [qZ] at h1;done)
    | simp [Sem.run,hc,hz]
  simp only [storeCells,store,dI,bind,Sem.bind]
  rw [hrun,hset]
  exact ih
theorem St.put {b:Nat}{cs:Array Value}{T:TypeId}(hs:St w0 (aB b cs T::L) w){fr:Nat×Nat}(hb:w.heap[b]?=some (.cells cs T fr)) (hfr:∀ j,j<cs.size->¬ (fr.1<=j/\j<fr.2)){cs':Array Value}(hsz:cs'.size=cs.size):St w0 (aB b cs' T::L) (dw w b (.cells cs' T fr)):=by
 have hlt:b<w.heap.size:=(Array.getElem?_eq_some_iff.1 hb).1
 refine St.step hs rfl rfl rfl (by simp [dw]) (λk hk hn=>?_) ⟨fr,by simp [dw,hlt],by rw [hsz];exact hfr⟩ (λk hk=>⟨.inl hk,?_⟩)
 ·simp only [dw,Array.getElem?_setIfInBounds]
  rw [if_neg (λe=>hn e.symm)]
 ·have:k=b:=hk
  subst this
  simpa [dw] using hlt
theorem vy:∀ {L:List bA}{j:Nat}{A:bA}(B:bA),L[j]?=some A->(B::L.eraseIdx j).Perm (L.set j B)
 | _::_,0,_,B,_=>List.Perm.refl _
 | C::L,j+1,A,B,h=>by
  simp only [List.getElem?_cons_succ] at h
  exact(List.Perm.swap C B _).trans ((vy B h).cons C)
theorem aL.store {i:Nat}{o:Oper}{t:TypeId}{x y:Operand}(ho:l[i]?=some o) (hop:o.op=.store t x y) (hw:cZ l.toArray S o=some true){b off:Nat}{v:Value}{ti:TypeInfo}
 (hx:S.op x=some (.pointer (some ⟨b,off,none⟩))) (hy:S.op y=some v) (ht:P.info? t=some ti) (hs:St w0 L w) (j:Nat){cs:Array Value}{T:TypeId}(hj:L[j]?=some (aB b cs T))
 (hsz:v.cells.size=ti.size) (h1:v.cells.toList.all qZ=true) (hoff:off+v.cells.size<=cs.size){cs':Array Value}{L':List bA}(hcs:aV cs off v.cells.toList=cs') (hL:L.set j (aB b cs' T)=L')
 (h:∀ w',St w0 L' w'->bH w' (opens M A i)/\aL P l M R0 K N A rest (S.dO o.dst undef) w'):aL P l M R0 K N A (.ef i rest) S w:=by
 have hp:=hs.pull j hj
 obtain⟨fr,hb,hfr⟩:=hp.holds (aB b cs T) zw
 have hput:=St.put hp hb hfr (cs':=cs') (by rw [<- hcs,lQ])
 obtain⟨k1,k2⟩:=h _ (hL▸hput.perm (vy _ hj))
 refine aL.run ho hw _ _ (λa hf=>.inr ⟨?_,rfl⟩) k1 k2
 have hx':=hf.op hx
 have hy':=hf.op hy
 have hr:=fV (P:=P) v.cells.toList w cs fr off 0 hb hfr (by simpa using hoff) h1
 simp only [Nat.add_zero,hcs] at hr
 generalize a.eval=ρ at hx' hy' ⊢
 have h2:(storeVar t ⟨b,off,none⟩ v).run P w=.ok () (dw w b (.cells cs' T fr)):=by
  simp only [storeVar,sizeOf,typeInfo,program,bind,Sem.bind,Sem.run,ht,pure]
  rw [if_neg (by simpa using hsz)]
  exact hr
 simp [execOp,hop,Instr.storeAt,hx',hy',Instr.sureAddr,bind,Sem.bind,pure]
 rw [Sem.run_bind',h2]
 rfl
end
section
variable {w : World}
theorem aR:bH w []:=trivial
theorem bE {p:Addr}{v:Value}{l:List fG}(h:w.cell? p=some v) (t:bH w l):bH w (.cell p v::l):=⟨h,t⟩
theorem iN {p:Addr}{vs:Array Value}{l:List fG}(h:∀ i,i<vs.size->w.cell? (p.add i)=vs[i]?) (t:bH w l):bH w (.cells p vs::l):=⟨h,t⟩
theorem aJ {p:Prop}{l:List fG}(h:p) (t:bH w l):bH w (.prop p::l):=⟨h,t⟩
theorem iF:jP w []:=trivial
theorem ak {i:Nat}{n:List fG}{A:dN}(h:bH w n) (t:jP w A):jP w ((i,n)::A):=⟨h,t⟩
theorem yc {M:List Nat}{A:dN}{i:Nat}(h:opens M A i=[]):bH w (opens M A i):=by rw [h];trivial
theorem gR {M:List Nat}{A:dN}{i:Nat}{n:List fG}(h:opens M A i=n) (hn:bH w n):bH w (opens M A i):=h▸hn
end
theorem sA {x:Bool}(h:(!x)=true):x=false:=by cases x<;>simp_all
theorem pK {x:Bool}(h:(!x)=false):x=true:=by cases x<;>simp_all
theorem kr {x y:Int}(h:(x == y)=true):x=y:=by simpa using h
theorem lf {x y:Int}(h:(x == y)=false):¬ x=y:=by simpa using h
theorem E2 {x y:Int}(h:(x != y)=true):¬ x=y:=by simpa using h
theorem E3 {x y:Int}(h:(x != y)=false):x=y:=by simpa using h
theorem uP {n:Int}(h1:-9223372036854775808<=n) (h2:n<9223372036854775808):IntKind.i64.wrap n=n:=by
 rw [IntKind.wrap_i64];omega
theorem iD {n:Int}(h1:-9223372036854775808<=n) (h2:n<9223372036854775808):Value.int .i64 (IntKind.i64.wrap n)=Value.int .i64 n:=by rw [uP h1 h2]
theorem ct {n m:Int}(h:n=m) (h1:-9223372036854775808<=m) (h2:m<9223372036854775808):Value.int .i64 (IntKind.i64.wrap n)=Value.int .i64 m:=by rw [h,uP h1 h2]
theorem OG {n:Int}(h1:0<=n) (h2:n<18446744073709551616):IntKind.u64.wrap n=n:=by
 rw [IntKind.wrap_u64];omega
theorem pQ {n:Int}(h1:0<=n) (h2:n<18446744073709551616):Value.int .u64 (IntKind.u64.wrap n)=Value.int .u64 n:=by rw [OG h1 h2]
theorem PY {n:Int}(h1:0<=n) (h2:n<65536):IntKind.u16.wrap n=n:=by
 rw [IntKind.wrap_u16];omega
theorem M5 {n:Int}(h1:0<=n) (h2:n<65536):Value.int .u16 (IntKind.u16.wrap n)=Value.int .u16 n:=by rw [PY h1 h2]
theorem Rc {n:Int}(h1:0<=n) (h2:n<256):IntKind.u8.wrap n=n:=by
 rw [IntKind.wrap_u8];omega
theorem PZ {n:Int}(h1:0<=n) (h2:n<256):Value.int .u8 (IntKind.u8.wrap n)=Value.int .u8 n:=by rw [Rc h1 h2]
theorem aU (b off n:Nat):Value.pointer (some ((Addr.mk b off none).add n))=.pointer (some ⟨b,off+n,none⟩):=by rw [dI]
def aC (W:World) (ad:Option Addr) (n size:Nat) (cell:Nat->Array Value):Prop :=
 0<n->∃ b off,ad=some ⟨b,off,none⟩/\∀ k,k<n->∀ j,j<size->W.cell? ⟨b,off+k*size+j,none⟩=(cell k)[j]?
theorem St.below {w W:World}{L:List bA}(h:St W L w) (i:Nat) (hi:L[i]?=some (AQ W)):Below W.heap.size W w:=by
 refine⟨h.os,h.tape,h.output,?_,h.at_ i hi⟩
 cases hz:W.heap.size with
 | zero=>omega
 | succ n =>
  have:=h.lt _ (List.mem_of_getElem? hi) n (show n<W.heap.size by omega)
  omega
theorem St.start (W:World):St W [AQ W] W :=
 ⟨rfl,rfl,rfl,λA hA=>by
  have:A=AQ W:=by simpa using hA
  subst this
  exact λ_ _=>rfl,λA hA b hb=>by
  have:A=AQ W:=by simpa using hA
  subst this
  exact hb,by simp⟩
def GD {T:Type}(N:Fr) (E:T->Env) (F:T->World->Prop):Act->World->Prop:=λa w=>∃ x,Fits N (E x) a/\F x w
section
variable {P : Program} {R0 : Exit -> Act -> World -> Prop} {N : Fr} {K : List fQ} {S : Env} {w w0 : World} {l : List Oper} {M : List Nat} {A : dN} {rest : PT} {L : List bA}
theorem aX.join {T:Type}{c:Code}(E:T->Env) (F:T->World->Prop) (h1:aX P R0 N (.lp (GD N E F)::K) c S w) (h2:∀ x w',F x w'->aS P R0 N K .normal (E x) w'):aX P R0 N K c S w:=λa hf =>
 wpIn_mono (h1 a hf) λe a' w' q=>by
  cases e with
  | normal=>obtain⟨x,hx,hF⟩:=q;exact h2 x w' hF a' hx
  | exit id=>exact q
  | goto l=>exact q
  | ret=>exact q
  | panic c=>exact q
  | outgrown=>exact q
theorem aS.eF {T:Type}{E:T->Env}{F:T->World->Prop}(x:T) (hE:S=E x) (hF:F x w):aS P R0 N (.lp (GD N E F)::K) .normal S w :=
 λ_ hf=>⟨x,hE▸hf,hF⟩
theorem aS.pick {e:Exit}(ks:List Nat){S':Env}(he:S.pick ks=S') (h:aS P R0 N K e S' w):aS P R0 N K e S w:=λa hf=>h a (he▸hf.pick ks)
theorem aS.gL {e:Exit}{S':Env}(he:S=S') (h:aS P R0 N K e S' w):aS P R0 N K e S w:=he▸h
theorem aL.JG (d:Nat){b:Bool}(t:Bool) (hd:d<N.n) (hg:S.get d=some (.bool b)) (hb:b=t) (h:aL P l M R0 K N A rest (S.set d (.bool t)) w):aL P l M R0 K N A rest S w:=λhN a hf=>by
 have h1:=hf.get hg
 have h2:a.put (some d) (.bool t)=a:=by
  have hsz:d<a.tmps.size:=by rw [hf.size];exact hd
  have h3:a.tmps[d]'hsz=Value.bool t:=by
   have h5:(if h:d<a.tmps.size then a.tmps[d]'h else undef)=Value.bool b:=h1
   rw [dif_pos hsz] at h5
   rw [<- hb];exact h5
  have h6:a.tmps.setIfInBounds d (.bool t)=a.tmps:=by
   apply Array.ext_getElem?
   intro k
   rw [Array.getElem?_setIfInBounds]
   split
   ·rename_i e;subst e;rw [<- h3,Array.getElem?_eq_getElem hsz]
   ·rfl
  show({ a with tmps:=a.tmps.setIfInBounds d (.bool t) }:Act)=a
  rw [h6]
 have h4:=h hN (a.put (some d) (.bool t)) (hf.set hd _)
 rw [h2] at h4
 exact h4
theorem aL.nW (hs:List (Nat×Hint)) (ks:List Nat){rest':PT}(A':dN) (S':Env) (h1:(Go.Sx.phase P l.toArray hs S).map (λr=>(r.1,Env.pick r.2 ks))=some (A',S')) (hr:gE (hs.map λx=>x.1) rest=rest') (h2:jP w A') (h3:aL P l M R0 K N (A'.reverse++A) rest S' w) :
 aL P l M R0 K N A rest' S w:=by
 cases hp:Go.Sx.phase P l.toArray hs S with
 | none=>rw [hp] at h1;cases h1
 | some r =>
  obtain⟨A1,S1⟩:=r
  rw [hp] at h1
  simp only [Option.map_some,Option.some.injEq,Prod.mk.injEq] at h1
  obtain⟨rfl,rfl⟩:=h1
  exact aL.phase hs A1 S1 hp hr h2 (aL.pick ks rfl h3)
end
end Go.Sx
