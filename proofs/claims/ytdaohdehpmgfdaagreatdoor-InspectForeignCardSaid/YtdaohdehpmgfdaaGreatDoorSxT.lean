/-
  Several texts in one: SxAA, SxA, SxB, SxB2, SxC, SxD, SxE, SxCC, SxCD, SxG, SxH, SxI, SxCE, SxJ, SxK, SxF, SxM, SxL, SxN, SxO, SxQ, SxR, SxU, SxY, SxZ, SxIN, SxX, SxWB, SxRF, SxRG, SxP.
-/
import Derived.KernelRfl
import Derived.OrdersHeld
import Derived.OrdersIn
import Derived.RangeFuncRecord
import Derived.RangeFuncLeaves
import Derived.Below
import Derived.WalkKit
import Derived.Maps.RangeRun
import Derived.ProofKit
import Derived.OpenShut
import Derived.ShutString
import Derived.ChangeOld
import Derived.Deep.Slices
import Derived.SizedLaws
import Derived.Laws.IdiomStrings
import Derived.Laws.CopyRow
import Derived.Laws.BytesString
import Derived.Laws.MakeOwn
import Derived.Laws.Append
namespace Go.Sx
theorem zk {p:Prop}(h:p:=by kernel_rfl):p:=h
theorem zd {p:Prop}(h:p:=by first|omega|(simp only [List.length_set];omega)|(simp only [List.length_set,List.length_append,List.length_cons,List.length_nil];omega)):p:=h
theorem za {p:Prop}(h:p:=by omega):p:=h
theorem zc {p:Prop}(h:p:=by first|assumption|omega):p:=h
theorem zf {p:Prop}(h:p:=by decide):p:=h
theorem zg {p:Prop}(h:p:=by simp only [List.length_append,List.length_cons,List.length_nil,List.length_map] at *;omega):p:=h
theorem zh {p:Prop}(h:p:=by simp only [List.length_cons,List.length_nil,maxLen];omega):p:=h
theorem zl {p:Prop}(h:p:=by first|omega|(simp only [List.length_append,List.length_cons,List.length_nil];omega)):p:=h
theorem zp {p:Prop}(h:p:=by first|rfl|simp only [List.append_assoc,List.append_nil,List.nil_append]):p:=h
theorem zq {p:Prop}(h:p:=by first|omega|(simp only [List.length_set];omega)):p:=h
theorem zv {p:Prop}(h:p:=by first|omega|(simp only [List.length_append,List.length_nil];omega)):p:=h
theorem zA {p:Prop}(h:p:=by simp only [List.length_take,List.length_drop]<;>omega):p:=h
theorem zB {p:Prop}(h:p:=by first|omega|(dsimp only;omega)):p:=h
theorem zD {p:Prop}(h:p:=by assumption):p:=h
theorem zE {p:Prop}(h:p:=by dsimp only;omega):p:=h
theorem zF {p:Prop}(h:p:=by simp only [List.length_cons,List.length_nil];omega):p:=h
theorem zG {p:Prop}(h:p:=by simp):p:=h
theorem zI {p:Prop}(h:p:=by simp only [List.length_take,List.length_replicate];omega):p:=h
theorem zK {p:Prop}(h:p:=by first|decide|omega):p:=h
theorem zM {p:Prop}(h:p:=by first|assumption|omega|decide):p:=h
theorem zN {p:Prop}(h:p:=by simp only [List.length_nil];omega):p:=h
theorem zO {p:Prop}(h:p:=by rw [List.length_drop];omega):p:=h
theorem zR {p:Prop}(h:p:=by first|omega|(exact Nat.le_of_ble_eq_true rfl)):p:=h
theorem zS {p:Prop}(h:p:=by simp only [maxLen];omega):p:=h
end Go.Sx
namespace Go.Sx
set_option linter.unusedVariables false
set_option linter.unusedSimpArgs false
section
variable {P : Program} {ops : Array Oper} {Q : Exit -> Act -> World -> Prop}
inductive PT where
 | done
 | rd (i:Nat) (t:PT)
 | ef (i:Nat) (t:PT)
 | alt (s t:PT)
abbrev Reads:=List (Nat×(World->Prop))
def uq (M:List Nat) (x i:Nat):Bool:=(M.getD i 0).testBit x
def qK (o:Oper):List Nat:=(o.after.toList.filter (Region.binds .any ·)).map (·.on)
theorem mo {o:Oper}{j:Nat}:j∈qK o↔∃ e∈o.after,Region.binds .any e=true/\e.on=j:=by
 simp [qK,and_assoc]
def iU (ops:Array Oper) (i:Nat):List Nat:=((ops[i]?).map qK).getD []
def iB (ops:Array Oper) (M:List Nat):Bool :=
 (List.range ops.size).all λi=>(iU ops i).all (λe=>decide (e<i)) &&
  (List.range ops.size).all λx=>!(uq M x i) || (iU ops i).any λe=>e == x || uq M x e
def qL (ops:Array Oper) (x y:Nat):Bool :=
 match ops[x]?,ops[y]? with
 | some ox,some oy=>ox.apart ops oy
 | _,_=>false
def rY (L j:Nat):Bool:=L.testBit j
def kJ (L i:Nat):Nat:=L ||| (1 <<< i)
theorem kK (L i j:Nat):rY (kJ L i) j=(rY L j || decide (i=j)):=by
 simp only [rY,kJ,Nat.testBit_or,Nat.one_shiftLeft,Nat.testBit_two_pow]
theorem xE (L i j:Nat):kJ (kJ L i) j=kJ (kJ L j) i:=by
 simp only [kJ,Nat.or_assoc]
 rw [Nat.or_comm (1 <<< i)]
def gI (ops:Array Oper) (L j:Nat):Bool:=!rY L j && (iU ops j).all (rY L)
def PT.pI:PT->List Nat
 | .ef i _=>[i]
 | .alt s t=>s.pI++t.pI
 | _=>[]
def PT.depth:PT->Nat
 | .done=>0
 | .rd _ t=>t.depth+1
 | .ef _ t=>t.depth+1
 | .alt s _=>s.depth
def PT.idxs:PT->List Nat
 | .done=>[]
 | .rd i t=>i::t.idxs
 | .ef i t=>i::t.idxs
 | .alt s _=>s.idxs
def ng (ops:Array Oper) (M:List Nat):PT->List Nat->Nat->Bool
 | .done,_,L=>(List.range ops.size).all (rY L)
 | .rd i t,_,L=>decide (i<ops.size) && gI ops L i && (List.range ops.size).all (λj=>rY L j || j == i || uq M i j || qL ops i j) && ng ops M t [] (kJ L i)
 | .ef i t,off,L=>decide (i<ops.size) && gI ops L i && (List.range ops.size).all (λj=>!gI ops L j || j == i || off.contains j) && ng ops M t [] (kJ L i)
 | .alt s t,off,L=>s.depth == t.depth && ng ops M s (off++t.pI) L && ng ops M t (off++s.pI) L
def qM (ops:Array Oper) (M:List Nat) (p:PT):Bool :=
 Region.noSelect ops && iB ops M && ng ops M p [] 0 && p.depth == ops.size
def pJ (ops:Array Oper) (L:Nat):Prop:=∀ j,j<ops.size->rY L j=true->∀ e∈iU ops j,rY L e=true
theorem pK (l:Array Bool) (j:Nat) (h:j<l.size) (d:Bool):l.getD j d=l.getD j true:=by
 simp [Array.getD,h]
theorem sf {M:List Nat}(hM:iB ops M=true){i:Nat}(hi:i<ops.size):∀ e∈iU ops i,e<i:=by
 simp only [iB,List.all_eq_true,List.mem_range,Bool.and_eq_true,decide_eq_true_eq] at hM
 exact(hM i hi).1
theorem ur {M:List Nat}(hM:iB ops M=true){L:Nat}(hd:pJ ops L)
 {x:Nat}(hx:x<ops.size):∀ i,i<ops.size->(∀ e∈iU ops i,rY L e=true)->uq M x i=true->rY L x=true:=by
 intro i
 induction i using Nat.strongRecOn with
 | _ i ih =>
  intro hi hp ha
  have hlt:=sf hM hi
  have hM':=hM
  simp only [iB,List.all_eq_true,List.mem_range,Bool.and_eq_true,decide_eq_true_eq] at hM'
  have h1:=(hM' i hi).2 x hx
  rw [ha] at h1
  simp only [Bool.not_true,Bool.false_or,List.any_eq_true,Bool.or_eq_true,beq_iff_eq] at h1
  obtain⟨e,he,h|h⟩:=h1
  ·exact h▸hp e he
  ·have hei:=hlt e he
   exact ih e hei za (hd e za (hp e he)) h
theorem ed {L j:Nat}:gI ops L j=true↔rY L j=false/\∀ e∈iU ops j,rY L e=true:=by
 simp [gI]
theorem nh {L i j:Nat}(h:gI ops L j=true) (hne:i≠j):gI ops (kJ L i) j=true:=by
 rw [ed] at h ⊢
 refine⟨by rw [kK,h.1];simpa using hne,λe he=>by rw [kK,h.2 e he];rfl⟩
theorem pJ.add {L i:Nat}(hd:pJ ops L) (h:gI ops L i=true):pJ ops (kJ L i):=by
 intro j hj hl e he
 rw [kK] at hl ⊢
 rw [ed] at h
 by_cases hij:i=j
 ·subst hij;rw [h.2 e he];rfl
 ·rw [hd j hj (by simpa [hij] using hl) e he];rfl
theorem PT.ni {M:List Nat}{L:Nat}:∀ (t:PT) (off:List Nat),ng ops M t off L=true->t.depth≠0->∃ s,s<ops.size/\gI ops L s=true
 | .done,_,_,h=>absurd rfl h
 | .rd i t,_,hc,_=>by
  simp only [ng,Bool.and_eq_true,decide_eq_true_eq] at hc
  exact⟨i,hc.1.1.1,hc.1.1.2⟩
 | .ef i t,_,hc,_=>by
  simp only [ng,Bool.and_eq_true,decide_eq_true_eq] at hc
  exact⟨i,hc.1.1.1,hc.1.1.2⟩
 | .alt x y,_,hc,h=>by
  simp only [ng,Bool.and_eq_true] at hc
  exact PT.ni x _ hc.1.2 h
end
def dn (r:Option Nat):Fence:={ Fence.wide with round:=r }
section
variable {P : Program} {r : Option Nat} {n : Nat}
theorem hX {f:FuncId}{args:Array Value}{w:World}{R:Ending->World->Prop}:CallsIn (dn r) n P f args w R↔Calls P f args w R :=
 (Iff.rfl:CallsIn (dn r) n P f args w R↔CallsIn Fence.wide n P f args w R).trans callsIn_wide
theorem qN {row:String}{args:Array Value}{w:World}{R:Value->World->Prop}(h:Rows P row args w R):RowsIn (dn r) n P row args w R :=
 λc cs _=>let ⟨v,w',q,s⟩:=h c cs;⟨v,w',q,stepsIn_wide.2 s⟩
theorem Oper.uu {o:Oper}{a:Act}{w:World}{K:Act->World->Prop}{Q:Exit->Act->World->Prop}(hd:∀ c,o.op≠.defer c) (h:o.wp P a w K Q):o.wpIn (dn r) n P a w K Q:=by
 refine⟨λ_ _=>trivial,?_⟩
 rw [Oper.semAt_eq _ _ _ hd]
 unfold Oper.wp at h
 generalize (execOp a.eval o).run P w=x at *
 cases x with
 | ok x w' =>
  cases x<;>simp only [Oper.upon] at h<;>simp only [Oper.uponIn]
  case value=>exact h
  case skip=>exact h
  case defer=>exact h
  case enter f args =>
   refine⟨λh=>by simp [dn,Fence.wide] at h,hX.2 ?_⟩
   refine Calls.mono h λe w'' he=>?_
   cases e<;>exact he
  case row=>exact⟨λh=>by simp [dn,Fence.wide] at h,qN h⟩
 | halt x w' =>
  cases x<;>simp only [Oper.upon] at h<;>simp only [Oper.uponIn]
  case panic=>exact h
section
variable {ops : Array Oper} {Q : Exit -> Act -> World -> Prop}
abbrev gJ (r:Option Nat) (P:Program) (ops:Array Oper) (Q:Exit->Act->World->Prop) (i:Nat) (K:Act->World->Prop) (a:Act) (w:World):Prop:=wpOpIn (dn r) 0 P ops Q i K a w
def bO (r:Option Nat) (P:Program) (ops:Array Oper) (M:List Nat) (Q:Exit->Act->World->Prop):Reads->PT->Act->World->Prop
 | _,.done,a,w=>Q .normal a w
 | D,.rd i p,a,w=>∃ (o:Oper) (v:Value) (R:World->Prop),ops[i]?=some o/\YieldsIf P ops R o v a/\R w/\bO r P ops M Q ((i,R)::D) p (a.put o.dst v) w
 | D,.ef i p,a,w=>gJ r P ops Q i (λa' w'=>(∀ x∈D,uq M x.1 i=false->x.2 w')/\bO r P ops M Q D p a' w') a w
 | D,.alt s t,a,w=>bO r P ops M Q D s a w/\bO r P ops M Q D t a w
theorem bO.ef {M:List Nat}{D:Reads}{i:Nat}{p:PT}{a:Act}{w:World}(h:gJ r P ops Q i (λa' w'=>(∀ x∈D,uq M x.1 i=false->x.2 w')/\bO r P ops M Q D p a' w') a w):bO r P ops M Q D (.ef i p) a w:=h
theorem bO.mono {M:List Nat}:∀ (p:PT) (D D':Reads) (a:Act) (w:World),(∀ x∈D',x∈D)->bO r P ops M Q D p a w->bO r P ops M Q D' p a w
 | .done,_,_,_,_,_,h=>h
 | .rd i p,D,D',a,w,hs,h=>by
  obtain⟨o,v,R,ho,hy,hR,hp⟩:=h
  refine⟨o,v,R,ho,hy,hR,bO.mono p _ _ _ _ ?_ hp⟩
  intro x hx
  rcases List.mem_cons.1 hx with h|h
  ·exact List.mem_cons.2 (.inl h)
  ·exact List.mem_cons.2 (.inr (hs x h))
 | .ef i p,D,D',a,w,hs,h=>by
  change gJ r P ops Q i (λa' w'=>(∀ x∈D,uq M x.1 i=false->x.2 w')/\bO r P ops M Q D p a' w') a w at h
  show gJ r P ops Q i (λa' w'=>(∀ x∈D',uq M x.1 i=false->x.2 w')/\bO r P ops M Q D' p a' w') a w
  exact wpOpIn_mono (λa' w' h'=>⟨λx hx=>h'.1 x (hs x hx),bO.mono p _ _ _ _ hs h'.2⟩) h
 | .alt s t,D,D',a,w,hs,h=>⟨bO.mono s _ _ _ _ hs h.1,bO.mono t _ _ _ _ hs h.2⟩
theorem lK {ρ:Operand->Value}{o:Oper}{c:Call}{x:Next}{w w':World}(hc:o.op=.defer c) (h:(execOp ρ o).run P w=.ok x w'):∃ d,x=.defer d:=by
 unfold execOp at h
 rw [hc] at h
 simp only [Sem.run_bind] at h
 cases hr:(resolve ρ c o.type).run P w with
 | ok d w1=>rw [hr] at h;simp [Result.andThen,Sem.run_pure] at h;exact⟨_,h.1.symm⟩
 | halt x w1=>rw [hr] at h;simp [Result.andThen] at h
theorem nj {i:Nat}{o:Oper}{a:Act}{w:World}{K:Act->World->Prop}(hi:ops[i]?=some o) (hw:Region.wanted o (yielded ops a.tmps)=true) (hd:∀ c,o.op≠.defer c) (h:o.wp P a w K Q):gJ r P ops Q i K a w:=by
 show wpOpIn (dn r) 0 P ops Q i K a w
 unfold wpOpIn
 simp only [hi,hw,if_true]
 exact Oper.uu hd h
theorem pL {i:Nat}{o:Oper}{a:Act}{w:World}{K:Act->World->Prop}(hi:ops[i]?=some o) (hw:Region.wanted o (yielded ops a.tmps)=false) (h:K (a.put o.dst undef) w):gJ r P ops Q i K a w:=by
 show wpOpIn (dn r) 0 P ops Q i K a w
 unfold wpOpIn
 simp only [hi,hw,Bool.false_eq_true,if_false];exact⟨λ_ _=>trivial,h⟩
theorem YieldsIf.gJ {S:World->Prop}{i:Nat}{o:Oper}{v:Value}{a:Act}(hi:ops[i]?=some o) (hy:YieldsIf P ops S o v a)
 {K:Act->World->Prop}{w:World}(hS:S w) (h:K (a.put o.dst v) w):gJ r P ops Q i K a w:=by
 rcases hy with⟨hw,hv⟩|⟨hw,rfl⟩
 ·refine nj hi hw (λc hc=>?_) ?_
  ·obtain⟨d,hd⟩:=lK hc (hv w hS);cases hd
  ·unfold Oper.wp
   rw [hv w hS]
   exact h
 ·exact pL hi hw h
theorem xF {ro:Option Nat}(o:Oper) (hs:∀ cs b,o.op≠.select cs b) (a:Act) (dst:Option Tmp) (v:Value) (h:∀ d,dst=some d->d ∉ o.looksAt ops):Oper.semAt ro (a.put dst v).eval o=Oper.semAt ro a.eval o:=by
 cases ro with
 | none=>exact execOp_put o hs a dst v h
 | some l =>
  by_cases hd:∃ c,o.op=.defer c
  ·obtain⟨c,hc⟩:=hd
   have e:resolve (a.put dst v).eval c o.type=resolve a.eval c o.type:=resolve_congr c o.type λx hx=>Act.eval_put λd hd hxd=>h d hd (by
    subst hxd
    exact List.mem_append_left _ (List.mem_filterMap.2 ⟨.tmp d,by rw [hc];simpa [Op.operands] using hx,rfl⟩))
   unfold Oper.semAt
   simp only [hc,e]
  ·have hd':∀ c,o.op≠.defer c:=λc hc=>hd ⟨c,hc⟩
   rw [Oper.semAt_eq _ _ _ hd',Oper.semAt_eq _ _ _ hd']
   exact execOp_put o hs a dst v h
theorem sg {S:World->Prop}{j:Nat}{oi oj:Oper}{v:Value}(hj:ops[j]?=some oj) (hap:oi.apart ops oj=true)
 (hsi:∀ cs b,oi.op≠.select cs b) (hsj:∀ cs b,oj.op≠.select cs b)
 (hQ:∀ c a w,Q (.panic c) (a.put oi.dst v) w->Q (.panic c) a w){K:Act->World->Prop}{a:Act}{w:World}
 (hy:YieldsIf P ops S oi v a) (h:gJ r P ops Q j K (a.put oi.dst v) w) :
 gJ r P ops Q j (λa' w'=>YieldsIf P ops S oi v a'/\K (a'.put oi.dst v) w') a w:=by
 obtain⟨h1,h2,h3⟩:=Oper.apart_spec hap
 have keep:∀ (a:Act),YieldsIf P ops S oi v a->∀ u,YieldsIf P ops S oi v (a.put oj.dst u):=λa hy u =>
  hy.of_same (execOp_put oi hsi a oj.dst u h3) (wanted_put oi a oj.dst u h3)
 have keepD:∀ d,YieldsIf P ops S oi v { a with defers:=d::a.defers }:=λd=>hy.of_same rfl rfl
 change wpOpIn (dn r) 0 P ops Q j K (a.put oi.dst v) w at h
 show wpOpIn (dn r) 0 P ops Q j (λa' w'=>YieldsIf P ops S oi v a'/\K (a'.put oi.dst v) w') a w
 unfold wpOpIn at *
 simp only [hj] at *
 rw [wanted_put oj a oi.dst v h1] at h
 split
 ·rename_i hw
  simp only [hw,if_true] at h
  unfold Oper.wpIn at *
  refine⟨λ_ _=>trivial,?_⟩
  have h:=h.2
  rw [xF oj hsj a oi.dst v h1] at h
  generalize (oj.semAt (dn r).round a.eval).run P w=x at *
  cases x with
  | ok x w' =>
   cases x<;>simp only [Oper.uponIn] at h ⊢
   case value u=>exact⟨keep a hy u,by rw [<- Act.put_comm a v u h2];exact h⟩
   case skip=>exact⟨keep a hy _,by rw [<- Act.put_comm a v undef h2];exact h⟩
   case defer d =>
    refine⟨keep _ (keepD d) _,?_⟩
    rw [<- Act.put_comm _ v undef h2,<- Act.put_defers]
    exact h
   case enter f args =>
    refine⟨h.1,CallsIn.mono h.2 λe w'' he=>?_⟩
    cases e with
    | returned u=>exact⟨keep a hy u,by rw [<- Act.put_comm a v u h2];exact he⟩
    | panicked c=>exact hQ _ _ _ he
    | outgrown=>exact he
   case row row args=>exact⟨h.1,RowsIn.mono h.2 λu w'' he=>⟨keep a hy u,by rw [<- Act.put_comm a v u h2];exact he⟩⟩
   case round l f tmps assign body =>
    refine⟨h.1,RoundIn.mono h.2 λe w'' he=>?_⟩
    cases e with
    | returned u=>exact⟨keep a hy u,by rw [<- Act.put_comm a v u h2];exact he⟩
    | panicked c=>exact hQ _ _ _ he
    | outgrown=>exact he
  | halt x w' =>
   cases x<;>simp only [Oper.uponIn] at h ⊢
   case panic u=>exact hQ _ _ _ h
 ·rename_i hw
  simp only [hw] at h
  exact⟨λ_ _=>trivial,keep a hy _,by rw [<- Act.put_comm a v undef h2];exact h.2⟩
def lL (r:Option Nat) (P:Program) (ops:Array Oper) (M:List Nat) (Q:Exit->Act->World->Prop) (D:Reads) (t:PT) (L s:Nat) (a:Act) (w:World):Prop :=
 ∃ t',ng ops M t' [] (kJ L s)=true/\t.depth=t'.depth+1/\gJ r P ops Q s (λa' w'=>(∀ y∈D,uq M y.1 s=false->y.2 w')/\bO r P ops M Q D t' a' w') a w
theorem lL.head {M:List Nat}{D:Reads}{L s:Nat}{a:Act}{w:World}:∀ (t:PT) (off:List Nat),s∈t.pI->ng ops M t off L=true->bO r P ops M Q D t a w->lL r P ops M Q D t L s a w
 | .done,_,h,_,_=>by cases h
 | .rd _ _,_,h,_,_=>by cases h
 | .ef i t,off,h,hc,hp=>by
  simp only [PT.pI,List.mem_singleton] at h
  subst h
  simp only [ng,Bool.and_eq_true] at hc
  exact⟨t,hc.2,rfl,hp⟩
 | .alt x y,off,h,hc,hp=>by
  simp only [ng,Bool.and_eq_true,beq_iff_eq] at hc
  rcases List.mem_append.1 h with h|h
  ·obtain⟨t',h1,h2,h3⟩:=lL.head x _ h hc.1.2 hp.1
   exact⟨t',h1,h2,h3⟩
  ·obtain⟨t',h1,h2,h3⟩:=lL.head y _ h hc.2 hp.2
   exact⟨t',h1,hc.1.1.trans h2,h3⟩
theorem bO.move {M:List Nat}(hQ:∀ c a w,¬ Q (.panic c) a w) (hsel:Region.noSelect ops=true) (hM:iB ops M=true){s:Nat}(hs:s<ops.size) :
 ∀ (t:PT) (off:List Nat) (L:Nat) (D:Reads) (a:Act) (w:World),ng ops M t off L=true->pJ ops L->gI ops L s=true->(∀ y∈D,y.2 w)->bO r P ops M Q D t a w ->
  s∈off\/lL r P ops M Q D t L s a w:=by
 intro t
 induction t with
 | done =>
  intro off L D a w hc hd hr _ _
  simp only [ng,List.all_eq_true,List.mem_range] at hc
  have:=hc s hs
  rw [(ed.1 hr).1] at this
  cases this
 | ef i t ih =>
  intro off L D a w hc hd hr _ hp
  simp only [ng,Bool.and_eq_true,List.all_eq_true,List.mem_range,Bool.or_eq_true,Bool.not_eq_true',beq_iff_eq,List.contains_eq_mem,decide_eq_true_eq] at hc
  rcases hc.1.2 s hs with(h|h)|h
  ·rw [hr] at h;cases h
  ·subst h;exact .inr ⟨t,hc.2,rfl,hp⟩
  ·exact .inl h
 | alt x y ihx ihy =>
  intro off L D a w hc hd hr hD hp
  have hc':=hc
  simp only [ng,Bool.and_eq_true,beq_iff_eq] at hc
  rcases ihx _ L D a w hc.1.2 hd hr hD hp.1 with h|h
  ·rcases List.mem_append.1 h with h|h
   ·exact .inl h
   ·exact .inr (lL.head (.alt x y) off (List.mem_append.2 (.inr h)) hc' hp)
  ·obtain⟨t',h1,h2,h3⟩:=h
   exact .inr ⟨t',h1,h2,h3⟩
 | rd x t ih =>
  intro off L D a w hc hd hr hD hp
  simp only [ng,Bool.and_eq_true,List.all_eq_true,List.mem_range,Bool.or_eq_true,beq_iff_eq,decide_eq_true_eq] at hc
  obtain⟨⟨⟨hxl,hxr⟩,hall⟩,hct⟩:=hc
  obtain⟨ox,vx,Rx,hox,hyx,hRx,hp⟩:=hp
  by_cases hxs:x=s
  ·subst hxs
   refine .inr ⟨t,hct,rfl,YieldsIf.gJ hox hyx hRx ⟨λy hy _=>hD y hy,bO.mono _ _ _ _ _ (λz hz=>List.mem_cons.2 (.inr hz)) hp⟩⟩
  ·right
   have hsL:=(ed.1 hr).1
   have han:uq M x s=false:=by
    cases ha:uq M x s with
    | false=>rfl
    | true =>
     have:=ur hM hd hxl s hs (ed.1 hr).2 ha
     rw [(ed.1 hxr).1] at this
     cases this
   have hap:qL ops x s=true:=by
    rcases hall s hs with((h|h)|h)|h
    ·rw [hsL] at h;cases h
    ·exact absurd h.symm hxs
    ·rw [han] at h;cases h
    ·exact h
   have h1:=ih [] (kJ L x) ((x,Rx)::D) (a.put ox.dst vx) w hct (hd.add hxr) (nh hr hxs) (λy hy=>by
    rcases List.mem_cons.1 hy with rfl|hy
    ·exact hRx
    ·exact hD y hy) hp
   rcases h1 with h1|⟨t',hc1,hdp,h1⟩
   ·cases h1
   refine⟨.rd x t',?_,by simp [PT.depth,hdp],?_⟩
   ·simp only [ng,Bool.and_eq_true,List.all_eq_true,List.mem_range,Bool.or_eq_true,beq_iff_eq,decide_eq_true_eq]
    refine⟨⟨⟨hxl,nh hxr (λh=>hxs h.symm)⟩,λj hj=>?_⟩,by rw [xE];exact hc1⟩
    rcases hall j hj with((h|h)|h)|h
    ·exact .inl (.inl (.inl (by rw [kK,h];rfl)))
    ·exact .inl (.inl (.inr h))
    ·exact .inl (.inr h)
    ·exact .inr h
   ·simp only [qL,hox] at hap
    cases hj:ops[s]? with
    | none=>rw [hj] at hap;cases hap
    | some oj =>
     rw [hj] at hap
     have h2:=sg (S:=Rx) hj hap (Region.noSelect_spec hsel x ox · · hox) (Region.noSelect_spec hsel s oj · · hj) (λc a w hq=>absurd hq (hQ c _ w)) hyx h1
     refine wpOpIn_mono (λa' w' h3=>?_) h2
     obtain⟨hyx',h4,h5⟩:=h3
     exact⟨λy hy=>h4 y (List.mem_cons.2 (.inr hy)),ox,vx,Rx,hox,hyx',h4 (x,Rx) (List.mem_cons_self ..) han,h5⟩
theorem PT.pM {M:List Nat}{L:Nat}:∀ (t:PT) (off:List Nat) (D:Reads) (a:Act) (w:World),ng ops M t off L=true->t.depth=0->bO r P ops M Q D t a w->(∀ j,j<ops.size->rY L j=true)/\Q .normal a w
 | .done,_,_,_,_,hc,_,hp=>by
  simp only [ng,List.all_eq_true,List.mem_range] at hc
  exact⟨hc,hp⟩
 | .rd i t,_,_,_,_,_,h,_=>by simp [PT.depth] at h
 | .ef i t,_,_,_,_,_,h,_=>by simp [PT.depth] at h
 | .alt x y,_,D,a,w,hc,h,hp=>by
  simp only [ng,Bool.and_eq_true] at hc
  exact PT.pM x _ D a w hc.1.2 h hp.1
theorem bO.sound {M:List Nat}(hQ:∀ c a w,¬ Q (.panic c) a w) (hsel:Region.noSelect ops=true) (hM:iB ops M=true) :
 ∀ (n:Nat) (t:PT) (listed:Array Bool) (L:Nat) (a:Act) (w:World),t.depth=n->listed.size=ops.size->(∀ j,j<ops.size->listed.getD j true=rY L j)->pJ ops L->ng ops M t [] L=true ->
  bO r P ops M Q [] t a w->wpAnyIn (dn r) 0 P .any ops Q n listed a w:=by
 have hpl:∀ i,i<ops.size->∀ e∈iU ops i,e<ops.size:=λi hi e he=>Nat.lt_trans (sf hM hi e he) hi
 have key:∀ (listed:Array Bool) (L j:Nat),listed.size=ops.size->(∀ j,j<ops.size->listed.getD j true=rY L j)->(j∈Region.ready .any ops listed↔j<ops.size/\gI ops L j=true):=by
  intro listed L j hsz hl
  constructor
  ·intro h
   obtain⟨h1,o,ho,h2⟩:=mem_ready.1 h
   have hj:=(Array.getElem?_eq_some_iff.1 ho).1
   refine⟨hj,ed.2 ⟨by rw [<- hl j hj];exact h1,λe he=>?_⟩⟩
   have hel:=hpl j hj e he
   rw [<- hl e hel]
   simp only [iU,ho,Option.map_some,Option.getD_some] at he
   obtain⟨e',hm,hb,rfl⟩:=mo.1 he
   rw [<- pK listed _ za false]
   exact h2 e' hm hb
  ·rintro⟨hj,hr⟩
   obtain⟨h1,h2⟩:=ed.1 hr
   refine mem_ready.2 ⟨by rw [hl j hj];exact h1,ops[j],Array.getElem?_eq_getElem hj,λe he hb=>?_⟩
   have hm:e.on∈iU ops j:=by
    simp only [iU,Array.getElem?_eq_getElem hj,Option.map_some,Option.getD_some]
    exact mo.2 ⟨e,he,hb,rfl⟩
   have hel:=hpl j hj _ hm
   rw [pK listed _ za false,hl _ hel]
   exact h2 _ hm
 intro n
 induction n with
 | zero =>
  intro t listed L a w hn hsz hl hd hc h
  obtain⟨h1,h2⟩:=PT.pM t [] [] a w hc hn h
  refine⟨List.eq_nil_iff_forall_not_mem.2 λj hj=>?_,h2⟩
  obtain⟨hj1,hj2⟩:=(key listed L j hsz hl).1 hj
  have:=h1 j hj1
  rw [(ed.1 hj2).1] at this
  cases this
 | succ n ih =>
  intro t listed L a w hn hsz hl hd hc h
  refine⟨λhr=>?_,λi hi=>?_⟩
  ·obtain⟨s,hs1,hs2⟩:=PT.ni t [] hc za
   have:=(key listed L s hsz hl).2 ⟨hs1,hs2⟩
   rw [hr] at this
   cases this
  ·obtain⟨hi1,hi2⟩:=(key listed L i hsz hl).1 hi
   rcases bO.move hQ hsel hM hi1 t [] L [] a w hc hd hi2 (λy hy=>by cases hy) h with h|⟨t',h1,h2,h3⟩
   ·cases h
   ·refine wpOpIn_mono (λa' w' h4=>ih t' _ (kJ L i) a' w' za (by simpa using hsz) (λj hj=>?_) (hd.add hi2) h1 h4.2) h3
    rw [kK]
    by_cases hij:i=j
    ·subst hij;simp [Array.getD,hsz,hj]
    ·rw [getD_set_ne true hij,hl j hj];simp [hij]
theorem mQ {id:Nat}{a:Act}{w:World}(M:List Nat) (p:PT) (hm:P.follows .mixedOrders=true) (hok:qM ops M p=true)
 (hQ:∀ c a w,¬ Q (.panic c) a w) (h:bO r P ops M Q [] p a { w with drawn:=w.drawn+1 }):(Code.region id ops true).wpIn (dn r) 0 P Q a w:=by
 refine wpIn_region_any hm ?_
 simp only [qM,Bool.and_eq_true,beq_iff_eq] at hok
 obtain⟨⟨⟨h0,h1⟩,h2⟩,h3⟩:=hok
 exact bO.sound hQ h0 h1 ops.size p _ 0 a _ h3 zG (λj hj=>by simp [Array.getD,hj,rY]) (λj hj hl=>by simp [rY] at hl) h2 h
theorem bO.wF {M:List Nat}:∀ (p:PT) (D:Reads) (a:Act) (w:World),bO r P ops M Q D p a w->wpOpsIn (dn r) 0 P ops Q p.idxs a w
 | .done,_,_,_,h=>h
 | .rd i p,D,a,w,h=>by
  obtain⟨o,v,R,ho,hy,hR,hp⟩:=h
  rw [PT.idxs,wpOpsIn_cons]
  exact YieldsIf.gJ ho hy hR (bO.wF p _ _ _ hp)
 | .ef i p,D,a,w,h=>by
  rw [PT.idxs,wpOpsIn_cons]
  change gJ r P ops Q i (λa' w'=>(∀ x∈D,uq M x.1 i=false->x.2 w')/\bO r P ops M Q D p a' w') a w at h
  exact wpOpIn_mono (λa' w' h'=>bO.wF p _ _ _ h'.2) h
 | .alt s t,D,a,w,h=>bO.wF s D a w h.1
theorem mR {id:Nat}{a:Act}{w:World}{M:List Nat}(p:PT) (hp:p.idxs=List.range ops.size) (h:bO r P ops M Q [] p a w):(Code.region id ops false).wpIn (dn r) 0 P Q a w :=
 wpIn_region (by rw [<- hp];exact bO.wF p _ _ _ h)
end
end
end Go.Sx
namespace Go.Sx
open Go.RowKit
set_option linter.unusedVariables false
set_option linter.unusedSimpArgs false
abbrev Env:=List (Nat×Value)
structure Fr where
 n:Nat
 δ:List Deferred
 r:Option Nat
instance:Coe Fr Nat:=⟨Fr.n⟩
structure Fits (N:Fr) (S:Env) (a:Act):Prop where
 defers:a.defers=N.δ
 size:a.tmps.size=N.n
 at_:∀ p∈S,a.tmps.getD p.1 undef=p.2
namespace Env
def get (S:Env) (n:Nat):Option Value:=(S.find? (λp=>p.1 == n)).map (·.2)
def set (S:Env) (d:Nat) (v:Value):Env:=(d,v)::S.filter (λp=>p.1 != d)
def cP (S:Env) (d:Option Tmp) (v:Value):Env:=match d with|some d=>S.set d v|none=>S
def pick (S:Env) (ks:List Nat):Env:=ks.filterMap λk=>(S.get k).map λv=>(k,v)
def op (S:Env):Operand->Option Value
 | .tmp t=>S.get t
 | .const v=>some v
 | .global g=>some (.pointer (some ⟨g,0,none⟩))
 | .func f=>some (.func (.func f) #[] #[])
def ops (S:Env):List Operand->Option (List Value)
 | []=>some []
 | x::l=>match S.op x,S.ops l with
  | some v,some vs=>some (v::vs)
  | _,_=>none
end Env
theorem Fits.get {N:Fr}{S:Env}{a:Act}(h:Fits N S a){n:Nat}{v:Value}(hg:S.get n=some v):a.tmps.getD n undef=v:=by
 unfold Env.get at hg
 cases hf:S.find? (λp=>p.1 == n) with
 | none=>rw [hf] at hg;cases hg
 | some p =>
  rw [hf] at hg
  simp only [Option.map_some,Option.some.injEq] at hg
  have h1:=h.at_ p (List.mem_of_find?_eq_some hf)
  have h2:=List.find?_some hf
  simp only [beq_iff_eq] at h2
  rw [<- h2,<- hg]
  exact h1
theorem Fits.op {N:Fr}{S:Env}{a:Act}(h:Fits N S a){x:Operand}{v:Value}(hg:S.op x=some v):a.eval x=v:=by
 cases x with
 | tmp t=>exact h.get hg
 | const c=>simpa [Env.op,Act.eval] using hg
 | global g=>simpa [Env.op,Act.eval] using hg
 | func f=>simpa [Env.op,Act.eval] using hg
theorem Fits.ops {N:Fr}{S:Env}{a:Act}(h:Fits N S a):∀ {l:List Operand}{vs:List Value},S.ops l=some vs->l.map a.eval=vs
 | [],vs,hg=>by simpa [Env.ops] using hg
 | x::l,vs,hg=>by
  simp only [Env.ops] at hg
  cases h1:S.op x with
  | none=>rw [h1] at hg;cases hg
  | some v =>
   cases h2:S.ops l with
   | none=>rw [h1,h2] at hg;cases hg
   | some ws =>
    rw [h1,h2] at hg
    simp only [Option.some.injEq] at hg
    rw [<- hg,List.map_cons,h.op h1,Fits.ops h h2]
theorem Fits.set {N:Fr}{S:Env}{a:Act}(h:Fits N S a){d:Nat}(hd:d<N.n) (v:Value):Fits N (S.set d v) (a.put (some d) v):=by
 refine⟨h.defers,by simpa [Act.put] using h.size,λp hp=>?_⟩
 rcases List.mem_cons.1 hp with rfl|hp
 ·simp [Act.put,Array.getD,h.size,hd]
 ·obtain⟨h1,h2⟩:=List.mem_filter.1 hp
  simp only [bne_iff_ne,ne_eq] at h2
  rw [<- h.at_ p h1]
  simp only [Act.put,Array.getD_eq_getD_getElem?]
  rw [Array.getElem?_setIfInBounds_ne (λe=>h2 e.symm)]
def si (N:Nat):Option Tmp->Bool
 | some d=>decide (d<N)
 | none=>true
theorem Fits.cP {N:Fr}{S:Env}{a:Act}(h:Fits N S a){d:Option Tmp}(hd:si N d=true) (v:Value):Fits N (S.cP d v) (a.put d v):=by
 cases d with
 | none=>exact h
 | some d=>exact h.set (by simpa [si] using hd) v
theorem Fits.pick {N:Fr}{S:Env}{a:Act}(h:Fits N S a) (ks:List Nat):Fits N (S.pick ks) a:=by
 refine⟨h.defers,h.size,λp hp=>?_⟩
 obtain⟨k,_,hk⟩:=List.mem_filterMap.1 hp
 cases hg:S.get k with
 | none=>rw [hg] at hk;cases hk
 | some v =>
  rw [hg] at hk
  simp only [Option.map_some,Option.some.injEq] at hk
  rw [<- hk]
  exact h.get hg
inductive dO where
 | cell (p:Addr) (v:Value)
 | cells (p:Addr) (vs:Array Value)
 | map (r:Nat) (es:Array MapEntry) (clock:Nat)
 | prop (p:Prop)
 | holds (p:World->Prop)
def dO.ok (w:World):dO->Prop
 | .cell p v=>w.cell? p=some v
 | .cells p vs=>∀ i,i<vs.size->w.cell? (p.add i)=vs[i]?
 | .map r es clock=>w.heap[r]?=some (.map es clock)
 | .prop p=>p
 | .holds p=>p w
def ba (w:World):List dO->Prop
 | []=>True
 | n::l=>n.ok w/\ba w l
theorem jD {w:World}:∀ {l:List dO},ba w l->∀ n∈l,n.ok w
 | _::_,h,n,hn=>by
  rcases List.mem_cons.1 hn with rfl|hn
  ·exact h.1
  ·exact jD h.2 n hn
theorem gu {w:World}:∀ {l:List dO},(∀ n∈l,n.ok w)->ba w l
 | [],_=>trivial
 | _::_,h=>⟨h _ (List.mem_cons_self ..),gu λn hn=>h n (List.mem_cons.2 (.inr hn))⟩
theorem eg {w:World}{l m:List dO}(h:ba w (l++m)):ba w l/\ba w m :=
 ⟨gu λn hn=>jD h n (List.mem_append.2 (.inl hn)),gu λn hn=>jD h n (List.mem_append.2 (.inr hn))⟩
def jW (P:Program):Sem Next->List Value->Option (List dO×Value)
 | .pure (.value v),_=>some ([],v)
 | .load _ p k,v::ans=>match jW P (k v) ans with
  | some (n,r)=>some (.cell p v::n,r)
  | none=>none
 | .program k,ans=>jW P (k P) ans
 | .mark _ k,ans=>jW P k ans
 | _,_=>none
theorem sj {P:Program}{w:World}:∀ (s:Sem Next) (ans:List Value) (n:List dO) (v:Value),jW P s ans=some (n,v)->ba w n->s.run P w=.ok (.value v) w:=by
 intro s
 induction s with
 | pure a =>
  intro ans n v h _
  cases a<;>simp [jW] at h
  simp [Sem.run,h]
 | load m p k ih =>
  intro ans n v h hn
  cases ans with
  | nil=>simp [jW] at h
  | cons x ans =>
   simp only [jW] at h
   cases hd:jW P (k x) ans with
   | none=>rw [hd] at h;cases h
   | some r =>
    obtain⟨n',v'⟩:=r
    rw [hd] at h
    simp only [Option.some.injEq,Prod.mk.injEq] at h
    obtain⟨rfl,rfl⟩:=h
    have h1:w.cell? p=some x:=hn.1
    simp only [Sem.run,h1]
    exact ih x ans n' v' hd hn.2
 | program k ih=>intro ans n v h hn;exact ih P ans n v h hn
 | mark m k ih=>intro ans n v h hn;exact ih ans n v h hn
 | _=>intro ans n v h;simp [jW] at h
inductive Hint where
 | gen (ans:List Value)
 | agg (vs:Array Value)
 | at_
 | byte (b:UInt8)
 | elem (v:Value)
 | sub (l h:Nat)
 | div (n:Int)
 | shift (n:Int)
 | Dm
 | zV (es:Array MapEntry) (clock:Nat)
 | cI (v:Value) (h:Hint)
def sk:Op->Bool
 | .select ..=>true
 | _=>false
def known (S:Env) (o:Oper):Bool:=!sk o.op && (S.ops o.op.operands.toList).isSome
def qO (P:Program) (S:Env) (o:Oper) (ans:List Value):Option (List dO×Value) :=
 if known S o then jW P (execOp (λx=>(S.op x).getD undef) o) ans else none
def uv (P:Program) (S:Env) (o:Oper):Option (List dO×Value) :=
 match o.op with
 | .indexAddr t x i =>
  match P.underlying t,S.op x,S.op i with
  | some (.slice e),some (.slice (some a) len _),some (.int _ n) =>
   match P.info? e with
   | some ie=>some ([.prop (0<=n/\n<(len:Int))],.pointer (some (a.add (n.toNat*ie.size))))
   | none=>none
  | some (.array len e),some (.pointer (some a)),some (.int _ n) =>
   match P.info? e with
   | some ie=>some ([.prop (0<=n/\n<(len:Int))],.pointer (some (a.add (n.toNat*ie.size))))
   | none=>none
  | _,_,_=>none
 | _=>none
def qP (P:Program) (S:Env) (o:Oper) (vs:Array Value):Option (List dO×Value) :=
 match o.op with
 | .load t x =>
  match S.op x,P.info? t,P.underlying t with
  | some (.pointer (some p)),some i,some (.struct _)=>some ([.prop (vs.size=i.size),.cells p vs],.agg vs)
  | some (.pointer (some p)),some i,some (.array _ _)=>some ([.prop (vs.size=i.size),.cells p vs],.agg vs)
  | _,_,_=>none
 | _=>none
def np (P:Program) (S:Env) (o:Oper) (b:UInt8):Option (List dO×Value) :=
 match o.op with
 | .index t x i =>
  match P.underlying t,S.op x,S.op i with
  | some .string,some (.string s),some (.int _ n)=>some ([.prop (0<=n/\s[n.toNat]?=some b)],.int .u8 b.toNat)
  | _,_,_=>none
 | _=>none
def nq (P:Program) (S:Env) (o:Oper) (v:Value):Option (List dO×Value) :=
 match o.op with
 | .index t x i =>
  match P.underlying t,S.op x,S.op i with
  | some (.array len e),some (.agg cs),some (.int _ n) =>
   match P.info? e,P.underlying e with
   | some ie,some (.struct _)=>some ([.prop (0<=n/\n<(len:Int)),.prop (Value.agg (cs.extract (n.toNat*ie.size) (n.toNat*ie.size+ie.size))=v)],v)
   | some ie,some (.array _ _)=>some ([.prop (0<=n/\n<(len:Int)),.prop (Value.agg (cs.extract (n.toNat*ie.size) (n.toNat*ie.size+ie.size))=v)],v)
   | some ie,some (.int _)=>some ([.prop (0<=n/\n<(len:Int)),.prop (cs[n.toNat*ie.size]?=some v)],v)
   | some ie,some .string=>some ([.prop (0<=n/\n<(len:Int)),.prop (cs[n.toNat*ie.size]?=some v)],v)
   | some ie,some .bool=>some ([.prop (0<=n/\n<(len:Int)),.prop (cs[n.toNat*ie.size]?=some v)],v)
   | some ie,some (.func _ _ _)=>some ([.prop (0<=n/\n<(len:Int)),.prop (cs[n.toNat*ie.size]?=some v)],v)
   | some ie,some (.slice _)=>some ([.prop (0<=n/\n<(len:Int)),.prop (cs[n.toNat*ie.size]?=some v)],v)
   | _,_=>none
  | _,_,_=>none
 | _=>none
def ft (S:Env) (x:Option Operand) (l:Nat):Option (List dO) :=
 match x with
 | some x=>match S.op x with
  | some (.int _ n)=>some [.prop (n=(l:Int))]
  | _=>none
 | none=>some []
def evalSub (P:Program) (S:Env) (o:Oper) (l h:Nat):Option (List dO×Value) :=
 match o.op with
 | .slice t x lo hi none =>
  match P.underlying t,S.op x with
  | some .string,some (.string s) =>
   match ft S lo l,ft S hi h with
   | some n1,some n2=>some (n1++(n2++[.prop ((lo=none->l=0)/\(hi=none->h=s.size)/\l<=h/\h<=s.size)]),.string (s.extract l h))
   | _,_=>none
  | some (.slice e),some (.slice a len cap) =>
   match ft S lo l,ft S hi h,P.info? e with
   | some n1,some n2,some ie=>some (n1++(n2++[.prop ((lo=none->l=0)/\(hi=none->h=len)/\l<=h/\h<=cap)]),.slice (if cap=l then a else a.map (·.add (l*ie.size))) (h-l) (cap-l))
   | _,_,_=>none
  | some (.array n e),some (.pointer (some a)) =>
   match ft S lo l,ft S hi h,P.info? e with
   | some n1,some n2,some ie=>some (n1++(n2++[.prop ((lo=none->l=0)/\(hi=none->h=n)/\l<=h/\h<=n)]),.slice (some (if n=l then a else a.add (l*ie.size))) (h-l) (n-l))
   | _,_,_=>none
  | _,_=>none
 | _=>none
def evalDiv (S:Env) (o:Oper) (n:Int):Option (List dO×Value) :=
 match o.op with
 | .binOp .quo _ x y _=>match S.op x,S.op y with
  | some (.int k a),some (.int k' b)=>some ([.prop (k=k'/\b≠0/\k.wrap (a.tdiv b)=n)],.int k n)
  | _,_=>none
 | .binOp .rem _ x y _=>match S.op x,S.op y with
  | some (.int k a),some (.int k' b)=>some ([.prop (k=k'/\b≠0/\a.tmod b=n)],.int k n)
  | _,_=>none
 | _=>none
def evalShift (S:Env) (o:Oper) (n:Int):Option (List dO×Value) :=
 match o.op with
 | .binOp .shl _ x y _=>match S.op x,S.op y with
  | some (.int k a),some (.int _ b)=>some ([.prop (0<=b/\k.wrap (a*2 ^ (min b.toNat k.bits))=n)],.int k n)
  | _,_=>none
 | .binOp .shr _ x y _=>match S.op x,S.op y with
  | some (.int k a),some (.int _ b)=>some ([.prop (0<=b/\a.fdiv (2 ^ (min b.toNat k.bits))=n)],.int k n)
  | _,_=>none
 | _=>none
def ns (S:Env) (o:Oper):Option (List dO×Value) :=
 match o.op with
 | .binOp .add _ x y _=>match S.op x,S.op y with
  | some (.string a),some (.string b)=>some ([.prop (((a.size+b.size:Nat):Int)<=IntKind.i64.max)],.string (a++b))
  | _,_=>none
 | _=>none
def kl (P:Program) (S:Env) (o:Oper) (es:Array MapEntry) (clock:Nat):Option (List dO×Value) :=
 match o.op with
 | .call c =>
  match c.callee,c.args.toList,c.argTypes.toList with
  | .builtin .len,[x],[t]=>match P.underlying t,S.op x with
   | some (.map _ _),some (.map (some r))=>some ([.map r es clock],.int .i64 es.size)
   | _,_=>none
  | _,_,_=>none
 | _=>none
def evalOp (P:Program) (S:Env) (o:Oper):Hint->Option (List dO×Value)
 | .gen ans=>qO P S o ans
 | .agg vs=>qP P S o vs
 | .at_=>uv P S o
 | .byte b=>np P S o b
 | .elem v=>nq P S o v
 | .sub l h=>evalSub P S o l h
 | .div n=>evalDiv S o n
 | .shift n=>evalShift S o n
 | .Dm=>ns S o
 | .zV es c=>kl P S o es c
 | .cI v h=>match evalOp P S o h with
  | some (n,u)=>some (n++[.prop (u=v)],v)
  | none=>none
section
variable {P : Program}
theorem uw {S:Env}{o:Oper}(h:known S o=true):(∀ cs b,o.op≠.select cs b)/\∀ x∈o.op.operands,∃ v,S.op x=some v:=by
 simp only [known,Bool.and_eq_true,Bool.not_eq_true'] at h
 refine⟨λcs b e=>by rw [e] at h;simp [sk] at h,?_⟩
 have key:∀ (l:List Operand),(S.ops l).isSome=true->∀ x∈l,∃ v,S.op x=some v:=by
  intro l
  induction l with
  | nil=>intro _ x hx;cases hx
  | cons y l ih =>
   intro hs x hx
   simp only [Env.ops] at hs
   cases h1:S.op y with
   | none=>rw [h1] at hs;cases hs
   | some u =>
    cases h2:S.ops l with
    | none=>rw [h1,h2] at hs;cases hs
    | some us =>
     rcases List.mem_cons.1 hx with rfl|hx
     ·exact⟨u,h1⟩
     ·exact ih (by rw [h2];rfl) x hx
 intro x hx
 exact key _ h.2 x (Array.mem_toList_iff.2 hx)
theorem sm {N:Fr}{S:Env}{a:Act}(hf:Fits N S a){o:Oper}(h:known S o=true):execOp a.eval o=execOp (λx=>(S.op x).getD undef) o:=by
 obtain⟨h1,h2⟩:=uw h
 refine execOp_congr o h1 λx hx=>?_
 obtain⟨v,hv⟩:=h2 x hx
 rw [hf.op hv,hv]
 rfl
theorem oZ {N:Fr}{S:Env}{a:Act}(hf:Fits N S a){o:Oper}{ans:List Value}{n:List dO}{v:Value}{w:World}
 (h:qO P S o ans=some (n,v)) (hn:ba w n):(execOp a.eval o).run P w=.ok (.value v) w:=by
 unfold qO at h
 split at h
 ·rename_i hk
  rw [sm hf hk]
  exact sj _ _ _ _ h hn
 ·cases h
theorem qQ {N:Fr}{S:Env}{a:Act}(hf:Fits N S a){o:Oper}{n:List dO}{v:Value}{w:World}
 (h:uv P S o=some (n,v)) (hn:ba w n):(execOp a.eval o).run P w=.ok (.value v) w:=by
 unfold uv at h
 split at h
 ·rename_i t x i ho
  split at h
  ·rename_i e ad len cap k m hu hx hi
   split at h
   ·rename_i ie hie
    simp only [Option.some.injEq,Prod.mk.injEq] at h
    obtain⟨rfl,rfl⟩:=h
    have hb:0<=m/\m<(len:Int):=hn.1
    have hx':=hf.op hx
    have hi':=hf.op hi
    generalize a.eval=ρ at hx' hi' ⊢
    simp [execOp,ho,Instr.indexAt,hx',hi',asIntOf,run_underlying hu,sizeOf,typeInfo,hie,hb.1,hb.2,go_sem]
   ·cases h
  ·rename_i len e ad k m hu hx hi
   split at h
   ·rename_i ie hie
    simp only [Option.some.injEq,Prod.mk.injEq] at h
    obtain⟨rfl,rfl⟩:=h
    have hb:0<=m/\m<(len:Int):=hn.1
    have hx':=hf.op hx
    have hi':=hf.op hi
    generalize a.eval=ρ at hx' hi' ⊢
    simp [execOp,ho,Instr.indexAt,hx',hi',asIntOf,Instr.sureAddr,run_underlying hu,sizeOf,typeInfo,hie,hb.1,hb.2,go_sem]
   ·cases h
  ·cases h
 ·cases h
theorem run_loadCells {w:World}(p:Addr) (vs:Array Value) (h:∀ i,i<vs.size->w.cell? (p.add i)=vs[i]?) :
 ∀ (n i:Nat) (acc:Array Value),i+n=vs.size->(loadCellsFrom p i n acc).run P w=.ok (acc++vs.extract i (i+n)) w:=by
 intro n
 induction n with
 | zero=>intro i acc hi;simp [loadCellsFrom,go_sem];omega
 | succ n ih =>
  intro i acc hi
  have h1:=h i za
  rw [Array.getElem?_eq_getElem za] at h1
  simp only [loadCellsFrom,load,bind,Sem.bind,Sem.run,h1]
  have h2:=ih (i+1) (acc.push vs[i]) za
  refine(h2:_).trans ?_
  congr 1
  rw [show i+1+n=i+(n+1) from by omega]
  apply Array.ext'
  simp [Array.toList_extract,List.extract_eq_take_drop]
  rw [show i+(n+1)-(i+1)=n from by omega]
  have hl:i<vs.toList.length:=by simpa using (by omega:i<vs.size)
  rw [List.drop_eq_getElem_cons hl,List.take_succ_cons]
  simp
theorem fF {w:World}(p:Addr) (vs:Array Value){n:Nat}(hs:vs.size=n) (h:∀ i,i<vs.size->w.cell? (p.add i)=vs[i]?):(loadCellsFrom p 0 n #[]).run P w=.ok vs w:=by
 have h1:=run_loadCells (P:=P) p vs h n 0 #[] za
 rw [Nat.zero_add,<- hs,Array.extract_size] at h1
 rw [<- hs]
 simpa using h1
theorem mS {w:World}{t:TypeId}{ti:TypeInfo}(hi:P.info? t=some ti) (ha:∀ w,(isAgg t).run P w=.ok true w) (p:Addr) (vs:Array Value) (hs:vs.size=ti.size)
 (h:∀ i,i<vs.size->w.cell? (p.add i)=vs[i]?):(loadVar t p).run P w=.ok (.agg vs) w:=by
 have h1:=run_loadCells (P:=P) p vs h vs.size 0 #[] zG
 simp only [Nat.zero_add,Array.extract_size,Array.empty_append] at h1
 simp only [hs] at h1
 simp [loadVar,ha,sizeOf,typeInfo,hi,loadCells,h1,go_sem]
theorem qR {t:TypeId}{fs:Array Field}(h:P.underlying t=some (.struct fs)) (w:World):(isAgg t).run P w=.ok true w:=by
 simp [isAgg,run_underlying h,go_sem]
theorem so {t e:TypeId}{n:Nat}(h:P.underlying t=some (.array n e)) (w:World):(isAgg t).run P w=.ok true w:=by
 simp [isAgg,run_underlying h,go_sem]
theorem o4 {N:Fr}{S:Env}{a:Act}(hf:Fits N S a){o:Oper}{vs:Array Value}{n:List dO}{v:Value}{w:World}
 (h:qP P S o vs=some (n,v)) (hn:ba w n):(execOp a.eval o).run P w=.ok (.value v) w:=by
 unfold qP at h
 split at h
 ·rename_i t x ho
  split at h
  ·rename_i p i fs hx hi hu
   simp only [Option.some.injEq,Prod.mk.injEq] at h
   obtain⟨rfl,rfl⟩:=h
   have h1:vs.size=i.size:=hn.1
   have h2:=fF (P:=P) p vs h1 hn.2.1
   have h3:=qR hu
   have hx':=hf.op hx
   generalize a.eval=ρ at hx' ⊢
   simp [execOp,ho,Instr.loadAt,hx',Instr.sureAddr,h2,h3,sizeOf,typeInfo,hi,go_sem]
  ·rename_i p i len e hx hi hu
   simp only [Option.some.injEq,Prod.mk.injEq] at h
   obtain⟨rfl,rfl⟩:=h
   have h1:vs.size=i.size:=hn.1
   have h2:=fF (P:=P) p vs h1 hn.2.1
   have h3:=so hu
   have hx':=hf.op hx
   generalize a.eval=ρ at hx' ⊢
   simp [execOp,ho,Instr.loadAt,hx',Instr.sureAddr,h2,h3,sizeOf,typeInfo,hi,go_sem]
  ·cases h
 ·cases h
theorem nt {N:Fr}{S:Env}{a:Act}(hf:Fits N S a){o:Oper}{b:UInt8}{n:List dO}{v:Value}{w:World}
 (h:np P S o b=some (n,v)) (hn:ba w n):(execOp a.eval o).run P w=.ok (.value v) w:=by
 unfold np at h
 split at h
 ·rename_i t x i ho
  split at h
  ·rename_i s k m hu hx hi
   simp only [Option.some.injEq,Prod.mk.injEq] at h
   obtain⟨rfl,rfl⟩:=h
   have hb:0<=m/\s[m.toNat]?=some b:=hn.1
   have hx':=hf.op hx
   have hi':=hf.op hi
   generalize a.eval=ρ at hx' hi' ⊢
   simp [execOp,ho,Instr.index,hx',hi',asIntOf,run_underlying hu,hb.1,hb.2,go_sem]
  ·cases h
 ·cases h
theorem nu {N:Fr}{S:Env}{a:Act}(hf:Fits N S a){o:Oper}{u:Value}{n:List dO}{v:Value}{w:World}
 (h:nq P S o u=some (n,v)) (hn:ba w n):(execOp a.eval o).run P w=.ok (.value v) w:=by
 unfold nq at h
 split at h
 ·rename_i t x i ho
  split at h
  ·rename_i len e cs k m hu hx hi
   have hx':=hf.op hx
   have hi':=hf.op hi
   generalize a.eval=ρ at hx' hi' ⊢
   split at h
   ·rename_i ie fs hie he
    simp only [Option.some.injEq,Prod.mk.injEq] at h
    obtain⟨rfl,rfl⟩:=h
    have hb:0<=m/\m<(len:Int):=hn.1
    have hv:Value.agg (cs.extract (m.toNat*ie.size) (m.toNat*ie.size+ie.size))=u:=hn.2.1
    subst hv
    simp [execOp,ho,Instr.index,hx',hi',asIntOf,run_underlying hu,hb.1,hb.2,part,isAgg,run_underlying he,sizeOf,typeInfo,hie,asAgg,go_sem]
   ·rename_i ie k' e' hie he
    simp only [Option.some.injEq,Prod.mk.injEq] at h
    obtain⟨rfl,rfl⟩:=h
    have hb:0<=m/\m<(len:Int):=hn.1
    have hv:Value.agg (cs.extract (m.toNat*ie.size) (m.toNat*ie.size+ie.size))=u:=hn.2.1
    subst hv
    simp [execOp,ho,Instr.index,hx',hi',asIntOf,run_underlying hu,hb.1,hb.2,part,isAgg,run_underlying he,sizeOf,typeInfo,hie,asAgg,go_sem]
   ·rename_i ie k' hie he
    simp only [Option.some.injEq,Prod.mk.injEq] at h
    obtain⟨rfl,rfl⟩:=h
    have hb:0<=m/\m<(len:Int):=hn.1
    have hv:cs[m.toNat*ie.size]?=some u:=hn.2.1
    simp [execOp,ho,Instr.index,hx',hi',asIntOf,run_underlying hu,hb.1,hb.2,part,isAgg,run_underlying he,sizeOf,typeInfo,hie,asAgg,hv,go_sem]
   ·rename_i ie hie he
    simp only [Option.some.injEq,Prod.mk.injEq] at h
    obtain⟨rfl,rfl⟩:=h
    have hb:0<=m/\m<(len:Int):=hn.1
    have hv:cs[m.toNat*ie.size]?=some u:=hn.2.1
    simp [execOp,ho,Instr.index,hx',hi',asIntOf,run_underlying hu,hb.1,hb.2,part,isAgg,run_underlying he,sizeOf,typeInfo,hie,asAgg,hv,go_sem]
   ·rename_i ie hie he
    simp only [Option.some.injEq,Prod.mk.injEq] at h
    obtain⟨rfl,rfl⟩:=h
    have hb:0<=m/\m<(len:Int):=hn.1
    have hv:cs[m.toNat*ie.size]?=some u:=hn.2.1
    simp [execOp,ho,Instr.index,hx',hi',asIntOf,run_underlying hu,hb.1,hb.2,part,isAgg,run_underlying he,sizeOf,typeInfo,hie,asAgg,hv,go_sem]
   ·rename_i ie p1 p2 p3 hie he
    simp only [Option.some.injEq,Prod.mk.injEq] at h
    obtain⟨rfl,rfl⟩:=h
    have hb:0<=m/\m<(len:Int):=hn.1
    have hv:cs[m.toNat*ie.size]?=some u:=hn.2.1
    simp [execOp,ho,Instr.index,hx',hi',asIntOf,run_underlying hu,hb.1,hb.2,part,isAgg,run_underlying he,sizeOf,typeInfo,hie,asAgg,hv,go_sem]
   ·rename_i ie p1 hie he
    simp only [Option.some.injEq,Prod.mk.injEq] at h
    obtain⟨rfl,rfl⟩:=h
    have hb:0<=m/\m<(len:Int):=hn.1
    have hv:cs[m.toNat*ie.size]?=some u:=hn.2.1
    simp [execOp,ho,Instr.index,hx',hi',asIntOf,run_underlying hu,hb.1,hb.2,part,isAgg,run_underlying he,sizeOf,typeInfo,hie,asAgg,hv,go_sem]
   ·cases h
  ·cases h
 ·cases h
theorem pe {N:Fr}{S:Env}{a:Act}(hf:Fits N S a){o:Oper}{q:Int}{n:List dO}{v:Value}{w:World}
 (h:evalDiv S o q=some (n,v)) (hn:ba w n):(execOp a.eval o).run P w=.ok (.value v) w:=by
 unfold evalDiv at h
 split at h
 ·rename_i t x y t' ho
  split at h
  ·rename_i k a' k' b hx hy
   simp only [Option.some.injEq,Prod.mk.injEq] at h
   obtain⟨rfl,rfl⟩:=h
   obtain⟨rfl,hb,rfl⟩:k=k'/\b≠0/\k.wrap (a'.tdiv b)=q:=hn.1
   have hx':=hf.op hx
   have hy':=hf.op hy
   generalize a.eval=ρ at hx' hy' ⊢
   simp [execOp,ho,eqGuard,binOp,hx',hy',Op.intDiv,hb,go_sem]
  ·cases h
 ·rename_i t x y t' ho
  split at h
  ·rename_i k a' k' b hx hy
   simp only [Option.some.injEq,Prod.mk.injEq] at h
   obtain⟨rfl,rfl⟩:=h
   obtain⟨rfl,hb,rfl⟩:k=k'/\b≠0/\a'.tmod b=q:=hn.1
   have hx':=hf.op hx
   have hy':=hf.op hy
   generalize a.eval=ρ at hx' hy' ⊢
   simp [execOp,ho,eqGuard,binOp,hx',hy',Op.intDiv,hb,go_sem]
  ·cases h
 ·cases h
theorem mT {N:Fr}{S:Env}{a:Act}(hf:Fits N S a){o:Oper}{q:Int}{n:List dO}{v:Value}{w:World}
 (h:evalShift S o q=some (n,v)) (hn:ba w n):(execOp a.eval o).run P w=.ok (.value v) w:=by
 unfold evalShift at h
 split at h
 ·rename_i t x y t' ho
  split at h
  ·rename_i k a' k' b hx hy
   simp only [Option.some.injEq,Prod.mk.injEq] at h
   obtain⟨rfl,rfl⟩:=h
   obtain⟨hb,rfl⟩:0<=b/\k.wrap (a'*2 ^ (min b.toNat k.bits))=q:=hn.1
   have hx':=hf.op hx
   have hy':=hf.op hy
   generalize a.eval=ρ at hx' hy' ⊢
   have hb':¬ b<0:=za
   simp [execOp,ho,eqGuard,binOp,hx',hy',Op.shift,hb',go_sem]
  ·cases h
 ·rename_i t x y t' ho
  split at h
  ·rename_i k a' k' b hx hy
   simp only [Option.some.injEq,Prod.mk.injEq] at h
   obtain⟨rfl,rfl⟩:=h
   obtain⟨hb,rfl⟩:0<=b/\a'.fdiv (2 ^ (min b.toNat k.bits))=q:=hn.1
   have hx':=hf.op hx
   have hy':=hf.op hy
   generalize a.eval=ρ at hx' hy' ⊢
   have hb':¬ b<0:=za
   simp [execOp,ho,eqGuard,binOp,hx',hy',Op.shift,hb',go_sem]
  ·cases h
 ·cases h
theorem nx {N:Fr}{S:Env}{a:Act}(hf:Fits N S a){o:Oper}{n:List dO}{v:Value}{w:World}
 (h:ns S o=some (n,v)) (hn:ba w n):(execOp a.eval o).run P w=.ok (.value v) w:=by
 unfold ns at h
 split at h
 ·rename_i t x y t' ho
  split at h
  ·rename_i s u hx hy
   simp only [Option.some.injEq,Prod.mk.injEq] at h
   obtain⟨rfl,rfl⟩:=h
   have hb:((s.size+u.size:Nat):Int)<=IntKind.i64.max:=hn.1
   have hx':=hf.op hx
   have hy':=hf.op hy
   generalize a.eval=ρ at hx' hy' ⊢
   have hb':¬ ((s.size+u.size:Nat):Int)>IntKind.i64.max:=za
   simp only [execOp,ho,eqGuard,binOp,hx',hy',Op.stringOp,hb',if_false]
   simp [go_sem]
  ·cases h
 ·cases h
theorem lM {N:Fr}{S:Env}{a:Act}(hf:Fits N S a){o:Oper}{es:Array MapEntry}{c:Nat}{n:List dO}{v:Value}{w:World}
 (h:kl P S o es c=some (n,v)) (hn:ba w n):(execOp a.eval o).run P w=.ok (.value v) w:=by
 unfold kl at h
 split at h
 ·rename_i cl ho
  split at h
  ·rename_i x t hc ha ht
   split at h
   ·rename_i k e r hu hx
    simp only [Option.some.injEq,Prod.mk.injEq] at h
    obtain⟨rfl,rfl⟩:=h
    have hb0:w.heap[r]?=some (.map es c):=hn.1
    have hb:(getObj r).run P w=.ok (.map es c) w:=by simp [getObj,Sem.run,hb0]
    have hx':=hf.op hx
    have ha':cl.args=#[x]:=by rw [<- Array.toArray_toList (xs:=cl.args),ha]
    have ht':cl.argTypes=#[t]:=by rw [<- Array.toArray_toList (xs:=cl.argTypes),ht]
    generalize a.eval=ρ at hx' ⊢
    simp [execOp,ho,resolve,hc,ha',ht',invoke,builtin,Builtin.len_,hx',run_underlying hu,hb,goInt,go_sem]
   ·cases h
  ·cases h
 ·cases h
theorem dR {N:Fr}{S:Env}{a:Act}(hf:Fits N S a){x:Option Operand}{l:Nat}{n:List dO}{w:World}(h:ft S x l=some n) (hn:ba w n) :
 (x=none)\/∃ y k,x=some y/\a.eval y=.int k (l:Int):=by
 unfold ft at h
 split at h
 ·rename_i y
  split at h
  ·rename_i k m hy
   simp only [Option.some.injEq] at h
   subst h
   have:m=(l:Int):=hn.1
   subst this
   exact .inr ⟨y,k,rfl,hf.op hy⟩
  ·cases h
 ·exact .inl rfl
theorem run_sliceBound {w:World}(k:IntKind) (l y:Nat) (c:BoundsCode) (h:l<=y):(Instr.sliceBound (.int k (l:Int)) y c).run P w=.ok l w:=by
 have h1:(0:Int)<=l/\(l:Int)<=y:=za
 simp [Instr.sliceBound,asIntOf,h1,go_sem]
theorem pf {N:Fr}{S:Env}{a:Act}(hf:Fits N S a){o:Oper}{l hh:Nat}{n:List dO}{v:Value}{w:World}
 (h:evalSub P S o l hh=some (n,v)) (hn:ba w n):(execOp a.eval o).run P w=.ok (.value v) w:=by
 unfold evalSub at h
 split at h
 ·rename_i t x lo hi ho
  split at h
  ·rename_i s hu hx
   split at h
   ·rename_i n1 n2 e1 e2
    simp only [Option.some.injEq,Prod.mk.injEq] at h
    obtain⟨rfl,rfl⟩:=h
    obtain⟨k1,k2⟩:=eg hn
    obtain⟨k2,k3⟩:=eg k2
    have b1:=dR hf e1 k1
    have b2:=dR hf e2 k2
    have hx':=hf.op hx
    generalize a.eval=ρ at hx' b1 b2 ⊢
    obtain⟨q1,q2,q3,q4⟩:=k3.1
    clear e1 e2 k1 k2 k3
    rcases b1 with rfl|⟨y,k,rfl,hy⟩<;>rcases b2 with rfl|⟨z,k',rfl,hz⟩
    all_goals (try obtain rfl:=q1 rfl)
    all_goals (try obtain rfl:=q2 rfl)
    all_goals simp [execOp,ho,Instr.sliceAt,Instr.slice,hx',run_underlying hu,run_sliceBound,q3,q4,go_sem, *]
   ·cases h
  ·rename_i e ad len cap hu hx
   split at h
   ·rename_i n1 n2 ie e1 e2 hie
    simp only [Option.some.injEq,Prod.mk.injEq] at h
    obtain⟨rfl,rfl⟩:=h
    obtain⟨k1,k2⟩:=eg hn
    obtain⟨k2,k3⟩:=eg k2
    have b1:=dR hf e1 k1
    have b2:=dR hf e2 k2
    have hx':=hf.op hx
    generalize a.eval=ρ at hx' b1 b2 ⊢
    obtain⟨q1,q2,q3,q4⟩:=k3.1
    clear e1 e2 k1 k2 k3
    rcases b1 with rfl|⟨y,k,rfl,hy⟩<;>rcases b2 with rfl|⟨z,k',rfl,hz⟩
    all_goals (try obtain rfl:=q1 rfl)
    all_goals (try obtain rfl:=q2 rfl)
    all_goals simp [execOp,ho,Instr.sliceAt,Instr.slice,hx',run_underlying hu,run_sliceBound,q3,q4,sizeOf,typeInfo,hie,go_sem, *]
   ·cases h
  ·rename_i m e ad hu hx
   split at h
   ·rename_i n1 n2 ie e1 e2 hie
    simp only [Option.some.injEq,Prod.mk.injEq] at h
    obtain⟨rfl,rfl⟩:=h
    obtain⟨k1,k2⟩:=eg hn
    obtain⟨k2,k3⟩:=eg k2
    have b1:=dR hf e1 k1
    have b2:=dR hf e2 k2
    have hx':=hf.op hx
    generalize a.eval=ρ at hx' b1 b2 ⊢
    obtain⟨q1,q2,q3,q4⟩:=k3.1
    clear e1 e2 k1 k2 k3
    rcases b1 with rfl|⟨y,k,rfl,hy⟩<;>rcases b2 with rfl|⟨z,k',rfl,hz⟩
    all_goals (try obtain rfl:=q1 rfl)
    all_goals (try obtain rfl:=q2 rfl)
    all_goals simp [execOp,ho,Instr.sliceAt,Instr.sureAddr,hx',run_underlying hu,run_sliceBound,q3,q4,sizeOf,typeInfo,hie,go_sem, *]
   ·cases h
  ·cases h
 ·cases h
theorem iC {N:Fr}{S:Env}{a:Act}(hf:Fits N S a){o:Oper}{w:World}:∀ {h:Hint}{n:List dO}{v:Value},
 evalOp P S o h=some (n,v)->ba w n->(execOp a.eval o).run P w=.ok (.value v) w
 | .gen _,_,_,e,hn=>oZ hf e hn
 | .agg _,_,_,e,hn=>o4 hf e hn
 | .at_,_,_,e,hn=>qQ hf e hn
 | .byte _,_,_,e,hn=>nt hf e hn
 | .elem _,_,_,e,hn=>nu hf e hn
 | .sub _ _,_,_,e,hn=>pf hf e hn
 | .div _,_,_,e,hn=>pe hf e hn
 | .shift _,_,_,e,hn=>mT hf e hn
 | .Dm,_,_,e,hn=>nx hf e hn
 | .zV _ _,_,_,e,hn=>lM hf e hn
 | .cI u h,n,v,e,hn=>by
  simp only [evalOp] at e
  split at e
  ·rename_i n' u' e'
   simp only [Option.some.injEq,Prod.mk.injEq] at e
   obtain⟨rfl,rfl⟩:=e
   obtain⟨h1,h2⟩:=eg hn
   have h3:u'=u:=h2.1
   rw [<- h3]
   exact iC hf e' h1
  ·cases e
def cn (ops:Array Oper) (S:Env) (o:Oper):Option Bool :=
 match o.guard with
 | none=>some true
 | some (j,want) =>
  match (ops[j]?).bind (λo:Oper=>o.dst) with
  | none=>some false
  | some d =>
   match S.get d with
   | some (.bool b)=>some (b == want)
   | some (.tuple _)=>some false
   | _=>none
theorem dC {N:Fr}{S:Env}{a:Act}(hf:Fits N S a){ops:Array Oper}{o:Oper}{b:Bool}(h:cn ops S o=some b) (hd:∀ (j d:Nat),(ops[j]?).bind (λo:Oper=>o.dst)=some d->d<N) :
 Region.wanted o (yielded ops a.tmps)=b:=by
 unfold cn at h
 unfold Region.wanted
 split at h
 ·rename_i hg
  simp only [Option.some.injEq] at h
  rw [hg]
  exact h
 ·rename_i j want hg
  rw [hg]
  simp only [yielded]
  split at h
  ·rename_i hn
   rw [hn]
   simpa using h
  ·rename_i d hs
   have hlt:=hd j d hs
   rw [hs]
   split at h
   ·rename_i b' hb'
    have:=hf.get hb'
    simp only [Option.bind_some]
    rw [Array.getElem?_eq_getElem (by rw [hf.size];exact hlt)]
    simp only [Array.getD,hf.size,hlt,dite_true] at this
    have h5:a.tmps[d]'(by rw [hf.size];exact hlt)=Value.bool b':=this
    rw [h5]
    simpa using h
   ·rename_i vs hb'
    have:=hf.get hb'
    simp only [Option.bind_some]
    rw [Array.getElem?_eq_getElem (by rw [hf.size];exact hlt)]
    simp only [Array.getD,hf.size,hlt,dite_true] at this
    have h5:a.tmps[d]'(by rw [hf.size];exact hlt)=Value.tuple vs:=this
    rw [h5]
    simpa using h
   ·cases h
abbrev cE:=List (Nat×List dO)
def hY (N:Nat) (ops:Array Oper):Bool:=ops.all λo=>si N o.dst
theorem dY {N:Nat}{ops:Array Oper}(h:hY N ops=true) (j:Nat) (o:Oper) (hj:ops[j]?=some o):si N o.dst=true:=by
 simp only [hY,Array.all_eq_true_iff_forall_mem] at h
 exact h o (Array.mem_of_getElem? hj)
theorem eS {N:Nat}{ops:Array Oper}(h:hY N ops=true):∀ (j d:Nat),(ops[j]?).bind (λo:Oper=>o.dst)=some d->d<N:=by
 intro j d hj
 cases ho:ops[j]? with
 | none=>rw [ho] at hj;cases hj
 | some o =>
  rw [ho] at hj
  simp only [Option.bind_some] at hj
  have:=dY h j o ho
  rw [hj] at this
  simpa [si] using this
def phase (P:Program) (ops:Array Oper):List (Nat×Hint)->Env->Option (cE×Env)
 | [],S=>some ([],S)
 | (i,h)::l,S =>
  match ops[i]? with
  | none=>none
  | some o =>
   match cn ops S o with
   | none=>none
   | some false=>phase P ops l (S.cP o.dst undef)
   | some true =>
    match evalOp P S o h with
    | none=>none
    | some (n,v) =>
     match phase P ops l (S.cP o.dst v) with
     | none=>none
     | some (A,S')=>some (if n.isEmpty then (A,S') else ((i,n)::A,S'))
def fU (w:World):cE->Prop
 | []=>True
 | x::A=>ba w x.2/\fU w A
def cE.reads (A:cE):Reads:=A.map λx=>(x.1,λw=>ba w x.2)
def Ca (P:Program) (ops:Array Oper) (M:List Nat) (Q:Exit->Act->World->Prop) (N:Fr) (A:cE) (rest:PT) (S:Env) (w:World):Prop :=
 ∀ a,Fits N S a->bO N.r P ops M Q A.reads rest a w
theorem bO.iD {ops:Array Oper}{r:Option Nat}{Q:Exit->Act->World->Prop}{M:List Nat}(i:Nat){R:World->Prop}(hR:∀ w,R w):∀ (p:PT) (D:Reads) (a:Act) (w:World),bO r P ops M Q D p a w->bO r P ops M Q ((i,R)::D) p a w
 | .done,_,_,_,h=>h
 | .alt s t,_,_,_,h=>⟨bO.iD i hR s _ _ _ h.1,bO.iD i hR t _ _ _ h.2⟩
 | .rd j p,D,a,w,h=>by
  obtain⟨o,v,R',ho,hy,hR',hp⟩:=h
  refine⟨o,v,R',ho,hy,hR',?_⟩
  refine bO.mono p ((i,R)::(j,R')::D) _ _ _ (λx hx=>?_) (bO.iD i hR p _ _ _ hp)
  simp only [List.mem_cons] at hx ⊢
  rcases hx with h|h|h
  ·exact .inr (.inl h)
  ·exact .inl h
  ·exact .inr (.inr h)
 | .ef j p,D,a,w,h=>by
  change gJ r P ops Q j (λa' w'=>(∀ x∈D,uq M x.1 j=false->x.2 w')/\bO r P ops M Q D p a' w') a w at h
  exact bO.ef (wpOpIn_mono (λa' w' h'=>⟨λx hx hx'=>by
   rcases List.mem_cons.1 hx with rfl|hx
   ·exact hR w'
   ·exact h'.1 x hx hx',bO.iD i hR p _ _ _ h'.2⟩) h)
def jX:List Nat->PT->PT
 | [],t=>t
 | i::l,t=>.rd i (jX l t)
theorem Ca.phase {ops:Array Oper}{M:List Nat}{Q:Exit->Act->World->Prop}{N:Fr}(hN:hY N ops=true){rest:PT}{w:World} :
 ∀ (l:List (Nat×Hint)) (S:Env) (A A':cE) (S':Env),Go.Sx.phase P ops l S=some (A',S')->fU w A'->Ca P ops M Q N (A'.reverse++A) rest S' w ->
  Ca P ops M Q N A (jX (l.map λx=>x.1) rest) S w
 | [],S,A,A',S',h,_,hg=>by
  simp only [Go.Sx.phase,Option.some.injEq,Prod.mk.injEq] at h
  obtain⟨rfl,rfl⟩:=h
  exact hg
 | (i,h)::l,S,A,A',S',hp,hA,hg=>by
  simp only [Go.Sx.phase] at hp
  cases ho:ops[i]? with
  | none=>rw [ho] at hp;cases hp
  | some o =>
   simp only [ho] at hp
   have hdo:=dY hN i o ho
   cases hw:cn ops S o with
   | none=>rw [hw] at hp;cases hp
   | some b =>
    simp only [hw] at hp
    cases b with
    | false =>
     intro a hf
     have h1:=Ca.phase hN l (S.cP o.dst undef) A A' S' hp hA hg (a.put o.dst undef) (hf.cP hdo _)
     exact⟨o,undef,λ_=>True,ho,.inr ⟨dC hf hw (eS hN),rfl⟩,trivial,bO.iD i (λ_=>trivial) _ _ _ _ h1⟩
    | true =>
     simp only at hp
     cases he:evalOp P S o h with
     | none=>rw [he] at hp;cases hp
     | some r =>
      obtain⟨n,v⟩:=r
      simp only [he] at hp
      cases hq:Go.Sx.phase P ops l (S.cP o.dst v) with
      | none=>rw [hq] at hp;cases hp
      | some r =>
       obtain⟨A1,S1⟩:=r
       simp only [hq] at hp
       by_cases hemp:n.isEmpty=true
       ·simp only [hemp,if_true,Option.some.injEq,Prod.mk.injEq] at hp
        obtain⟨rfl,rfl⟩:=hp
        obtain rfl:n=[]:=by simpa using hemp
        intro a hf
        have h1:=Ca.phase hN l _ A _ _ hq hA hg (a.put o.dst v) (hf.cP hdo _)
        exact⟨o,v,λ_=>True,ho,.inl ⟨dC hf hw (eS hN),λw' _=>iC hf he trivial⟩,trivial,bO.iD i (λ_=>trivial) _ _ _ _ h1⟩
       ·simp only [hemp,Bool.false_eq_true,if_false,Option.some.injEq,Prod.mk.injEq] at hp
        obtain⟨rfl,rfl⟩:=hp
        intro a hf
        have h1:=Ca.phase hN l _ ((i,n)::A) _ _ hq hA.2 (by simpa using hg) (a.put o.dst v) (hf.cP hdo _)
        exact⟨o,v,λw=>ba w n,ho,.inl ⟨dC hf hw (eS hN),λw' hw'=>iC hf he hw'⟩,hA.1,h1⟩
end
structure aI where
 own:Nat->Prop
 holds:World->Prop
 loc:∀ w w':World,(∀ b,own b->w'.heap[b]?=w.heap[b]?)->holds w->holds w'
structure St (w0:World) (L:List aI) (w:World):Prop where
 os:w.os=w0.os
 tape:w.tape=w0.tape
 output:w.output=w0.output
 holds:∀ A∈L,A.holds w
 lt:∀ A∈L,∀ b,A.own b->b<w.heap.size
 apart:L.Pairwise (λA B=>∀ b,A.own b->¬ B.own b)
namespace St
variable {w0 w w' : World} {L L' : List aI} {A A' B : aI}
theorem tail (h:St w0 (A::L) w):St w0 L w :=
 ⟨h.os,h.tape,h.output,λB hB=>h.holds B (List.mem_cons_of_mem _ hB),λB hB=>h.lt B (List.mem_cons_of_mem _ hB),(List.pairwise_cons.1 h.apart).2⟩
theorem sub (h:St w0 L w) (hs:List.Sublist L' L):St w0 L' w :=
 ⟨h.os,h.tape,h.output,λB hB=>h.holds B (hs.subset hB),λB hB=>h.lt B (hs.subset hB),h.apart.sublist hs⟩
theorem drop (n:Nat) (h:St w0 L w):St w0 (L.drop n) w:=h.sub (List.drop_sublist n L)
theorem perm (h:St w0 L w) (hp:L.Perm L'):St w0 L' w :=
 ⟨h.os,h.tape,h.output,λB hB=>h.holds B (hp.mem_iff.2 hB),λB hB=>h.lt B (hp.mem_iff.2 hB),
  (hp.pairwise_iff (λ{A B} hab b hb ha=>hab b ha hb)).1 h.apart⟩
theorem pN:∀ {L:List aI}{i:Nat}{A:aI},L[i]?=some A->L.Perm (A::L.eraseIdx i)
 | _::_,0,_,h=>by simp at h;subst h;exact List.Perm.refl _
 | B::L,i+1,A,h=>by
  simp only [List.getElem?_cons_succ] at h
  exact((pN h).cons B).trans (List.Perm.swap A B _)
theorem pull (h:St w0 L w) (i:Nat) (hi:L[i]?=some A):St w0 (A::L.eraseIdx i) w:=h.perm (pN hi)
theorem at_ (h:St w0 L w) (i:Nat) (hi:L[i]?=some A):A.holds w:=h.holds A (List.mem_of_getElem? hi)
theorem drew (h:St w0 L w):St w0 L { w with drawn:=w.drawn+1 } :=
 ⟨h.os,h.tape,h.output,λB hB=>B.loc w _ (λ_ _=>rfl) (h.holds B hB),h.lt,h.apart⟩
theorem same (h:St w0 L w) (h1:w'.os=w.os) (h2:w'.tape=w.tape) (h3:w'.output=w.output) (h4:w'.heap=w.heap):St w0 L w' :=
 ⟨h1.trans h.os,h2.trans h.tape,h3.trans h.output,λB hB=>B.loc w w' (λb _=>by rw [h4]) (h.holds B hB),λB hB b hb=>by rw [h4];exact h.lt B hB b hb,h.apart⟩
theorem step (h:St w0 (A::L) w) (h1:w'.os=w.os) (h2:w'.tape=w.tape) (h3:w'.output=w.output) (hsz:w.heap.size<=w'.heap.size)
 (hfr:∀ b,b<w.heap.size->¬ A.own b->w'.heap[b]?=w.heap[b]?) (hA:A'.holds w') (hown:∀ b,A'.own b->(A.own b\/w.heap.size<=b)/\b<w'.heap.size):St w0 (A'::L) w':=by
 have hp:=List.pairwise_cons.1 h.apart
 refine⟨h1.trans h.os,h2.trans h.tape,h3.trans h.output,λB hB=>?_,λB hB b hb=>?_,List.pairwise_cons.2 ⟨λB hB b hb hb'=>?_,hp.2⟩⟩
 ·rcases List.mem_cons.1 hB with rfl|hB
  ·exact hA
  ·refine B.loc w w' (λb hb=>hfr b (h.lt B (List.mem_cons_of_mem _ hB) b hb) λha=>hp.1 B hB b ha hb) (h.holds B (List.mem_cons_of_mem _ hB))
 ·rcases List.mem_cons.1 hB with rfl|hB
  ·exact(hown b hb).2
  ·exact Nat.lt_of_lt_of_le (h.lt B (List.mem_cons_of_mem _ hB) b hb) hsz
 ·have hlt:=h.lt B (List.mem_cons_of_mem _ hB) b hb'
  rcases(hown b hb).1 with ha|hn
  ·exact hp.1 B hB b ha hb'
  ·omega
def nothing:aI:=⟨λ_=>False,λ_=>True,λ_ _ _ _=>trivial⟩
theorem iE (h:St w0 L w):St w0 (nothing::L) w :=
 ⟨h.os,h.tape,h.output,λB hB=>by
  rcases List.mem_cons.1 hB with rfl|hB;· trivial
  ·exact h.holds B hB,
  λB hB b hb=>by
   rcases List.mem_cons.1 hB with rfl|hB;· exact hb.elim
   ·exact h.lt B hB b hb,
  List.pairwise_cons.2 ⟨λ_ _ _ hb=>hb.elim,h.apart⟩⟩
theorem new (h:St w0 L w) (h1:w'.os=w.os) (h2:w'.tape=w.tape) (h3:w'.output=w.output) (hsz:w.heap.size<=w'.heap.size)
 (hfr:∀ b,b<w.heap.size->w'.heap[b]?=w.heap[b]?) (hA:A'.holds w') (hown:∀ b,A'.own b->w.heap.size<=b/\b<w'.heap.size):St w0 (A'::L) w' :=
 step (iE h) h1 h2 h3 hsz (λb hb _=>hfr b hb) hA (λb hb=>⟨.inr (hown b hb).1,(hown b hb).2⟩)
theorem conv (h:St w0 (A::L) w) (hh:A.holds w->A'.holds w) (ho:∀ b,A'.own b->A.own b):St w0 (A'::L) w :=
 step h rfl rfl rfl (Nat.le_refl _) (λ_ _ _=>rfl) (hh (h.holds A (List.mem_cons_self ..))) (λb hb=>⟨.inl (ho b hb),h.lt A (List.mem_cons_self ..) b (ho b hb)⟩)
end St
def aI.and (A B:aI):aI :=
 ⟨λb=>A.own b\/B.own b,λw=>A.holds w/\B.holds w/\∀ b,A.own b->¬ B.own b,λw w' h ⟨h1,h2,h3⟩=>⟨A.loc w w' (λb hb=>h b (.inl hb)) h1,B.loc w w' (λb hb=>h b (.inr hb)) h2,h3⟩⟩
theorem St.join {w0 w:World}{L:List aI}{A B:aI}(h:St w0 (A::B::L) w):St w0 (A.and B::L) w:=by
 have hp:=List.pairwise_cons.1 h.apart
 have hq:=List.pairwise_cons.1 hp.2
 refine⟨h.os,h.tape,h.output,λC hC=>?_,λC hC b hb=>?_,List.pairwise_cons.2 ⟨λC hC b hb hc=>?_,hq.2⟩⟩
 ·rcases List.mem_cons.1 hC with rfl|hC
  ·exact⟨h.holds A zG,h.holds B zG,hp.1 B zG⟩
  ·exact h.holds C (by simp [hC])
 ·rcases List.mem_cons.1 hC with rfl|hC
  ·rcases hb with hb|hb
   ·exact h.lt A zG b hb
   ·exact h.lt B zG b hb
  ·exact h.lt C (by simp [hC]) b hb
 ·rcases hb with hb|hb
  ·exact hp.1 C (by simp [hC]) b hb hc
  ·exact hq.1 C hC b hb hc
theorem St.split {w0 w:World}{L:List aI}{A B:aI}(h:St w0 (A.and B::L) w):St w0 (A::B::L) w:=by
 have hp:=List.pairwise_cons.1 h.apart
 have hAB:=h.holds (A.and B) zG
 refine⟨h.os,h.tape,h.output,λC hC=>?_,λC hC b hb=>?_,List.pairwise_cons.2 ⟨λC hC b hb hc=>?_,List.pairwise_cons.2 ⟨λC hC b hb hc=>?_,hp.2⟩⟩⟩
 ·rcases List.mem_cons.1 hC with rfl|hC
  ·exact hAB.1
  ·rcases List.mem_cons.1 hC with rfl|hC
   ·exact hAB.2.1
   ·exact h.holds C (by simp [hC])
 ·rcases List.mem_cons.1 hC with rfl|hC
  ·exact h.lt (C.and B) zG b (.inl hb)
  ·rcases List.mem_cons.1 hC with rfl|hC
   ·exact h.lt (A.and C) zG b (.inr hb)
   ·exact h.lt C (by simp [hC]) b hb
 ·rcases List.mem_cons.1 hC with rfl|hC
  ·exact hAB.2.2 b hb hc
  ·exact hp.1 C hC b (.inl hb) hc
 ·exact hp.1 C hC b (.inr hb) hc
def ah (b:Nat) (cs:Array Value) (T:TypeId):aI :=
 ⟨λk=>k=b,λw=>∃ fr:Nat×Nat,w.heap[b]?=some (.cells cs T fr)/\∀ i,i<cs.size->¬ (fr.1<=i/\i<fr.2),λw w' h ⟨fr,h1,h2⟩=>⟨fr,(h b rfl).trans h1,h2⟩⟩
def mU (b:Nat) (o:Obj):aI:=⟨λk=>k=b,λw=>w.heap[b]?=some o,λw w' h h1=>(h b rfl).trans h1⟩
def sq (W:World):aI:=⟨λk=>k<W.heap.size,λw=>∀ k,k<W.heap.size->w.heap[k]?=W.heap[k]?,λw w' h h1 k hk=>(h k hk).trans (h1 k hk)⟩
theorem eE (b off n:Nat):(Addr.mk b off none).add n=⟨b,off+n,none⟩:=by
 unfold Addr.add
 split
 ·rename_i h;subst h;rfl
 ·rfl
theorem ah.cell {b:Nat}{cs:Array Value}{T:TypeId}{w:World}(h:(ah b cs T).holds w) (off:Nat):w.cell? ⟨b,off,none⟩=cs[off]?:=by
 obtain⟨fr,h1,_⟩:=h
 simp [World.cell?,h1]
theorem St.cell {w0 w:World}{L:List aI}(h:St w0 L w) (i:Nat){b:Nat}{cs:Array Value}{T:TypeId}{off:Nat}{v:Value}(hi:L[i]?=some (ah b cs T)) (hv:cs[off]?=some v) :
 w.cell? ⟨b,off,none⟩=some v:=(ah.cell (h.at_ i hi) off).trans hv
theorem St.cells {w0 w:World}{L:List aI}(h:St w0 L w) (i:Nat){b:Nat}{cs:Array Value}{T:TypeId}(off:Nat){vs:Array Value}(hi:L[i]?=some (ah b cs T)) (hv:cs.extract off (off+vs.size)=vs) :
 ∀ j,j<vs.size->w.cell? ((Addr.mk b off none).add j)=vs[j]?:=by
 intro j hj
 rw [eE,ah.cell (h.at_ i hi)]
 have h1:(cs.extract off (off+vs.size))[j]?=vs[j]?:=by rw [hv]
 rw [<- h1,Array.getElem?_extract]
 have h2:=congrArg Array.size hv
 simp only [Array.size_extract] at h2
 rw [if_pos za]
theorem St.base {w0 w W:World}{L:List aI}(h:St w0 L w) (i:Nat) (hi:L[i]?=some (sq W)){p:Addr}{v:Value}(hv:W.cell? p=some v):w.cell? p=some v:=by
 have h1:=h.at_ i hi
 have hlt:p.block<W.heap.size:=World.block_lt_of_cell? W p hv
 rw [<- hv]
 exact World.cell?_of_block (w:=W) (h1 p.block hlt)
inductive dS where
 | code (c:Code)
 | oW (id:Nat)
 | lp (I:Act->World->Prop)
def KQ (P:Program) (N:Fr) (R0:Exit->Act->World->Prop):List dS->Exit->Act->World->Prop
 | []=>R0
 | .code c::k=>Exit.then (c.wpIn (dn N.r) 0 P (KQ P N R0 k)) (KQ P N R0 k)
 | .oW id::k=>Exit.inBlock id (KQ P N R0 k)
 | .lp I::k=>Exit.then I (KQ P N R0 k)
def ny (Q:Exit->Act->World->Prop):Prop:=∀ c a w,¬ Q (.panic c) a w
theorem KQ.pO {P:Program}{N:Fr}{R0:Exit->Act->World->Prop}(h:ny R0):∀ K,ny (KQ P N R0 K)
 | []=>h
 | .code _::k=>λc a w hq=>KQ.pO h k c a w hq
 | .oW _::k=>λc a w hq=>KQ.pO h k c a w hq
 | .lp _::k=>λc a w hq=>KQ.pO h k c a w hq
def aE (P:Program) (R0:Exit->Act->World->Prop) (N:Fr) (K:List dS) (c:Code) (S:Env) (w:World):Prop:=∀ a,Fits N S a->c.wpIn (dn N.r) 0 P (KQ P N R0 K) a w
def aw (P:Program) (R0:Exit->Act->World->Prop) (N:Fr) (K:List dS) (e:Exit) (S:Env) (w:World):Prop:=∀ a,Fits N S a->KQ P N R0 K e a w
section rules
variable {P : Program} {R0 : Exit -> Act -> World -> Prop} {N : Fr} {K : List dS} {S : Env} {w : World}
theorem aE.seq {x y:Code}(h:aE P R0 N (.code y::K) x S w):aE P R0 N K (.seq x y) S w:=λa hf=>wpIn_seq (h a hf)
theorem aE.block {id:Nat}{c:Code}(h:aE P R0 N (.oW id::K) c S w):aE P R0 N K (.block id c) S w:=λa hf=>wpIn_block (h a hf)
theorem aE.skip (h:aw P R0 N K .normal S w):aE P R0 N K .skip S w:=λa hf=>wpIn_skip (h a hf)
theorem aE.exit {id:Nat}(h:aw P R0 N K (.exit id) S w):aE P R0 N K (.exit id) S w:=λa hf=>wpIn_exit (h a hf)
theorem aE.ret (h:aw P R0 N K .ret S w):aE P R0 N K .ret S w:=λa hf=>wpIn_ret (h a hf)
theorem aE.cond {c:Operand}{x y:Code}{t:Bool}(hc:S.op c=some (.bool t)) (h1:t=true->aE P R0 N K x S w) (h2:t=false->aE P R0 N K y S w):aE P R0 N K (.cond c x y) S w :=
 λa hf=>wpIn_cond_split (hf.op hc) (λh=>h1 h a hf) (λh=>h2 h a hf)
theorem aE.Cb {c:Operand}{x y:Code}(hc:S.op c=some (.bool true)) (h1:aE P R0 N K x S w):aE P R0 N K (.cond c x y) S w :=
 aE.cond hc (λ_=>h1) (λh=>by cases h)
theorem aE.Cc {c:Operand}{x y:Code}(hc:S.op c=some (.bool false)) (h1:aE P R0 N K y S w):aE P R0 N K (.cond c x y) S w :=
 aE.cond hc (λh=>by cases h) (λ_=>h1)
theorem aE.pick {c:Code}(ks:List Nat){S':Env}(he:S.pick ks=S') (h:aE P R0 N K c S' w):aE P R0 N K c S w:=λa hf=>h a (he▸hf.pick ks)
theorem aE.cq {c:Code}{S':Env}(he:S=S') (h:aE P R0 N K c S' w):aE P R0 N K c S w:=he▸h
theorem aw.Bo {y:Code}(h:aE P R0 N K y S w):aw P R0 N (.code y::K) .normal S w:=h
theorem aw.da {y:Code}{id:Nat}(h:aw P R0 N K (.exit id) S w):aw P R0 N (.code y::K) (.exit id) S w:=h
theorem aw.dc {I:Act->World->Prop}{id:Nat}(h:aw P R0 N K (.exit id) S w):aw P R0 N (.lp I::K) (.exit id) S w:=h
theorem aw.jR {id:Nat}(h:aw P R0 N K .normal S w):aw P R0 N (.oW id::K) (.exit id) S w:=λa hf=>by
 show(if id=id then KQ P N R0 K .normal a w else KQ P N R0 K (.exit id) a w)
 rw [if_pos rfl]
 exact h a hf
theorem aw.CB {id id':Nat}(hne:(id' == id)=false) (h:aw P R0 N K (.exit id') S w):aw P R0 N (.oW id::K) (.exit id') S w:=λa hf=>by
 show(if id'=id then KQ P N R0 K .normal a w else KQ P N R0 K (.exit id') a w)
 rw [if_neg (by simpa using hne)]
 exact h a hf
def Cd {T:Type}(N:Fr) (E:T->Env) (F:T->World->Prop) (mu:T->Nat) (m:Nat):Act->World->Prop:=λa w=>∃ x,mu x<m/\Fits N (E x) a/\F x w
theorem iY {r:Option Nat}{T:Type}{c:Code}{Q:Exit->Act->World->Prop}(I:T->Act->World->Prop) (mu:T->Nat) (round:∀ x a w,I x a w->c.wpIn (dn r) 0 P (Exit.then (λa' w'=>∃ x',mu x' < mu x/\I x' a' w') Q) a w) :
 ∀ (x:T) (a:Act) (w:World),I x a w->(Code.loop c).wpIn (dn r) 0 P Q a w:=by
 intro x a w h0 b k cs hro hb hr
 have key:∀ n x a w,mu x=n->I x a w->∃ e a' w',Q e a' w'/\ArrivesIn (Machine.fenced P (dn r)) P (lone (b.atR a (.code c::.inLoop c::k)) cs w) b k cs e a' w':=by
  intro n
  induction n using Nat.strongRecOn with
  | _ n ih =>
   intro x a w hn hI
   obtain⟨e,a1,w1,hq,harr⟩:=round x a w hI b (.inLoop c::k) cs hro hb hr
   cases e with
   | normal =>
    obtain⟨x',hlt,hI1⟩:=hq
    obtain⟨e2,a2,w2,hq2,harr2⟩:=ih (mu x') (hn▸hlt) x' a1 w1 rfl hI1
    exact⟨e2,a2,w2,hq2,.of_steps (StepsIn.trans harr (.one (fenced_calm hb hr rfl) stepR_inLoop)) harr2⟩
   | exit id=>exact⟨_,a1,w1,hq,.pass (x:=.inLoop c) rfl (λ_ _=>.inl zG) harr⟩
   | goto l=>exact⟨_,a1,w1,hq,.pass (x:=.inLoop c) rfl (λ_ _=>.inl zG) harr⟩
   | ret=>exact⟨_,a1,w1,hq,.pass (x:=.inLoop c) rfl (λ_ _=>.inl zG) harr⟩
   | panic ch=>exact⟨_,a1,w1,hq,.pass (x:=.inLoop c) rfl (λ_ _=>.inl zG) harr⟩
   | outgrown=>exact⟨_,a1,w1,hq,.pass (x:=.inLoop c) rfl (λ_ _=>.inl zG) harr⟩
 obtain⟨e,a',w',hq,harr⟩:=key _ x a w rfl h0
 exact⟨e,a',w',hq,.of_steps (.one (fenced_calm hb hr rfl) stepR_loop) harr⟩
theorem aE.loop {T:Type}{c:Code}(E:T->Env) (F:T->World->Prop) (mu:T->Nat) (x0:T) (ks:List Nat) (hE:S.pick ks=E x0) (h0:F x0 w)
 (round:∀ x w,F x w->aE P R0 N (.lp (Cd N E F mu (mu x))::K) c (E x) w):aE P R0 N K (.loop c) S w:=λa hf =>
 iY (λx a w=>Fits N (E x) a/\F x w) mu (λx a w h=>round x w h.2 a h.1) x0 a w ⟨hE▸hf.pick ks,h0⟩
theorem aw.back {T:Type}{E:T->Env}{F:T->World->Prop}{mu:T->Nat}{m:Nat}(x:T) (ks:List Nat) (hE:S.pick ks=E x) (hmu:mu x<m) (hF:F x w):aw P R0 N (.lp (Cd N E F mu m)::K) .normal S w :=
 λ_ hf=>⟨x,hmu,hE▸hf.pick ks,hF⟩
def aZ (φ:Value->World->Prop):Ending->World->Prop
 | .returned v,w=>φ v w
 | _,_=>False
theorem ai {fn:Func}{φ:Value->World->Prop}:ny (bodyPost P fn (aZ φ)):=λ_ _ _ h=>h.2
theorem aw.done {N:Nat}{fn:Func}{φ:Value->World->Prop}{e:Exit}(he:e=.ret\/e=.normal){v:Value}(hr:∀ a,Fits ⟨N,[],none⟩ S a->(results fn a.tmps).run P w=.ok v w) (h:φ v w):aw P (bodyPost P fn (aZ φ)) ⟨N,[],none⟩ [] e S w:=by
 rcases he with rfl|rfl
 ·exact λa hf=>⟨hf.defers,v,hr a hf,h⟩
 ·exact λa hf=>⟨hf.defers,v,hr a hf,h⟩
theorem results0 {fn:Func}(hr:fn.results=#[]) (a:Act) (_:Fits N S a):(results fn a.tmps).run P w=.ok (.tuple #[]) w:=results_none hr _ _ _
theorem results1 {fn:Func}{t:Tmp}{v:Value}(hr:fn.results=#[.tmp t]) (hv:S.get t=some v) (a:Act) (hf:Fits N S a):(results fn a.tmps).run P w=.ok v w:=by
 rw [results_tmp hr,hf.get hv]
theorem results2 {fn:Func}{t u:Tmp}{v v':Value}(hr:fn.results=#[.tmp t,.tmp u]) (hv:S.get t=some v) (hu:S.get u=some v') (a:Act) (hf:Fits N S a):(results fn a.tmps).run P w=.ok (.tuple #[v,v']) w:=by
 rw [results_tmp2 hr,hf.get hv,hf.get hu]
def nz (k:Nat):List Value->Env
 | []=>[]
 | v::l=>(k,v)::nz (k+1) l
theorem iZ:∀ (l:List Value) (k:Nat) (p:Nat×Value),p∈nz k l->k<=p.1/\l[p.1-k]?=some p.2
 | v::l,k,p,h=>by
  rcases List.mem_cons.1 h with rfl|h
  ·simp
  ·obtain⟨h1,h2⟩:=iZ l (k+1) p h
   refine⟨za,?_⟩
   rw [show p.1-k=(p.1-(k+1))+1 from by omega,List.getElem?_cons_succ]
   exact h2
theorem enter {N:Nat}{f:FuncId}{fn:Func}{c:Code}{args:List Value}{φ:Value->World->Prop}(hf:P.funcs[f]?=some fn) (hb:fn.body=some c) (hn:fn.ntmps=N) (hl:args.length<=N)
 (h:aE P (bodyPost P fn (aZ φ)) ⟨N,[],none⟩ [] c (nz 0 args) w):Calls P f args.toArray w (aZ φ):=by
 refine calls_of_wp hf hb (wpIn_wide.1 (h _ ⟨rfl,by simp [hn];omega,λp hp=>?_⟩))
 obtain⟨_,h2⟩:=iZ args 0 p hp
 simp only [Nat.sub_zero] at h2
 have h3:p.1<args.length:=(List.getElem?_eq_some_iff.1 h2).1
 simp only [Array.getD_eq_getD_getElem?]
 rw [Array.getElem?_append_left (by simpa using h3)]
 simp [h2]
end rules
theorem Calls.ret {P:Program}{f:FuncId}{args:Array Value}{w:World}{φ ψ:Value->World->Prop}(h:Calls P f args w (aZ φ)) (hm:∀ v w',φ v w'->ψ v w'):Calls P f args w (aZ ψ) :=
 Calls.mono h λe w' he=>by
  cases e with
  | returned v=>exact hm v w' he
  | panicked c=>exact he.elim
  | outgrown=>exact he.elim
def ar (P:Program) (l:List Oper) (M:List Nat) (R0:Exit->Act->World->Prop) (K:List dS) (N:Fr) (A:cE) (rest:PT) (S:Env) (w:World):Prop :=
 hY N l.toArray=true->Ca P l.toArray M (KQ P N R0 K) N A rest S w
section
variable {P : Program} {R0 : Exit -> Act -> World -> Prop} {N : Fr} {K : List dS} {S : Env} {w w0 : World} {l : List Oper} {M : List Nat} {A : cE} {rest : PT} {L : List aI}
theorem aE.qS {id:Nat}(M:List Nat) (p:PT) (hp:p.idxs=List.range l.length) (hN:hY N l.toArray=true) (h:ar P l M R0 K N [] p S w):aE P R0 N K (.region id l.toArray false) S w :=
 λa hf=>mR p (by simpa using hp) (h hN a hf)
theorem aE.aV {id:Nat}(M:List Nat) (p:PT) (hm:P.follows .mixedOrders=true) (hok:qM l.toArray M p=true) (hR:ny R0) (hN:hY N l.toArray=true) (hs:St w0 L w)
 (h:∀ w1,St w0 L w1->w1.heap=w.heap->ar P l M R0 K N [] p S w1):aE P R0 N K (.region id l.toArray true) S w :=
 λa hf=>mQ M p hm hok (KQ.pO hR K) (h _ hs.drew rfl hN a hf)
theorem ar.done (h:aw P R0 N K .normal S w):ar P l M R0 K N A .done S w:=λ_ a hf=>h a hf
theorem ar.alt {x y:PT}(h1:ar P l M R0 K N A x S w) (h2:ar P l M R0 K N A y S w):ar P l M R0 K N A (.alt x y) S w:=λhN a hf=>⟨h1 hN a hf,h2 hN a hf⟩
theorem ar.phase (hs:List (Nat×Hint)){rest':PT}(A':cE) (S':Env) (h1:phase P l.toArray hs S=some (A',S')) (hr:jX (hs.map λx=>x.1) rest=rest') (h2:fU w A') (h3:ar P l M R0 K N (A'.reverse++A) rest S' w) :
 ar P l M R0 K N A rest' S w:=λhN=>by
 rw [<- hr]
 exact Ca.phase hN hs S A A' S' h1 h2 (h3 hN)
theorem ar.pick (ks:List Nat){S':Env}(he:S.pick ks=S') (h:ar P l M R0 K N A rest S' w):ar P l M R0 K N A rest S w:=λhN a hf=>h hN a (he▸hf.pick ks)
theorem ar.cq {S':Env}(he:S=S') (h:ar P l M R0 K N A rest S' w):ar P l M R0 K N A rest S w:=he▸h
def opens (M:List Nat) (A:cE) (i:Nat):List dO:=(A.filter λx=>!uq M x.1 i).flatMap (·.2)
theorem ja {i:Nat}(h:ba w (opens M A i)):∀ x∈A.reads,uq M x.1 i=false->x.2 w:=by
 intro x hx ha
 obtain⟨y,hy,rfl⟩:=List.mem_map.1 hx
 exact gu λn hn=>jD h n (List.mem_flatMap.2 ⟨y,List.mem_filter.2 ⟨hy,by simp only at ha;simp [ha]⟩,hn⟩)
theorem ar.read {i:Nat}{o:Oper}(ho:l[i]?=some o) (hw:cn l.toArray S o=some true) (n:List dO) (v:Value) (hv:∀ a w,Fits N S a->ba w n->(execOp a.eval o).run P w=.ok (.value v) w) (hn:ba w n)
 (h:ar P l M R0 K N ((i,n)::A) rest (S.cP o.dst v) w):ar P l M R0 K N A (.rd i rest) S w:=λhN a hf =>
 ⟨o,v,λw=>ba w n,by simpa using ho,.inl ⟨dC hf hw (eS hN),λw' hw'=>hv a w' hf hw'⟩,hn,h hN _ (hf.cP (dY hN i o (by simpa using ho)) v)⟩
theorem ar.skip {i:Nat}{o:Oper}(ho:l[i]?=some o) (hw:cn l.toArray S o=some false) (hO:ba w (opens M A i)) (h:ar P l M R0 K N A rest (S.cP o.dst undef) w):ar P l M R0 K N A (.ef i rest) S w:=λhN a hf=>by
 have ho':l.toArray[i]?=some o:=by simpa using ho
 exact bO.ef (pL ho' (dC hf hw (eS hN)) ⟨ja hO,h hN _ (hf.cP (dY hN i o ho') undef)⟩)
theorem ar.run {i:Nat}{o:Oper}(ho:l[i]?=some o) (hw:cn l.toArray S o=some true) (v:Value) (w':World)
 (hv:∀ a,Fits N S a->(execOp a.eval o).run P w=.ok (.value v) w'\/((execOp a.eval o).run P w=.ok .skip w'/\v=undef)) (hO:ba w' (opens M A i))
 (h:ar P l M R0 K N A rest (S.cP o.dst v) w'):ar P l M R0 K N A (.ef i rest) S w:=λhN a hf=>by
 have ho':l.toArray[i]?=some o:=by simpa using ho
 refine bO.ef (nj ho' (dC hf hw (eS hN)) (λc hc=>?_) ?_)
 ·rcases hv a hf with h1|h1
  ·obtain⟨d,hd⟩:=lK hc h1;cases hd
  ·obtain⟨d,hd⟩:=lK hc h1.1;cases hd
 unfold Oper.wp
 have hk:=h hN _ (hf.cP (dY hN i o ho') v)
 rcases hv a hf with h1|⟨h1,h2⟩
 ·rw [h1];exact⟨ja hO,hk⟩
 ·subst h2
  rw [h1];exact⟨ja hO,hk⟩
def ik (S:Env) (c:Call):Option (FuncId×Array Value) :=
 match c.callee with
 | .value x =>
  match S.op x,S.ops c.args.toList with
  | some (.func (.func f) fst cap),some vs=>some (f,(fst.toList++vs++cap.toList).toArray)
  | _,_=>none
 | _=>none
theorem zW {a:Act}(hf:Fits N S a){o:Oper}{c:Call}{f:FuncId}{args:Array Value}(hop:o.op=.call c) (hc:ik S c=some (f,args))
 (hcall:∀ args w,(callFunc f args).run P w=.ok (.enter f args) w):(execOp a.eval o).run P w=.ok (.enter f args) w:=by
 unfold ik at hc
 split at hc
 ·rename_i x hx
  split at hc
  ·rename_i f' fst cap vs h1 h2
   simp only [Option.some.injEq,Prod.mk.injEq] at hc
   obtain⟨rfl,rfl⟩:=hc
   have h1':=hf.op h1
   have h2':=hf.ops h2
   have h3:c.args.map a.eval=vs.toArray:=by
    rw [<- h2']
    apply Array.ext'
    simp
   generalize a.eval=ρ at h1' h3 ⊢
   simp [execOp,hop,resolve,hx,h1',h3,Deferred.ofValue,invoke,go_sem]
   have h5:fst++(vs.toArray++cap)=(fst.toList++(vs++cap.toList)).toArray:=by
    apply Array.ext'
    simp
   rw [h5]
   exact hcall _ _
  ·cases hc
 ·cases hc
theorem ar.call {i:Nat}{o:Oper}{c:Call}(ho:l[i]?=some o) (hop:o.op=.call c) (hw:cn l.toArray S o=some true){f:FuncId}{args:Array Value}(hc:ik S c=some (f,args))
 (hcall:∀ args w,(callFunc f args).run P w=.ok (.enter f args) w){φ:Value->World->Prop}(spec:Calls P f args w (aZ φ))
 (h:∀ v w',φ v w'->ba w' (opens M A i)/\ar P l M R0 K N A rest (S.cP o.dst v) w'):ar P l M R0 K N A (.ef i rest) S w:=λhN a hf=>by
 have ho':l.toArray[i]?=some o:=by simpa using ho
 refine bO.ef (nj ho' (dC hf hw (eS hN)) (λc hc=>by rw [hop] at hc;cases hc) ?_)
 unfold Oper.wp
 rw [zW hf hop hc hcall]
 refine Calls.mono spec λe w' he=>?_
 cases e with
 | returned v =>
  obtain⟨h1,h2⟩:=h v w' he
  exact⟨ja h1,h2 hN _ (hf.cP (dY hN i o ho') v)⟩
 | panicked c=>exact he.elim
 | outgrown=>exact he.elim
theorem St.il (hs:St w0 L w) (cs:Array Value) (T:TypeId):St w0 (ah w.heap.size cs T::L) { w with heap:=w.heap.push (.cells cs T) }:=by
 refine St.new hs rfl rfl rfl zG (λb hb=>?_) ⟨(0,0),by simp,λi _ h=>by simp at h⟩ (λb hb=>?_)
 ·simp only [Array.getElem?_push];rw [if_neg za]
 ·have:b=w.heap.size:=hb
  subst this
  simp
theorem St.ux (hs:St w0 L w) (o:Obj):St w0 (mU w.heap.size o::L) { w with heap:=w.heap.push o }:=by
 refine St.new hs rfl rfl rfl zG (λb hb=>?_) (show(w.heap.push o)[w.heap.size]?=some o by simp) (λb hb=>?_)
 ·simp only [Array.getElem?_push];rw [if_neg za]
 ·have:b=w.heap.size:=hb
  subst this
  simp
theorem ar.box {i:Nat}{o:Oper}{T:TypeId}{x:Operand}(ho:l[i]?=some o) (hop:o.op=.box T x) (hw:cn l.toArray S o=some true){v:Value}(hx:S.op x=some v) (hs:St w0 L w){cs:Array Value}(hcs:v.cells=cs)
 (h:∀ b w',St w0 (ah b cs T::L) w'->ba w' (opens M A i)/\ar P l M R0 K N A rest (S.cP o.dst (.pointer (some ⟨b,0,none⟩))) w'):ar P l M R0 K N A (.ef i rest) S w:=by
 subst hcs
 obtain⟨h1,h2⟩:=h _ _ (hs.il v.cells T)
 refine ar.run ho hw _ _ (λa hf=>.inl ?_) h1 h2
 have hx':=hf.op hx
 generalize a.eval=ρ at hx' ⊢
 simp [execOp,hop,Instr.box,newVar,newRow,newObj,hx',Sem.run,bind,Sem.bind,pure]
theorem ar.alloc {i:Nat}{o:Oper}{T:TypeId}(ho:l[i]?=some o) (hop:o.op=.alloc T) (hw:cn l.toArray S o=some true){z:Value}(hz:(P.info? T).bind (·.zero)=some z) (hs:St w0 L w){cs:Array Value}(hcs:z.cells=cs)
 (h:∀ b w',St w0 (ah b cs T::L) w'->ba w' (opens M A i)/\ar P l M R0 K N A rest (S.cP o.dst (.pointer (some ⟨b,0,none⟩))) w'):ar P l M R0 K N A (.ef i rest) S w:=by
 subst hcs
 obtain⟨h1,h2⟩:=h _ _ (hs.il z.cells T)
 refine ar.run ho hw _ _ (λa hf=>.inl ?_) h1 h2
 cases hi:P.info? T with
 | none=>rw [hi] at hz;cases hz
 | some ti =>
  rw [hi] at hz
  simp only [Option.bind_some] at hz
  simp [execOp,hop,Instr.alloc,zeroValue,typeInfo,program,hi,hz,newVar,newRow,newObj,Sem.run,bind,Sem.bind,pure]
def bI (cs:Array Value) (off:Nat):List Value->Array Value
 | []=>cs
 | v::vs=>bI (cs.setIfInBounds off v) (off+1) vs
theorem gX:∀ (vs:List Value) (cs:Array Value) (off:Nat),(bI cs off vs).size=cs.size
 | [],_,_=>rfl
 | v::vs,cs,off=>by simp [bI,gX vs]
def mV:Value->Bool
 | .agg _=>false
 | .tuple _=>false
 | _=>true
def bT (w:World) (b:Nat) (o:Obj):World:={ w with heap:=w.heap.setIfInBounds b o }
theorem fG {b:Nat}{T:TypeId}:∀ (vs:List Value) (w:World) (cs:Array Value) (fr:Nat×Nat) (off i:Nat),w.heap[b]?=some (.cells cs T fr)->(∀ j,j<cs.size->¬ (fr.1<=j/\j<fr.2)) ->
 off+i+vs.length<=cs.size->(vs.all mV)=true->(storeCells ⟨b,off,none⟩ vs i).run P w=.ok () (bT w b (.cells (bI cs (off+i) vs) T fr))
 | [],w,cs,fr,off,i,hb,_,_,_=>by
  have hlt:b<w.heap.size:=(Array.getElem?_eq_some_iff.1 hb).1
  have:w.heap.setIfInBounds b (.cells cs T fr)=w.heap:=by
   apply Array.ext_getElem?
   intro k
   rw [Array.getElem?_setIfInBounds]
   split
   ·rename_i h;subst h;exact hb.symm
   ·rfl
  simp [storeCells,bI,bT,this,pure,Sem.run]
 | v::vs,w,cs,fr,off,i,hb,hfr,hl,h1=>by
  simp only [List.length_cons] at hl
  simp only [List.all_cons,Bool.and_eq_true] at h1
  have hlt:b<w.heap.size:=(Array.getElem?_eq_some_iff.1 hb).1
  have hc:w.cell? ⟨b,off+i,none⟩=some (cs[off+i]' za):=by
   simp [World.cell?,hb]
  have hz:w.frozen? ⟨b,off+i,none⟩=false:=by
   have:=hfr (off+i) za
   simp only [World.frozen?,hb]
   simpa using this
  have hset:w.setCell ⟨b,off+i,none⟩ v=bT w b (.cells (cs.setIfInBounds (off+i) v) T fr):=by
   unfold World.setCell bT
   congr 1
   apply Array.ext_getElem?
   intro k
   rw [Array.getElem?_setIfInBounds,Array.getElem?_modify]
   split
   ·rename_i h;subst h;show Option.map _ w.heap[b]?=_;rw [hb];simp
   ·rfl
  have hb':(bT w b (.cells (cs.setIfInBounds (off+i) v) T fr)).heap[b]?=some (.cells (cs.setIfInBounds (off+i) v) T fr):=by
   simp [bT,hlt]
  have ih:=fG vs (bT w b (.cells (cs.setIfInBounds (off+i) v) T fr)) (cs.setIfInBounds (off+i) v) fr off (i+1) hb' (by simpa using hfr) (by simp;omega) h1.2
  have hpp:bT (bT w b (.cells (cs.setIfInBounds (off+i) v) T fr)) b (.cells (bI (cs.setIfInBounds (off+i) v) (off+(i+1)) vs) T fr)=bT w b (.cells (bI cs (off+i) (v::vs)) T fr):=by
   simp [bT,bI,Nat.add_assoc]
  rw [hpp] at ih
  have hrun:∀ (k:Sem Unit),(Sem.store .plain ⟨b,off+i,none⟩ v k).run P w=k.run P (w.setCell ⟨b,off+i,none⟩ v):=by
   intro k
   cases v<;>first
    | (exfalso;simp [mV] at h1;done)
    | simp [Sem.run,hc,hz]
  simp only [storeCells,store,eE,bind,Sem.bind]
  rw [hrun,hset]
  exact ih
theorem St.put {b:Nat}{cs:Array Value}{T:TypeId}(hs:St w0 (ah b cs T::L) w){fr:Nat×Nat}(hb:w.heap[b]?=some (.cells cs T fr)) (hfr:∀ j,j<cs.size->¬ (fr.1<=j/\j<fr.2)){cs':Array Value}(hsz:cs'.size=cs.size):St w0 (ah b cs' T::L) (bT w b (.cells cs' T fr)):=by
 have hlt:b<w.heap.size:=(Array.getElem?_eq_some_iff.1 hb).1
 refine St.step hs rfl rfl rfl (by simp [bT]) (λk hk hn=>?_) ⟨fr,by simp [bT,hlt],by rw [hsz];exact hfr⟩ (λk hk=>⟨.inl hk,?_⟩)
 ·simp only [bT,Array.getElem?_setIfInBounds]
  rw [if_neg (λe=>hn e.symm)]
 ·have:k=b:=hk
  subst this
  simpa [bT] using hlt
theorem nA:∀ {L:List aI}{j:Nat}{A:aI}(B:aI),L[j]?=some A->(B::L.eraseIdx j).Perm (L.set j B)
 | _::_,0,_,B,_=>List.Perm.refl _
 | C::L,j+1,A,B,h=>by
  simp only [List.getElem?_cons_succ] at h
  exact(List.Perm.swap C B _).trans ((nA B h).cons C)
theorem ar.store {i:Nat}{o:Oper}{t:TypeId}{x y:Operand}(ho:l[i]?=some o) (hop:o.op=.store t x y) (hw:cn l.toArray S o=some true){b off:Nat}{v:Value}{ti:TypeInfo}
 (hx:S.op x=some (.pointer (some ⟨b,off,none⟩))) (hy:S.op y=some v) (ht:P.info? t=some ti) (hs:St w0 L w) (j:Nat){cs:Array Value}{T:TypeId}(hj:L[j]?=some (ah b cs T))
 (hsz:v.cells.size=ti.size) (h1:v.cells.toList.all mV=true) (hoff:off+v.cells.size<=cs.size){cs':Array Value}{L':List aI}(hcs:bI cs off v.cells.toList=cs') (hL:L.set j (ah b cs' T)=L')
 (h:∀ w',St w0 L' w'->ba w' (opens M A i)/\ar P l M R0 K N A rest (S.cP o.dst undef) w'):ar P l M R0 K N A (.ef i rest) S w:=by
 have hp:=hs.pull j hj
 obtain⟨fr,hb,hfr⟩:=hp.holds (ah b cs T) zG
 have hput:=St.put hp hb hfr (cs':=cs') (by rw [<- hcs,gX])
 obtain⟨k1,k2⟩:=h _ (hL▸hput.perm (nA _ hj))
 refine ar.run ho hw _ _ (λa hf=>.inr ⟨?_,rfl⟩) k1 k2
 have hx':=hf.op hx
 have hy':=hf.op hy
 have hr:=fG (P:=P) v.cells.toList w cs fr off 0 hb hfr (by simpa using hoff) h1
 simp only [Nat.add_zero,hcs] at hr
 generalize a.eval=ρ at hx' hy' ⊢
 have h2:(storeVar t ⟨b,off,none⟩ v).run P w=.ok () (bT w b (.cells cs' T fr)):=by
  simp only [storeVar,sizeOf,typeInfo,program,bind,Sem.bind,Sem.run,ht,pure]
  rw [if_neg (by simpa using hsz)]
  exact hr
 simp [execOp,hop,Instr.storeAt,hx',hy',Instr.sureAddr,bind,Sem.bind,pure]
 rw [Sem.run_bind',h2]
 rfl
end
section
variable {w : World}
theorem av:ba w []:=trivial
theorem aG {p:Addr}{v:Value}{l:List dO}(h:w.cell? p=some v) (t:ba w l):ba w (.cell p v::l):=⟨h,t⟩
theorem dq {p:Addr}{vs:Array Value}{l:List dO}(h:∀ i,i<vs.size->w.cell? (p.add i)=vs[i]?) (t:ba w l):ba w (.cells p vs::l):=⟨h,t⟩
theorem aB {p:Prop}{l:List dO}(h:p) (t:ba w l):ba w (.prop p::l):=⟨h,t⟩
theorem cW:fU w []:=trivial
theorem ak {i:Nat}{n:List dO}{A:cE}(h:ba w n) (t:fU w A):fU w ((i,n)::A):=⟨h,t⟩
theorem Di {M:List Nat}{A:cE}{i:Nat}(h:opens M A i=[]):ba w (opens M A i):=by rw [h];trivial
theorem bw {M:List Nat}{A:cE}{i:Nat}{n:List dO}(h:opens M A i=n) (hn:ba w n):ba w (opens M A i):=h▸hn
end
theorem kL {x:Bool}(h:(!x)=true):x=false:=by cases x<;>simp_all
theorem km {x:Bool}(h:(!x)=false):x=true:=by cases x<;>simp_all
theorem dt {x y:Int}(h:(x == y)=true):x=y:=by simpa using h
theorem dH {x y:Int}(h:(x == y)=false):¬ x=y:=by simpa using h
theorem jb {x y:Int}(h:(x != y)=true):¬ x=y:=by simpa using h
theorem iF {x y:Int}(h:(x != y)=false):x=y:=by simpa using h
theorem uy {n:Int}(h1:-9223372036854775808<=n) (h2:n<9223372036854775808):IntKind.i64.wrap n=n:=by
 rw [IntKind.wrap_i64];omega
theorem dD {n:Int}(h1:-9223372036854775808<=n) (h2:n<9223372036854775808):Value.int .i64 (IntKind.i64.wrap n)=Value.int .i64 n:=by rw [uy h1 h2]
theorem de {n m:Int}(h:n=m) (h1:-9223372036854775808<=m) (h2:m<9223372036854775808):Value.int .i64 (IntKind.i64.wrap n)=Value.int .i64 m:=by rw [h,uy h1 h2]
theorem CC {n:Int}(h1:0<=n) (h2:n<18446744073709551616):IntKind.u64.wrap n=n:=by
 rw [IntKind.wrap_u64];omega
theorem Dn {n m:Int}(h:n=m) (h1:0<=m) (h2:m<18446744073709551616):Value.int .u64 (IntKind.u64.wrap n)=Value.int .u64 m:=by rw [h,CC h1 h2]
theorem nB {n:Int}(h1:0<=n) (h2:n<18446744073709551616):Value.int .u64 (IntKind.u64.wrap n)=Value.int .u64 n:=by rw [CC h1 h2]
theorem Ef {n:Int}(h1:0<=n) (h2:n<65536):IntKind.u16.wrap n=n:=by
 rw [IntKind.wrap_u16];omega
theorem mq {n:Int}(h1:0<=n) (h2:n<65536):Value.int .u16 (IntKind.u16.wrap n)=Value.int .u16 n:=by rw [Ef h1 h2]
theorem aS (b off n:Nat):Value.pointer (some ((Addr.mk b off none).add n))=.pointer (some ⟨b,off+n,none⟩):=by rw [eE]
def ag (W:World) (ad:Option Addr) (n size:Nat) (cell:Nat->Array Value):Prop :=
 0<n->∃ b off,ad=some ⟨b,off,none⟩/\∀ k,k<n->∀ j,j<size->W.cell? ⟨b,off+k*size+j,none⟩=(cell k)[j]?
theorem St.below {w W:World}{L:List aI}(h:St W L w) (i:Nat) (hi:L[i]?=some (sq W)):Below W.heap.size W w:=by
 refine⟨h.os,h.tape,h.output,?_,h.at_ i hi⟩
 cases hz:W.heap.size with
 | zero=>omega
 | succ n =>
  have:=h.lt _ (List.mem_of_getElem? hi) n (show n<W.heap.size by omega)
  omega
theorem St.start (W:World):St W [sq W] W :=
 ⟨rfl,rfl,rfl,λA hA=>by
  have:A=sq W:=by simpa using hA
  subst this
  exact λ_ _=>rfl,λA hA b hb=>by
  have:A=sq W:=by simpa using hA
  subst this
  exact hb,by simp⟩
def wG {T:Type}(N:Fr) (E:T->Env) (F:T->World->Prop):Act->World->Prop:=λa w=>∃ x,Fits N (E x) a/\F x w
section
variable {P : Program} {R0 : Exit -> Act -> World -> Prop} {N : Fr} {K : List dS} {S : Env} {w w0 : World} {l : List Oper} {M : List Nat} {A : cE} {rest : PT} {L : List aI}
theorem aE.join {T:Type}{c:Code}(E:T->Env) (F:T->World->Prop) (h1:aE P R0 N (.lp (wG N E F)::K) c S w) (h2:∀ x w',F x w'->aw P R0 N K .normal (E x) w'):aE P R0 N K c S w:=λa hf =>
 wpIn_mono (h1 a hf) λe a' w' q=>by
  cases e with
  | normal=>obtain⟨x,hx,hF⟩:=q;exact h2 x w' hF a' hx
  | exit id=>exact q
  | goto l=>exact q
  | ret=>exact q
  | panic c=>exact q
  | outgrown=>exact q
theorem aw.bD {T:Type}{E:T->Env}{F:T->World->Prop}(x:T) (hE:S=E x) (hF:F x w):aw P R0 N (.lp (wG N E F)::K) .normal S w :=
 λ_ hf=>⟨x,hE▸hf,hF⟩
theorem aw.pick {e:Exit}(ks:List Nat){S':Env}(he:S.pick ks=S') (h:aw P R0 N K e S' w):aw P R0 N K e S w:=λa hf=>h a (he▸hf.pick ks)
theorem aw.cq {e:Exit}{S':Env}(he:S=S') (h:aw P R0 N K e S' w):aw P R0 N K e S w:=he▸h
theorem ar.CD (d:Nat){b:Bool}(t:Bool) (hd:d<N.n) (hg:S.get d=some (.bool b)) (hb:b=t) (h:ar P l M R0 K N A rest (S.set d (.bool t)) w):ar P l M R0 K N A rest S w:=λhN a hf=>by
 have h1:=hf.get hg
 have h2:a.put (some d) (.bool t)=a:=by
  have hsz:d<a.tmps.size:=by rw [hf.size];exact hd
  have h3:a.tmps[d]'hsz=Value.bool t:=by
   have h5:(if h:d<a.tmps.size then a.tmps[d]'h else undef)=Value.bool b:=h1
   rw [dif_pos hsz] at h5
   rw [<- hb];exact h5
  have h6:a.tmps.setIfInBounds d (.bool t)=a.tmps:=by
   apply Array.ext_getElem?
   intro k
   rw [Array.getElem?_setIfInBounds]
   split
   ·rename_i e;subst e;rw [<- h3,Array.getElem?_eq_getElem hsz]
   ·rfl
  show({ a with tmps:=a.tmps.setIfInBounds d (.bool t) }:Act)=a
  rw [h6]
 have h4:=h hN (a.put (some d) (.bool t)) (hf.set hd _)
 rw [h2] at h4
 exact h4
theorem ar.jc (hs:List (Nat×Hint)) (ks:List Nat){rest':PT}(A':cE) (S':Env) (h1:(Go.Sx.phase P l.toArray hs S).map (λr=>(r.1,Env.pick r.2 ks))=some (A',S')) (hr:jX (hs.map λx=>x.1) rest=rest') (h2:fU w A') (h3:ar P l M R0 K N (A'.reverse++A) rest S' w) :
 ar P l M R0 K N A rest' S w:=by
 cases hp:Go.Sx.phase P l.toArray hs S with
 | none=>rw [hp] at h1;cases h1
 | some r =>
  obtain⟨A1,S1⟩:=r
  rw [hp] at h1
  simp only [Option.map_some,Option.some.injEq,Prod.mk.injEq] at h1
  obtain⟨rfl,rfl⟩:=h1
  exact ar.phase hs A1 S1 hp hr h2 (ar.pick ks rfl h3)
end
end Go.Sx
namespace Go.Sx
open Go.RowKit
set_option linter.unusedVariables false
abbrev zP (b o:Nat):Value:=.pointer (some ⟨b,o,none⟩)
abbrev zL (b o n c:Nat):Value:=.slice (some ⟨b,o,none⟩) n c
def zX (i:Nat):List (Nat×Hint)->Hint
 | []=>.gen []
 | x::l=>bif Nat.beq x.1 i then x.2 else zX i l
def Bp (ex:List (Nat×Hint)):Nat->Nat->List (Nat×Hint)
 | _,0=>[]
 | a,n+1=>(a,zX a ex)::Bp ex (a+1) n
def zY:Nat->Nat->PT->PT
 | _,0,r=>r
 | a,n+1,r=>.rd a (zY (a+1) n r)
theorem wH (ex:List (Nat×Hint)) (r:PT):∀ (n a:Nat),jX ((Bp ex a n).map λx=>x.1) r=zY a n r
 | 0,_=>rfl
 | n+1,a=>congrArg (PT.rd a) (wH ex r n (a+1))
def xG (P:Program) (ops:Array Oper) (hs:List (Nat×Hint)) (S:Env):Option cE :=
 match Go.Sx.phase P ops hs S with
 | some r=>some r.1
 | none=>none
def rZ (P:Program) (ops:Array Oper) (hs:List (Nat×Hint)) (S:Env):Env :=
 match Go.Sx.phase P ops hs S with
 | some r=>r.2
 | none=>S
section
variable {P : Program} {R0 : Exit -> Act -> World -> Prop} {N : Fr} {K : List dS} {S : Env} {w w0 : World} {l : List Oper} {M : List Nat} {A : cE} {rest : PT} {L : List aI}
theorem Zh (hs:List (Nat×Hint)){rest':PT}(A':cE) (h2:fU w A') (h3:ar P l M R0 K N (A'.reverse++A) rest (rZ P l.toArray hs S) w)
 (hr:jX (hs.map λx=>x.1) rest=rest':=by exact rfl) (h1:xG P l.toArray hs S=some A':=by kernel_rfl):ar P l M R0 K N A rest' S w:=by
 unfold xG at h1
 unfold rZ at h3
 cases hp:Go.Sx.phase P l.toArray hs S with
 | none=>rw [hp] at h1;cases h1
 | some r =>
  obtain⟨A1,S1⟩:=r
  rw [hp] at h1 h3
  obtain rfl:=Option.some.inj h1
  exact ar.phase hs A1 S1 hp hr h2 h3
theorem Zp (a n:Nat) (ex:List (Nat×Hint)) (A':cE) (h2:fU w A') (h3:ar P l M R0 K N (A'.reverse++A) rest (rZ P l.toArray (Bp ex a n) S) w)
 (h1:xG P l.toArray (Bp ex a n) S=some A':=by kernel_rfl):ar P l M R0 K N A (zY a n rest) S w :=
 Zh (Bp ex a n) A' h2 h3 (wH ex rest n a) h1
theorem Zr (a n:Nat) (ex:List (Nat×Hint)) (h3:ar P l M R0 K N A rest (rZ P l.toArray (Bp ex a n) S) w)
 (h1:xG P l.toArray (Bp ex a n) S=some []:=by kernel_rfl):ar P l M R0 K N A (zY a n rest) S w :=
 Zp a n ex [] cW h3 h1
theorem Zn {c:Code}(S':Env) (h:aE P R0 N K c S' w) (he:S.pick (S'.map λx=>x.1)=S':=by kernel_rfl):aE P R0 N K c S w:=λa hf=>h a (he▸hf.pick _)
theorem bU {id:Nat}(p:PT) (h:ar P l (List.replicate l.length ((1 <<< l.length)-1)) R0 K N [] p S w) (hp:p.idxs=List.range l.length:=by kernel_rfl) (hN:hY N l.toArray=true:=by kernel_rfl):aE P R0 N K (.region id l.toArray false) S w :=
 aE.qS _ p hp hN h
theorem cK {i:Nat}(h:opens M A i=[]:=by kernel_rfl):ba w (opens M A i):=Di h
theorem cS {c:Operand}{x y:Code}{t:Bool}(h1:t=true->aE P R0 N K x S w) (h2:t=false->aE P R0 N K y S w) (hc:S.op c=some (.bool t):=by kernel_rfl):aE P R0 N K (.cond c x y) S w:=aE.cond hc h1 h2
theorem CE {c:Operand}{x y:Code}(h1:aE P R0 N K x S w) (hc:S.op c=some (.bool true):=by kernel_rfl):aE P R0 N K (.cond c x y) S w:=aE.Cb hc h1
theorem y3 {c:Operand}{x y:Code}(h1:aE P R0 N K y S w) (hc:S.op c=some (.bool false):=by kernel_rfl):aE P R0 N K (.cond c x y) S w:=aE.Cc hc h1
theorem di (d:Nat){b:Bool}(t:Bool) (hb:b=t) (h:ar P l M R0 K N A rest (S.set d (.bool t)) w) (hd:d<N.n:=by exact Nat.le_of_ble_eq_true rfl) (hg:S.get d=some (.bool b):=by kernel_rfl):ar P l M R0 K N A rest S w:=ar.CD d t hd hg hb h
theorem bg {N:Nat}{fn:Func}{φ:Value->World->Prop}{e:Exit}{t:Tmp}{v:Value}(h:φ v w) (he:e=.ret\/e=.normal:=by exact .inl rfl) (hr:fn.results=#[.tmp t]:=by exact rfl) (hv:S.get t=some v:=by kernel_rfl):aw P (bodyPost P fn (aZ φ)) ⟨N,[],none⟩ [] e S w :=
 aw.done he (λa hf=>results1 hr hv a hf) h
theorem jE {N:Nat}{fn:Func}{φ:Value->World->Prop}{e:Exit}{t u:Tmp}{v v':Value}(h:φ (.tuple #[v,v']) w) (he:e=.ret\/e=.normal:=by exact .inl rfl) (hr:fn.results=#[.tmp t,.tmp u]:=by exact rfl) (hv:S.get t=some v:=by kernel_rfl) (hu:S.get u=some v':=by kernel_rfl):aw P (bodyPost P fn (aZ φ)) ⟨N,[],none⟩ [] e S w :=
 aw.done he (λa hf=>results2 hr hv hu a hf) h
theorem aF {i:Nat}{o:Oper}{c:Call}{f:FuncId}{args:Array Value}
 (hcall:∀ args w,(callFunc f args).run P w=.ok (.enter f args) w){φ:Value->World->Prop}(spec:Calls P f args w (aZ φ))
 (h:∀ v w',φ v w'->ba w' (opens M A i)/\ar P l M R0 K N A rest (S.cP o.dst v) w')
 (ho:l[i]?=some o:=by exact rfl) (hop:o.op=.call c:=by exact rfl) (hw:cn l.toArray S o=some true:=by kernel_rfl) (hc:ik S c=some (f,args):=by kernel_rfl):ar P l M R0 K N A (.ef i rest) S w :=
 ar.call ho hop hw hc hcall spec h
theorem Zs {x y:Code}(h:aE P R0 N (.code y::K) x S w):aE P R0 N K (.seq x y) S w:=aE.seq h
theorem Zb {id:Nat}{c:Code}(h:aE P R0 N (.oW id::K) c S w):aE P R0 N K (.block id c) S w:=aE.block h
theorem Zk (h:aw P R0 N K .normal S w):aE P R0 N K .skip S w:=aE.skip h
theorem Zx {id:Nat}(h:aw P R0 N K (.exit id) S w):aE P R0 N K (.exit id) S w:=aE.exit h
theorem Ze (h:aw P R0 N K .ret S w):aE P R0 N K .ret S w:=aE.ret h
theorem Zt {y:Code}(h:aE P R0 N K y S w):aw P R0 N (.code y::K) .normal S w:=h
theorem Zy {y:Code}(h:aw P R0 N K .ret S w):aw P R0 N (.code y::K) .ret S w:=h
theorem Zl {id:Nat}(h:aw P R0 N K .ret S w):aw P R0 N (.oW id::K) .ret S w:=h
theorem Zm {id:Nat}(h:aw P R0 N K .normal S w):aw P R0 N (.oW id::K) .normal S w:=h
theorem Zd (h:aw P R0 N K .normal S w):ar P l M R0 K N A .done S w:=ar.done h
class uz (L:List aI) (j:Nat) (b:outParam Nat) (cs:outParam (Array Value)) (T:outParam TypeId) (cs':Array Value) (L':outParam (List aI)):Prop where
 at_:L[j]?=some (ah b cs T)
 Bq:L.set j (ah b cs' T)=L'
instance EJ {b:Nat}{cs cs':Array Value}{T:TypeId}{L:List aI}:uz (ah b cs T::L) 0 b cs T cs' (ah b cs' T::L):=⟨rfl,rfl⟩
instance EK {b:Nat}{cs cs':Array Value}{T:TypeId}{A:aI}{L L':List aI}{j:Nat} [h:uz L j b cs T cs' L']:uz (A::L) (j+1) b cs T cs' (A::L'):=⟨h.at_,by show A::L.set j _=_;rw [h.Bq]⟩
theorem Zv {i:Nat}{o:Oper}{t:TypeId}{x y:Operand}{b off:Nat}{v:Value}{ti:TypeInfo}(ht:P.info? t=some ti) (hs:St w0 L w) (j:Nat){cs:Array Value}{T:TypeId}{cs':Array Value}{L':List aI} [c_:uz L j b cs T cs' L']
 (h:∀ w',St w0 L' w'->ba w' (opens M A i)/\ar P l M R0 K N A rest (S.cP o.dst undef) w')
 (ho:l[i]?=some o:=by exact rfl) (hop:o.op=.store t x y:=by exact rfl) (hw:cn l.toArray S o=some true:=by kernel_rfl)
 (hx:S.op x=some (.pointer (some ⟨b,off,none⟩)):=by kernel_rfl) (hy:S.op y=some v:=by kernel_rfl)
 (hsz:v.cells.size=ti.size:=by kernel_rfl) (h1:v.cells.toList.all mV=true:=by kernel_rfl) (hoff:Nat.ble (off+v.cells.size) cs.size=true:=by kernel_rfl)
 (hcs:bI cs off v.cells.toList=cs':=by kernel_rfl):ar P l M R0 K N A (.ef i rest) S w :=
 ar.store ho hop hw hx hy ht hs j c_.at_ hsz h1 (Nat.le_of_ble_eq_true hoff) hcs c_.Bq h
end
class kM (L:List aI) (i:Nat) (A:outParam aI) (R:outParam (List aI)):Prop where
 at_:L[i]?=some A
 rest:L.eraseIdx i=R
instance Eg {A:aI}{L:List aI}:kM (A::L) 0 A L:=⟨rfl,rfl⟩
instance Eh {B A:aI}{L R:List aI}{i:Nat} [h:kM L i A R]:kM (B::L) (i+1) A (B::R):=⟨h.at_,by show B::L.eraseIdx i=_;rw [h.rest]⟩
class pP (L:List aI) (n:Nat) (R:outParam (List aI)):Prop where
 eq:L.drop n=R
instance Ei {L:List aI}:pP L 0 L:=⟨rfl⟩
instance Ej {A:aI}{L R:List aI}{n:Nat} [h:pP L n R]:pP (A::L) (n+1) R:=⟨h.eq⟩
theorem St.dr {w0 w:World}{L R:List aI}(h:St w0 L w) (n:Nat) [d:pP L n R]:St w0 R w:=d.eq▸h.drop n
theorem St.pl {w0 w:World}{L R:List aI}{A:aI}(h:St w0 L w) (i:Nat) [d:kM L i A R]:St w0 (A::R) w:=d.rest▸h.pull i d.at_
instance Ek {A B:aI}{L R R':List aI}{i j:Nat} [h:kM L j B R] [d:kM R i A R']:kM (L.eraseIdx j) i A R':=⟨by rw [h.rest];exact d.at_,by rw [h.rest];exact d.rest⟩
instance EL {b:Nat}{cs cs':Array Value}{T:TypeId}{B:aI}{L R L':List aI}{i j:Nat} [h:kM L j B R] [d:uz R i b cs T cs' L']:uz (L.eraseIdx j) i b cs T cs' L':=⟨by rw [h.rest];exact d.at_,by rw [h.rest];exact d.Bq⟩
instance El {B:aI}{L R R':List aI}{n j:Nat} [h:kM L j B R] [d:pP R (n+1) R']:pP (L.eraseIdx j) (n+1) R':=⟨by rw [h.rest];exact d.eq⟩
abbrev kF:ByteArray:=⟨#[]⟩
abbrev gh:Array Value:=#[.int .u8 0,.int .u8 0,.int .u8 0,.int .u8 0,.int .u8 0,.int .u8 0,.int .u8 0,.int .u8 0,.int .u8 0,.int .u8 0,.int .u8 0,.int .u8 0,.int .u8 0,.int .u8 0,.int .u8 0,.int .u8 0,.int .u8 0,.int .u8 0,.int .u8 0,.int .u8 0,.int .u8 0,.int .u8 0,.int .u8 0,.int .u8 0,.int .u8 0,.int .u8 0,.int .u8 0,.int .u8 0,.int .u8 0,.int .u8 0,.int .u8 0,.int .u8 0]
abbrev CF:Array Value:=#[.int .u32 1116352408,.int .u32 1899447441,.int .u32 3049323471,.int .u32 3921009573,.int .u32 961987163,.int .u32 1508970993,.int .u32 2453635748,.int .u32 2870763221,.int .u32 3624381080,.int .u32 310598401,.int .u32 607225278,.int .u32 1426881987,.int .u32 1925078388,.int .u32 2162078206,.int .u32 2614888103,.int .u32 3248222580,.int .u32 3835390401,.int .u32 4022224774,.int .u32 264347078,.int .u32 604807628,.int .u32 770255983,.int .u32 1249150122,.int .u32 1555081692,.int .u32 1996064986,.int .u32 2554220882,.int .u32 2821834349,.int .u32 2952996808,.int .u32 3210313671,.int .u32 3336571891,.int .u32 3584528711,.int .u32 113926993,.int .u32 338241895,.int .u32 666307205,.int .u32 773529912,.int .u32 1294757372,.int .u32 1396182291,.int .u32 1695183700,.int .u32 1986661051,.int .u32 2177026350,.int .u32 2456956037,.int .u32 2730485921,.int .u32 2820302411,.int .u32 3259730800,.int .u32 3345764771,.int .u32 3516065817,.int .u32 3600352804,.int .u32 4094571909,.int .u32 275423344,.int .u32 430227734,.int .u32 506948616,.int .u32 659060556,.int .u32 883997877,.int .u32 958139571,.int .u32 1322822218,.int .u32 1537002063,.int .u32 1747873779,.int .u32 1955562222,.int .u32 2024104815,.int .u32 2227730452,.int .u32 2361852424,.int .u32 2428436474,.int .u32 2756734187,.int .u32 3204031479,.int .u32 3329325298]
abbrev nC:Array Value:=#[.int .u8 0,.int .i64 0,.int .u64 0,.int .u64 0,.int .i64 0,.int .i64 0,.int .i64 0,.int .u64 0,.int .u64 0,.int .u64 0,.int .u64 0,.int .u64 0,.int .u64 0,.int .u64 0,.int .u64 0,.int .u64 0,.int .u64 0,.int .u64 0]
abbrev Dp:Array Value:=#[.int .u32 0,.int .u32 0,.int .u32 0,.int .u32 0,.int .u32 0,.int .u32 0,.int .u32 0,.int .u32 0,.int .u32 0,.int .u32 0,.int .u32 0,.int .u32 0,.int .u32 0,.int .u32 0,.int .u32 0,.int .u32 0,.int .u32 0,.int .u32 0,.int .u32 0,.int .u32 0,.int .u32 0,.int .u32 0,.int .u32 0,.int .u32 0,.int .u32 0,.int .u32 0,.int .u32 0,.int .u32 0,.int .u32 0,.int .u32 0,.int .u32 0,.int .u32 0,.int .u32 0,.int .u32 0,.int .u32 0,.int .u32 0,.int .u32 0,.int .u32 0,.int .u32 0,.int .u32 0,.int .u32 0,.int .u32 0,.int .u32 0,.int .u32 0,.int .u32 0,.int .u32 0,.int .u32 0,.int .u32 0,.int .u32 0,.int .u32 0,.int .u32 0,.int .u32 0,.int .u32 0,.int .u32 0,.int .u32 0,.int .u32 0,.int .u32 0,.int .u32 0,.int .u32 0,.int .u32 0,.int .u32 0,.int .u32 0,.int .u32 0,.int .u32 0]
abbrev xH:Array Value:=#[.int .u8 1,.int .i64 0,.int .u64 0,.int .u64 0,.int .i64 0,.int .i64 40,.int .i64 0,.int .u64 0,.int .u64 0,.int .u64 0,.int .u64 0,.int .u64 0,.int .u64 0,.int .u64 0,.int .u64 0,.int .u64 0,.int .u64 0,.int .u64 0]
abbrev y4:Array Value:=#[.int .u32 1779033703,.int .u32 3144134277,.int .u32 1013904242,.int .u32 2773480762,.int .u32 1359893119,.int .u32 2600822924,.int .u32 528734635,.int .u32 1541459225]
abbrev EM:Array Value:=#[.int .u32 1779033703,.int .u32 3144134277,.int .u32 1013904242,.int .u32 2773480762,.int .u32 1359893119,.int .u32 2600822924,.int .u32 528734635,.int .u32 1541459225,.int .u8 0,.int .u8 0,.int .u8 0,.int .u8 0,.int .u8 0,.int .u8 0,.int .u8 0,.int .u8 0,.int .u8 0,.int .u8 0,.int .u8 0,.int .u8 0,.int .u8 0,.int .u8 0,.int .u8 0,.int .u8 0,.int .u8 0,.int .u8 0,.int .u8 0,.int .u8 0,.int .u8 0,.int .u8 0,.int .u8 0,.int .u8 0,.int .u8 0,.int .u8 0,.int .u8 0,.int .u8 0,.int .u8 0,.int .u8 0,.int .u8 0,.int .u8 0,.int .u8 0,.int .u8 0,.int .u8 0,.int .u8 0,.int .u8 0,.int .u8 0,.int .u8 0,.int .u8 0,.int .u8 0,.int .u8 0,.int .u8 0,.int .u8 0,.int .u8 0,.int .u8 0,.int .u8 0,.int .u8 0,.int .u8 0,.int .u8 0,.int .u8 0,.int .u8 0,.int .u8 0,.int .u8 0,.int .u8 0,.int .u8 0,.int .u8 0,.int .u8 0,.int .u8 0,.int .u8 0,.int .u8 0,.int .u8 0,.int .u8 0,.int .u8 0,.int .i64 0,.int .u64 0]
abbrev Ce:Array Value:=#[.int .u8 3,.int .i64 9,.int .u64 0,.int .u64 0,.int .i64 0,.int .i64 0,.int .i64 0,.int .u64 0,.int .u64 0,.int .u64 0,.int .u64 0,.int .u64 0,.int .u64 0,.int .u64 0,.int .u64 0,.int .u64 0,.int .u64 0,.int .u64 0]
abbrev EN:Array Value:=#[.int .u8 0,.int .u8 0,.int .u8 0,.int .u8 0,.int .u8 0,.int .u8 0,.int .u8 0,.int .u8 0,.int .u8 0,.int .u8 0,.int .u8 0,.int .u8 0,.int .u8 0,.int .u8 0,.int .u8 0,.int .u8 0,.int .u8 0,.int .u8 0,.int .u8 0,.int .u8 0,.int .u8 0,.int .u8 0,.int .u8 0,.int .u8 0,.int .u8 0,.int .u8 0,.int .u8 0,.int .u8 0,.int .u8 0,.int .u8 0,.int .u8 0,.int .u8 0,.int .u8 0,.int .u8 0,.int .u8 0,.int .u8 0,.int .u8 0,.int .u8 0,.int .u8 0,.int .u8 0,.int .u8 0,.int .u8 0,.int .u8 0,.int .u8 0,.int .u8 0,.int .u8 0,.int .u8 0,.int .u8 0,.int .u8 0,.int .u8 0,.int .u8 0,.int .u8 0,.int .u8 0,.int .u8 0,.int .u8 0,.int .u8 0,.int .u8 0,.int .u8 0,.int .u8 0,.int .u8 0,.int .u8 0,.int .u8 0,.int .u8 0,.int .u8 0]
abbrev wI:Array Value:=#[.int .u32 0,.int .u32 0,.int .u32 0,.int .u32 0,.int .u32 0,.int .u32 0,.int .u32 0,.int .u32 0]
abbrev Dq:Array Value:=#[.int .u64 0,.int .i64 0,.string kF,.int .u64 0,.int .i64 0,.string kF,.int .u64 0,.int .i64 0,.string kF,.int .u64 0,.int .i64 0,.string kF,.int .u64 0,.int .i64 0,.string kF,.int .u64 0,.int .i64 0,.string kF,.int .u64 0,.int .i64 0,.string kF,.int .u64 0,.int .i64 0,.string kF]
abbrev Dr:Array Value:=#[.int .u64 0,.int .u64 0,.int .u64 0,.int .u64 0,.int .u64 0,.int .u64 0,.int .u64 0,.int .u64 0,.int .u64 0,.int .u64 0,.int .u64 0]
abbrev CG:Array Value:=#[.int .i64 5,.int .i64 2,.pointer none,.pointer none,.pointer none,.int .i64 0]
def PT.lead:PT->List Nat
 | .rd i r=>i::PT.lead r
 | _=>[]
def PT.cut:PT->PT
 | .rd _ r=>PT.cut r
 | p=>p
theorem PT.nD:∀ p:PT,jX p.lead p.cut=p
 | .rd i r=>congrArg (PT.rd i) (PT.nD r)
 | .done=>rfl
 | .ef _ _=>rfl
 | .alt _ _=>rfl
def dT:Nat->Nat->List Nat->PT
 | _,0,_=>.done
 | a,n+1,[]=>.rd a (dT (a+1) n [])
 | a,n+1,e::es=>bif Nat.beq a e then .ef a (dT (a+1) n es) else .rd a (dT (a+1) n (e::es))
def kG (ex:List (Nat×Hint)):List Nat->List (Nat×Hint)
 | []=>[]
 | i::l=>(i,zX i ex)::kG ex l
theorem qT (ex:List (Nat×Hint)):∀ l:List Nat,(kG ex l).map (λx=>x.1)=l
 | []=>rfl
 | i::l=>congrArg (i::·) (qT ex l)
def HA (w:World) (hh:List (Nat×Hint)) (aa:cE):Prop:=fU w aa
section
variable {P : Program} {R0 : Exit -> Act -> World -> Prop} {N : Fr} {K : List dS} {S : Env} {w w0 : World} {l : List Oper} {M : List Nat} {A : cE} {rest p : PT} {L : List aI} {hh : List (Nat × Hint)} {aa : cE} {k : Bool}
def Pb (k:Bool) (G:Prop):Prop:=k=true/\G
theorem En {G:Prop}(h:Pb true G):G:=h.2
theorem Dz {G:Prop}(h:G) (hk:k=true:=by kernel_rfl):Pb k G:=⟨hk,h⟩
theorem Pb.im {G H:Prop}(h:Pb k G) (f:G->H):Pb k H:=⟨h.1,f h.2⟩
theorem Ls {x y:Code}(h:Pb k (aE P R0 N (.code y::K) x S w)):Pb k (aE P R0 N K (.seq x y) S w):=h.im aE.seq
theorem Lb {id:Nat}{c:Code}(h:Pb k (aE P R0 N (.oW id::K) c S w)):Pb k (aE P R0 N K (.block id c) S w):=h.im aE.block
theorem Lk (h:Pb k (aw P R0 N K .normal S w)):Pb k (aE P R0 N K .skip S w):=h.im aE.skip
theorem Lx {id:Nat}(h:Pb k (aw P R0 N K (.exit id) S w)):Pb k (aE P R0 N K (.exit id) S w):=h.im aE.exit
theorem Le (h:Pb k (aw P R0 N K .ret S w)):Pb k (aE P R0 N K .ret S w):=h.im aE.ret
theorem Lt {y:Code}(h:Pb k (aE P R0 N K y S w)):Pb k (aw P R0 N (.code y::K) .normal S w):=h
theorem Ly {y:Code}(h:Pb k (aw P R0 N K .ret S w)):Pb k (aw P R0 N (.code y::K) .ret S w):=h
theorem Ll {id:Nat}(h:Pb k (aw P R0 N K .ret S w)):Pb k (aw P R0 N (.oW id::K) .ret S w):=h
theorem Lm {id:Nat}(h:Pb k (aw P R0 N K .normal S w)):Pb k (aw P R0 N (.oW id::K) .normal S w):=h
theorem gv {y:Code}{id:Nat}(h:Pb k (aw P R0 N K (.exit id) S w)):Pb k (aw P R0 N (.code y::K) (.exit id) S w):=h
theorem gw {I:Act->World->Prop}{id:Nat}(h:Pb k (aw P R0 N K (.exit id) S w)):Pb k (aw P R0 N (.lp I::K) (.exit id) S w):=h
theorem uk {I:Act->World->Prop}(h:Pb k (aw P R0 N K .ret S w)):Pb k (aw P R0 N (.lp I::K) .ret S w):=h
theorem Lh {id:Nat}(h:Pb k (aw P R0 N K .normal S w)):Pb k (aw P R0 N (.oW id::K) (.exit id) S w):=h.im aw.jR
def D9 (S:Env) (c:Operand) (t:Bool):Bool :=
 match S.op c with
 | some (.bool b)=>b == t
 | _=>false
theorem zZ {c:Operand}{t:Bool}(h:D9 S c t=true):S.op c=some (.bool t):=by
 unfold D9 at h
 split at h
 ·rename_i b hb;rw [hb,eq_of_beq h]
 ·cases h
theorem LT {c:Operand}{x y:Code}(h:Pb (k && D9 S c true) (aE P R0 N K x S w)):Pb k (aE P R0 N K (.cond c x y) S w) :=
 have hk:=Bool.and_eq_true_iff.1 h.1
 ⟨hk.1,aE.Cb (zZ hk.2) h.2⟩
theorem LF {c:Operand}{x y:Code}(h:Pb (k && D9 S c false) (aE P R0 N K y S w)):Pb k (aE P R0 N K (.cond c x y) S w) :=
 have hk:=Bool.and_eq_true_iff.1 h.1
 ⟨hk.1,aE.Cc (zZ hk.2) h.2⟩
def Br (P:Program) (ops:Array Oper) (hs:List (Nat×Hint)) (S:Env):Bool :=
 match Go.Sx.phase P ops hs S with
 | some ([],_)=>true
 | _=>false
theorem Bs {ops:Array Oper}{hs:List (Nat×Hint)}(h:Br P ops hs S=true):xG P ops hs S=some []:=by
 unfold Br at h
 split at h
 ·rename_i S' e;unfold xG;rw [e]
 ·cases h
def PT.isDone:PT->Bool
 | .done=>true
 | _=>false
theorem PT.lN {p:PT}(h:p.isDone=true):p=.done:=by cases p with
 | done=>rfl
 | _=>cases h
def Ea:List Nat->List Nat->Bool
 | [],[]=>true
 | a::l,b::m=>Nat.beq a b && Ea l m
 | _,_=>false
theorem z3:∀ {l m:List Nat},Ea l m=true->l=m
 | [],[],_=>rfl
 | a::l,b::m,h=>by
  have h1:=Bool.and_eq_true_iff.1 (show(Nat.beq a b && Ea l m)=true from h)
  rw [Nat.eq_of_beq_eq_true h1.1,z3 h1.2]
 | [],_::_,h=>by cases h
 | _::_,[],h=>by cases h
def CH (N:Nat) (l:List Oper) (p:PT):Bool:=Ea p.idxs (List.range l.length) && hY N l.toArray
theorem Lg {id:Nat}(es:List Nat) (h:Pb (k && CH N l (dT 0 l.length es)) (ar P l (List.replicate l.length ((1 <<< l.length)-1)) R0 K N [] (dT 0 l.length es) S w)):Pb k (aE P R0 N K (.region id l.toArray false) S w) :=
 have hk:=Bool.and_eq_true_iff.1 h.1
 have hr:=Bool.and_eq_true_iff.1 hk.2
 ⟨hk.1,aE.qS _ _ (z3 hr.1) hr.2 h.2⟩
theorem Lu (h:Pb (k && Br P l.toArray (kG [] p.lead) S) (ar P l M R0 K N A p.cut (rZ P l.toArray (kG [] p.lead) S) w)):Pb k (ar P l M R0 K N A p S w) :=
 have hk:=Bool.and_eq_true_iff.1 h.1
 ⟨hk.1,Zh (kG [] p.lead) [] cW h.2 (by rw [qT];exact p.nD) (Bs hk.2)⟩
theorem Ld (h:Pb (k && p.isDone) (aw P R0 N K .normal S w)):Pb k (ar P l M R0 K N A p S w) :=
 have hk:=Bool.and_eq_true_iff.1 h.1
 ⟨hk.1,by rw [PT.lN hk.2];exact ar.done h.2⟩
theorem aL (h:Pb (k && (Br P l.toArray (kG [] p.lead) S && p.cut.isDone)) (aw P R0 N K .normal (rZ P l.toArray (kG [] p.lead) S) w)):Pb k (ar P l M R0 K N A p S w) :=
 have hk:=Bool.and_eq_true_iff.1 h.1
 have hr:=Bool.and_eq_true_iff.1 hk.2
 Lu (k:=k) ⟨Bool.and_eq_true_iff.2 ⟨hk.1,hr.1⟩,by rw [PT.lN hr.2];exact ar.done h.2⟩
theorem La {id:Nat}(h:Pb (k && (CH N l (dT 0 l.length []) && (Br P l.toArray (kG [] (dT 0 l.length []).lead) S && (dT 0 l.length []).cut.isDone))) (aw P R0 N K .normal (rZ P l.toArray (kG [] (dT 0 l.length []).lead) S) w)):Pb k (aE P R0 N K (.region id l.toArray false) S w) :=
 have hk:=Bool.and_eq_true_iff.1 h.1
 have hr:=Bool.and_eq_true_iff.1 hk.2
 Lg [] ⟨Bool.and_eq_true_iff.2 ⟨hk.1,hr.1⟩,(aL (k:=true) ⟨hr.2,h.2⟩).2⟩
theorem Lo {i:Nat}(h:Pb ((opens M A i).isEmpty) (ar P l M R0 K N A rest S w)):ba w (opens M A i)/\ar P l M R0 K N A rest S w:=⟨Di (List.isEmpty_iff.1 h.1),h.2⟩
theorem Zg {id:Nat}(es:List Nat) (h:ar P l (List.replicate l.length ((1 <<< l.length)-1)) R0 K N [] (dT 0 l.length es) S w) (hp:CH N l (dT 0 l.length es)=true:=by kernel_rfl):aE P R0 N K (.region id l.toArray false) S w :=
 (Lg (k:=true) es ⟨hp,h⟩).2
theorem Zj (q:HA w hh aa) (h3:ar P l M R0 K N (aa.reverse++A) p.cut (rZ P l.toArray (kG hh p.lead) S) w) (h1:xG P l.toArray (kG hh p.lead) S=some aa:=by kernel_rfl):ar P l M R0 K N A p S w :=
 Zh (kG hh p.lead) aa q h3 (by rw [qT];exact p.nD) h1
theorem Hz:HA w [] []:=trivial
theorem gY (q:HA w hh aa) (h3:aw P R0 N K .normal (rZ P l.toArray (kG hh p.lead) S) w) (h1:xG P l.toArray (kG hh p.lead) S=some aa:=by kernel_rfl) (hc:p.cut.isDone=true:=by kernel_rfl):ar P l M R0 K N A p S w :=
 Zj q (by rw [PT.lN hc];exact ar.done h3) h1
theorem Za {id:Nat}(h:aw P R0 N K .normal (rZ P l.toArray (kG [] (dT 0 l.length []).lead) S) w) (h1:(CH N l (dT 0 l.length []) && (Br P l.toArray (kG [] (dT 0 l.length []).lead) S && (dT 0 l.length []).cut.isDone))=true:=by kernel_rfl):aE P R0 N K (.region id l.toArray false) S w :=
 (La (k:=true) ⟨h1,h⟩).2
theorem bj {id:Nat}(q:HA w hh aa) (h:aw P R0 N K .normal (rZ P l.toArray (kG hh (dT 0 l.length []).lead) S) w) (h1:xG P l.toArray (kG hh (dT 0 l.length []).lead) S=some aa:=by kernel_rfl) (hp:CH N l (dT 0 l.length [])=true:=by kernel_rfl) (hc:(dT 0 l.length []).cut.isDone=true:=by kernel_rfl):aE P R0 N K (.region id l.toArray false) S w :=
 Zg [] (gY q h h1 hc) hp
theorem bL {id:Nat}(es:List Nat) (q:HA w hh aa) (h:ar P l (List.replicate l.length ((1 <<< l.length)-1)) R0 K N (aa.reverse++[]) (dT 0 l.length es).cut (rZ P l.toArray (kG hh (dT 0 l.length es).lead) S) w) (h1:xG P l.toArray (kG hh (dT 0 l.length es).lead) S=some aa:=by kernel_rfl) (hp:CH N l (dT 0 l.length es)=true:=by kernel_rfl):aE P R0 N K (.region id l.toArray false) S w :=
 Zg es (Zj q h h1) hp
theorem Eb {i:Nat}(q:HA w hh aa) (h3:ar P l M R0 K N (aa.reverse++A) p.cut (rZ P l.toArray (kG hh p.lead) S) w) (h1:xG P l.toArray (kG hh p.lead) S=some aa:=by kernel_rfl) (hop:opens M A i=[]:=by kernel_rfl):ba w (opens M A i)/\ar P l M R0 K N A p S w:=⟨Di hop,Zj q h3 h1⟩
theorem z4 {i:Nat}(q:HA w hh aa) (h3:aw P R0 N K .normal (rZ P l.toArray (kG hh p.lead) S) w) (h1:xG P l.toArray (kG hh p.lead) S=some aa:=by kernel_rfl) (hc:p.cut.isDone=true:=by kernel_rfl) (hop:opens M A i=[]:=by kernel_rfl):ba w (opens M A i)/\ar P l M R0 K N A p S w:=⟨Di hop,gY q h3 h1 hc⟩
theorem Zi (p:Prop) [Decidable p] {c:Operand}{x y:Code}(h1:p->aE P R0 N K x S w) (h2:¬ p->aE P R0 N K y S w) (hc:S.op c=some (.bool (decide p)):=by kernel_rfl):aE P R0 N K (.cond c x y) S w :=
 aE.cond hc (λh=>h1 (of_decide_eq_true h)) (λh=>h2 (of_decide_eq_false h))
end
def z5 (fn:Func):Code :=
 match fn.body with
 | some c=>c
 | none=>.skip
theorem z6 {fn:Func}(h:fn.body.isSome=true):fn.body=some (z5 fn):=by
 unfold z5
 cases hb:fn.body with
 | none=>rw [hb] at h;cases h
 | some c=>rfl
theorem bp {P:Program}{f:FuncId}{fn:Func}{args:List Value}{N:Nat}{w:World}{φ:Value->World->Prop}(hf:P.funcs[f]?=some fn) (hn:fn.ntmps=N) (h:aE P (bodyPost P fn (aZ φ)) ⟨N,[],none⟩ [] (z5 fn) (nz 0 args) w) (hb:fn.body.isSome=true:=by kernel_rfl) (hl:Nat.ble args.length N=true:=by kernel_rfl):Calls P f args.toArray w (aZ φ):=enter hf (z6 hb) hn (Nat.le_of_ble_eq_true hl) h
class nE (L:List aI) (j:Nat) (b:outParam Nat) (cs:outParam (Array Value)):Prop where
 at_:∃ T,L[j]?=some (ah b cs T)
instance Em {b:Nat}{cs:Array Value}{T:TypeId}{L:List aI}:nE (ah b cs T::L) 0 b cs:=⟨⟨T,rfl⟩⟩
instance Eo {A:aI}{L:List aI}{j b:Nat}{cs:Array Value} [h:nE L j b cs]:nE (A::L) (j+1) b cs:=⟨h.at_⟩
def Ep (cs:Array Value) (o:Nat):Value:=(cs[o]?).getD undef
section
variable {w w0 : World} {L : List aI} {hh : List (Nat × Hint)} {aa : cE} {b : Nat} {cs : Array Value}
theorem Hl (i j o:Nat) (hs:St w0 L w) [c:nE L j b cs] (q:HA w hh aa) (hb:(cs[o]?).isSome=true:=by kernel_rfl):HA w ((i,.gen [Ep cs o])::hh) ((i,[.cell ⟨b,o,none⟩ (Ep cs o)])::aa):=by
 obtain⟨T,h⟩:=c.at_
 refine⟨⟨hs.cell j h ?_,trivial⟩,q⟩
 unfold Ep
 obtain⟨v,hv⟩:=Option.isSome_iff_exists.1 hb
 rw [hv]
 rfl
theorem du (i j o n:Nat) (vs:Array Value) (hs:St w0 L w) [c:nE L j b cs] (q:HA w hh aa) (hn:vs.size=n:=by kernel_rfl) (hv:cs.extract o (o+vs.size)=vs:=by kernel_rfl):HA w ((i,.agg vs)::hh) ((i,[.prop (vs.size=n),.cells ⟨b,o,none⟩ vs])::aa):=by
 obtain⟨T,h⟩:=c.at_
 exact⟨⟨hn,hs.cells j o h hv,trivial⟩,q⟩
theorem qU (i:Nat) (x:Int) (q:HA w hh aa) (h1:0<=x:=by omega) (h2:x<18446744073709551616:=by omega):HA w ((i,.cI (.int .u64 x) (.gen []))::hh) ((i,[.prop (Value.int .u64 (IntKind.u64.wrap x)=.int .u64 x)])::aa):=⟨⟨nB h1 h2,trivial⟩,q⟩
theorem cH (i:Nat) (x:Int) (q:HA w hh aa) (h1:-9223372036854775808<=x:=by omega) (h2:x<9223372036854775808:=by omega):HA w ((i,.cI (.int .i64 x) (.gen []))::hh) ((i,[.prop (Value.int .i64 (IntKind.i64.wrap x)=.int .i64 x)])::aa):=⟨⟨dD h1 h2,trivial⟩,q⟩
theorem Hx (i:Nat) (x n:Int) (b o s:Nat) (q:HA w hh aa) (hx:0<=x/\x<n:=by omega):HA w ((i,.cI (zP b (o+x.toNat*s)) .at_)::hh) ((i,[.prop (0<=x/\x<n),.prop (Value.pointer (some (Addr.add ⟨b,o,none⟩ (x.toNat*s)))=.pointer (some ⟨b,o+x.toNat*s,none⟩))])::aa):=⟨⟨hx,aS _ _ _,trivial⟩,q⟩
theorem Hg (i:Nat) (h:Hint) (n:List dO) (hn:ba w n) (q:HA w hh aa):HA w ((i,h)::hh) ((i,n)::aa):=⟨hn,q⟩
end
theorem nI {α:Sort _}{b:Bool}{x y:α}(h:b=false):(if b=true then x else y)=y:=if_neg (ne_true_of_eq_false h)
def Hb:Env->Bool
 | (_,.bool b)::_=>b
 | _=>false
def Rb (b:Bool):Env->Env
 | (d,_)::r=>(d,.bool b)::r
 | []=>[]
theorem uA {P:Program}{R0:Exit->Act->World->Prop}{N:Fr}{K:List dS}{S:Env}{w:World}{T:Type}{E:T->Env}{F:T->World->Prop}(ks:List Nat) (x:T) (hF:F x w) (hE:S.pick ks=E x:=by kernel_rfl):aw P R0 N (.lp (wG N E F)::K) .normal S w :=
 aw.pick ks hE (aw.bD x rfl hF)
theorem jF {P:Program}{R0:Exit->Act->World->Prop}{N:Fr}{K:List dS}{S:Env}{w:World}{T:Type}{E:T->Env}{F:T->World->Prop}(ks:List Nat) (x:T) (b:Bool) (hb:Hb (E x)=b) (hF:F x w) (hE:S.pick ks=Rb b (E x):=by kernel_rfl) (hd:Rb (Hb (E x)) (E x)=E x:=by kernel_rfl):aw P R0 N (.lp (wG N E F)::K) .normal S w :=
 uA ks x hF (hE.trans ((congrArg (λb=>Rb b (E x)) hb.symm).trans hd))
end Go.Sx
namespace Go.Sx
open Go.RowKit
set_option linter.unusedVariables false
set_option linter.unusedSimpArgs false
theorem ag.isSome {w:World}{ad:Option Addr}{n size:Nat}{cell:Nat->Array Value}(h:ag w ad n size cell) (hn:0<n):∃ b off,ad=some ⟨b,off,none⟩:=by
 obtain⟨b,off,h1,_⟩:=h hn
 exact⟨b,off,h1⟩
theorem ag.at {w:World}{b off n size:Nat}{cell:Nat->Array Value}(h:ag w (some ⟨b,off,none⟩) n size cell){k j:Nat}(hk:k<n) (hj:j<size):w.cell? ⟨b,off+k*size+j,none⟩=(cell k)[j]?:=by
 obtain⟨b',off',h1,h2⟩:=h za
 simp only [Option.some.injEq,Addr.mk.injEq,and_true] at h1
 obtain⟨rfl,rfl⟩:=h1
 exact h2 k hk j hj
theorem ag.all {w:World}{b off n size:Nat}{cell:Nat->Array Value}(h:ag w (some ⟨b,off,none⟩) n size cell){k o:Nat}(hk:k<n){vs:Array Value}(ho:o+vs.size<=size) (hv:(cell k).extract o (o+vs.size)=vs) :
 ∀ i,i<vs.size->w.cell? ((Addr.mk b (off+k*size+o) none).add i)=vs[i]?:=by
 intro i hi
 rw [eE,Nat.add_assoc,h.at hk za]
 have h1:((cell k).extract o (o+vs.size))[i]?=vs[i]?:=by rw [hv]
 rw [<- h1,Array.getElem?_extract]
 have h2:=congrArg Array.size hv
 simp only [Array.size_extract] at h2
 rw [if_pos za]
theorem ag.base {W w w0:World}{L:List aI}{ad:Option Addr}{n size:Nat}{cell:Nat->Array Value}(h:ag W ad n size cell) (hc:∀ k,k<n->(cell k).size=size) (hs:St w0 L w) (i:Nat) (hi:L[i]?=some (sq W)):ag w ad n size cell:=λhn=>by
 obtain⟨b,off,h1,h2⟩:=h hn
 refine⟨b,off,h1,λk hk j hj=>?_⟩
 have h3:=h2 k hk j hj
 have hlt:j<(cell k).size:=by rw [hc k hk];exact hj
 rw [Array.getElem?_eq_getElem hlt] at h3 ⊢
 exact hs.base i hi h3
theorem ag.sub {w:World}{b off n size:Nat}{cell:Nat->Array Value}(h:ag w (some ⟨b,off,none⟩) n size cell) (lo m:Nat) (hm:lo+m<=n):ag w (some ⟨b,off+lo*size,none⟩) m size (λk=>cell (lo+k)):=λhn =>
 ⟨b,off+lo*size,rfl,λk hk j hj=>by rw [Nat.add_assoc off,<- Nat.add_mul];exact h.at za hj⟩
theorem ag.nil {w:World}(ad:Option Addr) (size:Nat) (cell:Nat->Array Value):ag w ad 0 size cell:=λh=>absurd h za
theorem ag.lt {w:World}{ad:Option Addr}{n size:Nat}{cell:Nat->Array Value}(h:ag w ad n size cell){m:Nat}(hm:m<=n):ag w ad m size cell:=λhn=>by
 obtain⟨b,off,h1,h2⟩:=h za
 exact⟨b,off,h1,λk hk=>h2 k za⟩
theorem ag.CI {W:World}{ad:Option Addr}{n size:Nat}{cell cell':Nat->Array Value}(h:ag W ad n size cell) (hc:∀ k,k<n->cell k=cell' k):ag W ad n size cell':=λhn=>by
 obtain⟨b,off,h1,h2⟩:=h hn
 exact⟨b,off,h1,λk hk j hj=>by rw [<- hc k hk];exact h2 k hk j hj⟩
def EO (v:Value) (e:TypeId) (size n:Nat) (xs:List Value):aI :=
 ⟨λb=>v.ownBlock=some b,λw=>w.ownsRow 0 e size v n xs,λw w' h h1=>by
  obtain⟨h2,h3⟩:=h1
  refine⟨h2,?_⟩
  rcases h3 with h3|⟨g,cap,cur,hv,hb,hg,r⟩
  ·exact .inl h3
  ·exact .inr ⟨g,cap,cur,hv,hb,by rw [h g (by rw [hv];rfl)];exact hg,r⟩⟩
def Sl {α:Type}(ad:Option Addr) (c:Nat) (e:TypeId) (size:Nat) (f:α->Array Value) (l:List α):aI:=EO (.slice ad l.length c) e size l.length (l.flatMap λx=>(f x).toList)
theorem br {α:Type}{f:α->Array Value}{size:Nat}(hf:∀ x,(f x).size=size):∀ (l:List α),(l.flatMap λx=>(f x).toList).length=l.length*size
 | []=>by simp
 | x::l=>by
  simp only [List.flatMap_cons,List.length_append,br hf l,List.length_cons,Array.length_toList,hf]
  rw [Nat.add_mul,Nat.one_mul,Nat.add_comm]
theorem jd {α:Type}{f:α->Array Value}{size:Nat}(hf:∀ x,(f x).size=size) (d:α):∀ (l:List α) (k j:Nat),k<l.length->j<size->(l.flatMap λx=>(f x).toList)[k*size+j]?=(f (l.getD k d))[j]?
 | [],k,j,h,_=>by simp at h
 | x::l,0,j,_,hj=>by
  simp only [List.flatMap_cons,Nat.zero_mul,Nat.zero_add]
  rw [List.getElem?_append_left (by rw [Array.length_toList,hf];exact hj)]
  simp
 | x::l,k+1,j,h,hj=>by
  simp only [List.flatMap_cons]
  rw [List.getElem?_append_right (by rw [Array.length_toList,hf,Nat.add_mul];omega),Array.length_toList,hf]
  rw [show(k+1)*size+j-size=k*size+j from by rw [Nat.add_mul];omega]
  rw [jd hf d l k j (by simpa using h) hj]
  simp
section
variable {w0 w : World} {L : List aI} {α : Type} {ad : Option Addr} {c size : Nat} {e : TypeId} {f : α -> Array Value} {l : List α}
theorem Sl.rows (hf:∀ x,(f x).size=size) (h:(Sl ad c e size f l).holds w) (d:α):ag w ad l.length size (λk=>f (l.getD k d)):=λhn=>by
 have h0:w.ownsRow 0 e size (.slice ad l.length c) l.length (l.flatMap λx=>(f x).toList):=h
 rcases h0.2 with⟨h1,h2⟩|⟨g,cap,cur,hv,_⟩
 ·omega
 ·simp only [Value.slice.injEq] at hv
  obtain⟨rfl,_,rfl⟩:=hv
  refine⟨g,0,rfl,λk hk j hj=>?_⟩
  rw [Nat.zero_add]
  have hlt:k*size+j<l.length*size:=by
   calc k*size+j<k*size+size:=za
    _=(k+1)*size:=by rw [Nat.add_mul,Nat.one_mul]
    _<=l.length*size:=Nat.mul_le_mul_right _ hk
  rw [h0.cellAt _ hlt]
  exact jd hf d l k j hk hj
theorem St.rows (hs:St w0 L w) (i:Nat) (hi:L[i]?=some (Sl ad c e size f l)) (hf:∀ x,(f x).size=size) (d:α):ag w ad l.length size (λk=>f (l.getD k d)):=Sl.rows hf (hs.at_ i hi) d
theorem St.bW (hs:St w0 L w) (e:TypeId) (size:Nat) (f:α->Array Value):St w0 (Sl none 0 e size f []::L) w :=
 St.new hs rfl rfl rfl (Nat.le_refl _) (λ_ _=>rfl) (World.ownsRow_nil w 0 e size) (λb hb=>by simp [Sl,EO,Value.ownBlock] at hb)
theorem St.ey {b:Nat}{cs:Array Value}{T:TypeId}(hs:St w0 (ah b cs T::L) w) (hz:w.heap[b]?=some (.cells cs T (0,0))) (hf:∀ x,(f x).size=size) (hl:l.length<=maxLen) (hcs:cs.toList=l.flatMap λx=>(f x).toList) :
 St w0 (Sl (some ⟨b,0,none⟩) l.length T size f l::L) w:=by
 refine St.step hs rfl rfl rfl (Nat.le_refl _) (λ_ _ _=>rfl) ?_ (λk hk=>⟨.inl ?_,?_⟩)
 ·refine⟨br hf l,.inr ⟨b,l.length,cs,rfl,Nat.zero_le _,hz,Nat.le_refl _,hl,?_,?_⟩⟩
  ·rw [<- Array.length_toList,hcs,br hf]
  ·rw [hcs,List.take_of_length_le (by rw [br hf];exact Nat.le_refl _)]
 ·have h1:(some b:Option Nat)=some k:=hk
  exact(Option.some.inj h1).symm
 ·have h1:(some b:Option Nat)=some k:=hk
  have h2:=Option.some.inj h1
  subst h2
  exact(Array.getElem?_eq_some_iff.1 hz).1
theorem St.grown {A A':aI}{w':World}{row:Option Nat}(hs:St w0 (A::L) w) (hg:w.grownBy w' row) (hrow:∀ b,row=some b->A.own b) (hA:A'.holds w') (hown:∀ b,A'.own b->(A.own b\/w.heap.size<=b)/\b<w'.heap.size):St w0 (A'::L) w' :=
 St.step hs hg.os hg.tape hg.output hg.size (λb hb hn=>hg.block b hb (λe=>hn (hrow b e.symm))) hA hown
variable {P : Program}
theorem ph {t ty:TypeId}{ti:TypeInfo}{z:Value}{bytes:Nat}(ht:P.underlying t=some (.slice e)) (hi:P.info? e=some ti) (hz:ti.zero=some z) (hsize:ti.size=size) (hby:ti.bytes=bytes) (hzs:z.cells.size=size) (hsz:0<size)
 (hf:∀ x,(f x).size=size) (h1:∀ x,∀ u∈(f x).toList,u.oneCell'=true) (hs:St w0 (Sl ad c e size f l::L) w) (d:α){adx:Option Addr}{cx:Nat}{ys:List α}(hx:ag w adx ys.length size (λk=>f (ys.getD k d))) (hxn:adx=none->cx=0)
 (h63:l.length+ys.length<=maxLen) (hb:(l.length+ys.length)*bytes<=140737488355328) :
 ∃ ad' c' w',(Builtin.append_ #[t,t] ty #[.slice ad l.length c,.slice adx ys.length cx]).run P w=.ok (.slice ad' (l++ys).length c') w'/\St w0 (Sl ad' c' e size f (l++ys)::L) w':=by
 have h0:w.ownsRow 0 e size (.slice ad l.length c) l.length (l.flatMap λx=>(f x).toList):=hs.holds _ (List.mem_cons_self ..)
 cases adx with
 | none =>
  have hcx:=hxn rfl
  subst hcx
  have hy:ys=[]:=by
   cases ys with
   | nil=>rfl
   | cons y ys =>
    obtain⟨b,off,hh,_⟩:=hx zG
    cases hh
  subst hy
  refine⟨ad,c,w,?_,by rw [List.append_nil];exact hs⟩
  rw [List.append_nil]
  exact run_append_owned_none w 0 t ty e ti size ht hi _ _ _ h0
 | some a =>
  have hnews:∀ j u,(ys.flatMap λx=>(f x).toList)[j]?=some u->w.cell? (a.add j)=some u:=by
   intro j u hj
   have hlen:j<ys.length*size:=by rw [<- br hf ys];exact(List.getElem?_eq_some_iff.1 hj).1
   have hy:0<ys.length:=by
    rcases Nat.eq_zero_or_pos ys.length with hz|hz
    ·rw [hz] at hlen;omega
    ·exact hz
   obtain⟨b,off,hh,hrow⟩:=hx hy
   simp only [Option.some.injEq] at hh
   subst hh
   have hk:j / size<ys.length:=Nat.div_lt_of_lt_mul (by rw [Nat.mul_comm];exact hlen)
   have hm:j % size<size:=Nat.mod_lt _ hsz
   have h2:=hrow (j / size) hk (j % size) hm
   have h3:=jd hf d ys (j / size) (j % size) hk hm
   have h4:j / size*size+j % size=j:=by rw [Nat.mul_comm];exact Nat.div_add_mod j size
   rw [Nat.add_assoc,h4] at h2
   rw [h4] at h3
   rw [eE,h2,<- h3]
   exact hj
  have hone:∀ u∈(ys.flatMap λx=>(f x).toList),u.oneCell'=true:=by
   intro u hu
   obtain⟨y,_,hy⟩:=List.mem_flatMap.1 hu
   exact h1 y u hy
  have hl:(l++ys).length=l.length+ys.length:=List.length_append
  have hfl:((l++ys).flatMap λx=>(f x).toList)=(l.flatMap λx=>(f x).toList)++(ys.flatMap λx=>(f x).toList):=List.flatMap_append
  have hny:=br hf ys
  have hsmall:l.length+ys.length<=9223372036854775807:=by simp only [maxLen] at h63;omega
  subst hby
  have fresh:∀ cap,St w0 (Sl (some ⟨w.heap.size,0,none⟩) (grownCap w (l.length+ys.length) cap e) e size f (l++ys)::L)
   (w.drew.alloc (.cells ((l.flatMap λx=>(f x).toList).toArray++(ys.flatMap λx=>(f x).toList).toArray++Builtin.zeroCells z.cells (grownCap w (l.length+ys.length) cap e-(l.length+ys.length))) e)):=by
   intro cap
   have hge:=grownCap_ge w (l.length+ys.length) cap e
   have hcm:grownCap w (l.length+ys.length) cap e<=maxLen:=grownCap_le_maxLen w (l.length+ys.length) cap e h63
   refine St.step hs rfl rfl rfl zG (λk hk _=>heap_alloc_old w.drew _ hk) ?_ (λk hk=>⟨.inr ?_,?_⟩)
   ·show World.ownsRow _ 0 e size (.slice _ (l++ys).length _) (l++ys).length ((l++ys).flatMap λx=>(f x).toList)
    rw [hl,hfl]
    refine⟨by rw [List.length_append,br hf,br hf,Nat.add_mul],.inr ⟨w.heap.size,_,_,rfl,Nat.zero_le _,heap_alloc_new w.drew _,hge,hcm,?_,?_⟩⟩
    ·simp only [Array.size_append,List.size_toArray,size_zeroCells,hzs,br hf,<- Nat.add_mul]
     congr 1
     omega
    ·have h9:(l.length+ys.length)*size=((l.flatMap λx=>(f x).toList)++(ys.flatMap λx=>(f x).toList)).length:=by rw [List.length_append,br hf,br hf,Nat.add_mul]
     simp only [Array.toList_append,List.append_assoc]
     rw [<- List.append_assoc,h9]
     exact List.take_left
   ·have h1:(some w.heap.size:Option Nat)=some k:=hk
    have h2:=Option.some.inj h1
    omega
   ·have h1:(some w.heap.size:Option Nat)=some k:=hk
    have h2:=Option.some.inj h1
    subst h2
    simp
  rcases h0.2 with⟨h3,h4⟩|⟨g,cap,cur,h3,hbg,hg,hnc,hcm,hcs,htake⟩
  ·simp only [Value.slice.injEq] at h3
   obtain⟨rfl,_,rfl⟩:=h3
   have hle:l=[]:=List.eq_nil_of_length_eq_zero h4
   subst hle
   by_cases hm:ys.length=0
   ·have hye:ys=[]:=List.eq_nil_of_length_eq_zero hm
    subst hye
    refine⟨none,0,w,?_,by rw [List.append_nil];exact hs⟩
    simp [Builtin.append_,run_underlying ht,sizeOf,typeInfo,hi,Builtin.lenOf,Builtin.firstCells,loadCells,loadCellsFrom]
   ·have hr:=run_append_nil (P:=P) w t ty e ti z ht hi hz a ys.length cx _ (by rw [hny,hsize]) hnews za (by simp only [List.length_nil,Nat.zero_add] at hsmall;omega) (by have hb':=hb;simp only [List.length_nil,Nat.zero_add] at hb';omega)
    have hfr:=fresh 0
    simp only [List.length_nil,Nat.zero_add,List.nil_append,List.flatMap_nil,Array.empty_append] at hfr hr ⊢
    exact⟨_,_,_,hr,hfr⟩
  ·simp only [Value.slice.injEq] at h3
   obtain⟨rfl,_,rfl⟩:=h3
   by_cases hroom:l.length+ys.length<=c
   ·obtain⟨w',hr,hown,hgr⟩:=run_append_fits (P:=P) w 0 t ty e ti size ht hi hsize g l.length c _ h0 a ys.length cx _ hny hnews hone hroom
    refine⟨some ⟨g,0,none⟩,c,w',by rw [hl];exact hr,?_⟩
    have hown':(Sl (some ⟨g,0,none⟩) c e size f (l++ys)).holds w':=by
     show w'.ownsRow 0 e size (.slice _ (l++ys).length c) (l++ys).length ((l++ys).flatMap λx=>(f x).toList)
     rw [hl,hfl]
     exact hown
    refine St.grown hs hgr (λb hb=>hb) hown' (λb hb=>⟨.inl hb,?_⟩)
    have h1:(some g:Option Nat)=some b:=hb
    have h2:=Option.some.inj h1
    subst h2
    exact Nat.lt_of_lt_of_le (Array.getElem?_eq_some_iff.1 hg).1 hgr.size
   ·have holds:∀ j u,(l.flatMap λx=>(f x).toList)[j]?=some u->w.cell? ((⟨g,0,none⟩:Addr).add j)=some u:=h0.cells (g:=g) rfl
    have hr:=run_append_grow (P:=P) w t ty e ti z ht hi hz ⟨g,0,none⟩ l.length c _ (by rw [br hf,hsize]) holds a ys.length cx _ (by rw [hny,hsize]) hnews za za (growslice_fits za hb)
    exact⟨_,_,_,by rw [hl];exact hr,fresh c⟩
end
theorem ss (x y:ByteArray):(x.toList == y.toList)=decide (x=y):=by
 by_cases h:x=y
 ·subst h;simp
 ·rw [decide_eq_false h]
  refine beq_eq_false_iff_ne.2 λe=>h ?_
  rw [ByteArray.toList_eq,ByteArray.toList_eq] at e
  cases x;cases y
  simpa using e
section
variable {P : Program}
def dU (P:Program) (t:TypeId):Bool :=
 match P.underlying t with
 | some (.struct _)=>true
 | some (.array _ _)=>true
 | _=>false
def partV (P:Program) (t:TypeId) (cs:Array Value) (off:Nat):Value:=if dU P t then .agg (cs.extract off (off+P.cellsOf t)) else (cs[off]?).getD undef
def partOK (P:Program) (t:TypeId) (cs:Array Value) (off:Nat):Bool:=(P.info? t).isSome && (P.underlying t).isSome && (dU P t || (cs[off]?).isSome)
theorem kN {t:TypeId}{cs:Array Value}{off:Nat}(w:World) (h:partOK P t cs off=true):(part t cs off).run P w=.ok (partV P t cs off) w:=by
 simp only [partOK,Bool.and_eq_true,Option.isSome_iff_exists] at h
 obtain⟨⟨⟨ti,hi⟩,⟨d,hd⟩⟩,h2⟩:=h
 have hsz:P.cellsOf t=ti.size:=by simp [Program.cellsOf,hi]
 cases hb:dU P t with
 | true =>
  have ha:(isAgg t).run P w=.ok true w:=by
   simp only [dU,hd] at hb
   simp only [isAgg,Sem.run_bind,run_underlying hd,Result.andThen_ok]
   cases d<;>first|rfl|simp at hb
  simp only [part,Sem.run_bind,ha,Result.andThen_ok,if_true,sizeOf,typeInfo,run_program,hi,Sem.run_pure,partV,hb,hsz]
 | false =>
  have ha:(isAgg t).run P w=.ok false w:=by
   simp only [dU,hd] at hb
   simp only [isAgg,Sem.run_bind,run_underlying hd,Result.andThen_ok]
   cases d<;>first|rfl|simp at hb
  rw [hb] at h2
  rw [Bool.false_or] at h2
  obtain⟨v,hv⟩:=Option.isSome_iff_exists.1 h2
  simp only [part,Sem.run_bind,ha,Result.andThen_ok,Bool.false_eq_true,if_false,hv,Sem.run_pure,partV,hb,Option.getD_some]
def dv (P:Program):Nat->TypeId->Value->Value->Bool
 | 0,_,_,_=>false
 | m+1,t,x,y =>
  match P.underlying t,x,y with
  | some .bool,.bool a,.bool b=>a == b
  | some (.int _),.int _ a,.int _ b=>a == b
  | some .string,.string a,.string b=>a.toList == b.toList
  | some (.struct fs),.agg xs,.agg ys=>fs.toList.all λf=>dv P m f.type (partV P f.type xs f.offset) (partV P f.type ys f.offset)
  | some (.array n e),.agg xs,.agg ys=>(List.range n).all λi=>dv P m e (partV P e xs (i*P.cellsOf e)) (partV P e ys (i*P.cellsOf e))
  | _,_,_=>false
def okEq (P:Program):Nat->TypeId->Value->Value->Bool
 | 0,_,_,_=>false
 | m+1,t,x,y =>
  match P.underlying t,x,y with
  | some .bool,.bool _,.bool _=>true
  | some (.int _),.int k _,.int k' _=>k == k'
  | some .string,.string _,.string _=>true
  | some (.struct fs), .agg xs, .agg ys => !(P.stoodInHeld t) && fs.toList.all fun f => f.name != "_" && partOK P f.type xs f.offset && partOK P f.type ys f.offset && okEq P m f.type (partV P f.type xs f.offset) (partV P f.type ys f.offset)
  | some (.array n e),.agg xs,.agg ys=>(P.info? e).isSome && (List.range n).all λi=>partOK P e xs (i*P.cellsOf e) && partOK P e ys (i*P.cellsOf e) && okEq P m e (partV P e xs (i*P.cellsOf e)) (partV P e ys (i*P.cellsOf e))
  | _,_,_=>false
theorem kO (d:Nat) (xs ys:Array Value) (r:Field->Bool) (w:World):∀ (fs:List Field),
 (∀ f ∈ fs, f.name ≠ "_" ∧ partOK P f.type xs f.offset = true ∧ partOK P f.type ys f.offset = true ∧ (Op.equalIn d f.type (partV P f.type xs f.offset) (partV P f.type ys f.offset)).run P w = .ok (r f) w) →
 (Op.eqFields d xs ys fs).run P w=.ok (fs.all r) w
 | [],_=>by simp [Op.eqFields]
 | f::fs,h=>by
  obtain⟨h1,h2,h3,h4⟩:=h f (List.mem_cons_self ..)
  have ih:=kO d xs ys r w fs λg hg=>h g (List.mem_cons_of_mem _ hg)
  simp only [Op.eqFields,h1,ne_eq,not_false_eq_true,if_true,Sem.run_bind,kN w h2,kN w h3,Result.andThen_ok,h4,List.all_cons]
  cases r f
  ·simp
  ·simpa using ih
theorem run_equalIn_array {t e:TypeId}{n:Nat}(d:Nat) (xs ys:Array Value) (r:Nat->Bool) (w:World) (ht:P.underlying t=some (.array n e)){ei:TypeInfo}(he:P.info? e=some ei)
 (h:∀ i,i<n->partOK P e xs (i*P.cellsOf e)=true/\partOK P e ys (i*P.cellsOf e)=true/\(Op.equalIn d e (partV P e xs (i*P.cellsOf e)) (partV P e ys (i*P.cellsOf e))).run P w=.ok (r i) w) :
 (Op.equalIn (d+1) t (.agg xs) (.agg ys)).run P w=.ok ((List.range n).all r) w:=by
 have hsz:P.cellsOf e=ei.size:=by simp [Program.cellsOf,he]
 rw [hsz] at h
 simp only [Op.equalIn,Sem.run_bind,run_underlying ht,Result.andThen_ok,sizeOf,typeInfo,run_program,he,Sem.run_pure]
 simp only [Std.Legacy.Range.forIn_eq_forIn_range',Std.Legacy.Range.size,Nat.sub_zero,Nat.add_one_sub_one,Nat.div_one]
 have hr:(List.range n).all r=(List.range' 0 n).all r:=by rw [List.range_eq_range']
 rw [hr]
 have hlt:∀ i∈List.range' 0 n,i<n:=λi hi=>by
  have:=List.mem_range'.1 hi
  omega
 generalize List.range' 0 n=is at hlt
 induction is with
 | nil=>simp
 | cons i is ih =>
  obtain⟨h1,h2,h3⟩:=h i (hlt i zG)
  have ih':=ih λk hk=>hlt k (by simp [hk])
  simp only [List.forIn_cons,Sem.run_bind,kN w h1,kN w h2,Result.andThen_ok,h3,List.all_cons]
  cases hri:r i
  ·simp
  ·simpa using ih'
theorem iq:∀ (m:Nat) (t:TypeId) (x y:Value) (d:Nat) (w:World),okEq P m t x y=true->(Op.equalIn (d+m) t x y).run P w=.ok (dv P m t x y) w:=by
 intro m
 induction m with
 | zero=>intro t x y d w h;cases h
 | succ m ih =>
  intro t x y d w h
  unfold okEq at h
  unfold dv
  rw [<- Nat.add_assoc]
  split at h
  ·rename_i a b hu
   exact run_equalIn_bool w _ t a b hu
  ·rename_i k0 k a k' b hu
   obtain rfl:k=k':=by simpa using h
   exact run_equalIn_int w _ t k k0 a b hu
  ·rename_i a b hu
   exact run_equalIn_string w _ t a b hu
  ·rename_i fs xs ys hu
   simp only [Bool.and_eq_true,Bool.not_eq_true',List.all_eq_true,bne_iff_ne,ne_eq] at h
   have hfo:P.fieldsOf t=fs:=by simp [Program.fieldsOf,hu]
   rw [run_equalIn_struct w (d+m) t xs ys (by rw [hfo];exact hu) h.1,hfo]
   refine kO (d+m) xs ys _ w fs.toList λf hf=>?_
   obtain⟨⟨⟨h1,h2⟩,h3⟩,h4⟩:=h.2 f hf
   exact⟨h1,h2,h3,ih _ _ _ d w h4⟩
  ·rename_i n e xs ys hu
   simp only [Bool.and_eq_true,List.all_eq_true,List.mem_range] at h
   obtain⟨ei,he⟩:=Option.isSome_iff_exists.1 h.1
   refine run_equalIn_array (d+m) xs ys _ w hu he λi hi=>?_
   obtain⟨⟨h1,h2⟩,h3⟩:=h.2 i hi
   exact⟨h1,h2,ih _ _ _ d w h3⟩
  ·cases h
def uB (S:Env) (o:Oper):Option (Bool×TypeId×Array Value×Array Value) :=
 match o.op with
 | .binOp .eql t x y _=>match S.op x,S.op y with
  | some (.agg xs),some (.agg ys)=>some (true,t,xs,ys)
  | _,_=>none
 | .binOp .neq t x y _=>match S.op x,S.op y with
  | some (.agg xs),some (.agg ys)=>some (false,t,xs,ys)
  | _,_=>none
 | _=>none
theorem uC {N:Fr}{S:Env}{a:Act}(hf:Fits N S a){o:Oper}{b:Bool}{t:TypeId}{xs ys:Array Value}{m:Nat}(h:uB S o=some (b,t,xs,ys)) (hg:P.eqGuardType P.depth t=false) (hm:m<=10000)
 (hok:okEq P m t (.agg xs) (.agg ys)=true) (w:World):(execOp a.eval o).run P w=.ok (.value (.bool (if b then dv P m t (.agg xs) (.agg ys) else !(dv P m t (.agg xs) (.agg ys))))) w:=by
 have hr:=iq m t (.agg xs) (.agg ys) (10000-m) w hok
 rw [Nat.sub_add_cancel hm] at hr
 unfold uB at h
 split at h
 ·rename_i t' x y t2 ho
  split at h
  ·rename_i xs' ys' hx hy
   simp only [Option.some.injEq,Prod.mk.injEq] at h
   obtain⟨rfl,rfl,rfl,rfl⟩:=h
   have hx':=hf.op hx
   have hy':=hf.op hy
   generalize a.eval=ρ at hx' hy' ⊢
   have hgd:=run_eqGuard_agg (P:=P) w .eql t' x y xs' ys' hg
   have hbo:=run_eql_struct (P:=P) w t' xs' ys'
   rw [hr] at hbo
   simp only [execOp,ho,hx',hy',Sem.run_bind,hgd,hbo,Result.andThen_ok,if_true]
   rfl
  ·cases h
 ·rename_i t' x y t2 ho
  split at h
  ·rename_i xs' ys' hx hy
   simp only [Option.some.injEq,Prod.mk.injEq] at h
   obtain⟨rfl,rfl,rfl,rfl⟩:=h
   have hx':=hf.op hx
   have hy':=hf.op hy
   generalize a.eval=ρ at hx' hy' ⊢
   have hgd:=run_eqGuard_agg (P:=P) w .neq t' x y xs' ys' hg
   have hbo:=run_neq_struct (P:=P) w t' xs' ys'
   rw [hr] at hbo
   simp only [execOp,ho,hx',hy',Sem.run_bind,hgd,hbo,Result.andThen_ok,Bool.false_eq_true,if_false]
   rfl
  ·cases h
 ·cases h
end
section
variable {P : Program} {N : Fr} {S : Env} {w w0 : World} {L : List aI}
theorem iG {t:TypeId}{ti:TypeInfo}(hi:P.info? t=some ti) (ha:dU P t=true){b:Nat}{off:Nat}{vs:Array Value}(hsz:vs.size=ti.size) (hc:∀ i,i<vs.size->w.cell? ((Addr.mk b off none).add i)=vs[i]?) :
 (loadVar t ⟨b,off,none⟩).run P w=.ok (.agg vs) w:=by
 refine mS hi (λw=>?_) _ _ hsz hc
 unfold dU at ha
 cases hu:P.underlying t with
 | none=>rw [hu] at ha;cases ha
 | some d =>
  rw [hu] at ha
  simp only [isAgg,Sem.run_bind,run_underlying hu,Result.andThen_ok]
  cases d<;>first|rfl|simp at ha
theorem ct {fn:Func}{t:Tmp}{ty:TypeId}{ti:TypeInfo}{b:Nat}{off:Nat}{vs:Array Value}(hr:fn.results=#[.cell t ty]) (hg:S.get t=some (.pointer (some ⟨b,off,none⟩))) (hi:P.info? ty=some ti) (ha:dU P ty=true) (hsz:vs.size=ti.size)
 (hc:∀ i,i<vs.size->w.cell? ((Addr.mk b off none).add i)=vs[i]?) (a:Act) (hf:Fits N S a):(results fn a.tmps).run P w=.ok (.agg vs) w:=by
 have h1:=hf.get hg
 have h2:=iG (P:=P) (w:=w) hi ha hsz hc
 rw [Array.getD_eq_getD_getElem?] at h1
 unfold results
 rw [hr]
 simp [asAddr,h1,h2,Sem.run_bind]
theorem fP {fn:Func}{t u:Tmp}{ty:TypeId}{ti:TypeInfo}{b:Nat}{off:Nat}{vs:Array Value}{v2:Value}(hr:fn.results=#[.cell t ty,.tmp u]) (hg:S.get t=some (.pointer (some ⟨b,off,none⟩))) (hu:S.get u=some v2) (hi:P.info? ty=some ti) (ha:dU P ty=true) (hsz:vs.size=ti.size)
 (hc:∀ i,i<vs.size->w.cell? ((Addr.mk b off none).add i)=vs[i]?) (a:Act) (hf:Fits N S a):(results fn a.tmps).run P w=.ok (.tuple #[.agg vs,v2]) w:=by
 have h1:=hf.get hg
 have h3:=hf.get hu
 have h2:=iG (P:=P) (w:=w) hi ha hsz hc
 rw [Array.getD_eq_getD_getElem?] at h1 h3
 unfold results
 rw [hr]
 simp [asAddr,h1,h2,h3,Sem.run_bind]
theorem z7 {fn:Func}{t:Tmp}{ty:TypeId}{b:Nat}{off:Nat}{v:Value}(hr:fn.results=#[.cell t ty]) (hg:S.get t=some (.pointer (some ⟨b,off,none⟩))) (ha:dU P ty=false) (hu:(P.underlying ty).isSome=true)
 (hc:w.cell? ⟨b,off,none⟩=some v) (a:Act) (hf:Fits N S a):(results fn a.tmps).run P w=.ok v w:=by
 have h1:=hf.get hg
 obtain⟨d,hd⟩:=Option.isSome_iff_exists.1 hu
 have h3:(isAgg ty).run P w=.ok false w:=by
  simp only [dU,hd] at ha
  simp only [isAgg,Sem.run_bind,run_underlying hd,Result.andThen_ok]
  cases d<;>first|rfl|simp at ha
 have h2:(loadVar ty ⟨b,off,none⟩).run P w=.ok v w:=by
  simp only [loadVar,Sem.run_bind,h3,Result.andThen_ok,Bool.false_eq_true,if_false]
  simp [load,Sem.run,hc]
 rw [Array.getD_eq_getD_getElem?] at h1
 unfold results
 rw [hr]
 simp [asAddr,h1,h2,Sem.run_bind]
end
structure ff (P:Program) (t e:TypeId) (size bytes:Nat):Prop where
 y5:P.underlying t=some (.slice e)
 info:∃ ti z,P.info? e=some ti/\ti.zero=some z/\ti.size=size/\ti.bytes=bytes/\z.cells.size=size
 pos:0<size
structure dE {α:Type}(f:α->Array Value) (size:Nat):Prop where
 size:∀ x,(f x).size=size
 one:∀ x,(f x).toList.all Value.oneCell'=true
theorem dE.Bt {α:Type}{f:α->Array Value}{size:Nat}(h:dE f size):∀ x,∀ u∈(f x).toList,u.oneCell'=true:=λx u hu=>List.all_eq_true.1 (h.one x) u hu
section
variable {P : Program} {R0 : Exit -> Act -> World -> Prop} {N : Fr} {K : List dS} {S : Env} {w w0 : World} {l : List Oper} {M : List Nat} {A : cE} {rest : PT} {L : List aI}
def kP (S:Env) (o:Oper):Option (Builtin×List TypeId×List Value) :=
 match o.op with
 | .call c =>
  match c.callee,S.ops c.args.toList with
  | .builtin b,some vs=>some (b,c.argTypes.toList,vs)
  | _,_=>none
 | _=>none
theorem ir {a:Act}(hf:Fits N S a){o:Oper}{b:Builtin}{ts:List TypeId}{vs:List Value}(h:kP S o=some (b,ts,vs)) (w:World) :
 ∃ cs:Array Bool,(execOp a.eval o).run P w=(builtin b ts.toArray o.type cs vs.toArray).run P w:=by
 unfold kP at h
 split at h
 ·rename_i c hc
  split at h
  ·rename_i b' vs' h1 h2
   simp only [Option.some.injEq,Prod.mk.injEq] at h
   obtain⟨rfl,rfl,rfl⟩:=h
   have h3:=hf.ops h2
   have h4:c.args.map a.eval=vs'.toArray:=by
    rw [<- h3]
    apply Array.ext'
    simp
   generalize a.eval=ρ at h4 ⊢
   exact⟨_,by simp [execOp,hc,resolve,h1,h4,invoke];rfl⟩
  ·cases h
 ·cases h
theorem ar.append {α:Type}{i:Nat}{o:Oper}(ho:l[i]?=some o) (hw:cn l.toArray S o=some true){t e:TypeId}{size bytes:Nat}(he:ff P t e size bytes){f:α->Array Value}(hf:dE f size){ad:Option Addr}{c:Nat}{xs ys:List α}{adx:Option Addr}{cx:Nat}(d:α)
 (hb:kP S o=some (.append,[t,t],[.slice ad xs.length c,.slice adx ys.length cx])) (hs:St w0 (Sl ad c e size f xs::L) w) (hx:ag w adx ys.length size (λk=>f (ys.getD k d))) (hxn:adx=none->cx=0) (hlen:(xs.length+ys.length)*bytes<=140737488355328) (hlen2:xs.length+ys.length<=9223372036854775807)
 (h:∀ ad' c' w',St w0 (Sl ad' c' e size f (xs++ys)::L) w'->ba w' (opens M A i)/\ar P l M R0 K N A rest (S.cP o.dst (.slice ad' (xs++ys).length c')) w'):ar P l M R0 K N A (.ef i rest) S w:=by
 obtain⟨ti,z,h1,h2,h3,h4,h5⟩:=he.info
 obtain⟨ad',c',w',hr,hs'⟩:=ph (P:=P) (ty:=o.type) he.y5 h1 h2 h3 h4 h5 he.pos hf.size hf.Bt hs d hx hxn zS hlen
 obtain⟨k1,k2⟩:=h ad' c' w' hs'
 refine ar.run ho hw _ w' (λa hfit=>.inl ?_) k1 k2
 obtain⟨cs,hrun⟩:=ir (P:=P) hfit hb w
 rw [hrun]
 simp only [builtin,Sem.run_bind]
 rw [hr]
 rfl
def kQ (S:Env) (o:Oper):Option (TypeId×Nat×List (Nat×Value)) :=
 match o.op with
 | .buildSlice t n parts=>match S.ops (parts.toList.map (·.2)) with
  | some vs=>some (t,n,(parts.toList.map (·.1)).zip vs)
  | none=>none
 | _=>none
theorem ar.aW {i:Nat}{o:Oper}(ho:l[i]?=some o) (hw:cn l.toArray S o=some true){t e:TypeId}{n:Nat}{ps:List (Nat×Value)}(hl:kQ S o=some (t,n,ps)) (hu:P.underlying t=some (.slice e)){ti:TypeInfo}{z:Value}(hi:P.info? e=some ti) (hz:ti.zero=some z)
 (hsmall:n*ti.size<=16777216) (hpos:n*ti.size≠0){cs:Array Value}(hfill:Instr.fill (λi=>some (i*ti.size,ti.size)) ((Array.range (n*ti.size)).map (z.cells[· % z.cells.size]!)) ps=some cs) (hs:St w0 L w)
 (h:∀ b w',St w0 (ah b cs e::L) w'->w'.heap[b]?=some (.cells cs e (0,0))->ba w' (opens M A i)/\ar P l M R0 K N A rest (S.cP o.dst (.slice (some ⟨b,0,none⟩) n n)) w'):ar P l M R0 K N A (.ef i rest) S w:=by
 obtain⟨k1,k2⟩:=h _ _ (hs.il cs e) zG
 refine ar.run ho hw _ _ (λa hfit=>.inl ?_) k1 k2
 unfold kQ at hl
 split at hl
 ·rename_i t' n' parts hop
  split at hl
  ·rename_i vs hvs
   simp only [Option.some.injEq,Prod.mk.injEq] at hl
   obtain⟨rfl,rfl,rfl⟩:=hl
   have h3:=hfit.ops hvs
   have h4:(parts.map λ(i,x)=>(i,a.eval x)).toList=(parts.toList.map (·.1)).zip vs:=by
    rw [<- h3]
    simp only [Array.toList_map]
    generalize parts.toList=q
    induction q with
    | nil=>rfl
    | cons y q ih=>simp [ih]
   generalize a.eval=ρ at h4 ⊢
   have hns:¬ (n'*ti.size>2 ^ 24):=za
   simp only [execOp,hop,Instr.buildSlice,Sem.run_bind,run_underlying hu,Result.andThen_ok,sizeOf,typeInfo,run_program,hi,Sem.run_pure,hns,if_false,hpos,zeroValue,hz,h4,hfill,newRow,newObj]
   simp [Sem.run]
  ·cases hl
 ·cases hl
theorem ar.jY {i:Nat}{o:Oper}(ho:l[i]?=some o) (hw:cn l.toArray S o=some true){b:Bool}{t:TypeId}{xs ys:Array Value}{m:Nat}(he:uB S o=some (b,t,xs,ys)) (hg:P.eqGuardType P.depth t=false) (hm:m<=10000)
 (hok:okEq P m t (.agg xs) (.agg ys)=true){r:Bool}(hr:(if b then dv P m t (.agg xs) (.agg ys) else !(dv P m t (.agg xs) (.agg ys)))=r)
 (h:ar P l M R0 K N A rest (S.cP o.dst (.bool r)) w):ar P l M R0 K N A (.rd i rest) S w:=λhN a hf=>by
 subst hr
 refine⟨o,_,λ_=>True,by simpa using ho,.inl ⟨dC hf hw (eS hN),λw' _=>uC hf he hg hm hok w'⟩,trivial,?_⟩
 exact bO.iD i (λ_=>trivial) _ _ _ _ (h hN _ (hf.cP (dY hN i o (by simpa using ho)) _))
end
def EZ (P:Program) (e:TypeId) (cs:Array Value):Value:=if dU P e then .agg cs else cs.getD 0 undef
def Er (P:Program) (e:TypeId){α:Type}(f:α->Array Value):Nat->List α->List (Nat×Value)
 | _,[]=>[]
 | k,x::l=>(k,EZ P e (f x))::Er P e f (k+1) l
def EP (P:Program) (e:TypeId) (n:Nat) (ps:List (Nat×Value)):Option (Array Value) :=
 (P.info? e).bind λti=>ti.zero.bind λz=>if n*ti.size<=16777216/\n*ti.size≠0/\n<=16777216 then Instr.fill (λi=>some (i*ti.size,ti.size)) ((Array.range (n*ti.size)).map (z.cells[· % z.cells.size]!)) ps else none
def gO (l:List Oper) (i:Nat):Oper:=match l[i]? with
 | some o=>o
 | none=>(default:Oper)
theorem mr {l:List Oper}{i:Nat}(h:Nat.blt i l.length=true):l[i]?=some (gO l i):=by
 have h':=Nat.blt_eq.mp h
 unfold gO
 rw [List.getElem?_eq_getElem h']
abbrev Rw (w0:World) (L:List aI){α:Type}(f:α->Array Value) (n:Nat) (d:α) (ad:Option Addr) (l:List α):Prop:=∀ w,St w0 L w->ag w ad l.length n (λk=>f (l.getD k d))
abbrev Cs (P:Program) (f:FuncId) (args:Array Value) (w:World) (φ:Value->World->Prop):Prop:=Calls P f args w (aZ φ)
section
variable {P : Program} {R0 : Exit -> Act -> World -> Prop} {N : Fr} {K : List dS} {S : Env} {w w0 : World} {l : List Oper} {M : List Nat} {A : cE} {rest : PT} {L : List aI} {i : Nat} {o : Oper}
theorem sb {α:Type}{t e:TypeId}{size bytes:Nat}(he:ff P t e size bytes){f:α->Array Value}(hf:dE f size) (xs:List α) (hs:St w0 L w)
 (h:∀ b w',St w0 (Sl (some ⟨b,0,none⟩) xs.length e size f xs::L) w'->ba w' (opens M A i)/\ar P l M R0 K N A rest (S.cP (gO l i).dst (.slice (some ⟨b,0,none⟩) xs.length xs.length)) w')
 (hl:kQ S (gO l i)=some (t,xs.length,Er P e f 0 xs):=by kernel_rfl) (hfill:EP P e xs.length (Er P e f 0 xs)=some (xs.flatMap λx=>(f x).toList).toArray:=by kernel_rfl) (ho:Nat.blt i l.length=true:=by kernel_rfl) (hw:cn l.toArray S (gO l i)=some true:=by kernel_rfl):ar P l M R0 K N A (.ef i rest) S w:=by
 unfold EP at hfill
 cases hi:P.info? e with
 | none=>rw [hi] at hfill;cases hfill
 | some ti =>
  rw [hi] at hfill
  simp only [Option.bind_some] at hfill
  cases hz:ti.zero with
  | none=>rw [hz] at hfill;cases hfill
  | some z =>
   rw [hz] at hfill
   simp only [Option.bind_some] at hfill
   split at hfill
   ·rename_i hc
    refine ar.aW (mr ho) hw hl he.y5 hi hz hc.1 hc.2.1 hfill hs λb w' h1 h2=>h b w' (St.ey (l:=xs) (f:=f) h1 h2 hf.size ?_ ?_)
    ·exact Nat.le_trans hc.2.2 zf
    ·rfl
   ·cases hfill
theorem sd {α:Type}{t e:TypeId}{size bytes:Nat}(he:ff P t e size bytes){f:α->Array Value}(hf:dE f size) (d:α){ad:Option Addr}{c:Nat}{xs ys:List α}{b cx:Nat}{L:List aI}(hs:St w0 (Sl ad c e size f xs::Sl (some ⟨b,0,none⟩) cx e size f ys::L) w)
 (hlen:(xs.length+ys.length)*bytes<=140737488355328)
 (h:∀ ad' c' w',St w0 (Sl ad' c' e size f (xs++ys)::Sl (some ⟨b,0,none⟩) cx e size f ys::L) w'->ba w' (opens M A i)/\ar P l M R0 K N A rest (S.cP (gO l i).dst (.slice ad' (xs++ys).length c')) w')
 (hb:kP S (gO l i)=some (.append,[t,t],[.slice ad xs.length c,.slice (some ⟨b,0,none⟩) ys.length cx]):=by kernel_rfl) (h0:0<bytes:=by decide) (ho:Nat.blt i l.length=true:=by kernel_rfl) (hw:cn l.toArray S (gO l i)=some true:=by kernel_rfl):ar P l M R0 K N A (.ef i rest) S w :=
 ar.append (mr ho) hw he hf (adx:=some ⟨b,0,none⟩) (cx:=cx) d hb hs (hs.rows 1 rfl hf.size d) (λh=>nomatch h) hlen (by have:=Nat.le_mul_of_pos_right (xs.length+ys.length) h0;omega) h
theorem oX {T:TypeId}(cs:Array Value) (hs:St w0 L w) (h:∀ b w',St w0 (ah b cs T::L) w'->ba w' (opens M A i)/\ar P l M R0 K N A rest (S.cP (gO l i).dst (.pointer (some ⟨b,0,none⟩))) w')
 (hz:(P.info? T).bind (·.zero)=some (.agg cs):=by kernel_rfl) (ho:Nat.blt i l.length=true:=by kernel_rfl) (hop:(gO l i).op=.alloc T:=by exact rfl) (hw:cn l.toArray S (gO l i)=some true:=by kernel_rfl):ar P l M R0 K N A (.ef i rest) S w:=ar.alloc (mr ho) hop hw hz hs rfl h
theorem kR {T:TypeId}{x:Operand}(cs:Array Value) (hs:St w0 L w) (h:∀ b w',St w0 (ah b cs T::L) w'->ba w' (opens M A i)/\ar P l M R0 K N A rest (S.cP (gO l i).dst (.pointer (some ⟨b,0,none⟩))) w')
 (ho:Nat.blt i l.length=true:=by kernel_rfl) (hop:(gO l i).op=.box T x:=by exact rfl) (hw:cn l.toArray S (gO l i)=some true:=by kernel_rfl) (hx:S.op x=some (.agg cs):=by kernel_rfl):ar P l M R0 K N A (.ef i rest) S w:=ar.box (mr ho) hop hw hx hs rfl h
def Dt (P:Program) (t:TypeId) (cs:Array Value) (off:Nat):Value:=if dU P t then .agg (cs.extract off (off+((P.info? t).map (·.size)).getD 0)) else cs.getD off undef
theorem Zu {t:TypeId}{x y:Operand}(j off:Nat) (cs':Array Value) (hs:St w0 L w){b:Nat}{cs:Array Value}{T:TypeId}{L':List aI} [c_:uz L j b cs T cs' L']
 (h:∀ w',St w0 L' w'->ba w' (opens M A i)/\ar P l M R0 K N A rest (S.cP (gO l i).dst undef) w')
 (ho:Nat.blt i l.length=true:=by kernel_rfl) (hop:(gO l i).op=.store t x y:=by exact rfl) (hw:cn l.toArray S (gO l i)=some true:=by kernel_rfl)
 (hx:S.op x=some (.pointer (some ⟨b,off,none⟩)):=by kernel_rfl) (hy:S.op y=some (Dt P t cs' off):=by kernel_rfl)
 (hsz:(P.info? t).map (·.size)=some (Dt P t cs' off).cells.size:=by kernel_rfl) (h1:(Dt P t cs' off).cells.toList.all mV=true:=by kernel_rfl) (hoff:Nat.ble (off+(Dt P t cs' off).cells.size) cs.size=true:=by kernel_rfl)
 (hcs:bI cs off (Dt P t cs' off).cells.toList=cs':=by kernel_rfl):ar P l M R0 K N A (.ef i rest) S w:=by
 cases hi:P.info? t with
 | none=>rw [hi] at hsz;cases hsz
 | some ti =>
  rw [hi] at hsz
  exact ar.store (mr ho) hop hw hx hy hi hs j c_.at_ (Option.some.inj hsz).symm h1 (Nat.le_of_ble_eq_true hoff) hcs c_.Bq h
theorem gC (d:Nat) (b:Bool) (h1:b=true->ar P l M R0 K N A rest (S.set d (.bool true)) w) (h2:b=false->ar P l M R0 K N A rest (S.set d (.bool false)) w) (hd:d<N.n:=by exact Nat.le_of_ble_eq_true rfl) (hg:S.get d=some (.bool b):=by kernel_rfl):ar P l M R0 K N A rest S w:=by
 cases hb:b with
 | true=>exact ar.CD d true hd hg hb (h1 hb)
 | false=>exact ar.CD d false hd hg hb (h2 hb)
theorem Dj (d:Nat) (p:Prop) [Decidable p] (h1:p->ar P l M R0 K N A rest (S.set d (.bool true)) w) (h2:¬ p->ar P l M R0 K N A rest (S.set d (.bool false)) w) (hd:d<N.n:=by exact Nat.le_of_ble_eq_true rfl) (hg:S.get d=some (.bool (decide p)):=by kernel_rfl):ar P l M R0 K N A rest S w :=
 gC d (decide p) (λh=>h1 (of_decide_eq_true h)) (λh=>h2 (of_decide_eq_false h)) hd hg
theorem Zc {c:Call}{f:FuncId}{args:Array Value}{φ:Value->World->Prop}(spec:Calls P f args w (aZ φ)) (h:∀ v w',φ v w'->ba w' (opens M A i)/\ar P l M R0 K N A rest (S.cP (gO l i).dst v) w')
 (hcall:∀ args w,(callFunc f args).run P w=.ok (.enter f args) w:=by exact λ_ _=>by kernel_rfl) (ho:Nat.blt i l.length=true:=by kernel_rfl) (hop:(gO l i).op=.call c:=by exact rfl) (hw:cn l.toArray S (gO l i)=some true:=by kernel_rfl) (hc:ik S c=some (f,args):=by kernel_rfl):ar P l M R0 K N A (.ef i rest) S w :=
 ar.call (mr ho) hop hw hc hcall spec h
theorem sv {c:Call}{f:FuncId}{args:Array Value}{v:Value}{Q:World->Prop}(spec:Calls P f args w (aZ λrv w'=>rv=v/\Q w')) (h:∀ w',Q w'->ba w' (opens M A i)/\ar P l M R0 K N A rest (S.cP (gO l i).dst v) w')
 (hcall:∀ args w,(callFunc f args).run P w=.ok (.enter f args) w:=by exact λ_ _=>by kernel_rfl) (ho:Nat.blt i l.length=true:=by kernel_rfl) (hop:(gO l i).op=.call c:=by exact rfl) (hw:cn l.toArray S (gO l i)=some true:=by kernel_rfl) (hc:ik S c=some (f,args):=by kernel_rfl):ar P l M R0 K N A (.ef i rest) S w :=
 ar.call (mr ho) hop hw hc hcall spec λ_ w' q=>q.1▸h w' q.2
theorem qV (h:ar P l M R0 K N A rest (S.cP (gO l i).dst undef) w) (ho:Nat.blt i l.length=true:=by kernel_rfl) (hw:cn l.toArray S (gO l i)=some false:=by kernel_rfl) (h0:opens M A i=[]:=by kernel_rfl):ar P l M R0 K N A (.ef i rest) S w:=ar.skip (mr ho) hw (Di h0) h
theorem uD {a b:Bool}{Q:Prop}(e:a=b) (h:Q):Value.bool b=.bool a/\Q:=⟨by rw [e],h⟩
theorem gZ {hh:List (Nat×Hint)}{aa:cE}(a n:Nat) (q:HA w hh aa) (h3:ar P l M R0 K N (aa.reverse++A) rest (rZ P l.toArray (Bp hh a n) S) w) (h1:xG P l.toArray (Bp hh a n) S=some aa:=by kernel_rfl):ar P l M R0 K N A (zY a n rest) S w:=Zp a n hh aa q h3 h1
theorem Bu {n:Nat}{fn:Func}{φ:Value->World->Prop}{e:Exit}{t:Tmp}{ty:TypeId}{b:Nat}{cs:Array Value}(j:Nat) (hs:St w0 L w) [c:nE L j b cs] (h:φ (.agg cs) w) (he:e=.ret\/e=.normal:=by first|exact .inl rfl|exact .inr rfl) (hr:fn.results=#[.cell t ty]:=by exact rfl) (hg:S.get t=some (.pointer (some ⟨b,0,none⟩)):=by kernel_rfl)
 (hi:(P.info? ty).map (·.size)=some cs.size:=by kernel_rfl) (ha:dU P ty=true:=by kernel_rfl) (hc:cs.extract 0 (0+cs.size)=cs:=by kernel_rfl):aw P (bodyPost P fn (aZ φ)) ⟨n,[],none⟩ [] e S w:=by
 obtain⟨T,hj⟩:=c.at_
 cases hi':P.info? ty with
 | none=>rw [hi'] at hi;cases hi
 | some ti =>
  rw [hi'] at hi
  exact aw.done he (λa hf=>ct hr hg hi' ha (Option.some.inj hi).symm (hs.cells j 0 hj hc) a hf) h
theorem Cf {n:Nat}{fn:Func}{φ:Value->World->Prop}{e:Exit}{t u:Tmp}{ty:TypeId}{b:Nat}{cs:Array Value}(j:Nat) (v2:Value) (hs:St w0 L w) [c:nE L j b cs] (h:φ (.tuple #[.agg cs,v2]) w) (he:e=.ret\/e=.normal:=by first|exact .inl rfl|exact .inr rfl) (hr:fn.results=#[.cell t ty,.tmp u]:=by exact rfl) (hg:S.get t=some (.pointer (some ⟨b,0,none⟩)):=by kernel_rfl) (hu:S.get u=some v2:=by kernel_rfl)
 (hi:(P.info? ty).map (·.size)=some cs.size:=by kernel_rfl) (ha:dU P ty=true:=by kernel_rfl) (hc:cs.extract 0 (0+cs.size)=cs:=by kernel_rfl):aw P (bodyPost P fn (aZ φ)) ⟨n,[],none⟩ [] e S w:=by
 obtain⟨T,hj⟩:=c.at_
 cases hi':P.info? ty with
 | none=>rw [hi'] at hi;cases hi
 | some ti =>
  rw [hi'] at hi
  exact aw.done he (λa hf=>fP hr hg hu hi' ha (Option.some.inj hi).symm (hs.cells j 0 hj hc) a hf) h
def Es (l:List Oper):List Nat:=(List.range l.length).foldl (λM i=>M++[(iU l.toArray i).foldl (λa j=>a ||| (1 <<< j) ||| M.getD j 0) 0]) []
theorem ZD {id:Nat}(p:PT) (hs:St w0 L w) (h:∀ w1,St w0 L w1->w1.heap=w.heap->ar P l (Es l) R0 K N [] p S w1) (hm:P.follows .mixedOrders=true:=by kernel_rfl) (hok:qM l.toArray (Es l) p=true:=by kernel_rfl) (hR:ny R0:=by exact ai) (hN:hY N l.toArray=true:=by kernel_rfl):aE P R0 N K (.region id l.toArray true) S w :=
 aE.aV (Es l) p hm hok hR hN hs h
theorem Et {α:Type}{ad:Option Addr}{c size:Nat}{e:TypeId}{f:α->Array Value}{xs ys:List α}(hs:St w0 (Sl ad c e size f xs::L) w) (h:xs=ys):St w0 (Sl ad c e size f ys::L) w:=h▸hs
theorem Lq {k:Bool}{id:Nat}{y:Code}(h:Pb (k && (CH N l (dT 0 l.length []) && (Br P l.toArray (kG [] (dT 0 l.length []).lead) S && (dT 0 l.length []).cut.isDone))) (aE P R0 N K y (rZ P l.toArray (kG [] (dT 0 l.length []).lead) S) w)):Pb k (aE P R0 N K (.seq (.region id l.toArray false) y) S w):=Ls (La (Lt h))
theorem Lz {y:Code}{p:PT}(h:Pb ((opens M A i).isEmpty && (Br P l.toArray (kG [] p.lead) S && p.cut.isDone)) (aE P R0 N K y (rZ P l.toArray (kG [] p.lead) S) w)):ba w (opens M A i)/\ar P l M R0 (.code y::K) N A p S w:=Lo (aL (Lt h))
theorem Lw {k:Bool}{p:PT}(h:ar P l M R0 K N A p.cut (rZ P l.toArray (kG [] p.lead) S) w) (hk:(k && Br P l.toArray (kG [] p.lead) S)=true:=by kernel_rfl):Pb k (ar P l M R0 K N A p S w):=Lu (Dz h hk)
end
end Go.Sx
namespace Go.Sx
open Go.RowKit
set_option linter.unusedVariables false
set_option linter.unusedSimpArgs false
set_option linter.unusedSectionVars false
def fh {α β:Type}(ek:α->Value) (ev:β->Value) (m:List ((α×β)×Nat)):Array MapEntry:=(m.map λx=>({ key:=ek x.1.1,val:=ev x.1.2,born:=x.2 }:MapEntry)).toArray
def posOf {α β:Type} [DecidableEq α] (m:List ((α×β)×Nat)) (k:α):Nat->Option (Nat×β)
 | i=>match m with
  | []=>none
  | x::m=>if x.1.1=k then some (i,x.1.2) else posOf m k (i+1)
structure dI (P:Program) (T:TypeId){α β:Type} [DecidableEq α] (ek:α->Value) (ev:β->Value) (K E:TypeId):Prop where
 y5:P.underlying T=some (.map K E)
 find:∀ (k:α) (w:World) (m:List ((α×β)×Nat)),(Instr.findKey K (ek k) (fh ek ev m).toList).run P w=.ok ((posOf m k 0).map λx=>(x.1,ev x.2)) w
 bits:∀ a,Instr.sameBits 10000 (ek a) (ek a)=true
 key:∀ em a (w:World),(Instr.checkKey em 10000 K (ek a)).run P w=.ok () w
theorem dI.now {P:Program}{T:TypeId}{α β:Type} [DecidableEq α] {ek:α->Value}{ev:β->Value}{K E:TypeId}(y5:P.underlying T=some (.map K E))
 (same:∃ d,P.underlying K=some d/\(∀ a b,Instr.sameNow d (ek a) (ek b)=some (decide (a=b)))/\((∃ k,d=.int k)\/d=.string\/d=.bool))
 (bits:∀ a,Instr.sameBits 10000 (ek a) (ek a)=true) (key:∀ em a (w:World),(Instr.checkKey em 10000 K (ek a)).run P w=.ok () w):dI P T ek ev K E:=by
 refine⟨y5,λk w m=>?_,bits,key⟩
 obtain⟨d,h1,h2,h3⟩:=same
 have key:∀ (m:List ((α×β)×Nat)) (i:Nat),Instr.findNow d (ek k) (fh ek ev m).toList i=some ((posOf m k i).map λx=>(x.1,ev x.2)):=by
  intro m
  induction m with
  | nil=>intro i;rfl
  | cons x m ih =>
   intro i
   have e1:(fh ek ev (x::m)).toList=({ key:=ek x.1.1,val:=ev x.1.2,born:=x.2 }:MapEntry)::(fh ek ev m).toList:=by simp [fh]
   rw [e1]
   simp only [Instr.findNow,h2]
   by_cases hx:k=x.1.1
   ·subst hx
    simp [posOf]
   ·have hx':¬ x.1.1=k:=λe=>hx e.symm
    simp only [decide_eq_false hx,ih,posOf,if_neg hx']
 simp only [Instr.findKey,Sem.run_bind,run_underlying h1,Result.andThen_ok,key,Sem.run_pure]
theorem dI.ask {P:Program}{T:TypeId}{α β:Type} [DecidableEq α] {ek:α->Value}{ev:β->Value}{K E:TypeId}(y5:P.underlying T=some (.map K E))
 {d:TypeDesc}(hd:P.underlying K=some d) (hno:∀ a b,Instr.sameNow d (ek a) (ek b)=none) (he:∀ a b (w:World),(Op.equal K (ek a) (ek b)).run P w=.ok (decide (a=b)) w)
 (bits:∀ a,Instr.sameBits 10000 (ek a) (ek a)=true) (key:∀ em a (w:World),(Instr.checkKey em 10000 K (ek a)).run P w=.ok () w):dI P T ek ev K E:=by
 refine⟨y5,λk w m=>?_,bits,key⟩
 have ask:∀ (m:List ((α×β)×Nat)) (i:Nat),(Instr.findAsking K (ek k) (fh ek ev m).toList i).run P w=.ok ((posOf m k i).map λx=>(x.1,ev x.2)) w:=by
  intro m
  induction m with
  | nil=>intro i;rfl
  | cons x m ih =>
   intro i
   have e1:(fh ek ev (x::m)).toList=({ key:=ek x.1.1,val:=ev x.1.2,born:=x.2 }:MapEntry)::(fh ek ev m).toList:=by simp [fh]
   rw [e1]
   simp only [Instr.findAsking,Sem.run_bind,he,Result.andThen_ok]
   by_cases hx:k=x.1.1
   ·subst hx
    simp [posOf,Sem.run_pure]
   ·have hx':¬ x.1.1=k:=λe=>hx e.symm
    simp only [decide_eq_false hx,Bool.false_eq_true,if_false,ih,posOf,if_neg hx']
 cases m with
 | nil=>simp only [Instr.findKey,Sem.run_bind,run_underlying hd,Result.andThen_ok,fh,List.map_nil,Instr.findNow,Sem.run_pure];rfl
 | cons x m =>
  have e1:(fh ek ev (x::m)).toList=({ key:=ek x.1.1,val:=ev x.1.2,born:=x.2 }:MapEntry)::(fh ek ev m).toList:=by simp [fh]
  have:=ask (x::m) 0
  rw [e1] at this ⊢
  simp only [Instr.findKey,Sem.run_bind,run_underlying hd,Result.andThen_ok,Instr.findNow,hno]
  exact this
section
variable {α β : Type} [DecidableEq α] {ek : α -> Value} {ev : β -> Value}
structure jZ (ek:α->Value) (ev:β->Value) (r:Nat) (m:List (α×β)) (x:List ((α×β)×Nat)) (clk:Nat) (w:World):Prop where
 oW:w.heap[r]?=some (.map (fh ek ev x) clk)
 eq:x.map (λy:(α×β)×Nat=>y.1)=m
 lt:∀ y∈x,y.2<clk
 once:(x.map (λy:(α×β)×Nat=>y.2)).Nodup
 apart:(m.map (λy:α×β=>y.1)).Nodup
theorem jZ.mono {r:Nat}{m:List (α×β)}{x:List ((α×β)×Nat)}{clk:Nat}{w w':World}(h:jZ ek ev r m x clk w) (e:w'.heap[r]?=w.heap[r]?):jZ ek ev r m x clk w':=⟨e.trans h.oW,h.eq,h.lt,h.once,h.apart⟩
def bC (ek:α->Value) (ev:β->Value) (r:Nat) (m:List (α×β)):aI :=
 ⟨λk=>k=r,λw=>∃ (x:List ((α×β)×Nat)) (clk:Nat),jZ ek ev r m x clk w,λw w' h ⟨x,clk,h1⟩=>⟨x,clk,h1.mono (h r rfl)⟩⟩
def Cg (ek:α->Value) (ev:β->Value) (r it:Nat) (m done:List (α×β)):aI :=
 ⟨λk=>k=r\/k=it,λw=>r≠it/\∃ (x y:List ((α×β)×Nat)) (clk:Nat),jZ ek ev r m x clk w/\w.heap[it]?=some (.mapIter (some r) clk (y.map (λz:(α×β)×Nat=>z.2)).toArray clk) /\
  y.map (λz:(α×β)×Nat=>z.1)=done/\(∀ z∈y,z∈x)/\(y.map (λz:(α×β)×Nat=>z.2)).Nodup,
  λw w' h ⟨h0,x,y,clk,h1,h2,h3⟩=>⟨h0,x,y,clk,h1.mono (h r (.inl rfl)),(h it (.inr rfl)).trans h2,h3⟩⟩
def cT (m:List (α×β)) (k:α):Option β:=(m.find? λx=>decide (x.1=k)).map (·.2)
def dj:List (α×β)->α->β->List (α×β)
 | [],k,v=>[(k,v)]
 | x::m,k,v=>if x.1=k then (k,v)::m else x::dj m k v
def nG:List (α×β)->α->List (α×β)
 | [],_=>[]
 | x::m,k=>if x.1=k then m else x::nG m k
theorem pR (k:α) (v:β):∀ m:List (α×β),∀ q,q∈(dj m k v).map (λy:α×β=>y.1)↔q=k\/q∈m.map (λy:α×β=>y.1)
 | [],q=>by simp [dj]
 | x::m,q=>by
  by_cases h:x.1=k
  ·subst h
   simp only [dj,if_true,List.map_cons,List.mem_cons]
   constructor
   ·rintro(h1|h1)
    ·exact .inl h1
    ·exact .inr (.inr h1)
   ·rintro(h1|h1|h1)
    ·exact .inl h1
    ·exact .inl h1
    ·exact .inr h1
  ·simp only [dj,if_neg h,List.map_cons,List.mem_cons,pR k v m q]
   constructor
   ·rintro(h1|h1|h1)
    ·exact .inr (.inl h1)
    ·exact .inl h1
    ·exact .inr (.inr h1)
   ·rintro(h1|h1|h1)
    ·exact .inr (.inl h1)
    ·exact .inl h1
    ·exact .inr (.inr h1)
theorem ko (k:α) (v:β):∀ m:List (α×β),(m.map (λy:α×β=>y.1)).Nodup->((dj m k v).map (λy:α×β=>y.1)).Nodup
 | [],_=>by simp [dj]
 | x::m,h=>by
  simp only [List.map_cons,List.nodup_cons] at h
  by_cases hx:x.1=k
  ·simp only [dj,if_pos hx,List.map_cons,List.nodup_cons]
   exact⟨hx▸h.1,h.2⟩
  ·simp only [dj,if_neg hx,List.map_cons,List.nodup_cons,pR]
   exact⟨λhq=>hq.elim hx h.1,ko k v m h.2⟩
theorem sw (k:α):∀ m:List (α×β),(nG m k).Sublist m
 | []=>List.Sublist.refl _
 | x::m=>by
  by_cases hx:x.1=k
  ·simp only [nG,if_pos hx];exact List.sublist_cons_self ..
  ·simp only [nG,if_neg hx];exact(sw k m).cons_cons x
variable {P : Program} {T K E : TypeId}
theorem run_checkKey (h:dI P T ek ev K E) (em:Bool) (k:α) (w:World):(Instr.checkKey em 10000 K (ek k)).run P w=.ok () w:=h.key em k w
theorem run_findKey (h:dI P T ek ev K E) (k:α) (w:World) (m:List ((α×β)×Nat)):(Instr.findKey K (ek k) (fh ek ev m).toList).run P w=.ok ((posOf m k 0).map λx=>(x.1,ev x.2)) w:=h.find k w m
theorem pS (k:α):∀ (m:List ((α×β)×Nat)) (i:Nat),(posOf m k i).map (·.2)=cT (m.map (·.1)) k
 | [],_=>rfl
 | x::m,i=>by
  by_cases hx:x.1.1=k
  ·simp [posOf,cT,hx]
  ·have ih:=pS k m (i+1)
   simp only [posOf,if_neg hx,ih,cT,List.map_cons,List.find?_cons,decide_eq_false hx]
end
section
variable {P : Program} {R0 : Exit -> Act -> World -> Prop} {N : Fr} {Kk : List dS} {S : Env} {w w0 : World} {l : List Oper} {M : List Nat} {A : cE} {rest : PT} {L : List aI}
variable {α β : Type} [DecidableEq α] {ek : α -> Value} {ev : β -> Value} {T K E : TypeId}
theorem ar.makeMap {i:Nat}{o:Oper}{t:TypeId}(ho:l[i]?=some o) (hop:o.op=.makeMap t none) (hw:cn l.toArray S o=some true) (ek:α->Value) (ev:β->Value) (hs:St w0 L w)
 (h:∀ r w',St w0 (bC ek ev r []::L) w'->ba w' (opens M A i)/\ar P l M R0 Kk N A rest (S.cP o.dst (.map (some r))) w'):ar P l M R0 Kk N A (.ef i rest) S w:=by
 have hn:=hs.ux (.map #[] 0)
 have hc:St w0 (bC ek ev w.heap.size []::L) { w with heap:=w.heap.push (.map #[] 0) }:=hn.conv (λh1=>⟨[],0,h1,rfl,by simp,by simp,by simp⟩) (λb hb=>hb)
 obtain⟨k1,k2⟩:=h _ _ hc
 refine ar.run ho hw _ _ (λa hf=>.inl ?_) k1 k2
 simp [execOp,hop,Instr.makeMap,newObj,Sem.run,Sem.run_bind]
def sx (S:Env) (o:Oper):Option (TypeId×Value×Value×Bool) :=
 match o.op with
 | .lookup t x i ok=>match S.op x,S.op i with
  | some m,some k=>some (t,m,k,ok)
  | _,_=>none
 | _=>none
theorem ar.lookup {i:Nat}{o:Oper}(ho:l[i]?=some o) (hw:cn l.toArray S o=some true) (hl:dI P T ek ev K E){r:Nat}{k:α}{ok:Bool}(ha:sx S o=some (T,.map (some r),ek k,ok)) (hs:St w0 L w) (j:Nat){m:List (α×β)}(hj:L[j]?=some (bC ek ev r m))
 {z:Value}(hz:(P.info? E).bind (·.zero)=some z){v:Value}(hv:(if ok then .tuple #[((cT m k).map ev).getD z,.bool (cT m k).isSome] else ((cT m k).map ev).getD z)=v)
 (h:ar P l M R0 Kk N ((i,[.holds (bC ek ev r m).holds])::A) rest (S.cP o.dst v) w):ar P l M R0 Kk N A (.rd i rest) S w:=by
 subst hv
 refine ar.read ho hw [.holds (bC ek ev r m).holds] _ (λa w' hf hn=>?_) ⟨hs.at_ j hj,trivial⟩ h
 obtain⟨x,clk,hb,rfl,-⟩:=hn.1
 have hg:(getObj r).run P w'=.ok (.map (fh ek ev x) clk) w':=by simp [getObj,Sem.run,hb]
 cases hei:P.info? E with
 | none=>rw [hei] at hz;cases hz
 | some ei =>
 rw [hei] at hz
 simp only [Option.bind_some] at hz
 unfold sx at ha
 split at ha
 ·rename_i t' x' i' ok' hop
  split at ha
  ·rename_i m' k' h1 h2
   simp only [Option.some.injEq,Prod.mk.injEq] at ha
   obtain⟨rfl,rfl,rfl,rfl⟩:=ha
   have h1':=hf.op h1
   have h2':=hf.op h2
   generalize a.eval=ρ at h1' h2' ⊢
   simp only [execOp,hop,h1',h2',Instr.lookup,Sem.run_bind,run_underlying hl.y5,Result.andThen_ok,hg,Sem.run_pure,run_checkKey hl,run_findKey hl]
   rw [<- pS k x 0]
   cases hp:posOf x k 0 with
   | none =>
    simp only [Option.map_none,zeroValue,typeInfo,run_program,Sem.run_bind,Result.andThen_ok,hei,hz,Sem.run_pure,Option.getD_none,Option.isSome_none]
   | some q =>
    simp only [Option.map_some,Sem.run_pure,Result.andThen_ok,Option.getD_some,Option.isSome_some]
    cases ok' <;> rfl
  ·cases ha
 ·cases ha
end
end Go.Sx
namespace Go.Sx
open Go.RowKit
open Go.ChangeMaps (setBlock)
set_option linter.unusedVariables false
set_option linter.unusedSimpArgs false
set_option linter.unusedSectionVars false
section
variable {α β : Type} [DecidableEq α] {ek : α -> Value} {ev : β -> Value}
theorem nH (x:List ((α×β)×Nat)) (j:Nat):(fh ek ev x)[j]?=x[j]?.map λy=>({ key:=ek y.1.1,val:=ev y.1.2,born:=y.2 }:MapEntry):=by simp [fh]
theorem xJ (x:List ((α×β)×Nat)) (k:α) (v:β) (b:Nat):(fh ek ev x).push { key:=ek k,val:=ev v,born:=b }=fh ek ev (x++[((k,v),b)]):=by simp [fh]
theorem sy (x:List ((α×β)×Nat)) (j:Nat) (f:MapEntry->MapEntry) (g:((α×β)×Nat)->((α×β)×Nat)) (h:∀ y,x[j]?=some y->f { key:=ek y.1.1,val:=ev y.1.2,born:=y.2 }={ key:=ek (g y).1.1,val:=ev (g y).1.2,born:=(g y).2 }) :
 (fh ek ev x).modify j f=fh ek ev (x.modify j g):=by
 apply Array.ext_getElem?
 intro i
 rw [Array.getElem?_modify,nH,nH,List.getElem?_modify]
 by_cases hij:j=i
 ·subst hij
  simp only [if_true]
  cases hx:x[j]? with
  | none=>rfl
  | some y=>simp [h y hx]
 ·simp only [if_neg hij]
  cases x[i]? <;> rfl
theorem nJ (k:α) (v:β):∀ (x:List ((α×β)×Nat)) (i:Nat),posOf x k i=none->dj (x.map (λy:(α×β)×Nat=>y.1)) k v=x.map (λy:(α×β)×Nat=>y.1)++[(k,v)]/\nG (x.map (λy:(α×β)×Nat=>y.1)) k=x.map (λy:(α×β)×Nat=>y.1)/\cT (x.map (λy:(α×β)×Nat=>y.1)) k=none
 | [],_,_=>⟨rfl,rfl,rfl⟩
 | x::m,i,h=>by
  by_cases hx:x.1.1=k
  ·simp [posOf,hx] at h
  ·simp only [posOf,if_neg hx] at h
   obtain⟨h1,h2,h3⟩:=nJ k v m (i+1) h
   simp only [cT] at h3
   simp only [List.map_cons,dj,nG,cT,if_neg hx,h1,h2,List.find?_cons,decide_eq_false hx,h3,List.cons_append,and_self]
theorem nK (k:α) (v:β):∀ (x:List ((α×β)×Nat)) (i j:Nat) (u:β),posOf x k i=some (j,u)->∃ d s,j=i+d/\x[d]?=some ((k,u),s)/\dj (x.map (λy:(α×β)×Nat=>y.1)) k v=(x.modify d λy=>((k,v),y.2)).map (λy:(α×β)×Nat=>y.1) /\
 nG (x.map (λy:(α×β)×Nat=>y.1)) k=(x.eraseIdx d).map (λy:(α×β)×Nat=>y.1)/\cT (x.map (λy:(α×β)×Nat=>y.1)) k=some u
 | [],_,_,_,h=>by simp [posOf] at h
 | x::m,i,j,u,h=>by
  by_cases hx:x.1.1=k
  ·subst hx
   simp only [posOf,if_true,Option.some.injEq,Prod.mk.injEq] at h
   obtain⟨rfl,rfl⟩:=h
   exact⟨0,x.2,rfl,rfl,by simp [dj],by simp [nG],by simp [cT]⟩
  ·simp only [posOf,if_neg hx] at h
   obtain⟨d,s,h1,h2,h3,h4,h5⟩:=nK k v m (i+1) j u h
   simp only [cT] at h5
   refine⟨d+1,s,za,by simpa using h2,?_,?_,?_⟩
   ·simp only [List.map_cons,dj,if_neg hx,h3,List.modify_succ_cons]
   ·simp only [List.map_cons,nG,if_neg hx,h4,List.eraseIdx_cons_succ]
   ·simp only [cT,List.map_cons,List.find?_cons,decide_eq_false hx,h5]
theorem kS (x:List ((α×β)×Nat)) (d:Nat) (k:α) (v:β):(x.modify d λy=>((k,v),y.2)).map (λy:(α×β)×Nat=>y.2)=x.map (λy:(α×β)×Nat=>y.2):=by
 apply List.ext_getElem?
 intro i
 simp only [List.getElem?_map,List.getElem?_modify]
 by_cases h:d=i
 ·subst h;cases x[d]? <;> simp
 ·simp [h]
variable {P : Program} {T K E : TypeId} {w w0 : World} {L : List aI} {r : Nat} {m : List (α × β)}
theorem nL {es:Array MapEntry}{clock:Nat}(o:Obj) (hb:w.heap[r]?=some (.map es clock)):(setObj r o).run P w=.ok () (setBlock w r o):=by simp [setObj,Sem.run,hb,setBlock]
theorem St.z8 {A':aI}(hs:St w0 (bC ek ev r m::L) w){o:Obj}(hA:A'.holds (setBlock w r o)) (hown:∀ b,A'.own b->b=r):St w0 (A'::L) (setBlock w r o):=by
 have hlt:r<w.heap.size:=hs.lt _ (List.mem_cons_self ..) r rfl
 refine St.step hs rfl rfl rfl (by simp [setBlock]) (λb hb hn=>?_) hA (λb hb=>⟨.inl (hown b hb),by rw [hown b hb];simpa [setBlock] using hlt⟩)
 simp only [setBlock,Array.getElem?_setIfInBounds]
 rw [if_neg (λe=>hn e.symm)]
theorem jZ.Bn {x:List ((α×β)×Nat)}{clk:Nat}(h:jZ ek ev r m x clk w) (k:α) (v:β) (hlt:r<w.heap.size) :
 (∃ d u s,posOf x k 0=some (d,u)/\x[d]?=some ((k,u),s)/\jZ ek ev r (dj m k v) (x.modify d λy=>((k,v),y.2)) clk (setBlock w r (.map (fh ek ev (x.modify d λy=>((k,v),y.2))) clk))/\((k,v),s)∈(x.modify d λy=>((k,v),y.2))/\cT m k=some u /\
  jZ ek ev r (nG m k) (x.eraseIdx d) clk (setBlock w r (.map (fh ek ev (x.eraseIdx d)) clk))) \/
 (posOf x k 0=none/\jZ ek ev r (dj m k v) (x++[((k,v),clk)]) (clk+1) (setBlock w r (.map (fh ek ev (x++[((k,v),clk)])) (clk+1)))/\cT m k=none/\nG m k=m):=by
 obtain⟨hb,rfl,h1,h2,h3⟩:=h
 have hset:∀ o,(setBlock w r o).heap[r]?=some o:=λo=>by simp [setBlock,hlt]
 cases hp:posOf x k 0 with
 | none =>
  obtain⟨e1,e2,e3⟩:=nJ k v x 0 hp
  refine .inr ⟨rfl,⟨hset _,by rw [e1];simp,?_,?_,ko k v _ h3⟩,e3,e2⟩
  ·intro y hy
   rcases List.mem_append.1 hy with hy|hy
   ·have:=h1 y hy;omega
   ·simp only [List.mem_singleton] at hy;subst hy;simp
  ·rw [List.map_append,List.nodup_append]
   refine⟨h2,by simp,?_⟩
   intro a ha b hb' e
   simp only [List.map_cons,List.map_nil,List.mem_singleton] at hb'
   subst hb' e
   obtain⟨y,hy,rfl⟩:=List.mem_map.1 ha
   have:=h1 y hy
   omega
 | some q =>
  obtain⟨j,u⟩:=q
  obtain⟨d,s,hd,e1,e2,e3,e4⟩:=nK k v x 0 j u hp
  have hd':j=d:=za
  subst hd'
  have hsub:(x.eraseIdx j).Sublist x:=List.eraseIdx_sublist ..
  refine .inl ⟨j,u,s,rfl,e1,⟨hset _,e2.symm,?_,by rw [kS];exact h2,ko k v _ h3⟩,?_,e4,⟨hset _,e3.symm,λy hy=>h1 y (hsub.subset hy),h2.sublist (hsub.map _),h3.sublist ((sw k _).map _)⟩⟩
  ·intro y hy
   have hm:y.2∈(x.modify j λy=>((k,v),y.2)).map (λy:(α×β)×Nat=>y.2):=List.mem_map.2 ⟨y,hy,rfl⟩
   rw [kS] at hm
   obtain⟨z,hz,hz'⟩:=List.mem_map.1 hm
   have:=h1 z hz
   omega
  ·refine List.mem_of_getElem? (i:=j) ?_
   rw [List.getElem?_modify,e1]
   simp
theorem qW (h:dI P T ek ev K E){x:List ((α×β)×Nat)}{d:Nat}{k:α}{u:β}{s:Nat}(e:x[d]?=some ((k,u),s)):(Instr.keyThatStays ((((fh ek ev x)[d]?).map (·.key)).getD (ek k)) (ek k)).run P w=.ok (ek k) w:=by
 rw [nH,e]
 simp only [Option.map_some,Option.getD_some,Instr.keyThatStays,h.bits,if_true,Sem.run_pure]
end
section
variable {P : Program} {R0 : Exit -> Act -> World -> Prop} {N : Fr} {Kk : List dS} {S : Env} {w w0 : World} {l : List Oper} {M : List Nat} {A : cE} {rest : PT} {L : List aI}
variable {α β : Type} [DecidableEq α] {ek : α -> Value} {ev : β -> Value} {T K E : TypeId}
def wK (S:Env) (o:Oper):Option (TypeId×Value×Value×Value) :=
 match o.op with
 | .mapUpdate t x i y=>match S.op x,S.op i,S.op y with
  | some m,some k,some v=>some (t,m,k,v)
  | _,_,_=>none
 | _=>none
theorem ka (hl:dI P T ek ev K E){r:Nat}{k:α}{v:β}{m:List (α×β)}(hs:St w0 (bC ek ev r m::L) w) :
 ∃ w',(Instr.mapUpdate T (.map (some r)) (ek k) (ev v)).run P w=.ok () w'/\St w0 (bC ek ev r (dj m k v)::L) w':=by
 obtain⟨x,clk,h⟩:=hs.holds _ (List.mem_cons_self ..)
 have hlt:r<w.heap.size:=hs.lt _ (List.mem_cons_self ..) r rfl
 have hb:=h.oW
 have hg:(getObj r).run P w=.ok (.map (fh ek ev x) clk) w:=by simp [getObj,Sem.run,hb]
 rcases h.Bn k v hlt with⟨d,u,s,hp,hx,h1,h2,h3,h4⟩|⟨hp,h1,h2,h3⟩
 ·refine⟨_,?_,St.z8 (A':=bC ek ev r (dj m k v)) (o:=.map (fh ek ev (x.modify d λy=>((k,v),y.2))) clk) hs ⟨_,_,h1⟩ (λb hb=>hb)⟩
  simp only [Instr.mapUpdate,Sem.run_bind,run_underlying hl.y5,Result.andThen_ok,hg,run_checkKey hl,run_findKey hl,hp,Option.map_some,qW hl hx,nL _ hb]
  rw [sy (ek:=ek) (ev:=ev) x d _ (λy=>((k,v),y.2)) (λy hy=>rfl)]
 ·refine⟨_,?_,St.z8 (A':=bC ek ev r (dj m k v)) (o:=.map (fh ek ev (x++[((k,v),clk)])) (clk+1)) hs ⟨_,_,h1⟩ (λb hb=>hb)⟩
  simp only [Instr.mapUpdate,Sem.run_bind,run_underlying hl.y5,Result.andThen_ok,hg,run_checkKey hl,run_findKey hl,hp,Option.map_none,nL _ hb,xJ]
theorem ar.mapUpdate {i:Nat}{o:Oper}(ho:l[i]?=some o) (hw:cn l.toArray S o=some true) (hl:dI P T ek ev K E){r:Nat}{k:α}{v:β}(ha:wK S o=some (T,.map (some r),ek k,ev v)) (hs:St w0 L w) (j:Nat){m:List (α×β)}(hj:L[j]?=some (bC ek ev r m))
 (h:∀ w',St w0 (bC ek ev r (dj m k v)::L.eraseIdx j) w'->ba w' (opens M A i)/\ar P l M R0 Kk N A rest (S.cP o.dst undef) w'):ar P l M R0 Kk N A (.ef i rest) S w:=by
 obtain⟨w',hr,hs'⟩:=ka hl (k:=k) (v:=v) (hs.pull j hj)
 obtain⟨k1,k2⟩:=h w' hs'
 refine ar.run ho hw _ _ (λa hf=>.inr ⟨?_,rfl⟩) k1 k2
 unfold wK at ha
 split at ha
 ·rename_i t' x' i' y' hop
  split at ha
  ·rename_i m' k' v' h1 h2 h3
   simp only [Option.some.injEq,Prod.mk.injEq] at ha
   obtain⟨rfl,rfl,rfl,rfl⟩:=ha
   have h1':=hf.op h1
   have h2':=hf.op h2
   have h3':=hf.op h3
   generalize a.eval=ρ at h1' h2' h3' ⊢
   simp only [execOp,hop,h1',h2',h3',Sem.run_bind,hr,Result.andThen_ok]
   rfl
  ·cases ha
 ·cases ha
def wL (S:Env) (o:Oper):Option (TypeId×Value) :=
 match o.op with
 | .range t x=>match S.op x with
  | some m=>some (t,m)
  | _=>none
 | _=>none
theorem ar.range {i:Nat}{o:Oper}(ho:l[i]?=some o) (hw:cn l.toArray S o=some true) (hu:P.underlying T=some (.map K E)){r:Nat}(ha:wL S o=some (T,.map (some r))) (hs:St w0 L w) (j:Nat){m:List (α×β)}(hj:L[j]?=some (bC ek ev r m))
 (h:∀ it w',St w0 (Cg ek ev r it m []::L.eraseIdx j) w'->ba w' (opens M A i)/\ar P l M R0 Kk N A rest (S.cP o.dst (.pointer (some ⟨it,0,none⟩))) w'):ar P l M R0 Kk N A (.ef i rest) S w:=by
 have hs2:=hs.pull j hj
 obtain⟨x,clk,hx⟩:=hs2.holds _ (List.mem_cons_self ..)
 have hlt:r<w.heap.size:=hs2.lt _ (List.mem_cons_self ..) r rfl
 have hb:=hx.oW
 have hr:=run_range_map (P:=P) w T K E r (fh ek ev x) clk hu hb
 have hnew:(w.alloc (.mapIter (some r) clk #[] clk)).heap[w.heap.size]?=some (.mapIter (some r) clk #[] clk):=heap_alloc_new w _
 have hold:∀ b,b<w.heap.size->(w.alloc (.mapIter (some r) clk #[] clk)).heap[b]?=w.heap[b]?:=λb hb=>heap_alloc_old w _ hb
 have hsz:(w.alloc (.mapIter (some r) clk #[] clk)).heap.size=w.heap.size+1:=by simp
 have hst:St w0 (Cg ek ev r w.heap.size m []::L.eraseIdx j) (w.alloc (.mapIter (some r) clk #[] clk)):=by
  refine St.step hs2 rfl rfl rfl (by rw [hsz];omega) (λb hb _=>hold b hb) ⟨za,x,[],clk,hx.mono (hold r hlt),hnew,rfl,by simp,by simp⟩ (λb hb=>?_)
  have hb':b=r\/b=w.heap.size:=hb
  rcases hb' with rfl|rfl
  ·exact⟨.inl rfl,by rw [hsz];omega⟩
  ·exact⟨.inr (Nat.le_refl _),by rw [hsz];omega⟩
 obtain⟨k1,k2⟩:=h _ _ hst
 refine ar.run ho hw _ _ (λa hf=>.inl ?_) k1 k2
 unfold wL at ha
 split at ha
 ·rename_i t' x' hop
  split at ha
  ·rename_i m' h1
   simp only [Option.some.injEq,Prod.mk.injEq] at ha
   obtain⟨rfl,rfl⟩:=ha
   have h1':=hf.op h1
   generalize a.eval=ρ at h1' ⊢
   simp only [execOp,hop,h1',Sem.run_bind,hr,Result.andThen_ok]
   rfl
  ·cases ha
 ·cases ha
end
theorem Ch {w:World}{p:World->Prop}{l:List dO}(h:p w) (t:ba w l):ba w (.holds p::l):=⟨h,t⟩
theorem seq (x y:ByteArray):Value.bool (x.toList == y.toList)=Value.bool (decide (x=y)):=congrArg _ (ss x y)
theorem CJ {β:Type}(ev:β->Value) (o:Option β) (z:β):(if true=true then Value.tuple #[(o.map ev).getD (ev z),.bool o.isSome] else (o.map ev).getD (ev z))=Value.tuple #[ev (o.getD z),.bool o.isSome]:=by cases o<;>rfl
theorem Ci {β:Type}(ev:β->Value) (o:Option β) (z:β):(if false=true then Value.tuple #[(o.map ev).getD (ev z),.bool o.isSome] else (o.map ev).getD (ev z))=ev (o.getD z):=by cases o<;>rfl
theorem pT {x r:Bool}(h:x=r):(if true=true then x else !x)=r:=h
theorem z9 {x r:Bool}(h:x=r):(if false=true then x else !x)=!r:=by rw [h];rfl
theorem ag.cC {w:World}{b off n size:Nat}{cell:Nat->Array Value}(h:ag w (some ⟨b,off,none⟩) n size cell){k j:Nat}(hk:k<n) (hj:j<size){v:Value}(hv:(cell k)[j]?=some v):w.cell? ⟨b,off+k*size+j,none⟩=some v:=(h.at hk hj).trans hv
theorem ag.lO {w:World}{b off n size:Nat}{cell:Nat->Array Value}(h:ag w (some ⟨b,off,none⟩) n size cell){k:Nat}(hk:k<n){vs:Array Value}(ho:vs.size<=size) (hv:(cell k).extract 0 vs.size=vs) :
 ∀ i,i<vs.size->w.cell? ((Addr.mk b (off+k*size) none).add i)=vs[i]?:=by
 have:=ag.all h hk (o:=0) (vs:=vs) za (by simpa using hv)
 simpa using this
theorem St.eU {α:Type}{w0 w:World}{L:List aI}{ad:Option Addr}{c size:Nat}{e:TypeId}{f:α->Array Value}{l:List α}(hs:St w0 L w) (i:Nat) (hi:L[i]?=some (Sl ad c e size f l)):ad=none->c=0:=by
 rintro rfl
 have h:w.ownsRow 0 e size (.slice none l.length c) l.length (l.flatMap λx=>(f x).toList):=hs.at_ i hi
 rcases h.2 with⟨h1,h2⟩|⟨g,cap,cur,hv,_⟩
 ·simp only [Value.slice.injEq] at h1
  exact h1.2.2
 ·simp at hv
end Go.Sx
namespace Go.Sx
open Go.RowKit Go.ChangeShapes Go.WideShapes Go.Deep
set_option linter.unusedVariables false
set_option linter.unusedSimpArgs false
inductive FK where
 | int (k:IntKind)
 | bool
 | str
def FK.fits:FK->Value->Prop
 | .int k,v=>∃ n,v=.int k n/\(Lit.int k n).wf=true
 | .bool,v=>∃ b,v=.bool b
 | .str,v=>∃ s,v=.string s/\s.size<=maxLen
section
variable {H : Type} {enc : TypeId × Value -> H} {P : Program} {w : World} {base : Nat} {spare : Nat -> Bool} {held : Bool}
end
theorem ag.congr {W:World}{ad:Option Addr}{n size:Nat}{cell cell':Nat->Array Value}(h:ag W ad n size cell) (hc:∀ k,k<n->cell k=cell' k):ag W ad n size cell':=λhn=>by
 obtain⟨b,off,h1,h2⟩:=h hn
 exact⟨b,off,h1,λk hk j hj=>by rw [<- hc k hk];exact h2 k hk j hj⟩
theorem Calls.law {P:Program}{f:FuncId}{args:Array Value}{w:World}{B:World->Prop}(h:Calls P f args w (aZ λv w'=>v=.bool true/\B w')):Calls P f args w λe w'=>e=.returned (.bool true)/\B w' :=
 Calls.mono h λe w' he=>by
  cases e with
  | returned v=>exact⟨by rw [he.1],he.2⟩
  | panicked c=>exact he.elim
  | outgrown=>exact he.elim
theorem wf_u64 {n:Int}(h:(Lit.int .u64 n).wf=true):0<=n/\n<=18446744073709551615:=by simp [Lit.wf,IntKind.min,IntKind.max,IntKind.signed,IntKind.bits] at h;omega
theorem wf_i64 {n:Int}(h:(Lit.int .i64 n).wf=true):-9223372036854775808<=n/\n<=9223372036854775807:=by simp [Lit.wf,IntKind.min,IntKind.max,IntKind.signed,IntKind.bits] at h;omega
theorem wf_u8 {n:Int}(h:(Lit.int .u8 n).wf=true):0<=n/\n<=255:=by simp [Lit.wf,IntKind.min,IntKind.max,IntKind.signed,IntKind.bits] at h;omega
section
variable {H : Type} {enc : TypeId × Value -> H} {P : Program} {w : World} {base : Nat} {spare : Nat -> Bool} {held : Bool}
theorem kb {α:Type}(dd:α){f:α->Array Value}{size n:Nat}{ad:Option Addr}{cell:Nat->Array Value}(Q:α->Prop) (hr:ag w ad n size cell) (hc:∀ k,k<n->∃ x,Q x/\cell k=f x) :
 ∃ l:List α,l.length=n/\(∀ x∈l,Q x)/\ag w ad l.length size (λk=>f (l.getD k dd)):=by
 have H:∀ k,∃ x:α,k<n->(Q x/\cell k=f x):=λk=>by
  by_cases h:k<n
  ·obtain⟨x,hx⟩:=hc k h
   exact⟨x,λ_=>hx⟩
  ·exact⟨dd,λh'=>absurd h' h⟩
 obtain⟨F,hF⟩:=Classical.axiomOfChoice H
 refine⟨(List.range n).map F,by simp,λx hx=>?_,?_⟩
 ·obtain⟨k,hk,rfl⟩:=List.mem_map.1 hx
  exact(hF k (List.mem_range.1 hk)).1
 ·rw [List.length_map,List.length_range]
  intro hn
  obtain⟨b,off,h1,h2⟩:=hr hn
  refine⟨b,off,h1,λk hk j hj=>?_⟩
  rw [h2 k hk j hj,(hF k hk).2]
  congr 2
  rw [List.getD_eq_getElem?_getD,List.getElem?_map,List.getElem?_range hk]
  rfl
end
end Go.Sx
namespace Go.Sx
open Go.RowKit
set_option linter.unusedVariables false
set_option linter.unusedSimpArgs false
theorem St.refl {w:World}{L:List aI}{w0:World}(hs:St w0 L w):St w0 L w:=hs
theorem cw (b off n s h:Nat) (hn:0<n):Value.slice (some (if n=0 then Addr.mk b off none else (Addr.mk b off none).add (0*s))) (h-0) (n-0)=.slice (some ⟨b,off,none⟩) h n:=by
 rw [if_neg za,eE]
 simp
section
variable {P : Program} {R0 : Exit -> Act -> World -> Prop} {N : Fr} {Kk : List dS} {S : Env} {w w0 : World} {l : List Oper} {M : List Nat} {A : cE} {rest : PT} {L : List aI}
def nM (S:Env) (o:Oper):Option (TypeId×TypeId×Value) :=
 match o.op with
 | .convert src dst x=>match S.op x with
  | some v=>some (src,dst,v)
  | none=>none
 | _=>none
def Bv (b off:Nat) (l:List UInt8) (w:World):Prop:=∀ j (hj:j<l.length),w.cell? ⟨b,off+j,none⟩=some (.int .u8 (l[j].toNat:Int))
end
def ae {α:Type}(f:α->Array Value) (l:List α):Array Value:=(l.flatMap λx=>(f x).toList).toArray
section
variable {α : Type} {f : α -> Array Value} {size : Nat} {l : List α}
theorem dV (hf:∀ x,(f x).size=size) (l:List α):(ae f l).size=l.length*size:=by
 rw [ae,List.size_toArray,br hf]
theorem iH (hf:∀ x,(f x).size=size) (d:α){k j:Nat}(hk:k<l.length) (hj:j<size):(ae f l)[k*size+j]?=(f (l.getD k d))[j]?:=by
 rw [ae,List.getElem?_toArray]
 exact jd hf d l k j hk hj
theorem au {w0 w:World}{L:List aI}{b:Nat}{T:TypeId}(hs:St w0 L w) (i:Nat) (hi:L[i]?=some (ah b (ae f l) T)) (hf:∀ x,(f x).size=size) (d:α):ag w (some ⟨b,0,none⟩) l.length size (λk=>f (l.getD k d)):=λhn=>by
 obtain⟨fr,hb,hfr⟩:=hs.at_ i hi
 refine⟨b,0,rfl,λk hk j hj=>?_⟩
 simp only [World.cell?,hb,Nat.zero_add]
 exact iH hf d hk hj
theorem fi:∀ (vs:List Value) (cs:Array Value) (off i:Nat),(bI cs off vs)[i]?=if off<=i/\i<off+vs.length/\i<cs.size then vs[i-off]? else cs[i]?
 | [],cs,off,i=>by
  simp only [bI,List.length_nil,Nat.add_zero]
  rw [if_neg za]
 | v::vs,cs,off,i=>by
  rw [bI,fi vs (cs.setIfInBounds off v) (off+1) i]
  simp only [Array.size_setIfInBounds,List.length_cons,Array.getElem?_setIfInBounds]
  by_cases h1:off+1<=i/\i<off+1+vs.length/\i<cs.size
  ·rw [if_pos h1,if_pos za]
   obtain⟨u,rfl⟩:∃ u,i=off+1+u:=⟨i-(off+1),za⟩
   rw [show off+1+u-(off+1)=u by omega,show off+1+u-off=u+1 by omega,List.getElem?_cons_succ]
  ·rw [if_neg h1]
   by_cases h2:off=i
   ·subst h2
    rw [if_pos rfl]
    by_cases h3:off<cs.size
    ·rw [if_pos h3,if_pos za,Nat.sub_self]
     rfl
    ·rw [if_neg h3,if_neg za,Array.getElem?_eq_none za]
   ·rw [if_neg h2,if_neg za]
theorem eh (hf:∀ x,(f x).size=size){k:Nat}(hk:k<l.length) (x:α):bI (ae f l) (k*size) (f x).toList=ae f (l.set k x):=by
 have hl1:=dV hf l
 have hl2:=dV hf (l.set k x)
 rw [List.length_set] at hl2
 have hx:(f x).toList.length=size:=by rw [Array.length_toList,hf]
 have hk2:k*size+size<=l.length*size:=by
  calc k*size+size=(k+1)*size:=by rw [Nat.add_mul,Nat.one_mul]
   _<=l.length*size:=Nat.mul_le_mul_right _ hk
 apply Array.ext_getElem?
 intro i
 rw [fi,hx,hl1]
 by_cases hi:i<l.length*size
 ·have hpos:0<size:=by
   rcases Nat.eq_zero_or_pos size with h|h
   ·rw [h] at hi;omega
   ·exact h
  have hq:i / size<l.length:=Nat.div_lt_of_lt_mul (by rw [Nat.mul_comm];exact hi)
  have hr:i % size<size:=Nat.mod_lt _ hpos
  have hi2:i / size*size+i % size=i:=by rw [Nat.mul_comm];exact Nat.div_add_mod i size
  have e1:=iH (l:=l) hf x hq hr
  have e2:=iH (l:=l.set k x) hf x (k:=i / size) (j:=i % size) (by rw [List.length_set];exact hq) hr
  rw [hi2] at e1 e2
  rw [e1,e2]
  by_cases hkk:i / size=k
  ·have h3:k*size+i % size=i:=by rw [<- hkk];exact hi2
   rw [if_pos za]
   have e3:(l.set k x).getD (i / size) x=x:=by
    rw [hkk,List.getD_eq_getElem?_getD,List.getElem?_set]
    simp [hk]
   rw [e3,show i-k*size=i % size by omega,Array.getElem?_toList]
  ·have hne:¬ (k*size<=i/\i<k*size+size/\i<l.length*size):=by
    rintro⟨h4,h5,-⟩
    exact hkk (Nat.div_eq_of_lt_le h4 (by rw [Nat.add_mul,Nat.one_mul];exact h5))
   rw [if_neg hne]
   have e3:(l.set k x).getD (i / size) x=l.getD (i / size) x:=by
    rw [List.getD_eq_getElem?_getD,List.getD_eq_getElem?_getD,List.getElem?_set_ne (λe=>hkk e.symm)]
   rw [e3]
 ·rw [if_neg za,Array.getElem?_eq_none za,Array.getElem?_eq_none za]
theorem fH (hf:∀ x,(f x).size=size){k:Nat}(hk:k<l.length):k*size+size<=(ae f l).size:=by
 rw [dV hf]
 calc k*size+size=(k+1)*size:=by rw [Nat.add_mul,Nat.one_mul]
  _<=l.length*size:=Nat.mul_le_mul_right _ hk
end
def sA (x:Int):UInt8:=UInt8.ofNat x.toNat
theorem kp {x:Int}(h0:0<=x) (h1:x<256):((sA x).toNat:Int)=x:=by
 rw [sA,UInt8.toNat_ofNat'];omega
def dB (ad:Option Addr) (c lo size:Nat):Option Addr:=if c=lo then ad else ad.map (λa=>a.add (lo*size))
theorem sB {ad:Option Addr}{c lo size m n k:Nat}(h:m=n):Value.slice (if c=lo then ad else ad.map (λa=>a.add (lo*size))) m k=.slice (dB ad c lo size) n k:=by subst h;rfl
theorem add_zero (a:Addr) (size:Nat):a.add (0*size)=a:=by rw [Nat.zero_mul];unfold Addr.add;simp
theorem uE {ad:Option Addr}{c size m n:Nat}(h:m-0=n):Value.slice (if c=0 then ad else ad.map (λa=>a.add (0*size))) (m-0) (c-0)=.slice ad n c:=by
 subst h
 have:(if c=0 then ad else ad.map (λa=>a.add (0*size)))=ad:=by
  split
  ·rfl
  ·cases ad with
   | none=>rfl
   | some a=>simp only [Option.map_some,add_zero]
 rw [this]
 rfl
theorem nN {ad:Option Addr}{c lo size:Nat}(h:ad=none->c=0) (hn:dB ad c lo size=none):c-lo=0:=by
 unfold dB at hn
 split at hn
 ·omega
 ·cases ad with
  | none=>have:=h rfl;omega
  | some a=>simp at hn
section
variable {P : Program} {R0 : Exit -> Act -> World -> Prop} {N : Fr} {K : List dS} {S : Env} {w w0 : World} {l : List Oper} {M : List Nat} {A : cE} {rest : PT} {L : List aI}
theorem ar.eA {i:Nat}{o:Oper}(ho:l[i]?=some o) (hw:cn l.toArray S o=some true){t e:TypeId}(hl:kQ S o=some (t,0,[])) (hu:P.underlying t=some (.slice e)){ti:TypeInfo}(hi:P.info? e=some ti) (hs:St w0 L w)
 (h:∀ b w',St w0 (ah b #[] e::L) w'->w'.heap[b]?=some (.cells #[] e (0,0))->ba w' (opens M A i)/\ar P l M R0 K N A rest (S.cP o.dst (.slice (some ⟨b,0,none⟩) 0 0)) w'):ar P l M R0 K N A (.ef i rest) S w:=by
 obtain⟨k1,k2⟩:=h _ _ (hs.il #[] e) zG
 refine ar.run ho hw _ _ (λa hfit=>.inl ?_) k1 k2
 unfold kQ at hl
 split at hl
 ·rename_i t' n' parts hop
  split at hl
  ·rename_i vs hvs
   simp only [Option.some.injEq,Prod.mk.injEq] at hl
   obtain⟨rfl,rfl,hp⟩:=hl
   have h3:=hfit.ops hvs
   have h4:(parts.map λ(i,x)=>(i,a.eval x)).toList=[]:=by
    rw [<- hp,<- h3]
    simp only [Array.toList_map]
    generalize parts.toList=q
    induction q with
    | nil=>rfl
    | cons y q ih=>simp [ih]
   generalize a.eval=ρ at h4 ⊢
   have hns:¬ (0>2 ^ 24):=za
   simp only [execOp,hop,Instr.buildSlice,Sem.run_bind,run_underlying hu,Result.andThen_ok,sizeOf,typeInfo,run_program,hi,Sem.run_pure,Nat.zero_mul,hns,if_false,if_true,h4,newRow,newObj]
   simp [Sem.run,Instr.fill]
   have hz:(Array.map (λ_=>(default:Value)) (Array.range 0))=#[]:=Array.ext' zG
   rw [hz]
  ·cases hl
 ·cases hl
end
section
variable {w w0 : World} {L : List aI} {α : Type} {ad : Option Addr} {c size : Nat} {e : TypeId} {f : α -> Array Value} {l : List α}
theorem ag.sC {d:α}(h:ag w ad l.length size (λk=>f (l.getD k d))) (n:Nat) (hn:n<=l.length):ag w ad (l.take n).length size (λk=>f ((l.take n).getD k d)):=by
 have h1:(l.take n).length=n:=by rw [List.length_take];omega
 rw [h1]
 refine(h.lt hn).CI λk hk=>?_
 congr 1
 rw [List.getD_eq_getElem?_getD,List.getD_eq_getElem?_getD,List.getElem?_take_of_lt hk]
theorem ag.wM {d:α}{lo:Nat}(h:ag w ad l.length size (λk=>f (l.getD k d))) (hc:l.length<=c) (hn:lo<=l.length):ag w (dB ad c lo size) (l.drop lo).length size (λk=>f ((l.drop lo).getD k d)):=λhm=>by
 rw [List.length_drop] at hm
 obtain⟨b,off,h1,h2⟩:=h za
 subst h1
 refine⟨b,off+lo*size,?_,λk hk j hj=>?_⟩
 ·unfold dB
  rw [if_neg za,Option.map_some,eE]
 ·rw [List.length_drop] at hk
  rw [Nat.add_assoc off,<- Nat.add_mul,h2 (lo+k) za j hj]
  show(f (l.getD (lo+k) d))[j]?=(f ((l.drop lo).getD k d))[j]?
  rw [List.getD_eq_getElem?_getD,List.getD_eq_getElem?_getD,List.getElem?_drop]
theorem ag.pU {d:α}{lo m:Nat}(h:ag w ad l.length size (λk=>f (l.getD k d))) (hc:l.length<=c) (hn:lo<=l.length/\m<=l.length-lo):ag w (dB ad c lo size) ((l.drop lo).take m).length size (λk=>f (((l.drop lo).take m).getD k d)) :=
 ag.sC (h.wM hc hn.1) m (by rw [List.length_drop];exact hn.2)
theorem Sl.isSome (h:(Sl ad c e size f l).holds w) (hn:0<l.length):∃ b,ad=some ⟨b,0,none⟩:=by
 have h0:w.ownsRow 0 e size (.slice ad l.length c) l.length (l.flatMap λx=>(f x).toList):=h
 rcases h0.2 with⟨h1,h2⟩|⟨g,cap,cur,hv,_⟩
 ·omega
 ·simp only [Value.slice.injEq] at hv
  exact⟨g,hv.1⟩
theorem Sl.cap (h:(Sl ad c e size f l).holds w):l.length<=c:=by
 have h0:w.ownsRow 0 e size (.slice ad l.length c) l.length (l.flatMap λx=>(f x).toList):=h
 rcases h0.2 with⟨h1,h2⟩|⟨g,cap,cur,hv,_,_,hnc,_⟩
 ·omega
 ·simp only [Value.slice.injEq] at hv
  obtain⟨_,_,rfl⟩:=hv
  exact hnc
theorem eF {l:List α}{d:α}{k:Nat}(hk:k<l.length):l.getD k d∈l:=by
 rw [List.getD_eq_getElem?_getD,List.getElem?_eq_getElem hk]
 exact List.getElem_mem hk
theorem bh {l:List α}{d:α}{k:Nat}(hk:k<l.length):l.take (k+1)=l.take k++[l.getD k d]:=by
 rw [List.take_succ_eq_append_getElem hk,List.getD_eq_getElem?_getD,List.getElem?_eq_getElem hk]
 rfl
end
section
variable {α : Type} {f : α -> Array Value} {size : Nat} {l : List α}
theorem kT (hf:∀ x,(f x).size=size){k o:Nat}(hk:k<l.length) (d x':α){vs:List Value}(ho:o+vs.length<=size) (hx:bI (f (l.getD k d)) o vs=f x'):bI (ae f l) (k*size+o) vs=ae f (l.set k x'):=by
 have hl1:=dV hf l
 have hl2:=dV hf (l.set k x')
 rw [List.length_set] at hl2
 have hk2:k*size+size<=l.length*size:=by
  calc k*size+size=(k+1)*size:=by rw [Nat.add_mul,Nat.one_mul]
   _<=l.length*size:=Nat.mul_le_mul_right _ hk
 apply Array.ext_getElem?
 intro i
 rw [fi,hl1]
 by_cases hi:i<l.length*size
 ·have hpos:0<size:=by
   rcases Nat.eq_zero_or_pos size with h|h
   ·rw [h] at hi;omega
   ·exact h
  have hq:i / size<l.length:=Nat.div_lt_of_lt_mul (by rw [Nat.mul_comm];exact hi)
  have hr:i % size<size:=Nat.mod_lt _ hpos
  have hi2:i / size*size+i % size=i:=by rw [Nat.mul_comm];exact Nat.div_add_mod i size
  have e1:=iH (l:=l) hf d hq hr
  have e2:=iH (l:=l.set k x') hf d (k:=i / size) (j:=i % size) (by rw [List.length_set];exact hq) hr
  rw [hi2] at e1 e2
  rw [e1,e2]
  by_cases hkk:i / size=k
  ·have h3:k*size+i % size=i:=by rw [<- hkk];exact hi2
   have e3:(l.set k x').getD (i / size) d=x':=by
    rw [hkk,List.getD_eq_getElem?_getD,List.getElem?_set]
    simp [hk]
   rw [e3,<- hx,fi,hkk,hf]
   by_cases hc:o<=i % size/\i % size<o+vs.length/\i % size<size
   ·rw [if_pos hc,if_pos za]
    congr 1
    omega
   ·rw [if_neg hc,if_neg za]
  ·have hne:¬ (k*size+o<=i/\i<k*size+o+vs.length/\i<l.length*size):=by
    rintro⟨h4,h5,-⟩
    exact hkk (Nat.div_eq_of_lt_le za (by rw [Nat.add_mul,Nat.one_mul];omega))
   rw [if_neg hne]
   have e3:(l.set k x').getD (i / size) d=l.getD (i / size) d:=by
    rw [List.getD_eq_getElem?_getD,List.getD_eq_getElem?_getD,List.getElem?_set_ne (λe=>hkk e.symm)]
   rw [e3]
 ·rw [if_neg za,Array.getElem?_eq_none za,Array.getElem?_eq_none za]
theorem nO (hf:∀ x,(f x).size=size){k o n:Nat}(hk:k<l.length) (ho:o+n<=size):k*size+o+n<=(ae f l).size:=by
 rw [dV hf]
 have:k*size+size<=l.length*size:=by
  calc k*size+size=(k+1)*size:=by rw [Nat.add_mul,Nat.one_mul]
   _<=l.length*size:=Nat.mul_le_mul_right _ hk
 omega
end
section
variable {P : Program} {R0 : Exit -> Act -> World -> Prop} {N : Fr} {K : List dS} {S : Env} {w w0 : World} {l : List Oper} {M : List Nat} {A : cE} {rest : PT} {L : List aI}
theorem ar.wN {i:Nat}{o:Oper}{t:TypeId}{x y:Operand}(ho:l[i]?=some o) (hop:o.op=.store t x y) (hw:cn l.toArray S o=some true){b off:Nat}{v:Value}{ti:TypeInfo}
 (hx:S.op x=some (.pointer (some ⟨b,off,none⟩))) (hy:S.op y=some v) (ht:P.info? t=some ti) (hs:St w0 L w) (j:Nat){α:Type}{f:α->Array Value}{size:Nat}(hf:∀ x,(f x).size=size){c:Nat}{e:TypeId}{xs xs':List α}(hj:L[j]?=some (Sl (some ⟨b,0,none⟩) c e size f xs))
 (hsz:v.cells.size=ti.size) (h1:v.cells.toList.all mV=true) (hoff:off+v.cells.size<=(ae f xs).size) (hlen:xs'.length=xs.length) (hcs:bI (ae f xs) off v.cells.toList=ae f xs'){L':List aI}(hL:L.set j (Sl (some ⟨b,0,none⟩) c e size f xs')=L')
 (h:∀ w',St w0 L' w'->ba w' (opens M A i)/\ar P l M R0 K N A rest (S.cP o.dst undef) w'):ar P l M R0 K N A (.ef i rest) S w:=by
 have hp:=hs.pull j hj
 have h0:w.ownsRow 0 e size (.slice (some ⟨b,0,none⟩) xs.length c) xs.length (xs.flatMap λx=>(f x).toList):=hp.holds _ (List.mem_cons_self ..)
 rw [dV hf] at hoff
 rcases h0.2 with⟨h2,h3⟩|⟨g,cap,cur,hv,hg0,hg,hnc,hcm,hcur,htake⟩
 ·cases h2
 ·simp only [Value.slice.injEq,Option.some.injEq,Addr.mk.injEq,and_true,true_and] at hv
  obtain⟨rfl,rfl⟩:=hv
  have hlt:b<w.heap.size:=(Array.getElem?_eq_some_iff.1 hg).1
  have hnsz:xs.length*size<=cur.size:=by rw [hcur];exact Nat.mul_le_mul_right _ hnc
  have hr:=fG (P:=P) v.cells.toList w cur (0,0) off 0 hg (λj _=>by omega) (by simp only [Array.length_toList];omega) h1
  simp only [Nat.add_zero] at hr
  have hcells:∀ i,i<xs.length*size->cur[i]?=(ae f xs)[i]?:=λi hi=>by
   have e1:cur[i]?=cur.toList[i]?:=Array.getElem?_toList.symm
   have e2:(cur.toList.take (xs.length*size))[i]?=cur.toList[i]?:=List.getElem?_take_of_lt hi
   have e3:(ae f xs)[i]?=(xs.flatMap λx=>(f x).toList)[i]?:=List.getElem?_toArray ..
   rw [e1,<- e2,htake,e3]
  have hnew:(bI cur off v.cells.toList).toList.take (xs'.length*size)=xs'.flatMap λx=>(f x).toList:=by
   rw [hlen]
   apply List.ext_getElem?
   intro i
   have hfl:=br hf xs'
   rw [hlen] at hfl
   by_cases hi:i<xs.length*size
   ·rw [List.getElem?_take_of_lt hi,Array.getElem?_toList]
    have e1:(xs'.flatMap λx=>(f x).toList)[i]?=(ae f xs')[i]?:=by rw [ae,List.getElem?_toArray]
    rw [e1,<- hcs,fi,fi,hcells i hi,dV hf]
    by_cases hc:off<=i/\i<off+v.cells.toList.length/\i<cur.size
    ·rw [if_pos hc,if_pos ⟨hc.1,hc.2.1,hi⟩]
    ·rw [if_neg hc,if_neg (λq=>hc ⟨q.1,q.2.1,za⟩)]
   ·rw [List.getElem?_eq_none (by rw [List.length_take];omega),List.getElem?_eq_none za]
  have hst:St w0 (Sl (some ⟨b,0,none⟩) c e size f xs'::L.eraseIdx j) (bT w b (.cells (bI cur off v.cells.toList) e (0,0))):=by
   refine St.step hp rfl rfl rfl (by simp [bT]) (λk hk hn=>?_) ?_ (λk hk=>⟨.inl hk,?_⟩)
   ·simp only [bT,Array.getElem?_setIfInBounds]
    rw [if_neg (λe=>hn (by subst e;rfl))]
   ·show World.ownsRow _ 0 e size (.slice _ xs'.length c) xs'.length _
    refine⟨br hf xs',.inr ⟨b,c,bI cur off v.cells.toList,rfl,hg0,by simp [bT,hlt],by rw [hlen];exact hnc,hcm,by rw [gX];exact hcur,hnew⟩⟩
   ·have h5:(some b:Option Nat)=some k:=hk
    have h6:=Option.some.inj h5
    subst h6
    simpa [bT] using hlt
  obtain⟨k1,k2⟩:=h _ (hL▸hst.perm (nA _ hj))
  refine ar.run ho hw _ _ (λa hfit=>.inr ⟨?_,rfl⟩) k1 k2
  have hx':=hfit.op hx
  have hy':=hfit.op hy
  generalize a.eval=ρ at hx' hy' ⊢
  have h2:(storeVar t ⟨b,off,none⟩ v).run P w=.ok () (bT w b (.cells (bI cur off v.cells.toList) e (0,0))):=by
   simp only [storeVar,sizeOf,typeInfo,program,bind,Sem.bind,Sem.run,ht,pure]
   rw [if_neg (by simpa using hsz)]
   exact hr
  simp [execOp,hop,Instr.storeAt,hx',hy',Instr.sureAddr,bind,Sem.bind,pure]
  rw [Sem.run_bind',h2]
  rfl
theorem qX {α:Type}{t1 t2 ty e:TypeId}{ti:TypeInfo}{size:Nat}(hu:P.underlying t1=some (.slice e)) (hi:P.info? e=some ti) (hsz:ti.size=size) (hpos:0<size){f:α->Array Value}(hf:∀ x,(f x).size=size) (h1:∀ x,∀ u∈(f x).toList,u.oneCell'=true)
 {b off dLen dCap:Nat}{cs:Array Value}{T:TypeId}(hs:St w0 (ah b cs T::L) w) (d:α){adx:Option Addr}{cx:Nat}{ys:List α}(hx:ag w adx ys.length size (λk=>f (ys.getD k d))) (hfit:off+min ys.length dLen*size<=cs.size) :
 ∃ w',(Builtin.copy_ #[t1,t2] ty #[.slice (some ⟨b,off,none⟩) dLen dCap,.slice adx ys.length cx]).run P w=.ok (goInt (min ys.length dLen:Nat)) w'/\St w0 (ah b (bI cs off ((ys.take (min ys.length dLen)).flatMap λx=>(f x).toList)) T::L) w':=by
 obtain⟨fr,hb,hfr⟩:=hs.holds _ (List.mem_cons_self ..)
 have hlenc:((ys.take (min ys.length dLen)).flatMap λx=>(f x).toList).length=min ys.length dLen*size:=by
  rw [br hf,List.length_take]
  congr 1
  omega
 cases adx with
 | none =>
  have hy:ys=[]:=by
   cases ys with
   | nil=>rfl
   | cons y ys =>
    obtain⟨b,off,hh,_⟩:=hx zG
    cases hh
  subst hy
  refine⟨w,?_,?_⟩
  ·simp [Builtin.copy_,run_underlying hu,Builtin.lenOf,Builtin.firstCells,sizeOf,typeInfo,hi,storeCells]
  ·simpa [bI] using hs
 | some a =>
  have hsrc:∀ j v,((ys.take (min ys.length dLen)).flatMap λx=>(f x).toList)[j]?=some v->w.cell? (a.add j)=some v:=by
   intro j v hj
   have hlen:j<min ys.length dLen*size:=by rw [<- hlenc];exact(List.getElem?_eq_some_iff.1 hj).1
   have hy:0<ys.length:=by
    rcases Nat.eq_zero_or_pos ys.length with hz|hz
    ·rw [hz] at hlen;simp at hlen
    ·exact hz
   obtain⟨b',off',hh,hrow⟩:=hx hy
   simp only [Option.some.injEq] at hh
   subst hh
   have hk:j / size<min ys.length dLen:=Nat.div_lt_of_lt_mul (by rw [Nat.mul_comm];exact hlen)
   have hm:j % size<size:=Nat.mod_lt _ hpos
   have h2:=hrow (j / size) za (j % size) hm
   have h3:=jd hf d (ys.take (min ys.length dLen)) (j / size) (j % size) (by rw [List.length_take];omega) hm
   have h4:j / size*size+j % size=j:=by rw [Nat.mul_comm];exact Nat.div_add_mod j size
   have h5:(ys.take (min ys.length dLen)).getD (j / size) d=ys.getD (j / size) d:=by
    rw [List.getD_eq_getElem?_getD,List.getD_eq_getElem?_getD,List.getElem?_take_of_lt hk]
   rw [Nat.add_assoc,h4] at h2
   rw [h4,h5] at h3
   rw [eE,h2,<- h3]
   exact hj
  have hone:(((ys.take (min ys.length dLen)).flatMap λx=>(f x).toList).all mV)=true:=by
   rw [List.all_eq_true]
   intro u hu
   obtain⟨y,_,hy⟩:=List.mem_flatMap.1 hu
   have:=h1 y u hy
   cases u<;>simp_all [mV,Value.oneCell']
  have hl:=run_loadCells_list (P:=P) w a _ hsrc
  rw [hlenc] at hl
  have hst:=fG (P:=P) ((ys.take (min ys.length dLen)).flatMap λx=>(f x).toList) w cs fr off 0 hb hfr (by rw [hlenc];simpa using hfit) hone
  simp only [Nat.add_zero] at hst
  refine⟨_,?_,St.put hs hb hfr (cs':=bI cs off ((ys.take (min ys.length dLen)).flatMap λx=>(f x).toList)) (gX ..)⟩
  have hmin:Nat.min ys.length dLen=min ys.length dLen:=rfl
  simp only [Builtin.copy_,run_underlying hu,Builtin.lenOf,Builtin.firstCells,sizeOf,typeInfo,Sem.run_bind,hi,hsz,hmin]
  simp [run_underlying hu,hi,hsz,hl,hst,hmin]
theorem ar.copy {α:Type}{i:Nat}{o:Oper}(ho:l[i]?=some o) (hw:cn l.toArray S o=some true){t e:TypeId}{size bytes:Nat}(he:ff P t e size bytes){f:α->Array Value}(hf:dE f size){b off dLen dCap:Nat}{cs:Array Value}{T:TypeId}{ys:List α}{adx:Option Addr}{cx:Nat}(d:α)
 (hb:kP S o=some (.copy,[t,t],[.slice (some ⟨b,off,none⟩) dLen dCap,.slice adx ys.length cx])) (hs:St w0 (ah b cs T::L) w) (hx:ag w adx ys.length size (λk=>f (ys.getD k d))) (hfit:off+min ys.length dLen*size<=cs.size){cs':Array Value}(hcs:bI cs off ((ys.take (min ys.length dLen)).flatMap λx=>(f x).toList)=cs')
 (h:∀ w',St w0 (ah b cs' T::L) w'->ba w' (opens M A i)/\ar P l M R0 K N A rest (S.cP o.dst (.int .i64 (min ys.length dLen:Nat))) w'):ar P l M R0 K N A (.ef i rest) S w:=by
 subst hcs
 obtain⟨ti,z,h1,h2,h3,h4,h5⟩:=he.info
 obtain⟨w',hr,hs'⟩:=qX (P:=P) (t2:=t) (ty:=o.type) (dCap:=dCap) (cx:=cx) he.y5 h1 h3 he.pos hf.size hf.Bt hs d hx hfit
 obtain⟨k1,k2⟩:=h w' hs'
 refine ar.run ho hw _ w' (λa hfit=>.inl ?_) k1 k2
 obtain⟨cs,hrun⟩:=ir (P:=P) hfit hb w
 rw [hrun]
 simp only [builtin,Sem.run_bind]
 rw [hr]
 rfl
end
section
variable {α : Type} {f : α -> Array Value} {size n m : Nat} {l : List α}
theorem bt (hf:dE f size) (h:l.length=n) (hm:(n*size).beq m=true):Array.size (ae f l)=m:=by
 rw [dV hf.size,h];exact Nat.eq_of_beq_eq_true hm
theorem bQ (hf:dE f size) (h:l.length=n) (hm:(n*size).beq m=true):(Value.cells (.agg (ae f l))).size=m:=bt hf h hm
theorem cX (hf:dE f size):(Value.cells (.agg (ae f l))).toList.all mV=true:=by
 show(ae f l).toList.all _=true
 rw [List.all_eq_true]
 intro u hu
 simp only [ae] at hu
 obtain⟨x,_,hx⟩:=List.mem_flatMap.1 hu
 have h1:=hf.Bt x u hx
 cases u<;>simp_all [mV,Value.oneCell']
theorem cJ (hf:dE f size) (h:l.length=n){cs:Array Value}(hm:(n*size).beq cs.size=true):0+(Value.cells (.agg (ae f l))).size<=cs.size:=by
 rw [Nat.zero_add,bQ hf h hm];exact Nat.le_refl _
theorem dz (hf:dE f size) (h:l.length=n){cs:Array Value}(hm:(n*size).beq cs.size=true):bI cs 0 (Value.cells (.agg (ae f l))).toList=ae f l:=by
 have hs:(ae f l).size=cs.size:=bt hf h hm
 apply Array.ext_getElem?
 intro i
 have he:(Value.cells (.agg (ae f l))).toList=(ae f l).toList:=rfl
 rw [he,fi]
 have hl:(ae f l).toList.length=cs.size:=by rw [Array.length_toList,hs]
 by_cases hi:i<cs.size
 ·rw [if_pos ⟨Nat.zero_le _,za,hi⟩,Nat.sub_zero,Array.getElem?_toList]
 ·rw [if_neg za,Array.getElem?_eq_none za,Array.getElem?_eq_none za]
end
def eG (k:IntKind) (x y:Int):Int:=k.wrap ((BitVec.ofInt k.bits x &&& BitVec.ofInt k.bits y).toNat:Int)
def fV (k:IntKind) (x y:Int):Int:=k.wrap ((BitVec.ofInt k.bits x ||| BitVec.ofInt k.bits y).toNat:Int)
def bN (k:IntKind) (x y:Int):Int:=k.wrap ((BitVec.ofInt k.bits x ^^^ BitVec.ofInt k.bits y).toNat:Int)
def xK (k:IntKind) (x:Int):Int:=bN k (if k.signed then -1 else k.max) x
def bV (k:IntKind) (x y:Int):Int:=k.wrap (x*2 ^ (min y.toNat k.bits))
def aM (k:IntKind) (x y:Int):Int:=x.fdiv (2 ^ (min y.toNat k.bits))
theorem fY (x:Int):0<=IntKind.u8.wrap x/\IntKind.u8.wrap x<256:=by
 have:IntKind.u8.wrap x=x % 256:=by
  simp [IntKind.wrap,IntKind.bits,IntKind.signed]
 rw [this];omega
theorem bf {k:IntKind}(h:k.signed=false) (x:Int):0<=k.wrap x:=by
 cases k<;>first|(exact absurd h zf)|(simp [IntKind.wrap,IntKind.bits,IntKind.signed];omega)
theorem jG {b off n lo s h m:Nat}(h1:lo<n) (h2:h-lo=m):Value.slice (some (if n=lo then Addr.mk b off none else (Addr.mk b off none).add (lo*s))) (h-lo) (n-lo)=.slice (some ⟨b,off+lo*s,none⟩) m (n-lo):=by
 rw [if_neg za,eE,h2]
theorem Bw (b e n s:Nat):Value.pointer (some ((Addr.mk b (0+e*s) none).add (n*s)))=.pointer (some ⟨b,0+(e+n)*s,none⟩):=by
 rw [eE,Nat.add_assoc,<- Nat.add_mul]
theorem qY {α:Type}{f:α->Array Value}(hf:dE f 1){l:List α}{d:α}{n:Int}{k:Nat}(hn:n.toNat=k) (hk:k<l.length){v:Value}(hv:(f (l.getD k d))[0]?=some v):(ae f l)[n.toNat*1]?=some v:=by
 subst hn
 have:=iH hf.size d hk (j:=0) za
 rw [Nat.add_zero] at this
 rw [this,hv]
section
variable {P : Program} {w w0 : World} {L : List aI}
def cL (n:Int):Array Value:=#[.int .u8 n]
theorem uH (n:Int):(cL n).size=1:=rfl
def bF (s:ByteArray):List Int:=s.data.toList.map λb=>(b.toNat:Int)
theorem cu (s:ByteArray):(bF s).length=s.size:=by simp only [bF,List.length_map,Array.length_toList];rfl
def ia (s:ByteArray):List Value:=s.data.toList.map λb=>Value.int .u8 (b.toNat:Int)
theorem pV (s:ByteArray):((bF s).flatMap λx=>(cL x).toList)=ia s:=by
 unfold bF ia
 induction s.data.toList with
 | nil=>rfl
 | cons a l ih=>simp only [List.map_cons,List.flatMap_cons,ih];rfl
theorem dZ (s:ByteArray):(ia s).length=s.size:=by simp only [ia,List.length_map,Array.length_toList];rfl
theorem nQ (s:ByteArray):Array.map (λb:UInt8=>Value.int IntKind.u8 (b.toNat:Int)) s.data=(ia s).toArray:=by
 apply Array.ext'
 simp [ia]
theorem mv (s:ByteArray):(Array.map (λb:UInt8=>Value.int IntKind.u8 (b.toNat:Int)) s.data).extract 0 s.size=(ia s).toArray:=by
 have hs:s.size=(Array.map (λb:UInt8=>Value.int IntKind.u8 (b.toNat:Int)) s.data).size:=by rw [Array.size_map];rfl
 rw [hs,Array.extract_size]
 apply Array.ext'
 simp [ia]
theorem jS (t u ty e:TypeId) (i:TypeInfo) (ht:P.underlying t=some (.slice e)) (hu:P.underlying u=some .string) (hi:P.info? e=some i) (hsz:i.size=1)
 (g sLen sCap:Nat) (cur:Array Value) (hg:w.heap[g]?=some (.cells cur e (0,0))) (s:ByteArray) (hroom:sLen+s.size<=sCap) (hfit:sLen+s.size<=cur.size) :
 (Builtin.append_ #[t,u] ty #[.slice (some ⟨g,0,none⟩) sLen sCap,.string s]).run P w =
  .ok (.slice (some ⟨g,0,none⟩) (sLen+s.size) sCap) (w.setRow g (cur.toList.take sLen++ia s++cur.toList.drop (sLen+s.size)).toArray):=by
 have hst:=run_storeCells_at P g sLen e (ia s) 0 cur w hg (by rw [dZ];simpa using hfit) (λu hu=>by
  obtain⟨b,-,rfl⟩:=List.mem_map.1 hu
  rfl)
 simp only [Nat.add_zero,dZ] at hst
 simp [Builtin.append_,run_underlying ht,run_underlying hu,sizeOf,typeInfo,hi,hsz,Builtin.lenOf,hroom,Builtin.firstCells,Addr.add_lit,mv,hst]
theorem jT (t u ty e:TypeId) (i:TypeInfo) (z:Value) (ht:P.underlying t=some (.slice e)) (hu:P.underlying u=some .string) (hi:P.info? e=some i) (hz:i.zero=some z) (hsz:i.size=1)
 (b:Addr) (sLen sCap:Nat) (olds:List Value) (hlo:olds.length=sLen) (holds:∀ j v,olds[j]?=some v->w.cell? (b.add j)=some v)
 (s:ByteArray) (hg:sCap<sLen+s.size) (h63:((sLen+s.size:Nat):Int)<=9223372036854775807) (hfit:Builtin.nextslicecap (sLen+s.size) sCap*i.bytes<=281474976710656) :
 (Builtin.append_ #[t,u] ty #[.slice (some b) sLen sCap,.string s]).run P w =
  .ok (.slice (some ⟨w.heap.size,0,none⟩) (sLen+s.size) (grownCap w (sLen+s.size) sCap e))
   (w.drew.alloc (.cells (olds.toArray++(ia s).toArray++Builtin.zeroCells z.cells (grownCap w (sLen+s.size) sCap e-(sLen+s.size))) e)):=by
 have hn:¬ (sLen+s.size<=sCap):=za
 have h63':¬ (9223372036854775807<((sLen:Int)+(s.size:Int))):=za
 have h48':¬ (281474976710656<Builtin.nextslicecap (sLen+s.size) sCap*i.bytes):=za
 have hfo:=run_firstCells_some (P:=P) w.drew i.size sLen b sLen sCap olds (by rw [hsz,Nat.mul_one];exact hlo) (by simpa using holds)
 rw [hsz] at hfo
 simp [Builtin.append_,run_underlying ht,run_underlying hu,sizeOf,typeInfo,zeroValue,hi,hz,hsz,Builtin.lenOf,hn,h63',h48',Question.forced,hfo,newRow,grownCap]
 have hfs:(Builtin.firstCells 1 s.size (.string s)).run P w.drew=.ok (ia s).toArray w.drew:=by
  have he:=mv s
  simp only [nQ] at he
  simp [Builtin.firstCells,nQ,he]
 rw [hfs]
 simp only [Result.andThen_ok]
 have harr:∀ zz:Array Value,olds.toArray++((ia s).toArray++zz)=(olds++ia s).toArray++zz:=λzz=>by
  apply Array.ext'
  simp [List.append_assoc]
 simp only [harr]
 rfl
theorem nR {t u ty e:TypeId}{ti:TypeInfo}{z:Value}(ht:P.underlying t=some (.slice e)) (hu:P.underlying u=some .string) (hi:P.info? e=some ti) (hz:ti.zero=some z) (hsize:ti.size=1) (hby:ti.bytes=1) (hzs:z.cells.size=1)
 {ad:Option Addr}{c:Nat}{l:List Int}(hs:St w0 (Sl ad c e 1 cL l::L) w) (s:ByteArray) (h63:l.length+s.size<=1000000000000) :
 ∃ ad' c' w',(Builtin.append_ #[t,u] ty #[.slice ad l.length c,.string s]).run P w=.ok (.slice ad' (l++bF s).length c') w'/\St w0 (Sl ad' c' e 1 cL (l++bF s)::L) w':=by
 have hf:=uH
 have h0:w.ownsRow 0 e 1 (.slice ad l.length c) l.length (l.flatMap λx=>(cL x).toList):=hs.holds _ (List.mem_cons_self ..)
 have hl:(l++bF s).length=l.length+s.size:=by rw [List.length_append,cu]
 have hfl:((l++bF s).flatMap λx=>(cL x).toList)=(l.flatMap λx=>(cL x).toList)++ia s:=by rw [List.flatMap_append,pV]
 have hll:(l.flatMap λx=>(cL x).toList).length=l.length:=by rw [br hf,Nat.mul_one]
 have fresh:∀ cap,St w0 (Sl (some ⟨w.heap.size,0,none⟩) (grownCap w (l.length+s.size) cap e) e 1 cL (l++bF s)::L)
  (w.drew.alloc (.cells ((l.flatMap λx=>(cL x).toList).toArray++(ia s).toArray++Builtin.zeroCells z.cells (grownCap w (l.length+s.size) cap e-(l.length+s.size))) e)):=by
  intro cap
  have hge:=grownCap_ge w (l.length+s.size) cap e
  have hcm:grownCap w (l.length+s.size) cap e<=maxLen:=grownCap_le_maxLen w (l.length+s.size) cap e zS
  refine St.step hs rfl rfl rfl zG (λk hk _=>heap_alloc_old w.drew _ hk) ?_ (λk hk=>⟨.inr ?_,?_⟩)
  ·show World.ownsRow _ 0 e 1 (.slice _ (l++bF s).length _) (l++bF s).length ((l++bF s).flatMap λx=>(cL x).toList)
   rw [hl,hfl]
   refine⟨by rw [List.length_append,hll,dZ,Nat.mul_one],.inr ⟨w.heap.size,_,_,rfl,Nat.zero_le _,heap_alloc_new w.drew _,hge,hcm,?_,?_⟩⟩
   ·simp only [Array.size_append,List.size_toArray,size_zeroCells,hzs,hll,dZ]
    omega
   ·have h9:(l.length+s.size)*1=((l.flatMap λx=>(cL x).toList)++ia s).length:=by rw [List.length_append,hll,dZ,Nat.mul_one]
    simp only [Array.toList_append,List.append_assoc]
    rw [<- List.append_assoc,h9]
    exact List.take_left
  ·have h1:(some w.heap.size:Option Nat)=some k:=hk
   have h2:=Option.some.inj h1
   omega
  ·have h1:(some w.heap.size:Option Nat)=some k:=hk
   have h2:=Option.some.inj h1
   subst h2
   simp
 rcases h0.2 with⟨h3,h4⟩|⟨g,cap,cur,h3,hbg,hg,hnc,hcm,hcs,htake⟩
 ·simp only [Value.slice.injEq] at h3
  obtain⟨rfl,_,rfl⟩:=h3
  have hle:l=[]:=List.eq_nil_of_length_eq_zero h4
  subst hle
  by_cases hm:s.size=0
  ·have hye:bF s=[]:=List.eq_nil_of_length_eq_zero (by rw [cu];exact hm)
   refine⟨none,0,w,?_,by rw [hye];exact hs⟩
   rw [hye]
   simp [Builtin.append_,run_underlying ht,run_underlying hu,sizeOf,typeInfo,hi,Builtin.lenOf,Builtin.firstCells,hm]
  ·have hr:=run_append_nil_string (P:=P) (w:=w) t u ty e ti z ht hu hi hz s za za (by rw [hby];simp only [List.length_nil] at h63;omega)
   have hfr:=fresh 0
   rw [nQ] at hr
   simp only [List.length_nil,Nat.zero_add,List.nil_append,List.flatMap_nil,Array.empty_append] at hfr hr ⊢
   exact⟨_,_,_,by rw [cu];exact hr,hfr⟩
 ·simp only [Value.slice.injEq] at h3
  obtain⟨rfl,_,rfl⟩:=h3
  by_cases hroom:l.length+s.size<=c
  ·have hr:=jS (P:=P) (w:=w) t u ty e ti ht hu hi hsize g l.length c cur hg s hroom za
   refine⟨some ⟨g,0,none⟩,c,_,by rw [hl];exact hr,?_⟩
   have htake':cur.toList.take l.length=l.flatMap λx=>(cL x).toList:=by rw [<- htake,Nat.mul_one]
   have hown':(Sl (some ⟨g,0,none⟩) c e 1 cL (l++bF s)).holds (w.setRow g (cur.toList.take l.length++ia s++cur.toList.drop (l.length+s.size)).toArray):=by
    show World.ownsRow _ 0 e 1 (.slice _ (l++bF s).length c) (l++bF s).length ((l++bF s).flatMap λx=>(cL x).toList)
    rw [hl,hfl]
    refine⟨by rw [List.length_append,hll,dZ,Nat.mul_one],.inr ⟨g,c,_,rfl,Nat.zero_le _,setRow_heap w g cur _ e _ hg,hroom,hcm,?_,?_⟩⟩
    ·simp only [List.size_toArray,List.length_append,List.length_take,List.length_drop,Array.length_toList,dZ]
     omega
    ·rw [htake',Nat.mul_one]
     have h9:l.length+s.size=((l.flatMap λx=>(cL x).toList)++ia s).length:=by rw [List.length_append,hll,dZ]
     rw [h9]
     exact List.take_left
   have hgr:w.grownBy (w.setRow g (cur.toList.take l.length++ia s++cur.toList.drop (l.length+s.size)).toArray) (some g):=⟨rfl,rfl,rfl,by simp,λk _ hk=>setRow_other w g k _ (λe=>hk (by simp [e]))⟩
   refine St.grown hs hgr (λb hb=>hb) hown' (λb hb=>⟨.inl hb,?_⟩)
   have h1:(some g:Option Nat)=some b:=hb
   have h2:=Option.some.inj h1
   subst h2
   exact Nat.lt_of_lt_of_le (Array.getElem?_eq_some_iff.1 hg).1 hgr.size
  ·have holds:∀ j u,(l.flatMap λx=>(cL x).toList)[j]?=some u->w.cell? ((⟨g,0,none⟩:Addr).add j)=some u:=h0.cells (g:=g) rfl
   have hr:=jT (P:=P) (w:=w) t u ty e ti z ht hu hi hz hsize ⟨g,0,none⟩ l.length c _ hll holds s za za (growslice_fits za (by rw [hby];omega))
   exact⟨_,_,_,by rw [hl];exact hr,fresh c⟩
end
section
variable {P : Program} {R0 : Exit -> Act -> World -> Prop} {N : Fr} {Kk : List dS} {S : Env} {w w0 : World} {l : List Oper} {M : List Nat} {A : cE} {rest : PT} {L : List aI}
theorem ar.pW {i:Nat}{o:Oper}(ho:l[i]?=some o) (hw:cn l.toArray S o=some true){t u e:TypeId}(he:ff P t e 1 1) (hu:P.underlying u=some .string){f:Int->Array Value}(hfv:f=cL){ad:Option Addr}{c:Nat}{xs:List Int}{s:ByteArray}
 (hb:kP S o=some (.append,[t,u],[.slice ad xs.length c,.string s])) (hs:St w0 (Sl ad c e 1 f xs::L) w) (hlen:xs.length+s.size<=1000000000000)
 (h:∀ ad' c' w',St w0 (Sl ad' c' e 1 f (xs++bF s)::L) w'->ba w' (opens M A i)/\ar P l M R0 Kk N A rest (S.cP o.dst (.slice ad' (xs++bF s).length c')) w'):ar P l M R0 Kk N A (.ef i rest) S w:=by
 subst hfv
 obtain⟨ti,z,h1,h2,h3,h4,h5⟩:=he.info
 obtain⟨ad',c',w',hr,hs'⟩:=nR (P:=P) (ty:=o.type) he.y5 hu h1 h2 h3 h4 h5 hs s hlen
 obtain⟨k1,k2⟩:=h ad' c' w' hs'
 refine ar.run ho hw _ w' (λa hfit=>.inl ?_) k1 k2
 obtain⟨cs,hrun⟩:=ir (P:=P) hfit hb w
 rw [hrun]
 simp only [builtin,Sem.run_bind]
 rw [hr]
 rfl
end
section
variable {P : Program} {R0 : Exit -> Act -> World -> Prop} {N : Fr} {Kk : List dS} {S : Env} {w w0 : World} {l : List Oper} {M : List Nat} {A : cE} {rest : PT} {L : List aI}
def strOf (xs:List Int):ByteArray:=⟨(xs.map sA).toArray⟩
theorem xN (w:World) (src e:TypeId) (hs:P.underlying src=some (.slice e)) (he:P.underlying e=some (.int .u8)) (p:Option Addr) (c:Nat) (dst:TypeId) (hd:P.underlying dst=some .string) :
 (convert src dst (.slice p 0 c)).run P w=.ok (.string ByteArray.empty) w:=by
 rw [run_convert_bytes_string w src dst e _ 0 c hs he hd]
 cases p<;>simp [Conv.bytesToString,loadCells]
 all_goals rfl
theorem ar.lP {i:Nat}{o:Oper}(ho:l[i]?=some o) (hw:cn l.toArray S o=some true){src dst e:TypeId}{ad:Option Addr}{n cap:Nat}{f:Int->Array Value}(hfv:f=cL) (xs:List Int) (hn:n=xs.length) (ha:nM S o=some (src,dst,.slice ad n cap)) (h1:P.underlying src=some (.slice e)) (h2:P.underlying e=some (.int .u8)) (h3:P.underlying dst=some .string)
 (hb:∀ x∈xs,0<=x/\x<256) (hr:ag w ad xs.length 1 (λk=>f (xs.getD k 0)))
 (h:ar P l M R0 Kk N ((i,[.holds (λw=>ag w ad xs.length 1 (λk=>f (xs.getD k 0)))])::A) rest (S.cP o.dst (.string (strOf xs))) w):ar P l M R0 Kk N A (.rd i rest) S w:=by
 subst hfv hn
 refine ar.read ho hw [.holds (λw=>ag w ad xs.length 1 (λk=>cL (xs.getD k 0)))] _ (λa w' hf hn=>?_) ⟨hr,trivial⟩ h
 have hq:ag w' ad xs.length 1 (λk=>cL (xs.getD k 0)):=hn.1
 by_cases hpos:0<xs.length
 case neg =>
  have hx:xs=[]:=List.length_eq_zero_iff.1 za
  subst hx
  unfold nM at ha
  split at ha
  ·rename_i s' d' x' hop
   split at ha
   ·rename_i v hv
    simp only [Option.some.injEq,Prod.mk.injEq] at ha
    obtain⟨rfl,rfl,rfl⟩:=ha
    have hv':=hf.op hv
    generalize a.eval=ρ at hv' ⊢
    simp only [execOp,hop,hv',Sem.run_bind,xN w' s' e h1 h2 ad cap d' h3,List.length_nil,Result.andThen_ok]
    rfl
   ·cases ha
  ·cases ha
 obtain⟨b,off,rfl,hc⟩:=hq hpos
 have hl:(xs.map sA).length=xs.length:=List.length_map ..
 have hB:Bv b off (xs.map sA) w':=by
  intro j hj
  rw [hl] at hj
  have h5:w'.cell? ⟨b,off+j*1+0,none⟩=(cL (xs.getD j 0))[0]?:=hc j hj 0 za
  have h6:xs.getD j 0=xs[j]:=by rw [List.getD_eq_getElem?_getD,List.getElem?_eq_getElem hj];rfl
  have h7:=hb xs[j] (List.getElem_mem hj)
  rw [Nat.mul_one,Nat.add_zero,h6] at h5
  rw [h5,List.getElem_map,kp h7.1 h7.2]
  rfl
 unfold nM at ha
 split at ha
 ·rename_i s' d' x' hop
  split at ha
  ·rename_i v hv
   simp only [Option.some.injEq,Prod.mk.injEq] at ha
   obtain⟨rfl,rfl,rfl⟩:=ha
   have hv':=hf.op hv
   generalize a.eval=ρ at hv' ⊢
   have hr:=run_convert_bytes_back (P:=P) w' s' d' e ⟨b,off,none⟩ cap (xs.map sA) h1 h2 h3 (λj hj=>by rw [eE];exact hB j hj)
   rw [hl] at hr
   simp only [execOp,hop,hv',Sem.run_bind,hr,Result.andThen_ok]
   rfl
  ·cases ha
 ·cases ha
end
section
variable {P : Program} {R0 : Exit -> Act -> World -> Prop} {N : Fr} {Kk : List dS} {S : Env} {w w0 : World} {l : List Oper} {M : List Nat} {A : cE} {rest : PT} {L : List aI}
variable {α β : Type} [DecidableEq α] {ek : α -> Value} {ev : β -> Value} {T K E : TypeId}
def wO (S:Env) (o:Oper):Option (TypeId×Value×Value×Value) :=
 match o.op with
 | .insert t x i y=>match S.op x,S.op i,S.op y with
  | some m,some k,some v=>some (t,m,k,v)
  | _,_,_=>none
 | _=>none
theorem ar.insert {i:Nat}{o:Oper}(ho:l[i]?=some o) (hw:cn l.toArray S o=some true) (hl:dI P T ek ev K E){r:Nat}{k:α}{v:β}(ha:wO S o=some (T,.map (some r),ek k,ev v)) (hs:St w0 L w) (j:Nat){m:List (α×β)}(hj:L[j]?=some (bC ek ev r m))
 (h:∀ w',St w0 (bC ek ev r (dj m k v)::L.eraseIdx j) w'->ba w' (opens M A i)/\ar P l M R0 Kk N A rest (S.cP o.dst undef) w'):ar P l M R0 Kk N A (.ef i rest) S w:=by
 obtain⟨w',hr,hs'⟩:=ka hl (k:=k) (v:=v) (hs.pull j hj)
 obtain⟨k1,k2⟩:=h w' hs'
 refine ar.run ho hw _ _ (λa hf=>.inr ⟨?_,rfl⟩) k1 k2
 unfold wO at ha
 split at ha
 ·rename_i t' x' i' y' hop
  split at ha
  ·rename_i m' k' v' h1 h2 h3
   simp only [Option.some.injEq,Prod.mk.injEq] at ha
   obtain⟨rfl,rfl,rfl,rfl⟩:=ha
   have h1':=hf.op h1
   have h2':=hf.op h2
   have h3':=hf.op h3
   generalize a.eval=ρ at h1' h2' h3' ⊢
   simp only [execOp,hop,h1',h2',h3',Sem.run_bind,hr,Result.andThen_ok]
   rfl
  ·cases ha
 ·cases ha
def nS (P:Program) (N:Fr) (R0:Exit->Act->World->Prop) (K:List dS) (c:Code):Nat->Act->World->Prop
 | 0,_,_=>False
 | n+1,a,w=>c.wpIn (dn N.r) 0 P (Exit.then (nS P N R0 K c n) (KQ P N R0 K)) a w
theorem Exit.xP {Q:Exit->Act->World->Prop}{I J:Act->World->Prop}(h:∀ a w,I a w->J a w){e:Exit}{a:Act}{w:World}(x:Exit.then I Q e a w):Exit.then J Q e a w:=by
 cases e
 case normal=>exact h a w x
 all_goals exact x
theorem aE.dJ {c:Code}(n:Nat) (h:aE P R0 N (.lp (nS P N R0 Kk c n)::Kk) c S w):aE P R0 N Kk (.loop c) S w:=λa hf =>
 iY (λn=>nS P N R0 Kk c n) id (λx a w h=>by
  cases x with
  | zero=>exact False.elim h
  | succ m =>
   exact wpIn_mono h λe a w hq=>Exit.xP (λ_ _ h=>⟨m,Nat.lt_succ_self m,h⟩) hq) (n+1) a w (h a hf)
theorem aw.again {c:Code}{n:Nat}(h:aE P R0 N (.lp (nS P N R0 Kk c n)::Kk) c S w):aw P R0 N (.lp (nS P N R0 Kk c (n+1))::Kk) .normal S w:=λa hf=>h a hf
end
theorem wQ {k:IntKind}{x y:Int}:Value.int k (if y>x then y else x)=Value.int k (max x y):=by
 congr 1
 by_cases h:y>x
 ·rw [if_pos h];omega
 ·rw [if_neg h];omega
theorem nV:∀ (vs pre jU post:List Value),jU.length=vs.length->bI (pre++jU++post).toArray pre.length vs=(pre++vs++post).toArray
 | [],pre,jU,post,h=>by
  have:jU=[]:=List.length_eq_zero_iff.1 h
  subst this
  rfl
 | v::vs,pre,m::jU,post,h=>by
  have h1:jU.length=vs.length:=by simpa using h
  have e:((pre++m::jU++post).toArray.setIfInBounds pre.length v)=((pre++[v])++jU++post).toArray:=by
   apply Array.ext'
   simp [List.set_append]
  have ih:=nV vs (pre++[v]) jU post h1
  rw [List.length_append] at ih
  show bI ((pre++m::jU++post).toArray.setIfInBounds pre.length v) (pre.length+1) vs=_
  rw [e]
  rw [show pre.length+1=pre.length+[v].length from rfl,ih]
  congr 1
  simp
 | _::_,_,[],_,h=>by simp at h
def gi {α:Type}(l:List α) (a:Nat) (ys:List α):List α:=l.take a++ys++l.drop (a+ys.length)
theorem mx {α:Type}{l ys:List α}{a:Nat}(h:a+ys.length<=l.length):(gi l a ys).length=l.length:=by
 simp only [gi,List.length_append,List.length_take,List.length_drop];omega
theorem sK {α:Type}{f:α->Array Value}{size:Nat}(hf:∀ x,(f x).size=size){l ys:List α}{a:Nat}(h:a+ys.length<=l.length):bI (ae f l) (a*size) (ys.flatMap λx=>(f x).toList)=ae f (gi l a ys):=by
 have e1:l=l.take a++(l.drop a).take ys.length++l.drop (a+ys.length):=by
  rw [List.append_assoc,<- List.drop_drop,List.take_append_drop,List.take_append_drop]
 have:=nV (ys.flatMap λx=>(f x).toList) ((l.take a).flatMap λx=>(f x).toList) (((l.drop a).take ys.length).flatMap λx=>(f x).toList) ((l.drop (a+ys.length)).flatMap λx=>(f x).toList)
  (by rw [br hf,br hf,List.length_take,List.length_drop];congr 1;omega)
 rw [show((l.take a).flatMap λx=>(f x).toList).length=a*size by rw [br hf,List.length_take];congr 1;omega] at this
 rw [<- List.flatMap_append,<- List.flatMap_append,<- e1,<- List.flatMap_append,<- List.flatMap_append] at this
 exact this
theorem pZ {α:Type}{f:α->Array Value}{size:Nat}(hf:∀ x,(f x).size=size) (d:α) (n:Nat) (hp:0<size):madeCells (f d) (n*size)=ae f (List.replicate n d):=by
 apply Array.ext_getElem?
 intro i
 by_cases hi:i<n*size
 ·have h1:i / size<n:=Nat.div_lt_of_lt_mul (by rw [Nat.mul_comm];exact hi)
  have h2:i % size<size:=Nat.mod_lt _ hp
  have h3:=iH (f:=f) (l:=List.replicate n d) hf d (k:=i / size) (j:=i % size) (by rw [List.length_replicate];exact h1) h2
  rw [show i / size*size+i % size=i by rw [Nat.mul_comm];exact Nat.div_add_mod i size] at h3
  rw [h3]
  have h4:(List.replicate n d).getD (i / size) d=d:=by
   rw [List.getD_eq_getElem?_getD,List.getElem?_replicate];split<;>rfl
  rw [h4]
  unfold madeCells
  rw [hf d,Array.getElem?_map,Array.getElem?_range,if_pos hi]
  simp only [Option.map_some]
  rw [getElem!_pos (f d) (i % size) (by rw [hf d];exact h2),getElem?_pos (f d) (i % size) (by rw [hf d];exact h2)]
 ·rw [Array.getElem?_eq_none (by rw [size_madeCells];omega),Array.getElem?_eq_none (by rw [dV hf,List.length_replicate];omega)]
section
variable {P : Program} {R0 : Exit -> Act -> World -> Prop} {N : Fr} {K : List dS} {S : Env} {w w0 : World} {l : List Oper} {M : List Nat} {A : cE} {rest : PT} {L : List aI}
def re (S:Env) (o:Oper):Option (TypeId×Value×Value) :=
 match o.op with
 | .makeSlice t x y=>match S.op x,S.op y with
  | some a,some b=>some (t,a,b)
  | _,_=>none
 | _=>none
theorem ar.Ck {α:Type}{i:Nat}{o:Oper}(ho:l[i]?=some o) (hw:cn l.toArray S o=some true){t e:TypeId}{size bytes:Nat}(he:ff P t e size bytes){f:α->Array Value}(hf:dE f size){b off dLen dCap n:Nat}{cs:Array Value}{T:TypeId}{ys:List α}{adx:Option Addr}{cx:Nat}(d:α) (hn:n=ys.length)
 (hb:kP S o=some (.copy,[t,t],[.slice (some ⟨b,off,none⟩) dLen dCap,.slice adx n cx])) (hs:St w0 (ah b cs T::L) w) (hx:ag w adx ys.length size (λk=>f (ys.getD k d))) (hfit:off+min ys.length dLen*size<=cs.size){cs':Array Value}(hcs:bI cs off ((ys.take (min ys.length dLen)).flatMap λx=>(f x).toList)=cs')
 (h:∀ w',St w0 (ah b cs' T::L) w'->ba w' (opens M A i)/\ar P l M R0 K N A rest (S.cP o.dst (.int .i64 (min ys.length dLen:Nat))) w'):ar P l M R0 K N A (.ef i rest) S w:=by
 subst hn
 exact ar.copy ho hw he hf d hb hs hx hfit hcs h
theorem ar.makeSlice {α:Type}{i:Nat}{o:Oper}(ho:l[i]?=some o) (hw:cn l.toArray S o=some true){t e:TypeId}{n:Nat}(ha:re S o=some (t,.int .i64 (n:Int),.int .i64 (n:Int))) (he:P.underlying t=some (.slice e)){ti:TypeInfo}(hi:P.info? e=some ti){z:Value}(hz:ti.zero=some z){f:α->Array Value}(d:α) (hzc:z.cells=f d){size:Nat}(hsz:ti.size=size) (hf:dE f size) (hp:0<size) (hn:n<=100000) (hby:ti.bytes<=100000) (hs:St w0 L w)
 (h:∀ b w',St w0 (ah b (ae f (List.replicate n d)) e::L) w'->ba w' (opens M A i)/\ar P l M R0 K N A rest (S.cP o.dst (.slice (some ⟨b,0,none⟩) n n)) w'):ar P l M R0 K N A (.ef i rest) S w:=by
 have hbn:ti.bytes*n<=281474976710656:=by
  have:=Nat.mul_le_mul hby hn
  omega
 have hr:=run_make (P:=P) w t e ti z he hi hz .i64 .i64 (n:Int) (n:Int) za (Int.le_refl _) (by rw [<- Int.natCast_mul];omega) za
 rw [Int.toNat_natCast,hzc,hsz,pZ hf.size d n hp] at hr
 obtain⟨k1,k2⟩:=h _ _ (hs.il (ae f (List.replicate n d)) e)
 refine ar.run ho hw _ _ (λa hfit=>.inl ?_) k1 k2
 unfold re at ha
 split at ha
 ·rename_i t' x y hop
  split at ha
  ·rename_i a1 b1 h1 h2
   simp only [Option.some.injEq,Prod.mk.injEq] at ha
   obtain⟨rfl,rfl,rfl⟩:=ha
   have e1:=hfit.op h1
   have e2:=hfit.op h2
   generalize a.eval=ρ at e1 e2 ⊢
   simp only [execOp,hop,e1,e2,Sem.run_bind,hr,Result.andThen_ok]
   rfl
  ·cases ha
 ·cases ha
end
theorem vq {P:Program}(e:TypeId) (cs:Array Value) (w1:World):(newRow e cs).run P w1=.ok ⟨w1.heap.size,0,none⟩ { w1 with heap:=w1.heap.push (.cells cs e) }:=rfl
theorem rz {P:Program}(e:TypeId) (s:ByteArray) (hs:s.size<=1000000000) (w:World):∃ cap,s.size<=cap/\cap<=9223372036854775807/\(Conv.stringToBytes e s).run P w=.ok (.slice (some ⟨w.heap.size,0,none⟩) s.size cap)
 { w with drawn:=w.drawn+1,heap:=w.heap.push (.cells ((s.toList.map λb=>Value.int .u8 (b.toNat:Int))++List.replicate (cap-s.size) (Value.int .u8 0)).toArray e (((s.toList.map λb=>Value.int .u8 (b.toNat:Int))++List.replicate (cap-s.size) (Value.int .u8 0)).length,((s.toList.map λb=>Value.int .u8 (b.toNat:Int))++List.replicate (cap-s.size) (Value.int .u8 0)).length+1)) }:=by
 refine⟨grownCap w s.size 0 e,grownCap_ge w s.size 0 e,grownCap_le_maxLen w s.size 0 e zS,?_⟩
 have harr:(s.data.map λb=>Value.int .u8 (b.toNat:Int))++Array.replicate (grownCap w s.size 0 e-s.size) (Value.int .u8 0)=((s.toList.map λb=>Value.int .u8 (b.toNat:Int))++List.replicate (grownCap w s.size 0 e-s.size) (Value.int .u8 0)).toArray:=by
  apply Array.ext'
  simp [ByteArray.toList_eq]
 have hch:(choose (.appendCap s.size 0 e)).run P w=.ok (grownCap w s.size 0 e) { w with drawn:=w.drawn+1 }:=by
  simp [choose,Sem.run,Question.forced,grownCap]
 simp only [Conv.stringToBytes,Sem.run_bind,hch,Result.andThen_ok]
 rw [harr,vq]
 generalize ((s.toList.map λb=>Value.int .u8 (b.toNat:Int))++List.replicate (grownCap w s.size 0 e-s.size) (Value.int .u8 0))=l
 have hsh:World.shape? { w with drawn:=w.drawn+1,heap:=w.heap.push (.cells l.toArray e) } w.heap.size=some (e,l.length):=by
  simp [World.shape?]
 have hfz:World.freeze { w with drawn:=w.drawn+1,heap:=w.heap.push (.cells l.toArray e) } { block:=w.heap.size,off:=l.length } 1={ w with drawn:=w.drawn+1,heap:=w.heap.push (.cells l.toArray e (l.length,l.length+1)) }:=by
  simp only [World.freeze,Nat.one_ne_zero,if_false]
  congr 1
  apply Array.ext_getElem?
  intro k
  rw [Array.getElem?_modify]
  by_cases hk:w.heap.size=k
  ·subst hk;simp
  ·rw [if_neg hk]
   simp only [Array.getElem?_push]
   rw [if_neg (λe=>hk e.symm),if_neg (λe=>hk e.symm)]
 simp only [Result.andThen_ok,markStringish,shape,freeze,bind,Sem.bind,Sem.run,hsh,hfz,pure]
theorem AB (l:List Int):l=(List.range l.length).map (λi=>l.getD i 0):=by
 apply List.ext_getElem zG
 intro i h1 h2
 simp [List.getD_eq_getElem?_getD,List.getElem?_eq_getElem h1]
section
variable {P : Program} {R0 : Exit -> Act -> World -> Prop} {N : Fr} {Kk : List dS} {S : Env} {w w0 : World} {l : List Oper} {M : List Nat} {A : cE} {rest : PT} {L : List aI}
theorem AD (m:Nat):((List.replicate m (0:Int)).flatMap λx=>(cL x).toList)=List.replicate m (Value.int .u8 0):=by
 induction m with
 | zero=>rfl
 | succ m ih=>rw [List.replicate_succ,List.replicate_succ,List.flatMap_cons,ih];rfl
theorem tc (s:ByteArray) (m:Nat):(ae cL (bF s++List.replicate m 0)).toList=ia s++List.replicate m (Value.int .u8 0):=by
 show((bF s++List.replicate m 0).flatMap λx=>(cL x).toList).toArray.toList=_
 rw [List.flatMap_append,pV,AD]
theorem ar.td {i:Nat}{o:Oper}(ho:l[i]?=some o) (hw:cn l.toArray S o=some true){src dst e:TypeId}{f:Int->Array Value}(hfv:f=cL) (s:ByteArray) (ha:nM S o=some (src,dst,.string s)) (h1:P.underlying src=some .string) (h2:P.underlying dst=some (.slice e)) (h3:P.underlying e=some (.int .u8)) (hsz:s.size<=1000000000) (hs:St w0 L w)
 (h:∀ b m w',St w0 (ah b (ae f (bF s++List.replicate m 0)) e::L) w'->ba w' (opens M A i)/\ar P l M R0 Kk N A rest (S.cP o.dst (.slice (some ⟨b,0,none⟩) (bF s).length ((bF s).length+m))) w'):ar P l M R0 Kk N A (.ef i rest) S w:=by
 subst hfv
 obtain⟨cap,hc,hcm,hr⟩:=rz (P:=P) e s hsz w
 have harr:((s.toList.map λb=>Value.int .u8 (b.toNat:Int))++List.replicate (cap-s.size) (Value.int .u8 0))=(ae cL (bF s++List.replicate (cap-s.size) 0)).toList:=by
  rw [tc,ByteArray.toList_eq];rfl
 rw [harr] at hr
 have hcap:cap=(bF s).length+(cap-s.size):=by rw [cu];omega
 have hs2:St w0 (ah w.heap.size (ae cL (bF s++List.replicate (cap-s.size) 0)) e::L) { w with drawn:=w.drawn+1,heap:=w.heap.push (.cells (ae cL (bF s++List.replicate (cap-s.size) 0)).toList.toArray e ((ae cL (bF s++List.replicate (cap-s.size) 0)).toList.length,(ae cL (bF s++List.replicate (cap-s.size) 0)).toList.length+1)) }:=by
  have hd:St w0 L { w with drawn:=w.drawn+1 }:=hs.drew
  refine St.new hd rfl rfl rfl zG (λb hb=>?_) ⟨((ae cL (bF s++List.replicate (cap-s.size) 0)).size,(ae cL (bF s++List.replicate (cap-s.size) 0)).size+1),by simp,λi hi h=>?_⟩ (λb hb=>?_)
  ·have hb':b<w.heap.size:=hb
   simp only [Array.getElem?_push];rw [if_neg za]
  ·omega
  ·have:b=w.heap.size:=hb
   subst this
   simp
 obtain⟨k1,k2⟩:=h _ _ _ hs2
 refine ar.run ho hw _ _ (λa hfit=>.inl ?_) k1 k2
 unfold nM at ha
 split at ha
 ·rename_i s' d' x' hop
  split at ha
  ·rename_i v hv
   simp only [Option.some.injEq,Prod.mk.injEq] at ha
   obtain⟨rfl,rfl,rfl⟩:=ha
   have hv':=hfit.op hv
   generalize a.eval=ρ at hv' ⊢
   have hcv:(convert s' d' (ρ x')).run P w=(Conv.stringToBytes e s).run P w:=by
    rw [hv']
    simp only [convert,Sem.run_bind,run_underlying h1,run_underlying h2,Result.andThen_ok,run_underlying h3]
   simp only [execOp,hop,Sem.run_bind,hcv,hr,Result.andThen_ok,Sem.run_pure]
   rw [<- hcap,cu]
  ·cases ha
 ·cases ha
theorem mF {w:World}{L:List aI}{b e m:Nat}{s:ByteArray}(hs:St w0 L w) (j:Nat) (hj:L[j]?=some (ah b (ae cL (bF s++List.replicate m 0)) e)):ag w (some ⟨b,0,none⟩) (bF s).length 1 (λk=>cL ((bF s).getD k 0)):=by
 have h:=au hs j hj (f:=cL) (size:=1) (λ_=>rfl) (0:Int)
 have h2:=ag.sC h (bF s).length zG
 rw [List.take_left' rfl] at h2
 exact h2
end
section
variable {P : Program} {R0 : Exit -> Act -> World -> Prop} {N : Fr} {K : List dS} {S : Env} {w w0 : World} {l : List Oper} {M : List Nat} {A : cE} {rest : PT} {L : List aI} {n b D : Nat} {φ : Value -> World -> Prop} {body asg : Code}
theorem St.oG {o o':Obj}(hs:St w0 (mU b o::L) w):St w0 (mU b o'::L) (w.putObj b o'):=by
 have hlt:=hs.lt (mU b o) (List.mem_cons_self ..) b rfl
 refine St.step hs rfl rfl rfl zG (λk _ hn=>World.putObj_heap_other λe=>hn e) (World.putObj_heap_same hlt) (λk hk=>⟨.inl hk,?_⟩)
 have:k=b:=hk
 rw [this]
 simpa using hlt
def Yl (P:Program) (b:Nat) (args:Array Value) (w:World) (φ:Value->World->Prop):Prop :=
 ∃ f tmps asg body,(Instr.yield b args).run P w=.ok (.round b f tmps asg body) w/\RoundIn (dn none) 0 P b f tmps asg body w (aZ φ)
theorem Yl.mono {args:Array Value}{ψ:Value->World->Prop}(h:Yl P b args w φ) (hm:∀ v w',φ v w'->ψ v w'):Yl P b args w ψ:=by
 obtain⟨f,tmps,asg,body,h1,h2⟩:=h
 refine⟨f,tmps,asg,body,h1,RoundIn.mono h2 λe w' he=>?_⟩
 cases e with
 | returned v=>exact hm v w' he
 | panicked c=>exact he.elim
 | outgrown=>exact he.elim
def qy (S:Env) (c:Call):Option (Nat×Array Value) :=
 match c.callee with
 | .value x =>
  match S.op x,S.ops c.args.toList with
  | some (.func (.yield b) ⟨[]⟩ ⟨[]⟩),some vs=>some (b,vs.toArray)
  | _,_=>none
 | _=>none
theorem ar.yield {i:Nat}{o:Oper}{c:Call}(ho:l[i]?=some o) (hop:o.op=.call c) (hw:cn l.toArray S o=some true){args:Array Value}(hc:qy S c=some (b,args)) (spec:Yl P b args w φ)
 (h:∀ v w',φ v w'->ba w' (opens M A i)/\ar P l M R0 K N A rest (S.cP o.dst v) w'):ar P l M R0 K N A (.ef i rest) S w:=λhN a hf=>by
 have ho':l.toArray[i]?=some o:=by simpa using ho
 obtain⟨f,tmps,asg,body,hy,hround⟩:=spec
 have run:(execOp a.eval o).run P w=.ok (.round b f tmps asg body) w:=by
  unfold qy at hc
  split at hc
  ·rename_i x hx
   split at hc
   ·rename_i b' vs h1 h2
    simp only [Option.some.injEq,Prod.mk.injEq] at hc
    obtain⟨rfl,rfl⟩:=hc
    have h1':=hf.op h1
    have h2':=hf.ops h2
    have h3:c.args.map a.eval=vs.toArray:=by
     rw [<- h2']
     apply Array.ext'
     simp
    generalize a.eval=ρ at h1' h3 ⊢
    simp [execOp,hop,resolve,hx,h1',h3,Deferred.ofValue,invoke,go_sem]
    exact hy
   ·cases hc
  ·cases hc
 refine bO.ef ?_
 show wpOpIn (dn N.r) 0 P l.toArray _ i _ a w
 unfold wpOpIn
 simp only [ho',dC hf hw (eS hN),if_true]
 refine⟨λ_ _=>trivial,?_⟩
 rw [Oper.semAt_eq _ _ _ (λc' e=>by rw [hop] at e;cases e),run]
 simp only [Oper.uponIn]
 refine⟨λh=>by simp [dn,Fence.wide] at h,RoundIn.mono (F:=dn none) hround λe w' he=>?_⟩
 cases e with
 | returned v =>
  obtain⟨h1,h2⟩:=h v w' he
  exact⟨ja h1,h2 hN _ (hf.cP (dY hN i o ho') v)⟩
 | panicked c=>exact he.elim
 | outgrown=>exact he.elim
def RP (P:Program) (b:Nat) (φ:Value->World->Prop):Exit->Act->World->Prop:=roundPost P b (aZ φ)
def RA (P:Program) (b:Nat) (body:Code) (φ:Value->World->Prop):Exit->Act->World->Prop :=
 Exit.then (λa₁ w₁=>∃ w₂,(Instr.beginRound b).run P w₁=.ok () w₂/\body.wpIn (dn (some b)) 0 P (RP P b φ) a₁ w₂) (λ_ _ _=>False)
theorem RP.pO:ny (RP P b φ):=λ_ _ _ h=>h
theorem Yl.of {r:Loop}{p:Tmp}{v:Value}(hs:St w0 (mU b (.loop r)::L) w) (hps:r.params=#[p]) (hf:Fits ⟨n,[],some b⟩ S ⟨r.tmps,[]⟩) (hp:p<n)
 (h:aE P (RA P b r.body φ) ⟨n,[],some b⟩ [] r.assign (S.set p v) w):Yl P b #[v] w φ:=by
 have hr:w.heap[b]?=some (.loop r):=hs.holds _ (List.mem_cons_self ..)
 refine⟨_,_,_,_,run_yield hr (by rw [hps];rfl),roundIn_of_wpIn (F:=dn none) trivial ?_⟩
 refine h _ ?_
 have h1:=hf.set hp v
 rw [hps]
 simpa [Act.put] using h1
theorem aw.begin {r:Loop}(hs:St w0 (mU b (.loop r)::L) w) (hr:r.state=.ready) (h:∀ w',St w0 (mU b (.loop { r with state:=.busy })::L) w'->aE P (RP P b φ) ⟨n,[],some b⟩ [] body S w') :
 aw P (RA P b body φ) ⟨n,[],some b⟩ [] .normal S w:=λa hf =>
 ⟨_,run_beginRound (hs.holds _ (List.mem_cons_self ..)) hr,h _ hs.oG a hf⟩
theorem aw.on {r:Loop}(hst:r.state=.ready) (hpd:r.pending=none) (hs:St w0 (mU b (.loop { r with state:=.busy })::L) w) (h:∀ w',St w0 (mU b (.loop r)::L) w'->φ (.bool true) w'):aw P (RP P b φ) N [] .normal S w:=λa hf=>by
 obtain⟨st,pd,f,t,p,a1,b1,d⟩:=r
 obtain rfl:st=.ready:=hst
 obtain rfl:pd=none:=hpd
 exact⟨_,_,run_endRound none (hs.holds _ (List.mem_cons_self ..)),h _ hs.oG⟩
theorem aw.off {r:Loop}(hs:St w0 (mU b (.loop { r with state:=.busy })::L) w) (h:∀ w',St w0 (mU b (.loop { r with state:=.done,pending:=some .ret })::L) w'->φ (.bool false) w'):aw P (RP P b φ) N [] .ret S w:=λa hf =>
 ⟨_,_,run_endRound (some .ret) (hs.holds _ (List.mem_cons_self ..)),h _ hs.oG⟩
def tv:List aI->aI
 | []=>St.nothing
 | A::l=>A.and (tv l)
theorem St.ki:∀ {l L:List aI},St w0 (l++L) w->St w0 (tv l::L) w
 | [],_,h=>h.iE
 | A::l,L,h=>St.join ((St.ki (l:=l) (L:=A::L) (h.perm List.perm_middle.symm)).perm (List.Perm.swap _ _ _))
theorem St.splits:∀ {l L:List aI},St w0 (tv l::L) w->St w0 (l++L) w
 | [],_,h=>h.tail
 | A::l,L,h=>(St.splits (l:=l) (L:=A::L) (h.split.perm (List.Perm.swap _ _ _))).perm List.perm_middle
theorem qz {ty:TypeId}{p:Addr}{v:Value}(ha:dU P ty=false) (hu:(P.underlying ty).isSome=true) (hc:w.cell? p=some v):(loadVar ty p).run P w=.ok v w:=by
 obtain⟨d,hd⟩:=Option.isSome_iff_exists.1 hu
 have h3:(isAgg ty).run P w=.ok false w:=by
  simp only [dU,hd] at ha
  simp only [isAgg,Sem.run_bind,run_underlying hd,Result.andThen_ok]
  cases d<;>first|rfl|simp at ha
 simp only [loadVar,Sem.run_bind,h3,Result.andThen_ok,Bool.false_eq_true,if_false]
 simp [load,Sem.run,hc]
def DJ (P:Program) (S:Env) (w:World) (t:Tmp) (ty:TypeId) (v:Value):Prop:=∃ p,S.get t=some (.pointer (some p))/\(loadVar ty p).run P w=.ok v w
theorem DJ.of {t:Tmp}{ty:TypeId}{v:Value}{c:Nat}(hg:S.get t=some (.pointer (some ⟨c,0,none⟩))) (ha:dU P ty=false) (hu:(P.underlying ty).isSome=true) (hc:w.cell? ⟨c,0,none⟩=some v):DJ P S w t ty v:=⟨_,hg,qz ha hu hc⟩
theorem results3 {fn:Func}{t1 t2 t3:Tmp}{v1 v2 v3:Value}(hr:fn.results=#[.tmp t1,.tmp t2,.tmp t3]) (h1:S.get t1=some v1) (h2:S.get t2=some v2) (h3:S.get t3=some v3) (a:Act) (hf:Fits N S a):(results fn a.tmps).run P w=.ok (.tuple #[v1,v2,v3]) w:=by
 have e1:=hf.get h1
 have e2:=hf.get h2
 have e3:=hf.get h3
 rw [Array.getD_eq_getD_getElem?] at e1 e2 e3
 unfold results
 rw [hr]
 simp [e1,e2,e3,Sem.run_bind]
abbrev mark (D:Nat):Deferred:={ target:=.collected D,args:=#[] }
theorem lA {N N':Fr}(h:N.r=N'.r):∀ K,KQ P N R0 K=KQ P N' R0 K
 | []=>rfl
 | .code c::k=>by simp only [KQ,lA h k,h]
 | .oW id::k=>by simp only [KQ,lA h k]
 | .lp I::k=>by simp only [KQ,lA h k]
theorem aE.range {g:Operand}{ps:Array Tmp}{f:FuncId}{fst cap:Array Value}(hg:S.op g=some (.func (.func f) fst cap)) (hcall:∀ args w,(callFunc f args).run P w=.ok (.enter f args) w) (hs:St w0 L w)
 (h:∀ (b D:Nat) (r:Loop) (w1:World),r.state=.ready->r.pending=none->r.params=ps->r.assign=asg->r.body=body->Fits ⟨n,[],some b⟩ S ⟨r.tmps,[]⟩->St w0 (mU b (.loop r)::mU D (.deferred (some []))::L) w1 ->
  Calls P f (fst.toList++[Value.func (.yield b) #[] #[]]++cap.toList).toArray w1 (aZ λ_ w2=>∃ (r2:Loop) (L2:List aI),St w0 (mU b (.loop r2)::L2) w2/\r2.state≠.busy /\
   ((r2.pending=none/\∀ w3,St w0 L2 w3->aw P R0 ⟨n,[mark D],none⟩ K .normal S w3)\/(r2.pending=some .ret/\∀ w3,St w0 L2 w3->aw P R0 ⟨n,[mark D],none⟩ K .ret S w3)))) :
 aE P R0 ⟨n,[],none⟩ K (.rangeFunc g ps asg body) S w:=λa hf=>by
 refine wpIn_rangeFunc λfn _=>?_
 have hs1:St w0 (mU w.heap.size (.deferred (some []))::L) (w.alloc (.deferred (some []))):=hs.ux _
 have hs2:=hs1.ux (.loop { state:=.ready,pending:=none,fn:=fn,tmps:=a.tmps,params:=ps,assign:=asg,body:=body,defers:=w.heap.size })
 have hsz:(w.alloc (.deferred (some []))).heap.size=w.heap.size+1:=World.size_alloc _ _
 rw [hsz] at hs2
 have hc:=h _ _ _ _ rfl rfl rfl rfl rfl ⟨rfl,hf.size,hf.at_⟩ hs2
 obtain⟨W1,hW1⟩:∃ W1:World,(w.alloc (.deferred (some []))).alloc (.loop { state:=.ready,pending:=none,fn:=fn,tmps:=a.tmps,params:=ps,assign:=asg,body:=body,defers:=w.heap.size })=W1:=⟨_,rfl⟩
 have hE:(Instr.enterLoop fn a.tmps ps asg body none).run P w=.ok (w.heap.size+1,[mark w.heap.size]) W1:=by rw [<- hW1];exact run_enterLoop_outer _ _ _ _ _
 change Calls P f _ ((w.alloc (.deferred (some []))).alloc (.loop { state:=.ready,pending:=none,fn:=fn,tmps:=a.tmps,params:=ps,assign:=asg,body:=body,defers:=w.heap.size })) _ at hc
 rw [hW1] at hc
 refine⟨_,_,W1,{ target:=.fn (.func f) cap,args:=fst++#[Value.func (.yield (w.heap.size+1)) #[] #[]] },W1,f,(fst.toList++[Value.func (.yield (w.heap.size+1)) #[] #[]]++cap.toList).toArray,W1,hE,?_,λ_ _=>trivial,?_,(λh=>by simp [dn,Fence.wide] at h),?_⟩
 ·simp only [resolve,hf.op hg]
  simp [Deferred.ofValue,go_sem,Act.eval]
 ·have h5:(fst++#[Value.func (.yield (w.heap.size+1)) #[] #[]])++cap=(fst.toList++[Value.func (.yield (w.heap.size+1)) #[] #[]]++cap.toList).toArray:=by
   apply Array.ext'
   simp
  simp only [invoke]
  rw [h5]
  exact hcall _ _
 ·refine hX.2 (Calls.mono hc λe w3 he=>?_)
  cases e with
  | panicked c=>exact he.elim
  | outgrown=>exact he.elim
  | returned v =>
   obtain⟨⟨st2,pd2,f2,t2,p2,a2,b2,d2⟩,L2,h1,h2,h3⟩:=he
   have hr:=h1.holds _ (List.mem_cons_self ..)
   have hf':Fits ⟨n,[mark w.heap.size],none⟩ S { a with defers:=[mark w.heap.size]++a.defers }:=⟨by rw [show a.defers=[] from hf.defers];rfl,hf.size,hf.at_⟩
   have hk:KQ P ⟨n,[],none⟩ R0 K=KQ P ⟨n,[mark w.heap.size],none⟩ R0 K:=lA (N:=⟨n,[],none⟩) (N':=⟨n,[mark w.heap.size],none⟩) rfl K
   refine⟨pd2,_,run_endLoop hr h2,?_⟩
   rw [hk]
   have h4:=(h1.oG (o':=.loop ⟨.exhausted,pd2,f2,t2,p2,a2,b2,d2⟩)).tail
   rcases h3 with⟨hp,h3⟩|⟨hp,h3⟩
   ·obtain rfl:pd2=none:=hp
    exact h3 _ h4 _ hf'
   ·obtain rfl:pd2=some .ret:=hp
    exact wpIn_ret (h3 _ h4 _ hf')
def BP (P:Program) (fn:Func) (φ:Value->World->Prop):Exit->Act->World->Prop:=λe a w=>(e=.ret\/e=.normal)/\LeavesInM (dn none) 0 P fn a.tmps (aZ φ) a.defers .returning w
theorem BP.pO {fn:Func}:ny (BP P fn φ):=λ_ _ _ h=>by rcases h.1 with h|h<;>cases h
theorem CY {f:FuncId}{fn:Func}{c:Code}{args:List Value}(hf:P.funcs[f]?=some fn) (hb:fn.body=some c) (hn:fn.ntmps=n) (hl:args.length<=n)
 (h:aE P (BP P fn φ) ⟨n,[],none⟩ [] c (nz 0 args) w):Calls P f args.toArray w (aZ φ):=by
 refine(hX (r:=none) (n:=0)).1 (callsIn_of_wp_marks hf hb trivial (wpIn_mono (h _ ⟨rfl,by simp [hn];omega,λp hp=>?_⟩) λe a w hq=>?_))
 ·obtain⟨_,h2⟩:=iZ args 0 p hp
  simp only [Nat.sub_zero] at h2
  have h3:p.1<args.length:=(List.getElem?_eq_some_iff.1 h2).1
  simp only [Array.getD_eq_getD_getElem?]
  rw [Array.getElem?_append_left (by simpa using h3)]
  simp [h2]
 ·rcases hq.1 with rfl|rfl<;>exact hq.2
theorem aw.DL {fn:Func}{e:Exit}(he:e=.ret\/e=.normal){v:Value}(hr:∀ a,Fits ⟨n,[],none⟩ S a->(results fn a.tmps).run P w=.ok v w) (h:φ v w):aw P (BP P fn φ) ⟨n,[],none⟩ [] e S w :=
 λa hf=>⟨he,by rw [show a.defers=[] from hf.defers];exact⟨v,hr a hf,h⟩⟩
theorem aw.leave {fn:Func}{e:Exit}(h1:St w0 (mU D (.deferred (some []))::L) w) (h:∀ w',St w0 L w'->aw P (BP P fn φ) ⟨n,[],none⟩ [] e S w'):aw P (BP P fn φ) ⟨n,[mark D],none⟩ [] e S w:=λa hf=>by
 obtain⟨he,h2⟩:=h _ (h1.oG (o':=.deferred none)).tail { a with defers:=[] } ⟨rfl,hf.size,hf.at_⟩
 refine⟨he,?_⟩
 rw [show a.defers=[mark D] from hf.defers]
 exact⟨by simp,.inl ⟨D,_,rfl,run_takeDeferred (h1.holds _ (List.mem_cons_self ..)),h2⟩⟩
end
section
variable {P : Program} {S : Env} {w : World} {N : Fr}
def RV (P:Program) (S:Env) (w:World) (r:ResultVar) (v:Value):Prop:=match r with
 | .tmp t=>S.get t=some v
 | .cell p t=>∃ ad,S.get p=some (.pointer (some ad))/\(loadVar t ad).run P w=.ok v w
theorem RV.tmp {t:Tmp}{v:Value}(h:S.get t=some v):RV P S w (.tmp t) v:=h
theorem RV.cell {t:Tmp}{ty:TypeId}{b off:Nat}{v:Value}(hg:S.get t=some (.pointer (some ⟨b,off,none⟩))) (ha:dU P ty=false) (hu:(P.underlying ty).isSome=true) (hc:w.cell? ⟨b,off,none⟩=some v):RV P S w (.cell t ty) v:=⟨_,hg,qz ha hu hc⟩
theorem RV.agg {t:Tmp}{ty:TypeId}{ti:TypeInfo}{b off:Nat}{vs:Array Value}(hg:S.get t=some (.pointer (some ⟨b,off,none⟩))) (hi:P.info? ty=some ti) (ha:dU P ty=true) (hsz:vs.size=ti.size)
 (hc:∀ i,i<vs.size->w.cell? ((Addr.mk b off none).add i)=vs[i]?):RV P S w (.cell t ty) (.agg vs):=⟨_,hg,iG hi ha hsz hc⟩
theorem RV.run {r:ResultVar}{v:Value}(h:RV P S w r v) (a:Act) (hf:Fits N S a):(∃ t,r=.tmp t/\a.tmps[t]?.getD undef=v)\/∃ p t ad,r=.cell p t/\a.tmps[p]?.getD undef=.pointer (some ad)/\(loadVar t ad).run P w=.ok v w:=by
 cases r with
 | tmp t =>
  have h1:=hf.get h
  rw [Array.getD_eq_getD_getElem?] at h1
  exact .inl ⟨t,rfl,h1⟩
 | cell p t =>
  obtain⟨ad,h1,h2⟩:=h
  have h1:=hf.get h1
  rw [Array.getD_eq_getD_getElem?] at h1
  exact .inr ⟨p,t,ad,rfl,h1,h2⟩
theorem gF {fn:Func}{r1 r2:ResultVar}{v1 v2:Value}(hr:fn.results=#[r1,r2]) (h1:RV P S w r1 v1) (h2:RV P S w r2 v2) (a:Act) (hf:Fits N S a):(results fn a.tmps).run P w=.ok (.tuple #[v1,v2]) w:=by
 unfold results
 rw [hr]
 rcases h1.run a hf with⟨t1,rfl,e1⟩|⟨p1,t1,ad1,rfl,e1,l1⟩<;>rcases h2.run a hf with⟨t2,rfl,e2⟩|⟨p2,t2,ad2,rfl,e2,l2⟩<;>simp [asAddr, *,Sem.run_bind]
theorem gG {fn:Func}{r1 r2 r3:ResultVar}{v1 v2 v3:Value}(hr:fn.results=#[r1,r2,r3]) (h1:RV P S w r1 v1) (h2:RV P S w r2 v2) (h3:RV P S w r3 v3) (a:Act) (hf:Fits N S a):(results fn a.tmps).run P w=.ok (.tuple #[v1,v2,v3]) w:=by
 unfold results
 rw [hr]
 rcases h1.run a hf with⟨t1,rfl,e1⟩|⟨p1,t1,ad1,rfl,e1,l1⟩<;>rcases h2.run a hf with⟨t2,rfl,e2⟩|⟨p2,t2,ad2,rfl,e2,l2⟩<;>rcases h3.run a hf with⟨t3,rfl,e3⟩|⟨p3,t3,ad3,rfl,e3,l3⟩<;>simp [asAddr, *,Sem.run_bind]
theorem yE {fn:Func}{t1 t2 t3 t4:Tmp}{v1 v2 v3 v4:Value}(hr:fn.results=#[.tmp t1,.tmp t2,.tmp t3,.tmp t4]) (h1:S.get t1=some v1) (h2:S.get t2=some v2) (h3:S.get t3=some v3) (h4:S.get t4=some v4) (a:Act) (hf:Fits N S a):(results fn a.tmps).run P w=.ok (.tuple #[v1,v2,v3,v4]) w:=by
 have e1:=hf.get h1
 have e2:=hf.get h2
 have e3:=hf.get h3
 have e4:=hf.get h4
 rw [Array.getD_eq_getD_getElem?] at e1 e2 e3 e4
 unfold results
 rw [hr]
 simp [e1,e2,e3,e4,Sem.run_bind]
end
end Go.Sx
namespace Go.Sx
open Go.RowKit Go.ChangeShapes Go.WideShapes Go.Deep
set_option linter.unusedVariables false
set_option linter.unusedSimpArgs false
inductive GK where
 | int (k:IntKind)
 | bool
 | str
 | sl (t:TypeId)
def GK.fits (T:TypeId->Value->Prop):GK->Value->Prop
 | .int k,v=>∃ n,v=.int k n/\(Lit.int k n).wf=true
 | .bool,v=>∃ b,v=.bool b
 | .str,v=>∃ s,v=.string s/\s.size<=maxLen
 | .sl t,v=>∃ ad n c,v=.slice ad n c/\T t v
def ez (T:TypeId->Value->Prop):List GK->List Value->Prop
 | [],[]=>True
 | k::ks,v::vs=>k.fits T v/\ez T ks vs
 | _,_=>False
theorem iS {T:TypeId->Value->Prop}:∀ {ks ks':List GK}{vs vs':List Value},ez T ks vs->ez T ks' vs'->ez T (ks++ks') (vs++vs')
 | [],_,[],_,_,h=>h
 | [],_,_::_,_,h,_=>h.elim
 | _::_,_,[],_,h,_=>h.elim
 | _::_,_,_::_,_,h,h'=>⟨h.1,iS h.2 h'⟩
def jQ (f:TypeId->Option (List GK)) (P:Program):List Field->Nat->Nat->Option (List GK)
 | [],off,tot=>if off == tot then some [] else none
 | fd::fs,off,tot =>
  if fd.offset == off then
   match f fd.type with
   | some ks=>if ks.length == P.cellsOf fd.type then (match jQ f P fs (off+ks.length) tot with|some r=>some (ks++r)|none=>none) else none
   | none=>none
  else none
def iT (P:Program):Nat->TypeId->Option (List GK)
 | 0,_=>none
 | m+1,t =>
  match P.underlying t with
  | some .bool=>some [.bool]
  | some (.int k)=>some [.int k]
  | some .string=>some [.str]
  | some (.slice _)=>some [.sl t]
  | some (.struct fs)=>jQ (iT P m) P fs.toList 0 (P.cellsOf t)
  | some (.array n e) =>
   match iT P m e with
   | some ks=>if ks.length == P.cellsOf e && n*ks.length == P.cellsOf t then some (List.replicate n ks).flatten else none
   | none=>none
  | _=>none
section
variable {H : Type} {enc : TypeId × Value -> H} {P : Program} {w : World} {base : Nat} {spare : Nat -> Bool} {held : Bool}
def Dl (enc:TypeId×Value->H) (P:Program) (w:World) (base:Nat) (spare:Nat->Bool) (held:Bool) (t:TypeId) (v:Value):Prop:=∃ d ps,DataW.Trod enc P w base spare held t v d ps
theorem wE:∀ (m:Nat) (t:TypeId) (fuel:Nat) (cs:List Value) (x:DataW H×List MemPlace) (ks:List GK),iT P m t=some ks->DataW.trod enc P w base spare held fuel t cs=some x->ez (Dl enc P w base spare held) ks cs:=by
 intro m
 induction m with
 | zero=>intro t fuel cs x ks h;cases h
 | succ m ih =>
  intro t fuel cs x ks hk h
  unfold iT at hk
  cases hu:P.underlying t with
  | none=>rw [hu] at hk;cases hk
  | some d =>
   rw [hu] at hk
   cases d with
   | bool =>
    simp only [Option.some.injEq] at hk
    subst hk
    cases fuel with
    | zero=>simp [DataW.trod] at h
    | succ fuel =>
     unfold DataW.trod at h
     rw [hu] at h
     split at h<;>simp_all
     exact⟨⟨_,rfl⟩,trivial⟩
   | int k =>
    simp only [Option.some.injEq] at hk
    subst hk
    cases fuel with
    | zero=>simp [DataW.trod] at h
    | succ fuel =>
     unfold DataW.trod at h
     rw [hu] at h
     split at h<;>simp_all
     exact⟨⟨_,rfl,h.1.2⟩,trivial⟩
   | string =>
    simp only [Option.some.injEq] at hk
    subst hk
    cases fuel with
    | zero=>simp [DataW.trod] at h
    | succ fuel =>
     unfold DataW.trod at h
     rw [hu] at h
     split at h<;>simp_all
     exact⟨⟨_,rfl,h.1⟩,trivial⟩
   | slice e =>
    simp only [Option.some.injEq] at hk
    subst hk
    cases fuel with
    | zero=>simp [DataW.trod] at h
    | succ fuel =>
     have h0:=h
     rcases open_slice hu h with⟨hcs,_⟩|⟨a,len,cap,mm,nn,D,Pl,hcs,_⟩
     ·subst hcs
      exact⟨⟨_,_,_,rfl,_,_,fuel+1,by simpa [Value.cells] using h0⟩,trivial⟩
     ·subst hcs
      exact⟨⟨_,_,_,rfl,_,_,fuel+1,by simpa [Value.cells] using h0⟩,trivial⟩
   | struct fs =>
    simp only at hk
    obtain⟨xs,n,_,_,hlen,hxl,hget⟩:=DataW.trod_struct hu h
    have key:∀ (l:List Field) (off i:Nat) (ks:List GK),(∀ j f,l[j]?=some f->fs[i+j]?=some f)->jQ (iT P m) P l off (P.cellsOf t)=some ks->ez (Dl enc P w base spare held) ks (cs.drop off):=by
     intro l
     induction l with
     | nil =>
      intro off i ks _ hf
      simp only [jQ] at hf
      split at hf
      ·rename_i he
       simp only [Option.some.injEq] at hf
       subst hf
       have:off=P.cellsOf t:=by simpa using he
       rw [List.drop_eq_nil_of_le za]
       trivial
      ·cases hf
     | cons f l ihl =>
      intro off i ks hsub hf
      simp only [jQ] at hf
      split at hf
      ·rename_i he
       have he:f.offset=off:=by simpa using he
       cases hfk:iT P m f.type with
       | none=>rw [hfk] at hf;cases hf
       | some k1 =>
        rw [hfk] at hf
        simp only at hf
        split at hf
        ·rename_i hl1
         have hl1:k1.length=P.cellsOf f.type:=by simpa using hl1
         cases hr:jQ (iT P m) P l (off+k1.length) (P.cellsOf t) with
         | none=>rw [hr] at hf;cases hf
         | some r =>
          rw [hr] at hf
          simp only [Option.some.injEq] at hf
          subst hf
          have hfi:fs[i]?=some f:=by simpa using hsub 0 f rfl
          have h1:=hget i f hfi
          have hi:i<xs.length:=by rw [hxl];exact(Array.getElem?_eq_some_iff.1 hfi).1
          rw [List.getElem?_eq_getElem hi] at h1
          have h2:=ih _ _ _ _ _ hfk h1
          rw [he] at h2
          have h3:=ihl (off+k1.length) (i+1) r (λj g hg=>by rw [Nat.add_assoc,Nat.add_comm 1 j];exact hsub (j+1) g (by simpa using hg)) hr
          have h4:cs.drop off=(cs.drop off).take (P.cellsOf f.type)++cs.drop (off+k1.length):=by
           rw [hl1,<- List.drop_drop,List.take_append_drop]
          rw [h4]
          exact iS h2 h3
        ·cases hf
      ·cases hf
    simpa using key fs.toList 0 0 ks (λj f hj=>by simpa using hj) hk
   | array n e =>
    simp only at hk
    cases hfk:iT P m e with
    | none=>rw [hfk] at hk;cases hk
    | some k1 =>
     rw [hfk] at hk
     simp only at hk
     split at hk
     ·rename_i hc
      simp only [Bool.and_eq_true,beq_iff_eq] at hc
      simp only [Option.some.injEq] at hk
      subst hk
      obtain⟨xs,q,_,_,hlen,hxl,hget⟩:=DataW.trod_array hu h
      have key:∀ (r i:Nat),i+r=n->ez (Dl enc P w base spare held) (List.replicate r k1).flatten (cs.drop (i*P.cellsOf e)):=by
       intro r
       induction r with
       | zero =>
        intro i hi
        have:cs.drop (i*P.cellsOf e)=[]:=List.drop_eq_nil_of_le (by rw [hlen,<- hc.2,hc.1,<- hi];simp)
        rw [this]
        trivial
       | succ r ihr =>
        intro i hi
        have h1:=hget i za
        rw [List.getElem?_eq_getElem za] at h1
        have h2:=ih _ _ _ _ _ hfk h1
        have h3:=ihr (i+1) za
        have h4:cs.drop (i*P.cellsOf e)=(cs.drop (i*P.cellsOf e)).take (P.cellsOf e)++cs.drop ((i+1)*P.cellsOf e):=by
         rw [show(i+1)*P.cellsOf e=i*P.cellsOf e+P.cellsOf e from by rw [Nat.add_mul,Nat.one_mul],<- List.drop_drop,List.take_append_drop]
        rw [h4,List.replicate_succ,List.flatten_cons]
        exact iS h2 h3
      simpa using key n 0 za
     ·cases hk
   | _=>cases hk
theorem cj {T:TypeId->Value->Prop}{k:GK}{ks:List GK}:∀ {vs:List Value},ez T (k::ks) vs->∃ v rest,vs=v::rest/\k.fits T v/\ez T ks rest
 | [],h=>h.elim
 | v::rest,h=>⟨v,rest,rfl,h.1,h.2⟩
theorem qJ {T:TypeId->Value->Prop}:∀ {vs:List Value},ez T [] vs->vs=[]
 | [],_=>rfl
 | _::_,h=>h.elim
theorem oV {t e:TypeId}{m:Nat}{ks:List GK}(ht:P.underlying t=some (.slice e)) (hk:iT P m e=some ks) (hsz:P.cellsOf e=ks.length) (h0:0<ks.length){ad:Option Addr}{n c:Nat}{d:DataW H}{ps:List MemPlace}
 (h:DataW.Trod enc P w base spare held t (.slice ad n c) d ps) :
 n<=maxLen/\∃ cell:Nat->Array Value,ag w ad n ks.length cell/\∀ k,k<n->ez (Dl enc P w base spare held) ks (cell k).toList:=by
 obtain⟨fuel,hf⟩:=h
 rcases open_slice ht hf with⟨hcs,_⟩|⟨a,len,cap,mm,nn,D,Pl,hcs,_,hl,hm,hmm,_,hi⟩
 ·simp [Value.cells] at hcs
  obtain⟨rfl,rfl,rfl⟩:=hcs
  exact⟨Nat.zero_le _,λ_=>#[],λh=>absurd h za,λk hk=>absurd hk za⟩
 ·simp [Value.cells] at hcs
  obtain⟨rfl,rfl,rfl⟩:=hcs
  have hle:n<=mm:=by rw [hmm];split<;>omega
  have H:∀ k,∃ cs':List Value,k<n->(w.cells? base (a.add (k*P.cellsOf e)) (P.cellsOf e)=some cs'/\ez (Dl enc P w base spare held) ks cs'):=λk=>by
   by_cases hk':k<n
   ·obtain⟨cs',h1,h2⟩:=hi k za
    exact⟨cs',λ_=>⟨h1,wE _ _ _ _ _ _ hk h2⟩⟩
   ·exact⟨[],λh=>absurd h hk'⟩
  obtain⟨F,hF⟩:=Classical.axiomOfChoice H
  refine⟨za,λk=>(F k).toArray,λhn=>?_,λk hk'=>by simpa using (hF k hk').2⟩
  have hsp:a.spot=none:=by
   obtain⟨h1,h2⟩:=hF 0 hn
   obtain⟨_,h3,h4⟩:=World.cells?_some h1
   have h5:=h4 0 (by rw [hsz];exact h0)
   simp only [Nat.zero_mul,Addr.add,if_true] at h5
   cases hs:a.spot with
   | none=>rfl
   | some q =>
    exfalso
    rw [List.getElem?_eq_getElem (by rw [h3,hsz];exact h0)] at h5
    simp only [World.cell?,hs] at h5
    split at h5<;>simp at h5
  obtain⟨b,off,sp⟩:=a
  simp only at hsp
  subst hsp
  refine⟨b,off,rfl,λk hk' j hj=>?_⟩
  obtain⟨h1,h2⟩:=hF k hk'
  obtain⟨_,h3,h4⟩:=World.cells?_some h1
  have h5:=h4 j za
  rw [eE,eE,hsz] at h5
  rw [h5]
  simp
end
end Go.Sx
