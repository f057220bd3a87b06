/-
  Several texts in one: EvM, EvR, EvN, EvS, EvX, EvY, EvP, EvZ, EvV.
-/
import Derived.Test.YthfpmlpoiocfdaaGreatDoorEvVx
import Derived.Test.YthfpmlpoiocfdaaGreatDoorGaA
import Derived.Lib.LaidTab
namespace Go.Ev
open Go.Sx
set_option linter.unusedVariables false
set_option linter.unusedSimpArgs false
section
variable {δ : List Deferred} {ro : Option Nat} {P : Program} {G : Nat -> Option (List Value)} {ν : Nu} {N : Nat} {S S' : AE} {a : Act} {m m' : AM} {w w0 : World} {L : List bA}
theorem bP.put (hf:bP δ ν N S a){d:Option Tmp}{av:AV}{v:Value}(hv:av.val ν=some v) (h:qB N S d av=some S'):bP δ ν N S' (a.put d v):=by
 unfold qB at h
 split at h
 ·simp only [Option.some.injEq] at h;subst h;exact hf
 ·rename_i d
  cases hb:Nat.ble (d+1) N with
  | false=>rw [hb] at h;cases h
  | true =>
   rw [hb] at h
   have hd:=bN hb
   simp only [cond_true,Option.some.injEq] at h
   subst h
   refine⟨hf.defers,by simpa [Act.put] using hf.size,λk x hx=>?_⟩
   by_cases e:k=d
   ·subst e
    rw [Tr.fK] at hx
    cases hx
    refine⟨v,hv,?_⟩
    have:k<a.tmps.size:=by rw [hf.size];omega
    simp [Act.put,Array.getD,this]
   ·rw [Tr.lE _ _ e] at hx
    obtain⟨u,h1,h2⟩:=hf.at_ k x hx
    refine⟨u,h1,?_⟩
    rw [<- h2]
    simp only [Act.put,Array.getD_eq_getD_getElem?]
    rw [Array.getElem?_setIfInBounds_ne (λh=>e h.symm)]
theorem fM (hf:bP δ ν N S a){ops:Array Oper}{o:Oper}{b:Bool}(h:kR ops.toList S o.guard=some b):Region.wanted o (yielded ops a.tmps)=b:=by
 unfold kR at h
 unfold Region.wanted
 split at h
 ·rename_i hg
  rw [hg]
  simpa using h
 ·rename_i j want hg
  rw [hg]
  simp only [yielded]
  split at h
  ·rename_i p hp
   have hp':ops[j]?=some p:=by simpa using hp
   rw [hp']
   simp only [Option.bind_some]
   split at h
   ·rename_i d hd
    rw [hd]
    simp only [Option.bind_some]
    unfold KU at h
    split at h
    ·rename_i t ht
     obtain⟨v,h1,h2⟩:=hf.at_ d _ ht
     simp only [AV.val,Option.some.injEq] at h1
     subst h1
     have h3:a.tmps[d]?=some (.bool t):=by
      rw [Array.getD_eq_getD_getElem?] at h2
      cases hx:a.tmps[d]? with
      | none=>rw [hx] at h2;simp [undef] at h2
      | some y=>rw [hx] at h2;simp at h2;rw [h2]
     rw [h3]
     simp only [Option.some.injEq] at h
     rw [<- h]
     cases want<;>cases t<;>rfl
    ·rename_i v hv
     obtain⟨u,h1,h2⟩:=hf.at_ d _ hv
     simp only [AV.val,Option.some.injEq] at h1
     subst h1
     split at h
     ·rename_i vs
      simp only [Option.some.injEq] at h
      subst h
      rw [Array.getD_eq_getD_getElem?] at h2
      cases hx:a.tmps[d]? with
      | none=>simp
      | some y=>rw [hx] at h2;simp at h2;rw [h2];simp
     ·cases h
    ·cases h
   ·rename_i hd
    rw [hd]
    simpa using h
  ·rename_i hp
   have hp':ops[j]?=none:=by simpa using hp
   rw [hp']
   simpa using h
def lZ (P:Program) (G:Nat->Option (List Value)) (call:FuncId->List AV->AM->R2):Prop:=∀ id asx m r m' ν vs w w0 L p,call YF (.yl id::asx) m=some (r,m')->nO G w0 L->bF ν asx=some vs->ν id=some p->St w0 (Mem ν m::L) w ->
 ∃ f tmps assign body,(Instr.yield p.1 vs.toArray).run P w=.ok (.round p.1 f tmps assign body) w/\RoundIn (cS none) 0 P p.1 f tmps assign body w (eD λv w'=>∃ ν',ν.le ν'/\r.val ν'=some v/\St w0 (Mem ν' m'::L) w')
theorem yB {call:FuncId->List AV->AM->R2}{o:Oper}{q:AV×AM}(h:iE P G call m S o=some q):∀ c,o.op≠.defer c:=by
 intro c hc
 unfold iE at h
 rw [hc] at h
 simp only [ik,hc,rd] at h
 cases h
theorem ME {call:FuncId->List AV->AM->R2}(hc:kG P G call) (hcr:lZ P G call) (hG:nO G w0 L) (hf:bP δ ν N S a) (hs:St w0 (Mem ν m::L) w){o:Oper}{av:AV}(h:uS P G call m S o=some (av,m'))
 {K:Act->World->Prop}{Q:Exit->Act->World->Prop}(hK:∀ v ν' w',ν.le ν'->av.val ν'=some v->St w0 (Mem ν' m'::L) w'->K (a.put o.dst v) w'):o.wpIn (cS ro) 0 P a w K Q:=by
 have old:iE P G call m S o=some (av,m')->o.wpIn (cS ro) 0 P a w K Q:=λh=>Oper.mQ (yB h) (K9 hc hG hf hs h hK)
 unfold uS at h
 split at h
 ·rename_i c hop
  split at h
  ·rename_i x hcal
   unfold KT at h
   split at h
   ·rename_i id hx
    split at h
    ·rename_i asx hasx
     obtain⟨u,hu,ex⟩:=hf.op hx
     obtain⟨p,hp,rfl⟩:=K5 hu
     have hv:=hf.ops hasx
     obtain⟨f,tmps,asg,body,hy,hround⟩:=hcr id asx m av m' ν _ w w0 L p h hG hv hp hs
     refine⟨λ_ _=>trivial,?_⟩
     rw [Oper.semAt_eq _ _ _ (λc' e=>by rw [hop] at e;cases e)]
     have h4:c.args.map a.eval=(c.args.toList.map a.eval).toArray:=by apply Array.ext';simp
     have run:(execOp a.eval o).run P w=.ok (.round p.1 f tmps asg body) w:=by
      rw [<- h4] at hy
      generalize a.eval=ρ at ex hy ⊢
      simp [execOp,hop,resolve,hcal,ex,Deferred.ofValue,invoke,go_sem]
      exact hy
     rw [run]
     simp only [Oper.uponIn]
     refine⟨λh=>by simp [cS,Fence.wide] at h,?_⟩
     refine RoundIn.mono (F:=cS none) hround λe w' he=>?_
     cases e with
     | returned v =>
      obtain⟨ν',k1,k2,k3⟩:=he
      exact hK v ν' w' k1 k2 k3
     | panicked c=>exact he.elim
     | outgrown=>exact he.elim
    ·cases h
   ·exact old (by unfold iE;rw [hop];simp only [hcal];exact h)
  ·exact old h
 ·exact old h
theorem oY {call:FuncId->List AV->AM->R2}(hc:kG P G call) (hcr:lZ P G call) (hG:nO G w0 L) (hf:bP δ ν N S a) (hs:St w0 (Mem ν m::L) w){ops:Array Oper}{o:Oper}{i:Nat}(hi:ops[i]?=some o)
 (h:fJ P G call N ops.toList o S m=some (S',m')){K:Act->World->Prop}{Q:Exit->Act->World->Prop}(hK:∀ ν' w' v,ν.le ν'->bP δ ν' N S' (a.put o.dst v)->St w0 (Mem ν' m'::L) w'->K (a.put o.dst v) w'):jS ro P ops Q i K a w:=by
 unfold fJ at h
 show wpOpIn (cS ro) 0 P ops Q i K a w
 unfold wpOpIn
 simp only [hi]
 split at h
 ·rename_i hw
  rw [fM hf hw]
  simp only [if_true]
  unfold BF at h
  split at h
  ·rename_i av m2 he
   split at h
   ·rename_i S2 hp
    simp only [Option.some.injEq,Prod.mk.injEq] at h
    obtain⟨rfl,rfl⟩:=h
    exact ME hc hcr hG hf hs he λv ν' w' h1 h2 h3=>hK ν' w' v h1 ((hf.mono h1).put h2 hp) h3
   ·cases h
  ·cases h
 ·rename_i hw
  rw [fM hf hw]
  simp only [Bool.false_eq_true,if_false]
  refine⟨λ_ _=>trivial,?_⟩
  unfold BF at h
  simp only at h
  split at h
  ·rename_i S2 hp
   simp only [Option.some.injEq,Prod.mk.injEq] at h
   obtain⟨rfl,rfl⟩:=h
   exact hK ν w _ (Nu.le_refl ν) (hf.put rfl hp) hs
  ·cases h
 ·cases h
theorem qL {call:FuncId->List AV->AM->R2}(hc:kG P G call) (hcr:lZ P G call) (hG:nO G w0 L) (hf:bP δ ν N S a) (hs:St w0 (Mem ν m::L) w){ops:Array Oper}{o:Oper}{i:Nat}(hi:ops[i]?=some o)
 (h:fJ P G call N ops.toList o S m=some (S',m')){K:Act->World->Prop}{Q:Exit->Act->World->Prop}(hK:∀ ν' w' a',ν.le ν'->bP δ ν' N S' a'->St w0 (Mem ν' m'::L) w'->K a' w'):jS ro P ops Q i K a w :=
 oY hc hcr hG hf hs hi h λν' w' v h1 h2 h3=>hK ν' w' _ h1 h2 h3
theorem uF (call:FuncId->List AV->AM->R2) (N:Nat) (ops:List Oper) (o:Oper) (l:List Oper) (S:AE) (m:AM):sV P G call N ops (o::l) S m=BG (sV P G call N ops l) (fJ P G call N ops o S m):=rfl
theorem tf {call:FuncId->List AV->AM->R2}(hc:kG P G call) (hcr:lZ P G call) (hG:nO G w0 L){ops:Array Oper}{Q:Exit->Act->World->Prop}:∀ (l:List Oper) (k:Nat) (S:AE) (m:AM) (ν:Nu) (w:World) (a:Act),ops.toList.drop k=l ->
 sV P G call N ops.toList l S m=some (S',m')->bP δ ν N S a->St w0 (Mem ν m::L) w->(∀ ν' w' a',ν.le ν'->bP δ ν' N S' a'->St w0 (Mem ν' m'::L) w'->Q .normal a' w')->wpOpsIn (cS ro) 0 P ops Q (List.range' k l.length) a w
 | [],k,S,m,ν,w,a,hd,h,hf,hs,hK=>by
  have h':some (S,m)=some (S',m'):=h
  simp only [Option.some.injEq,Prod.mk.injEq] at h'
  obtain⟨rfl,rfl⟩:=h'
  exact hK ν w a (Nu.le_refl ν) hf hs
 | o::l,k,S,m,ν,w,a,hd,h,hf,hs,hK=>by
  rw [uF] at h
  unfold BG at h
  split at h
  ·rename_i S2 m2 h1
   have hi:ops[k]?=some o:=by
    have:(ops.toList.drop k)[0]?=some o:=by rw [hd];rfl
    rw [List.getElem?_drop] at this
    simpa using this
   have hd2:ops.toList.drop (k+1)=l:=by
    rw [<- List.drop_drop,hd]
    rfl
   simp only [List.length_cons,List.range'_succ]
   rw [wpOpsIn_cons]
   exact qL hc hcr hG hf hs hi h1 λν' w' a' h2 h3 h4=>tf hc hcr hG l (k+1) S2 m2 ν' w' a' hd2 h h3 h4 λν'' w'' a'' k1 k2 k3=>hK ν'' w'' a'' (Nu.le_trans h2 k1) k2 k3
  ·cases h
theorem su:∀ {x y:List UInt8},pG x y=true->x=y
 | [],[],_=>rfl
 | [],_::_,h=>by cases h
 | _::_,[],h=>by cases h
 | a::l,b::l',h=>by
  simp only [pG] at h
  cases hb:Nat.beq a.toNat b.toNat with
  | false=>rw [hb] at h;cases h
  | true=>rw [hb] at h;rw [UInt8.toNat_inj.1 (Nat.eq_of_beq_eq_true hb),su h]
theorem nw {a:Array Value}(h:kE a.toList=true):a=#[]:=by
 cases a with
 | mk l=>cases l with
  | nil=>rfl
  | cons x y=>cases h
theorem oG {x y:Value}(h:DN x y=true):x=y:=by
 unfold DN at h
 split at h
 ·split at h
  ·simp only [Bool.and_eq_true,decide_eq_true_eq] at h
   rw [qE h.1,h.2]
  ·cases h
 ·rename_i x
  split at h
  ·rename_i y
   cases x<;>cases y<;>first|rfl|cases h
  ·cases h
 ·rename_i s
  split at h
  ·rename_i t
   have:=Array.toList_inj.1 (su h)
   cases s;cases t
   simp only at this
   rw [this]
  ·cases h
 ·split at h
  ·rw [of_decide_eq_true h]
  ·cases h
 ·split at h
  ·simp only [Bool.and_eq_true] at h
   rw [Nat.eq_of_beq_eq_true h.1,Nat.eq_of_beq_eq_true h.2]
  ·cases h
 ·split at h
  ·rfl
  ·cases h
 ·split at h
  ·rfl
  ·cases h
 ·split at h
  ·rfl
  ·cases h
 ·rename_i fn a1 c1
  split at h
  ·rename_i fn' a2 c2
   split at h
   ·split at h
    ·simp only [Bool.and_eq_true] at h
     obtain⟨⟨⟨⟨h1,h2⟩,h3⟩,h4⟩,h5⟩:=h
     have e1:=nw h2
     have e2:=nw h3
     have e3:=nw h4
     have e4:=nw h5
     subst e1 e2 e3 e4
     rw [Nat.eq_of_beq_eq_true h1]
    ·cases h
   ·cases h
  ·cases h
 ·cases h
theorem Au:∀ {x y:List Value},BH x y=true->x=y
 | [],[],_=>rfl
 | [],_::_,h=>by cases h
 | _::_,[],h=>by cases h
 | a::l,b::l',h=>by
  simp only [BH] at h
  cases hb:DN a b with
  | false=>rw [hb] at h;cases h
  | true=>rw [hb] at h;rw [oG hb,Au h]
theorem Eb {x y:Value}(h:DO x y=true):x=y:=by
 unfold DO at h
 split at h
 ·split at h
  ·rw [Array.toList_inj.1 (Au h)]
  ·cases h
 ·exact oG h
theorem Ec {x y:AV}(h:Hq x y=true):x=y:=by
 cases x<;>cases y<;>simp only [Hq] at h<;>try (cases h;done)
 case num.num =>
  simp only [Bool.and_eq_true] at h
  rw [qE h.1,Nat.eq_of_beq_eq_true h.2]
 case bool.bool x y=>cases x<;>cases y<;>first|rfl|cases h
 case flat.flat=>rw [Eb h]
 case ptr.ptr=>simp only [Bool.and_eq_true] at h;rw [Nat.eq_of_beq_eq_true h.1,Nat.eq_of_beq_eq_true h.2]
 case sl.sl =>
  rename_i k _ _ _ _ k'
  simp only [Bool.and_eq_true] at h
  obtain⟨⟨⟨⟨h1,h2⟩,h3⟩,h4⟩,h5⟩:=h
  rw [Nat.eq_of_beq_eq_true h1,Nat.eq_of_beq_eq_true h2,Nat.eq_of_beq_eq_true h3,Nat.eq_of_beq_eq_true h4]
  cases k<;>cases k' <;> first|rfl|cases h5
 case se.se =>
  simp only [Bool.and_eq_true] at h
  obtain⟨⟨⟨h1,h2⟩,h3⟩,h4⟩:=h
  rw [Nat.eq_of_beq_eq_true h1,Nat.eq_of_beq_eq_true h2,Nat.eq_of_beq_eq_true h3,Nat.eq_of_beq_eq_true h4]
 case mp.mp=>rw [Nat.eq_of_beq_eq_true h]
 case yl.yl=>rw [Nat.eq_of_beq_eq_true h]
theorem lJ {f:AV->AV->Bool}(hf:∀ {a b:AV},f a b=true->a=b):∀ {x y:List AV},nh f x y=true->x=y
 | [],[],_=>rfl
 | [],_::_,h=>by cases h
 | _::_,[],h=>by cases h
 | a::l,b::l',h=>by
  simp only [nh] at h
  cases hb:f a b with
  | false=>rw [hb] at h;cases h
  | true=>rw [hb] at h;rw [hf hb,lJ hf h]
theorem th {f:AV->AV->Bool}(hf:∀ {a b:AV},f a b=true->a=b){x y:AV}(h:wO f x y=true):x=y:=by
 unfold wO at h
 split at h
 ·split at h
  ·simp only [Bool.and_eq_true] at h
   rw [Nat.eq_of_beq_eq_true h.1,hf h.2]
  ·cases h
 ·split at h
  ·simp only [Bool.and_eq_true] at h
   rw [Nat.eq_of_beq_eq_true h.1.1,lJ hf h.1.2,lJ hf h.2]
  ·cases h
 ·split at h
  ·rw [lJ hf h]
  ·cases h
 ·split at h
  ·rw [lJ hf h]
  ·cases h
 ·exact Ec h
theorem sw {x y:AV}(h:ux x y=true):x=y:=th (th (th Ec)) h
theorem B3 {o:Oper}(h:looks o.op=false):ik P G m S o=ik P (λ_=>none) ⟨.nil,m.next⟩ S o:=by
 obtain⟨dst,op,ty,pos,after,guard⟩:=o
 cases op<;>first|rfl|cases h
theorem oZ (hf:bP δ ν N S a) (hm:Rt ν m w){o:Oper}{av:AV}(hl:looks o.op=false) (h:ik P G m S o=some av){v:Value}(hv:av.val ν=some v) (w1:World):(execOp a.eval o).run P w1=.ok (.value v) w1:=by
 rw [B3 hl] at h
 have hm1:Rt ν ⟨.nil,m.next⟩ w1:=⟨hm.fresh,(λid cN hg=>by cases hg),(λid id' cN blk' p p' hg=>by cases hg)⟩
 obtain⟨u,h1,h2⟩:=dU hf hm1 (G:=λ_=>none) (λg vs h=>by cases h) h
 rw [hv] at h1
 cases h1
 exact h2
def tj (δ:List Deferred) (P:Program) (ν:Nu) (N:Nat) (Dr:Reads) (D:jN):Prop:=∀ x∈Dr,(∀ w,x.2 w)\/∃ y∈D,y.1=x.1/\∃ a v,bP δ ν N y.2.1 a/\y.2.2.2.val ν=some v/\∀ w,(execOp a.eval y.2.2.1).run P w=.ok (.value v) w->x.2 w
theorem tj.mono {ν':Nu}{Dr:Reads}{D:jN}(h:tj δ P ν N Dr D) (hle:ν.le ν'):tj δ P ν' N Dr D:=λx hx=>by
 rcases h x hx with h|⟨y,hy,e,a,v,h1,h2,h3⟩
 ·exact .inl h
 ·exact .inr ⟨y,hy,e,a,v,h1.mono hle,AV.eL hle _ h2,h3⟩
theorem lK {M:List Nat}{i:Nat}{D:jN}(h:still P G M i m D=true):∀ x∈D,Cw M x.1 i=false->ik P G m x.2.1 x.2.2.1=some x.2.2.2:=by
 induction D with
 | nil=>intro x hx;cases hx
 | cons y D ih =>
  intro x hx ha
  simp only [still] at h
  cases hy:Cw M y.1 i with
  | true =>
   rw [hy] at h
   rcases List.mem_cons.1 hx with e|hx
   ·rw [e,hy] at ha;cases ha
   ·exact ih h x hx ha
  | false =>
   rw [hy] at h
   simp only [cond_false] at h
   split at h
   ·rename_i b hb
    cases hsa:ux b y.2.2.2 with
    | false=>rw [hsa] at h;cases h
    | true =>
     rw [hsa] at h
     rcases List.mem_cons.1 hx with e|hx
     ·rw [e,hb,sw hsa]
     ·exact ih h x hx ha
   ·cases h
theorem qM {α:Type}:∀ (l:List α) (i:Nat),sU l i=l[i]?
 | [],i=>by simp [sU]
 | x::l,0=>rfl
 | x::l,i+1=>by simp [sU,qM l i]
theorem iY {call:FuncId->List AV->AM->R2}(hc:kG P G call) (hcr:lZ P G call) (hG:nO G w0 L){ops:Array Oper}{M:List Nat}{Q:Exit->Act->World->Prop}:∀ (l:List (Nat×Bool)) (D:jN) (Dr:Reads) (S:AE) (m:AM) (ν:Nu) (w:World) (a:Act),
 lV P G call N ops.toList M l D S m=some (S',m')->tj δ P ν N Dr D->bP δ ν N S a->St w0 (Mem ν m::L) w->(∀ ν' w' a',ν.le ν'->bP δ ν' N S' a'->St w0 (Mem ν' m'::L) w'->Q .normal a' w')->bZ ro P ops M Q Dr (wQ l) a w
 | [],D,Dr,S,m,ν,w,a,h,hD,hf,hs,hK=>by
  have h':some (S,m)=some (S',m'):=h
  simp only [Option.some.injEq,Prod.mk.injEq] at h'
  obtain⟨rfl,rfl⟩:=h'
  exact hK ν w a (Nu.le_refl ν) hf hs
 | (i,b)::l,D,Dr,S,m,ν,w,a,h,hD,hf,hs,hK=>by
  have h':mH P G call N ops.toList M (lV P G call N ops.toList M l) (i,b) D S m=some (S',m'):=h
  unfold mH at h'
  split at h'
  ·rename_i o ho
   rw [qM] at ho
   have hi:ops[i]?=some o:=by simpa using ho
   split at h'
   ·rename_i hb
    obtain rfl:b=true:=hb
    unfold mG at h'
    split at h'
    ·rename_i D2 S2 hr
     unfold iM at hr
     split at hr
     ·rename_i hw
      split at hr
      ·rename_i av hav
       split at hr
       ·rename_i S3 hp
        simp only [Option.some.injEq,Prod.mk.injEq] at hr
        obtain⟨hD2,rfl⟩:=hr
        have hm:=dD hs
        obtain⟨v,h1,h2⟩:=dU hf hm (hG ν m w hs) hav
        have hwt:=fM hf hw
        cases hl:looks o.op with
        | false =>
         rw [hl] at hD2
         simp only [cond_false] at hD2
         subst hD2
         refine⟨o,v,λ_=>True,hi,.inl ⟨hwt,λw1 _=>oZ hf hm hl hav h1 w1⟩,trivial,?_⟩
         refine iY hc hcr hG l D _ S3 m ν w _ h' (λx hx=>?_) (hf.put h1 hp) hs hK
         rcases List.mem_cons.1 hx with rfl|hx
         ·exact .inl λ_=>trivial
         ·exact hD x hx
        | true =>
         rw [hl] at hD2
         simp only [cond_true] at hD2
         subst hD2
         refine⟨o,v,λw1=>(execOp a.eval o).run P w1=.ok (.value v) w1,hi,.inl ⟨hwt,λw1 h=>h⟩,h2,?_⟩
         refine iY hc hcr hG l _ _ S3 m ν w _ h' (λx hx=>?_) (hf.put h1 hp) hs hK
         rcases List.mem_cons.1 hx with rfl|hx
         ·exact .inr ⟨(i,S,o,av),List.mem_cons_self ..,rfl,a,v,hf,h1,λw1 h=>h⟩
         ·rcases hD x hx with h|⟨y,hy,r⟩
          ·exact .inl h
          ·exact .inr ⟨y,List.mem_cons_of_mem _ hy,r⟩
       ·cases hr
      ·cases hr
     ·rename_i hw
      split at hr
      ·rename_i S3 hp
       simp only [Option.some.injEq,Prod.mk.injEq] at hr
       obtain⟨rfl,rfl⟩:=hr
       refine⟨o,undef,λ_=>True,hi,.inr ⟨fM hf hw,rfl⟩,trivial,?_⟩
       refine iY hc hcr hG l D _ S3 m ν w _ h' (λx hx=>?_) (hf.put rfl hp) hs hK
       rcases List.mem_cons.1 hx with rfl|hx
       ·exact .inl λ_=>trivial
       ·exact hD x hx
      ·cases hr
     ·cases hr
    ·cases h'
   ·rename_i hb
    obtain rfl:b=false:=hb
    unfold kS at h'
    split at h'
    ·rename_i S2 m2 h1
     cases hst:still P G M i m2 D with
     | false=>rw [hst] at h';cases h'
     | true =>
      rw [hst] at h'
      simp only [cond_true] at h'
      refine bZ.ef ?_
      refine qL hc hcr hG hf hs hi h1 λν' w' a' k1 k2 k3=>⟨λx hx ha=>?_,?_⟩
      ·rcases hD x hx with h|⟨y,hy,e,b,v,h3,h4,h5⟩
       ·exact h w'
       ·have h6:=lK hst y hy (by rw [e];exact ha)
        obtain⟨u,h7,h8⟩:=dU (h3.mono k1) (dD k3) (hG ν' m2 w' k3) h6
        rw [AV.eL k1 _ h4] at h7
        cases h7
        exact h5 w' h8
      ·exact iY hc hcr hG l D Dr S2 m2 ν' w' a' h' (hD.mono k1) k2 k3 λν'' w'' a'' j1 j2 j3=>hK ν'' w'' a'' (Nu.le_trans k1 j1) j2 j3
    ·cases h'
  ·cases h'
theorem kf {x d:Nat}:∀ {l:List Oper}{k:Nat},nj x d k l=true->∀ j o,l[j]?=some o->k+j≠x->o.dst≠some d
 | [],k,_,j,o,h,_=>by simp at h
 | p::l,k,h,j,o,hj,hne=>by
  simp only [nj] at h
  cases hb:Nat.beq k x with
  | true =>
   rw [hb] at h
   have:=Nat.eq_of_beq_eq_true hb
   cases j with
   | zero=>omega
   | succ j=>exact kf (k:=k+1) h j o (by simpa using hj) za
  | false =>
   rw [hb] at h
   simp only [cond_false] at h
   split at h
   ·rename_i hd
    cases j with
    | zero=>simp at hj;subst hj;rw [hd];intro e;cases e
    | succ j=>exact kf (k:=k+1) h j o (by simpa using hj) za
   ·rename_i d' hd
    cases hb2:Nat.beq d' d with
    | true=>rw [hb2] at h;cases h
    | false =>
     rw [hb2] at h
     have hn:=Nat.ne_of_beq_eq_false hb2
     cases j with
     | zero=>simp at hj;subst hj;rw [hd];intro e;cases e;exact hn rfl
     | succ j=>exact kf (k:=k+1) h j o (by simpa using hj) za
theorem Ed {ops:Array Oper}{x d:Nat}(h:Gl ops.toList x=some d):∃ o,ops[x]?=some o/\o.dst=some d/\o.guard=none/\∀ j oj,ops[j]?=some oj->j≠x->oj.dst≠some d:=by
 unfold Gl at h
 split at h
 ·rename_i o ho
  rw [qM] at ho
  split at h
  ·rename_i t d' ho1 ho2 ho3
   cases ha:nj x d' 0 ops.toList with
   | false=>rw [ha] at h;cases h
   | true =>
    rw [ha] at h
    simp only [cond_true,Option.some.injEq] at h
    subst h
    exact⟨o,by simpa using ho,ho2,ho3,λj oj hj hne=>kf ha j oj (by simpa using hj) za⟩
  ·rename_i t d' ho1 ho2 ho3
   cases ha:nj x d' 0 ops.toList with
   | false=>rw [ha] at h;cases h
   | true =>
    rw [ha] at h
    simp only [cond_true,Option.some.injEq] at h
    subst h
    exact⟨o,by simpa using ho,ho2,ho3,λj oj hj hne=>kf ha j oj (by simpa using hj) za⟩
  ·cases h
 ·cases h
def Av (k:Option Nat) (n:Nat):AV:=match k with
 | none=>.ptr n 0
 | some len=>.sl n 0 len len true
def Jd (k:Option Nat) (b:Nat):Value:=match k with
 | none=>.pointer (some ⟨b,0,none⟩)
 | some len=>.slice (some ⟨b,0,none⟩) len len
theorem Je {k:Option Nat}{n b c:Nat}(h:ν n=some (b,c)):(Av k n).val ν=some (Jd k b):=by
 cases k with
 | none=>exact oT h
 | some len=>exact wZ h (Nat.le_refl _)
theorem Gq (hf:bP δ ν N S a){o:Oper}{cs:List AV}{k:Option Nat}(h:jt P S o=some (cs,k)) :
 ∃ (us:List Value) (T:TypeId),bF ν cs=some us/\∀ w:World,(execOp a.eval o).run P w=.ok (.value (Jd k w.heap.size)) { w with heap:=w.heap.push (.cells us.toArray T) }:=by
 unfold jt at h
 split at h
 ·rename_i t ho
  split at h
  ·rename_i z hz
   simp only [Option.some.injEq,Prod.mk.injEq] at h
   obtain⟨rfl,rfl⟩:=h
   obtain⟨ti,zv,z1,z2,z3⟩:=gz (ν:=ν) hz
   refine⟨_,t,z3,λw=>?_⟩
   simp [execOp,ho,Instr.alloc,zeroValue,typeInfo,z1,z2,newVar,newRow,newObj,Sem.run,bind,Sem.bind,pure,program,Jd]
  ·cases h
 ·rename_i t len parts ho
  split at h
  ·rename_i cs' hc
   simp only [Option.some.injEq,Prod.mk.injEq] at h
   obtain⟨rfl,rfl⟩:=h
   exact oV hf ho hc
  ·cases h
 ·cases h
theorem Gr {call:FuncId->List AV->AM->R2}{o:Oper}{cs:List AV}{k:Option Nat}(h:jt P S o=some (cs,k)):uS P G call m S o=some (Av k m.next,m.new (.cells cs)):=by
 unfold jt at h
 split at h
 ·rename_i t ho
  split at h
  ·rename_i z hz
   simp only [Option.some.injEq,Prod.mk.injEq] at h
   obtain⟨rfl,rfl⟩:=h
   unfold uS
   rw [ho]
   simp only
   unfold iE
   rw [ho]
   simp only [rV,hz,Av]
  ·cases h
 ·rename_i t len parts ho
  split at h
  ·rename_i cs' hc
   simp only [Option.some.injEq,Prod.mk.injEq] at h
   obtain⟨rfl,rfl⟩:=h
   unfold uS
   rw [ho]
   simp only
   unfold iE
   rw [ho]
   simp only [lU,hc,Av]
  ·cases h
 ·cases h
theorem uG {S1 S2:AE}:∀ {l:List (Nat×Operand)},(∀ t∈l.filterMap (λp=>KZ p.2),S2.get t=S1.get t)->jL S2 l=jL S1 l
 | [],_=>rfl
 | (i,x)::l,h=>by
  have h1:cC S2 x=cC S1 x:=by
   cases x with
   | tmp t=>exact h t (by simp [KZ])
   | _=>rfl
  have h2:jL S2 l=jL S1 l:=uG λt ht=>h t (by
   simp only [List.mem_filterMap] at ht ⊢
   obtain⟨p,hp,e⟩:=ht
   exact⟨p,List.mem_cons_of_mem _ hp,e⟩)
  simp only [jL,h1,h2]
theorem Ee {S1 S2:AE}{o:Oper}(h:∀ t∈Gk o,S2.get t=S1.get t):jt P S2 o=jt P S1 o:=by
 unfold jt
 split
 ·rfl
 ·rename_i t len parts ho
  have e:jL S2 parts.toList=jL S1 parts.toList:=uG λt ht=>h t (by unfold Gk;rw [ho];exact ht)
  have e2:iU P S2 t len parts.toList=iU P S1 t len parts.toList:=by
   unfold iU
   rw [e]
  rw [e2]
 ·rfl
theorem Gs {d:Option Tmp}{l:List Tmp}(h:Np d l=true):∀ t∈l,d≠some t:=by
 intro t ht e
 subst e
 have:=List.all_eq_true.1 h t ht
 have hb:Nat.beq t t=true:=by simp
 rw [hb] at this
 cases this
theorem pe {ops:Array Oper}{x:Nat}{o0 o:Oper}(hx:ops[x]?=some o0){q:List AV×Option Nat}(hv:jt P S o0=some q) (h:oQ P S ops.toList x o=true) (hg:∀ t,o.dst≠some t->S'.get t=S.get t):jt P S' o0=some q:=by
 have e:sU ops.toList x=some o0:=by rw [qM];simpa using hx
 unfold oQ at h
 rw [e] at h
 simp only [hv] at h
 rw [Ee (S1:=S) λt ht=>hg t (Gs h t ht)]
 exact hv
theorem St.N8 {b:Nat}{us:List Value}{T:TypeId}{cs:List AV}(hs:St w0 (Mem ν m::aB b us.toArray T::L) w) (hu:bF ν cs=some us) :
 St w0 (Mem (ν.add m.next (b,0)) (m.new (.cells cs))::L) w/\ν.le (ν.add m.next (b,0)):=by
 have hm:=dD hs
 have hle:ν.le (ν.add m.next (b,0)):=Nu.nk (hm.fresh _ (Nat.le_refl _))
 have hap:=(List.pairwise_cons.1 hs.apart).1 (aB b us.toArray T) zw
 have hcel:=hs.holds (aB b us.toArray T) zw
 have look:∀ (k:Nat) (cN:eK),(m.new (.cells cs)).get k=some cN->(k=m.next/\cN=.cells cs)\/(k≠m.next/\m.get k=some cN):=by
  intro k cN h
  rw [pI] at h
  by_cases e:k=m.next
  ·rw [if_pos e] at h;cases h;exact .inl ⟨e,rfl⟩
  ·rw [if_neg e] at h;exact .inr ⟨e,h⟩
 refine⟨St.conv hs.join (λ_=>⟨λk hk=>?_,λk cN h=>?_,λk k' b1 b2 p p' h h' hp hp' he=>?_⟩) ?_,hle⟩
 ·have:m.next+1<=k:=hk
  rw [Nu.add,if_neg za]
  exact hm.fresh k za
 ·rcases look k cN h with⟨rfl,rfl⟩|⟨e,h⟩
  ·obtain⟨fr,h1,h2⟩:=hcel
   exact⟨(b,0),_,Nu.bV _ _ _,h1,us,T,fr,dX hle _ hu,rfl,by simpa using h2⟩
  ·obtain⟨p,o,h1,h2,h3⟩:=hm.at_ k cN h
   exact⟨p,o,hle k p h1,h2,eK.lG hle _ h3⟩
 ·have own:∀ (k:Nat) (cN:eK) (p:Nat×Nat),k≠m.next->m.get k=some cN->(ν.add m.next (b,0)) k=some p->ν k=some p/\p.1≠b:=by
   intro k cN p hne h hp
   rw [Nu.add,if_neg hne] at hp
   exact⟨hp,λe=>hap p.1 ⟨k,cN,p,h,hp,rfl⟩ e⟩
  rcases look k b1 h with⟨e,-⟩|⟨e,hh⟩
  ·rcases look k' b2 h' with⟨e',-⟩|⟨e',hh'⟩
   ·rw [e,e']
   ·obtain⟨_,h2⟩:=own k' b2 p' e' hh' hp'
    rw [e,Nu.bV] at hp
    cases hp
    exact absurd he.symm h2
  ·obtain⟨h1,h2⟩:=own k b1 p e hh hp
   rcases look k' b2 h' with⟨e',-⟩|⟨e',hh'⟩
   ·rw [e',Nu.bV] at hp'
    cases hp'
    exact absurd he h2
   ·obtain⟨h3,_⟩:=own k' b2 p' e' hh' hp'
    exact hm.inj k k' b1 b2 p p' hh hh' h1 h3 he
 ·rintro b' ⟨k,cN,p,h,hp,rfl⟩
  rcases look k cN h with⟨rfl,-⟩|⟨e,hh⟩
  ·rw [Nu.bV] at hp
   cases hp
   exact .inr rfl
  ·rw [Nu.add,if_neg e] at hp
   exact .inl ⟨k,cN,p,hh,hp,rfl⟩
theorem nO.frame (hG:nO G w0 L) (A:bA):nO G w0 (A::L):=λν m w hs=>hG ν m w (hs.sub (List.Sublist.cons_cons _ (List.Sublist.cons _ (List.Sublist.refl _))))
theorem nx {a:Act}{d:Nat}{e:Option Tmp}{v:Value}(h:e≠some d):(a.put e v).tmps.getD d undef=a.tmps.getD d undef:=by
 cases e with
 | none=>rfl
 | some k =>
  have hk:k≠d:=λe=>h (by rw [e])
  simp only [Act.put,Array.getD_eq_getD_getElem?]
  rw [Array.getElem?_setIfInBounds_ne hk]
theorem gB {d:Nat}{e:Option Tmp}{av:AV}(h:qB N S e av=some S') (hne:e≠some d):S'.get d=S.get d:=by
 unfold qB at h
 split at h
 ·simp only [Option.some.injEq] at h;subst h;rfl
 ·rename_i k
  have hk:d≠k:=λe=>hne (by rw [e])
  cases hb:Nat.ble (k+1) N with
  | false=>rw [hb] at h;cases h
  | true =>
   rw [hb] at h
   simp only [cond_true,Option.some.injEq] at h
   subst h
   exact Tr.lE _ _ hk
theorem pf {call:FuncId->List AV->AM->R2}{ops:List Oper}{o:Oper}{d:Nat}(h:fJ P G call N ops o S m=some (S',m')) (hne:o.dst≠some d):S'.get d=S.get d:=by
 unfold fJ at h
 split at h
 ·unfold BF at h
  split at h
  ·split at h
   ·rename_i hp
    simp only [Option.some.injEq,Prod.mk.injEq] at h
    obtain⟨rfl,rfl⟩:=h
    exact gB hp hne
   ·cases h
  ·cases h
 ·unfold BF at h
  simp only at h
  split at h
  ·rename_i hp
   simp only [Option.some.injEq,Prod.mk.injEq] at h
   obtain⟨rfl,rfl⟩:=h
   exact gB hp hne
  ·cases h
 ·cases h
theorem kg {call:FuncId->List AV->AM->R2}(hc:kG P G call) (hcr:lZ P G call) (hG:nO G w0 L){ops:Array Oper}{M:List Nat}{x d b:Nat}{o0:Oper}{cs:List AV}{k:Option Nat}{us:List Value}{t:TypeId}(hx:ops[x]?=some o0) (hd0:o0.dst=some d) (hg0:o0.guard=none)
 (hap:∀ j oj,ops[j]?=some oj->j≠x->oj.dst≠some d){Q:Exit->Act->World->Prop}:∀ (l:List (Nat×Bool)) (D:jN) (Dr:Reads) (S:AE) (m:AM) (ν:Nu) (w:World) (a:Act),
 oR P G call N ops.toList M x l D S m=some (S',m')->tj δ P ν N Dr D->bP δ ν N S a->S.get d=none->a.tmps.getD d undef=Jd k b->jt P S o0=some (cs,k)->bF ν cs=some us->St w0 (Mem ν m::aB b us.toArray t::L) w ->
 (∀ ν' w' a',ν.le ν'->bP δ ν' N S' a'->St w0 (Mem ν' m'::L) w'->Q .normal a' w')->bZ ro P ops M Q Dr (wQ (lD x l)) a w
 | [],D,Dr,S,m,ν,w,a,h,_,_,_,_,_,_,_,_=>by cases h
 | (i,r)::l,D,Dr,S,m,ν,w,a,h,hD,hf,hSd,had,hv0,hus,hs,hK=>by
  have h':mI P G call N ops.toList M x (lV P G call N ops.toList M l) (oR P G call N ops.toList M x l) (i,r) D S m=some (S',m'):=h
  have hG':=hG.frame (aB b us.toArray t)
  unfold mI at h'
  split at h'
  ·rename_i o ho
   rw [qM] at ho
   have hi:ops[i]?=some o:=by simpa using ho
   split at h'
   ·rename_i hb
    obtain rfl:r=true:=hb
    cases hix:Nat.beq i x with
    | true=>rw [hix] at h';cases h'
    | false =>
     rw [hix] at h'
     have hne:=Nat.ne_of_beq_eq_false hix
     simp only [cond_false] at h'
     cases hkp:oQ P S ops.toList x o with
     | false=>rw [hkp] at h';cases h'
     | true =>
     rw [hkp] at h'
     simp only [cond_true] at h'
     have hdrop:lD x ((i,true)::l)=(i,true)::lD x l:=by simp only [lD,hix,cond_false]
     rw [hdrop]
     have hdst:=hap i o hi hne
     unfold mG at h'
     split at h'
     ·rename_i D2 S2 hr
      unfold iM at hr
      split at hr
      ·rename_i hw
       split at hr
       ·rename_i av hav
        split at hr
        ·rename_i S3 hp
         simp only [Option.some.injEq,Prod.mk.injEq] at hr
         obtain⟨hD2,rfl⟩:=hr
         have hm:=dD hs
         obtain⟨v,h1,h2⟩:=dU hf hm (hG' ν m w hs) hav
         have hwt:=fM hf hw
         have hSd3:S3.get d=none:=by rw [gB hp hdst];exact hSd
         have had3:(a.put o.dst v).tmps.getD d undef=Jd k b:=by rw [nx hdst];exact had
         have hv3:jt P S3 o0=some (cs,k):=pe hx hv0 hkp λt ht=>gB hp ht
         cases hl:looks o.op with
         | false =>
          rw [hl] at hD2
          simp only [cond_false] at hD2
          subst hD2
          refine⟨o,v,λ_=>True,hi,.inl ⟨hwt,λw1 _=>oZ hf hm hl hav h1 w1⟩,trivial,?_⟩
          refine kg hc hcr hG hx hd0 hg0 hap l D _ S3 m ν w _ h' (λy hy=>?_) (hf.put h1 hp) hSd3 had3 hv3 hus hs hK
          rcases List.mem_cons.1 hy with rfl|hy
          ·exact .inl λ_=>trivial
          ·exact hD y hy
         | true =>
          rw [hl] at hD2
          simp only [cond_true] at hD2
          subst hD2
          refine⟨o,v,λw1=>(execOp a.eval o).run P w1=.ok (.value v) w1,hi,.inl ⟨hwt,λw1 h=>h⟩,h2,?_⟩
          refine kg hc hcr hG hx hd0 hg0 hap l _ _ S3 m ν w _ h' (λy hy=>?_) (hf.put h1 hp) hSd3 had3 hv3 hus hs hK
          rcases List.mem_cons.1 hy with rfl|hy
          ·exact .inr ⟨(i,S,o,av),List.mem_cons_self ..,rfl,a,v,hf,h1,λw1 h=>h⟩
          ·rcases hD y hy with h|⟨q,hq,r⟩
           ·exact .inl h
           ·exact .inr ⟨q,List.mem_cons_of_mem _ hq,r⟩
        ·cases hr
       ·cases hr
      ·rename_i hw
       split at hr
       ·rename_i S3 hp
        simp only [Option.some.injEq,Prod.mk.injEq] at hr
        obtain⟨rfl,rfl⟩:=hr
        refine⟨o,undef,λ_=>True,hi,.inr ⟨fM hf hw,rfl⟩,trivial,?_⟩
        refine kg hc hcr hG hx hd0 hg0 hap l D _ S3 m ν w _ h' (λy hy=>?_) (hf.put rfl hp) (by rw [gB hp hdst];exact hSd) (by rw [nx hdst];exact had) (pe hx hv0 hkp λt ht=>gB hp ht) hus hs hK
        rcases List.mem_cons.1 hy with rfl|hy
        ·exact .inl λ_=>trivial
        ·exact hD y hy
       ·cases hr
      ·cases hr
     ·cases h'
   ·rename_i hb
    obtain rfl:r=false:=hb
    cases hix:Nat.beq i x with
    | true =>
     rw [hix] at h'
     have:=Nat.eq_of_beq_eq_true hix
     subst this
     rw [hx] at hi
     cases hi
     simp only [cond_true] at h'
     have hdrop:lD i ((i,false)::l)=l:=by simp only [lD,hix,cond_true]
     rw [hdrop]
     unfold kS at h'
     split at h'
     ·rename_i S2 m2 h1
      cases hst:still P G M i m2 D with
      | false=>rw [hst] at h';cases h'
      | true =>
       rw [hst] at h'
       simp only [cond_true] at h'
       obtain⟨hS2,hm2⟩:qB N S (some d) (Av k m.next)=some S2/\m2=m.new (.cells cs):=by
        have hw:kR ops.toList S o0.guard=some true:=by rw [hg0];rfl
        have he:uS P G call m S o0=some (Av k m.next,m.new (.cells cs)):=Gr hv0
        unfold fJ at h1
        rw [hw] at h1
        simp only [he,BF,hd0] at h1
        split at h1
        ·rename_i S4 hp
         simp only [Option.some.injEq,Prod.mk.injEq] at h1
         exact⟨by rw [hp,h1.1],h1.2.symm⟩
        ·cases h1
       subst hm2
       obtain⟨k1,k2⟩:=St.N8 hs hus
       have hf2:bP δ (ν.add m.next (b,0)) N S2 a:=by
        refine⟨hf.defers,hf.size,λk' y hy=>?_⟩
        unfold qB at hS2
        simp only at hS2
        cases hb2:Nat.ble (d+1) N with
        | false=>rw [hb2] at hS2;cases hS2
        | true =>
         rw [hb2] at hS2
         simp only [cond_true,Option.some.injEq] at hS2
         subst hS2
         rw [Tr.iB] at hy
         split at hy
         ·rename_i e
          subst e
          cases hy
          exact⟨_,Je (Nu.bV _ _ _),had⟩
         ·obtain⟨v,h3,h4⟩:=hf.at_ k' y hy
          exact⟨v,AV.eL k2 _ h3,h4⟩
       exact iY hc hcr hG l D Dr S2 _ _ w a h' (hD.mono k2) hf2 k1 λν' w' a' j1 j2 j3=>hK ν' w' a' (Nu.le_trans k2 j1) j2 j3
     ·cases h'
    | false =>
     rw [hix] at h'
     have hne:=Nat.ne_of_beq_eq_false hix
     simp only [cond_false] at h'
     have hdrop:lD x ((i,false)::l)=(i,false)::lD x l:=by simp only [lD,hix,cond_false]
     rw [hdrop]
     have hdst:=hap i o hi hne
     cases hall:(oQ P S ops.toList x o && BI P S ops.toList x && still P G M x m D) with
     | false=>rw [hall] at h';cases h'
     | true =>
      rw [hall] at h'
      simp only [Bool.and_eq_true] at hall
      obtain⟨⟨hkp,hrd⟩,hsx⟩:=hall
      simp only [cond_true] at h'
      unfold kS at h'
      split at h'
      ·rename_i S2 m2 h1
       cases hst:still P G M i m2 D with
       | false=>rw [hst] at h';cases h'
       | true =>
        rw [hst] at h'
        simp only [cond_true] at h'
        refine bZ.ef ?_
        refine oY hc hcr hG' hf hs hi h1 λν' w' v k1 k2 k3=>⟨λy hy ha=>?_,?_⟩
        ·rcases hD y hy with h|⟨q,hq,e,b',v',h3,h4,h5⟩
         ·exact h w'
         ·have h6:=lK hst q hq (by rw [e];exact ha)
          obtain⟨u,h7,h8⟩:=dU (h3.mono k1) (dD k3) (hG' ν' m2 w' k3) h6
          rw [AV.eL k1 _ h4] at h7
          cases h7
          exact h5 w' h8
        ·exact kg hc hcr hG hx hd0 hg0 hap l D Dr S2 m2 ν' w' _ h' (hD.mono k1) k2 (by rw [pf h1 hdst];exact hSd) (by rw [nx hdst];exact had) (pe hx hv0 hkp λt ht=>pf h1 ht) (dX k1 _ hus) k3 λν'' w'' a'' j1 j2 j3=>hK ν'' w'' a'' (Nu.le_trans k1 j1) j2 j3
      ·cases h'
  ·cases h'
theorem kh {call:FuncId->List AV->AM->R2}(hc:kG P G call) (hcr:lZ P G call) (hG:nO G w0 L){ops:Array Oper}{M:List Nat}{x d:Nat}{o0:Oper}(hx:ops[x]?=some o0) (hd0:o0.dst=some d) (hg0:o0.guard=none)
 (hap:∀ j oj,ops[j]?=some oj->j≠x->oj.dst≠some d){Q:Exit->Act->World->Prop}:∀ (l:List (Nat×Bool)) (D:jN) (Dr:Reads) (S:AE) (m:AM) (ν:Nu) (w:World) (a:Act),
 oR P G call N ops.toList M x l D S m=some (S',m')->tj δ P ν N Dr D->bP δ ν N S a->S.get d=none->d<N->St w0 (Mem ν m::L) w ->
 (∀ ν' w' a',ν.le ν'->bP δ ν' N S' a'->St w0 (Mem ν' m'::L) w'->Q .normal a' w')->bZ ro P ops M Q Dr (Jy x l) a w
 | [],D,Dr,S,m,ν,w,a,h,_,_,_,_,_,_=>by cases h
 | (i,r)::l,D,Dr,S,m,ν,w,a,h,hD,hf,hSd,hdN,hs,hK=>by
  have h':mI P G call N ops.toList M x (lV P G call N ops.toList M l) (oR P G call N ops.toList M x l) (i,r) D S m=some (S',m'):=h
  have h0:=h'
  unfold mI at h'
  split at h'
  ·rename_i o ho
   rw [qM] at ho
   have hi:ops[i]?=some o:=by simpa using ho
   split at h'
   ·rename_i hb
    obtain rfl:r=true:=hb
    cases hix:Nat.beq i x with
    | true=>rw [hix] at h';cases h'
    | false =>
     rw [hix] at h'
     have hne:=Nat.ne_of_beq_eq_false hix
     simp only [cond_false] at h'
     cases hkp:oQ P S ops.toList x o with
     | false=>rw [hkp] at h';cases h'
     | true =>
     rw [hkp] at h'
     simp only [cond_true] at h'
     have hdst:=hap i o hi hne
     show bZ ro P ops M Q Dr (.rd i (Jy x l)) a w
     unfold mG at h'
     split at h'
     ·rename_i D2 S2 hr
      unfold iM at hr
      split at hr
      ·rename_i hw
       split at hr
       ·rename_i av hav
        split at hr
        ·rename_i S3 hp
         simp only [Option.some.injEq,Prod.mk.injEq] at hr
         obtain⟨hD2,rfl⟩:=hr
         have hm:=dD hs
         obtain⟨v,h1,h2⟩:=dU hf hm (hG ν m w hs) hav
         have hwt:=fM hf hw
         have hSd3:S3.get d=none:=by rw [gB hp hdst];exact hSd
         cases hl:looks o.op with
         | false =>
          rw [hl] at hD2
          simp only [cond_false] at hD2
          subst hD2
          refine⟨o,v,λ_=>True,hi,.inl ⟨hwt,λw1 _=>oZ hf hm hl hav h1 w1⟩,trivial,?_⟩
          refine kh hc hcr hG hx hd0 hg0 hap l D _ S3 m ν w _ h' (λy hy=>?_) (hf.put h1 hp) hSd3 hdN hs hK
          rcases List.mem_cons.1 hy with rfl|hy
          ·exact .inl λ_=>trivial
          ·exact hD y hy
         | true =>
          rw [hl] at hD2
          simp only [cond_true] at hD2
          subst hD2
          refine⟨o,v,λw1=>(execOp a.eval o).run P w1=.ok (.value v) w1,hi,.inl ⟨hwt,λw1 h=>h⟩,h2,?_⟩
          refine kh hc hcr hG hx hd0 hg0 hap l _ _ S3 m ν w _ h' (λy hy=>?_) (hf.put h1 hp) hSd3 hdN hs hK
          rcases List.mem_cons.1 hy with rfl|hy
          ·exact .inr ⟨(i,S,o,av),List.mem_cons_self ..,rfl,a,v,hf,h1,λw1 h=>h⟩
          ·rcases hD y hy with h|⟨q,hq,r⟩
           ·exact .inl h
           ·exact .inr ⟨q,List.mem_cons_of_mem _ hq,r⟩
        ·cases hr
       ·cases hr
      ·rename_i hw
       split at hr
       ·rename_i S3 hp
        simp only [Option.some.injEq,Prod.mk.injEq] at hr
        obtain⟨rfl,rfl⟩:=hr
        refine⟨o,undef,λ_=>True,hi,.inr ⟨fM hf hw,rfl⟩,trivial,?_⟩
        refine kh hc hcr hG hx hd0 hg0 hap l D _ S3 m ν w _ h' (λy hy=>?_) (hf.put rfl hp) (by rw [gB hp hdst];exact hSd) hdN hs hK
        rcases List.mem_cons.1 hy with rfl|hy
        ·exact .inl λ_=>trivial
        ·exact hD y hy
       ·cases hr
      ·cases hr
     ·cases h'
   ·rename_i hb
    obtain rfl:r=false:=hb
    cases hix:Nat.beq i x with
    | true =>
     rw [hix] at h'
     have:=Nat.eq_of_beq_eq_true hix
     subst this
     simp only [cond_true] at h'
     have hpt:Jy i ((i,false)::l)=.ef i (wQ l):=by simp only [Jy,hix,cond_true]
     rw [hpt]
     unfold kS at h'
     split at h'
     ·rename_i S2 m2 h1
      cases hst:still P G M i m2 D with
      | false=>rw [hst] at h';cases h'
      | true =>
       rw [hst] at h'
       simp only [cond_true] at h'
       refine bZ.ef ?_
       refine qL hc hcr hG hf hs hi h1 λν' w' a' k1 k2 k3=>⟨λy hy ha=>?_,?_⟩
       ·rcases hD y hy with h|⟨q,hq,e,b',v',h3,h4,h5⟩
        ·exact h w'
        ·have h6:=lK hst q hq (by rw [e];exact ha)
         obtain⟨u,h7,h8⟩:=dU (h3.mono k1) (dD k3) (hG ν' m2 w' k3) h6
         rw [AV.eL k1 _ h4] at h7
         cases h7
         exact h5 w' h8
       ·exact iY hc hcr hG l D Dr S2 m2 ν' w' a' h' (hD.mono k1) k2 k3 λν'' w'' a'' j1 j2 j3=>hK ν'' w'' a'' (Nu.le_trans k1 j1) j2 j3
     ·cases h'
    | false =>
     rw [hix] at h'
     have hne:=Nat.ne_of_beq_eq_false hix
     simp only [cond_false] at h'
     have hpt:Jy x ((i,false)::l)=.alt (.ef x (.ef i (wQ (lD x l)))) (.ef i (Jy x l)):=by simp only [Jy,hix,cond_false]
     have hdrop:lD x ((i,false)::l)=(i,false)::lD x l:=by simp only [lD,hix,cond_false]
     rw [hpt]
     have hdst:=hap i o hi hne
     cases hall:(oQ P S ops.toList x o && BI P S ops.toList x && still P G M x m D) with
     | false=>rw [hall] at h';cases h'
     | true =>
      rw [hall] at h'
      simp only [Bool.and_eq_true] at hall
      obtain⟨⟨hkp,hrd⟩,hsx⟩:=hall
      have hv0:∃ cs k,jt P S o0=some (cs,k):=by
       unfold BI at hrd
       have e:sU ops.toList x=some o0:=by rw [qM];simpa using hx
       rw [e] at hrd
       obtain⟨q,hq⟩:=Option.isSome_iff_exists.1 hrd
       exact⟨q.1,q.2,hq⟩
      obtain⟨cs,k0,hv0⟩:=hv0
      obtain⟨us,t,hus,hruns⟩:=Gq hf hv0
      simp only [cond_true] at h'
      refine⟨?_,?_⟩
      ·
       refine bZ.ef ?_
       show wpOpIn (cS ro) 0 P ops Q x _ a w
       unfold wpOpIn
       simp only [hx]
       have hwt:Region.wanted o0 (yielded ops a.tmps)=true:=by unfold Region.wanted;rw [hg0]
       rw [hwt]
       simp only [if_true]
       have hrun:=hruns w
       refine Oper.mQ (λc hc=>by obtain⟨d,hd⟩:=pk hc hrun;cases hd) ?_
       unfold Oper.wp
       rw [hrun,Oper.upon_value,hd0]
       have hs2:St w0 (Mem ν m::aB w.heap.size us.toArray t::L) { w with heap:=w.heap.push (.cells us.toArray t) }:=(hs.gM us.toArray t).perm (List.Perm.swap _ _ _)
       have hG':=hG.frame (aB w.heap.size us.toArray t)
       refine⟨λy hy ha=>?_,?_⟩
       ·rcases hD y hy with h|⟨q,hq,e,b',v',h3,h4,h5⟩
        ·exact h _
        ·have h6:=lK hsx q hq (by rw [e];exact ha)
         obtain⟨u,h7,h8⟩:=dU h3 (dD hs2) (hG' ν m _ hs2) h6
         rw [h4] at h7
         cases h7
         exact h5 _ h8
       ·have hkey:=kg (ro:=ro) hc hcr hG hx hd0 hg0 hap (b:=w.heap.size) ((i,false)::l) D Dr S m ν _ (a.put (some d) (Jd k0 w.heap.size)) h hD ?_ hSd ?_ hv0 hus hs2 hK
        ·rw [hdrop] at hkey
         exact hkey
        ·refine⟨hf.defers,by simpa [Act.put] using hf.size,λk y hy=>?_⟩
         have hkd:k≠d:=λe=>by rw [e,hSd] at hy;cases hy
         obtain⟨u,h3,h4⟩:=hf.at_ k y hy
         exact⟨u,h3,by rw [nx (λe=>hkd (Option.some.inj e).symm)];exact h4⟩
        ·have:d<a.tmps.size:=by rw [hf.size];exact hdN
         simp [Act.put,Array.getD,this]
      ·unfold kS at h'
       split at h'
       ·rename_i S2 m2 h1
        cases hst:still P G M i m2 D with
        | false=>rw [hst] at h';cases h'
        | true =>
         rw [hst] at h'
         simp only [cond_true] at h'
         refine bZ.ef ?_
         refine oY hc hcr hG hf hs hi h1 λν' w' v k1 k2 k3=>⟨λy hy ha=>?_,?_⟩
         ·rcases hD y hy with h|⟨q,hq,e,b',v',h3,h4,h5⟩
          ·exact h w'
          ·have h6:=lK hst q hq (by rw [e];exact ha)
           obtain⟨u,h7,h8⟩:=dU (h3.mono k1) (dD k3) (hG ν' m2 w' k3) h6
           rw [AV.eL k1 _ h4] at h7
           cases h7
           exact h5 w' h8
         ·exact kh hc hcr hG hx hd0 hg0 hap l D Dr S2 m2 ν' w' _ h' (hD.mono k1) k2 (by rw [pf h1 hdst];exact hSd) hdN k3 λν'' w'' a'' j1 j2 j3=>hK ν'' w'' a'' (Nu.le_trans k1 j1) j2 j3
       ·cases h'
  ·cases h'
def Ef (aO:Ord) (f:FuncId) (c:Code):Prop:=∀ x∈mF c,∀ p,aO f x.1=some p->qj x.2 p.2.1 (qC p)=true
def tt:Ex->Exit
 | .normal=>.normal
 | .exit id=>.exit id
 | .ret=>.ret
def iJ (δ:List Deferred) (ν:Nu) (w0:World) (L:List bA) (N:Nat) (b:Bool) (e:Ex) (S':AE) (m':AM):Exit->Act->World->Prop:=λe' a' w' =>
 tt e=e'/\∃ (ν':Nu) (Ds:List Nat),(b=true->Ds=[])/\ν.le ν'/\bP (nv Ds++δ) ν' N S' a'/\St w0 (Mem ν' m'::(Ds.map nP++L)) w'
theorem iJ.qY {b:Bool}{e:Ex}:tV (iJ δ ν w0 L N b e S' m'):=λc a w h=>by
 obtain⟨h,_⟩:=h
 cases e<;>cases h
theorem iJ.plain {b:Bool}{e:Ex}{e':Exit}{a':Act}{w':World}{ν':Nu}(h1:tt e=e') (h2:ν.le ν') (h3:bP δ ν' N S' a') (h4:St w0 (Mem ν' m'::L) w'):iJ δ ν w0 L N b e S' m' e' a' w' :=
 ⟨h1,ν',[],λ_=>rfl,h2,h3,h4⟩
theorem iJ.after {b b' b'':Bool}{ν':Nu}{Ds:List Nat}{e:Ex}{e':Exit}{a':Act}{w':World}(hb:b=true->b''=true/\b'=true) (hDs:b'=true->Ds=[]) (h1:ν.le ν') (h:iJ (nv Ds++δ) ν' w0 (Ds.map nP++L) N b'' e S' m' e' a' w'):iJ δ ν w0 L N b e S' m' e' a' w':=by
 obtain⟨h2,ν'',Es,h3,h4,h5,h6⟩:=h
 refine⟨h2,ν'',Es++Ds,λh=>?_,Nu.le_trans h1 h4,?_,?_⟩
 ·rw [h3 (hb h).1,hDs (hb h).2];rfl
 ·rw [show nv (Es++Ds)++δ=nv Es++(nv Ds++δ) by simp [nv]];exact h5
 ·rw [show(Es++Ds).map nP++L=Es.map nP++(Ds.map nP++L) by simp];exact h6
theorem iJ.weaken {b b':Bool}{e:Ex}{e':Exit}{a':Act}{w':World}(hb:b=true->b'=true) (h:iJ δ ν w0 L N b' e S' m' e' a' w'):iJ δ ν w0 L N b e S' m' e' a' w':=by
 obtain⟨h2,ν'',Es,h3,r⟩:=h
 exact⟨h2,ν'',Es,λh=>h3 (hb h),r⟩
theorem nO.Gt (hG:nO G w0 L):∀ Ds:List Nat,nO G w0 (Ds.map nP++L)
 | []=>hG
 | d::Ds=>(nO.Gt hG Ds).frame (nP d)
theorem xt:∀ (l:List AV) (k:Nat) (S:AE) (j:Nat),(uT k l S).get j=if k<=j/\j<k+l.length then l[j-k]? else S.get j
 | [],k,S,j=>by simp [uT];intro h1 h2;omega
 | x::l,k,S,j=>by
  simp only [uT]
  rw [xt l (k+1) _ j]
  simp only [List.length_cons]
  by_cases h:k=j
  ·subst h
   rw [if_neg za,Tr.fK,if_pos za]
   simp
  ·rw [Tr.lE _ _ (λe=>h e.symm)]
   by_cases h2:k+1<=j/\j<k+1+l.length
   ·rw [if_pos h2,if_pos za,show j-k=(j-(k+1))+1 from by omega]
    simp
   ·rw [if_neg h2,if_neg za]
theorem Aw (hf:bP δ ν N S a) (hs:St w0 (Mem ν m::L) w) (hG:nO G w0 L) :
 ∀ {rs:List ResultVar}{asx:List AV},DM P G m S rs=some asx->∃ vs,bF ν asx=some vs/\∀ (g:ResultVar->Sem Value),(∀ t,g (.tmp t)=pure (a.tmps.getD t undef))->(∀ c t,g (.cell c t)=do loadVar t (<- asAddr (a.tmps.getD c undef)))->(rs.mapM (m:=Sem) g).run P w=.ok vs w
 | [],asx,h=>by simp only [DM,Option.some.injEq] at h;subst h;exact⟨[],rfl,λg _ _=>by simp⟩
 | r::rs,asx,h=>by
  simp only [DM] at h
  split at h
  ·rename_i b hb
   split at h
   ·rename_i bs hbs
    simp only [Option.some.injEq] at h
    subst h
    obtain⟨vs,h1,h2⟩:=Aw hf hs hG hbs
    cases r with
    | tmp t =>
     obtain⟨v,h3,h4⟩:=hf.at_ t b hb
     refine⟨v::vs,aM h3 h1,λg g1 g2=>?_⟩
     rw [List.mapM_cons]
     simp only [Sem.run_bind,g1,Sem.run_pure,Result.andThen_ok,h2 g g1 g2,h4]
    | cell c t =>
     obtain⟨x,hx,hl⟩:=ke hb
     obtain⟨u,h3,h4⟩:=hf.at_ c x hx
     obtain⟨ad,v,rfl,h5,h6⟩:=lX (dD hs) (hG ν m w hs) h3 hl
     refine⟨v::vs,aM h5 h1,λg g1 g2=>?_⟩
     have h7:=h2 g g1 g2
     rw [List.mapM_cons]
     simp only [Sem.run_bind,g2,h4,asAddr,Sem.run_pure,Result.andThen_ok,h6,h7]
   ·cases h
  ·cases h
theorem uH {fn:Func}(hf:bP δ ν N S a) (hs:St w0 (Mem ν m::L) w) (hG:nO G w0 L){asx:List AV}(h:DM P G m S fn.results.toList=some asx):∃ v,(Ah asx).val ν=some v/\(results fn a.tmps).run P w=.ok v w:=by
 have hr:∃ vs,bF ν asx=some vs/\∀ v,(if h:vs.toArray.size=1 then vs.toArray[0] else Value.tuple vs.toArray)=v->(results fn a.tmps).run P w=.ok v w:=by
  unfold results
  rw [Array.mapM_eq_mapM_toList]
  obtain⟨vs,h1,h2⟩:=Aw hf hs hG h
  refine⟨vs,h1,λv hv=>?_⟩
  simp only [Sem.run_bind,Sem.run_map]
  rw [h2]
  ·simp only [Result.andThen_ok,Sem.run_pure]
   rw [hv]
  ·intro t;rfl
  ·intro c t;rfl
 obtain⟨vs,h1,hr⟩:=hr
 have hlen:=cO h1
 match asx,vs,h1,hlen,hr with
 | [x],[v],h1,_,hr =>
  obtain⟨v',ws,k1,k2,k3⟩:=cB.1 h1
  cases k3
  exact⟨v,k1,hr v zw⟩
 | [],[],h1,_,hr=>exact⟨.tuple #[],rfl,hr _ zw⟩
 | x::y::l,v::u::l',h1,_,hr=>exact⟨.tuple (v::u::l').toArray,by simp only [Ah,AV.val,h1],hr _ zw⟩
def fC (P:Program) (G:Nat->Option (List Value)) (X:eY):Prop:=∀ g f,X g=some f->∀ asx m r m' ν vs w w0 L,f asx m=some (r,m')->nO G w0 L->bF ν asx=some vs->St w0 (Mem ν m::L) w ->
 Calls P g vs.toArray w (eD λv w'=>∃ ν',ν.le ν'/\r.val ν'=some v/\St w0 (Mem ν' m'::L) w')
variable {aO : Ord} {X : eY}
theorem tu (n:Nat):exec P G aO X (n+1)=lW P G aO X (exec P G aO X n):=rfl
theorem St.N9 (hs:St w0 (Mem ν m::L) w){id:Nat}{cN:eK}{p:Nat×Nat}(hg:m.get id=some cN) (hp:ν id=some p) (o:Obj):St w0 (Mem ν (m.del id)::L) (w.putObj p.1 o):=by
 have hm:=dD hs
 obtain⟨p',o',h1,h2,-⟩:=hm.at_ id _ hg
 rw [hp] at h1
 cases h1
 have old:∀ (k:Nat) (b:eK),(m.del id).get k=some b->k≠id/\m.get k=some b:=by
  intro k b h
  rw [vd] at h
  split at h
  ·cases h
  ·rename_i e;exact⟨e,h⟩
 have hne:∀ (k:Nat) (b:eK) (q:Nat×Nat),(m.del id).get k=some b->ν k=some q->q.1≠p.1:=λk b q h hq e=>(old k b h).1 (hm.inj k id b cN q p (old k b h).2 hg hq hp e)
 refine St.step hs rfl rfl rfl zw (λb hb hn=>?_) ⟨hm.fresh,λk b h=>?_,λk k' b b' q q' h h'=>hm.inj k k' b b' q q' (old k b h).2 (old k' b' h').2⟩ (λb hb=>?_)
 ·exact World.putObj_heap_other (λe=>hn ⟨id,cN,p,hg,hp,e.symm⟩)
 ·obtain⟨q,ob,j1,j2,j3⟩:=hm.at_ k b (old k b h).2
  exact⟨q,ob,j1,(World.putObj_heap_other (hne k b q h j1)).trans j2,j3⟩
 ·obtain⟨k,bl,q,h,hq,rfl⟩:=hb
  have hown:(Mem ν m).own q.1:=⟨k,bl,q,(old k bl h).2,hq,rfl⟩
  exact⟨.inl hown,by simpa using hs.lt _ (List.mem_cons_self ..) _ hown⟩
theorem tv {n:Nat}(hX:fC P G X) (fS:∀ g fn b,P.funcs[g]?=some fn->fn.body=some b->Ef aO g b)
 (ih:∀ f N c S m e S' m',exec P G aO X n f N c S m=some (e,S',m')->Ef aO f c->∀ ro,(ro=none\/gK c=true)->∀ δ ν w0 L w a,nO G w0 L->bP δ ν N S a->St w0 (Mem ν m::L) w->c.wpIn (cS ro) 0 P (iJ δ ν w0 L N (gK c) e S' m') a w) :
 kG P G (lC P G X (exec P G aO X n)):=by
 intro f asx m r m' ν vs w w0 L _ h hG hvs hs
 unfold lC at h
 split at h
 ·rename_i g hg
  exact hX f g hg asx m r m' ν vs w w0 L h hG hvs hs
 ·split at h
  ·rename_i fn hfn
   unfold DQ at h
   split at h
   ·rename_i b hb
    cases hle:Nat.ble asx.length fn.ntmps with
    | false=>rw [hle] at h;cases h
    | true =>
     rw [hle] at h
     have hle:=bN hle
     simp only [cond_true] at h
     unfold uZ at h
     split at h
     ·rename_i e S' m2 he
      have hne:∀ id,e≠.exit id:=by
       intro id e'
       subst e'
       cases h
      have h:(match DM P G m2 S' fn.results.toList with
       | some l=>some (Ah l,m2)
       | none=>none)=some (r,m'):=by
       cases e with
       | exit id=>exact(hne id rfl).elim
       | _=>exact h
      split at h
      ·rename_i l hl
       simp only [Option.some.injEq,Prod.mk.injEq] at h
       obtain⟨rfl,rfl⟩:=h
       have lv:=cO hvs
       refine(gQ (r:=none) (n:=0)).1 (callsIn_of_wp_marks hfn hb trivial ?_)
       have hf0:bP [] ν fn.ntmps (uT 0 asx .nil) { tmps:=vs.toArray++Array.replicate (fn.ntmps-vs.toArray.size) undef,defers:=[] }:=by
        refine⟨rfl,by simp;omega,λk x hx=>?_⟩
        rw [xt] at hx
        simp only [Nat.zero_le,true_and,Nat.zero_add,Nat.sub_zero] at hx
        by_cases hk:k<asx.length
        ·rw [if_pos hk] at hx
         obtain⟨v,h1,h2⟩:=mK hvs hx
         refine⟨v,h1,?_⟩
         simp only [Array.getD_eq_getD_getElem?]
         rw [Array.getElem?_append_left zO]
         simp [h2]
        ·rw [if_neg hk] at hx
         cases hx
       have hwp:=ih f fn.ntmps b (uT 0 asx .nil) m e S' m2 he (fS f fn b hfn hb) none (.inl rfl) [] ν w0 L w _ hG hf0 hs
       refine wpIn_mono hwp λe' a' w' hq=>?_
       obtain⟨he',ν',Ds,-,k1,k2,k3⟩:=hq
       have hd:a'.defers=nv Ds:=by rw [k2.defers,List.append_nil]
       have fin:LeavesInM (cS none) 0 P fn a'.tmps (eD λv w'=>∃ ν',ν.le ν'/\(Ah l).val ν'=some v/\St w0 (Mem ν' m2::L) w') a'.defers .returning w':=by
        rw [hd]
        refine ss Ds w' k3 λw3 k4=>?_
        obtain⟨v,j1,j2⟩:=uH (P:=P) (fn:=fn) k2 k4 hG hl
        exact⟨v,j2,ν',k1,j1,k4⟩
       subst he'
       cases e with
       | normal=>exact fin
       | ret=>exact fin
       | exit id=>exact(hne id rfl).elim
      ·cases h
     ·cases h
   ·cases h
  ·cases h
theorem xu:∀ (ps:List Tmp) (asx:List AV) (vs:List Value) (S S1:AE) (tm:Array Value),wR N ps asx S=some S1->bF ν asx=some vs->tm.size=N->(∀ k x,S.get k=some x->∃ v,AV.val ν x=some v/\tm.getD k undef=v) ->
 asx.length=ps.length/\((ps.zip vs).foldl (λt (x:Tmp×Value)=>t.setIfInBounds x.1 x.2) tm).size=N/\∀ k x,S1.get k=some x->∃ v,AV.val ν x=some v/\((ps.zip vs).foldl (λt (x:Tmp×Value)=>t.setIfInBounds x.1 x.2) tm).getD k undef=v
 | [],[],vs,S,S1,tm,h,hv,hsz,hat=>by
  simp only [wR,Option.some.injEq] at h
  subst h
  exact⟨rfl,hsz,hat⟩
 | p::ps,a::l,vs,S,S1,tm,h,hv,hsz,hat=>by
  simp only [wR] at h
  cases hb:Nat.ble (p+1) N with
  | false=>rw [hb] at h;cases h
  | true =>
   rw [hb] at h
   have hp:=bN hb
   simp only [cond_true] at h
   obtain⟨v,ws,h1,h2,rfl⟩:=cB.1 hv
   obtain⟨k1,k2,k3⟩:=xu ps l ws (S.set p (some a)) S1 (tm.setIfInBounds p v) h h2 (by simpa using hsz) (λk x hx=>by
    by_cases e:k=p
    ·subst e
     rw [Tr.fK] at hx
     cases hx
     refine⟨v,h1,?_⟩
     have:k<tm.size:=za
     simp [Array.getD,this]
    ·rw [Tr.lE _ _ e] at hx
     obtain⟨u,j1,j2⟩:=hat k x hx
     refine⟨u,j1,?_⟩
     rw [<- j2]
     simp only [Array.getD_eq_getD_getElem?]
     rw [Array.getElem?_setIfInBounds_ne (λh=>e h.symm)])
   exact⟨by simp [k1],k2,k3⟩
 | [],_::_,vs,S,S1,tm,h,_,_,_=>by simp [wR] at h
 | _::_,[],vs,S,S1,tm,h,_,_,_=>by simp [wR] at h
theorem Ax {f:FuncId}{c:Code}(h:KX aO f c=true):Ef aO f c:=by
 intro x hx p hp
 have:=List.all_eq_true.1 h x hx
 rw [hp] at this
 exact this
theorem Jf (ps:List Tmp) (vs:List Value) (tm:Array Value):(ps.toArray.zip vs.toArray).foldl (λtmps (t,a)=>tmps.setIfInBounds t a) tm=(ps.zip vs).foldl (λt (x:Tmp×Value)=>t.setIfInBounds x.1 x.2) tm:=by
 simp
def Pa (P:Program) (G:Nat->Option (List Value)) (aO:Ord) (X:eY) (n:Nat):Prop :=
 ∀ f N c S m e S' m',exec P G aO X n f N c S m=some (e,S',m')->Ef aO f c->∀ ro,(ro=none\/gK c=true)->∀ δ ν w0 L w a,nO G w0 L->bP δ ν N S a->St w0 (Mem ν m::L) w->c.wpIn (cS ro) 0 P (iJ δ ν w0 L N (gK c) e S' m') a w
theorem Eg {n:Nat}(ih:Pa P G aO X n):lZ P G (Rz P G aO X (exec P G aO X n)):=by
 intro id asx m r m' ν vs w w0 L p h hG hv hp hs
 unfold Rz at h
 rw [Nat.beq_refl] at h
 simp only [cond_true] at h
 cases hen:enters P YF with
 | true=>rw [hen] at h;cases h
 | false =>
 rw [hen] at h
 simp only [cond_false] at h
 unfold KY at h
 simp only at h
 split at h
 ·rename_i f N S ps ca cb st pd hg
  cases hb:(KX aO f ca && KX aO f cb && gK ca && gK cb) with
  | false=>rw [hb] at h;cases h
  | true =>
  rw [hb] at h
  simp only [Bool.and_eq_true] at hb
  obtain⟨⟨⟨ok1,ok2⟩,nr1⟩,nr2⟩:=hb
  simp only [cond_true] at h
  split at h
  ·rename_i S1 hS1
   obtain⟨p',o,hp',ho,r0,rfl,-,-,-,hpar,hasg,hbody,hsz,hat⟩:=(dD hs).at_ id _ hg
   rw [hp] at hp'
   cases hp'
   obtain⟨hl,hsz1,hat1⟩:=xu ps asx vs S S1 r0.tmps hS1 hv hsz hat
   have hy:=run_yield (P:=P) (args:=vs.toArray) ho (by rw [hpar];simp [cO hv,hl])
   rw [hpar,hasg,hbody,Jf] at hy
   refine⟨_,_,_,_,hy,?_⟩
   unfold wS at h
   split at h
   ·rename_i e2 S2 m2 he2
    cases e2 with
    | exit k=>cases h
    | ret=>cases h
    | normal =>
    simp only at h
    split at h
    ·rename_i f' N' S0 ps' ca' cb' st' pd' hg2
     split at h
     ·refine roundIn_of_wpIn (F:=cS none) trivial ?_
      have w1:=ih f N ca S1 m _ S2 m2 he2 (Ax ok1) (some p.1) (.inr nr1) [] ν w0 L w { tmps:=_,defers:=[] } hG ⟨rfl,hsz1,hat1⟩ hs
      refine wpIn_mono w1 λe' a' w' hq=>?_
      obtain⟨he',ν',Ds,hDs,k1,k2,k3⟩:=hq
      obtain rfl:=hDs nr1
      obtain rfl:Exit.normal=e':=he'
      have k2:bP [] ν' N S2 a':=k2
      have k3:St w0 (Mem ν' m2::L) w':=k3
      obtain⟨p2,o2,hp2,ho2,r2,rfl,hst2,-,hpd2,j1,j2,j3,j4,j5⟩:=(dD k3).at_ id _ hg2
      rw [k1 id p hp] at hp2
      cases hp2
      refine⟨_,run_beginRound ho2 (hst2 rfl),?_⟩
      have k4:St w0 (Mem ν' (m2.set id (.loop f' N' S0 ps' ca' cb' 1 pd'))::L) (w'.putObj p.1 (.loop { r2 with state:=.busy })) :=
       St.BK k3 hg2 (k1 id p hp) _ ⟨_,rfl,(λe=>by cases e),(λe=>by cases e),hpd2,j1,j2,j3,j4,j5⟩
      unfold Ai at h
      split at h
      ·rename_i e3 S3 m3 he3
       have w2:=ih f N cb S2 _ e3 S3 m3 he3 (Ax ok2) (some p.1) (.inr nr2) [] ν' w0 L _ a' hG k2 k4
       refine wpIn_mono w2 λe' a'' w'' hq=>?_
       obtain⟨he',ν'',Ds,hDs,i1,i2,i3⟩:=hq
       obtain rfl:=hDs nr2
       have i3:St w0 (Mem ν'' m3::L) w'':=i3
       split at h
       ·rename_i f3 N3 S4 ps3 ca3 cb3 st3 pd3 hg3
        have hp3:=i1 id p (k1 id p hp)
        obtain⟨p3,o3,hp3',ho3,r3,rfl,-,-,-,q1,q2,q3,q4,q5⟩:=(dD i3).at_ id _ hg3
        rw [hp3] at hp3'
        cases hp3'
        subst he'
        cases e3 with
        | normal =>
         simp only [Option.some.injEq,Prod.mk.injEq] at h
         obtain⟨rfl,rfl⟩:=h
         refine⟨_,_,run_endRound none ho3,ν'',Nu.le_trans k1 i1,rfl,?_⟩
         exact St.BK i3 hg3 hp3 _ ⟨_,rfl,(λ_=>rfl),(λe=>by cases e),rfl,q1,q2,q3,q4,q5⟩
        | exit k =>
         simp only [Option.some.injEq,Prod.mk.injEq] at h
         obtain⟨rfl,rfl⟩:=h
         refine⟨_,_,run_endRound (some (.exit k)) ho3,ν'',Nu.le_trans k1 i1,rfl,?_⟩
         exact St.BK i3 hg3 hp3 _ ⟨_,rfl,(λe=>by cases e),(λ_=>rfl),rfl,q1,q2,q3,q4,q5⟩
        | ret =>
         simp only [Option.some.injEq,Prod.mk.injEq] at h
         obtain⟨rfl,rfl⟩:=h
         refine⟨_,_,run_endRound (some .ret) ho3,ν'',Nu.le_trans k1 i1,rfl,?_⟩
         exact St.BK i3 hg3 hp3 _ ⟨_,rfl,(λe=>by cases e),(λ_=>rfl),rfl,q1,q2,q3,q4,q5⟩
       ·cases h
      ·cases h
     ·cases h
    ·cases h
   ·cases h
  ·cases h
 ·cases h
theorem Jg {g:Operand}{v:AV}(hf:bP δ ν N S a) (hg:cC S g=some v){args:List AV}{f:FuncId}{asx:List AV}(h:N7 v args=some (f,asx)){us:List Value}{ν':Nu}(hle:ν.le ν') (hu:bF ν' args=some us) :
 ∃ (fst cap:Array Value),a.eval g=.func (.func f) fst cap/\bF ν' asx=some (fst.toList++us++cap.toList):=by
 obtain⟨u,hu1,ex⟩:=hf.op hg
 unfold N7 at h
 split at h
 ·rename_i f' fst cap
  simp only [AV.val,Option.some.injEq] at hu1
  simp only [Option.some.injEq,Prod.mk.injEq] at h
  obtain⟨rfl,rfl⟩:=h
  exact⟨fst,cap,by rw [ex,hu1],eA (eA (iV ν' _) hu) (iV ν' _)⟩
 ·rename_i f' fst cap
  obtain⟨us,ws,h2,h3,rfl⟩:=sX hu1
  simp only [Option.some.injEq,Prod.mk.injEq] at h
  obtain⟨rfl,rfl⟩:=h
  exact⟨us.toArray,ws.toArray,ex,by simpa using eA (eA (dX hle _ h2) hu) (dX hle _ h3)⟩
 ·cases h
theorem Lc {n:Nat}(hcall:kG P G (lC P G X (exec P G aO X n))){f:FuncId}{g:Operand}{ps:Array Tmp}{ca cb:Code}{e:Ex}(h:Gj P G X (exec P G aO X n) f N g ps.toList ca cb S m=some (e,S',m'))
 (hG:nO G w0 L) (hf:bP δ ν N S a) (hs:St w0 (Mem ν m::L) w):(Code.rangeFunc g ps ca cb).wpIn (cS none) 0 P (iJ δ ν w0 L N false e S' m') a w:=by
 unfold Gj at h
 split at h
 ·rename_i v hv
  split at h
  ·rename_i f' asx hfn
   cases hen:enters P f' with
   | false=>rw [hen] at h;cases h
   | true =>
   rw [hen] at h
   simp only [cond_true] at h
   refine wpIn_rangeFunc λfn _=>?_
   have hs1:St w0 (Mem ν m::nP w.heap.size::L) (w.alloc (.deferred (some []))):=(hs.AR _).perm (List.Perm.swap _ _ _)
   obtain⟨hs2,hle⟩:=St.K1 hs1 (.loop f N S ps.toList ca cb 0 none) (.loop { state:=.ready,pending:=none,fn:=fn,tmps:=a.tmps,params:=ps,assign:=ca,body:=cb,defers:=w.heap.size }) 0
    ⟨_,rfl,(λ_=>rfl),(λe=>by cases e),rfl,by simp,rfl,rfl,hf.size,λk x hx=>by
     obtain⟨u,j1,j2⟩:=hf.at_ k x hx
     exact⟨u,AV.eL (Nu.nk ((dD hs1).fresh _ (Nat.le_refl _))) _ j1,j2⟩⟩
   have hsz:(w.alloc (.deferred (some []))).heap.size=w.heap.size+1:=World.size_alloc _ _
   rw [hsz] at hs2 hle
   have hyl:bF (ν.add m.next (w.heap.size+1,0)) [.yl m.next]=some [.func (.yield (w.heap.size+1)) #[] #[]]:=by
    simp only [bF,AV.val,Nu.bV]
   obtain⟨fst,cap,hev,hvals⟩:=Jg hf hv hfn hle hyl
   unfold wT at h
   split at h
   ·rename_i r m2 hcl
    have hG1:nO G w0 (nP w.heap.size::L):=hG.frame _
    have hcalls:=hcall f' asx _ r m2 _ _ _ w0 _ hen hcl hG1 hvals hs2
    obtain⟨W1,hW1⟩:∃ W1:World,(w.alloc (.deferred (some []))).alloc (.loop { state:=.ready,pending:=none,fn:=fn,tmps:=a.tmps,params:=ps,assign:=ca,body:=cb,defers:=w.heap.size })=W1:=⟨_,rfl⟩
    have hE:(Instr.enterLoop fn a.tmps ps ca cb none).run P w=.ok (w.heap.size+1,[{ target:=.collected w.heap.size,args:=#[] }]) W1:=by rw [<- hW1];exact run_enterLoop_outer _ _ _ _ _
    have hcalls:=hcalls
    change Calls P f' _ ((w.alloc (.deferred (some []))).alloc (.loop { state:=.ready,pending:=none,fn:=fn,tmps:=a.tmps,params:=ps,assign:=ca,body:=cb,defers:=w.heap.size })) _ at hcalls
    rw [hW1] at hcalls
    refine⟨w.heap.size+1,[{ target:=.collected w.heap.size,args:=#[] }],W1,{ target:=.fn (.func f') cap,args:=fst++#[Value.func (.yield (w.heap.size+1)) #[] #[]] },W1,f',(fst.toList++[Value.func (.yield (w.heap.size+1)) #[] #[]]++cap.toList).toArray,W1,hE,?_,λ_ _=>trivial,?_,(λh=>by simp [cS,Fence.wide] at h),?_⟩
    ·simp only [resolve,hev]
     simp [Deferred.ofValue,go_sem,Act.eval]
    ·have h5:(fst++#[Value.func (.yield (w.heap.size+1)) #[] #[]])++cap=(fst.toList++[Value.func (.yield (w.heap.size+1)) #[] #[]]++cap.toList).toArray:=by
      apply Array.ext'
      simp
     simp only [invoke]
     rw [h5]
     exact oX hen _ _
    ·refine gQ.2 ?_
     refine Calls.mono hcalls λe1 w3 he1=>?_
     cases e1 with
     | panicked c=>exact he1.elim
     | outgrown=>exact he1.elim
     | returned v' =>
      obtain⟨ν',k1,-,k3⟩:=he1
      split at h
      ·rename_i f2 N2 S2 ps2 ca2 cb2 st2 pd2 hg2
       have hp2:ν' m.next=some (w.heap.size+1,0):=k1 _ _ (Nu.bV _ _ _)
       obtain⟨p',o',hp',ho',r2,rfl,hst0,hst2,hpd,q1,q2,q3,q4,q5⟩:=(dD k3).at_ _ _ hg2
       rw [hp2] at hp'
       cases hp'
       have done:∀ (w4:World),St w0 (Mem ν' (m2.del m.next)::nP w.heap.size::L) w4->∀ e' ,tt e=e'->S'=S->m'=m2.del m.next->iJ δ ν w0 L N false e S' m' e' { a with defers:=[{ target:=.collected w.heap.size,args:=#[] }]++a.defers } w4:=by
        rintro w4 h4 e' h5 rfl rfl
        refine⟨h5,ν',[w.heap.size],(λe=>by cases e),Nu.le_trans hle k1,⟨?_,hf.size,λk x hx=>?_⟩,h4⟩
        ·show _::a.defers=_
         rw [hf.defers];rfl
        ·obtain⟨u,j1,j2⟩:=hf.at_ k x hx
         exact⟨u,AV.eL (Nu.le_trans hle k1) _ j1,j2⟩
       have hs4:∀ o,St w0 (Mem ν' (m2.del m.next)::nP w.heap.size::L) (w3.putObj (w.heap.size+1) o):=λo=>by
        exact St.N9 k3 hg2 hp2 o
       split at h
       ·split at h
        ·simp only [Option.some.injEq,Prod.mk.injEq] at h
         obtain⟨rfl,rfl,rfl⟩:=h
         refine⟨none,_,by have:=run_endLoop (P:=P) ho' (by rw [hst0 rfl];simp);rw [hpd] at this;exact this,?_⟩
         exact done _ (hs4 _) .normal rfl rfl rfl
        ·cases h
       ·split at h
        ·simp only [Option.some.injEq,Prod.mk.injEq] at h
         obtain⟨rfl,rfl,rfl⟩:=h
         refine⟨some .ret,_,by have:=run_endLoop (P:=P) ho' (by rw [hst2 rfl];simp);rw [hpd] at this;exact this,?_⟩
         exact wpIn_ret (done _ (hs4 _) .ret rfl rfl rfl)
        ·rename_i k
         simp only [Option.some.injEq,Prod.mk.injEq] at h
         obtain⟨rfl,rfl,rfl⟩:=h
         refine⟨some (.exit k),_,by have:=run_endLoop (P:=P) ho' (by rw [hst2 rfl];simp);rw [hpd] at this;exact this,?_⟩
         exact wpIn_exit (done _ (hs4 _) (.exit k) rfl rfl rfl)
        ·cases h
       ·cases h
      ·cases h
   ·cases h
  ·cases h
 ·cases h
theorem Eh {n:Nat}(h:kG P G (lC P G X (exec P G aO X n))):kG P G (Rz P G aO X (exec P G aO X n)):=by
 intro f asx m r m' ν vs w w0 L hen hc hG hv hs
 unfold Rz at hc
 cases hb:Nat.beq f YF with
 | false=>rw [hb] at hc;exact h f asx m r m' ν vs w w0 L hen hc hG hv hs
 | true =>
  rw [hb] at hc
  have:=Nat.eq_of_beq_eq_true hb
  subst this
  rw [hen] at hc
  cases hc
theorem ma (hX:fC P G X) (fS:∀ g fn b,P.funcs[g]?=some fn->fn.body=some b->Ef aO g b) (hmix:P.follows .mixedOrders=true):∀ n,Pa P G aO X n:=by
 intro n
 induction n using Nat.strongRecOn with
 | _ n IH =>
 intro f N c S m e S' m' h hd ro hro δ ν w0 L w a hG hf hs
 cases n with
 | zero=>cases h
 | succ n =>
 have ih:=IH n za
 have hcall0:=tv hX fS ih
 have hcall:=Eh hcall0
 have hround:=Eg ih
 rw [tu] at h
 cases c with
 | skip =>
  simp only [lW,Option.some.injEq,Prod.mk.injEq] at h
  obtain⟨rfl,rfl,rfl⟩:=h
  exact wpIn_skip (iJ.plain rfl (Nu.le_refl ν) hf hs)
 | label l =>
  simp only [lW,Option.some.injEq,Prod.mk.injEq] at h
  obtain⟨rfl,rfl,rfl⟩:=h
  exact wpIn_label (iJ.plain rfl (Nu.le_refl ν) hf hs)
 | ret =>
  simp only [lW,Option.some.injEq,Prod.mk.injEq] at h
  obtain⟨rfl,rfl,rfl⟩:=h
  exact wpIn_ret (iJ.plain rfl (Nu.le_refl ν) hf hs)
 | exit id =>
  simp only [lW,Option.some.injEq,Prod.mk.injEq] at h
  obtain⟨rfl,rfl,rfl⟩:=h
  exact wpIn_exit (iJ.plain rfl (Nu.le_refl ν) hf hs)
 | seq x y =>
  have hn:∀ {z:Bool},gK (.seq x y)=z->(gK x && gK y)=z:=λh=>h
  have h1r:ro=none\/gK x=true:=hro.imp id λh=>(Bool.and_eq_true_iff.1 (hn h)).1
  have h2r:ro=none\/gK y=true:=hro.imp id λh=>(Bool.and_eq_true_iff.1 (hn h)).2
  simp only [lW,KV] at h
  split at h
  ·rename_i e1 S1 m1 h1
   have w1:=ih f N x S m e1 S1 m1 h1 (λz hz=>hd z (List.mem_append.2 (.inl hz))) ro h1r δ ν w0 L w a hG hf hs
   refine wpIn_seq (wpIn_mono w1 λe' a' w' hq=>?_)
   obtain⟨he,ν',Ds,hDs,k1,k2,k3⟩:=hq
   subst he
   split at h
   ·have w2:=ih f N y S1 m1 e S' m' h (λz hz=>hd z (List.mem_append.2 (.inr hz))) ro h2r _ ν' w0 _ w' a' (hG.Gt Ds) k2 k3
    exact wpIn_mono w2 λe' a' w' hq=>iJ.after (λhb=>⟨(Bool.and_eq_true_iff.1 (hn hb)).2,(Bool.and_eq_true_iff.1 (hn hb)).1⟩) hDs k1 hq
   ·rename_i e2 hne
    simp only [Option.some.injEq,Prod.mk.injEq] at h
    obtain⟨rfl,rfl,rfl⟩:=h
    have hk:iJ δ ν w0 L N (gK (.seq x y)) e1 S1 m1 (tt e1) a' w':=⟨rfl,ν',Ds,λhb=>hDs (Bool.and_eq_true_iff.1 (hn hb)).1,k1,k2,k3⟩
    cases e1 with
    | normal=>exact absurd rfl hne
    | exit id=>exact hk
    | ret=>exact hk
  ·cases h
 | cond x y z =>
  have hn:∀ {b:Bool},gK (.cond x y z)=b->(gK y && gK z)=b:=λh=>h
  simp only [lW,KW] at h
  split at h
  ·rename_i t hx
   obtain⟨v,hv,ex⟩:=hf.op hx
   simp only [AV.val,Option.some.injEq] at hv
   subst hv
   refine wpIn_cond_split ex (λht=>?_) (λht=>?_)
   ·subst ht
    refine wpIn_mono (ih f N y S m e S' m' h (λu hu=>hd u (List.mem_append.2 (.inl hu))) ro (hro.imp id λh=>(Bool.and_eq_true_iff.1 (hn h)).1) δ ν w0 L w a hG hf hs) λe' a' w' hq=>iJ.weaken (λhb=>(Bool.and_eq_true_iff.1 (hn hb)).1) hq
   ·subst ht
    refine wpIn_mono (ih f N z S m e S' m' h (λu hu=>hd u (List.mem_append.2 (.inr hu))) ro (hro.imp id λh=>(Bool.and_eq_true_iff.1 (hn h)).2) δ ν w0 L w a hG hf hs) λe' a' w' hq=>iJ.weaken (λhb=>(Bool.and_eq_true_iff.1 (hn hb)).2) hq
  ·cases h
 | block id x =>
  simp only [lW,Gi] at h
  split at h
  ·rename_i e1 S1 m1 h1
   have w1:=ih f N x S m e1 S1 m1 h1 hd ro hro δ ν w0 L w a hG hf hs
   refine wpIn_block (wpIn_mono w1 λe' a' w' hq=>?_)
   obtain⟨he,ν',Ds,hDs,k1,k2,k3⟩:=hq
   subst he
   cases e1 with
   | normal =>
    simp only [Option.some.injEq,Prod.mk.injEq] at h
    obtain⟨rfl,rfl,rfl⟩:=h
    exact⟨rfl,ν',Ds,hDs,k1,k2,k3⟩
   | ret =>
    simp only [Option.some.injEq,Prod.mk.injEq] at h
    obtain⟨rfl,rfl,rfl⟩:=h
    exact⟨rfl,ν',Ds,hDs,k1,k2,k3⟩
   | exit id' =>
    simp only at h
    show(if id'=id then iJ δ ν w0 L N (gK (.block id x)) e S' m' .normal a' w' else iJ δ ν w0 L N (gK (.block id x)) e S' m' (.exit id') a' w')
    cases hb:Nat.beq id' id with
    | true =>
     rw [hb] at h
     rw [if_pos (Nat.eq_of_beq_eq_true hb)]
     simp only [cond_true,Option.some.injEq,Prod.mk.injEq] at h
     obtain⟨rfl,rfl,rfl⟩:=h
     exact⟨rfl,ν',Ds,hDs,k1,k2,k3⟩
    | false =>
     rw [hb] at h
     rw [if_neg (Nat.ne_of_beq_eq_false hb)]
     simp only [cond_false,Option.some.injEq,Prod.mk.injEq] at h
     obtain⟨rfl,rfl,rfl⟩:=h
     exact⟨rfl,ν',Ds,hDs,k1,k2,k3⟩
  ·cases h
 | loop x =>
  have hn:∀ {b:Bool},gK (.loop x)=b->gK x=b:=λh=>h
  refine jm (T:=Nat) (λk a w=>k<=n+1/\∃ S1 m1 ν1 Ds,(gK x=true->Ds=[])/\ν.le ν1/\exec P G aO X k f N (.loop x) S1 m1=some (e,S',m')/\bP (nv Ds++δ) ν1 N S1 a/\St w0 (Mem ν1 m1::(Ds.map nP++L)) w) id ?_ (n+1) a w ⟨Nat.le_refl _,S,m,ν,[],λ_=>rfl,Nu.le_refl ν,h,hf,hs⟩
  rintro k a1 w1 ⟨hk,S1,m1,ν1,Ds,hDs,k0,h1,k2,k3⟩
  cases k with
  | zero=>cases h1
  | succ k =>
   rw [tu] at h1
   simp only [lW,KV] at h1
   split at h1
   ·rename_i e2 S2 m2 h2
    have w2:=IH k za f N x S1 m1 e2 S2 m2 h2 hd ro (hro.imp id hn) _ ν1 w0 _ w1 a1 (hG.Gt Ds) k2 k3
    refine wpIn_mono w2 λe' a' w' hq=>?_
    have hq2:iJ δ ν w0 L N (gK x) e2 S2 m2 e' a' w':=iJ.after (λhb=>⟨hb,hb⟩) hDs k0 hq
    obtain⟨he,ν',Es,hEs,j1,j2,j3⟩:=hq2
    subst he
    split at h1
    ·exact⟨k,Nat.lt_succ_self k,za,S2,m2,ν',Es,hEs,j1,h1,j2,j3⟩
    ·rename_i e3 hne
     simp only [Option.some.injEq,Prod.mk.injEq] at h1
     obtain⟨rfl,rfl,rfl⟩:=h1
     have hk:iJ δ ν w0 L N (gK (.loop x)) e2 S2 m2 (tt e2) a' w':=⟨rfl,ν',Es,hEs,j1,j2,j3⟩
     cases e2 with
     | normal=>exact absurd rfl hne
     | exit id=>exact hk
     | ret=>exact hk
   ·cases h1
 | region id ops draw =>
  simp only [lW,rW] at h
  cases draw with
  | false =>
   simp only [MC] at h
   split at h
   ·rename_i S1 m1 h1
    simp only [Option.some.injEq,Prod.mk.injEq] at h
    obtain⟨rfl,rfl,rfl⟩:=h
    refine wpIn_region ?_
    have:=tf (ro:=ro) hcall hround hG (ops:=ops) (Q:=iJ δ ν w0 L N (gK (.region id ops false)) .normal S1 m1) ops.toList 0 S m ν w a rfl h1 hf hs λν' w' a' h2 h3 h4=>iJ.plain rfl h2 h3 h4
    rw [List.range_eq_range']
    simpa using this
   ·cases h
  | true =>
   simp only at h
   split at h
   ·rename_i p hp
    have hok:=hd (id,ops) (List.mem_singleton.2 rfl) p hp
    unfold Hr at h
    split at h
    ·rename_i hfl
     simp only [MC] at h
     split at h
     ·rename_i S1 m1 h1
      simp only [Option.some.injEq,Prod.mk.injEq] at h
      obtain⟨rfl,rfl,rfl⟩:=h
      have ht:qC p=wQ p.1:=by unfold qC;rw [hfl]
      rw [ht] at hok
      refine kp p.2.1 (wQ p.1) hmix hok iJ.qY ?_
      exact iY hcall hround hG p.1 [] [] S m ν _ a h1 (λx hx=>by cases hx) hf hs.drew λν' w' a' h2 h3 h4=>iJ.plain rfl h2 h3 h4
     ·cases h
    ·rename_i x hfl
     split at h
     ·rename_i d hfd
      cases hb:Nat.ble (d+1) N with
      | false=>rw [hb] at h;cases h
      | true =>
       rw [hb] at h
       have hdN:=bN hb
       simp only [cond_true,MC] at h
       split at h
       ·rename_i S1 m1 h1
        simp only [Option.some.injEq,Prod.mk.injEq] at h
        obtain⟨rfl,rfl,rfl⟩:=h
        have ht:qC p=Jy x p.1:=by unfold qC;rw [hfl]
        rw [ht] at hok
        obtain⟨o0,e1,e3,e4,e5⟩:=Ed hfd
        have hf0:bP δ ν N (S.set d none) a:=by
         refine⟨hf.defers,hf.size,λk y hy=>?_⟩
         rw [Tr.iB] at hy
         split at hy
         ·cases hy
         ·exact hf.at_ k y hy
        refine kp p.2.1 (Jy x p.1) hmix hok iJ.qY ?_
        exact kh hcall hround hG e1 e3 e4 e5 p.1 [] [] (S.set d none) m ν _ a h1 (λy hy=>by cases hy) hf0 (Tr.fK _ _ _) za hs.drew λν' w' a' h2 h3 h4=>iJ.plain rfl h2 h3 h4
       ·cases h
     ·cases h
   ·cases h
 | rangeFunc g ps ca cb =>
  rcases hro with rfl|hro
  ·exact Lc hcall0 h hG hf hs
  ·cases hro
 | scope _=>cases h
 | goto _=>cases h
 | refuse _=>cases h
theorem mc (hX:fC P G X) (fS:∀ g fn b,P.funcs[g]?=some fn->fn.body=some b->Ef aO g b) (hmix:P.follows .mixedOrders=true) (n:Nat){f:FuncId}(hen:enters P f=true){asx:List AV}{vs:List Value}{r:AV}(h:lC P G X (exec P G aO X n) f asx m=some (r,m'))
 (hG:nO G w0 L) (hv:bF ν asx=some vs) (hs:St w0 (Mem ν m::L) w):Calls P f vs.toArray w (eD λv w'=>∃ ν',ν.le ν'/\r.val ν'=some v/\St w0 (Mem ν' m'::L) w') :=
 tv hX fS (ma hX fS hmix n) f asx m r m' ν vs w w0 L hen h hG hv hs
theorem St.start (hs:St w0 L w):St w0 (Mem (λ_=>none) ⟨.nil,0⟩::L) w:=by
 refine St.new hs rfl rfl rfl (Nat.le_refl _) (λ_ _=>rfl) ⟨λ_ _=>rfl,(λid cN hg=>by cases hg),(λid id' cN blk' p p' hg=>by cases hg)⟩ ?_
 rintro b ⟨id,cN,p,hg,_⟩
 cases hg
end
end Go.Ev
namespace Go.Proofs.YthfpmlpoiocfdaaGreatDoor
open Go.RowKit Go.Sx Go.Ev
set_option linter.unusedVariables false
set_option linter.unusedSimpArgs false
set_option maxRecDepth 100000
theorem MF {avs:List AV}{m m':AM}{r:AV}{ν:Nu}{vs:List Value}{w w0:World}{L:List bA}(h:wP 1 avs m=some (r,m')) (hv:bF ν avs=some vs) (hs:St w0 (Mem ν m::L) w) :
 Calls Tryz.prog 234 vs.toArray w (eD λv w'=>∃ ν',ν.le ν'/\r.val ν'=some v/\St w0 (Mem ν' m'::L) w'):=by
 have hm:=dD hs
 unfold wP at h
 split at h
 ·rename_i id off len cap kn n
  obtain⟨v1,l1,h1,hl1,rfl⟩:=cB.1 hv
  obtain⟨v2,l2,h2,hl2,rfl⟩:=cB.1 hl1
  simp only [bF,Option.some.injEq] at hl2
  subst hl2
  simp only [AV.val,Option.some.injEq] at h2
  subst h2
  cases kn with
  | true=>cases h
  | false =>
   simp only at h
   cases hb:(Nat.beq off 0 && Nat.beq cap 0 && Nat.ble n 1000000 && Nat.ble len 1000000) with
   | false=>rw [hb] at h;cases h
   | true =>
    rw [hb] at h
    simp only [Bool.and_eq_true] at hb
    obtain⟨⟨⟨q1,q2⟩,q3⟩,q4⟩:=hb
    obtain rfl:=Nat.eq_of_beq_eq_true q1
    obtain rfl:=Nat.eq_of_beq_eq_true q2
    have q3:=bN q3
    have q4:=bN q4
    simp only [cond_true] at h
    obtain⟨p,c,hp,rfl,hlc,-,k2⟩:=ju h1
    have hcp:c=p.2:=by have:=k2 rfl;omega
    split at h
    ·rename_i cs z hg
     cases hz:(Nat.beq z 1 && Nat.beq cs.length len) with
     | false=>rw [hz] at h;cases h
     | true =>
      rw [hz] at h
      simp only [Bool.and_eq_true] at hz
      obtain rfl:=Nat.eq_of_beq_eq_true hz.1
      have hcl:=Nat.eq_of_beq_eq_true hz.2
      simp only [cond_true,Option.some.injEq,nM,Prod.mk.injEq] at h
      obtain⟨rfl,rfl⟩:=h
      obtain⟨p',o',h5,h6,us,rest,T,fr,h7,rfl,h8,h9,h10⟩:=hm.at_ id _ hg
      rw [hp] at h5
      cases h5
      have lu:=cO h7
      have hall:(us++rest).length=c:=by rw [h8,hcp,Nat.mul_one]
      refine Calls.ret (pt hs (λad h=>by cases h;rfl) hlc (by rw [hcp];exact h10) q3 q4 hall ?_) ?_
      ·intro w1 hw
       simp only [Builtin.firstCells,loadCells]
       refine fT _ _ (by simpa using hall) λi hi=>?_
       rw [dI,Nat.zero_add]
       simp only [World.cell?,hw,h6]
       simp
      ·rintro v w' (⟨-,rfl,e0⟩|⟨cap',rest',e1,e2,rfl,e3,rfl⟩)
       ·obtain⟨j1,j2⟩:=St.Nw hs hg hp _ (blk':=.buf cs 1) ⟨us,rest,T,fr,dX (Nu.nk (hm.fresh _ (Nat.le_refl _))) _ h7,rfl,h8,h9,h10⟩
        refine⟨_,j2,my (Nu.bV _ _ _) hlc za,?_⟩
        have hsame:({ w with heap:=w.heap.setIfInBounds p.1 (.cells (us++rest).toArray T fr) }:World)=w:=by
         have:w.heap.setIfInBounds p.1 (.cells (us++rest).toArray T fr)=w.heap:=by
          apply Array.ext_getElem?
          intro k
          rw [Array.getElem?_setIfInBounds]
          split
          ·rename_i hk;subst hk;split
           ·exact h6.symm
           ·rename_i hge;rw [Array.getElem?_eq_none za]
          ·rfl
         rw [this]
        rw [hsame] at j1
        rw [e0]
        exact j1
       ·have hdr:St w0 (Mem ν m::L) { w with drawn:=w.drawn+1 }:=hs.drew
        obtain⟨j1,j2⟩:=tb (St.O8 hdr id) h7 5 (z:=1) (cap:=cap') (rest:=rest++rest') (by rw [<- List.append_assoc,e3,Nat.mul_one]) (0,0) (λi _ h=>by simp at h) e2
        refine⟨_,j2,my (Nu.bV _ _ _) e1 zw,?_⟩
        rw [<- List.append_assoc] at j1
        exact j1
    ·cases h
 ·rename_i n
  obtain⟨v1,l1,h1,hl1,rfl⟩:=cB.1 hv
  obtain⟨v2,l2,h2,hl2,rfl⟩:=cB.1 hl1
  simp only [bF,Option.some.injEq] at hl2
  subst hl2
  simp only [AV.val,Option.some.injEq] at h1 h2
  subst h1 h2
  cases hb:(Nat.ble n 1000000 && Nat.ble 1 n) with
  | false=>rw [hb] at h;cases h
  | true =>
   rw [hb] at h
   simp only [Bool.and_eq_true] at hb
   have q1:=bN hb.1
   have q2:=bN hb.2
   simp only [cond_true,Option.some.injEq,nM,Prod.mk.injEq] at h
   obtain⟨rfl,rfl⟩:=h
   refine Calls.ret (pt (all:=[]) (n:=n) (len:=0) (c:=0) (base:=none) hs (λad h=>by cases h) (Nat.le_refl _) za q1 za rfl (λw1 _=>by simp [Builtin.firstCells])) ?_
   rintro v w' (⟨h0,-,-⟩|⟨cap',rest',e1,e2,rfl,e3,rfl⟩)
   ·omega
   ·have hdr:St w0 (Mem ν m::L) { w with drawn:=w.drawn+1 }:=hs.drew
    obtain⟨j1,j2⟩:=tb hdr (cs:=[]) (us:=[]) rfl 5 (z:=1) (cap:=cap') (rest:=rest') (by rw [e3,Nat.mul_one]) (0,0) (λi _ h=>by simp at h) e2
    exact⟨_,j2,my (Nu.bV _ _ _) e1 zw,j1⟩
 ·cases h
end Go.Proofs.YthfpmlpoiocfdaaGreatDoor
namespace Go.Ev
open Go.Sx
set_option linter.unusedVariables false
set_option linter.unusedSimpArgs false
def qN {α β:Type}(f:α->Option (List β)):List α->Option (List β)
 | []=>some []
 | a::l=>match f a with
  | some b=>match qN f l with
   | some bs=>some (b++bs)
   | none=>none
  | none=>none
theorem ki {α β:Type}{f:α->Option (List β)}:∀ {l:List α}{r:List β},qN f l=some r->∀ a∈l,∃ bs,f a=some bs/\∀ b∈bs,b∈r
 | [],r,h,a,ha=>by cases ha
 | x::l,r,h,a,ha=>by
  simp only [qN] at h
  split at h
  ·rename_i b hb
   split at h
   ·rename_i bs hbs
    simp only [Option.some.injEq] at h
    subst h
    rcases List.mem_cons.1 ha with rfl|ha
    ·exact⟨b,hb,λy hy=>List.mem_append.2 (.inl hy)⟩
    ·obtain⟨cs,h1,h2⟩:=ki hbs a ha
     exact⟨cs,h1,λy hy=>List.mem_append.2 (.inr (h2 y hy))⟩
   ·cases h
  ·cases h
noncomputable def B4 (m:AM) (id:Nat):Option (List (AV×AM)) :=
 match m.get id with
 | some (.iter lk since seen last)=>match m.get lk with
  | some (.map es clock) =>
   bif es.all (λe=>Nat.ble (e.2.2+1) since) && Nat.ble since last then
    match es.filter λe=>!seen.contains e.2.2 with
    | []=>some [(.qU [.bool false],m)]
    | left=>some (left.map λe=>(.qU [.bool true,lift e.1,e.2.1],m.set id (.iter lk since (seen++[e.2.2]) clock)))
   else none
  | _=>none
 | _=>none
section
variable {P : Program} {G : Nat -> Option (List Value)} {ν : Nu} {N : Nat} {S S' : AE} {a : Act} {m m' : AM} {w w0 : World} {L : List bA}
theorem tz:∀ {es:List (Value×AV×Nat)}{l:List MapEntry},cX ν es=some l->∀ x∈l,∃ e∈es,x.key=e.1/\e.2.1.val ν=some x.val/\x.born=e.2.2
 | [],l,h,x,hx=>by simp only [cX,Option.some.injEq] at h;subst h;cases hx
 | e::es,l,h,x,hx=>by
  simp only [cX] at h
  split at h
  ·rename_i v vs hv hvs
   simp only [Option.some.injEq] at h
   subst h
   rcases List.mem_cons.1 hx with rfl|hx
   ·exact⟨e,List.mem_cons_self ..,rfl,hv,rfl⟩
   ·obtain⟨e',h1,h2⟩:=tz hvs x hx
    exact⟨e',List.mem_cons_of_mem _ h1,h2⟩
  ·cases h
theorem yC (hs:St w0 (Mem ν m::L) w){o:Oper}{x:Operand}(ho:o.op=.next x false){ρ:Operand->Value}{id:Nat}(hx:(AV.ptr id 0).val ν=some (ρ x)){l:List (AV×AM)}(h:B4 m id=some l) :
 ∃ r∈l,Ht P ν w0 L r.2 (execOp ρ o) w r.1:=by
 have hm:=dD hs
 obtain⟨p,hp,hv⟩:=hH hx
 unfold B4 at h
 split at h
 ·rename_i lk since seen last hg
  obtain⟨p',ob,hp',hb,q,hq,rfl⟩:=hm.at_ id _ hg
  rw [hp] at hp'
  cases hp'
  split at h
  ·rename_i es clock hg2
   obtain⟨q',k,hq',hl,hb2⟩:=lI hm hg2
   rw [hq] at hq'
   cases hq'
   cases hc:(es.all (λe=>Nat.ble (e.2.2+1) since) && Nat.ble since last) with
   | false=>rw [hc] at h;cases h
   | true =>
    rw [hc] at h
    simp only [cond_true] at h
    rw [Bool.and_eq_true] at hc
    have hold:∀ y∈k.toArray.toList,y.born<since:=by
     intro y hy
     obtain⟨e,h1,_,_,h2⟩:=tz hl y (by simpa using hy)
     have:=bN (List.all_eq_true.1 hc.1 e h1)
     omega
    have hleft:(leftOf k.toArray seen.toArray).toList=k.filter λe=>!seen.contains e.born:=by
     unfold leftOf
     simp
    have hv2:=so hl (λn=>!seen.contains n)
    rcases run_next_at (P:=P) w o.type p.1 q.1 since last seen.toArray k.toArray clock hb hb2 hold (bN hc.2) with⟨hz,hr⟩|⟨e,he,w1,hw1,hr⟩
    ·have hz2:(k.filter λe=>!seen.contains e.born)=[]:=by
      rw [<- hleft]
      exact Array.toList_eq_nil_iff.2 (Array.eq_empty_of_size_eq_zero hz)
     have hfl:(es.filter λe=>!seen.contains e.2.2)=[]:=by
      rw [hz2] at hv2
      have:=jw hv2
      exact List.length_eq_zero_iff.1 (by simpa using this.symm)
     rw [hfl] at h
     simp only [Option.some.injEq] at h
     subst h
     refine⟨_,List.mem_cons_self ..,_,ν,w,Nu.le_refl ν,by simp only [AV.val,bF];rfl,hs,.inl ?_⟩
     simp only [execOp,ho,hv,Sem.run_bind,hr,Result.andThen_ok]
     simp [Sem.run]
    ·rw [hleft] at he
     obtain⟨e',h1,h2,h3,h4⟩:=tz hv2 e he
     have hl2:l=((es.filter λe=>!seen.contains e.2.2).map λe=>(.qU [.bool true,lift e.1,e.2.1],m.set id (.iter lk since (seen++[e.2.2]) clock))):=by
      split at h
      ·rename_i hn
       rw [hn] at h1
       cases h1
      ·simp only [Option.some.injEq] at h
       exact h.symm
     subst hl2
     refine⟨_,List.mem_map.2 ⟨e',h1,rfl⟩,.tuple #[.bool true,e.key,e.val],ν,ChangeMaps.setBlock w1 p.1 (.mapIter (some q.1) since (seen.toArray.push e.born) clock),Nu.le_refl ν,?_,?_,.inl ?_⟩
     ·simp only [AV.val,bF,il,h3,h2]
     ·have hs1:St w0 (Mem ν m::L) w1:=by
       rcases hw1 with rfl|rfl
       ·exact hs
       ·exact hs.drew
      have:=St.BK hs1 hg hp (blk':=.iter lk since (seen++[e'.2.2]) clock) (.mapIter (some q.1) since (seen++[e'.2.2]).toArray clock) ⟨q,hq,rfl⟩
      rw [h4]
      simpa [ChangeMaps.setBlock,List.push_toArray] using this
     ·simp only [execOp,ho,hv,Sem.run_bind,hr,Result.andThen_ok]
      simp [Sem.run]
  ·cases h
 ·cases h
end
abbrev B5:=Option (List (Ex×AE×AM))
abbrev Jh:=FuncId->Nat->Code->AE->AM->B5
def xx (ops:List Oper):Bool :=
 match ops with
 | o::_=>match o.op,o.guard with
  | .next _ false,none=>true
  | _,_=>false
 | []=>false
def Ji (r:R3):B5:=match r with|some o=>some [o]|none=>none
def Hw (ih:Jh) (f:FuncId) (N:Nat) (b:Code) (r:B5):B5 :=
 match r with
 | some l=>qN (λo=>match o.1 with | .normal=>ih f N b o.2.1 o.2.2|_=>some [o]) l
 | none=>none
def dA (id:Nat) (r:B5):B5 :=
 match r with
 | some l=>some (l.map λo=>match o.1 with
  | .exit id'=>bif Nat.beq id' id then (.normal,o.2) else o
  | _=>o)
 | none=>none
def Nx (ih:Jh) (f:FuncId) (N:Nat) (a b:Code) (S:AE) (m:AM) (x:Option AV):B5 :=
 match x with
 | some (.bool t)=>match t with
  | true=>ih f N a S m
  | false=>ih f N b S m
 | _=>none
section
variable (P : Program) (G : Nat -> Option (List Value)) (aO : Ord) (X : eY)
noncomputable def Hy (call:FuncId->List AV->AM->R2) (N:Nat) (ops:List Oper) (S:AE) (m:AM):B5 :=
 match ops with
 | o::rest=>match o.op,o.guard with
  | .next x false,none=>match cC S x with
   | some (.ptr i 0)=>match B4 m i with
    | some l=>qN (λr=>match qB N S o.dst r.1 with
     | some S1=>Ji (MC (sV P G call N ops rest S1 r.2))
     | none=>none) l
    | none=>none
   | _=>none
  | _,_=>none
 | []=>none
noncomputable def uI (ih:Rec) (ihL:Jh):Jh:=λf N c S m =>
 match c with
 | .seq a b=>Hw ihL f N b (ihL f N a S m)
 | .cond x a b=>Nx ihL f N a b S m (cC S x)
 | .block id b=>dA id (ihL f N b S m)
 | .loop b=>Hw ihL f N c (ihL f N b S m)
 | .region id ops draw=>bif !draw && xx ops.toList then Hy P G (Rz P G aO X ih) N ops.toList S m else Ji (ih f N c S m)
 | _=>Ji (ih f N c S m)
noncomputable def xy (fuel:Nat):Jh:=Nat.rec (λ_ _ _ _ _=>none) (λn ihL=>uI P G aO X (exec P G aO X n) ihL) fuel
end
section
variable {P : Program} {G : Nat -> Option (List Value)} {ν : Nu} {N : Nat} {S S' : AE} {a : Act} {m m' : AM} {w w0 : World} {L : List bA} {aO : Ord} {X : eY}
theorem qO (n:Nat):xy P G aO X (n+1)=uI P G aO X (exec P G aO X n) (xy P G aO X n):=rfl
def Ny (ν:Nu) (w0:World) (L:List bA) (N:Nat) (e:Ex) (S':AE) (m':AM):Exit->Act->World->Prop:=λe' a' w'=>tt e=e'/\∃ ν',ν.le ν'/\bP [] ν' N S' a'/\St w0 (Mem ν' m'::L) w'
theorem uJ (hX:fC P G X) (fS:∀ g fn b,P.funcs[g]?=some fn->fn.body=some b->Ef aO g b) (hmix:P.follows .mixedOrders=true){n:Nat}{f:FuncId}{c:Code}{e:Ex}(h:exec P G aO X n f N c S m=some (e,S',m')) (hn:gK c=true)
 (hd:Ef aO f c) (hG:nO G w0 L) (hf:bP [] ν N S a) (hs:St w0 (Mem ν m::L) w):c.wpIn (cS none) 0 P (Ny ν w0 L N e S' m') a w:=by
 refine wpIn_mono (ma hX fS hmix n f N c S m e S' m' h hd none (.inl rfl) [] ν w0 L w a hG hf hs) ?_
 rintro e' a' w' ⟨h1,ν',Ds,h2,h3,h4,h5⟩
 obtain rfl:=h2 hn
 exact⟨h1,ν',h3,h4,h5⟩
def uK (ν:Nu) (w0:World) (L:List bA) (N:Nat) (l:List (Ex×AE×AM)):Exit->Act->World->Prop:=λe' a' w'=>∃ o∈l,Ny ν w0 L N o.1 o.2.1 o.2.2 e' a' w'
theorem uK.mono {l l':List (Ex×AE×AM)}(h:∀ o∈l,o∈l'){ν':Nu}(hle:ν.le ν'){e:Exit}{a':Act}{w':World}(hp:uK ν' w0 L N l e a' w'):uK ν w0 L N l' e a' w':=by
 obtain⟨o,ho,h1,ν'',h2,h3⟩:=hp
 exact⟨o,h o ho,h1,ν'',Nu.le_trans hle h2,h3⟩
theorem iC (hX:fC P G X) (fS:∀ g fn b,P.funcs[g]?=some fn->fn.body=some b->Ef aO g b) (hmix:P.follows .mixedOrders=true){n:Nat}{f:FuncId}{c:Code}{l:List (Ex×AE×AM)}(h:Ji (exec P G aO X n f N c S m)=some l)
 (hn:gK c=true) (hd:Ef aO f c) (hG:nO G w0 L) (hf:bP [] ν N S a) (hs:St w0 (Mem ν m::L) w):c.wpIn (cS none) 0 P (uK ν w0 L N l) a w:=by
 unfold Ji at h
 split at h
 ·rename_i o ho
  simp only [Option.some.injEq] at h
  subst h
  obtain⟨e,S',m'⟩:=o
  exact wpIn_mono (uJ hX fS hmix ho hn hd hG hf hs) λe' a' w' hq=>⟨_,List.mem_cons_self ..,hq⟩
 ·cases h
theorem Ei (hX:fC P G X) (fS:∀ g fn b,P.funcs[g]?=some fn->fn.body=some b->Ef aO g b) (hmix:P.follows .mixedOrders=true) :
 ∀ n f N c S m l,xy P G aO X n f N c S m=some l->gK c=true->Ef aO f c->∀ ν w0 L w a,nO G w0 L->bP [] ν N S a->St w0 (Mem ν m::L) w->c.wpIn (cS none) 0 P (uK ν w0 L N l) a w:=by
 intro n
 induction n using Nat.strongRecOn with
 | _ n IH =>
 intro f N c S m l h hn hd ν w0 L w a hG hf hs
 cases n with
 | zero=>cases h
 | succ n =>
 have ih:=IH n za
 rw [qO] at h
 cases c with
 | seq x y =>
  simp only [uI,Hw] at h
  split at h
  ·rename_i l1 h1
   have w1:=ih f N x S m l1 h1 (Bool.and_eq_true_iff.1 hn).1 (λz hz=>hd z (List.mem_append.2 (.inl hz))) ν w0 L w a hG hf hs
   refine wpIn_seq (wpIn_mono w1 λe' a' w' hq=>?_)
   obtain⟨⟨e1,S1,m1⟩,ho,he,ν',k1,k2,k3⟩:=hq
   obtain⟨bs,h2,h3⟩:=ki h _ ho
   simp only at he h2 k2 k3
   subst he
   cases e1 with
   | normal=>exact wpIn_mono (ih f N y S1 m1 bs h2 (Bool.and_eq_true_iff.1 hn).2 (λz hz=>hd z (List.mem_append.2 (.inr hz))) ν' w0 L w' a' hG k2 k3) λe' a' w' hq=>hq.mono h3 k1
   | exit id =>
    simp only [Option.some.injEq] at h2
    subst h2
    exact⟨_,h3 _ (List.mem_cons_self ..),rfl,ν',k1,k2,k3⟩
   | ret =>
    simp only [Option.some.injEq] at h2
    subst h2
    exact⟨_,h3 _ (List.mem_cons_self ..),rfl,ν',k1,k2,k3⟩
  ·cases h
 | cond x y z =>
  simp only [uI,Nx] at h
  split at h
  ·rename_i t hx
   obtain⟨v,hv,ex⟩:=hf.op hx
   simp only [AV.val,Option.some.injEq] at hv
   subst hv
   refine wpIn_cond_split ex (λht=>?_) (λht=>?_)
   ·subst ht
    exact ih f N y S m l h (Bool.and_eq_true_iff.1 hn).1 (λu hu=>hd u (List.mem_append.2 (.inl hu))) ν w0 L w a hG hf hs
   ·subst ht
    exact ih f N z S m l h (Bool.and_eq_true_iff.1 hn).2 (λu hu=>hd u (List.mem_append.2 (.inr hu))) ν w0 L w a hG hf hs
  ·cases h
 | block id x =>
  simp only [uI,dA] at h
  split at h
  ·rename_i l1 h1
   simp only [Option.some.injEq] at h
   subst h
   have w1:=ih f N x S m l1 h1 hn hd ν w0 L w a hG hf hs
   refine wpIn_block (wpIn_mono w1 λe' a' w' hq=>?_)
   obtain⟨⟨e1,S1,m1⟩,ho,he,ν',k1,k2,k3⟩:=hq
   simp only at he k2 k3
   subst he
   cases e1 with
   | normal=>exact⟨_,List.mem_map.2 ⟨_,ho,rfl⟩,rfl,ν',k1,k2,k3⟩
   | ret=>exact⟨_,List.mem_map.2 ⟨_,ho,rfl⟩,rfl,ν',k1,k2,k3⟩
   | exit id' =>
    show(if id'=id then uK ν w0 L N _ .normal a' w' else uK ν w0 L N _ (.exit id') a' w')
    cases hb:Nat.beq id' id with
    | true =>
     rw [if_pos (Nat.eq_of_beq_eq_true hb)]
     refine⟨_,List.mem_map.2 ⟨_,ho,rfl⟩,?_⟩
     simp only [hb,cond_true]
     exact⟨rfl,ν',k1,k2,k3⟩
    | false =>
     rw [if_neg (Nat.ne_of_beq_eq_false hb)]
     refine⟨_,List.mem_map.2 ⟨_,ho,rfl⟩,?_⟩
     simp only [hb,cond_false]
     exact⟨rfl,ν',k1,k2,k3⟩
  ·cases h
 | loop x =>
  refine jm (r:=none) (T:=Nat) (λk a w=>k<=n+1/\∃ S1 m1 ν1 l1,ν.le ν1/\xy P G aO X k f N (.loop x) S1 m1=some l1/\(∀ o∈l1,o∈l)/\bP [] ν1 N S1 a/\St w0 (Mem ν1 m1::L) w) id ?_ (n+1) a w ⟨Nat.le_refl _,S,m,ν,l,Nu.le_refl ν,h,λ_ h=>h,hf,hs⟩
  rintro k a1 w1 ⟨hk,S1,m1,ν1,l1,k0,h1,hsub,k2,k3⟩
  cases k with
  | zero=>cases h1
  | succ k =>
   rw [qO] at h1
   simp only [uI,Hw] at h1
   split at h1
   ·rename_i l2 h2
    have w2:=IH k za f N x S1 m1 l2 h2 hn hd ν1 w0 L w1 a1 hG k2 k3
    refine wpIn_mono w2 λe' a' w' hq=>?_
    obtain⟨⟨e2,S2,m2⟩,ho,he,ν',j1,j2,j3⟩:=hq
    obtain⟨bs,h3,h4⟩:=ki h1 _ ho
    simp only at he h3 j2 j3
    subst he
    cases e2 with
    | normal=>exact⟨k,Nat.lt_succ_self k,za,S2,m2,ν',bs,Nu.le_trans k0 j1,h3,λo ho=>hsub o (h4 o ho),j2,j3⟩
    | exit id =>
     simp only [Option.some.injEq] at h3
     subst h3
     exact⟨_,hsub _ (h4 _ (List.mem_cons_self ..)),rfl,ν',Nu.le_trans k0 j1,j2,j3⟩
    | ret =>
     simp only [Option.some.injEq] at h3
     subst h3
     exact⟨_,hsub _ (h4 _ (List.mem_cons_self ..)),rfl,ν',Nu.le_trans k0 j1,j2,j3⟩
   ·cases h1
 | region id ops draw =>
  simp only [uI] at h
  cases hb:(!draw && xx ops.toList) with
  | false =>
   rw [hb] at h
   exact iC hX fS hmix h hn hd hG hf hs
  | true =>
   rw [hb] at h
   simp only [cond_true] at h
   rw [Bool.and_eq_true] at hb
   obtain rfl:draw=false:=by simpa using hb.1
   have hcall:=Eh (tv hX fS (ma hX fS hmix n))
   have hround:=Eg (ma hX fS hmix n)
   refine wpIn_region ?_
   unfold Hy at h
   split at h
   ·rename_i o rest hops
    split at h
    ·rename_i x ho hgd
     split at h
     ·rename_i i hx
      split at h
      ·rename_i outs hall
       have hi:ops[0]?=some o:=by
        have:ops.toList[0]?=some o:=by rw [hops];rfl
        simpa using this
       have hlen:ops.size=rest.length+1:=by
        have:ops.toList.length=rest.length+1:=by rw [hops];rfl
        simpa using this
       rw [List.range_eq_range',hlen,List.range'_succ,wpOpsIn_cons]
       unfold wpOpIn
       simp only [hi]
       have hw:Region.wanted o (yielded ops a.tmps)=true:=by
        unfold Region.wanted
        rw [hgd]
       rw [hw]
       simp only [if_true]
       obtain⟨v0,hv0,ev0⟩:=hf.op hx
       obtain⟨⟨av,m1⟩,hr,v,ν',w',e1,e2,e3,e4⟩:=yC (P:=P) hs ho (ρ:=a.eval) (by rw [ev0];exact hv0) hall
       have hfin:∀ (hput:qB N S o.dst av=none->False),True:=λ_=>trivial
       obtain⟨bs,h5,h6⟩:=ki h _ hr
       simp only at h5 e2 e3
       split at h5
       ·rename_i S1 hput
        have K:wpOpsIn (cS none) 0 P ops (uK ν w0 L N l) (List.range' 1 rest.length) (a.put o.dst v) w':=by
         unfold Ji MC at h5
         split at h5
         ·rename_i o2 ho2
          split at ho2
          ·rename_i S2 m2 hro
           simp only [Option.some.injEq] at h5 ho2
           subst h5
           subst ho2
           exact tf hcall hround hG rest 1 S1 m1 ν' w' (a.put o.dst v) (by rw [hops];rfl) hro ((hf.mono e1).put e2 hput) e3 λν'' w'' a'' j1 j2 j3=>⟨_,h6 _ (List.mem_cons_self ..),rfl,ν'',Nu.le_trans e1 j1,j2,j3⟩
          ·cases ho2
         ·cases h5
        refine Oper.mQ (λc hc=>by rw [ho] at hc;cases hc) ?_
        rcases e4 with e4|⟨e4,rfl⟩
        ·unfold Oper.wp;rw [e4];exact K
        ·unfold Oper.wp;rw [e4];exact K
       ·cases h5
      ·cases h
     ·cases h
    ·cases h
   ·cases h
 | skip=>exact iC hX fS hmix h hn hd hG hf hs
 | label l'=>exact iC hX fS hmix h hn hd hG hf hs
 | ret=>exact iC hX fS hmix h hn hd hG hf hs
 | exit id=>exact iC hX fS hmix h hn hd hG hf hs
 | rangeFunc _ _ _ _=>exact iC hX fS hmix h hn hd hG hf hs
 | scope _=>exact iC hX fS hmix h hn hd hG hf hs
 | goto _=>exact iC hX fS hmix h hn hd hG hf hs
 | refuse _=>exact iC hX fS hmix h hn hd hG hf hs
end
def sameAs:List AV->List AV->Bool
 | [],[]=>true
 | a::l,b::l'=>bif ux a b then sameAs l l' else false
 | _,_=>false
theorem lb:∀ {x y:List AV},sameAs x y=true->x=y
 | [],[],_=>rfl
 | [],_::_,h=>by cases h
 | _::_,[],h=>by cases h
 | a::l,b::l',h=>by
  simp only [sameAs] at h
  cases hb:ux a b with
  | false=>rw [hb] at h;cases h
  | true=>rw [hb] at h;rw [sw hb,lb h]
def Ej (a b:AV):Bool :=
 match a with
 | .qU l=>match b with
  | .qU l'=>sameAs l l'
  | _=>false
 | a=>ux a b
theorem Ek {a b:AV}(h:Ej a b=true):a=b:=by
 unfold Ej at h
 split at h
 ·split at h
  ·rw [lb h]
  ·cases h
 ·exact sw h
def B6:List (Value×AV×Nat)->List (Value×AV×Nat)->Bool
 | [],[]=>true
 | a::l,b::l'=>bif DO a.1 b.1 && ux a.2.1 b.2.1 && Nat.beq a.2.2 b.2.2 then B6 l l' else false
 | _,_=>false
theorem Ay:∀ {x y:List (Value×AV×Nat)},B6 x y=true->x=y
 | [],[],_=>rfl
 | [],_::_,h=>by cases h
 | _::_,[],h=>by cases h
 | (a1,a2,a3)::l,(b1,b2,b3)::l',h=>by
  simp only [B6] at h
  cases hb:(DO a1 b1 && ux a2 b2 && Nat.beq a3 b3) with
  | false=>rw [hb] at h;cases h
  | true =>
   rw [hb] at h
   simp only [Bool.and_eq_true] at hb
   rw [Eb hb.1.1,sw hb.1.2,Nat.eq_of_beq_eq_true hb.2,Ay h]
def ny (a b:eK):Bool :=
 match a with
 | .cells x=>match b with
  | .cells y=>sameAs x y
  | _=>false
 | .map es c=>match b with
  | .map es' c'=>Nat.beq c c' && B6 es es'
  | _=>false
 | .buf cs z=>match b with
  | .buf cs' z'=>Nat.beq z z' && sameAs cs cs'
  | _=>false
 | _=>false
theorem xz {a b:eK}(h:ny a b=true):a=b:=by
 unfold ny at h
 split at h
 ·split at h
  ·rw [lb h]
  ·cases h
 ·split at h
  ·simp only [Bool.and_eq_true] at h
   rw [Nat.eq_of_beq_eq_true h.1,Ay h.2]
  ·cases h
 ·split at h
  ·simp only [Bool.and_eq_true] at h
   rw [Nat.eq_of_beq_eq_true h.1,lb h.2]
  ·cases h
 ·cases h
noncomputable def El (m0:AM) (ms:List AM) (k:Nat) (r:AM):AM :=
 match m0.get k with
 | some b=>bif ms.all (λm'=>match m'.get k with
  | some b'=>ny b b'
  | none=>false) then r.set k b else r
 | none=>r
noncomputable def mf (m0:AM) (ms:List AM) (n:Nat):AM:=Nat.rec ⟨.nil,m0.next⟩ (λk r=>El m0 ms k r) n
theorem nz (m0:AM) (ms:List AM):∀ n,(mf m0 ms n).next=m0.next
 | 0=>rfl
 | n+1=>by
  show(El m0 ms n (mf m0 ms n)).next=_
  have:=nz m0 ms n
  unfold El
  split
  ·rename_i b hb
   generalize (ms.all λm'=>_)=t
   cases t with
   | true=>exact this
   | false=>exact this
  ·exact this
theorem kj (m0:AM) (ms:List AM):∀ n k b,(mf m0 ms n).get k=some b->m0.get k=some b/\∀ m'∈ms,m'.get k=some b
 | 0,k,b,h=>by cases h
 | n+1,k,b,h=>by
  have h':(El m0 ms n (mf m0 ms n)).get k=some b:=h
  unfold El at h'
  split at h'
  ·rename_i b0 hb
   cases ht:(ms.all λm'=>match m'.get n with
    | some b'=>ny b0 b'
    | none=>false) with
   | false=>rw [ht] at h';exact kj m0 ms n k b h'
   | true =>
    rw [ht] at h'
    simp only [cond_true] at h'
    by_cases e:k=n
    ·subst e
     have h2:some b0=some b:=by rw [<- h'];exact(show((mf m0 ms k).bl.set k (some b0)).get k=some b0 from Tr.fK _ _ _).symm
     cases h2
     refine⟨hb,λm' hm=>?_⟩
     have:=List.all_eq_true.1 ht m' hm
     split at this
     ·rename_i b' hb'
      rw [hb',xz this]
     ·cases this
    ·refine kj m0 ms n k b ?_
     rw [<- h']
     exact(show((mf m0 ms n).bl.set n (some b0)).get k=(mf m0 ms n).bl.get k from Tr.lE _ _ e).symm
  ·exact kj m0 ms n k b h'
section
variable {P : Program} {G : Nat -> Option (List Value)} {ν : Nu} {N : Nat} {S S' : AE} {a : Act} {m m' : AM} {w w0 : World} {L : List bA} {aO : Ord} {X : eY}
theorem St.shrink (hs:St w0 (Mem ν m::L) w) (hsub:∀ id b,m'.get id=some b->m.get id=some b) (hn:m'.next=m.next):St w0 (Mem ν m'::L) w:=by
 refine St.conv hs (λhc=>?_) ?_
 ·exact⟨λid hid=>hc.fresh id (by rw [<- hn];exact hid),λid cN hg=>hc.at_ id cN (hsub id cN hg),λid id' cN blk' p p' hg hg'=>hc.inj id id' cN blk' p p' (hsub id cN hg) (hsub id' blk' hg')⟩
 ·rintro b ⟨id,cN,p,hg,hp,rfl⟩
  exact⟨id,cN,p,hsub id cN hg,hp,rfl⟩
end
section
variable (P : Program) (G : Nat -> Option (List Value)) (aO : Ord) (X : eY)
noncomputable def B7 (r:Option (List (AV×AM))):R2 :=
 match r with
 | some (r0::rs)=>bif rs.all (λr=>Ej r.1 r0.1 && Nat.beq r.2.next r0.2.next) then some (r0.1,mf r0.2 (rs.map (·.2)) r0.2.next) else none
 | _=>none
noncomputable def Lf (fn:Func) (r:B5):Option (List (AV×AM)) :=
 match r with
 | some l=>qN (λo=>match uZ P G fn (some o) with
  | some q=>some [q]
  | none=>none) l
 | none=>none
noncomputable def Li (n:Nat) (g:FuncId) (fn:Func) (asx:List AV) (m:AM):R2 :=
 match fn.body with
 | some b=>bif Nat.ble asx.length fn.ntmps && gK b then B7 (Lf P G fn (xy P G aO X n g fn.ntmps b (uT 0 asx .nil) m)) else none
 | none=>none
noncomputable def HB (n:Nat) (g:FuncId) (asx:List AV) (m:AM):R2 :=
 match P.funcs[g]? with
 | some fn=>Li P G aO X n g fn asx m
 | none=>none
end
section
variable {P : Program} {G : Nat -> Option (List Value)} {ν : Nu} {N : Nat} {S S' : AE} {a : Act} {m m' : AM} {w w0 : World} {L : List bA} {aO : Ord} {X : eY}
theorem Em {l:List (AV×AM)}{r:AV}(h:B7 (some l)=some (r,m')):∀ q∈l,q.1=r/\m'.next=q.2.next/\∀ id b,m'.get id=some b->q.2.get id=some b:=by
 unfold B7 at h
 split at h
 ·rename_i r0 rs e
  simp only [Option.some.injEq] at e
  subst e
  cases ht:(rs.all λr=>Ej r.1 r0.1 && Nat.beq r.2.next r0.2.next) with
  | false=>rw [ht] at h;cases h
  | true =>
   rw [ht] at h
   simp only [cond_true,Option.some.injEq,Prod.mk.injEq] at h
   obtain⟨rfl,rfl⟩:=h
   intro q hq
   rcases List.mem_cons.1 hq with rfl|hq
   ·exact⟨rfl,nz _ _ _,λid b hb=>(kj _ _ _ id b hb).1⟩
   ·have:=List.all_eq_true.1 ht q hq
    simp only [Bool.and_eq_true] at this
    exact⟨Ek this.1,(nz _ _ _).trans (Nat.eq_of_beq_eq_true this.2).symm,λid b hb=>(kj _ _ _ id b hb).2 _ (List.mem_map.2 ⟨q,hq,rfl⟩)⟩
 ·cases h
theorem Pc (hX:fC P G X) (fS:∀ g fn b,P.funcs[g]?=some fn->fn.body=some b->Ef aO g b) (hmix:P.follows .mixedOrders=true) (n:Nat){g:FuncId}{asx:List AV}{r:AV}{vs:List Value}
 (h:HB P G aO X n g asx m=some (r,m')) (hG:nO G w0 L) (hvs:bF ν asx=some vs) (hs:St w0 (Mem ν m::L) w):Calls P g vs.toArray w (eD λv w'=>∃ ν',ν.le ν'/\r.val ν'=some v/\St w0 (Mem ν' m'::L) w'):=by
 unfold HB at h
 split at h
 ·rename_i fn hfn
  unfold Li at h
  split at h
  ·rename_i b hb
   cases hle:(Nat.ble asx.length fn.ntmps && gK b) with
   | false=>rw [hle] at h;cases h
   | true =>
    rw [hle] at h
    have hnr:=(Bool.and_eq_true_iff.1 hle).2
    have hle:=bN (Bool.and_eq_true_iff.1 hle).1
    simp only [cond_true] at h
    cases he:xy P G aO X n g fn.ntmps b (uT 0 asx .nil) m with
    | none=>rw [he] at h;cases h
    | some l =>
     rw [he] at h
     cases hc:Lf P G fn (some l) with
     | none=>rw [hc] at h;cases h
     | some qs =>
      rw [hc] at h
      have hag:=Em h
      have lv:=cO hvs
      refine(gQ (r:=none) (n:=0)).1 (callsIn_of_wp_marks hfn hb trivial ?_)
      have hf0:bP [] ν fn.ntmps (uT 0 asx .nil) { tmps:=vs.toArray++Array.replicate (fn.ntmps-vs.toArray.size) undef,defers:=[] }:=by
       refine⟨rfl,by simp;omega,λk x hx=>?_⟩
       rw [xt] at hx
       simp only [Nat.zero_le,true_and,Nat.zero_add,Nat.sub_zero] at hx
       by_cases hk:k<asx.length
       ·rw [if_pos hk] at hx
        obtain⟨v,h1,h2⟩:=mK hvs hx
        refine⟨v,h1,?_⟩
        simp only [Array.getD_eq_getD_getElem?]
        rw [Array.getElem?_append_left zO]
        simp [h2]
       ·rw [if_neg hk] at hx
        cases hx
      have hwp:=Ei hX fS hmix n g fn.ntmps b (uT 0 asx .nil) m l he hnr (fS g fn b hfn hb) ν w0 L w _ hG hf0 hs
      refine wpIn_mono hwp λe' a' w' hq=>?_
      obtain⟨⟨e,S2,m2⟩,ho,he',ν',k1,k2,k3⟩:=hq
      obtain⟨bs,h1,h2⟩:=ki (show qN _ l=some qs from hc) _ ho
      simp only at he' k2 k3
      split at h1
      ·rename_i q hq
       simp only [Option.some.injEq] at h1
       subst h1
       obtain⟨j1,j2,j3⟩:=hag q (h2 q (List.mem_cons_self ..))
       unfold uZ at hq
       simp only at hq
       have hq2:(match DM P G m2 S2 fn.results.toList with
        | some l=>some (Ah l,m2)
        | none=>none)=some q:=by
        cases e with
        | exit id=>cases hq
        | _=>exact hq
       split at hq2
       ·rename_i rl hrl
        simp only [Option.some.injEq] at hq2
        subst hq2
        obtain⟨v,i1,i2⟩:=uH (P:=P) (fn:=fn) k2 k3 hG hrl
        simp only at j1 j2 j3
        subst j1
        have k4:=St.shrink k3 j3 j2
        subst he'
        cases e with
        | normal =>
         show LeavesInM _ _ _ _ _ _ a'.defers .returning w'
         rw [k2.defers]
         exact⟨v,i2,ν',k1,i1,k4⟩
        | ret =>
         show LeavesInM _ _ _ _ _ _ a'.defers .returning w'
         rw [k2.defers]
         exact⟨v,i2,ν',k1,i1,k4⟩
        | exit id=>cases hq
       ·cases hq2
      ·cases h1
  ·cases h
 ·cases h
end
section
variable {P : Program} {G : Nat -> Option (List Value)} {ν ν' : Nu} {m m1 m2 m3 : AM} {w w0 : World} {L : List bA}
theorem Rt.sub (h:Rt ν m w) (hs:∀ id b,m1.get id=some b->m.get id=some b) (hn:m1.next=m.next):Rt ν m1 w :=
 ⟨λid hid=>h.fresh id (by rw [<- hn];exact hid),λid cN hg=>h.at_ id cN (hs id cN hg),λid id' cN blk' p p' hg hg'=>h.inj id id' cN blk' p p' (hs id cN hg) (hs id' blk' hg')⟩
theorem St.split (hs:St w0 (Mem ν m::L) w) (h1:∀ id b,m1.get id=some b->m.get id=some b) (n1:m1.next=m.next) (h2:∀ id b,m2.get id=some b->m.get id=some b/\m1.get id=none) (n2:m2.next=m.next):St w0 (Mem ν m1::Mem ν m2::L) w:=by
 have hm:=dD hs
 have ap:=List.pairwise_cons.1 hs.apart
 have o1:∀ b,(Mem ν m1).own b->(Mem ν m).own b:=by
  rintro b ⟨id,cN,p,hg,hp,rfl⟩
  exact⟨id,cN,p,h1 id cN hg,hp,rfl⟩
 have o2:∀ b,(Mem ν m2).own b->(Mem ν m).own b:=by
  rintro b ⟨id,cN,p,hg,hp,rfl⟩
  exact⟨id,cN,p,(h2 id cN hg).1,hp,rfl⟩
 refine⟨hs.os,hs.tape,hs.output,λA hA=>?_,λA hA b hb=>?_,List.pairwise_cons.2 ⟨λB hB b hb hb'=>?_,List.pairwise_cons.2 ⟨λB hB b hb hb'=>ap.1 B hB b (o2 b hb) hb',ap.2⟩⟩⟩
 ·rcases List.mem_cons.1 hA with rfl|hA
  ·exact hm.sub h1 n1
  ·rcases List.mem_cons.1 hA with rfl|hA
   ·exact hm.sub (λid b h=>(h2 id b h).1) n2
   ·exact hs.holds A (List.mem_cons_of_mem _ hA)
 ·rcases List.mem_cons.1 hA with rfl|hA
  ·exact hs.lt _ (List.mem_cons_self ..) b (o1 b hb)
  ·rcases List.mem_cons.1 hA with rfl|hA
   ·exact hs.lt _ (List.mem_cons_self ..) b (o2 b hb)
   ·exact hs.lt A (List.mem_cons_of_mem _ hA) b hb
 ·rcases List.mem_cons.1 hB with rfl|hB
  ·obtain⟨id,cN,p,hg,hp,rfl⟩:=hb
   obtain⟨id',blk',p',hg',hp',e⟩:=hb'
   have:=hm.inj id id' cN blk' p p' (h1 id cN hg) (h2 id' blk' hg').1 hp hp' e.symm
   subst this
   have:=(h2 id blk' hg').2
   rw [hg] at this
   cases this
  ·exact ap.1 B hB b (o1 b hb) hb'
theorem St.join (hs:St w0 (Mem ν' m1::Mem ν m2::L) w) (hle:ν.le ν') (h3:∀ id b,m3.get id=some b->m1.get id=some b\/m2.get id=some b) (n3:m3.next=m1.next):St w0 (Mem ν' m3::L) w:=by
 have hm1:Rt ν' m1 w:=dD hs
 have hm2:Rt ν m2 w:=hs.holds _ (List.mem_cons_of_mem _ (List.mem_cons_self ..))
 have ap:=List.pairwise_cons.1 hs.apart
 have ap2:=List.pairwise_cons.1 ap.2
 have up:∀ id cN,m2.get id=some cN->∃ p o,ν id=some p/\ν' id=some p/\w.heap[p.1]?=some o/\cN.holds ν' p.2 o:=by
  intro id cN hg
  obtain⟨p,o,k1,k2,k3⟩:=hm2.at_ id cN hg
  exact⟨p,o,k1,hle id p k1,k2,eK.lG hle _ k3⟩
 have cross:∀ id id' cN blk' p p',m1.get id=some cN->m2.get id'=some blk'->ν' id=some p->ν' id'=some p'->p.1=p'.1->False:=by
  intro id id' cN blk' p p' hg hg' hp hp' e
  obtain⟨q,o,k1,k2,_,_⟩:=up id' blk' hg'
  rw [k2] at hp'
  cases hp'
  exact ap.1 _ (List.mem_cons_self ..) p.1 ⟨id,cN,p,hg,hp,rfl⟩ ⟨id',blk',p',hg',k1,e.symm⟩
 refine⟨hs.os,hs.tape,hs.output,λA hA=>?_,λA hA b hb=>?_,List.pairwise_cons.2 ⟨λB hB b hb hb'=>?_,ap2.2⟩⟩
 ·rcases List.mem_cons.1 hA with rfl|hA
  ·refine⟨λid hid=>hm1.fresh id (by rw [<- n3];exact hid),λid cN hg=>?_,λid id' cN blk' p p' hg hg' hp hp' e=>?_⟩
   ·rcases h3 id cN hg with h|h
    ·exact hm1.at_ id cN h
    ·obtain⟨p,o,k1,k2,k3,k4⟩:=up id cN h
     exact⟨p,o,k2,k3,k4⟩
   ·rcases h3 id cN hg with h|h
    ·rcases h3 id' blk' hg' with h' | h'
     ·exact hm1.inj id id' cN blk' p p' h h' hp hp' e
     ·exact(cross id id' cN blk' p p' h h' hp hp' e).elim
    ·rcases h3 id' blk' hg' with h' | h'
     ·exact(cross id' id blk' cN p' p h' h hp' hp e.symm).elim
     ·obtain⟨q,o,k1,k2,_,_⟩:=up id cN h
      obtain⟨q',o',k1',k2',_,_⟩:=up id' blk' h'
      rw [k2] at hp
      rw [k2'] at hp'
      cases hp
      cases hp'
      exact hm2.inj id id' cN blk' p p' h h' k1 k1' e
  ·exact hs.holds A (List.mem_cons_of_mem _ (List.mem_cons_of_mem _ hA))
 ·rcases List.mem_cons.1 hA with rfl|hA
  ·obtain⟨id,cN,p,hg,hp,rfl⟩:=hb
   rcases h3 id cN hg with h|h
   ·exact hs.lt _ (List.mem_cons_self ..) p.1 ⟨id,cN,p,h,hp,rfl⟩
   ·obtain⟨q,o,k1,k2,_,_⟩:=up id cN h
    rw [k2] at hp
    cases hp
    exact hs.lt _ (List.mem_cons_of_mem _ (List.mem_cons_self ..)) p.1 ⟨id,cN,p,h,k1,rfl⟩
  ·exact hs.lt A (List.mem_cons_of_mem _ (List.mem_cons_of_mem _ hA)) b hb
 ·obtain⟨id,cN,p,hg,hp,rfl⟩:=hb
  rcases h3 id cN hg with h|h
  ·exact ap.1 B (List.mem_cons_of_mem _ hB) p.1 ⟨id,cN,p,h,hp,rfl⟩ hb'
  ·obtain⟨q,o,k1,k2,_,_⟩:=up id cN h
   rw [k2] at hp
   cases hp
   exact ap2.1 B hB p.1 ⟨id,cN,p,h,k1,rfl⟩ hb'
end
inductive gW (α:Type) where
 | mk (f:α)
noncomputable def gW.un {α:Type}(d:gW α):α:=gW.rec (λf=>f) d
noncomputable def gW.go {α β:Type}(d:gW α) (k:α->gW β):gW β:=gW.rec k d
@[simp] theorem gW.ji {α:Type}(f:α):(gW.mk f).un=f:=rfl
@[simp] theorem gW.jz {α β:Type}(d:gW α) (k:α->gW β):(d.go k).un=(k d.un).un:=by cases d;rfl
noncomputable def Pd {α:Type}(i:Nat) (g:Tr α->Option α):gW (Tr α->Option α) :=
 Tr.pick i (.mk λT=>Tr.rec none (λ_ a _ _ _ _ _ _ _=>g a) T) (.mk λT=>Tr.rec none (λ_ _ b _ _ _ _ _ _=>g b) T)
  (.mk λT=>Tr.rec none (λ_ _ _ c _ _ _ _ _=>g c) T) (.mk λT=>Tr.rec none (λ_ _ _ _ d _ _ _ _=>g d) T)
noncomputable def Lj {α:Type}(d:Nat):Nat->gW (Tr α->Option α) :=
 Nat.rec (λ_=>.mk λ_=>none) (λ_ ih n=>Nat.rec (.mk λT=>Tr.rec none (λv _ _ _ _ _ _ _ _=>v) T)
  (λk _=>(ih (Nat.div k 4)).go λg=>Pd (Nat.mod k 4) g) n) d
theorem Eo {α:Type}:∀ (d n:Nat) (T:Tr α),n<d->(Lj d n).un T=T.get n
 | 0,n,T,h=>absurd h (Nat.not_lt_zero _)
 | d+1,0,T,h=>by cases T<;>rfl
 | d+1,n+1,T,h=>by
  have hk:Nat.div n 4<d:=by show n / 4<d;omega
  show(((Lj d (Nat.div n 4)).go λg=>Pd (Nat.mod n 4) g).un T)=_
  rw [gW.jz]
  cases T with
  | nil=>rcases Tr.four n with h|h|h|h<;>rw [h]<;>rfl
  | node v a b c e =>
   rw [Tr.mJ]
   rcases Tr.four n with h|h|h|h<;>rw [h]<;>exact Eo d _ _ hk
noncomputable def Pe {α:Type}(i:Nat) (g:Tr α->Option α->Tr α):gW (Tr α->Option α->Tr α) :=
 Tr.pick i
  (.mk λT x=>Tr.rec (.node none (g .nil x) .nil .nil .nil) (λv a b c d _ _ _ _=>.node v (g a x) b c d) T)
  (.mk λT x=>Tr.rec (.node none .nil (g .nil x) .nil .nil) (λv a b c d _ _ _ _=>.node v a (g b x) c d) T)
  (.mk λT x=>Tr.rec (.node none .nil .nil (g .nil x) .nil) (λv a b c d _ _ _ _=>.node v a b (g c x) d) T)
  (.mk λT x=>Tr.rec (.node none .nil .nil .nil (g .nil x)) (λv a b c d _ _ _ _=>.node v a b c (g d x)) T)
noncomputable def Ln {α:Type}(d:Nat):Nat->gW (Tr α->Option α->Tr α) :=
 Nat.rec (λ_=>.mk λT _=>T) (λ_ ih n=>Nat.rec (.mk λT x=>Tr.rec (.node x .nil .nil .nil .nil) (λ_ a b c d _ _ _ _=>.node x a b c d) T)
  (λk _=>(ih (Nat.div k 4)).go λg=>Pe (Nat.mod k 4) g) n) d
theorem xA {α:Type}:∀ (d n:Nat) (T:Tr α) (x:Option α),(Ln d n).un T x=Tr.put d T n x
 | 0,n,T,x=>rfl
 | d+1,0,T,x=>by cases T<;>rfl
 | d+1,n+1,T,x=>by
  show(((Ln d (Nat.div n 4)).go λg=>Pe (Nat.mod n 4) g).un T x)=_
  rw [gW.jz]
  cases T with
  | nil=>rw [Tr.DR];unfold Tr.Nv;rw [<- xA d _ .nil x];rcases Tr.four n with h|h|h|h<;>rw [h]<;>rfl
  | node v a b c e=>rw [Tr.Aj];unfold Tr.Nv;rw [<- xA d _ _ x];rcases Tr.four n with h|h|h|h<;>rw [h]<;>rfl
noncomputable def getD (t:Nat):gW (AE->Option AV):=Lj (t+1) t
noncomputable def Oa (t:Nat):gW (AE->Option AV->AE):=Ln (t+1) t
@[simp] theorem getD_eq (t:Nat) (S:AE):(getD t).un S=S.get t:=Eo _ _ _ (Nat.lt_succ_self t)
@[simp] theorem HC (t:Nat) (S:AE) (a:Option AV):(Oa t).un S a=S.set t a:=xA _ _ _ _
section
variable {β : Type}
noncomputable def HD (f:IntKind->Nat->β) (e:β) (a:AV):β:=AV.rec (motive_1:=λ_=>β) (motive_2:=λ_=>Unit) f (λ_=>e) (λ_=>e) (λ_ _=>e) (λ_ _ _ _ _=>e) (λ_ _ _ _=>e) (λ_=>e) (λ_ _ _ _ _=>e) (λ_ _=>e) (λ_ _=>e) (λ_=>e) (λ_ _ _=>e) () (λ_ _ _ _=>()) a
noncomputable def Lp (f:Nat->Nat->β) (e:β) (a:AV):β:=AV.rec (motive_1:=λ_=>β) (motive_2:=λ_=>Unit) (λ_ _=>e) (λ_=>e) (λ_=>e) f (λ_ _ _ _ _=>e) (λ_ _ _ _=>e) (λ_=>e) (λ_ _ _ _ _=>e) (λ_ _=>e) (λ_ _=>e) (λ_=>e) (λ_ _ _=>e) () (λ_ _ _ _=>()) a
noncomputable def Lr (f:Bool->β) (e:β) (a:AV):β:=AV.rec (motive_1:=λ_=>β) (motive_2:=λ_=>Unit) (λ_ _=>e) f (λ_=>e) (λ_ _=>e) (λ_ _ _ _ _=>e) (λ_ _ _ _=>e) (λ_=>e) (λ_ _ _ _ _=>e) (λ_ _=>e) (λ_ _=>e) (λ_=>e) (λ_ _ _=>e) () (λ_ _ _ _=>()) a
end
noncomputable def ve {α β:Type}(f:α->Option β) (x:Option α):Option β:=Option.rec none f x
section
variable (P : Program) (G : Nat -> Option (List Value))
noncomputable def vf:Operand->gW (AE->Option AV)
 | .tmp t=>getD t
 | .const v=>.mk λ_=>some (lift v)
 | .global g=>.mk λ_=>some (.flat (.pointer (some ⟨g,0,none⟩)))
 | .func f=>.mk λ_=>some (.flat (.func (.func f) #[] #[]))
@[simp] theorem xB (x:Operand) (S:AE):(vf x).un S=cC S x:=by
 cases x with
 | tmp t=>exact getD_eq t S
 | _=>rfl
noncomputable def Ob (op:BinOp):gW (IntKind->Nat->IntKind->Nat->Option AV) :=
 match op with
 | .add=>.mk λk x k' y=>bif Nat.beq (dG k) (dG k') then yu k (x+y) else none
 | .eql=>.mk λk x k' y=>bif Nat.beq (dG k) (dG k') then some (.bool (Nat.beq x y)) else none
 | .neq=>.mk λk x k' y=>bif Nat.beq (dG k) (dG k') then some (.bool (!Nat.beq x y)) else none
 | .lss=>.mk λk x k' y=>bif Nat.beq (dG k) (dG k') then some (.bool (Nat.ble (x+1) y)) else none
 | .leq=>.mk λk x k' y=>bif Nat.beq (dG k) (dG k') then some (.bool (Nat.ble x y)) else none
 | .gtr=>.mk λk x k' y=>bif Nat.beq (dG k) (dG k') then some (.bool (Nat.ble (y+1) x)) else none
 | .geq=>.mk λk x k' y=>bif Nat.beq (dG k) (dG k') then some (.bool (Nat.ble y x)) else none
 | .xor=>.mk λk x k' y=>bif Nat.beq (dG k) (dG k') then uw k x y (Nat.xor x y) else none
 | .and=>.mk λk x k' y=>bif Nat.beq (dG k) (dG k') then uw k x y (Nat.land x y) else none
 | .or=>.mk λk x k' y=>bif Nat.beq (dG k) (dG k') then uw k x y (Nat.lor x y) else none
 | op=>.mk λk x k' y=>qA op k x k' y
@[simp] theorem MG (op:BinOp) (k:IntKind) (x:Nat) (k':IntKind) (y:Nat):(Ob op).un k x k' y=qA op k x k' y:=by cases op<;>rfl
noncomputable def B8 (o:Oper) (op:BinOp) (t:TypeId) (x y:Operand):gW (AE->Option AV) :=
 (vf x).go λfx=>(vf y).go λfy=>(Ob op).go λfb=>.mk λS =>
  ve (λa=>ve (λb=>Option.rec (motive:=λ_=>Option AV) (jD P S o (Hn P op t a b)) (λr=>some r) (HD (λk a=>HD (λk' b=>fb k a k' b) none b) none a)) (fy S)) (fx S)
@[simp] theorem Az (S:AE) (o:Oper) (op:BinOp) (t:TypeId) (x y:Operand):(B8 P o op t x y).un S=sR P S o op t (cC S x) (cC S y):=by
 simp only [B8,gW.jz,gW.ji,xB]
 cases cC S x with
 | none=>rfl
 | some a =>
  cases cC S y with
  | none=>rfl
  | some b =>
   have e:HD (λk a=>HD (λk' b=>(Ob op).un k a k' b) none b) none a=KP op a b:=by
    cases a<;>try rfl
    cases b<;>try rfl
    exact MG ..
   simp only [ve,sR,e]
   cases KP op a b<;>rfl
noncomputable def HE (t:TypeId):gW (AM->AV->Option AV) :=
 match nf P t with
 | some none=>.mk λm a=>Lp (λid off=>ve (λcs=>cs[off]?) (kQ m id)) (qg P G m t a) a
 | _=>.mk λm a=>qg P G m t a
@[simp] theorem Ep (t:TypeId) (m:AM) (a:AV):(HE P G t).un m a=qg P G m t a:=by
 unfold HE
 cases h:nf P t with
 | none=>rfl
 | some x =>
  cases x with
  | some n=>rfl
  | none =>
   cases a<;>try rfl
   rename_i id off
   show ve (λcs=>cs[off]?) (kQ m id)=_
   simp only [qg,rS,h,ve]
   cases kQ m id<;>rfl
def Lv (t:TypeId) (f:Nat):Option Nat :=
 match P.underlying t with
 | some (.struct fields)=>match fields.toList[f]? with
  | some fd=>match P.info? fd.type with
   | some i=>bif Nat.beq i.size 0 then none else some fd.offset
   | none=>none
  | none=>none
 | _=>none
noncomputable def Qr (t:TypeId) (f:Nat):gW (AV->Option AV) :=
 Option.rec (motive:=λ_=>gW (AV->Option AV)) (.mk λa=>jM P t a f) (λn=>kF n λn=>.mk λa=>Lp (λid off=>some (.ptr id (off+n))) none a) (Lv P t f)
@[simp] theorem Oc (t:TypeId) (f:Nat) (a:AV):(Qr P t f).un a=jM P t a f:=by
 unfold Qr
 cases h:Lv P t f with
 | none=>rfl
 | some n =>
  have e:∀ (k:Nat->gW (AV->Option AV)),kF n k=k n:=λk=>by cases n<;>rfl
  simp only [e,gW.ji]
  unfold Lv at h
  cases a<;>simp only [Lp,jM]
  split at h
  ·rename_i fields hu
   simp only [hu]
   split at h
   ·rename_i fd hf
    simp only [hf]
    split at h
    ·rename_i i hi
     simp only [hi]
     cases hb:Nat.beq i.size 0 with
     | true=>rw [hb] at h;cases h
     | false =>
      rw [hb] at h
      simp only [cond_false,Option.some.injEq] at h
      rw [<- h];rfl
    ·cases h
   ·cases h
  ·cases h
noncomputable def Er (o:Oper):gW (AM->AE->Option AV) :=
 match o.op with
 | .move x=>(vf x).go λf=>.mk λm S=>f S
 | .assign x=>(vf x).go λf=>.mk λm S=>f S
 | .load t x=>(vf x).go λf=>(HE P G t).go λg=>.mk λm S=>ve (λa=>g m a) (f S)
 | .nilCheck x=>(vf x).go λf=>.mk λm S=>pF (f S)
 | .binOp op t x y _=>(B8 P o op t x y).go λf=>.mk λm S=>f S
 | .slice t x lo hi mx=>(vf x).go λf=>.mk λm S=>wN P S o t (f S) lo hi mx
 | .fieldAddr t x f=>(vf x).go λfx=>(Qr P t f).go λg=>.mk λm S=>Option.rec (motive:=λ_=>Option AV) (oK P S o) (λr=>some r) (ve (λa=>g a) (fx S))
 | .field t x f=>(vf x).go λfx=>.mk λm S=>jD P S o (Jx (fx S) λa=>Bv P t a f)
 | .indexAddr t x i=>(vf x).go λfx=>(vf i).go λfi=>.mk λm S=>jD P S o (N0 (fx S) (fi S) (ng P t))
 | .index t x i=>(vf x).go λfx=>(vf i).go λfi=>.mk λm S=>jD P S o (N0 (fx S) (fi S) (Bu P t))
 | .lookup t x k ok=>(vf x).go λfx=>(vf k).go λfk=>.mk λm S=>jD P S o (N0 (fx S) (fk S) λa b=>uX P m t a b ok)
 | .extract x i=>(vf x).go λfx=>.mk λm S=>rU P S o (fx S) i
 | .build t parts=>.mk λm S=>jD P S o (Bt P S t parts.toList)
 | .pick c a b=>.mk λm S=>KR S c a b
 | .makeFunc fn fst cap=>.mk λm S=>sS S fn fst.toList cap.toList
 | .sliceToArrayPointer t x=>.mk λm S=>Jx (cC S x) (rT P t)
 | .unOp _ _ _=>.mk λm S=>oK P S o
 | .call c=>match c.callee with
  | .builtin b=>match b with
   | .len=>.mk λm S=>BB P m S o c
   | _=>.mk λm S=>oK P S o
  | _=>.mk λm S=>none
 | _=>.mk λm S=>ik P G m S o
theorem LA (x:Option AV) (f:AV->Option AV):ve f x=Jx x f:=by cases x<;>rfl
theorem LB (S:AE) (o:Oper) (x:Option AV):Option.rec (motive:=λ_=>Option AV) (oK P S o) (λr=>some r) x=jD P S o x:=by cases x<;>rfl
theorem xC (o:Oper) (m:AM) (S:AE):(Er P G o).un m S=ik P G m S o:=by
 obtain⟨dst,op,ty,pos,aft,guard⟩:=o
 cases op<;>simp only [Er,ik,gW.ji,gW.jz,xB,Az,Ep,Oc,LA,LB]
 rename_i c
 cases hc:c.callee<;>simp only [gW.ji]
 rename_i b
 cases b<;>simp only [gW.ji]
noncomputable def PU (m:AM) (r:Option AV):R2:=Option.rec none (λa=>some (a,m)) r
theorem Od (m:AM) (r:Option AV):PU m r=rd m r:=by cases r<;>rfl
noncomputable def LC (call:FuncId->List AV->AM->R2) (m:AM) (S:AE) (x:Operand) (args:List Operand) (r:Option AV):R2 :=
 match r with
 | some (.yl id)=>match jX S args with
  | some asx=>call YF (.yl id::asx) m
  | none=>none
 | _=>BE P call m (callee S x args)
theorem AA (call:FuncId->List AV->AM->R2) (m:AM) (S:AE) (x:Operand) (args:List Operand):LC P call m S x args (cC S x)=KT P call m S x args:=rfl
noncomputable def MH (o:Oper):gW ((FuncId->List AV->AM->R2)->AM->AE->R2) :=
 match o.op with
 | .binOp op t x y _=>(B8 P o op t x y).go λf=>.mk λcall m S=>PU m (f S)
 | .load t x=>(vf x).go λf=>(HE P G t).go λg=>.mk λcall m S=>PU m (ve (λa=>g m a) (f S))
 | .store t x y=>(vf x).go λfx=>(vf y).go λfy=>.mk λcall m S=>uY P m t (fx S) (fy S)
 | .alloc t=>.mk λcall m S=>rV P m t
 | .box _ x=>(vf x).go λfx=>.mk λcall m S=>Ho m (fx S)
 | .convert src dst x=>(vf x).go λfx=>.mk λcall m S=>KS (fx S) (wM P m src dst)
 | .call c=>match c.callee with
  | .value x=>(vf x).go λfx=>.mk λcall m S=>LC P call m S x c.args.toList (fx S)
  | _=>.mk λcall m S=>iE P G call m S o
 | .buildSlice _ _ _=>.mk λcall m S=>iE P G call m S o
 | .makeMap _ _=>.mk λcall m S=>iE P G call m S o
 | .makeSlice _ _ _=>.mk λcall m S=>iE P G call m S o
 | .mapUpdate _ _ _ _=>.mk λcall m S=>iE P G call m S o
 | .insert _ _ _ _=>.mk λcall m S=>iE P G call m S o
 | .mapEntry _ _ _=>.mk λcall m S=>iE P G call m S o
 | .entryStore _ _ _ _=>.mk λcall m S=>iE P G call m S o
 | .range _ _=>.mk λcall m S=>iE P G call m S o
 | .next _ _=>.mk λcall m S=>iE P G call m S o
 | _=>(Er P G o).go λf=>.mk λcall m S=>PU m (f m S)
theorem HF (o:Oper) (call:FuncId->List AV->AM->R2) (m:AM) (S:AE):(MH P G o).un call m S=uS P G call m S o:=by
 obtain⟨dst,op,ty,pos,aft,guard⟩:=o
 cases op<;>simp only [MH,uS,iE,AA,gW.ji,gW.jz,xB,Az,Ep,xC,Od,LA]
 rename_i c
 cases hc:c.callee<;>simp only [gW.ji,gW.jz,xB,AA,iE,hc]
noncomputable def AB (N:Nat) (ops:List Oper) (o:Oper):gW ((FuncId->List AV->AM->R2)->AE->AM->Option (AE×AM)) :=
 match o.guard with
 | none=>match o.dst with
  | none=>(MH P G o).go λf=>.mk λcall S m=>ve (λq=>Prod.rec (λa m'=>some (S,m')) q) (f call m S)
  | some d=>bif Nat.ble (d+1) N then ((MH P G o).go λf=>(Oa d).go λg=>.mk λcall S m=>ve (λq=>Prod.rec (λa m'=>some (g S (some a),m')) q) (f call m S))
   else .mk λcall S m=>none
 | some _=>.mk λcall S m=>fJ P G call N ops o S m
theorem Et (N:Nat) (ops:List Oper) (o:Oper) (call:FuncId->List AV->AM->R2) (S:AE) (m:AM):(AB P G N ops o).un call S m=fJ P G call N ops o S m:=by
 obtain⟨dst,op,ty,pos,aft,guard⟩:=o
 cases guard with
 | some g=>rfl
 | none =>
  cases dst with
  | none =>
   simp only [AB,fJ,kR,gW.ji,gW.jz,HF,BF,qB]
   cases uS P G call m S ⟨none,op,ty,pos,aft,none⟩<;>rfl
  | some d =>
   simp only [AB,fJ,kR,BF,qB]
   cases Nat.ble (d+1) N with
   | true =>
    simp only [cond_true,gW.ji,gW.jz,HF,HC]
    cases uS P G call m S ⟨some d,op,ty,pos,aft,none⟩<;>rfl
   | false =>
    simp only [cond_false,gW.ji]
    cases uS P G call m S ⟨some d,op,ty,pos,aft,none⟩<;>rfl
noncomputable def Oe (N:Nat) (ops:List Oper) (l:List Oper):gW ((FuncId->List AV->AM->R2)->AE->AM->Option (AE×AM)) :=
 List.rec (.mk λcall S m=>some (S,m)) (λo _ ih=>(AB P G N ops o).go λf=>ih.go λg=>.mk λcall S m=>ve (λq=>Prod.rec (λS' m'=>g call S' m') q) (f call S m)) l
theorem HG (N:Nat) (ops:List Oper) (call:FuncId->List AV->AM->R2):∀ (l:List Oper) (S:AE) (m:AM),(Oe P G N ops l).un call S m=sV P G call N ops l S m
 | [],S,m=>rfl
 | o::l,S,m=>by
  rw [uF]
  show((AB P G N ops o).go λf=>(Oe P G N ops l).go λg=>.mk λcall S m=>ve (λq=>Prod.rec (λS' m'=>g call S' m') q) (f call S m)).un call S m=_
  rw [gW.jz,gW.jz,gW.ji,Et]
  cases h:fJ P G call N ops o S m with
  | none=>rfl
  | some q=>exact HG N ops call l q.1 q.2
noncomputable def vg (N:Nat) (ops:List Oper) (i:Nat) (o:Oper):gW (jN->AE->AM->Option (jN×AE)) :=
 match o.guard with
 | none=>match o.dst with
  | none=>(Er P G o).go λf=>match looks o.op with
   | true=>.mk λD S m=>ve (λa=>some ((i,S,o,a)::D,S)) (f m S)
   | false=>.mk λD S m=>ve (λa=>some (D,S)) (f m S)
  | some d=>bif Nat.ble (d+1) N then ((Er P G o).go λf=>(Oa d).go λg=>match looks o.op with
   | true=>.mk λD S m=>ve (λa=>some ((i,S,o,a)::D,g S (some a))) (f m S)
   | false=>.mk λD S m=>ve (λa=>some (D,g S (some a))) (f m S))
   else .mk λD S m=>none
 | some _=>.mk λD S m=>iM P G N ops i o D S m
theorem Gu (N:Nat) (ops:List Oper) (i:Nat) (o:Oper) (D:jN) (S:AE) (m:AM):(vg P G N ops i o).un D S m=iM P G N ops i o D S m:=by
 obtain⟨dst,op,ty,pos,aft,guard⟩:=o
 cases guard with
 | some g=>rfl
 | none =>
  cases dst with
  | none =>
   simp only [vg,iM,kR,qB]
   cases looks op<;>simp only [gW.ji,gW.jz,xC,cond_true,cond_false]<;>cases ik P G m S ⟨none,op,ty,pos,aft,none⟩<;>rfl
  | some d =>
   simp only [vg,iM,kR,qB]
   cases Nat.ble (d+1) N with
   | true=>cases looks op<;>simp only [gW.ji,gW.jz,xC,HC,cond_true,cond_false]<;>cases ik P G m S ⟨some d,op,ty,pos,aft,none⟩<;>rfl
   | false=>simp only [cond_false,gW.ji];cases ik P G m S ⟨some d,op,ty,pos,aft,none⟩<;>rfl
noncomputable def vh (N:Nat) (ops:List Oper) (M:List Nat) (x:Nat×Bool):gW ((FuncId->List AV->AM->R2)->(jN->AE->AM->Option (AE×AM))->jN->AE->AM->Option (AE×AM)) :=
 match sU ops x.1 with
 | some o=>match x.2 with
  | true=>(vg P G N ops x.1 o).go λf=>.mk λcall ih D S m=>ve (λq=>Prod.rec (λD S=>ih D S m) q) (f D S m)
  | false=>(AB P G N ops o).go λf=>.mk λcall ih D S m=>ve (λq=>Prod.rec (λS m=>List.rec (ih D S m) (λ_ _ _=>bif still P G M x.1 m D then ih D S m else none) D) q) (f call S m)
 | none=>.mk λcall ih D S m=>none
theorem Gv (N:Nat) (ops:List Oper) (M:List Nat) (x:Nat×Bool) (call:FuncId->List AV->AM->R2) (ih:jN->AE->AM->Option (AE×AM)) (D:jN) (S:AE) (m:AM):(vh P G N ops M x).un call ih D S m=mH P G call N ops M ih x D S m:=by
 simp only [vh,mH]
 cases sU ops x.1 with
 | none=>rfl
 | some o =>
  cases x.2 with
  | true =>
   simp only [gW.ji,gW.jz,Gu,mG]
   cases iM P G N ops x.1 o D S m<;>rfl
  | false =>
   simp only [gW.ji,gW.jz,Et,kS]
   cases fJ P G call N ops o S m with
   | none=>rfl
   | some q=>cases D<;>rfl
noncomputable def LD (N:Nat) (ops:List Oper) (M:List Nat) (l:List (Nat×Bool)):gW ((FuncId->List AV->AM->R2)->jN->AE->AM->Option (AE×AM)) :=
 List.rec (.mk λcall _ S m=>some (S,m)) (λx _ ih=>(vh P G N ops M x).go λf=>ih.go λg=>.mk λcall D S m=>f call (g call) D S m) l
theorem Eu (N:Nat) (ops:List Oper) (M:List Nat) (call:FuncId->List AV->AM->R2):∀ (l:List (Nat×Bool)),(LD P G N ops M l).un call=lV P G call N ops M l
 | []=>rfl
 | x::l=>by
  funext D S m
  show((vh P G N ops M x).go λf=>(LD P G N ops M l).go λg=>.mk λcall D S m=>f call (g call) D S m).un call D S m=mH P G call N ops M (lV P G call N ops M l) x D S m
  rw [gW.jz,gW.jz,gW.ji,Gv,Eu N ops M call l]
variable (aO : Ord) (X : eY)
noncomputable def Of (r:Option (AE×AM)):R3:=ve (λq=>Prod.rec (λS m=>some (.normal,S,m)) q) r
theorem HH (r:Option (AE×AM)):Of r=MC r:=by cases r<;>rfl
noncomputable def fI (f:FuncId) (N:Nat) (id:Nat) (ops:List Oper) (draw:Bool):gW ((FuncId->List AV->AM->R2)->AE->AM->R3) :=
 match draw with
 | false=>(Oe P G N ops ops).go λg=>.mk λcall S m=>Of (g call S m)
 | true=>match aO f id with
  | some p=>match p.2.2 with
   | none=>(LD P G N ops p.2.1 p.1).go λg=>.mk λcall S m=>Of (g call [] S m)
   | some _=>.mk λcall S m=>Hr P G call N ops p S m
  | none=>.mk λcall S m=>none
theorem MI (f:FuncId) (N:Nat) (id:Nat) (ops:List Oper) (draw:Bool) (ih:Rec) (S:AE) (m:AM):(fI P G aO f N id ops draw).un (Rz P G aO X ih) S m=rW P G aO X ih f N id ops draw S m:=by
 cases draw with
 | false=>simp only [fI,rW,gW.ji,gW.jz,HG,HH]
 | true =>
  simp only [fI,rW]
  cases aO f id with
  | none=>rfl
  | some p =>
   obtain⟨a,b,c⟩:=p
   cases c with
   | none=>simp only [gW.ji,gW.jz,Eu,Hr,HH]
   | some x=>rfl
noncomputable def Og (ih:Rec) (f:FuncId) (N:Nat) (b:Code) (r:R3):R3 :=
 ve (λq=>Prod.rec (motive:=λ_=>R3) (λe q=>Prod.rec (motive:=λ_=>R3) (λS m=>Ex.rec (motive:=λ_=>R3) (ih f N b S m) (λid=>some (.exit id,S,m)) (some (.ret,S,m)) e) q) q) r
theorem MJ (ih:Rec) (f:FuncId) (N:Nat) (b:Code) (r:R3):Og ih f N b r=KV ih f N b r:=by
 cases r with
 | none=>rfl
 | some q=>obtain⟨e,S,m⟩:=q;cases e<;>rfl
noncomputable def Ew (f:FuncId) (N:Nat) (c:Code):gW (Rec->AE->AM->R3) :=
 match c with
 | .skip=>.mk λih S m=>some (.normal,S,m)
 | .label _=>.mk λih S m=>some (.normal,S,m)
 | .ret=>.mk λih S m=>some (.ret,S,m)
 | .exit id=>.mk λih S m=>some (.exit id,S,m)
 | .seq a b=>.mk λih S m=>Og ih f N b (ih f N a S m)
 | .cond x a b=>(vf x).go λfx=>.mk λih S m=>ve (λv=>Lr (λt=>Bool.rec (ih f N b S m) (ih f N a S m) t) none v) (fx S)
 | .block id b=>.mk λih S m=>Gi id (ih f N b S m)
 | .loop b=>.mk λih S m=>Og ih f N (.loop b) (ih f N b S m)
 | .region id ops draw=>(fI P G aO f N id ops.toList draw).go λg=>.mk λih S m=>g (Rz P G aO X ih) S m
 | c=>.mk λih S m=>lW P G aO X ih f N c S m
theorem LG (ih:Rec) (f:FuncId) (N:Nat) (a b:Code) (S:AE) (m:AM) (x:Option AV):ve (λv=>Lr (λt=>Bool.rec (motive:=λ_=>R3) (ih f N b S m) (ih f N a S m) t) none v) x=KW ih f N a b S m x:=by
 cases x with
 | none=>rfl
 | some v =>
  cases v<;>try rfl
  rename_i t;cases t<;>rfl
theorem LH (f:FuncId) (N:Nat) (c:Code) (ih:Rec) (S:AE) (m:AM):(Ew P G aO X f N c).un ih S m=lW P G aO X ih f N c S m:=by
 cases c<;>simp only [Ew,lW,gW.ji,gW.jz,xB,MI,MJ,LG]
noncomputable def uL (fuel:Nat):Rec:=Nat.rec (λ_ _ _ _ _=>none) (λ_ ih f N c S m=>gW.rec (λg=>g ih S m) (Ew P G aO X f N c)) fuel
theorem mL:∀ n,uL P G aO X n=exec P G aO X n
 | 0=>rfl
 | n+1=>by
  rw [tu,<- mL n]
  funext f N c S m
  show(gW.rec (λg=>g (uL P G aO X n) S m) (Ew P G aO X f N c):R3)=_
  rw [<- LH P G aO X f N c (uL P G aO X n) S m]
  cases Ew P G aO X f N c;rfl
end
structure Key where
 g:FuncId
 args:List AV
 mem:List (Nat×eK)
 L0:Nat
 res:AV
 Pf:List (Nat×eK)
 Pg:Nat
noncomputable def lay (l:List (Nat×eK)) (T:Tr eK):Tr eK:=List.rec T (λe _ ih=>ih.set e.1 (some e.2)) l
noncomputable def MK (l:List (Nat×eK)) (T:Tr eK):Tr eK:=List.rec T (λe _ ih=>ih.set e.1 none) l
noncomputable def km (T:Tr eK) (l:List (Nat×eK)):Bool:=List.rec true (λe _ ih=>match T.get e.1 with
 | some b=>bif ny b e.2 then ih else false
 | none=>false) l
theorem B9 {T:Tr eK}{id:Nat}{b:eK}:∀ {l:List (Nat×eK)},(lay l T).get id=some b->(id,b)∈l\/T.get id=some b
 | [],h=>.inr h
 | e::l,h=>by
  have h':((lay l T).set e.1 (some e.2)).get id=some b:=h
  rw [Tr.iB] at h'
  split at h'
  ·rename_i he
   cases h'
   exact .inl (by rw [he];exact List.mem_cons_self ..)
  ·rcases B9 h' with h1|h1
   ·exact .inl (List.mem_cons_of_mem _ h1)
   ·exact .inr h1
theorem Ey {T:Tr eK}{id:Nat}{b:eK}:∀ {l:List (Nat×eK)},(MK l T).get id=some b->T.get id=some b/\∀ e∈l,e.1≠id
 | [],h=>⟨h,λe he=>by cases he⟩
 | e::l,h=>by
  have h':((MK l T).set e.1 none).get id=some b:=h
  rw [Tr.iB] at h'
  split at h'
  ·cases h'
  ·rename_i he
   obtain⟨h1,h2⟩:=Ey h'
   refine⟨h1,λx hx=>?_⟩
   rcases List.mem_cons.1 hx with rfl|hx
   ·exact λe'=>he e'.symm
   ·exact h2 x hx
theorem nA {T:Tr eK}:∀ {l:List (Nat×eK)},km T l=true->∀ e∈l,T.get e.1=some e.2
 | [],_,e,he=>by cases he
 | x::l,h,e,he=>by
  have h':(match T.get x.1 with
   | some b=>bif ny b x.2 then km T l else false
   | none=>false)=true:=h
  cases hg:T.get x.1 with
  | none=>rw [hg] at h';cases h'
  | some b =>
   rw [hg] at h'
   simp only at h'
   cases hb:ny b x.2 with
   | false=>rw [hb] at h';cases h'
   | true =>
    rw [hb] at h'
    rcases List.mem_cons.1 he with rfl|he
    ·rw [hg,xz hb]
    ·exact nA h' e he
section
variable {P : Program} {G : Nat -> Option (List Value)} {aO : Ord} {X : eY}
noncomputable def behind (e:Key) (m:AM):AM:=⟨lay e.Pf (MK e.mem m.bl),e.Pg⟩
def bO (P:Program) (G:Nat->Option (List Value)) (e:Key):Prop:=∀ (ν:Nu) (m:AM) (w w0:World) (L:List bA) (vs:List Value),nO G w0 L->bF ν e.args=some vs->St w0 (Mem ν m::L) w->m.next=e.L0->km m.bl e.mem=true ->
 Calls P e.g vs.toArray w (eD λv w'=>∃ ν',ν.le ν'/\e.res.val ν'=some v/\St w0 (Mem ν' (behind e m)::L) w')
noncomputable def cY (P:Program) (G:Nat->Option (List Value)) (aO:Ord) (X:eY) (n:Nat) (e:Key):Bool :=
 match lC P G X (uL P G aO X n) e.g e.args ⟨lay e.mem .nil,e.L0⟩ with
 | some (r,m')=>Ej r e.res && Nat.beq m'.next e.Pg && km m'.bl e.Pf
 | none=>false
theorem bO.of (hX:fC P G X) (fS:∀ g fn b,P.funcs[g]?=some fn->fn.body=some b->Ef aO g b) (hmix:P.follows .mixedOrders=true) (n:Nat){e:Key}(hen:enters P e.g=true) (h:cY P G aO X n e=true):bO P G e:=by
 intro ν m w w0 L vs hG hv hs hn hm
 unfold cY at h
 rw [mL] at h
 cases hc:lC P G X (exec P G aO X n) e.g e.args ⟨lay e.mem .nil,e.L0⟩ with
 | none=>rw [hc] at h;cases h
 | some q =>
  obtain⟨r,m'⟩:=q
  rw [hc] at h
  simp only [Bool.and_eq_true] at h
  obtain⟨⟨h1,h2⟩,h3⟩:=h
  have hr:=Ek h1
  have hn':=Nat.eq_of_beq_eq_true h2
  have hh:=nA hm
  have k1:∀ id b,(⟨lay e.mem .nil,e.L0⟩:AM).get id=some b->(id,b)∈e.mem:=λid b hg=>by
   rcases B9 hg with h|h
   ·exact h
   ·cases h
  have hs2:St w0 (Mem ν ⟨lay e.mem .nil,e.L0⟩::Mem ν ⟨MK e.mem m.bl,m.next⟩::L) w:=by
   refine St.split hs (λid b hg=>hh _ (k1 id b hg)) hn.symm (λid b hg=>?_) rfl
   obtain⟨g1,g2⟩:=Ey hg
   refine⟨g1,?_⟩
   cases hx:(⟨lay e.mem .nil,e.L0⟩:AM).get id with
   | none=>rfl
   | some b'=>exact absurd rfl (g2 _ (k1 id b' hx))
  refine Calls.ret (mc hX fS hmix n hen hc (hG.frame _) hv hs2) ?_
  rintro v w' ⟨ν',j1,j2,j3⟩
  refine⟨ν',j1,by rw [<- hr];exact j2,St.join j3 j1 (λid b hg=>?_) hn'.symm⟩
  rcases B9 hg with h|h
  ·exact .inl (nA h3 _ h)
  ·exact .inr h
noncomputable def HI (g:FuncId) (asx:List AV) (m:AM) (xD:List Key):Option (AV×AM) :=
 List.rec none (λe _ ih=>bif Nat.beq m.next e.L0 && Nat.beq e.g g && sameAs asx e.args && km m.bl e.mem then some (e.res,behind e m) else ih) xD
theorem xE {g:FuncId}{asx:List AV}{m:AM}{q:AV×AM}:∀ {xD:List Key},HI g asx m xD=some q->∃ e∈xD,m.next=e.L0/\e.g=g/\asx=e.args/\km m.bl e.mem=true/\q=(e.res,behind e m)
 | [],h=>by cases h
 | e::xD,h=>by
  have h':(bif Nat.beq m.next e.L0 && Nat.beq e.g g && sameAs asx e.args && km m.bl e.mem then some (e.res,behind e m) else HI g asx m xD)=some q:=h
  cases hb:(Nat.beq m.next e.L0 && Nat.beq e.g g && sameAs asx e.args && km m.bl e.mem) with
  | false =>
   rw [hb] at h'
   obtain⟨x,hx,r⟩:=xE h'
   exact⟨x,List.mem_cons_of_mem _ hx,r⟩
  | true =>
   rw [hb] at h'
   simp only [cond_true,Option.some.injEq] at h'
   simp only [Bool.and_eq_true] at hb
   exact⟨e,List.mem_cons_self ..,Nat.eq_of_beq_eq_true hb.1.1.1,Nat.eq_of_beq_eq_true hb.1.1.2,lb hb.1.2,hb.2,h'.symm⟩
def LI (g:FuncId) (xD:List Key):Bool:=xD.any λe=>Nat.beq e.g g
noncomputable def pg (P:Program) (G:Nat->Option (List Value)) (aO:Ord) (X:eY) (n:Nat) (xD:List Key):eY:=λg =>
 match LI g xD with
 | true=>some λasx m=>match HI g asx m xD with
  | some r=>some r
  | none=>match enters P g with
   | true=>lC P G X (uL P G aO X n) g asx m
   | false=>none
 | false=>X g
theorem ph (hX:fC P G X) (fS:∀ g fn b,P.funcs[g]?=some fn->fn.body=some b->Ef aO g b) (hmix:P.follows .mixedOrders=true) (n:Nat){xD:List Key}(h:∀ e∈xD,bO P G e):fC P G (pg P G aO X n xD):=by
 intro g f hf asx m r m' ν vs w w0 L hr hG hv hs
 unfold pg at hf
 cases hk:LI g xD with
 | false=>rw [hk] at hf;exact hX g f hf asx m r m' ν vs w w0 L hr hG hv hs
 | true =>
  rw [hk] at hf
  simp only [Option.some.injEq] at hf
  subst hf
  simp only at hr
  cases hl:HI g asx m xD with
  | some q =>
   rw [hl] at hr
   simp only [Option.some.injEq] at hr
   obtain⟨e,he,h1,h2,h3,h4,h5⟩:=xE hl
   rw [hr] at h5
   cases h5
   subst h3
   rw [<- h2]
   exact h e he ν m w w0 L vs hG hv hs h1 h4
  | none =>
   rw [hl] at hr
   simp only at hr
   cases hen:enters P g with
   | false=>rw [hen] at hr;cases hr
   | true =>
    rw [hen,mL] at hr
    exact mc hX fS hmix n hen hr hG hv hs
end
end Go.Ev
namespace Go.Proofs.YthfpmlpoiocfdaaGreatDoor
open Go.RowKit Go.Sx Go.Ev
set_option linter.unusedVariables false
set_option linter.unusedSimpArgs false
set_option linter.unnecessarySimpa false
set_option maxRecDepth 100000
def look {α:Type}(id:Nat):List (Nat×α)->Option α
 | []=>none
 | e::l=>bif Nat.beq e.1 id then some e.2 else look id l
theorem Ez {α:Type}{id:Nat}{x:α}:∀ {l:List (Nat×α)},look id l=some x->(id,x)∈l
 | e::l,h=>by
  simp only [look] at h
  cases hb:Nat.beq e.1 id with
  | true =>
   rw [hb] at h
   have:=Nat.eq_of_beq_eq_true hb
   simp only [cond_true,Option.some.injEq] at h
   subst this h
   exact List.mem_cons_self ..
  | false=>rw [hb] at h;exact List.mem_cons_of_mem _ (Ez h)
abbrev tp (i:Nat):Nat×Bool:=(i,true)
abbrev fp (i:Nat):Nat×Bool:=(i,false)
def Nz:List (Nat×List (Nat×DP)):=[(7,[(1,[tp 0,tp 1,fp 2,fp 3,fp 4,tp 5,fp 6,fp 7,fp 8],[0,0,0,4,12,31,63,0,255],some 7)]),
 (9,[(3,[tp 0,tp 1,tp 2,tp 3,tp 4,tp 5,tp 6,tp 7,fp 8,tp 9,tp 10,tp 11,fp 12,tp 13],[0,1,3,7,0,16,0,64,255,511,1023,1023,2047,8191],none),(7,[tp 0,fp 1,tp 2,tp 3,tp 4,tp 5,tp 6,tp 8,fp 7,fp 9,tp 10,tp 11,tp 12,tp 13,tp 14,tp 15,tp 16,tp 17,fp 18,tp 19,tp 20,tp 21,tp 22,tp 23,tp 24,tp 25,tp 26,tp 27,tp 28],[0,1,3,7,15,31,63,127,7,511,1023,2047,4095,8191,16383,32767,65535,8191,262143,524287,1048575,2097151,4194303,8388607,16777215,33554431,67108863,134217727,268435455],none),(8,[tp 0,tp 1,tp 2,tp 3,tp 4,tp 5,fp 6,fp 7,tp 8,tp 9,fp 10],[0,0,2,6,14,0,32,126,255,511,1023],none)]),
 (10,[(3,[tp 0,tp 1,tp 2,tp 3,tp 4,tp 5,tp 6,tp 7],[0,1,0,4,12,28,63,127],none),(5,[tp 0,tp 1,tp 2,tp 3,tp 4,tp 5,tp 6,tp 7],[0,1,0,4,12,28,63,127],none),(6,[tp 0,tp 1,tp 2,tp 3,tp 4,tp 5,tp 6,tp 7],[0,1,0,4,12,28,63,127],none),(10,[tp 0,tp 1,tp 2,tp 3,tp 4,tp 5,tp 6,tp 7,fp 8],[0,1,3,7,0,16,0,64,255],none),(14,[tp 0,tp 1,tp 2,tp 3,tp 4,tp 5,tp 6,tp 7,tp 8,fp 9],[0,1,3,7,0,16,48,112,0,511],none),(16,[tp 0,tp 1,tp 2,tp 3,tp 4,tp 5,tp 6,tp 7,fp 8,tp 9,tp 10,tp 11,fp 12,fp 13,tp 14],[0,1,3,7,0,16,48,112,255,511,1023,1023,0,6143,16383],some 12),(18,[tp 0,tp 1,tp 2,tp 3,tp 4,tp 5,tp 6,tp 7,fp 8,tp 9,tp 10,tp 11,fp 12,tp 13],[0,1,3,7,0,16,48,112,255,511,1023,1023,2047,8191],none)]),
 (11,[(9,[tp 0,tp 1,tp 2,tp 3,tp 4,tp 5,tp 6,tp 7,fp 8,tp 9],[0,1,3,7,0,0,0,127,255,511],none)]),
 (14,[(3,[tp 0,tp 1,tp 2,tp 3,tp 4,tp 5,tp 6,tp 7,fp 8,tp 9],[0,1,3,7,0,16,48,112,255,511],none)]),
 (15,[(3,[tp 0,tp 1,tp 2,tp 3,tp 4,fp 5,tp 6],[0,1,3,7,0,31,63],none),(6,[tp 0,tp 1,tp 2,tp 3,tp 4,fp 5],[0,1,3,7,0,31],none),(7,[tp 0,tp 1,tp 2,tp 3,tp 4,fp 5],[0,1,3,7,0,31],none),(8,[tp 0,tp 1,tp 2,tp 3,tp 4,tp 5,tp 6,tp 7,tp 8,tp 9,tp 10,tp 11,tp 12,tp 13,tp 14,tp 15,tp 16,tp 17,tp 18,tp 19,tp 20,tp 21,tp 22,tp 23],[0,1,0,4,12,28,63,127,255,511,1023,2047,4095,8191,16383,32767,65535,16383,147455,409599,933887,1982463,4194303,8388607],none)]),
 (16,[(2,[tp 0,tp 1,tp 2,tp 3,tp 4,fp 5,fp 6,tp 7,fp 8],[0,1,0,4,0,16,63,127,255],none)]),
 (17,[(7,[tp 0,tp 1,tp 2,tp 3,tp 4,tp 5,tp 6,tp 7,tp 8,tp 9,tp 11,tp 12,tp 13,tp 14,tp 15,tp 16,tp 17,tp 18,tp 19,fp 10,fp 20,tp 21,fp 22,fp 23,tp 24],[0,0,2,6,14,0,0,64,192,448,960,0,2048,6144,14336,0,0,65536,196608,458752,1048512,2097150,4194302,8388607,16777215],none)]),
 (24,[(0,[tp 0,tp 1,fp 2,tp 3,tp 4,tp 5,tp 6,tp 7,fp 8,fp 9],[0,0,2,6,14,14,31,95,223,511],none)]),
 (26,[(0,[tp 0,tp 1,fp 2,tp 3,tp 4,tp 5,tp 6,tp 7,fp 8,fp 9],[0,0,2,6,14,14,31,95,223,511],none)]),
 (27,[(6,[tp 0,tp 1,tp 2,tp 3,tp 4,fp 5,fp 6,fp 7,tp 8,tp 9,fp 10],[0,0,2,6,14,0,32,126,255,511,1023],none)]),
 (28,[(0,[tp 0,tp 1,fp 2,tp 3,tp 4,tp 5,tp 6,tp 7,fp 8,fp 9],[0,0,2,6,14,14,31,95,223,511],none)]),
 (30,[(0,[tp 0,tp 1,fp 2,tp 3,tp 4,tp 5,tp 6,tp 7,fp 8,fp 9],[0,0,2,6,14,14,31,95,223,511],none)]),
 (32,[(2,[tp 0,tp 1,tp 3,fp 2,fp 4,fp 5,tp 6,fp 7],[0,1,3,0,15,31,63,127],none)]),
 (35,[(1,[tp 0,fp 1,tp 2,tp 3,tp 4,tp 5,fp 6,fp 7,tp 8,tp 9],[0,1,3,7,15,7,39,127,255,511],none)]),
 (36,[(1,[tp 0,tp 1,tp 2,tp 3,tp 4,fp 5,tp 6,tp 7,tp 8],[0,1,0,0,8,28,60,127,255],none)]),
 (39,[(5,[tp 0,tp 1,tp 2,tp 3,tp 4,tp 5,tp 6,fp 7],[0,0,2,0,1,17,63,127],none)]),
 (40,[(7,[tp 0,tp 1,tp 2,tp 3,tp 4,tp 5,tp 6,tp 7,tp 8,fp 9,fp 10,tp 11],[0,1,3,7,0,31,63,127,127,0,767,2047],none),(16,[tp 0,tp 1,tp 2,tp 3,tp 4,tp 5,fp 6],[0,1,3,7,0,0,63],none)]),
 (41,[(15,[tp 0,tp 1,tp 2,tp 3,tp 4,tp 5,fp 6],[0,1,3,7,0,31,63],none),(16,[tp 0,tp 1,tp 2,tp 3,tp 4,fp 5],[0,1,3,7,0,31],none)]),
 (42,[(1,[tp 0,tp 1,tp 2,tp 3,tp 4,fp 5,fp 6,tp 7,tp 8,tp 9,tp 10,tp 11],[0,1,3,7,0,16,63,127,255,255,511,2047],none),(2,[tp 0,tp 1,tp 2,tp 3,tp 4,tp 5,fp 6,tp 7,tp 8,fp 9],[0,0,2,6,14,0,62,127,255,511],none),(4,[tp 0,tp 1,tp 2,tp 3,tp 4,tp 5,fp 6,tp 7,tp 8,fp 9],[0,0,2,6,14,0,62,127,255,511],none)]),
 (43,[(1,[tp 0,tp 2,tp 3,tp 4,tp 5,fp 1,fp 6,tp 7,tp 8],[0,1,0,4,12,28,63,127,255],none),(2,[tp 0,tp 1,tp 2,tp 3,tp 4,tp 5,tp 6,tp 7,tp 8,tp 9,tp 10,tp 11,tp 13,tp 14,tp 16,tp 17,tp 18,tp 19,tp 20,tp 21,tp 22,tp 23,tp 24,tp 25,tp 26,tp 27,fp 12,fp 15,fp 28,tp 29,tp 30],[0,1,3,7,0,0,32,96,224,480,992,0,2048,0,0,32767,0,65536,196608,458752,0,1048576,3145728,7340032,0,16777216,50331648,117440512,268435455,536870911,1073741823],none),(7,[tp 0,tp 1,tp 2,tp 3,tp 4,tp 5,tp 6,tp 7,tp 8,tp 9,tp 10,tp 11,tp 12,tp 13,tp 14,tp 15,tp 16,fp 17,tp 18,tp 19,fp 20,tp 21],[0,1,3,7,0,16,48,112,0,256,768,1792,0,4096,12288,28672,0,131071,262143,262143,1048575,2097151],none)]),
 (47,[(4,[tp 0,tp 1,tp 2,tp 3,tp 4,tp 5,tp 6,tp 7],[0,0,2,6,1,17,63,127],none),(5,[tp 0,tp 1,tp 2,tp 3,tp 4,tp 5,tp 6,tp 7,tp 8,tp 9,tp 10,tp 11,tp 12,fp 13,fp 14,tp 15,tp 16,fp 17],[0,0,2,6,14,0,32,96,0,256,768,1792,4064,8160,16382,32767,65535,131071],none),(6,[tp 0,tp 1,tp 2,tp 3,tp 4,fp 5,fp 6,fp 7,tp 8,fp 9],[0,0,2,6,0,16,48,126,255,511],none)]),
 (48,[(4,[tp 0,tp 1,tp 2,tp 3,tp 4,tp 5,tp 6,tp 7],[0,1,0,4,12,28,63,127],none),(7,[tp 0,tp 1,tp 2,tp 3,tp 4,tp 5,tp 6,tp 7,tp 8,tp 9,tp 10,tp 11,tp 12],[0,1,0,0,8,24,4,68,252,508,1020,2047,4095],none),(15,[tp 0,tp 1,tp 2,tp 3,tp 4,tp 5,tp 6,tp 7,tp 8,tp 9,tp 10,tp 11,fp 12],[0,0,2,6,1,17,63,127,255,1,513,2047,4095],none),(16,[tp 0,tp 1,tp 2,tp 4,tp 5,tp 6,tp 7,tp 8,fp 3,fp 9,fp 10,tp 11,tp 12],[0,1,3,7,0,0,0,0,128,463,1023,2047,4095],none)]),
 (49,[(1,[tp 0,tp 1,tp 2,tp 3,fp 4,tp 5,tp 6,tp 7,tp 8,tp 9,tp 10,tp 11,tp 12,tp 13,tp 14,tp 15,tp 16,tp 17,tp 18,tp 19,tp 20,tp 21],[0,1,3,7,15,31,63,127,255,511,255,1279,3327,7423,16383,32767,65535,131071,262143,524287,1048575,2097151],none)]),
 (50,[(1,[tp 0,tp 1,tp 2,tp 3,tp 4,tp 5,tp 6,tp 7,tp 8,tp 9,tp 10,tp 11,tp 12,tp 13,tp 14,tp 15,tp 16,tp 17,tp 18,tp 19,tp 20,tp 21,tp 22,tp 23,tp 24,tp 25,tp 26,tp 27,tp 28,tp 29],[0,1,3,7,15,31,63,127,255,511,1023,2047,4095,8191,16383,32767,65535,131071,262143,524287,1048575,2097151,524287,8388607,16777215,524287,34078719,101187583,268435455,536870911],none)]),
 (52,[(14,[tp 0,tp 1,tp 2,tp 4,tp 5,tp 6,fp 3,fp 7,tp 8],[0,0,2,7,0,16,48,127,255],none)]),
 (62,[(2,[tp 0,tp 2,fp 1,fp 3,fp 4,fp 5],[0,1,0,7,15,31],none)]),
 (64,[(2,[tp 0,tp 1,tp 2,tp 4,tp 5,tp 6,fp 3,fp 7,tp 8],[0,0,2,7,0,16,48,127,255],none)]),
 (66,[(5,[tp 0,tp 1,tp 2,tp 3,tp 4,tp 5,tp 6,tp 7,tp 8,tp 9],[0,0,2,6,0,16,48,126,255,511],none)]),
 (67,[(1,[tp 0,tp 1,tp 3,fp 2,fp 4,fp 5,fp 6],[0,1,3,0,15,31,63],none)]),
 (70,[(5,[tp 0,tp 1,tp 2,tp 3,tp 4,fp 5],[0,0,2,6,14,31],none)]),
 (73,[(7,[tp 0,tp 1,tp 2,tp 3,tp 4,tp 5,tp 6,tp 7,tp 8],[0,0,2,6,1,17,63,127,255],none),(11,[tp 0,tp 1,tp 2,tp 3,tp 4,tp 5,tp 6,tp 7,tp 8,tp 9,tp 10,tp 11,tp 12,tp 13,tp 14,tp 15,tp 16,tp 17,fp 18,tp 19,tp 20],[0,1,0,4,15,31,63,127,255,511,1023,1023,3071,8191,16383,32767,1023,66559,262143,524287,1048575],none),(14,[tp 0,tp 1,tp 2,fp 3,fp 4,tp 5],[0,1,0,4,15,31],none)]),
 (80,[(4,[tp 0,tp 1,tp 2,tp 3,tp 4,tp 5,tp 6,tp 7,tp 8,tp 9,tp 10,fp 11,tp 12,tp 13],[0,0,2,6,14,30,63,0,128,384,896,2047,4095,8191],none)]),
 (82,[(1,[tp 0,tp 1,tp 2,tp 3,tp 4,tp 5,tp 6,tp 7,fp 8,tp 9,tp 10,tp 11,fp 12,fp 13,tp 14],[0,1,3,7,0,16,0,64,255,511,1023,1023,0,6143,16383],some 12)]),
 (83,[(3,[tp 0,tp 1,tp 2,tp 3,tp 4,tp 5,tp 6,tp 7,fp 8,tp 9],[0,1,3,7,0,16,48,112,255,511],none)]),
 (85,[(4,[tp 0,tp 1,tp 2,tp 3,tp 4,tp 5,tp 6,tp 7,tp 8,tp 9,tp 10,tp 11,tp 12,tp 13],[0,0,2,6,14,31,0,0,128,384,896,1984,63,8191],none),(5,[tp 0,tp 1,tp 2,tp 3,tp 4,tp 5,fp 6,tp 7,tp 8,fp 9],[0,0,0,0,5,21,53,127,255,511],none),(8,[tp 0,tp 1,tp 2,tp 3,fp 4,tp 5,tp 6,fp 7],[0,0,1,5,13,31,63,127],none),(15,[tp 0,tp 1,tp 2,tp 3,tp 4,tp 5,tp 6],[0,0,2,6,14,31,63],none)]),
 (93,[(1,[tp 0,tp 1,tp 2,tp 3,tp 4,tp 5,tp 6,tp 7,tp 8,tp 9,tp 10,tp 11,tp 12,tp 13,tp 14,tp 15,tp 16,tp 17,tp 18,tp 19,tp 20,tp 21,tp 22,tp 23,tp 24,tp 25,tp 26,tp 27,tp 28,tp 29],[0,1,3,7,15,31,63,127,255,511,1023,2047,4095,8191,16383,32767,65535,131071,262143,524287,1048575,2097151,524287,8388607,16777215,524287,34078719,101187583,268435455,536870911],none)]),
 (98,[(1,[tp 0,tp 2,fp 1,fp 3,tp 4,tp 5,tp 6,tp 7,tp 8,tp 9],[0,1,0,7,15,31,63,127,255,511],none)]),
 (101,[(7,[tp 0,tp 1,tp 2,tp 3,tp 4,tp 5,tp 6,tp 7],[0,1,3,0,8,24,56,127],none),(8,[tp 0,tp 1,tp 2,tp 3,tp 4,tp 5,tp 6,tp 7,tp 8,tp 9,tp 10,tp 11,fp 12,fp 13,fp 14,tp 15],[0,0,0,4,2,18,62,126,0,256,1022,2046,4094,8190,16383,32767],none)]),
 (114,[(2,[tp 0,tp 2,fp 1,fp 3,fp 4,fp 5],[0,1,0,7,15,31],none)]),
 (116,[(2,[tp 0,tp 1,tp 2,tp 4,tp 5,tp 6,fp 3,fp 7,tp 8],[0,0,2,7,0,16,48,127,255],none)]),
 (131,[(1,[tp 0,fp 1,tp 2,tp 3,tp 4,tp 5,tp 6,tp 7,tp 8,tp 9,tp 10,tp 11],[0,1,3,7,15,31,15,79,207,463,1023,2047],none)]),
 (132,[(1,[tp 0,fp 1,tp 2,tp 3,tp 4,tp 5,tp 6,tp 7,tp 9,tp 10,fp 8,fp 11,tp 12,tp 13],[0,1,3,7,15,7,39,7,135,7,519,2047,4095,8191],none)]),
 (140,[(0,[tp 0,tp 1,tp 2,tp 3,tp 4,tp 5,tp 6,tp 7,tp 8,tp 9,fp 10,tp 11,tp 12,fp 13],[0,0,0,0,8,24,56,124,121,377,889,2047,4095,8191],none)]),
 (148,[(1,[tp 1,tp 2,fp 0,tp 3,tp 4,tp 5,tp 6,fp 7,fp 8,tp 9],[0,0,2,7,15,31,31,0,191,511],some 7),(5,[tp 0,tp 1,tp 2,tp 3,tp 4,fp 5,fp 6,fp 7],[0,1,0,4,0,28,60,127],none)]),
 (153,[(1,[tp 0,tp 1,tp 2,tp 3,tp 4,tp 5,fp 6,tp 7,fp 8],[0,1,3,0,8,24,0,71,255],none),(3,[tp 0,tp 1,tp 3,tp 4,fp 2,tp 5,tp 6,tp 7,tp 8,tp 9,tp 10,tp 11,fp 12,tp 13,tp 14,tp 15,tp 16,tp 17,tp 18,tp 19,tp 20,tp 21,tp 22,tp 23,tp 24,tp 25,tp 26,tp 27,tp 28,tp 29,fp 30,tp 31,tp 32],[0,0,3,0,8,31,63,127,255,511,1023,2047,4095,8191,16383,32767,65535,131071,262143,524287,65535,1114111,65535,4259839,15794175,33554431,67108863,134217727,268435455,268435455,1073741823,2147483647,4294967295],none),(6,[tp 0,tp 1,tp 2,tp 3,tp 4,tp 5,tp 6,fp 7,fp 8,tp 9,tp 10,fp 11],[0,0,2,6,14,0,32,96,254,511,1023,2047],none)]),
 (170,[(5,[tp 0,tp 1,tp 2,tp 3,tp 4,tp 5,tp 6,tp 7,tp 8,tp 9,tp 10,tp 11,tp 12,tp 13,tp 14,tp 15,tp 16,tp 17,tp 18,tp 19,tp 20,tp 21,tp 22,tp 23,tp 24,tp 25,tp 26,tp 27,tp 28,tp 29,tp 30,fp 31],[0,0,2,6,14,30,62,0,128,384,896,1920,3968,8064,16382,0,32768,98304,229376,491520,1015808,2064384,4194302,0,8388608,25165824,58720256,125829120,260046848,536870910,1073741823,2147483647],none),(9,[tp 0,tp 1,tp 2,tp 3,tp 5,tp 6,tp 7,tp 8,tp 11,tp 12,tp 13,tp 14,tp 15,fp 4,fp 9,tp 10,tp 16,tp 17],[0,1,3,7,15,0,32,96,224,511,1023,0,2048,6144,14336,30720,65535,131071],none),(10,[tp 0,tp 1,tp 2,tp 3,tp 5,tp 6,tp 7,tp 8,tp 11,tp 12,tp 13,tp 14,tp 15,fp 4,fp 9,tp 10,tp 16,tp 17],[0,1,3,7,15,0,32,96,224,511,1023,0,2048,6144,14336,30720,65535,131071],none),(11,[tp 0,tp 1,tp 2,tp 3,tp 4,tp 5,tp 6,tp 7,tp 8,tp 9,tp 10,tp 11,tp 12,tp 13,tp 14,fp 15],[0,0,2,6,14,0,62,0,128,384,896,2046,0,8190,16383,32767],none),(19,[tp 0,tp 1,tp 2,tp 4,tp 7,tp 11,tp 12,tp 13,tp 14,tp 15,tp 16,tp 17,tp 18,tp 19,tp 20,tp 22,tp 23,tp 24,tp 26,tp 27,tp 28,fp 3,fp 5,tp 6,fp 8,tp 9,tp 10,tp 21,tp 25,tp 29,tp 30],[0,1,0,4,0,28,60,0,188,508,1023,0,0,4096,14336,0,32768,0,131072,491520,1046528,2097151,0,4194304,12582912,33554431,0,67108864,201326592,536870911,1073741823],none),(20,[tp 0,tp 2,tp 5,tp 8,tp 9,tp 10,tp 11,tp 12,tp 13,tp 14,tp 15,tp 16,tp 17,tp 18,tp 19,tp 20,tp 21,tp 22,fp 1,fp 3,tp 4,fp 6,tp 7,tp 23,tp 24],[0,1,0,7,15,0,47,127,0,0,512,1792,0,0,8192,28672,65280,0,131072,0,524288,1966080,4194048,8388607,16777215],none),(25,[tp 0,tp 1,tp 2,tp 3,tp 4,tp 5,tp 6,tp 7,tp 8,fp 9],[0,0,2,6,0,16,48,126,255,511],none)]),
 (193,[(1,[tp 0,fp 1,tp 2,tp 3,fp 4,tp 5,tp 6,tp 7,tp 8,tp 9,tp 10,tp 11,tp 12,tp 13,tp 14,tp 15,fp 16,fp 17,tp 18,tp 19],[0,1,3,7,15,31,63,127,255,511,1023,2047,4095,4095,4095,4095,61439,131071,262143,524287],none)]),
 (194,[(7,[tp 1,tp 2,tp 3,tp 6,tp 7,tp 8,tp 9,tp 12,tp 13,fp 0,tp 4,tp 5,fp 10,fp 11,fp 14,tp 15],[0,0,2,6,15,31,0,0,128,384,896,1985,0,4096,16383,32767],some 10)]),
 (201,[(1,[tp 0,tp 1,tp 2,tp 3,tp 4,tp 5,tp 6,tp 7,tp 8,tp 9,tp 10,tp 11,tp 12,tp 13,tp 14,tp 15,tp 16,tp 17,tp 18,tp 19,tp 20,fp 21,tp 22],[0,1,3,7,15,0,32,96,224,0,512,1536,3584,8160,16352,32736,65504,131040,262112,524256,1048544,32767,4194303],none)]),
 (202,[(8,[tp 0,tp 1,tp 2,tp 3,tp 4,tp 5,tp 6,tp 7,tp 8,tp 9,tp 10,tp 11,tp 12,tp 13,tp 14,tp 15,tp 16,fp 17,tp 18,tp 19,tp 20,tp 21,tp 22,tp 23,tp 24,tp 25,tp 26,tp 27,tp 28,fp 29,tp 30],[0,1,3,7,0,31,0,64,192,448,960,1984,4032,4032,12224,28608,61376,131008,262080,524224,1048512,2097088,1048512,5242816,13631424,30408640,63963072,134217664,268435392,1048575,1073741823],none)]),
 (204,[(6,[tp 0,fp 1,tp 2,tp 3,tp 4,tp 5,tp 6,tp 7,tp 8,tp 9,tp 10,tp 11,tp 12,tp 13,tp 14,fp 15,tp 16,tp 17],[0,1,3,7,15,31,63,7,135,391,903,7,2055,7,8199,32767,65535,131071],none),(7,[tp 0,tp 1,tp 2,tp 3,tp 4,tp 5,fp 6,tp 7],[0,1,3,7,0,31,63,127],none)]),
 (205,[(1,[tp 0,tp 1,tp 2,tp 3,tp 4,tp 5,tp 6,tp 7,fp 8,tp 9,tp 10,tp 11,tp 12,tp 13],[0,1,3,7,0,16,48,112,255,511,1023,1023,2047,8191],none),(2,[tp 0,tp 1,tp 2,tp 3,tp 4,tp 5,tp 6,tp 7,tp 8,tp 9,tp 10,tp 11,tp 12,tp 13,tp 14,tp 15,tp 16,tp 17,tp 18,tp 19,tp 20,fp 21,tp 22,tp 23,tp 24,tp 25,tp 26,tp 27,tp 28,tp 29,tp 30,tp 31,tp 32,fp 33,tp 34],[0,1,3,7,0,16,48,112,240,496,1023,0,2048,6144,14336,30720,63488,63488,194560,456704,980992,2095104,4192256,8386560,16775168,33552384,67106816,134215680,268433408,33552384,570423296,2147481600,4294965248,33554431,17179869183],none)]),
 (219,[(1,[tp 0,tp 1,tp 2,tp 3,tp 4,tp 5,fp 6,fp 7,tp 8,tp 9,fp 10],[0,0,2,6,14,0,32,126,255,511,1023],none),(2,[tp 0,tp 1,tp 2,tp 3,tp 4,tp 5,tp 6,tp 7,tp 8,fp 9],[0,1,3,7,0,16,0,64,240,511],none)]),
 (230,[(3,[tp 0,tp 1,tp 2,tp 3,tp 4,tp 5,tp 6,tp 7,tp 8,fp 9,tp 10],[0,1,3,0,8,24,56,127,0,511,1023],none),(7,[tp 0,tp 1,tp 2,tp 3,tp 4,tp 5,tp 6,tp 7,tp 8,tp 9,fp 10,tp 11,tp 12,fp 13,tp 14,tp 15,fp 16],[0,0,0,4,12,28,0,64,192,448,1020,2045,4093,8189,16383,32767,65535],none)]),
 (242,[(4,[tp 0,tp 1,tp 2,tp 3,tp 4,tp 5,tp 6,tp 7,tp 8,tp 9,tp 10,tp 11,tp 12,fp 13,tp 14],[0,0,3,7,15,15,63,127,15,15,527,1807,3855,8191,16383],none)]),
 (254,[(1,[tp 0,tp 1,tp 2,tp 3,tp 4,tp 5,tp 6,tp 7,tp 8,tp 9,tp 10,tp 11,tp 12,tp 13,tp 14],[0,0,2,6,14,30,63,127,255,0,512,1536,3584,8191,16383],none)]),
 (261,[(1,[tp 0,tp 1,tp 2,tp 4,tp 5,tp 7,tp 8,tp 9,fp 3,fp 6,fp 10,tp 11],[0,0,2,7,0,16,63,0,128,384,1023,2047],none)]),
 (276,[(1,[tp 0,tp 1,fp 2,fp 3],[0,0,2,7],none)]),
 (281,[(1,[tp 0,tp 1,tp 2,tp 3,tp 4,tp 5,tp 6,tp 7,tp 8,tp 9,tp 10,tp 11,tp 12],[0,1,3,7,0,16,48,112,240,496,1023,2047,4095],none)]),
 (285,[(1,[tp 0,tp 1,tp 2,tp 3,tp 4,tp 5,tp 6,tp 7,tp 8,tp 9,tp 10,tp 11,tp 12,tp 13,tp 14,tp 15,tp 16,tp 17,tp 18,tp 19,tp 20,tp 21,tp 22,tp 23],[0,1,0,4,0,16,0,64,0,256,0,1024,0,4096,0,16384,3,65551,196671,459007,984063,2035711,4145151,8388607],none),(5,[tp 0,tp 1,tp 3,tp 6,tp 10,tp 11,tp 12,tp 13,tp 14,tp 15,tp 16,tp 17,tp 19,tp 20,tp 21,tp 23,fp 2,fp 4,tp 5,fp 7,tp 8,tp 9,tp 18,tp 22,tp 24,tp 25],[0,0,2,0,14,30,0,94,254,511,0,0,3072,0,8192,0,57344,130048,262143,0,524288,1572864,4194303,0,16777215,33554431],none)]),
 (309,[(4,[tp 0,tp 1,tp 2,tp 3,tp 4,tp 5,tp 6,tp 7,tp 8,tp 9,tp 10,tp 11,tp 12,tp 13,fp 14,tp 15,tp 16],[0,0,3,7,15,15,15,111,239,15,15,1039,3599,7695,16383,32767,65535],none)]),
 (324,[(13,[tp 0,tp 1,tp 2,tp 3,tp 4,tp 5,tp 6,tp 7,tp 8,tp 9],[0,1,3,7,0,16,48,112,15,511],none),(14,[tp 0,tp 1,tp 2,tp 3,tp 4,tp 5,tp 7,tp 10,tp 11,tp 14,tp 15,tp 16,tp 17,tp 19,tp 21,tp 24,tp 25,fp 6,fp 8,tp 9,tp 12,tp 13,tp 18,fp 20,fp 22,tp 23,tp 26,tp 27,tp 28,fp 29],[0,0,2,6,14,0,32,0,224,480,0,1024,4064,8190,0,16384,49152,114688,262142,0,524768,0,3670496,7864800,0,16777216,66585056,134217726,268435455,536870911],none)]),
 (394,[(0,[tp 0,tp 1,tp 2,tp 3,tp 4,tp 5,fp 6,fp 7,tp 8,fp 9],[0,0,2,6,0,16,48,126,255,511],none)]),
 (395,[(0,[tp 0,tp 1,tp 2,tp 3,tp 4,tp 5,tp 6,tp 7,tp 8,tp 9,tp 10,tp 11,tp 12,fp 13,tp 14,fp 15],[0,0,0,0,0,0,48,112,0,0,768,1792,4083,8179,16383,32767],none)])]
def aO:Ord:=λf id=>match look f Nz with
 | some l=>look id l
 | none=>none
def okF (fn:Func) (l:List (Nat×DP)):Bool:=match fn.body with
 | some b=>(mF b).all λx=>match look x.1 l with
  | some p=>qj x.2 p.2.1 (qC p)
  | none=>true
 | none=>true
theorem Oh:(Nz.all λe=>match Tryz.prog.funcs[e.1]? with
 | some fn=>okF fn e.2
 | none=>true)=true:=zk
theorem fS:∀ g fn b,Tryz.prog.funcs[g]?=some fn->fn.body=some b->Ef aO g b:=by
 intro g fn b hf hb x hx p hp
 unfold aO at hp
 split at hp
 ·rename_i l hl
  have h1:=List.all_eq_true.1 Oh (g,l) (Ez hl)
  simp only [hf] at h1
  unfold okF at h1
  rw [hb] at h1
  have h2:=List.all_eq_true.1 h1 x hx
  rw [hp] at h2
  exact h2
 ·cases hp
theorem mix:Tryz.prog.follows .mixedOrders=true:=zk
noncomputable def X0:eY:=λg=>bif Nat.beq g 234 then some (wP 1) else none
theorem HJ {G:Nat->Option (List Value)}:fC Tryz.prog G X0:=by
 intro g f h avs m r m' ν vs w w0 L hf _ hv hs
 unfold X0 at h
 cases hb:Nat.beq g 234 with
 | false=>rw [hb] at h;cases h
 | true =>
  rw [hb] at h
  have:=Nat.eq_of_beq_eq_true hb
  subst this
  simp only [cond_true,Option.some.injEq] at h
  subst h
  exact MF hf hv hs
noncomputable abbrev run0 (n:Nat) (X:eY):Rec:=exec Tryz.prog (λ_=>none) aO X n
noncomputable def ML:List (Nat×AV)->AE
 | []=>.nil
 | (k,x)::l=>(ML l).set k (some x)
theorem AD {ν:Nu}{N:Nat}{S:Env}{a:Act}(hf:Fits ⟨N,[],none⟩ S a):∀ (l:List (Nat×AV)),(∀ p∈l,∃ v,p.2.val ν=some v/\S.get p.1=some v)->bP [] ν N (ML l) a
 | [],_=>⟨hf.defers,hf.size,λk x h=>by cases h⟩
 | (k,x)::l,h=>by
  have ih:=AD hf l λp hp=>h p (List.mem_cons_of_mem _ hp)
  refine⟨hf.defers,hf.size,λj y hy=>?_⟩
  simp only [ML] at hy
  rw [Tr.iB] at hy
  split at hy
  ·rename_i e
   subst e
   cases hy
   obtain⟨v,h1,h2⟩:=h (j,x) (List.mem_cons_self ..)
   exact⟨v,h1,hf.get h2⟩
  ·exact ih.at_ j y hy
def shaTab:List Int:=[1116352408,1899447441,3049323471,3921009573,961987163,1508970993,2453635748,2870763221,3624381080,310598401,607225278,1426881987,1925078388,2162078206,2614888103,3248222580,3835390401,4022224774,264347078,604807628,770255983,1249150122,1555081692,1996064986,2554220882,2821834349,2952996808,3210313671,3336571891,3584528711,113926993,338241895,666307205,773529912,1294757372,1396182291,1695183700,1986661051,2177026350,2456956037,2730485921,2820302411,3259730800,3345764771,3516065817,3600352804,4094571909,275423344,430227734,506948616,659060556,883997877,958139571,1322822218,1537002063,1747873779,1955562222,2024104815,2227730452,2361852424,2428436474,2756734187,3204031479,3329325298]
def tabG:Nat->Option (List Value):=λg=>bif Nat.beq g 1 then some (shaTab.map λz=>Value.int .u32 z) else none
theorem glob_of {W : World} (h : Lib.TabIs Tryz.prog W "ratchet/sha.table" .u32 shaTab) : Glob tabG W := by
 intro g vs hg i hi
 unfold tabG at hg
 cases hb:Nat.beq g 1 with
 | false=>rw [hb] at hg;cases hg
 | true =>
  rw [hb] at hg
  have:=Nat.eq_of_beq_eq_true hb
  subst this
  simp only [cond_true,Option.some.injEq] at hg
  subst hg
  have hi2:i<shaTab.length:=by simpa using hi
  rw [h.cell zk i hi2,List.getElem?_map,List.getD_eq_getElem?_getD,List.getElem?_eq_getElem hi2]
  rfl
theorem LJ {W:World}(h:Glob tabG W){L:List bA}(hb:AQ W∈L):nO tabG W L:=by
 intro ν m w hs g vs hg i hi
 have h1:=h g vs hg i hi
 have h2:∀ k,k<W.heap.size->w.heap[k]?=W.heap[k]?:=hs.holds _ (List.mem_cons_of_mem _ hb)
 have h3:W.cell? ⟨g,i,none⟩=some vs[i]:=by rw [h1,List.getElem?_eq_getElem hi]
 have hlt:g<W.heap.size:=by
  cases hx:W.heap[g]? with
  | none=>simp [World.cell?,hx] at h3
  | some o=>exact(Array.getElem?_eq_some_iff.1 hx).1
 rw [<- h1]
 simp only [World.cell?,h2 g hlt]
theorem EA {X:eY}(hX:fC Tryz.prog tabG X) (n:Nat){f:FuncId}(hen:enters Tryz.prog f=true){avs:List AV}{vs:List Value}{r:AV}{v:Value}(h:(lC Tryz.prog tabG X (exec Tryz.prog tabG aO X n) f avs ⟨.nil,0⟩).map (·.1)=some r)
 (hv:bF (λ_=>none) avs=some vs) (hr:r.val (λ_=>none)=some v){w w0:World}{L:List bA}(hG:nO tabG w0 L) (hs:St w0 L w):Calls Tryz.prog f vs.toArray w (eD λrv w'=>rv=v/\St w0 L w'):=by
 cases hc:lC Tryz.prog tabG X (exec Tryz.prog tabG aO X n) f avs ⟨.nil,0⟩ with
 | none=>rw [hc] at h;cases h
 | some q =>
  obtain⟨r',m'⟩:=q
  rw [hc] at h
  simp only [Option.map_some,Option.some.injEq] at h
  subst h
  refine Calls.ret (mc hX fS mix n hen hc hG hv (Ev.St.start hs)) ?_
  rintro v' w' ⟨ν',k1,k2,k3⟩
  rw [AV.eL k1 _ hr] at k2
  cases k2
  exact⟨rfl,k3.tail⟩
def w8 (l:List Nat):AV:=.agg (l.map (AV.num .u32))
def Jz (l:List Nat):AV:=.agg (l.map (AV.num .u8))
def mh (g:FuncId) (e:List AV×AV):Prop:=(lC Tryz.prog tabG X0 (uL Tryz.prog tabG aO X0 100000) g e.1 ⟨.nil,0⟩).map (·.1)=some e.2/\(bF (λ_=>none) e.1).isSome=true/\(e.2.val (λ_=>none)).isSome=true
def HK (ax:List AV):List (List AV×AV)->Option AV
 | []=>none
 | e::l=>bif sameAs ax e.1 then some e.2 else HK ax l
theorem AF {ax:List AV}{r:AV}:∀ {l:List (List AV×AV)},HK ax l=some r->(ax,r)∈l
 | e::l,h=>by
  simp only [HK] at h
  cases hb:sameAs ax e.1 with
  | true =>
   rw [hb] at h
   simp only [cond_true,Option.some.injEq] at h
   rw [lb hb,<- h]
   exact List.mem_cons_self ..
  | false=>rw [hb] at h;exact List.mem_cons_of_mem _ (AF h)
theorem LK {g:FuncId}(hen:enters Tryz.prog g=true){e:List AV×AV}(hk:mh g e){ν:Nu}{m:AM}{vs:List Value}{w w0:World}{L:List bA}(hG:nO tabG w0 L) (hv:bF ν e.1=some vs) (hs:St w0 (Mem ν m::L) w) :
 Calls Tryz.prog g vs.toArray w (eD λv w'=>∃ ν',ν.le ν'/\e.2.val ν'=some v/\St w0 (Mem ν' m::L) w'):=by
 obtain⟨h1,h2,h3⟩:=hk
 rw [mL] at h1
 have hle:Nu.le (λ_=>none) ν:=λid p hp=>by cases hp
 cases hc:bF (λ_=>none) e.1 with
 | none=>rw [hc] at h2;cases h2
 | some vs0 =>
  have:=dX hle _ hc
  rw [hv] at this
  cases this
  cases hr:e.2.val (λ_=>none) with
  | none=>rw [hr] at h3;cases h3
  | some v0 =>
   refine Calls.ret (EA HJ 100000 hen h1 hc hr (hG.frame _) hs) ?_
   rintro v w' ⟨rfl,k2⟩
   exact⟨ν,Nu.le_refl ν,AV.eL hle _ hr,k2⟩
def b8 (l:List Nat):List AV:=l.map (AV.num .u8)
def z8 (n:Nat):List AV:=List.replicate n (AV.num .u8 0)
def rp (n:Nat) (a:AV):List AV:=List.replicate n a
def ap (a b:List AV):List AV:=a++b
end Go.Proofs.YthfpmlpoiocfdaaGreatDoor
namespace Go.Ev
open Go.Sx
set_option linter.unusedVariables false
set_option linter.unusedSimpArgs false
section
variable {P : Program} {G : Nat -> Option (List Value)} {ν ν' : Nu} {m m1 m2 m3 : AM} {w w0 : World} {L : List bA}
theorem MM {id k:Nat}{b:eK}(h:(m.del id).get k=some b):k≠id/\m.get k=some b:=by
 rw [vd] at h
 split at h
 ·cases h
 ·rename_i e;exact⟨e,h⟩
theorem St.aside {id:Nat}{cN:eK}(hs:St w0 (Mem ν m::L) w) (hg:m.get id=some cN):St w0 (Mem ν ⟨Tr.nil.set id (some cN),m.next⟩::Mem ν (m.del id)::L) w:=by
 have one:∀ k b,(⟨Tr.nil.set id (some cN),m.next⟩:AM).get k=some b->k=id/\b=cN:=by
  intro k b h
  have h':(Tr.nil.set id (some cN)).get k=some b:=h
  rw [Tr.iB] at h'
  split at h'
  ·rename_i e;cases h';exact⟨e,rfl⟩
  ·cases h'
 refine St.split hs (λk b h=>?_) rfl (λk b h=>?_) rfl
 ·obtain⟨rfl,rfl⟩:=one k b h
  exact hg
 ·obtain⟨h1,h2⟩:=MM h
  refine⟨h2,?_⟩
  cases hx:(⟨Tr.nil.set id (some cN),m.next⟩:AM).get k with
  | none=>rfl
  | some b'=>exact absurd (one k b' hx).1 h1
theorem St.xF {id:Nat}{cs:List AV}{us:List Value}{p:Nat×Nat}(hs:St w0 (Mem ν m::L) w) (hg:m.get id=some (.cells cs)) (hu:bF ν cs=some us) (hp:ν id=some p):∃ T,St w0 (Mem ν (m.del id)::aB p.1 us.toArray T::L) w:=by
 have hs2:=St.aside hs hg
 have hg2:(⟨Tr.nil.set id (some (.cells cs)),m.next⟩:AM).get id=some (.cells cs):=by
  show(Tr.nil.set id _).get id=_
  exact Tr.fK _ _ _
 obtain⟨p',o,h1,h2,vs,T,fr,h3,h4,h5⟩:=(dD hs2).at_ id _ hg2
 rw [hp] at h1
 cases h1
 rw [hu] at h3
 cases h3
 subst h4
 exact⟨T,(St.conv (A':=aB p.1 us.toArray T) hs2 (λ_=>⟨fr,h2,by simpa using h5⟩) (λb' hb'=>⟨id,_,p,hg2,hp,(show b'=p.1 from hb').symm⟩)).perm (List.Perm.swap _ _ _)⟩
theorem St.LL {id clk:Nat}{es:List (Value×AV×Nat)}{l:List MapEntry}{p:Nat×Nat}(hs:St w0 (Mem ν m::L) w) (hg:m.get id=some (.map es clk)) (hu:cX ν es=some l) (hp:ν id=some p):St w0 (Mem ν (m.del id)::Go.Sx.eK p.1 (.map l.toArray clk)::L) w:=by
 have hs2:=St.aside hs hg
 have hg2:(⟨Tr.nil.set id (some (.map es clk)),m.next⟩:AM).get id=some (.map es clk):=by
  show(Tr.nil.set id _).get id=_
  exact Tr.fK _ _ _
 obtain⟨p',o,h1,h2,l',h3,h4⟩:=(dD hs2).at_ id _ hg2
 rw [hp] at h1
 cases h1
 rw [hu] at h3
 cases h3
 subst h4
 exact(St.conv (A':=Go.Sx.eK p.1 (.map l.toArray clk)) hs2 (λ_=>h2) (λb' hb'=>⟨id,_,p,hg2,hp,(show b'=p.1 from hb').symm⟩)).perm (List.Perm.swap _ _ _)
variable {aO : Ord} {X : eY}
end
section
variable {P : Program} {ν : Nu} {m : AM} {w w0 : World} {L : List bA}
theorem St.Ca {id:Nat}{cs:List AV}{us:List Value}{p:Nat×Nat}{T:TypeId}(hs:St w0 (aB p.1 us.toArray T::Mem ν m::L) w) (hu:bF ν cs=some us) (hp:ν id=some p):St w0 (Mem ν (m.set id (.cells cs))::L) w:=by
 have hm:Rt ν m w:=hs.holds _ (List.mem_cons_of_mem _ (List.mem_cons_self ..))
 have one:∀ k b,(⟨Tr.nil.set id (some (.cells cs)),m.next⟩:AM).get k=some b->k=id/\b=.cells cs:=by
  intro k b h
  have h':(Tr.nil.set id (some (eK.cells cs))).get k=some b:=h
  rw [Tr.iB] at h'
  split at h'
  ·rename_i e;cases h';exact⟨e,rfl⟩
  ·cases h'
 have h1:St w0 (Mem ν ⟨Tr.nil.set id (some (.cells cs)),m.next⟩::Mem ν m::L) w:=by
  refine St.conv hs (λhc=>⟨λk hk=>hm.fresh k hk,λk b h=>?_,λk k' b b' q q' h h' _ _ _=>?_⟩) ?_
  ·obtain⟨rfl,rfl⟩:=one k b h
   obtain⟨fr,h1,h2⟩:=hc
   exact⟨p,_,hp,h1,us,T,fr,hu,rfl,by simpa using h2⟩
  ·rw [(one k b h).1,(one k' b' h').1]
  ·rintro b' ⟨k,b,q,h,hq,rfl⟩
   obtain⟨rfl,rfl⟩:=one k b h
   rw [hp] at hq
   cases hq
   exact rfl
 refine St.join h1 (Nu.le_refl ν) (λk b h=>?_) rfl
 have h':(m.bl.set id (some (eK.cells cs))).get k=some b:=h
 rw [Tr.iB] at h'
 split at h'
 ·rename_i e
  left
  subst e
  show(Tr.nil.set k _).get k=_
  rw [Tr.fK]
  exact h'
 ·exact .inr h'
theorem St.HM {α β:Type} [DecidableEq α] (ek:α->Value) (ev:β->Value){b clk:Nat}(hs:St w0 (Go.Sx.eK b (.map #[] clk)::L) w):St w0 (bR ek ev b []::L) w :=
 St.conv hs (λh=>⟨[],clk,h,rfl,λy hy=>absurd hy List.not_mem_nil,List.nodup_nil,List.nodup_nil⟩) (λb' hb'=>hb')
end
end Go.Ev
