/-
  ReplicaFalse returns true for every input: the row, and its tied card. Conditions: none beside the row's own list of laid variables.
-/
import Derived.Test.YthfpmlpoiocfdaaGreatDoorGdB
import Derived.Test.YthfpmlpoiocfdaaGreatDoorRqY
namespace Go.Proofs.YthfpmlpoiocfdaaGreatDoor.replicaFalse
open Go.ChangeShapes Go.WideShapes Go.ChangeAt Go.RowKit Go.Sx
open Go.ChangeMaps (open_string shut_string)
set_option linter.unusedVariables false
set_option linter.unusedSimpArgs false
theorem PK {W:World}(h0:laidMetH Tryz.prog Rows.replicaFalseRow.laid W):Ev.Glob tabG W/\kA W:=by
 have h:laidMet Tryz.prog Rows.replicaFalseRow.laid W:=h0
 replace h:=h.tail
 replace h:=h.tail
 replace h:=h.tail
 have ht1 : Lib.TabIs Tryz.prog W "ratchet/sha.table" .u32 shaTab := Lib.tabIs_of_head (g := 1) (t := 358) (e := 305) (n := 64) zk zk zk zk zk zk h
 have ht : Lib.TabIs Tryz.prog W "ratchet/sha.table" .u32 shaT := Lib.tabIs_of_head (g := 1) (t := 358) (e := 305) (n := 64) zk zk zk zk zk zk h
 exact⟨glob_of ht1,λ_=>⟨1,0,rfl,λk hk j hj=>by
  have hj0:j=0:=za
  subst hj0
  have hk2:k<shaT.length:=by rw [ud];exact hk
  rw [show 0+k*1+0=k by omega,ht.cell zk k hk2]
  rfl⟩⟩
set_option maxRecDepth 100000 in
theorem LX (H:Type) (enc:TypeId×Value->H) (W:World) (base:Nat) (args:Array Value) (ds gs:List (DataW H)) (before:List MemPlace)
 (hval:∀ (j:Nat) t v,Tryz.f3.params[j]?=some t->args[j]?=some v->Value.okWide Tryz.prog W .any base t v)
 (hW:DataW.Whole enc Tryz.prog Tryz.f3.params.toList Rows.replicaFalseSpec.vars false W args.toList ds gs before)
 (hsz:(DataW.weightsEach Tryz.prog (Tryz.f3.params.toList++[]) (ds++gs)).all (·<=reachBytes)=true) (hL:laidMetH Tryz.prog Rows.replicaFalseRow.laid W) :
 Calls Tryz.prog 3 args W λe W'=>∃ v,e=.returned v/\Rows.replicaFalseSpec.post enc Tryz.prog Tryz.f3 false true false false W args v W':=by
 have hW':=hW
 obtain⟨p,q,hA0,hV,rfl,hfz,hnd⟩:=hW
 have hA:DataW.TrodAll enc Tryz.prog W 0 (λ_=>true) true Tryz.f3.params.toList args.toList ds p:=hA0
 rw [Tryz.params3] at hA hval hsz
 obtain⟨v0,vs0,d0,ds0,p0,q0,hargs,rfl,rfl,h0,r0⟩:=trodAll_cons hA
 obtain⟨v1,vs1,d1,ds1,p1,q1,rfl,rfl,rfl,h1,r1⟩:=trodAll_cons r0
 obtain⟨v2,vs2,d2,ds2,p2,q2,rfl,rfl,rfl,h2,r2⟩:=trodAll_cons r1
 obtain⟨v3,vs3,d3,ds3,p3,q3,rfl,rfl,rfl,h3,r3⟩:=trodAll_cons r2
 obtain⟨v4,vs4,d4,ds4,p4,q4,rfl,rfl,rfl,h4,r4⟩:=trodAll_cons r3
 obtain⟨v5,vs5,d5,ds5,p5,q5,rfl,rfl,rfl,h5,r5⟩:=trodAll_cons r4
 obtain⟨rfl,rfl,rfl⟩:=trodAll_nil r5
 obtain rfl:args=#[v0,v1,v2,v3,v4,v5]:=by cases args;simp_all
 obtain⟨rfl,rfl⟩:=trodVars_none hV
 have k0:=h0
 have lt0:∀ x∈p0,x.block<W.heap.size:=by obtain⟨m,hm⟩:=k0;exact DataW.trod_lt m _ _ _ hm
 obtain⟨x0,rfl,-,-,w0⟩:=open_int Tryz.underlying5 (hval 0 5 v0 rfl rfl) h0
 have aR:=wf_u8 w0
 have k1:=h1
 have lt1:∀ x∈p1,x.block<W.heap.size:=by obtain⟨m,hm⟩:=k1;exact DataW.trod_lt m _ _ _ hm
 obtain⟨ad1,len1,c1,rfl⟩:=okWide_slice Tryz.underlying22 (hval 1 22 v1 rfl rfl)
 obtain⟨l1,rfl,hm1,rw1⟩:=Jo h1
 have k2:=h2
 have lt2:∀ x∈p2,x.block<W.heap.size:=by obtain⟨m,hm⟩:=k2;exact DataW.trod_lt m _ _ _ hm
 obtain⟨x2,rfl,-,-,w2⟩:=open_int Tryz.underlying5 (hval 2 5 v2 rfl rfl) h2
 have ok2:=wf_u8 w2
 have k3:=h3
 have lt3:∀ x∈p3,x.block<W.heap.size:=by obtain⟨m,hm⟩:=k3;exact DataW.trod_lt m _ _ _ hm
 obtain⟨x3,rfl,-,-,w3⟩:=open_int Tryz.underlying5 (hval 3 5 v3 rfl rfl) h3
 have ok3:=wf_u8 w3
 have k4:=h4
 have lt4:∀ x∈p4,x.block<W.heap.size:=by obtain⟨m,hm⟩:=k4;exact DataW.trod_lt m _ _ _ hm
 obtain⟨x4,rfl,-,-,w4⟩:=open_int Tryz.underlying5 (hval 4 5 v4 rfl rfl) h4
 have ok4:=wf_u8 w4
 have k5:=h5
 have lt5:∀ x∈p5,x.block<W.heap.size:=by obtain⟨m,hm⟩:=k5;exact DataW.trod_lt m _ _ _ hm
 obtain⟨x5,rfl,-,-,w5⟩:=open_int Tryz.underlying5 (hval 5 5 v5 rfl rfl) h5
 have ok5:=wf_u8 w5
 clear hA0
 refine(Calls.law (GB W (PK hL) aR ok2 ok3 ok4 ok5 l1 hm1 rw1)).mono λe W' ⟨he,bel⟩=>?_
 subst he
 exact⟨_,rfl,_,_,_,[],_,[],hW',trodAll_mk1 (shut_bool Tryz.underlying4 _),trodAll_cons_mk (Below.trod laidOut zk (of_decide_eq_true zk) k0 bel lt0) (trodAll_cons_mk (Below.trod laidOut zk (of_decide_eq_true zk) k1 bel lt1) (trodAll_cons_mk (Below.trod laidOut zk (of_decide_eq_true zk) k2 bel lt2) (trodAll_cons_mk (Below.trod laidOut zk (of_decide_eq_true zk) k3 bel lt3) (trodAll_cons_mk (Below.trod laidOut zk (of_decide_eq_true zk) k4 bel lt4) (trodAll_cons_mk (Below.trod laidOut zk (of_decide_eq_true zk) k5 bel lt5) trodAll_mk0))))),rfl,bel.frame _,λh=>by cases h⟩
set_option maxRecDepth 100000 in
theorem lifted (os:Os) (started:os.Started) (H:Type) (enc:TypeId×Value->H) (F:Stop.Interp) :
 ReturnsInHanded {} Tryz.checked os 3 .any ((OpenSpec.ofChange Rows.replicaFalseSpec).preRow enc Tryz.prog Tryz.f3 Rows.replicaFalseRow.domain false Rows.replicaFalseRow.laid) (((OpenSpec.ofChange Rows.replicaFalseSpec).at F).post enc Tryz.prog Tryz.f3 false true false false):=by
 obtain⟨places,hx⟩:=reads os enc
 refine returnsInHanded_of_row (C:=Tryz.checked) (s:=OpenSpec.ofChange Rows.replicaFalseSpec) own started zk Tryz.func3
  (witness_row_at (enc:=enc) (C:=Tryz.checked) false (tR os) HY rfl zk zk zk
   (OpenSpec.preRow_of_cond 8 hx zk (λk hk=>by cases hk) zk (LW os))) ?_
 intro W base args ds gs before hval hW _ _ hsz hL _ _
 exact LX H enc W base args ds gs before hval hW hsz hL
theorem said:Rows.ReplicaFalseSaid :=
 OpenClaim.holds_of_cond 3 Tryz.f3 rfl rfl rfl rfl rfl rfl rfl ⟨rfl,rfl,rfl,rfl,rfl⟩ rfl rfl rfl rfl rfl Ov Tryz.func3 facts
  inst_ PL
  (λos started H enc _ F=>by rw [OpenClaim.pre_eq_preRow];exact lifted os started H enc F)
theorem proved:Rows.ReplicaFalseCardSaid :=
 Claim7.holds_tied_plain_at .later [] _ _ _ _ said (λ_ h=>by cases h) zk (λ_ h=>by cases h) replicaFalse_row_tie rfl ⟨rfl,rfl⟩ zk rfl plain (EV zk rfl)
end Go.Proofs.YthfpmlpoiocfdaaGreatDoor.replicaFalse
