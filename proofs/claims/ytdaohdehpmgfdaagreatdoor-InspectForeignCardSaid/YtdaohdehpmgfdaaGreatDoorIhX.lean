/-
  InspectForeign returns true for every input: the row, and its tied card. Conditions: none beside the row's own list of laid variables.
-/
import Derived.Test.YtdaohdehpmgfdaaGreatDoorSxT
import Derived.Test.YtdaohdehpmgfdaaGreatDoorRows
import Derived.Test.YtdaohdehpmgfdaaGreatDoorCards
import Derived.Test.YtdaohdehpmgfdaaGreatDoorTie
import Derived.Test.YtdaohdehpmgfdaaGreatDoorGaE
import Derived.WalkKit
import Derived.ProofKit
import Derived.OpenShut
import Derived.Deep.DeepHandedRow
import Derived.Lib.LaidTab
import Derived.Stop.LaidErr
namespace Go.Proofs.YtdaohdehpmgfdaaGreatDoor.inspectForeign
open Go.ChangeShapes Go.WideShapes Go.ChangeAt Go.RowKit Go.Sx
open Go.ChangeMaps (open_string shut_string)
set_option linter.unusedVariables false
set_option linter.unusedSimpArgs false
theorem own:ownKnob Tryz.prog.godebug=none:=zk
theorem laidOut:laidOutB Tryz.prog=true:=zk
theorem D7 {W:World}(h0:laidMetH Tryz.prog Rows.inspectForeignRow.laid W):cQ W:=by
 have h:laidMet Tryz.prog Rows.inspectForeignRow.laid W:=h0
 have ht : Lib.TabIs Tryz.prog W "ratchet/sha.table" .u32 shaT := Lib.tabIs_of_head (g := 0) (t := 318) (e := 296) (n := 64) zk zk zk zk zk zk (h)
 exact λ_=>⟨0,0,rfl,λk hk j hj=>by
  have hj0:j=0:=za
  subst hj0
  have hk2:k<shaT.length:=by rw [mB];exact hk
  rw [show 0+k*1+0=k by omega,ht.cell zk k hk2]
  rfl⟩
def xD:Array Value:=#[.slice none 0 0,.int .u8 0]
noncomputable def ml (os:Os):World :=
 let w0:=World.holding Tryz.prog os ⟨#[],#[],[]⟩
 let put (h:Array Obj) (g:Nat) (cs:Array Value):Array Obj:=h.modify g fun
  | .cells _ t frozen=>.cells cs t frozen
  | o=>o
 let EI (d:DataW Unit):Array Value:=match d with | .agg l=>(l.map λ| .lit (.int k z)=>Value.int k z|_=>.int .u8 0).toArray|_=>#[]
 { w0 with heap:=put w0.heap 0 (EI Rows.laid_ratchet_sha_table) }
theorem Bl (os:Os):laidMet Tryz.prog Rows.inspectForeignRow.laid ((ml os).forCall (λ_ _=>0) ⟨#[],xD,[]⟩).memory :=
 laidMet_of_run' 8 zk zk
theorem reads (os:Os){H:Type}(enc:TypeId×Value->H):∃ places,DataW.whole enc Tryz.prog ((ml os).forCall (λ_ _=>0) ⟨#[],xD,[]⟩).memory Tryz.f3.params.toList Rows.inspectForeignSpec.vars false xD.toList 8=some ([.nil,.lit (.int .u8 0)],[],places) :=
 ⟨[],zk⟩
set_option maxRecDepth 100000 in
theorem Bm (H:Type) (enc:TypeId×Value->H) (W:World) (base:Nat) (args:Array Value) (ds gs:List (DataW H)) (before:List MemPlace)
 (hval:∀ (j:Nat) t v,Tryz.f3.params[j]?=some t->args[j]?=some v->Value.okWide Tryz.prog W .any base t v)
 (hW:DataW.Whole enc Tryz.prog Tryz.f3.params.toList Rows.inspectForeignSpec.vars false W args.toList ds gs before)
 (hsz:(DataW.weightsEach Tryz.prog (Tryz.f3.params.toList++[]) (ds++gs)).all (·<=reachBytes)=true) (hL:laidMetH Tryz.prog Rows.inspectForeignRow.laid W) :
 Calls Tryz.prog 3 args W λe W'=>∃ v,e=.returned v/\Rows.inspectForeignSpec.post enc Tryz.prog Tryz.f3 false true false false W args v W':=by
 have hW':=hW
 obtain⟨p,q,hA0,hV,rfl,hfz,hnd⟩:=hW
 have hA:DataW.TrodAll enc Tryz.prog W 0 (λ_=>true) true Tryz.f3.params.toList args.toList ds p:=hA0
 rw [Tryz.params3] at hA hval hsz
 obtain⟨v0,vs0,d0,ds0,p0,q0,hargs,rfl,rfl,h0,r0⟩:=trodAll_cons hA
 obtain⟨v1,vs1,d1,ds1,p1,q1,rfl,rfl,rfl,h1,r1⟩:=trodAll_cons r0
 obtain⟨rfl,rfl,rfl⟩:=trodAll_nil r1
 obtain rfl:args=#[v0,v1]:=by cases args;simp_all
 obtain⟨rfl,rfl⟩:=trodVars_none hV
 have k0:=h0
 have lt0:∀ x∈p0,x.block<W.heap.size:=by obtain⟨m,hm⟩:=k0;exact DataW.trod_lt m _ _ _ hm
 obtain⟨ad0,len0,c0,rfl⟩:=okWide_slice Tryz.underlying22 (hval 0 22 v0 rfl rfl)
 obtain⟨l0,rfl,hm0,rw0⟩:=yZ h0
 have k1:=h1
 have lt1:∀ x∈p1,x.block<W.heap.size:=by obtain⟨m,hm⟩:=k1;exact DataW.trod_lt m _ _ _ hm
 obtain⟨x1,rfl,-,-,w1⟩:=open_int Tryz.underlying5 (hval 1 5 v1 rfl rfl) h1
 have ok1:=wf_u8 w1
 clear hA0
 refine(Calls.law (rX W (D7 hL) ok1 l0 hm0 rw0)).mono λe W' ⟨he,bel⟩=>?_
 subst he
 exact⟨_,rfl,_,_,_,[],_,[],hW',trodAll_mk1 (shut_bool Tryz.underlying4 _),trodAll_cons_mk (Below.trod laidOut zk (of_decide_eq_true zk) k0 bel lt0) (trodAll_cons_mk (Below.trod laidOut zk (of_decide_eq_true zk) k1 bel lt1) trodAll_mk0),rfl,bel.frame _,λh=>by cases h⟩
set_option maxRecDepth 100000 in
theorem lifted (os:Os) (started:os.Started) (H:Type) (enc:TypeId×Value->H) (F:Stop.Interp) :
 ReturnsInHanded {} Tryz.checked os 3 .any ((OpenSpec.ofChange Rows.inspectForeignSpec).preRow enc Tryz.prog Tryz.f3 Rows.inspectForeignRow.domain false Rows.inspectForeignRow.laid) (((OpenSpec.ofChange Rows.inspectForeignSpec).at F).post enc Tryz.prog Tryz.f3 false true false false):=by
 obtain⟨places,hx⟩:=reads os enc
 refine returnsInHanded_of_row (C:=Tryz.checked) (s:=OpenSpec.ofChange Rows.inspectForeignSpec) own started zk Tryz.func3
  (witness_row_at (enc:=enc) (C:=Tryz.checked) false (ml os) xD rfl zk zk zk
   (OpenSpec.preRow_of_cond 8 hx zk (λk hk=>by cases hk) zk (Bl os))) ?_
 intro W base args ds gs before hval hW _ _ hsz hL _ _
 exact Bm H enc W base args ds gs before hval hW hsz hL
theorem y0 {P:Program}(h:P.funcs.toList.any Func.goes=false) (f:FuncId):P.goes f=false:=by
 have h':P.funcs.any Func.goes=false:=by rw [<- Array.any_toList];exact h
 have hc:((P.closure f).any λg=>(P.funcs[g]?).any Func.goes)=false:=by
  rw [Bool.eq_false_iff]
  intro ht
  obtain⟨g,-,hg⟩:=List.any_eq_true.1 ht
  cases he:P.funcs[g]? with
  | none=>rw [he] at hg;cases hg
  | some fn =>
   rw [he] at hg
   have hm:fn∈P.funcs.toList:=by simpa using Array.mem_of_getElem? he
   have:P.funcs.toList.any Func.goes=true:=List.any_eq_true.2 ⟨fn,hm,hg⟩
   rw [h] at this
   cases this
 unfold Program.goes
 rw [hc,h',Bool.and_false,Bool.or_false]
theorem uj {P:Program}{c:OpenClaim}(h:P.funcs.toList.any Func.goes=false) (hs:c.start=.entering):false=c.goesBy P:=by
 unfold OpenClaim.goesBy Program.goesAt Program.goesFrom
 rw [hs,Bool.or_false]
 cases he:P.funcNamed c.func with
 | none=>rfl
 | some f=>exact(y0 h f).symm
theorem q1:laidOutB Tryz.pinned.checked.prog=true:=zk
theorem q2:mapsRowed Tryz.pinned.checked.prog=true:=zk
theorem q3:(Rows.inspectForeignRow.inPlace == Tryz.pinned.checked.prog.inPlace 3)=true:=zk
theorem q4:(Rows.inspectForeignRow.unfollowed == Tryz.pinned.checked.prog.unfollowed 3)=true:=zk
theorem q5:(Rows.inspectForeignRow.recurses == Tryz.pinned.checked.prog.recurses 3)=true:=zk
theorem q6:(Rows.inspectForeignRow.named == Tryz.pinned.checked.prog.varsNamed 3)=true:=zk
theorem q7:(Rows.inspectForeignRow.plainKeys == Tryz.pinned.checked.prog.plainKeys)=true:=zk
theorem q8:Tryz.pinned.checked.prog.mayEnter=true:=zk
theorem q9:(Rows.inspectForeignRow.lifted == Tryz.pinned.checked.prog.liftsFinal)=true:=zk
theorem C0:(Tryz.pinned.checked.prog.make == some Rows.inspectForeignRow.make)=true:=zk
theorem C1:Tryz.pinned.checked.prog.stopsHeard=true:=zk
theorem facts:joinedFacts Tryz.pinned.checked.prog 3 Tryz.f3 (OpenSpec.ofChange Rows.inspectForeignSpec).bare Rows.inspectForeignRow=true:=by
 unfold joinedFacts
 simp only [Bool.and_eq_true]
 repeat' apply And.intro
 all_goals first
  | with_reducible exact q1
  | with_reducible exact q2
  | with_reducible exact q3
  | with_reducible exact q4
  | with_reducible exact q5
  | with_reducible exact q6
  | with_reducible exact q7
  | with_reducible exact q8
  | with_reducible exact q9
  | with_reducible exact C0
  | with_reducible exact C1
  | kernel_rfl
theorem Dh:Tryz.pinned.checked.prog.funcNamed Rows.inspectForeignRow.func=some 3:=zk
theorem inst_:Tryz.f3.isInstance Tryz.pinned.checked.prog Rows.inspectForeignRow.origin Rows.inspectForeignRow.targs:=of_decide_eq_true zk
theorem D8:Tryz.f3.isWrapper Tryz.pinned.checked.prog Rows.inspectForeignRow.wrapper Rows.inspectForeignRow.mainSum:=by unfold Func.isWrapper;first|(rw [if_pos (by decide +kernel)];kernel_rfl)|(rw [if_neg (by decide +kernel)];exact⟨rfl,rfl⟩)
theorem said:Rows.InspectForeignSaid :=
 OpenClaim.holds_of_cond 3 Tryz.f3 rfl rfl rfl rfl rfl rfl rfl ⟨rfl,rfl,rfl,rfl,rfl⟩ rfl rfl rfl rfl rfl Dh Tryz.func3 facts
  inst_ D8
  (λos started H enc _ F=>by rw [OpenClaim.pre_eq_preRow];exact lifted os started H enc F)
theorem plain (f : FuncId) (fn : Func) (hf : Tryz.pinned.checked.prog.funcNamed "ratchet/ratchetlaw30.InspectForeign" = some f) (hfn : Tryz.pinned.checked.prog.funcs[f]? = some fn) :
 false=Tryz.pinned.checked.prog.looks []/\∀ (j:Nat) t,fn.params[j]?=some t->Tryz.pinned.checked.prog.wantsStandIn t=false:=by
 obtain rfl : f = 3 := Option.some.inj ((show Tryz.prog.funcNamed "ratchet/ratchetlaw30.InspectForeign" = some 3 by kernel_rfl).symm.trans hf) |>.symm
 obtain rfl:fn=Tryz.f3:=(Option.some.inj (Tryz.func3.symm.trans hfn)).symm
 refine⟨zk,λj t ht=>?_⟩
 rw [Tryz.params3] at ht
 have hm:=Array.mem_of_getElem? ht
 simp only [List.mem_toArray,List.mem_cons,List.not_mem_nil,or_false] at hm
 rcases hm with rfl|rfl
 ·exact(show Tryz.prog.wantsStandIn 22=false by kernel_rfl)
 ·exact(show Tryz.prog.wantsStandIn 5=false by kernel_rfl)
theorem proved:Rows.InspectForeignCardSaid :=
 Claim7.holds_tied_plain_at .later [] _ _ _ _ said (λ_ h=>by cases h) zk (λ_ h=>by cases h) inspectForeign_row_tie rfl ⟨rfl,rfl⟩ zk rfl plain (uj zk rfl)
end Go.Proofs.YtdaohdehpmgfdaaGreatDoor.inspectForeign
