/-
  ArchivePlays returns true for every input: the row, and its tied card. Conditions: none beside the row's own list of laid variables.
-/
import Derived.Test.YtkmhmeldgfpfeaaGreatDoorSxT
import Derived.Test.YtkmhmeldgfpfeaaGreatDoorRows
import Derived.Test.YtkmhmeldgfpfeaaGreatDoorCards
import Derived.Test.YtkmhmeldgfpfeaaGreatDoorTie
import Derived.Test.YtkmhmeldgfpfeaaGreatDoorGaE
import Derived.WalkKit
import Derived.ProofKit
import Derived.OpenShut
import Derived.Deep.DeepHandedRow
import Derived.Lib.LaidTab
import Derived.Stop.LaidErr
namespace Go.Proofs.YtkmhmeldgfpfeaaGreatDoor.archivePlays
open Go.ChangeShapes Go.WideShapes Go.ChangeAt Go.RowKit Go.Sx
open Go.ChangeMaps (open_string shut_string)
set_option linter.unusedVariables false
set_option linter.unusedSimpArgs false
theorem own:ownKnob Tryz.prog.godebug=none:=zk
theorem laidOut:laidOutB Tryz.prog=true:=zk
theorem star : "*" ++ "errors.errorString" = "*errors.errorString" := by decide
theorem row297 (u : TypeId) (h : Tryz.prog.typeName? 3 u = some "*errors.errorString") : u = 297 :=
 typeName_ptr_named (nm := "errors.errorString") (by rw [star]; kernel_rfl) zk zf u (by rw [star]; exact h)
theorem M7 {W:World}(h0:laidMetH Tryz.prog Rows.archivePlaysRow.laid W):Laid W:=by
 have h:laidMet Tryz.prog Rows.archivePlaysRow.laid W:=h0
 obtain⟨a0,s0,e0,-⟩:=laid_sentinel (g:=4) h.tail.tail.tail.tail zk zk Tryz.underlying272 row297 Tryz.underlying297 Tryz.underlying299 rfl rfl Tryz.underlying9 zk zk
 obtain⟨a1,s1,e1,-⟩:=laid_sentinel (g:=3) h.tail.tail.tail.tail.tail zk zk Tryz.underlying272 row297 Tryz.underlying297 Tryz.underlying299 rfl rfl Tryz.underlying9 zk zk
 have ht : Lib.TabIs Tryz.prog W "internal/strconv.uint64pow10" .u64 Lib.pow10Tab := Lib.tabIs_of_head (g := 2) zk zk Tryz.underlying290 Tryz.underlying29 zk zk (h.tail.tail)
 exact⟨ht,⟨_,_,e1⟩,⟨_,_,e0⟩⟩
theorem M8 {W:World}(h0:laidMetH Tryz.prog Rows.archivePlaysRow.laid W):jX W:=by
 have h:laidMet Tryz.prog Rows.archivePlaysRow.laid W:=h0
 have ht : Lib.TabIs Tryz.prog W "ratchet/sha.table" .u32 shaT := Lib.tabIs_of_head (g := 0) (t := 198) (e := 146) (n := 64) zk zk zk zk zk zk (h.tail.tail.tail)
 exact λ_=>⟨0,0,rfl,λk hk j hj=>by
  have hj0:j=0:=za
  subst hj0
  have hk2:k<shaT.length:=by rw [uX];exact hk
  rw [show 0+k*1+0=k by omega,ht.cell zk k hk2]
  rfl⟩
def FM:Array Value:=#[.int .i64 0,.slice none 0 0,.slice none 0 0,.slice none 0 0,.int .u8 0,.slice none 0 0]
noncomputable def uN (os:Os):World :=
 let N:=(World.settled Tryz.prog os).heap.size
 let w0:=World.holding Tryz.prog os ⟨#[.cells #[.string ⟨#[118,97,108,117,101,32,111,117,116,32,111,102,32,114,97,110,103,101]⟩] 299,.cells #[.string ⟨#[105,110,118,97,108,105,100,32,115,121,110,116,97,120]⟩] 299],#[],[]⟩
 let put (h:Array Obj) (g:Nat) (cs:Array Value):Array Obj:=h.modify g fun
  | .cells _ t frozen=>.cells cs t frozen
  | o=>o
 let tab (d:DataW Unit):Array Value:=match d with | .agg l=>(l.map λ| .lit (.int k z)=>Value.int k z|_=>.int .u8 0).toArray|_=>#[]
 let h0:=put (put w0.heap 4 #[.iface 297 (zP N 0)]) 3 #[.iface 297 (zP (N+1) 0)]
 let h1:=put h0 2 (tab Rows.laid_internal_strconv_uint64pow10)
 let h2:=put h1 5 (tab Rows.laid_math_bits_deBruijn32tab)
 let h3:=put h2 6 (tab Rows.laid_math_bits_deBruijn64tab)
 let h4:=put h3 0 (tab Rows.laid_ratchet_sha_table)
 { w0 with heap:=h4 }
theorem JK (os:Os):laidMet Tryz.prog Rows.archivePlaysRow.laid ((uN os).forCall (λ_ _=>0) ⟨#[],FM,[]⟩).memory :=
 laidMet_of_run' 8 zk zk
theorem reads (os:Os){H:Type}(enc:TypeId×Value->H):∃ places,DataW.whole enc Tryz.prog ((uN os).forCall (λ_ _=>0) ⟨#[],FM,[]⟩).memory Tryz.f3.params.toList Rows.archivePlaysSpec.vars false FM.toList 8=some ([.lit (.int .i64 0),.nil,.nil,.nil,.lit (.int .u8 0),.nil],[],places) :=
 ⟨[],zk⟩
set_option maxRecDepth 100000 in
theorem JL (H:Type) (enc:TypeId×Value->H) (W:World) (base:Nat) (args:Array Value) (ds gs:List (DataW H)) (before:List MemPlace)
 (hval:∀ (j:Nat) t v,Tryz.f3.params[j]?=some t->args[j]?=some v->Value.okWide Tryz.prog W .any base t v)
 (hW:DataW.Whole enc Tryz.prog Tryz.f3.params.toList Rows.archivePlaysSpec.vars false W args.toList ds gs before)
 (hsz:(DataW.weightsEach Tryz.prog (Tryz.f3.params.toList++[]) (ds++gs)).all (·<=reachBytes)=true) (hL:laidMetH Tryz.prog Rows.archivePlaysRow.laid W) :
 Calls Tryz.prog 3 args W λe W'=>∃ v,e=.returned v/\Rows.archivePlaysSpec.post enc Tryz.prog Tryz.f3 false true false false W args v W':=by
 have hW':=hW
 obtain⟨p,q,hA0,hV,rfl,hfz,hnd⟩:=hW
 have hA:DataW.TrodAll enc Tryz.prog W 0 (λ_=>true) true Tryz.f3.params.toList args.toList ds p:=hA0
 rw [Tryz.params3] at hA hval hsz
 obtain⟨v0,vs0,d0,ds0,p0,q0,hargs,rfl,rfl,h0,r0⟩:=trodAll_cons hA
 obtain⟨v1,vs1,d1,ds1,p1,q1,rfl,rfl,rfl,h1,r1⟩:=trodAll_cons r0
 obtain⟨v2,vs2,d2,ds2,p2,q2,rfl,rfl,rfl,h2,r2⟩:=trodAll_cons r1
 obtain⟨v3,vs3,d3,ds3,p3,q3,rfl,rfl,rfl,h3,r3⟩:=trodAll_cons r2
 obtain⟨v4,vs4,d4,ds4,p4,q4,rfl,rfl,rfl,h4,r4⟩:=trodAll_cons r3
 obtain⟨v5,vs5,d5,ds5,p5,q5,rfl,rfl,rfl,h5,r5⟩:=trodAll_cons r4
 obtain⟨rfl,rfl,rfl⟩:=trodAll_nil r5
 obtain rfl:args=#[v0,v1,v2,v3,v4,v5]:=by cases args;simp_all
 obtain⟨rfl,rfl⟩:=trodVars_none hV
 have k0:=h0
 have lt0:∀ x∈p0,x.block<W.heap.size:=by obtain⟨m,hm⟩:=k0;exact DataW.trod_lt m _ _ _ hm
 obtain⟨x0,rfl,-,-,w0⟩:=open_int Tryz.underlying3 (hval 0 3 v0 rfl rfl) h0
 have aO:=wf_i64 w0
 have k1:=h1
 have lt1:∀ x∈p1,x.block<W.heap.size:=by obtain⟨m,hm⟩:=k1;exact DataW.trod_lt m _ _ _ hm
 obtain⟨ad1,len1,c1,rfl⟩:=okWide_slice Tryz.underlying22 (hval 1 22 v1 rfl rfl)
 obtain⟨cap1,mx1,nn1,wl1,cell1,hr1,hf1⟩:=qv (m:=8) (ks:=bE.kinds) Tryz.underlying22 zk zk zf k1
 have by1:Tryz.prog.bytesOf 46=128:=zk
 have ln1:len1*128<=140737488351232:=by
  rcases wl1 with h|⟨q,hq1,hq2⟩
  ·omega
  ·have h2:=rm hsz (j:=1) rfl rfl hq1
   rw [by1] at hq2;omega
 obtain⟨l1,hl1,ok1,rw1⟩:=kG iH (f:=bE.cells) bE.OK hr1 (λk hk=>bE.of (hf1 k hk).1 (λs hs=>rm hsz (j:=1) rfl rfl ((hf1 k hk).2 s hs)))
 subst hl1
 have k2:=h2
 have lt2:∀ x∈p2,x.block<W.heap.size:=by obtain⟨m,hm⟩:=k2;exact DataW.trod_lt m _ _ _ hm
 obtain⟨ad2,len2,c2,rfl⟩:=okWide_slice Tryz.underlying23 (hval 2 23 v2 rfl rfl)
 obtain⟨cap2,mx2,nn2,wl2,cell2,hr2,hf2⟩:=qv (m:=8) (ks:=vB.kinds) Tryz.underlying23 zk zk zf k2
 have by2:Tryz.prog.bytesOf 77=3:=zk
 have ln2:len2*3<=140737488351232:=by
  rcases wl2 with h|⟨q,hq1,hq2⟩
  ·omega
  ·have h2:=rm hsz (j:=2) rfl rfl hq1
   rw [by2] at hq2;omega
 obtain⟨l2,hl2,ok2,rw2⟩:=kG cR (f:=vB.cells) vB.OK hr2 (λk hk=>vB.of (hf2 k hk).1 (λs hs=>rm hsz (j:=2) rfl rfl ((hf2 k hk).2 s hs)))
 subst hl2
 have k3:=h3
 have lt3:∀ x∈p3,x.block<W.heap.size:=by obtain⟨m,hm⟩:=k3;exact DataW.trod_lt m _ _ _ hm
 obtain⟨ad3,len3,c3,rfl⟩:=okWide_slice Tryz.underlying24 (hval 3 24 v3 rfl rfl)
 obtain⟨l3,rfl,hm3,rw3⟩:=K4 h3
 have k4:=h4
 have lt4:∀ x∈p4,x.block<W.heap.size:=by obtain⟨m,hm⟩:=k4;exact DataW.trod_lt m _ _ _ hm
 obtain⟨x4,rfl,-,-,w4⟩:=open_int Tryz.underlying5 (hval 4 5 v4 rfl rfl) h4
 have ok4:=wf_u8 w4
 have k5:=h5
 have lt5:∀ x∈p5,x.block<W.heap.size:=by obtain⟨m,hm⟩:=k5;exact DataW.trod_lt m _ _ _ hm
 obtain⟨ad5,len5,c5,rfl⟩:=okWide_slice Tryz.underlying25 (hval 5 25 v5 rfl rfl)
 obtain⟨l5,rfl,hc5,hb5,rw5⟩:=JJ h5
 clear hA0
 refine(Calls.law (EM W (M7 hL) (M8 hL) aO ok4 l1 l2 l3 l5 ok1 za ok2 hm3 (xO Tryz.underlying24 (hval 3 24 _ rfl rfl)) hc5 (xO Tryz.underlying25 (hval 5 25 _ rfl rfl)) hb5 rw1 rw2 rw3 rw5)).mono λe W' ⟨he,bel⟩=>?_
 subst he
 exact⟨_,rfl,_,_,_,[],_,[],hW',trodAll_mk1 (shut_bool Tryz.underlying4 _),trodAll_cons_mk (Below.trod laidOut zk (of_decide_eq_true zk) k0 bel lt0) (trodAll_cons_mk (Below.trod laidOut zk (of_decide_eq_true zk) k1 bel lt1) (trodAll_cons_mk (Below.trod laidOut zk (of_decide_eq_true zk) k2 bel lt2) (trodAll_cons_mk (Below.trod laidOut zk (of_decide_eq_true zk) k3 bel lt3) (trodAll_cons_mk (Below.trod laidOut zk (of_decide_eq_true zk) k4 bel lt4) (trodAll_cons_mk (Below.trod laidOut zk (of_decide_eq_true zk) k5 bel lt5) trodAll_mk0))))),rfl,bel.frame _,λh=>by cases h⟩
set_option maxRecDepth 100000 in
theorem lifted (os:Os) (started:os.Started) (H:Type) (enc:TypeId×Value->H) (F:Stop.Interp) :
 ReturnsInHanded {} Tryz.checked os 3 .any ((OpenSpec.ofChange Rows.archivePlaysSpec).preRow enc Tryz.prog Tryz.f3 Rows.archivePlaysRow.domain false Rows.archivePlaysRow.laid) (((OpenSpec.ofChange Rows.archivePlaysSpec).at F).post enc Tryz.prog Tryz.f3 false true false false):=by
 obtain⟨places,hx⟩:=reads os enc
 refine returnsInHanded_of_row (C:=Tryz.checked) (s:=OpenSpec.ofChange Rows.archivePlaysSpec) own started zk Tryz.func3
  (witness_row_at (enc:=enc) (C:=Tryz.checked) false (uN os) FM rfl zk zk zk
   (OpenSpec.preRow_of_cond 8 hx zk (λk hk=>by cases hk) zk (JK os))) ?_
 intro W base args ds gs before hval hW _ _ hsz hL _ _
 exact JL H enc W base args ds gs before hval hW hsz hL
theorem Hs {P:Program}(h:P.funcs.toList.any Func.goes=false) (f:FuncId):P.goes f=false:=by
 have h':P.funcs.any Func.goes=false:=by rw [<- Array.any_toList];exact h
 have hc:((P.closure f).any λg=>(P.funcs[g]?).any Func.goes)=false:=by
  rw [Bool.eq_false_iff]
  intro ht
  obtain⟨g,-,hg⟩:=List.any_eq_true.1 ht
  cases he:P.funcs[g]? with
  | none=>rw [he] at hg;cases hg
  | some fn =>
   rw [he] at hg
   have hm:fn∈P.funcs.toList:=by simpa using Array.mem_of_getElem? he
   have:P.funcs.toList.any Func.goes=true:=List.any_eq_true.2 ⟨fn,hm,hg⟩
   rw [h] at this
   cases this
 unfold Program.goes
 rw [hc,h',Bool.and_false,Bool.or_false]
theorem C8 {P:Program}{c:OpenClaim}(h:P.funcs.toList.any Func.goes=false) (hs:c.start=.entering):false=c.goesBy P:=by
 unfold OpenClaim.goesBy Program.goesAt Program.goesFrom
 rw [hs,Bool.or_false]
 cases he:P.funcNamed c.func with
 | none=>rfl
 | some f=>exact(Hs h f).symm
theorem q1:laidOutB Tryz.pinned.checked.prog=true:=zk
theorem q2:mapsRowed Tryz.pinned.checked.prog=true:=zk
theorem q3:(Rows.archivePlaysRow.inPlace == Tryz.pinned.checked.prog.inPlace 3)=true:=zk
theorem q4:(Rows.archivePlaysRow.unfollowed == Tryz.pinned.checked.prog.unfollowed 3)=true:=zk
theorem q5:(Rows.archivePlaysRow.recurses == Tryz.pinned.checked.prog.recurses 3)=true:=zk
theorem q6:(Rows.archivePlaysRow.named == Tryz.pinned.checked.prog.varsNamed 3)=true:=zk
theorem q7:(Rows.archivePlaysRow.plainKeys == Tryz.pinned.checked.prog.plainKeys)=true:=zk
theorem q8:Tryz.pinned.checked.prog.mayEnter=true:=zk
theorem q9:(Rows.archivePlaysRow.lifted == Tryz.pinned.checked.prog.liftsFinal)=true:=zk
theorem N5:(Tryz.pinned.checked.prog.make == some Rows.archivePlaysRow.make)=true:=zk
theorem N6:Tryz.pinned.checked.prog.stopsHeard=true:=zk
theorem facts:joinedFacts Tryz.pinned.checked.prog 3 Tryz.f3 (OpenSpec.ofChange Rows.archivePlaysSpec).bare Rows.archivePlaysRow=true:=by
 unfold joinedFacts
 simp only [Bool.and_eq_true]
 repeat' apply And.intro
 all_goals first
  | with_reducible exact q1
  | with_reducible exact q2
  | with_reducible exact q3
  | with_reducible exact q4
  | with_reducible exact q5
  | with_reducible exact q6
  | with_reducible exact q7
  | with_reducible exact q8
  | with_reducible exact q9
  | with_reducible exact N5
  | with_reducible exact N6
  | kernel_rfl
theorem Mw:Tryz.pinned.checked.prog.funcNamed Rows.archivePlaysRow.func=some 3:=zk
theorem inst_:Tryz.f3.isInstance Tryz.pinned.checked.prog Rows.archivePlaysRow.origin Rows.archivePlaysRow.targs:=of_decide_eq_true zk
theorem M9:Tryz.f3.isWrapper Tryz.pinned.checked.prog Rows.archivePlaysRow.wrapper Rows.archivePlaysRow.mainSum:=by unfold Func.isWrapper;first|(rw [if_pos (by decide +kernel)];kernel_rfl)|(rw [if_neg (by decide +kernel)];exact⟨rfl,rfl⟩)
theorem said:Rows.ArchivePlaysSaid :=
 OpenClaim.holds_of_cond 3 Tryz.f3 rfl rfl rfl rfl rfl rfl rfl ⟨rfl,rfl,rfl,rfl,rfl⟩ rfl rfl rfl rfl rfl Mw Tryz.func3 facts
  inst_ M9
  (λos started H enc _ F=>by rw [OpenClaim.pre_eq_preRow];exact lifted os started H enc F)
theorem plain (f : FuncId) (fn : Func) (hf : Tryz.pinned.checked.prog.funcNamed "ratchet/ratchetlaw32.ArchivePlays" = some f) (hfn : Tryz.pinned.checked.prog.funcs[f]? = some fn) :
 true=Tryz.pinned.checked.prog.looks []/\∀ (j:Nat) t,fn.params[j]?=some t->Tryz.pinned.checked.prog.wantsStandIn t=false:=by
 obtain rfl : f = 3 := Option.some.inj ((show Tryz.prog.funcNamed "ratchet/ratchetlaw32.ArchivePlays" = some 3 by kernel_rfl).symm.trans hf) |>.symm
 obtain rfl:fn=Tryz.f3:=(Option.some.inj (Tryz.func3.symm.trans hfn)).symm
 refine⟨zk,λj t ht=>?_⟩
 rw [Tryz.params3] at ht
 have hm:=Array.mem_of_getElem? ht
 simp only [List.mem_toArray,List.mem_cons,List.not_mem_nil,or_false] at hm
 rcases hm with rfl|rfl|rfl|rfl|rfl|rfl
 ·exact(show Tryz.prog.wantsStandIn 3=false by kernel_rfl)
 ·exact(show Tryz.prog.wantsStandIn 22=false by kernel_rfl)
 ·exact(show Tryz.prog.wantsStandIn 23=false by kernel_rfl)
 ·exact(show Tryz.prog.wantsStandIn 24=false by kernel_rfl)
 ·exact(show Tryz.prog.wantsStandIn 5=false by kernel_rfl)
 ·exact(show Tryz.prog.wantsStandIn 25=false by kernel_rfl)
theorem proved:Rows.ArchivePlaysCardSaid :=
 Claim7.holds_tied_plain_at .later [] _ _ _ _ said (λ_ h=>by cases h) zk (λ_ h=>by cases h) archivePlays_row_tie rfl ⟨rfl,rfl⟩ zk rfl plain (C8 zk rfl)
end Go.Proofs.YtkmhmeldgfpfeaaGreatDoor.archivePlays
