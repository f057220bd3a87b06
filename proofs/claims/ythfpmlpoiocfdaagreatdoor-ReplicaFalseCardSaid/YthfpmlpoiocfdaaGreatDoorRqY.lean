/-
  ReplicaFalse returns true for every input: the row, and its tied card. Conditions: none beside the row's own list of laid variables.
-/
import Derived.Test.YthfpmlpoiocfdaaGreatDoorCards
import Derived.Test.YthfpmlpoiocfdaaGreatDoorTie
import Derived.WalkKit
import Derived.ProofKit
import Derived.OpenShut
import Derived.Deep.DeepHandedRow
import Derived.Lib.LaidTab
import Derived.Stop.LaidErr
namespace Go.Proofs.YthfpmlpoiocfdaaGreatDoor.replicaFalse
open Go.ChangeShapes Go.WideShapes Go.ChangeAt Go.RowKit
open Go.ChangeMaps (open_string shut_string)
set_option linter.unusedVariables false
set_option linter.unusedSimpArgs false
theorem own:ownKnob Tryz.prog.godebug=none:=by kernel_rfl
theorem laidOut:laidOutB Tryz.prog=true:=by kernel_rfl
def HY:Array Value:=#[.int .u8 0,.slice none 0 0,.int .u8 0,.int .u8 0,.int .u8 0,.int .u8 0]
noncomputable def tR (os:Os):World :=
 let N:=(World.settled Tryz.prog os).heap.size
 let w0:=World.holding Tryz.prog os ⟨#[.cells #[.string ⟨#[118,97,108,117,101,32,111,117,116,32,111,102,32,114,97,110,103,101]⟩] 466,.cells #[.string ⟨#[105,110,118,97,108,105,100,32,115,121,110,116,97,120]⟩] 466],#[],[]⟩
 let put (h:Array Obj) (g:Nat) (cs:Array Value):Array Obj:=h.modify g fun
  | .cells _ t frozen=>.cells cs t frozen
  | o=>o
 let xD (d:DataW Unit):Array Value:=match d with | .agg l=>(l.map λ| .lit (.int k z)=>Value.int k z|_=>.int .u8 0).toArray|_=>#[]
 let h0:=put (put w0.heap 4 #[.iface 464 (.pointer (some ⟨N,0,none⟩))]) 3 #[.iface 464 (.pointer (some ⟨N+1,0,none⟩))]
 let h1:=put h0 2 (xD Rows.laid_internal_strconv_uint64pow10)
 let h2:=put h1 5 (xD Rows.laid_math_bits_deBruijn32tab)
 let h3:=put h2 6 (xD Rows.laid_math_bits_deBruijn64tab)
 let h4:=put h3 1 (xD Rows.laid_ratchet_sha_table)
 { w0 with heap:=h4 }
theorem LW (os:Os):laidMet Tryz.prog Rows.replicaFalseRow.laid ((tR os).forCall (λ_ _=>0) ⟨#[],HY,[]⟩).memory :=
 laidMet_of_run' 8 (by kernel_rfl) (by kernel_rfl)
theorem reads (os:Os){H:Type}(enc:TypeId×Value->H):∃ places,DataW.whole enc Tryz.prog ((tR os).forCall (λ_ _=>0) ⟨#[],HY,[]⟩).memory Tryz.f3.params.toList Rows.replicaFalseSpec.vars false HY.toList 8=some ([.lit (.int .u8 0),.nil,.lit (.int .u8 0),.lit (.int .u8 0),.lit (.int .u8 0),.lit (.int .u8 0)],[],places) :=
 ⟨[],by kernel_rfl⟩
theorem Jp {P:Program}(h:P.funcs.toList.any Func.goes=false) (f:FuncId):P.goes f=false:=by
 have h':P.funcs.any Func.goes=false:=by rw [<- Array.any_toList];exact h
 have hc:((P.closure f).any λg=>(P.funcs[g]?).any Func.goes)=false:=by
  rw [Bool.eq_false_iff]
  intro ht
  obtain⟨g,-,hg⟩:=List.any_eq_true.1 ht
  cases he:P.funcs[g]? with
  | none=>rw [he] at hg;cases hg
  | some fn =>
   rw [he] at hg
   have hm:fn∈P.funcs.toList:=by simpa using Array.mem_of_getElem? he
   have:P.funcs.toList.any Func.goes=true:=List.any_eq_true.2 ⟨fn,hm,hg⟩
   rw [h] at this
   cases this
 unfold Program.goes
 rw [hc,h',Bool.and_false,Bool.or_false]
theorem EV {P:Program}{c:OpenClaim}(h:P.funcs.toList.any Func.goes=false) (hs:c.start=.entering):false=c.goesBy P:=by
 unfold OpenClaim.goesBy Program.goesAt Program.goesFrom
 rw [hs,Bool.or_false]
 cases he:P.funcNamed c.func with
 | none=>rfl
 | some f=>exact(Jp h f).symm
theorem q1:laidOutB Tryz.pinned.checked.prog=true:=by kernel_rfl
theorem q2:mapsRowed Tryz.pinned.checked.prog=true:=by kernel_rfl
theorem q3:(Rows.replicaFalseRow.inPlace == Tryz.pinned.checked.prog.inPlace 3)=true:=by kernel_rfl
theorem q4:(Rows.replicaFalseRow.unfollowed == Tryz.pinned.checked.prog.unfollowed 3)=true:=by kernel_rfl
theorem q5:(Rows.replicaFalseRow.recurses == Tryz.pinned.checked.prog.recurses 3)=true:=by kernel_rfl
theorem q6:(Rows.replicaFalseRow.named == Tryz.pinned.checked.prog.varsNamed 3)=true:=by kernel_rfl
theorem q7:(Rows.replicaFalseRow.plainKeys == Tryz.pinned.checked.prog.plainKeys)=true:=by kernel_rfl
theorem q8:Tryz.pinned.checked.prog.mayEnter=true:=by kernel_rfl
theorem q9:(Rows.replicaFalseRow.lifted == Tryz.pinned.checked.prog.liftsFinal)=true:=by kernel_rfl
theorem Rp:(Tryz.pinned.checked.prog.make == some Rows.replicaFalseRow.make)=true:=by kernel_rfl
theorem Rq:Tryz.pinned.checked.prog.stopsHeard=true:=by kernel_rfl
theorem facts:joinedFacts Tryz.pinned.checked.prog 3 Tryz.f3 (OpenSpec.ofChange Rows.replicaFalseSpec).bare Rows.replicaFalseRow=true:=by
 unfold joinedFacts
 simp only [Bool.and_eq_true]
 repeat' apply And.intro
 all_goals first
  | with_reducible exact q1
  | with_reducible exact q2
  | with_reducible exact q3
  | with_reducible exact q4
  | with_reducible exact q5
  | with_reducible exact q6
  | with_reducible exact q7
  | with_reducible exact q8
  | with_reducible exact q9
  | with_reducible exact Rp
  | with_reducible exact Rq
  | kernel_rfl
theorem Ov:Tryz.pinned.checked.prog.funcNamed Rows.replicaFalseRow.func=some 3:=by kernel_rfl
theorem inst_:Tryz.f3.isInstance Tryz.pinned.checked.prog Rows.replicaFalseRow.origin Rows.replicaFalseRow.targs:=of_decide_eq_true (by kernel_rfl)
theorem PL:Tryz.f3.isWrapper Tryz.pinned.checked.prog Rows.replicaFalseRow.wrapper Rows.replicaFalseRow.mainSum:=by unfold Func.isWrapper;first|(rw [if_pos (by decide +kernel)];kernel_rfl)|(rw [if_neg (by decide +kernel)];exact⟨rfl,rfl⟩)
theorem plain (f : FuncId) (fn : Func) (hf : Tryz.pinned.checked.prog.funcNamed "ratchet/ratchetlaw22.ReplicaFalse" = some f) (hfn : Tryz.pinned.checked.prog.funcs[f]? = some fn) :
 true=Tryz.pinned.checked.prog.looks []/\∀ (j:Nat) t,fn.params[j]?=some t->Tryz.pinned.checked.prog.wantsStandIn t=false:=by
 obtain rfl : f = 3 := Option.some.inj ((show Tryz.prog.funcNamed "ratchet/ratchetlaw22.ReplicaFalse" = some 3 by kernel_rfl).symm.trans hf) |>.symm
 obtain rfl:fn=Tryz.f3:=(Option.some.inj (Tryz.func3.symm.trans hfn)).symm
 refine⟨by kernel_rfl,λj t ht=>?_⟩
 rw [Tryz.params3] at ht
 have hm:=Array.mem_of_getElem? ht
 simp only [List.mem_toArray,List.mem_cons,List.not_mem_nil,or_false] at hm
 rcases hm with rfl|rfl|rfl|rfl|rfl|rfl
 ·exact(show Tryz.prog.wantsStandIn 5=false by kernel_rfl)
 ·exact(show Tryz.prog.wantsStandIn 22=false by kernel_rfl)
 ·exact(show Tryz.prog.wantsStandIn 5=false by kernel_rfl)
 ·exact(show Tryz.prog.wantsStandIn 5=false by kernel_rfl)
 ·exact(show Tryz.prog.wantsStandIn 5=false by kernel_rfl)
 ·exact(show Tryz.prog.wantsStandIn 5=false by kernel_rfl)
end Go.Proofs.YthfpmlpoiocfdaaGreatDoor.replicaFalse
