/-
  The law, whatever step comes. Conditions: what ratchet/sha.table holds.
-/
import Derived.Test.YtmeacpdadahafaaGreatDoorTrV
import Derived.Test.YtmeacpdadahafaaGreatDoorTrP
import Derived.Test.YtmeacpdadahafaaGreatDoorGaE
namespace Go.Proofs.YtmeacpdadahafaaGreatDoor
open Go.RowKit Go.Sx Go.Ev
set_option linter.unusedVariables false
set_option linter.unusedSimpArgs false
set_option linter.unnecessarySimpa false
set_option maxRecDepth 100000
def vOp (o:TOp):OpV:=⟨o.kd,o.ky,o.va,o.ol,o.tx,o.am⟩
def vBd (x:TBd):BdV:=⟨x.kd,x.vw,x.k,⟨x.rq.cl,x.rq.tm,vOp x.rq.op,x.rq.tg⟩,⟨x.qa,x.ql.length,x.qc⟩,x.dg⟩
def vMs (m:TMs):MsV:=⟨m.og,m.nr,m.dp,vBd m.bd,m.tg⟩
def vSt (s:TSt):ApV:=⟨s.dw,s.cl,s.wh,s.j,s.k,s.n,vOp s.op,vBd s.bd,⟨s.pk.fr,s.pk.tw,s.pk.kn⟩,s.tm,⟨s.re.er,s.re.vl⟩,s.at_,⟨s.pa,s.pl.length,s.pc⟩⟩
theorem fewV {w0 w:World}{L:List Asn}(s:TSt) (sz:∀ t,Value.string t∈(TSt.cells s).toList→t.size≤140737488351232) (hm:∀ w,St w0 L w→RowsAt w s.pk.ma s.pk.ml.length 121 (fun k=>TMs.cells (s.pk.ml.getD k dMs))) (hs:St w0 L w):Calls Tryz.prog 4 #[.agg (TSt.cells s)] w (Ret fun rv w'=>∃ b:Bool,rv=.bool b∧St w0 L w'):=by
 have e:(fun k=>MsV.cells ((s.pk.ml.map vMs).getD k pMs))=(fun k=>TMs.cells (s.pk.ml.getD k dMs)):=by
  funext k
  rw [List.getD_eq_getElem?_getD,List.getD_eq_getElem?_getD,List.getElem?_map]
  cases s.pk.ml[k]? <;> rfl
 have h:=fewSteps_spec (w0:=w0) (L:=L) (w:=w) (mad:=s.pk.ma) (mc:=s.pk.mc) (vSt s) (s.pk.ml.map vMs) (sz s.op.ky (by unfold TSt.cells;simp)) (sz s.op.va (by unfold TSt.cells;simp)) (sz s.op.ol (by unfold TSt.cells;simp)) (sz s.op.tx (by unfold TSt.cells;simp)) (sz s.bd.rq.op.ky (by unfold TSt.cells;simp)) (sz s.bd.rq.op.va (by unfold TSt.cells;simp)) (sz s.bd.rq.op.ol (by unfold TSt.cells;simp)) (sz s.bd.rq.op.tx (by unfold TSt.cells;simp)) (fun w h=>by rw [e,List.length_map];exact hm w h) hs
 rw [List.length_map] at h
 exact h
theorem traceBack_walk (W:World) (hW:Glob tabG W) (s:TSt) (hi:StIn W s) (sz:∀ t,Value.string t∈(TSt.cells s).toList→t.size≤140737488351232){cut:Int}(hc:0≤cut∧cut≤65535):Calls Tryz.prog 3 #[.agg (TSt.cells s),.int .u16 cut] W (Ret fun rv w'=>rv=.bool true∧Below W.heap.size W w'):=by
 obtain⟨k,rfl⟩:=Int.eq_ofNat_of_zero_le hc.1
 refine Calls.ret (law_spec (w0:=W) (L:=[Base W]) s k (by omega) hi.ok (fun k hk=>⟨(hi.ms _ (getD_mem (d:=dMs) hk)).1,fun w h=>(hi.ms _ (getD_mem (d:=dMs) hk)).2.base (fun k _=>dPrF.size _) h 0 rfl⟩) (fun M w h=>fewV s sz (fun w h=>hi.m.base (fun k _=>dMsF.size _) h M.length (by simp)) h) (fun M w h=>trworks_spec (gok_base hW (by simp)) h) (fun w h=>hi.q.base (fun k _=>dPrF.size _) h 0 rfl) (fun w h=>hi.m.base (fun k _=>dMsF.size _) h 0 rfl) (fun w h=>hi.p.base (fun k _=>rfl) h 0 rfl) (St.start W)) ?_
 rintro rv w' ⟨rfl,h⟩
 exact⟨rfl,h.below 0 rfl⟩
end Go.Proofs.YtmeacpdadahafaaGreatDoor
