/-
  RunNil is true, whatever row comes: the walk. Conditions: the row is no longer than memory bears.
-/
import Derived.Test.YtdidpcdnbpmjkaaGreatDoorRnW
namespace Go.Proofs.YtdidpcdnbpmjkaaGreatDoor
open Go.RowKit Go.Sx Go.Ev
set_option linter.unusedVariables false
set_option linter.unusedSimpArgs false
set_option linter.unnecessarySimpa false
set_option maxRecDepth 100000
def X_runNil : Specs := fun g => bif Nat.beq g 5 then some (fun avs m => match avs with | [] => some (.bool true, m) | _ => none) else none
theorem X_runNil_ok : SpecsOK Tryz.prog (fun _ => none) X_runNil := by
  intro g f h avs m r m' ν vs w w0 L hf _ hv hs
  unfold X_runNil at h
  cases hb : Nat.beq g 5 with
  | false => rw [hb] at h; cases h
  | true =>
    rw [hb] at h
    have := Nat.eq_of_beq_eq_true hb
    subst this
    simp only [cond_true, Option.some.injEq] at h
    subst h
    simp only at hf
    split at hf
    · simp only [Option.some.injEq, Prod.mk.injEq] at hf
      obtain ⟨rfl, rfl⟩ := hf
      simp only [vals, Option.some.injEq] at hv
      subst hv
      refine Calls.ret (rnworks_spec hs) ?_
      rintro v w' ⟨rfl, h2⟩
      exact ⟨ν, Nu.le_refl ν, rfl, h2⟩
    · cases hf
theorem runNil_walk (W : World) (ad : Option Addr) (c : Nat) (l : List ReqV) (hok : ∀ q ∈ l, ReqV.OK q) (hln : l.length ≤ 1100000000000) (rw : RowsAt W ad l.length 40 (fun k => ReqV.cells (l.getD k dReq))) : Calls Tryz.prog 3 #[.slice ad l.length c] W (Ret fun rv w' => rv = .bool true ∧ Below W.heap.size W w') := by
  refine enter (args := [.slice ad l.length c]) Tryz.func3 rfl Tryz.ntmps3 (Nat.le_of_ble_eq_true (by kernel_rfl)) ?_
  refine GoC.slots (S' := [(0, .slice ad l.length c)]) rfl ?_
  refine GoC.seq ?_
  refine GoC.regT [1] (.rd 0 .done) (by kernel_rfl) (by kernel_rfl) ?_
  refine GoR.phaseK [(0, .gen [])] [2, 0] [] [(2, .bool false), (0, .slice ad l.length c)] (by kernel_rfl) rfl ak0 ?_
  refine GoR.done (GoQ.thn (GoC.seq (GoC.seq ?_)))
  refine GoC.regT [] (.rd 0 (.ef 1 (.rd 2 (.rd 3 (.rd 4 (.rd 5 (.rd 6 (.rd 7 .done)))))))) (by kernel_rfl) (by kernel_rfl) ?_
  refine GoR.phaseK [(0, .gen [])] [10, 2, 0] [] [(10, .slice ad l.length c), (2, .bool false), (0, .slice ad l.length c)] (by kernel_rfl) rfl ak0 ?_
  refine GoR.call rfl rfl (by kernel_rfl) (f := 4) (args := #[.slice ad l.length c]) (by kernel_rfl) Tryz.call4 (few10_spec l (fun q hq => (hok q hq).op.small) hln (fun w h => rw.base (fun k _ => (reqF).size _) h 0 rfl) (St.start W)) ?_
  rintro v10 w11 ⟨rfl, hs1⟩
  refine ⟨(opn (by kernel_rfl)), ?_⟩
  rcases Bool.eq_false_or_eq_true (few (l.map fun r => r.op)) with hfew | hfew
  · rw [hfew]
    refine GoR.phaseK [(2, .gen []), (3, .gen []), (4, .gen []), (5, .gen []), (6, .gen []), (7, .gen [])] [17, 2, 0] [] [(17, .bool (decide ((l.length : Int) > 20))), (2, .bool false), (0, .slice ad l.length c)] (by kernel_rfl) rfl ak0 ?_
    refine GoR.done (GoQ.thn ?_)
    refine GoC.cond (t := decide ((l.length : Int) > 20)) (by kernel_rfl) (fun h12 => ?_) (fun h12 => ?_)
    · refine GoC.seq ?_
      refine GoC.regT [3, 3] (.ef 0 (.rd 1 .done)) (by kernel_rfl) (by kernel_rfl) ?_
      refine GoR.call rfl rfl (by kernel_rfl) (f := 5) (args := #[]) (by kernel_rfl) Tryz.call5 (rnworks_spec hs1) ?_
      rintro v14 w15 ⟨rfl, hs13⟩
      refine ⟨(opn (by kernel_rfl)), ?_⟩
      refine GoR.phaseK [(1, .gen [])] [2] [] [(2, .bool true)] (by kernel_rfl) rfl ak0 ?_
      refine GoR.done (GoQ.thn (GoC.ret (GoQ.skipCR ?_)))
      refine GoQ.done (.inl rfl) (v := .bool true) (fun a hf => results1 rfl (by kernel_rfl) a hf) ?_
      exact ⟨rfl, hs13.below 0 rfl⟩
    · refine GoC.skip (GoQ.thn ?_)
      refine ev_rest (X := X_runNil) X_runNil_ok 100000 3 (fn := Tryz.f3) (t := 2) Tryz.func3 rfl (fun x hx => by revert hx; exact (fun h => h)) rfl (l := [(0, .flat (.slice ad l.length c)), (2, .bool false)]) (m := ⟨.nil, 0⟩) (v := .bool true) (r := .bool true) (by kernel_rfl) rfl (ν := fun _ => none) (fun p hp => ?_) (Ev.St.start hs1) (fun w' h => ⟨rfl, h.below 0 rfl⟩)
      simp only [List.mem_cons, List.not_mem_nil, or_false] at hp
      rcases hp with rfl | rfl
      · exact ⟨_, rfl, by kernel_rfl⟩
      · exact ⟨_, rfl, by kernel_rfl⟩
  · rw [hfew]
    refine GoR.phaseK [(2, .gen []), (3, .gen []), (4, .gen []), (5, .gen []), (6, .gen []), (7, .gen [])] [17] [] [(17, .bool true)] (by kernel_rfl) rfl ak0 ?_
    refine GoR.done (GoQ.thn ?_)
    refine GoC.condT (by kernel_rfl) ?_
    refine GoC.seq ?_
    refine GoC.regT [3, 3] (.ef 0 (.rd 1 .done)) (by kernel_rfl) (by kernel_rfl) ?_
    refine GoR.call rfl rfl (by kernel_rfl) (f := 5) (args := #[]) (by kernel_rfl) Tryz.call5 (rnworks_spec hs1) ?_
    rintro v14 w15 ⟨rfl, hs13⟩
    refine ⟨(opn (by kernel_rfl)), ?_⟩
    refine GoR.phaseK [(1, .gen [])] [2] [] [(2, .bool true)] (by kernel_rfl) rfl ak0 ?_
    refine GoR.done (GoQ.thn (GoC.ret (GoQ.skipCR ?_)))
    refine GoQ.done (.inl rfl) (v := .bool true) (fun a hf => results1 rfl (by kernel_rfl) a hf) ?_
    exact ⟨rfl, hs13.below 0 rfl⟩
end Go.Proofs.YtdidpcdnbpmjkaaGreatDoor
