/-
  StateNil is true, whatever request comes: the walk. Conditions: the request's strings are no longer than memory bears.
-/
import Derived.Test.YtodiehhlhbmbaaaGreatDoorStW
namespace Go.Proofs.YtodiehhlhbmbaaaGreatDoor
open Go.RowKit Go.Sx Go.Ev
set_option linter.unusedVariables false
set_option linter.unusedSimpArgs false
set_option linter.unnecessarySimpa false
set_option maxRecDepth 100000
def X_stateNil : Specs := fun g => bif Nat.beq g 6 then some (fun avs m => match avs with | [] => some (.bool true, m) | _ => none) else none
theorem X_stateNil_ok : SpecsOK Tryz.prog (fun _ => none) X_stateNil := by
  intro g f h avs m r m' ν vs w w0 L hf _ hv hs
  unfold X_stateNil at h
  cases hb : Nat.beq g 6 with
  | false => rw [hb] at h; cases h
  | true =>
    rw [hb] at h
    have := Nat.eq_of_beq_eq_true hb
    subst this
    simp only [cond_true, Option.some.injEq] at h
    subst h
    simp only at hf
    split at hf
    · simp only [Option.some.injEq, Prod.mk.injEq] at hf
      obtain ⟨rfl, rfl⟩ := hf
      simp only [vals, Option.some.injEq] at hv
      subst hv
      refine Calls.ret (stworks_spec hs) ?_
      rintro v w' ⟨rfl, h2⟩
      exact ⟨ν, Nu.le_refl ν, rfl, h2⟩
    · cases hf
def reqA (r : ReqV) : List AV := [.flat (.int .i64 r.client), .flat (.int .u64 r.time), .flat (.int .u8 r.op.kind), .flat (.string r.op.key), .flat (.string r.op.value), .flat (.string r.op.old), .flat (.string r.op.dest), .flat (.int .u64 r.op.amount), .flat (.int .u8 r.tag[0]), .flat (.int .u8 r.tag[1]), .flat (.int .u8 r.tag[2]), .flat (.int .u8 r.tag[3]), .flat (.int .u8 r.tag[4]), .flat (.int .u8 r.tag[5]), .flat (.int .u8 r.tag[6]), .flat (.int .u8 r.tag[7]), .flat (.int .u8 r.tag[8]), .flat (.int .u8 r.tag[9]), .flat (.int .u8 r.tag[10]), .flat (.int .u8 r.tag[11]), .flat (.int .u8 r.tag[12]), .flat (.int .u8 r.tag[13]), .flat (.int .u8 r.tag[14]), .flat (.int .u8 r.tag[15]), .flat (.int .u8 r.tag[16]), .flat (.int .u8 r.tag[17]), .flat (.int .u8 r.tag[18]), .flat (.int .u8 r.tag[19]), .flat (.int .u8 r.tag[20]), .flat (.int .u8 r.tag[21]), .flat (.int .u8 r.tag[22]), .flat (.int .u8 r.tag[23]), .flat (.int .u8 r.tag[24]), .flat (.int .u8 r.tag[25]), .flat (.int .u8 r.tag[26]), .flat (.int .u8 r.tag[27]), .flat (.int .u8 r.tag[28]), .flat (.int .u8 r.tag[29]), .flat (.int .u8 r.tag[30]), .flat (.int .u8 r.tag[31])]
theorem stateNil_walk (W : World) (r : ReqV) (hsm : Small r.op) : Calls Tryz.prog 4 #[.agg (ReqV.cells r)] W (Ret fun rv w' => rv = .bool true ∧ Below W.heap.size W w') := by
  refine enter (args := [.agg (ReqV.cells r)]) Tryz.func4 rfl Tryz.ntmps4 (Nat.le_of_ble_eq_true (by kernel_rfl)) ?_
  refine GoC.slots (S' := [(0, .agg (ReqV.cells r))]) rfl ?_
  refine GoC.seq ?_
  refine GoC.regT [3, 3] (.ef 0 (.rd 1 .done)) (by kernel_rfl) (by kernel_rfl) ?_
  refine GoR.box rfl rfl (by kernel_rfl) (v := .agg (ReqV.cells r)) (by kernel_rfl) (St.start W) (cs := ReqV.cells r) (by kernel_rfl) ?_
  intro b1 w2 hs3
  refine ⟨(opn (by kernel_rfl)), ?_⟩
  refine GoR.phaseK [(1, .gen [])] [2, 1] [] [(2, .bool false), (1, .pointer (some ⟨b1, 0, none⟩))] (by kernel_rfl) rfl ak0 ?_
  refine GoR.done (GoQ.thn (GoC.seq (GoC.seq ?_)))
  refine GoC.regT [15, 15, 15, 15] (.rd 0 (.ef 1 (.ef 2 (.rd 3 .done)))) (by kernel_rfl) (by kernel_rfl) ?_
  refine GoR.phaseK [(0, .agg (ReqV.cells r))] [6, 2, 1] [(0, [.prop (Array.size (ReqV.cells r) = 40), .cells ⟨b1, 0, none⟩ (ReqV.cells r)])] [(6, .agg (ReqV.cells r)), (2, .bool false), (1, .pointer (some ⟨b1, 0, none⟩))] (by kernel_rfl) rfl (ak (okp (by kernel_rfl) (oka (hs3.cells 0 0 rfl (by kernel_rfl)) ok0)) ak0) ?_
  refine GoR.sliceLit rfl (by kernel_rfl) (t := 22) (e := 37) (n := 1) (ps := [(0, .agg (ReqV.cells r))]) (by kernel_rfl) (by kernel_rfl) (ti := Tryz.t37) (z := .agg #[.int .i64 0, .int .u64 0, .int .u8 0, .string (⟨#[]⟩ : ByteArray), .string (⟨#[]⟩ : ByteArray), .string (⟨#[]⟩ : ByteArray), .string (⟨#[]⟩ : ByteArray), .int .u64 0, .int .u8 0, .int .u8 0, .int .u8 0, .int .u8 0, .int .u8 0, .int .u8 0, .int .u8 0, .int .u8 0, .int .u8 0, .int .u8 0, .int .u8 0, .int .u8 0, .int .u8 0, .int .u8 0, .int .u8 0, .int .u8 0, .int .u8 0, .int .u8 0, .int .u8 0, .int .u8 0, .int .u8 0, .int .u8 0, .int .u8 0, .int .u8 0, .int .u8 0, .int .u8 0, .int .u8 0, .int .u8 0, .int .u8 0, .int .u8 0, .int .u8 0, .int .u8 0]) (by kernel_rfl) (by kernel_rfl) (by decide) (by decide) (cs := #[.int .i64 r.client, .int .u64 r.time, .int .u8 r.op.kind, .string r.op.key, .string r.op.value, .string r.op.old, .string r.op.dest, .int .u64 r.op.amount, .int .u8 r.tag[0], .int .u8 r.tag[1], .int .u8 r.tag[2], .int .u8 r.tag[3], .int .u8 r.tag[4], .int .u8 r.tag[5], .int .u8 r.tag[6], .int .u8 r.tag[7], .int .u8 r.tag[8], .int .u8 r.tag[9], .int .u8 r.tag[10], .int .u8 r.tag[11], .int .u8 r.tag[12], .int .u8 r.tag[13], .int .u8 r.tag[14], .int .u8 r.tag[15], .int .u8 r.tag[16], .int .u8 r.tag[17], .int .u8 r.tag[18], .int .u8 r.tag[19], .int .u8 r.tag[20], .int .u8 r.tag[21], .int .u8 r.tag[22], .int .u8 r.tag[23], .int .u8 r.tag[24], .int .u8 r.tag[25], .int .u8 r.tag[26], .int .u8 r.tag[27], .int .u8 r.tag[28], .int .u8 r.tag[29], .int .u8 r.tag[30], .int .u8 r.tag[31]]) (by kernel_rfl) hs3 ?_
  intro b4 w5 hs6 hz7
  have hs8 : St W ((Sl (some ⟨b4, 0, none⟩) 1 37 40 ReqV.cells ([(r : ReqV)])) :: (Cel b1 (ReqV.cells r) 37) :: (Base W) :: []) w5 := St.slOf (l := [(r : ReqV)]) (f := ReqV.cells) hs6 hz7 (reqF).size (by simp only [List.length_cons, List.length_nil, maxLen]; omega) (by kernel_rfl)
  refine ⟨(opn (by kernel_rfl)), ?_⟩
  refine GoR.call rfl rfl (by kernel_rfl) (f := 5) (args := #[.slice (some ⟨b4, 0, none⟩) 1 1]) (by kernel_rfl) Tryz.call5 (few10_spec ([(r : ReqV)]) (fun q hq => by simp only [List.mem_singleton] at hq; subst hq; exact hsm) (by simp only [List.length_cons, List.length_nil]; omega) (fun w h => h.rows 0 rfl reqF.size _) hs8) ?_
  rintro v10 w11 ⟨rfl, hs9⟩
  refine ⟨(opn (by kernel_rfl)), ?_⟩
  refine GoR.phaseK [(3, .gen [])] [9, 2, 1] [] [(9, .bool (!(few (([(r : ReqV)]).map fun r => r.op)))), (2, .bool false), (1, .pointer (some ⟨b1, 0, none⟩))] (by kernel_rfl) rfl ak0 ?_
  refine GoR.done (GoQ.thn ?_)
  have hsm : St W (Mem (N1 b1) (M1 (reqA r)) :: [Base W]) w11 := ofCel (hs9.drop 1) (by kernel_rfl)
  refine GoC.cond (t := !(few (([(r : ReqV)]).map fun r => r.op))) (by kernel_rfl) (fun h12 => ?_) (fun h12 => ?_)
  · refine GoC.seq ?_
    refine GoC.regT [3, 3] (.ef 0 (.rd 1 .done)) (by kernel_rfl) (by kernel_rfl) ?_
    refine GoR.call rfl rfl (by kernel_rfl) (f := 6) (args := #[]) (by kernel_rfl) Tryz.call6 (stworks_spec hs9) ?_
    rintro v14 w15 ⟨rfl, hs13⟩
    refine ⟨(opn (by kernel_rfl)), ?_⟩
    refine GoR.phaseK [(1, .gen [])] [2, 1] [] [(2, .bool true), (1, .pointer (some ⟨b1, 0, none⟩))] (by kernel_rfl) rfl ak0 ?_
    refine GoR.done (GoQ.thn (GoC.ret (GoQ.skipCR ?_)))
    refine GoQ.done (.inl rfl) (v := .bool true) (fun a hf => results1 rfl (by kernel_rfl) a hf) ?_
    exact ⟨rfl, hs13.below 2 rfl⟩
  · refine GoC.skip (GoQ.thn ?_)
    refine ev_rest (X := X_stateNil) X_stateNil_ok 100000 4 (fn := Tryz.f4) (t := 2) Tryz.func4 rfl (fun x hx => by revert hx; exact (fun h => h)) rfl (l := [(1, .ptr 0 0), (2, .bool false)]) (m := M1 (reqA r)) (v := .bool true) (r := .bool true) (by kernel_rfl) rfl (fun p hp => ?_) hsm (fun w' h => ⟨rfl, h.below 0 rfl⟩)
    simp only [List.mem_cons, List.not_mem_nil, or_false] at hp
    rcases hp with rfl | rfl
    · exact ⟨_, rfl, by kernel_rfl⟩
    · exact ⟨_, rfl, by kernel_rfl⟩
end Go.Proofs.YtodiehhlhbmbaaaGreatDoor
