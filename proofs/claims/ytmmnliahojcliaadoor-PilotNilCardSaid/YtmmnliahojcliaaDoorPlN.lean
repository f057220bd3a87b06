/-
  PilotNil is true, whatever step comes: the walk. Conditions: the step's strings are no longer than memory bears; what ratchet/sha.table holds.
-/
import Derived.Test.YtmmnliahojcliaaDoorPlW
namespace Go.Proofs.YtmmnliahojcliaaDoor
open Go.RowKit Go.Sx Go.Ev
set_option linter.unusedVariables false
set_option linter.unusedSimpArgs false
set_option linter.unnecessarySimpa false
set_option maxRecDepth 100000
def X_pl : Specs := fun g => bif Nat.beq g 5 then some (fun avs m => match avs with | [] => some (.bool true, m) | _ => none) else none
theorem X_pl_ok : SpecsOK Tryd.prog tabG X_pl := by
  intro g f h avs m r m' ν vs w w0 L hf hG hv hs
  unfold X_pl at h
  cases hb : Nat.beq g 5 with
  | false => rw [hb] at h; cases h
  | true =>
    rw [hb] at h
    have := Nat.eq_of_beq_eq_true hb
    subst this
    simp only [cond_true, Option.some.injEq] at h
    subst h
    simp only at hf
    split at hf
    · simp only [Option.some.injEq, Prod.mk.injEq] at hf
      obtain ⟨rfl, rfl⟩ := hf
      simp only [vals, Option.some.injEq] at hv
      subst hv
      refine Calls.ret (plworks_spec (hG.frame _) hs) ?_
      rintro v w' ⟨rfl, h2⟩
      exact ⟨ν, Nu.le_refl ν, rfl, h2⟩
    · cases hf
/-- The rest of a body, by the reckoner. -/
theorem ev_rest2 {X : Specs} (hX : SpecsOK Tryd.prog tabG X) (n : Nat) (f : FuncId) {fn : Func} {φ : Value → World → Prop} {N t : Nat} {c b : Code} (hfn : Tryd.prog.funcs[f]? = some fn) (hb : fn.body = some b) (hd : ∀ x ∈ draws c, x ∈ draws b) (hr : fn.results = #[.tmp t]) {l : List (Nat × AV)} {m : AM} {v : Value} {r : AV}
    (h : (match exec Tryd.prog tabG plans X n f N c (envA l) m with
      | some (.ret, S', _) => S'.get t
      | _ => none) = some r) (hv : r.val (fun _ => none) = some v) {S : Env} {ν : Nu} {w w0 : World} {L : List Asn} (hG : GOK tabG w0 L) (hl : ∀ p ∈ l, ∃ v, p.2.val ν = some v ∧ S.get p.1 = some v) (hs : St w0 (Mem ν m :: L) w)
    (hk : ∀ w', St w0 L w' → φ v w') : GoC Tryd.prog (bodyPost Tryd.prog fn (Ret φ)) N [] c S w := by
  intro a hf
  split at h
  · rename_i S' m' he
    have hdd : OKd plans f c := fun x hx => hpl f fn b hfn hb x (hd x hx)
    have hwp := exec_sound hX hpl mix n f N c (envA l) m .ret S' m' he hdd ν w0 L w a hG (fits_envA hf l hl) hs
    refine wp_mono hwp fun e' a' w' hq => ?_
    obtain ⟨rfl, ν', k1, k2, k3⟩ := hq
    obtain ⟨u, h1, h2⟩ := k2.at_ t r h
    have h3 : u = v := by
      have := AV.val_mono (ν := fun _ => none) (ν' := ν') (fun id p hp => by cases hp) r hv
      rw [this] at h1
      exact (Option.some.inj h1).symm
    subst h3
    exact ⟨k2.defers, u, by rw [results_tmp hr, h2], hk w' k3.tail⟩
  · cases h
def psA (r : PsV) : List AV := [.flat (.bool r.s.hear), .flat (.bool r.s.own), .flat (.int .u8 r.s.op.kind), .flat (.string r.s.op.key), .flat (.string r.s.op.value), .flat (.string r.s.op.old), .flat (.string r.s.op.dest), .flat (.int .u64 r.s.op.amount), .flat (.int .i64 r.s.j), .flat (.int .u8 r.s.pick), .flat (.int .i64 r.s.told.client), .flat (.int .u64 r.s.told.time), .flat (.int .i64 r.s.told.reply.err), .flat (.string r.s.told.reply.value), .flat (.int .u64 r.s.told.moment), .flat (.bool r.look), .flat (.int .u64 r.pass)]
theorem pilotNil_walk (W : World) (hW : Glob tabG W) (r : PsV) (hsm : Small r.s.op) : Calls Tryd.prog 3 #[.agg (PsV.cells r)] W (Ret fun rv w' => rv = .bool true ∧ Below W.heap.size W w') := by
  refine enter (args := [.agg (PsV.cells r)]) Tryd.func3 rfl Tryd.ntmps3 (Nat.le_of_ble_eq_true (by kernel_rfl)) ?_
  refine GoC.slots (S' := [(0, .agg (PsV.cells r))]) rfl ?_
  refine GoC.seq ?_
  refine GoC.regT [3, 3] (.ef 0 (.rd 1 .done)) (by kernel_rfl) (by kernel_rfl) ?_
  refine GoR.box rfl rfl (by kernel_rfl) (v := .agg (PsV.cells r)) (by kernel_rfl) (St.start W) (cs := PsV.cells r) (by kernel_rfl) ?_
  intro b1 w2 hs3
  refine ⟨(opn (by kernel_rfl)), ?_⟩
  refine GoR.phaseK [(1, .gen [])] [2, 1] [] [(2, .bool false), (1, .pointer (some ⟨b1, 0, none⟩))] (by kernel_rfl) rfl ak0 ?_
  refine GoR.done (GoQ.thn (GoC.seq (GoC.seq ?_)))
  refine GoC.regT [15, 15, 15, 15] (.rd 0 (.ef 1 (.ef 2 (.rd 3 .done)))) (by kernel_rfl) (by kernel_rfl) ?_
  refine GoR.phaseK [(0, .agg (PsV.cells r))] [10, 2, 1] [(0, [.prop (Array.size (PsV.cells r) = 17), .cells ⟨b1, 0, none⟩ (PsV.cells r)])] [(10, .agg (PsV.cells r)), (2, .bool false), (1, .pointer (some ⟨b1, 0, none⟩))] (by kernel_rfl) rfl (ak (okp (by kernel_rfl) (oka (hs3.cells 0 0 rfl (by kernel_rfl)) ok0)) ak0) ?_
  refine GoR.sliceLit rfl (by kernel_rfl) (t := 35) (e := 33) (n := 1) (ps := [(0, .agg (PsV.cells r))]) (by kernel_rfl) (by kernel_rfl) (ti := Tryd.t33) (z := .agg #[.bool false, .bool false, .int .u8 0, .string ⟨#[]⟩, .string ⟨#[]⟩, .string ⟨#[]⟩, .string ⟨#[]⟩, .int .u64 0, .int .i64 0, .int .u8 0, .int .i64 0, .int .u64 0, .int .i64 0, .string ⟨#[]⟩, .int .u64 0, .bool false, .int .u64 0]) (by kernel_rfl) (by kernel_rfl) (by decide) (by decide) (cs := #[.bool r.s.hear, .bool r.s.own, .int .u8 r.s.op.kind, .string r.s.op.key, .string r.s.op.value, .string r.s.op.old, .string r.s.op.dest, .int .u64 r.s.op.amount, .int .i64 r.s.j, .int .u8 r.s.pick, .int .i64 r.s.told.client, .int .u64 r.s.told.time, .int .i64 r.s.told.reply.err, .string r.s.told.reply.value, .int .u64 r.s.told.moment, .bool r.look, .int .u64 r.pass]) (by kernel_rfl) hs3 ?_
  intro b4 w5 hs6 hz7
  have hs8 : St W ((Sl (some ⟨b4, 0, none⟩) 1 33 17 PsV.cells ([(r : PsV)])) :: (Cel b1 (PsV.cells r) 33) :: (Base W) :: []) w5 := St.slOf (l := [(r : PsV)]) (f := PsV.cells) hs6 hz7 (psF).size (by simp only [List.length_cons, List.length_nil, maxLen]; omega) (by kernel_rfl)
  refine ⟨(opn (by kernel_rfl)), ?_⟩
  refine GoR.call rfl rfl (by kernel_rfl) (f := 4) (args := #[.slice (some ⟨b4, 0, none⟩) 1 1]) (by kernel_rfl) Tryd.call4 (few35_spec ([(r : PsV)]) (fun q hq => by simp only [List.mem_singleton] at hq; subst hq; exact hsm) (by simp only [List.length_cons, List.length_nil]; omega) (fun w h => h.rows 0 rfl psF.size _) hs8) ?_
  rintro v10 w11 ⟨fb, rfl, hs9⟩
  refine ⟨(opn (by kernel_rfl)), ?_⟩
  refine GoR.phaseK [(3, .gen [])] [13, 2, 1] [] [(13, .bool (!fb)), (2, .bool false), (1, .pointer (some ⟨b1, 0, none⟩))] (by kernel_rfl) rfl ak0 ?_
  refine GoR.done (GoQ.thn ?_)
  have hsm : St W (Mem (N1 b1) (M1 (psA r)) :: [Base W]) w11 := ofCel (hs9.drop 1) (by kernel_rfl)
  refine GoC.cond (t := !fb) (by kernel_rfl) (fun h12 => ?_) (fun h12 => ?_)
  · refine GoC.seq ?_
    refine GoC.regT [3, 3] (.ef 0 (.rd 1 .done)) (by kernel_rfl) (by kernel_rfl) ?_
    refine GoR.call rfl rfl (by kernel_rfl) (f := 5) (args := #[]) (by kernel_rfl) Tryd.call5 (plworks_spec (gok_base hW (by simp)) hs9) ?_
    rintro v14 w15 ⟨rfl, hs13⟩
    refine ⟨(opn (by kernel_rfl)), ?_⟩
    refine GoR.phaseK [(1, .gen [])] [2, 1] [] [(2, .bool true), (1, .pointer (some ⟨b1, 0, none⟩))] (by kernel_rfl) rfl ak0 ?_
    refine GoR.done (GoQ.thn (GoC.ret (GoQ.skipCR ?_)))
    refine GoQ.done (.inl rfl) (v := .bool true) (fun a hf => results1 rfl (by kernel_rfl) a hf) ?_
    exact ⟨rfl, hs13.below 2 rfl⟩
  · refine GoC.skip (GoQ.thn ?_)
    refine ev_rest2 (X := X_pl) X_pl_ok 100000 3 (fn := Tryd.f3) (t := 2) Tryd.func3 rfl (fun x hx => by revert hx; exact (fun h => h)) rfl (l := [(1, .ptr 0 0), (2, .bool false)]) (m := M1 (psA r)) (v := .bool true) (r := .bool true) (by kernel_rfl) rfl (gok_base hW (by simp)) (fun p hp => ?_) hsm (fun w' h => ⟨rfl, h.below 0 rfl⟩)
    simp only [List.mem_cons, List.not_mem_nil, or_false] at hp
    rcases hp with rfl | rfl
    · exact ⟨_, rfl, by kernel_rfl⟩
    · exact ⟨_, rfl, by kernel_rfl⟩
end Go.Proofs.YtmmnliahojcliaaDoor
