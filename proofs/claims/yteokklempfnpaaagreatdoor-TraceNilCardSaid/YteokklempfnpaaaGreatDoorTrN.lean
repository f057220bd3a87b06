/-
  TraceNil is true, whatever step comes: the walk. Conditions: what ratchet/sha.table holds.
-/
import Derived.Test.YteokklempfnpaaaGreatDoorTrW
import Derived.Test.YteokklempfnpaaaGreatDoorTrP
namespace Go.Proofs.YteokklempfnpaaaGreatDoor
open Go.RowKit Go.Sx Go.Ev
set_option linter.unusedVariables false
set_option linter.unusedSimpArgs false
set_option linter.unnecessarySimpa false
set_option maxRecDepth 100000
def X_pl : Specs := fun g => bif Nat.beq g 5 then some (fun avs m => match avs with | [] => some (.bool true, m) | _ => none) else none
theorem X_pl_ok : SpecsOK Tryz.prog tabG X_pl := by
  intro g f h avs m r m' ν vs w w0 L hf hG hv hs
  unfold X_pl at h
  cases hb : Nat.beq g 5 with
  | false => rw [hb] at h; cases h
  | true =>
    rw [hb] at h
    have := Nat.eq_of_beq_eq_true hb
    subst this
    simp only [cond_true, Option.some.injEq] at h
    subst h
    simp only at hf
    split at hf
    · simp only [Option.some.injEq, Prod.mk.injEq] at hf
      obtain ⟨rfl, rfl⟩ := hf
      simp only [vals, Option.some.injEq] at hv
      subst hv
      refine Calls.ret (trworks_spec (hG.frame _) hs) ?_
      rintro v w' ⟨rfl, h2⟩
      exact ⟨ν, Nu.le_refl ν, rfl, h2⟩
    · cases hf
/-- The rest of a body, by the reckoner. -/
theorem ev_rest2 {X : Specs} (hX : SpecsOK Tryz.prog tabG X) (n : Nat) (f : FuncId) {fn : Func} {φ : Value → World → Prop} {N t : Nat} {c b : Code} (hfn : Tryz.prog.funcs[f]? = some fn) (hb : fn.body = some b) (hd : ∀ x ∈ draws c, x ∈ draws b) (hr : fn.results = #[.tmp t]) {l : List (Nat × AV)} {m : AM} {v : Value} {r : AV}
    (h : (match exec Tryz.prog tabG plans X n f N c (envA l) m with
      | some (.ret, S', _) => S'.get t
      | _ => none) = some r) (hv : r.val (fun _ => none) = some v) {S : Env} {ν : Nu} {w w0 : World} {L : List Asn} (hG : GOK tabG w0 L) (hl : ∀ p ∈ l, ∃ v, p.2.val ν = some v ∧ S.get p.1 = some v) (hs : St w0 (Mem ν m :: L) w)
    (hk : ∀ w', St w0 L w' → φ v w') (hnr : noRF c = true := by kernel_rfl) : GoC Tryz.prog (bodyPost Tryz.prog fn (Ret φ)) N [] c S w := by
  intro a hf
  split at h
  · rename_i S' m' he
    have hdd : OKd plans f c := fun x hx => hpl f fn b hfn hb x (hd x hx)
    have hwp := (wpIn_wide (n := 0)).1 (exec_soundO hX hpl mix he hnr hdd hG (fits_envA hf l hl) hs)
    refine wp_mono hwp fun e' a' w' hq => ?_
    obtain ⟨rfl, ν', k1, k2, k3⟩ := hq
    obtain ⟨u, h1, h2⟩ := k2.at_ t r h
    have h3 : u = v := by
      have := AV.val_mono (ν := fun _ => none) (ν' := ν') (fun id p hp => by cases hp) r hv
      rw [this] at h1
      exact (Option.some.inj h1).symm
    subst h3
    exact ⟨k2.defers, u, by rw [results_tmp hr, h2], hk w' k3.tail⟩
  · cases h
theorem vals_flats (ν : Nu) : ∀ l : List Value, vals ν (l.map AV.flat) = some l
  | [] => rfl
  | v :: l => vals_cons_mk rfl (vals_flats ν l)
set_option maxHeartbeats 4000000 in
theorem trNil_walk (W : World) (hW : Glob tabG W) {mad : Option Addr} {mc : Nat} (x : ApV) (ms : List MsV) (hz0 : x.op_.key_.size ≤ 140737488351232) (hz1 : x.op_.value_.size ≤ 140737488351232) (hz2 : x.op_.old_.size ≤ 140737488351232) (hz3 : x.op_.to_.size ≤ 140737488351232) (hz4 : x.body_.request_.op_.key_.size ≤ 140737488351232) (hz5 : x.body_.request_.op_.value_.size ≤ 140737488351232) (hz6 : x.body_.request_.op_.old_.size ≤ 140737488351232) (hz7 : x.body_.request_.op_.to_.size ≤ 140737488351232) (hm : RowsAt W mad ms.length 121 (fun k => MsV.cells (ms.getD k dMs))) : Calls Tryz.prog 3 #[.agg (ApV.cells mad ms.length mc x)] W (Ret fun rv w' => rv = .bool true ∧ Below W.heap.size W w') := by
  refine enter (args := [.agg (ApV.cells mad ms.length mc x)]) Tryz.func3 rfl Tryz.ntmps3 (Nat.le_of_ble_eq_true (by kernel_rfl)) ?_
  refine GoC.slots (S' := [(0, .agg (ApV.cells mad ms.length mc x))]) rfl ?_
  refine GoC.seq ?_
  refine GoC.regT [3, 3] (.ef 0 (.rd 1 .done)) (by kernel_rfl) (by kernel_rfl) ?_
  refine GoR.box rfl rfl (by kernel_rfl) (v := .agg (ApV.cells mad ms.length mc x)) (by kernel_rfl) (St.start W) (cs := ApV.cells mad ms.length mc x) (by kernel_rfl) ?_
  intro b1 w2 hs3
  refine ⟨(opn (by kernel_rfl)), ?_⟩
  refine GoR.phaseK [(1, .gen [])] [2, 1] [] [(2, .bool false), (1, .pointer (some ⟨b1, 0, none⟩))] (by kernel_rfl) rfl ak0 ?_
  refine GoR.done (GoQ.thn (GoC.seq (GoC.seq ?_)))
  refine GoC.regT [7, 7, 7] (.rd 0 (.ef 1 (.rd 2 .done))) (by kernel_rfl) (by kernel_rfl) ?_
  refine GoR.phaseK [(0, .agg (ApV.cells mad ms.length mc x))] [8, 2, 1] [(0, [.prop (Array.size (ApV.cells mad ms.length mc x) = 107), .cells ⟨b1, 0, none⟩ (ApV.cells mad ms.length mc x)])] [(8, .agg (ApV.cells mad ms.length mc x)), (2, .bool false), (1, .pointer (some ⟨b1, 0, none⟩))] (by kernel_rfl) rfl (ak (okp (by kernel_rfl) (oka (hs3.cells 0 0 rfl (by kernel_rfl)) ok0)) ak0) ?_
  refine GoR.call rfl rfl (by kernel_rfl) (f := 4) (args := #[.agg (ApV.cells mad ms.length mc x)]) (by kernel_rfl) Tryz.call4 (fewSteps_spec x ms hz0 hz1 hz2 hz3 hz4 hz5 hz6 hz7 (fun w h => hm.base (fun k _ => msF.size _) h 1 rfl) hs3) ?_
  rintro v6 w7 ⟨fb5, rfl, hs4⟩
  refine ⟨(opn (by kernel_rfl)), ?_⟩
  refine GoR.phaseK [(2, .gen [])] [10, 2, 1] [] [(10, .bool (!fb5)), (2, .bool false), (1, .pointer (some ⟨b1, 0, none⟩))] (by kernel_rfl) rfl ak0 ?_
  refine GoR.done (GoQ.thn ?_)
  refine GoC.cond (t := !fb5) (by kernel_rfl) (fun h8 => ?_) (fun h8 => ?_)
  · have h8n : fb5 = false := notT h8
    refine GoC.seq ?_
    refine GoC.regT [3, 3] (.ef 0 (.rd 1 .done)) (by kernel_rfl) (by kernel_rfl) ?_
    refine GoR.call rfl rfl (by kernel_rfl) (f := 5) (args := #[]) (by kernel_rfl) Tryz.call5 (trworks_spec (gok_base hW (by simp)) hs4) ?_
    rintro v10 w11 ⟨rfl, hs9⟩
    refine ⟨(opn (by kernel_rfl)), ?_⟩
    refine GoR.phaseK [(1, .gen [])] [2, 1] [] [(2, .bool true), (1, .pointer (some ⟨b1, 0, none⟩))] (by kernel_rfl) rfl ak0 ?_
    refine GoR.done (GoQ.thn (GoC.ret (GoQ.skipCR ?_)))
    refine GoQ.done (.inl rfl) (v := .bool true) (fun a hf => results1 rfl (by kernel_rfl) a hf) ?_
    exact ⟨rfl, hs9.below 1 rfl⟩
  · have h8n : fb5 = true := notF h8
    refine GoC.skip (GoQ.thn ?_)
    have hA := St.absorbCel (cs := (ApV.cells mad ms.length mc x).toList.map AV.flat) (Ev.St.start hs4) (by rw [vals_flats] <;> simp)
    refine ev_rest2 (X := X_pl) X_pl_ok 100000 3 (fn := Tryz.f3) (t := 2) Tryz.func3 rfl (fun x hx => by revert hx; exact (fun h => h)) rfl (l := [(2, .bool false), (1, .ptr 0 0)]) (m := (⟨.nil, 0⟩ : AM).new (.cells ((ApV.cells mad ms.length mc x).toList.map AV.flat))) (v := .bool true) (r := .bool true) (by kernel_rfl) rfl (gok_base hW (by simp)) (ν := Nu.add (fun _ => none) 0 (b1, 0)) (fun p hp => ?_) hA (fun w' h => ⟨rfl, h.below 0 rfl⟩)
    simp only [List.mem_cons, List.not_mem_nil, or_false] at hp
    rcases hp with rfl | rfl
    · exact ⟨_, rfl, by kernel_rfl⟩
    · exact ⟨_, rfl, by kernel_rfl⟩
end Go.Proofs.YteokklempfnpaaaGreatDoor
