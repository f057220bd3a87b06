/-
  DrillNil is true, whatever comes: the walk. Conditions: what ratchet/sha.table holds.
-/
import Derived.Test.YtahmejhidelkbaaGreatDoorDrW
namespace Go.Proofs.YtahmejhidelkbaaGreatDoor
open Go.RowKit Go.Sx Go.Ev
set_option linter.unusedVariables false
set_option linter.unusedSimpArgs false
set_option linter.unnecessarySimpa false
set_option maxRecDepth 100000
def X_pl : Specs := fun g => bif Nat.beq g 5 then some (fun avs m => match avs with | [] => some (.bool true, m) | _ => none) else none
theorem X_pl_ok : SpecsOK Tryz.prog tabG X_pl := by
  intro g f h avs m r m' ν vs w w0 L hf hG hv hs
  unfold X_pl at h
  cases hb : Nat.beq g 5 with
  | false => rw [hb] at h; cases h
  | true =>
    rw [hb] at h
    have := Nat.eq_of_beq_eq_true hb
    subst this
    simp only [cond_true, Option.some.injEq] at h
    subst h
    simp only at hf
    split at hf
    · simp only [Option.some.injEq, Prod.mk.injEq] at hf
      obtain ⟨rfl, rfl⟩ := hf
      simp only [vals, Option.some.injEq] at hv
      subst hv
      refine Calls.ret (drworks_spec (hG.frame _) hs) ?_
      rintro v w' ⟨rfl, h2⟩
      exact ⟨ν, Nu.le_refl ν, rfl, h2⟩
    · cases hf
/-- The rest of a body, by the reckoner. -/
theorem ev_rest2 {X : Specs} (hX : SpecsOK Tryz.prog tabG X) (n : Nat) (f : FuncId) {fn : Func} {φ : Value → World → Prop} {N t : Nat} {c b : Code} (hfn : Tryz.prog.funcs[f]? = some fn) (hb : fn.body = some b) (hd : ∀ x ∈ draws c, x ∈ draws b) (hr : fn.results = #[.tmp t]) {l : List (Nat × AV)} {m : AM} {v : Value} {r : AV}
    (h : (match exec Tryz.prog tabG plans X n f N c (envA l) m with
      | some (.ret, S', _) => S'.get t
      | _ => none) = some r) (hv : r.val (fun _ => none) = some v) {S : Env} {ν : Nu} {w w0 : World} {L : List Asn} (hG : GOK tabG w0 L) (hl : ∀ p ∈ l, ∃ v, p.2.val ν = some v ∧ S.get p.1 = some v) (hs : St w0 (Mem ν m :: L) w)
    (hk : ∀ w', St w0 L w' → φ v w') (hnr : noRF c = true := by kernel_rfl) : GoC Tryz.prog (bodyPost Tryz.prog fn (Ret φ)) N [] c S w := by
  intro a hf
  split at h
  · rename_i S' m' he
    have hdd : OKd plans f c := fun x hx => hpl f fn b hfn hb x (hd x hx)
    have hwp := (wpIn_wide (n := 0)).1 (exec_soundO hX hpl mix he hnr hdd hG (fits_envA hf l hl) hs)
    refine wp_mono hwp fun e' a' w' hq => ?_
    obtain ⟨rfl, ν', k1, k2, k3⟩ := hq
    obtain ⟨u, h1, h2⟩ := k2.at_ t r h
    have h3 : u = v := by
      have := AV.val_mono (ν := fun _ => none) (ν' := ν') (fun id p hp => by cases hp) r hv
      rw [this] at h1
      exact (Option.some.inj h1).symm
    subst h3
    exact ⟨k2.defers, u, by rw [results_tmp hr, h2], hk w' k3.tail⟩
  · cases h
theorem vals_flats (ν : Nu) : ∀ l : List Value, vals ν (l.map AV.flat) = some l
  | [] => rfl
  | v :: l => vals_cons_mk rfl (vals_flats ν l)
theorem drNil_walk (W : World) (hW : Glob tabG W) (a0 : Option Addr) (p0 c0 : Nat) : Calls Tryz.prog 4 #[.slice a0 p0 c0] W (Ret fun rv w' => rv = .bool true ∧ Below W.heap.size W w') := by
  refine enter (args := [.slice a0 p0 c0]) Tryz.func4 rfl Tryz.ntmps4 (Nat.le_of_ble_eq_true (by kernel_rfl)) ?_
  refine GoC.slots (S' := [(0, .slice a0 p0 c0)]) rfl ?_
  refine GoC.seq ?_
  refine GoC.regT [1] (.rd 0 .done) (by kernel_rfl) (by kernel_rfl) ?_
  refine GoR.phaseK [(0, .gen [])] [2, 0] [] [(2, .bool false), (0, .slice a0 p0 c0)] (by kernel_rfl) rfl ak0 ?_
  refine GoR.done (GoQ.thn (GoC.seq (GoC.seq ?_)))
  refine GoC.regT [7, 7, 7] (.rd 0 (.rd 1 (.rd 2 .done))) (by kernel_rfl) (by kernel_rfl) ?_
  refine GoR.phaseK [(0, .gen []), (1, .gen []), (2, .gen [])] [7, 2, 0] [] [(7, .bool (decide (((p0 : Nat) : Int) > 20))), (2, .bool false), (0, .slice a0 p0 c0)] (by kernel_rfl) rfl ak0 ?_
  refine GoR.done (GoQ.thn ?_)
  refine GoC.cond (t := decide (((p0 : Nat) : Int) > 20)) (by kernel_rfl) (fun h1 => ?_) (fun h1 => ?_)
  · have h1' : ((p0 : Nat) : Int) > 20 := of_decide_eq_true h1
    refine GoC.seq ?_
    refine GoC.regT [3, 3] (.ef 0 (.rd 1 .done)) (by kernel_rfl) (by kernel_rfl) ?_
    refine GoR.call rfl rfl (by kernel_rfl) (f := 5) (args := #[]) (by kernel_rfl) Tryz.call5 (drworks_spec (gok_base hW (by simp)) (St.start W)) ?_
    rintro v3 w4 ⟨rfl, hs2⟩
    refine ⟨(opn (by kernel_rfl)), ?_⟩
    refine GoR.phaseK [(1, .gen [])] [2, 0] [] [(2, .bool true), (0, .slice a0 p0 c0)] (by kernel_rfl) rfl ak0 ?_
    refine GoR.done (GoQ.thn (GoC.ret (GoQ.skipCR ?_)))
    refine GoQ.done (.inl rfl) (v := .bool true) (fun a hf => results1 rfl (by kernel_rfl) a hf) ?_
    exact ⟨rfl, hs2.below 0 rfl⟩
  · have h1' : ¬ (((p0 : Nat) : Int) > 20) := of_decide_eq_false h1
    refine GoC.skip (GoQ.thn ?_)
    refine ev_rest2 (X := X_pl) X_pl_ok 100000 4 (fn := Tryz.f4) (t := 2) Tryz.func4 rfl (fun x hx => by revert hx; exact (fun h => h)) rfl (l := [(2, .bool false), (0, .flat (.slice a0 p0 c0))]) (m := ⟨.nil, 0⟩) (v := .bool true) (r := .bool true) (by kernel_rfl) rfl (gok_base hW (by simp)) (ν := fun _ => none) (fun p hp => ?_) (Ev.St.start (St.start W)) (fun w' h => ⟨rfl, h.below 0 rfl⟩)
    simp only [List.mem_cons, List.not_mem_nil, or_false] at hp
    rcases hp with rfl | rfl
    · exact ⟨_, rfl, by kernel_rfl⟩
    · exact ⟨_, rfl, by kernel_rfl⟩
end Go.Proofs.YtahmejhidelkbaaGreatDoor
