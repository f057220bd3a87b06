/-
  InspectNil is true, whatever comes: the walk. Conditions: what ratchet/sha.table holds.
-/
import Derived.Test.YthekpemobnajhaaGreatDoorInW
import Derived.Test.YthekpemobnajhaaGreatDoorInLX
namespace Go.Proofs.YthekpemobnajhaaGreatDoor
open Go.RowKit Go.Sx Go.Ev
set_option linter.unusedVariables false
set_option linter.unusedSimpArgs false
set_option linter.unnecessarySimpa false
set_option maxRecDepth 100000
def X_pl : Specs := fun g => bif Nat.beq g 8 then some (fun avs m => match avs with | [] => some (.bool true, m) | _ => none) else none
theorem X_pl_ok : SpecsOK Tryz.prog tabG X_pl := by
  intro g f h avs m r m' ν vs w w0 L hf hG hv hs
  unfold X_pl at h
  cases hb : Nat.beq g 8 with
  | false => rw [hb] at h; cases h
  | true =>
    rw [hb] at h
    have := Nat.eq_of_beq_eq_true hb
    subst this
    simp only [cond_true, Option.some.injEq] at h
    subst h
    simp only at hf
    split at hf
    · simp only [Option.some.injEq, Prod.mk.injEq] at hf
      obtain ⟨rfl, rfl⟩ := hf
      simp only [vals, Option.some.injEq] at hv
      subst hv
      refine Calls.ret (inworks_spec (hG.frame _) hs) ?_
      rintro v w' ⟨rfl, h2⟩
      exact ⟨ν, Nu.le_refl ν, rfl, h2⟩
    · cases hf
/-- The rest of a body, by the reckoner. -/
theorem ev_rest2 {X : Specs} (hX : SpecsOK Tryz.prog tabG X) (n : Nat) (f : FuncId) {fn : Func} {φ : Value → World → Prop} {N t : Nat} {c b : Code} (hfn : Tryz.prog.funcs[f]? = some fn) (hb : fn.body = some b) (hd : ∀ x ∈ draws c, x ∈ draws b) (hr : fn.results = #[.tmp t]) {l : List (Nat × AV)} {m : AM} {v : Value} {r : AV}
    (h : (match exec Tryz.prog tabG plans X n f N c (envA l) m with
      | some (.ret, S', _) => S'.get t
      | _ => none) = some r) (hv : r.val (fun _ => none) = some v) {S : Env} {ν : Nu} {w w0 : World} {L : List Asn} (hG : GOK tabG w0 L) (hl : ∀ p ∈ l, ∃ v, p.2.val ν = some v ∧ S.get p.1 = some v) (hs : St w0 (Mem ν m :: L) w)
    (hk : ∀ w', St w0 L w' → φ v w') (hnr : noRF c = true := by kernel_rfl) : GoC Tryz.prog (bodyPost Tryz.prog fn (Ret φ)) N [] c S w := by
  intro a hf
  split at h
  · rename_i S' m' he
    have hdd : OKd plans f c := fun x hx => hpl f fn b hfn hb x (hd x hx)
    have hwp := (wpIn_wide (n := 0)).1 (exec_soundO hX hpl mix he hnr hdd hG (fits_envA hf l hl) hs)
    refine wp_mono hwp fun e' a' w' hq => ?_
    obtain ⟨rfl, ν', k1, k2, k3⟩ := hq
    obtain ⟨u, h1, h2⟩ := k2.at_ t r h
    have h3 : u = v := by
      have := AV.val_mono (ν := fun _ => none) (ν' := ν') (fun id p hp => by cases hp) r hv
      rw [this] at h1
      exact (Option.some.inj h1).symm
    subst h3
    exact ⟨k2.defers, u, by rw [results_tmp hr, h2], hk w' k3.tail⟩
  · cases h
theorem vals_flats (ν : Nu) : ∀ l : List Value, vals ν (l.map AV.flat) = some l
  | [] => rfl
  | v :: l => vals_cons_mk rfl (vals_flats ν l)
noncomputable def XN : Specs := fun g => bif Nat.beq g 8 then X_pl g else XLo g
theorem XN_ok : SpecsOK Tryz.prog tabG XN := by
  intro g f h avs m r m' ν vs w w0 L hf hG hv hs
  unfold XN at h
  cases hb : Nat.beq g 8 with
  | false =>
    rw [hb] at h
    exact XLo_ok g f h avs m r m' ν vs w w0 L hf hG hv hs
  | true =>
    rw [hb] at h
    exact X_pl_ok g f h avs m r m' ν vs w w0 L hf hG hv hs
theorem inlaw_run (p0 : Int) (p1 : Int) (p2 : Int) : (callK Tryz.prog tabG XN (exec Tryz.prog tabG plans XN 100000) 3 [.flat (.int .i64 p0), .flat (.int .i64 p1), .flat (.int .i64 p2)] ⟨.nil, 0⟩).map (·.1) = some (.bool true) := by kernel_rfl
theorem inNil_walk (W : World) (hW : Glob tabG W) (p0 : Int) (p1 : Int) (p2 : Int) : Calls Tryz.prog 3 #[.int .i64 p0, .int .i64 p1, .int .i64 p2] W (Ret fun rv w' => rv = .bool true ∧ Below W.heap.size W w') := by
  refine (ev_callG XN_ok 100000 (by kernel_rfl) (avs := [.flat (.int .i64 p0), .flat (.int .i64 p1), .flat (.int .i64 p2)]) (vs := [.int .i64 p0, .int .i64 p1, .int .i64 p2]) (inlaw_run p0 p1 p2) rfl rfl (gok_base hW (by simp)) (St.start W)).mono fun e w' h => ?_
  cases e with
  | returned v => exact ⟨h.1, h.2.below 0 rfl⟩
  | panicked c => exact h.elim
  | outgrown => exact h.elim
end Go.Proofs.YthekpemobnajhaaGreatDoor
