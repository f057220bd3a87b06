/-
  Ev, part U: known calls, looked up at every depth: a call that is not known is walked, and what comes up in that walk is looked up in the same table again. Conditions: none beside EvM's.
-/
import Derived.Test.YtahmejhidelkbaaGreatDoorEvZ
namespace Go.Ev
open Go Go.Sx
set_option linter.unusedVariables false
set_option linter.unusedSimpArgs false

section
variable {P : Program} {G : Nat → Option (List Value)} {plans : Ord} {X : Specs}
/-- A call is walked, whatever is known of it. -/
noncomputable def walkK (P : Program) (G : Nat → Option (List Value)) (ih : Rec) (g : FuncId) (asx : List AV) (m : AM) : R2 :=
  match P.funcs[g]? with
  | some fn => callBody P G ih g fn asx m
  | none => none
theorem walkK_okR {n : Nat} (hpl : ∀ g fn b, P.funcs[g]? = some fn → fn.body = some b → OKd plans g b)
    (ih : ∀ f N c S m e S' m', exec P G plans X n f N c S m = some (e, S', m') → OKd plans f c → ∀ ro, (ro = none ∨ noRF c = true) → ∀ δ ν w0 L w a, GOK G w0 L → FitsA δ ν N S a → St w0 (Mem ν m :: L) w → c.wpIn (WideR ro) 0 P (Post δ ν w0 L N (noRF c) e S' m') a w) :
    CallOK P G (walkK P G (exec P G plans X n)) := by
  intro f asx m r m' ν vs w w0 L _ h hG hvs hs
  unfold walkK at h
  · split at h
    · rename_i fn hfn
      unfold callBody at h
      split at h
      · rename_i b hb
        cases hle : Nat.ble asx.length fn.ntmps with
        | false => rw [hle] at h; cases h
        | true =>
          rw [hle] at h
          have hle := ble_true hle
          simp only [cond_true] at h
          unfold endCall at h
          split at h
          · rename_i e S' m2 he
            have hne : ∀ id, e ≠ .exit id := by
              intro id e'
              subst e'
              cases h
            have h : (match resA P G m2 S' fn.results.toList with
              | some l => some (resOf l, m2)
              | none => none) = some (r, m') := by
              cases e with
              | exit id => exact (hne id rfl).elim
              | _ => exact h
            split at h
            · rename_i l hl
              simp only [Option.some.injEq, Prod.mk.injEq] at h
              obtain ⟨rfl, rfl⟩ := h
              have lv := vals_length hvs
              refine (callsIn_wideR (r := none) (n := 0)).1 (callsIn_of_wp_marks hfn hb trivial ?_)
              have hf0 : FitsA [] ν fn.ntmps (argE 0 asx .nil) { tmps := vs.toArray ++ Array.replicate (fn.ntmps - vs.toArray.size) undef, defers := [] } := by
                refine ⟨rfl, by simp; omega, fun k x hx => ?_⟩
                rw [argE_get] at hx
                simp only [Nat.zero_le, true_and, Nat.zero_add, Nat.sub_zero] at hx
                by_cases hk : k < asx.length
                · rw [if_pos hk] at hx
                  obtain ⟨v, h1, h2⟩ := vals_get hvs hx
                  refine ⟨v, h1, ?_⟩
                  simp only [Array.getD_eq_getD_getElem?]
                  rw [Array.getElem?_append_left (by simp; omega)]
                  simp [h2]
                · rw [if_neg hk] at hx
                  cases hx
              have hwp := ih f fn.ntmps b (argE 0 asx .nil) m e S' m2 he (hpl f fn b hfn hb) none (.inl rfl) [] ν w0 L w _ hG hf0 hs
              refine wpIn_mono hwp fun e' a' w' hq => ?_
              obtain ⟨he', ν', Ds, -, k1, k2, k3⟩ := hq
              have hd : a'.defers = marksL Ds := by rw [k2.defers, List.append_nil]
              have fin : LeavesInM (WideR none) 0 P fn a'.tmps (Ret fun v w' => ∃ ν', ν.le ν' ∧ (resOf l).val ν' = some v ∧ St w0 (Mem ν' m2 :: L) w') a'.defers .returning w' := by
                rw [hd]
                refine leaves_marks Ds w' k3 fun w3 k4 => ?_
                obtain ⟨v, j1, j2⟩ := results_run (P := P) (fn := fn) k2 k4 hG hl
                exact ⟨v, j2, ν', k1, j1, k4⟩
              subst he'
              cases e with
              | normal => exact fin
              | ret => exact fin
              | exit id => exact (hne id rfl).elim
            · cases h
          · cases h
      · cases h
    · cases h


theorem walkK_sound (hX : SpecsOK P G X) (hpl : ∀ g fn b, P.funcs[g]? = some fn → fn.body = some b → OKd plans g b) (hmix : P.follows .mixedOrders = true) (n : Nat) : CallOK P G (walkK P G (exec P G plans X n)) := walkK_okR hpl (exec_soundR hX hpl hmix n)

/-- What is known, looked up anew in each of d nested walks of calls that are not; 'sv': these are walked in every order of the maps that they range over. -/
noncomputable def withAll (P : Program) (G : Nat → Option (List Value)) (plans : Ord) (X : Specs) (n : Nat) (sv : FuncId → Bool) (tab : List Key) (d : Nat) : Specs :=
  Nat.rec X (fun _ ih => fun g => match sv g || anyKey g tab with
  | true => some fun asx m => match lookM g asx m tab with
    | some r => some r
    | none => match sv g with
      | true => specLD P G plans ih n g asx m
      | false => match enters P g with
        | true => walkK P G (execD P G plans ih n) g asx m
        | false => none
  | false => X g) d
theorem withAll_ok (hX : SpecsOK P G X) (hpl : ∀ g fn b, P.funcs[g]? = some fn → fn.body = some b → OKd plans g b) (hmix : P.follows .mixedOrders = true) (n : Nat) (sv : FuncId → Bool) {tab : List Key} (h : ∀ e ∈ tab, KeyOK P G e) : ∀ d, SpecsOK P G (withAll P G plans X n sv tab d) := by
  intro d
  induction d with
  | zero => exact hX
  | succ d ih =>
    intro g f hf asx m r m' ν vs w w0 L hr hG hv hs
    replace hf : (match sv g || anyKey g tab with
      | true => some fun asx m => match lookM g asx m tab with
        | some r => some r
        | none => match sv g with
          | true => specLD P G plans (withAll P G plans X n sv tab d) n g asx m
          | false => match enters P g with
            | true => walkK P G (execD P G plans (withAll P G plans X n sv tab d) n) g asx m
            | false => none
      | false => X g) = some f := hf
    cases hk : (sv g || anyKey g tab) with
    | false => rw [hk] at hf; exact hX g f hf asx m r m' ν vs w w0 L hr hG hv hs
    | true =>
      rw [hk] at hf
      simp only [Option.some.injEq] at hf
      subst hf
      simp only at hr
      cases hl : lookM g asx m tab with
      | some q =>
        rw [hl] at hr
        simp only [Option.some.injEq] at hr
        obtain ⟨e, he, h1, h2, h3, h4, h5⟩ := lookM_spec hl
        rw [hr] at h5
        cases h5
        subst h3
        rw [← h2]
        exact h e he ν m w w0 L vs hG hv hs h1 h4
      | none =>
        rw [hl] at hr
        simp only at hr
        cases hsv : sv g with
        | true =>
          rw [hsv] at hr
          simp only at hr
          rw [specLD_eq] at hr
          exact specL_ok ih hpl hmix n hr hG hv hs
        | false =>
          rw [hsv] at hr
          simp only at hr
          cases hen : enters P g with
          | false => rw [hen] at hr; cases hr
          | true =>
            rw [hen, execD_eq] at hr
            exact walkK_sound ih hpl hmix n g asx m r m' ν vs w w0 L hen hr hG hv hs
end
#print axioms withAll_ok
end Go.Ev
