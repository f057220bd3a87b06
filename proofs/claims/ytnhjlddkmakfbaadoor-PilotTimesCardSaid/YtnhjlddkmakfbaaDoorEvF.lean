/-
  Ev, part F: addresses, parts and literals. Proved once, for any program. Conditions: none beside each theorem's own.
-/
import Derived.Test.YtnhjlddkmakfbaaDoorEvE
namespace Go.Ev
open Go.Sx
set_option linter.unusedVariables false
set_option linter.unusedSimpArgs false
section
variable {P : Program} {G : Nat → Option (List Value)} {ν : Nu} {N : Nat} {S : AE} {a : Act} {m : AM} {w : World}

theorem ptr_mk {id off : Nat} {p : Nat × Nat} (h : ν id = some p) : AV.val ν (.ptr id off) = some (.pointer (some ⟨p.1, off, none⟩)) := by simp [AV.val, h]
theorem slK_mk {id off len cap : Nat} {p : Nat × Nat} (h : ν id = some p) (hc : len ≤ cap) : AV.val ν (.sl id off len cap true) = some (.slice (some ⟨p.1, off, none⟩) len cap) := by simp [AV.val, h, hc]
theorem slU_mk {id off len cap c : Nat} {p : Nat × Nat} (h : ν id = some p) (hc : len ≤ c) (e : c + cap = p.2) : AV.val ν (.sl id off len cap false) = some (.slice (some ⟨p.1, off, none⟩) len c) := by
  have : len + cap ≤ p.2 := by omega
  have h2 : p.2 - cap = c := by omega
  simp [AV.val, h, this, h2]

theorem ble_true {x y : Nat} (h : Nat.ble x y = true) : x ≤ y := Nat.le_of_ble_eq_true h

theorem indexAddrA_sound {o : Oper} {t : TypeId} {x i : Operand} (ho : o.op = .indexAddr t x i) {ρ : Operand → Value} {xa ia av : AV} (hx : xa.val ν = some (ρ x)) (hi : ia.val ν = some (ρ i)) (h : indexAddrA P t xa ia = some av) (w : World) :
    ∃ v, av.val ν = some v ∧ (execOp ρ o).run P w = .ok (.value v) w := by
  unfold indexAddrA at h
  split at h
  · rename_i n hn
    obtain ⟨k, hk⟩ := intOf_val hn hi
    split at h
    · rename_i e id off len cap kn hu
      split at h
      · rename_i ie hie
        cases hb : Nat.ble (n + 1) len with
        | false => rw [hb] at h; cases h
        | true =>
          rw [hb] at h
          have hlt := ble_true hb
          simp only [cond_true, Option.some.injEq] at h
          subst h
          obtain ⟨p, c, hp, hv, _⟩ := sl_val hx
          refine ⟨_, ptr_mk hp, ?_⟩
          have h1 : (0 : Int) ≤ n ∧ (n : Int) < len := by omega
          simp [execOp, ho, Instr.indexAt, hv, hk, asIntOf, run_underlying hu, sizeOf, typeInfo, hie, h1, go_sem, add_mk]
          intro hh; omega
      · cases h
    · rename_i len e id off hu
      split at h
      · rename_i ie hie
        cases hb : Nat.ble (n + 1) len with
        | false => rw [hb] at h; cases h
        | true =>
          rw [hb] at h
          have hlt := ble_true hb
          simp only [cond_true, Option.some.injEq] at h
          subst h
          obtain ⟨p, hp, hv⟩ := ptr_val hx
          refine ⟨_, ptr_mk hp, ?_⟩
          have h1 : (0 : Int) ≤ n ∧ (n : Int) < len := by omega
          simp [execOp, ho, Instr.indexAt, hv, hk, asIntOf, Instr.sureAddr, run_underlying hu, sizeOf, typeInfo, hie, h1, go_sem, add_mk]
          intro hh; omega
      · cases h
    · cases h
  · cases h

theorem indexA_sound {o : Oper} {t : TypeId} {x i : Operand} (ho : o.op = .index t x i) {ρ : Operand → Value} {xa ia av : AV} (hx : xa.val ν = some (ρ x)) (hi : ia.val ν = some (ρ i)) (h : indexA P t xa ia = some av) (w : World) :
    ∃ v, av.val ν = some v ∧ (execOp ρ o).run P w = .ok (.value v) w := by
  unfold indexA at h
  split at h
  · rename_i n cs hn
    obtain ⟨k, hk⟩ := intOf_val hn hi
    obtain ⟨vs, hvs, hv⟩ := agg_val hx
    split at h
    · rename_i len e hu
      split at h
      · rename_i ie hie
        cases hb : Nat.ble (n + 1) len with
        | false => rw [hb] at h; cases h
        | true =>
          rw [hb] at h
          have hlt := ble_true hb
          simp only [cond_true] at h
          obtain ⟨v, h1, h2⟩ := partA_part h hvs w
          refine ⟨v, h1, ?_⟩
          have h3 : (0 : Int) ≤ n ∧ (n : Int) < len := by omega
          simp only [execOp, ho, Instr.index, hv, hk, asIntOf, Sem.run_bind, Sem.run_pure, Result.andThen_ok, run_underlying hu, h3, and_self, if_true, sizeOf, typeInfo, run_program, hie, Int.toNat_natCast, h2]
      · cases h
    · cases h
  · cases h

theorem fieldAddrA_sound {o : Oper} {t : TypeId} {x : Operand} {f : Nat} (ho : o.op = .fieldAddr t x f) {ρ : Operand → Value} {xa av : AV} (hx : xa.val ν = some (ρ x)) (h : fieldAddrA P t xa f = some av) (w : World) :
    ∃ v, av.val ν = some v ∧ (execOp ρ o).run P w = .ok (.value v) w := by
  unfold fieldAddrA at h
  split at h
  · rename_i id off fields hu
    obtain ⟨p, hp, hv⟩ := ptr_val hx
    split at h
    · rename_i fd hfd
      split at h
      · rename_i i hi
        cases hb : Nat.beq i.size 0 with
        | true => rw [hb] at h; cases h
        | false =>
          rw [hb] at h
          simp only [cond_false, Option.some.injEq] at h
          subst h
          have hne := Nat.ne_of_beq_eq_false hb
          refine ⟨_, ptr_mk hp, ?_⟩
          have hfd' : fields[f]? = some fd := by simpa using hfd
          simp only [execOp, ho, Instr.fieldAt, hv, Sem.run_bind, run_underlying hu, Result.andThen_ok, hfd', Instr.sureAddr, fieldPlace, sizeOf, typeInfo, run_program, hi, Sem.run_pure, hne, if_false, add_mk]
      · cases h
    · cases h
  · cases h

theorem fieldA_sound {o : Oper} {t : TypeId} {x : Operand} {f : Nat} (ho : o.op = .field t x f) {ρ : Operand → Value} {xa av : AV} (hx : xa.val ν = some (ρ x)) (h : fieldA P t xa f = some av) (w : World) :
    ∃ v, av.val ν = some v ∧ (execOp ρ o).run P w = .ok (.value v) w := by
  unfold fieldA at h
  split at h
  · rename_i cs fields hu
    obtain ⟨vs, hvs, hv⟩ := agg_val hx
    split at h
    · rename_i fd hfd
      obtain ⟨v, h1, h2⟩ := partA_part h hvs w
      refine ⟨v, h1, ?_⟩
      have hfd' : fields[f]? = some fd := by simpa using hfd
      simp only [execOp, ho, Instr.field, hv, Sem.run_bind, run_underlying hu, Result.andThen_ok, hfd', asAgg, Sem.run_pure, h2]
    · cases h
  · cases h

theorem arrayAtA_sound {o : Oper} {t : TypeId} {x : Operand} (ho : o.op = .sliceToArrayPointer t x) {ρ : Operand → Value} {xa av : AV} (hx : xa.val ν = some (ρ x)) (h : arrayAtA P t xa = some av) (w : World) :
    ∃ v, av.val ν = some v ∧ (execOp ρ o).run P w = .ok (.value v) w := by
  unfold arrayAtA at h
  split at h
  · rename_i n e id off len cap kn hu
    obtain ⟨p, c, hp, hv, _⟩ := sl_val hx
    cases hb : Nat.ble n len with
    | false => rw [hb] at h; cases h
    | true =>
      rw [hb] at h
      simp only [cond_true, Option.some.injEq] at h
      subst h
      have h1 := ble_true hb
      have h2 : ¬ len < n := by omega
      refine ⟨_, ptr_mk hp, ?_⟩
      simp only [execOp, ho, Instr.arrayAt, hv, Sem.run_bind, run_underlying hu, Result.andThen_ok, h2, if_false, Sem.run_pure]
  · cases h

theorem extractA_sound (hf : FitsA ν N S a) {o : Oper} {x : Operand} {i : Nat} (ho : o.op = .extract x i) {av : AV} (h : extractA P S o (opnd S x) i = some av) (w : World) :
    ∃ v, av.val ν = some v ∧ (execOp a.eval o).run P w = .ok (.value v) w := by
  unfold extractA at h
  split at h
  · rename_i cs hx
    obtain ⟨u, hu, ex⟩ := hf.op hx
    obtain ⟨vs, hvs, rfl⟩ := tup_val hu
    obtain ⟨v, h1, h2⟩ := vals_get hvs h
    refine ⟨v, h1, ?_⟩
    have h3 : vs.toArray[i]? = some v := by simpa using h2
    simp only [execOp, ho, Instr.extract, ex, h3, Sem.run_bind, Sem.run_pure, Result.andThen_ok]
  · exact genOp_sound hf h w
  · cases h

theorem boundA_spec (hf : FitsA ν N S a) {d l : Nat} {x : Option Operand} (h : boundA S d x = some l) : (x = none ∧ l = d) ∨ ∃ y k, x = some y ∧ a.eval y = .int k (l : Int) := by
  unfold boundA at h
  split at h
  · simp only [Option.some.injEq] at h; exact .inl ⟨rfl, h.symm⟩
  · rename_i y
    split at h
    · rename_i b hb
      obtain ⟨v, h1, h2⟩ := hf.op hb
      obtain ⟨k, rfl⟩ := intOf_val h h1
      exact .inr ⟨y, k, rfl, h2⟩
    · cases h

theorem run_bounds {sl : Bool} {ρ : Operand → Value} {lo hi : Option Operand} {l h len cap : Nat} (h1 : (lo = none ∧ l = 0) ∨ ∃ y k, lo = some y ∧ ρ y = .int k (l : Int)) (h2 : (hi = none ∧ h = len) ∨ ∃ y k, hi = some y ∧ ρ y = .int k (h : Int))
    (h3 : l ≤ h) (h4 : h ≤ cap) (w : World) : (Instr.sliceBounds sl len cap (lo.map ρ) (hi.map ρ) none).run P w = .ok (l, h, cap) w := by
  refine run_sliceBounds sl ?_ ?_ ⟨?_, ?_, h3, h4⟩
  · rcases h1 with ⟨h, _⟩ | h
    · exact .inl h
    · exact .inr h
  · rcases h2 with ⟨h, _⟩ | h
    · exact .inl h
    · exact .inr h
  · intro e
    rcases h1 with ⟨_, h⟩ | ⟨y, k, h, _⟩
    · exact h
    · rw [e] at h; cases h
  · intro e
    rcases h2 with ⟨_, h⟩ | ⟨y, k, h, _⟩
    · exact h
    · rw [e] at h; cases h

theorem resl_spec {id off len cap size l h : Nat} {kn : Bool} {av : AV} {p : Nat × Nat} {c : Nat} (hr : resl id off len cap kn size l h = some av) (hp : ν id = some p) (hc : len ≤ c) (k1 : kn = true → c = cap) (k2 : kn = false → c + cap = p.2) :
    l ≤ h ∧ h ≤ c ∧ AV.val ν av = some (.slice (some (if c = l then ⟨p.1, off, none⟩ else (Addr.mk p.1 off none).add (l * size))) (h - l) (c - l)) := by
  unfold resl at hr
  cases kn with
  | true =>
    obtain rfl := k1 rfl
    simp only at hr
    cases hb : (Nat.ble l h && Nat.ble h c) with
    | false => rw [hb] at hr; cases hr
    | true =>
      rw [hb] at hr
      simp only [Bool.and_eq_true] at hb
      have h1 := ble_true hb.1
      have h2 := ble_true hb.2
      simp only [cond_true, Option.some.injEq] at hr
      subst hr
      refine ⟨h1, h2, ?_⟩
      rw [slK_mk hp (by omega)]
      by_cases e : c = l
      · have : Nat.beq c l = true := by rw [beq_ble]; simp [e]
        rw [this, if_pos e]; rfl
      · have : Nat.beq c l = false := by rw [beq_ble]; simp [e]
        rw [this, if_neg e, add_mk]; rfl
  | false =>
    have k2 := k2 rfl
    simp only at hr
    cases hb : (Nat.ble l h && Nat.ble h len) with
    | false => rw [hb] at hr; cases hr
    | true =>
      rw [hb] at hr
      simp only [Bool.and_eq_true] at hb
      have h1 := ble_true hb.1
      have h2 := ble_true hb.2
      refine ⟨h1, by omega, ?_⟩
      simp only [cond_true] at hr
      cases e0 : Nat.beq l 0 with
      | true =>
        rw [e0] at hr
        have := Nat.eq_of_beq_eq_true e0
        subst this
        simp only [cond_true, Option.some.injEq] at hr
        subst hr
        rw [slU_mk hp (c := c) (by omega) k2]
        simp [add_mk]
      | false =>
        have hne := Nat.ne_of_beq_eq_false e0
        rw [e0] at hr
        simp only [cond_false] at hr
        cases e1 : Nat.beq l h with
        | true =>
          rw [e1] at hr
          have := Nat.eq_of_beq_eq_true e1
          subst this
          simp only [cond_true, Option.some.injEq] at hr
          subst hr
          have h5 : cap + l ≤ p.2 := by omega
          have h6 : p.2 - (cap + l) = c - l := by omega
          have h7 : (p.2 = cap + l) ↔ (c = l) := by omega
          have e5 : AV.val ν (.se id off (off + l * size) (cap + l)) = some (.slice (some ⟨p.1, if p.2 = cap + l then off else off + l * size, none⟩) 0 (p.2 - (cap + l))) := by simp only [AV.val, hp, h5, if_true]
          rw [e5, h6, Nat.sub_self]
          by_cases hcl : c = l
          · rw [if_pos (h7.2 hcl), if_pos hcl]
          · rw [if_neg (fun h => hcl (h7.1 h)), if_neg hcl, add_mk]
        | false =>
          rw [e1] at hr
          have := Nat.ne_of_beq_eq_false e1
          simp only [cond_false, Option.some.injEq] at hr
          subst hr
          rw [slU_mk hp (c := c - l) (by omega) (by omega), if_neg (by omega), add_mk]

theorem sliceA_sound (hf : FitsA ν N S a) {o : Oper} {t : TypeId} {x : Operand} {lo hi : Option Operand} (ho : o.op = .slice t x lo hi none) {xa av : AV} (hx : xa.val ν = some (a.eval x)) (h : sliceA P S t xa lo hi = some av) (w : World) :
    ∃ v, av.val ν = some v ∧ (execOp a.eval o).run P w = .ok (.value v) w := by
  unfold sliceA at h
  split at h
  · rename_i n e id off hu
    split at h
    · rename_i ie l hh hie hl hhi
      obtain ⟨p, hp, hv⟩ := ptr_val hx
      obtain ⟨h1, h2, h3⟩ := resl_spec (ν := ν) (c := n) h hp (Nat.le_refl _) (fun _ => rfl) (fun e => by cases e)
      refine ⟨_, h3, ?_⟩
      have b1 := boundA_spec hf hl
      have b2 := boundA_spec hf hhi
      have hr := run_bounds (P := P) (sl := false) b1 b2 h1 h2 w
      generalize a.eval = ρ at hv hr ⊢
      simp only [execOp, ho, Instr.sliceAt, Sem.run_bind, run_underlying hu, Result.andThen_ok, hv, Instr.sureAddr, Sem.run_pure, Option.map_none, hr, sizeOf, typeInfo, run_program, hie]
    · cases h
  · rename_i e id off len cap kn hu
    split at h
    · rename_i ie l hh hie hl hhi
      obtain ⟨p, c, hp, hv, hc, k1, k2⟩ := sl_val hx
      obtain ⟨h1, h2, h3⟩ := resl_spec (ν := ν) (c := c) h hp hc k1 k2
      refine ⟨_, h3, ?_⟩
      have b1 := boundA_spec hf hl
      have b2 := boundA_spec hf hhi
      have hr := run_bounds (P := P) (sl := true) (len := len) b1 b2 h1 h2 w
      generalize a.eval = ρ at hv hr ⊢
      simp only [execOp, ho, Instr.sliceAt, Instr.slice, Sem.run_bind, run_underlying hu, Result.andThen_ok, hv, Sem.run_pure, Option.map_none, hr, sizeOf, typeInfo, run_program, hie]
      congr 3
      split <;> rfl
    · cases h
  · rename_i e id o1 o2 sub hu
    split at h
    · rename_i ie hi2 hl hhi
      simp only [Option.some.injEq] at h
      subst h
      have hx2 := hx
      simp only [AV.val] at hx2
      cases hp : ν id with
      | none => rw [hp] at hx2; cases hx2
      | some p =>
        rw [hp] at hx2
        simp only at hx2
        split at hx2
        · rename_i hs
          refine ⟨_, hx, ?_⟩
          have b1 := boundA_spec hf hl
          have b2 := boundA_spec hf hhi
          have hr := run_bounds (P := P) (sl := true) (len := 0) (cap := p.2 - sub) b1 b2 (Nat.le_refl _) (Nat.zero_le _) w
          simp only [Option.some.injEq] at hx2
          generalize a.eval = ρ at hx2 hr ⊢
          simp only [execOp, ho, Instr.sliceAt, Instr.slice, Sem.run_bind, run_underlying hu, Result.andThen_ok, ← hx2, Sem.run_pure, Option.map_none, hr, sizeOf, typeInfo, run_program, hi2]
          congr 3
          simp [add_mk]
        · cases hx2
    · cases h
  · cases h
end
end Go.Ev
