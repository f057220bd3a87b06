/-
  Ev, part E: more operations that only read. Proved once, for any program. Conditions: none beside each theorem's own.
-/
import Derived.Test.YtnhjlddkmakfbaaDoorEvC
namespace Go.Ev
open Go.Sx
set_option linter.unusedVariables false
set_option linter.unusedSimpArgs false
section
variable {P : Program} {G : Nat → Option (List Value)} {ν : Nu} {N : Nat} {S : AE} {a : Act} {m : AM} {w : World}

theorem ptr_val {id off : Nat} {v : Value} (h : AV.val ν (.ptr id off) = some v) : ∃ p, ν id = some p ∧ v = .pointer (some ⟨p.1, off, none⟩) := by
  simp only [AV.val] at h
  cases hp : ν id with
  | none => rw [hp] at h; cases h
  | some p => rw [hp] at h; simp only [Option.some.injEq] at h; exact ⟨p, rfl, h.symm⟩

theorem sl_val {id off len cap : Nat} {kn : Bool} {v : Value} (h : AV.val ν (.sl id off len cap kn) = some v) :
    ∃ p c, ν id = some p ∧ v = .slice (some ⟨p.1, off, none⟩) len c ∧ len ≤ c ∧ (kn = true → c = cap) ∧ (kn = false → c + cap = p.2) := by
  simp only [AV.val] at h
  cases hp : ν id with
  | none => rw [hp] at h; cases h
  | some p =>
    rw [hp] at h
    cases kn with
    | true =>
      simp only at h
      split at h
      · rename_i hc
        simp only [Option.some.injEq] at h
        exact ⟨p, cap, rfl, h.symm, hc, (fun _ => rfl), (fun e => by cases e)⟩
      · cases h
    | false =>
      simp only at h
      split at h
      · rename_i hc
        simp only [Option.some.injEq] at h
        exact ⟨p, p.2 - cap, rfl, h.symm, by omega, (fun e => by cases e), (fun _ => by omega)⟩
      · cases h

theorem se_val {id o1 o2 sub : Nat} {v : Value} (h : AV.val ν (.se id o1 o2 sub) = some v) : ∃ p off c, ν id = some p ∧ v = .slice (some ⟨p.1, off, none⟩) 0 c := by
  simp only [AV.val] at h
  cases hp : ν id with
  | none => rw [hp] at h; cases h
  | some p =>
    rw [hp] at h
    simp only at h
    split at h
    · simp only [Option.some.injEq] at h; exact ⟨p, _, _, rfl, h.symm⟩
    · cases h

theorem mp_val {id : Nat} {v : Value} (h : AV.val ν (.mp id) = some v) : ∃ p, ν id = some p ∧ v = .map (some p.1) := by
  simp only [AV.val] at h
  cases hp : ν id with
  | none => rw [hp] at h; cases h
  | some p => rw [hp] at h; simp only [Option.some.injEq] at h; exact ⟨p, rfl, h.symm⟩

theorem agg_val {cs : List AV} {v : Value} (h : AV.val ν (.agg cs) = some v) : ∃ vs, vals ν cs = some vs ∧ v = .agg vs.toArray := by
  simp only [AV.val] at h
  cases hp : vals ν cs with
  | none => rw [hp] at h; cases h
  | some p => rw [hp] at h; simp only [Option.some.injEq] at h; exact ⟨p, rfl, h.symm⟩

theorem tup_val {cs : List AV} {v : Value} (h : AV.val ν (.tup cs) = some v) : ∃ vs, vals ν cs = some vs ∧ v = .tuple vs.toArray := by
  simp only [AV.val] at h
  cases hp : vals ν cs with
  | none => rw [hp] at h; cases h
  | some p => rw [hp] at h; simp only [Option.some.injEq] at h; exact ⟨p, rfl, h.symm⟩

theorem fn_val {f : FuncId} {x y : List AV} {v : Value} (h : AV.val ν (.fn f x y) = some v) : ∃ vs us, vals ν x = some vs ∧ vals ν y = some us ∧ v = .func (.func f) vs.toArray us.toArray := by
  simp only [AV.val] at h
  cases hx : vals ν x with
  | none => rw [hx] at h; cases h
  | some p =>
    cases hy : vals ν y with
    | none => rw [hx, hy] at h; cases h
    | some q => rw [hx, hy] at h; simp only [Option.some.injEq] at h; exact ⟨p, q, rfl, rfl, h.symm⟩

theorem intOf_val {x : AV} {n : Nat} {v : Value} (h : intOf? x = some n) (hv : x.val ν = some v) : ∃ k, v = .int k (n : Int) := by
  unfold intOf? at h
  split at h
  · rename_i k n'
    simp only [Option.some.injEq] at h
    subst h
    simp only [AV.val, Option.some.injEq] at hv
    exact ⟨k, hv.symm⟩
  · cases h

/-! ### Is it nil? -/
theorem isNil_spec {x : AV} {b : Bool} {v : Value} (h : isNilA x = some b) (hv : x.val ν = some v) :
    (b = true ∧ (v = .pointer none ∨ (∃ l c, v = .slice none l c) ∨ v = .map none ∨ v = .nilFunc)) ∨
    (b = false ∧ ((∃ ad, v = .pointer (some ad)) ∨ (∃ ad l c, v = .slice (some ad) l c) ∨ (∃ r, v = .map (some r)) ∨ ∃ f x y, v = .func f x y)) := by
  unfold isNilA at h
  split at h
  · obtain ⟨p, _, rfl⟩ := ptr_val hv; cases h; exact .inr ⟨rfl, .inl ⟨_, rfl⟩⟩
  · obtain ⟨p, c, _, rfl, _⟩ := sl_val hv; cases h; exact .inr ⟨rfl, .inr (.inl ⟨_, _, _, rfl⟩)⟩
  · obtain ⟨p, c, _, _, rfl⟩ := se_val hv; cases h; exact .inr ⟨rfl, .inr (.inl ⟨_, _, _, rfl⟩)⟩
  · obtain ⟨p, _, rfl⟩ := mp_val hv; cases h; exact .inr ⟨rfl, .inr (.inr (.inl ⟨_, rfl⟩))⟩
  · obtain ⟨_, _, _, _, rfl⟩ := fn_val hv; cases h; exact .inr ⟨rfl, .inr (.inr (.inr ⟨_, _, _, rfl⟩))⟩
  · simp only [AV.val, Option.some.injEq] at hv; subst hv; cases h; exact .inl ⟨rfl, .inl rfl⟩
  · simp only [AV.val, Option.some.injEq] at hv; subst hv; cases h; exact .inl ⟨rfl, .inr (.inl ⟨_, _, rfl⟩)⟩
  · simp only [AV.val, Option.some.injEq] at hv; subst hv; cases h; exact .inl ⟨rfl, .inr (.inr (.inl rfl))⟩
  · simp only [AV.val, Option.some.injEq] at hv; subst hv; cases h; exact .inl ⟨rfl, .inr (.inr (.inr rfl))⟩
  · simp only [AV.val, Option.some.injEq] at hv; subst hv; cases h; exact .inr ⟨rfl, .inr (.inr (.inr ⟨_, _, _, rfl⟩))⟩
  · simp only [AV.val, Option.some.injEq] at hv; subst hv; cases h; exact .inr ⟨rfl, .inl ⟨_, rfl⟩⟩
  · cases h

theorem eqlA_nil {x y : AV} {b : Bool} (h : eqlA x y = some b) : (isNilA x = some true ∧ isNilA y = some b) ∨ (isNilA y = some true ∧ isNilA x = some b) ∨ ∃ id i j, x = .ptr id i ∧ y = .ptr id j ∧ b = Nat.beq i j := by
  unfold eqlA at h
  split at h
  · rename_i b' h1 h2
    simp only [Option.some.injEq] at h; subst h
    exact .inl ⟨h1, h2⟩
  · rename_i b' h0 h1 h2
    simp only [Option.some.injEq] at h; subst h
    exact .inr (.inl ⟨h2, h1⟩)
  · rename_i h1 h2
    split at h
    · rename_i a i b' j
      cases hb : Nat.beq a b' with
      | false => rw [hb] at h; cases h
      | true =>
        rw [hb] at h
        obtain rfl := Nat.eq_of_beq_eq_true hb
        simp only [cond_true, Option.some.injEq] at h
        exact .inr (.inr ⟨a, i, j, rfl, rfl, h.symm⟩)
    · cases h
  · cases h

theorem eql_of (d : Nat) {x y : AV} {b : Bool} {u v : Value} {t : TypeId} (h : eqlA x y = some b) (hx : x.val ν = some u) (hy : y.val ν = some v) (ht : (∃ e ti, P.underlying t = some (.pointer e) ∧ P.info? e = some ti ∧ ti.size ≠ 0 ∧ (∃ a, u = .pointer a) ∧ ∃ a, v = .pointer a) ∨
      (∃ e, P.underlying t = some (.slice e) ∧ (∃ a l c, u = .slice a l c) ∧ ∃ a l c, v = .slice a l c) ∨ (∃ k e, P.underlying t = some (.map k e) ∧ (∃ a, u = .map a) ∧ ∃ a, v = .map a) ∨
      (∃ q r s, P.underlying t = some (.func q r s) ∧ (u = .nilFunc ∨ ∃ f x y, u = .func f x y) ∧ (v = .nilFunc ∨ ∃ f x y, v = .func f x y))) (w : World) :
    (Op.equalIn (d + 1) t u v).run P w = .ok b w := by
  rcases eqlA_nil h with ⟨h1, h2⟩ | ⟨h1, h2⟩ | ⟨id, i, j, rfl, rfl, rfl⟩
  · have k1 := isNil_spec h1 hx
    have k2 := isNil_spec h2 hy
    rcases ht with ⟨e, ti, hu, hi, hz, ⟨p, rfl⟩, q, rfl⟩ | ⟨e, hu, ⟨p, l, c, rfl⟩, q, l', c', rfl⟩ | ⟨k, e, hu, ⟨p, rfl⟩, q, rfl⟩ | ⟨q, r, s, hu, hp, hq⟩
    · simp only [Bool.true_eq_false, false_and, or_false, true_and, Value.pointer.injEq, reduceCtorEq, exists_false] at k1
      subst k1
      simp only [Op.equalIn, Sem.run_bind, run_underlying hu, Result.andThen_ok, Sem.run_pure]
      congr 1
      cases q <;> simp at k2 ⊢ <;> simp [k2]
    · simp only [Bool.true_eq_false, false_and, or_false, true_and, Value.slice.injEq, reduceCtorEq, exists_false, false_or] at k1
      obtain ⟨_, _, rfl, rfl, rfl⟩ := k1
      simp only [Op.equalIn, Sem.run_bind, run_underlying hu, Result.andThen_ok, Sem.run_pure]
      congr 1
      cases q <;> simp at k2 ⊢ <;> simp [k2]
    · simp only [Bool.true_eq_false, false_and, or_false, true_and, Value.map.injEq, reduceCtorEq, exists_false, false_or] at k1
      subst k1
      simp only [Op.equalIn, Sem.run_bind, run_underlying hu, Result.andThen_ok, Sem.run_pure]
      congr 1
      cases q <;> simp at k2 ⊢ <;> simp [k2]
    · rcases hp with rfl | ⟨f, x', y', rfl⟩
      · rcases hq with rfl | ⟨f, x', y', rfl⟩
        · simp at k2; subst k2
          simp only [Op.equalIn, Sem.run_bind, run_underlying hu, Result.andThen_ok, Sem.run_pure]
        · simp at k2; subst k2
          simp only [Op.equalIn, Sem.run_bind, run_underlying hu, Result.andThen_ok, Sem.run_pure]
      · simp at k1
  · have k1 := isNil_spec h1 hy
    have k2 := isNil_spec h2 hx
    rcases ht with ⟨e, ti, hu, hi, hz, ⟨p, rfl⟩, q, rfl⟩ | ⟨e, hu, ⟨p, l, c, rfl⟩, q, l', c', rfl⟩ | ⟨k, e, hu, ⟨p, rfl⟩, q, rfl⟩ | ⟨q, r, s, hu, hp, hq⟩
    · simp only [Bool.true_eq_false, false_and, or_false, true_and, Value.pointer.injEq, reduceCtorEq, exists_false] at k1
      subst k1
      cases p <;> simp at k2 <;> subst k2 <;> simp only [Op.equalIn, Sem.run_bind, run_underlying hu, Result.andThen_ok, Sem.run_pure] <;> rfl
    · simp only [Bool.true_eq_false, false_and, or_false, true_and, Value.slice.injEq, reduceCtorEq, exists_false, false_or] at k1
      obtain ⟨_, _, rfl, rfl, rfl⟩ := k1
      cases p <;> simp at k2 <;> subst k2 <;> simp only [Op.equalIn, Sem.run_bind, run_underlying hu, Result.andThen_ok, Sem.run_pure] <;> rfl
    · simp only [Bool.true_eq_false, false_and, or_false, true_and, Value.map.injEq, reduceCtorEq, exists_false, false_or] at k1
      subst k1
      cases p <;> simp at k2 <;> subst k2 <;> simp only [Op.equalIn, Sem.run_bind, run_underlying hu, Result.andThen_ok, Sem.run_pure] <;> rfl
    · rcases hq with rfl | ⟨f, x', y', rfl⟩
      · rcases hp with rfl | ⟨f, x', y', rfl⟩
        · simp at k2; subst k2
          simp only [Op.equalIn, Sem.run_bind, run_underlying hu, Result.andThen_ok, Sem.run_pure]
        · simp at k2; subst k2
          simp only [Op.equalIn, Sem.run_bind, run_underlying hu, Result.andThen_ok, Sem.run_pure]
      · simp at k1
  · obtain ⟨p, hp, rfl⟩ := ptr_val hx
    obtain ⟨p', hp', rfl⟩ := ptr_val hy
    rw [hp] at hp'
    cases hp'
    rcases ht with ⟨e, ti, hu, hi, hz, _, _⟩ | ⟨e, hu, ⟨_, _, _, h⟩, _⟩ | ⟨k, e, hu, ⟨_, h⟩, _⟩ | ⟨q, r, s, hu, h | ⟨_, _, _, h⟩, _⟩
    · simp only [Op.equalIn, Sem.run_bind, run_underlying hu, Result.andThen_ok, sizeOf, typeInfo, run_program, hi, Sem.run_pure, ne_eq, hz, not_false_eq_true, if_true, sameAddr]
      congr 1
      by_cases hij : i = j
      · subst hij; simp [beq_ble]
      · simp [beq_ble, hij]
    · cases h
    · cases h
    · cases h
    · cases h

theorem shape_ptr {x : AV} {v : Value} (h : shapeA x = 1) (hv : x.val ν = some v) : ∃ a, v = .pointer a := by
  unfold shapeA at h
  split at h
  · obtain ⟨p, _, rfl⟩ := ptr_val hv; exact ⟨_, rfl⟩
  · cases h
  · cases h
  · cases h
  · cases h
  · simp only [AV.val, Option.some.injEq] at hv
    subst hv
    split at h <;> first | exact ⟨_, rfl⟩ | cases h
  · cases h
theorem shape_sl {x : AV} {v : Value} (h : shapeA x = 2) (hv : x.val ν = some v) : ∃ a l c, v = .slice a l c := by
  unfold shapeA at h
  split at h
  · cases h
  · obtain ⟨p, c, _, rfl, _⟩ := sl_val hv; exact ⟨_, _, _, rfl⟩
  · obtain ⟨p, c, _, _, rfl⟩ := se_val hv; exact ⟨_, _, _, rfl⟩
  · cases h
  · cases h
  · simp only [AV.val, Option.some.injEq] at hv
    subst hv
    split at h <;> first | exact ⟨_, _, _, rfl⟩ | cases h
  · cases h
theorem shape_mp {x : AV} {v : Value} (h : shapeA x = 3) (hv : x.val ν = some v) : ∃ a, v = .map a := by
  unfold shapeA at h
  split at h
  · cases h
  · cases h
  · cases h
  · obtain ⟨p, _, rfl⟩ := mp_val hv; exact ⟨_, rfl⟩
  · cases h
  · simp only [AV.val, Option.some.injEq] at hv
    subst hv
    split at h <;> first | exact ⟨_, rfl⟩ | cases h
  · cases h
theorem shape_fn {x : AV} {v : Value} (h : shapeA x = 4) (hv : x.val ν = some v) : v = .nilFunc ∨ ∃ f a b, v = .func f a b := by
  unfold shapeA at h
  split at h
  · cases h
  · cases h
  · cases h
  · cases h
  · obtain ⟨_, _, _, _, rfl⟩ := fn_val hv; exact .inr ⟨_, _, _, rfl⟩
  · simp only [AV.val, Option.some.injEq] at hv
    subst hv
    split at h <;> first | exact .inl rfl | exact .inr ⟨_, _, _, rfl⟩ | cases h
  · cases h

theorem shapeA_le (x : AV) : shapeA x ≤ 4 := by
  unfold shapeA
  split <;> (try split) <;> omega

theorem nilEq_sound {op : BinOp} {t : TypeId} {x y av : AV} {u v : Value} (h : nilEq P op t x y = some av) (hx : x.val ν = some u) (hy : y.val ν = some v) (x' y' : Operand) (w : World) :
    ∃ r, av.val ν = some r ∧ (do eqGuard op t x' y' u v; binOp op t u v : Sem Value).run P w = .ok r w := by
  unfold nilEq at h
  cases hb : (Nat.beq (shapeA x) (shapeT P t) && Nat.beq (shapeA y) (shapeT P t)) with
  | false => rw [hb] at h; cases h
  | true =>
    rw [hb] at h
    simp only [cond_true] at h
    simp only [Bool.and_eq_true] at hb
    have e1 := Nat.eq_of_beq_eq_true hb.1
    have e2 := (Nat.eq_of_beq_eq_true hb.2).trans e1.symm
    have hle := shapeA_le x
    have guard : ∀ op, (eqGuard op t x' y' u v).run P w = .ok () w ∧ (∀ b, (Op.equal t u v).run P w = .ok b w → (binOp .eql t u v).run P w = .ok (.bool b) w ∧ (binOp .neq t u v).run P w = .ok (.bool (!b)) w) ∧ ∀ b, eqlA x y = some b → (Op.equal t u v).run P w = .ok b w := by
      intro op
      unfold shapeT at e1
      split at e1
      · rename_i e hu
        split at e1
        · rename_i ie hi
          cases hz : Nat.beq ie.size 0 with
          | true => rw [hz] at e1; simp only [cond_true] at e1; omega
          | false =>
            rw [hz] at e1
            simp only [cond_false] at e1
            obtain ⟨p, rfl⟩ := shape_ptr e1 hx
            obtain ⟨q, rfl⟩ := shape_ptr (e2.trans e1) hy
            refine ⟨by unfold eqGuard; split <;> simp, fun b hb => ?_, fun b hb => eql_of 9999 hb hx hy (.inl ⟨e, ie, hu, hi, Nat.ne_of_beq_eq_false hz, ⟨p, rfl⟩, q, rfl⟩) w⟩
            constructor <;> simp [binOp, hb, Sem.run_bind]
        · omega
      · rename_i e hu
        obtain ⟨p, l, c, rfl⟩ := shape_sl e1 hx
        obtain ⟨q, l', c', rfl⟩ := shape_sl (e2.trans e1) hy
        refine ⟨by unfold eqGuard; split <;> simp, fun b hb => ?_, fun b hb => eql_of 9999 hb hx hy (.inr (.inl ⟨e, hu, ⟨_, _, _, rfl⟩, _, _, _, rfl⟩)) w⟩
        constructor <;> simp [binOp, hb, Sem.run_bind]
      · rename_i k e hu
        obtain ⟨p, rfl⟩ := shape_mp e1 hx
        obtain ⟨q, rfl⟩ := shape_mp (e2.trans e1) hy
        refine ⟨by unfold eqGuard; split <;> simp, fun b hb => ?_, fun b hb => eql_of 9999 hb hx hy (.inr (.inr (.inl ⟨k, e, hu, ⟨_, rfl⟩, _, rfl⟩))) w⟩
        constructor <;> simp [binOp, hb, Sem.run_bind]
      · rename_i q r s hu
        have h1 := shape_fn e1 hx
        have h2 := shape_fn (e2.trans e1) hy
        refine ⟨?_, fun b hb => ?_, fun b hb => eql_of 9999 hb hx hy (.inr (.inr (.inr ⟨q, r, s, hu, h1, h2⟩))) w⟩
        · rcases h1 with rfl | ⟨_, _, _, rfl⟩ <;> rcases h2 with rfl | ⟨_, _, _, rfl⟩ <;> (unfold eqGuard; split <;> simp)
        · rcases h1 with rfl | ⟨_, _, _, rfl⟩ <;> rcases h2 with rfl | ⟨_, _, _, rfl⟩ <;> (constructor <;> simp [binOp, hb, Sem.run_bind])
      · omega
    split at h
    · rename_i b hq
      simp only [Option.some.injEq] at h
      subst h
      obtain ⟨g1, g2, g3⟩ := guard .eql
      exact ⟨_, rfl, by rw [Sem.run_bind, g1]; exact (g2 _ (g3 _ hq)).1⟩
    · rename_i b hq
      simp only [Option.some.injEq] at h
      subst h
      obtain ⟨g1, g2, g3⟩ := guard .neq
      exact ⟨_, rfl, by rw [Sem.run_bind, g1]; exact (g2 _ (g3 _ hq)).2⟩
    · cases h

theorem binOpA_sound (hf : FitsA ν N S a) {o : Oper} {op : BinOp} {t t' : TypeId} {x y : Operand} (ho : o.op = .binOp op t x y t') {av : AV} (h : binOpA P S o op t (opnd S x) (opnd S y) = some av) (w : World) :
    ∃ v, av.val ν = some v ∧ (execOp a.eval o).run P w = .ok (.value v) w := by
  unfold binOpA at h
  split at h
  · rename_i b c hb hc
    obtain ⟨u, hu, ex⟩ := hf.op hb
    obtain ⟨u', hu', ey⟩ := hf.op hc
    split at h
    · rename_i r hr
      simp only [Option.some.injEq] at h
      subst h
      obtain ⟨k, k', n, n', v, rfl, rfl, h1, h2⟩ := binA_sound hu hu' t hr
      exact ⟨v, h1, run_bin_int ho ex ey h2 w⟩
    · refine orGen_sound hf h w fun h => ?_
      obtain ⟨r, h1, h2⟩ := nilEq_sound h hu hu' x y w
      refine ⟨r, h1, ?_⟩
      simp only [execOp, ho, ex, ey, Sem.run_bind] at h2 ⊢
      rw [h2]
      rfl
  · cases h

theorem nilCheckA_sound (hf : FitsA ν N S a) {o : Oper} {x : Operand} (ho : o.op = .nilCheck x) {av : AV} (h : nilCheckA (opnd S x) = some av) (w : World) :
    ∃ v, av.val ν = some v ∧ (execOp a.eval o).run P w = .ok (.value v) w := by
  unfold nilCheckA at h
  split at h
  · rename_i id off hx
    obtain ⟨u, hu, ex⟩ := hf.op hx
    simp only [Option.some.injEq] at h; subst h
    obtain ⟨p, _, rfl⟩ := ptr_val hu
    exact ⟨_, hu, by simp [execOp, ho, ex]⟩
  · rename_i f y z hx
    obtain ⟨u, hu, ex⟩ := hf.op hx
    simp only [Option.some.injEq] at h; subst h
    obtain ⟨_, _, _, _, rfl⟩ := fn_val hu
    exact ⟨_, hu, by simp [execOp, ho, ex]⟩
  · rename_i ad hx
    obtain ⟨u, hu, ex⟩ := hf.op hx
    simp only [Option.some.injEq] at h; subst h
    simp only [AV.val, Option.some.injEq] at hu; subst hu
    exact ⟨_, rfl, by simp [execOp, ho, ex]⟩
  · rename_i f y z hx
    obtain ⟨u, hu, ex⟩ := hf.op hx
    simp only [Option.some.injEq] at h; subst h
    simp only [AV.val, Option.some.injEq] at hu; subst hu
    exact ⟨_, rfl, by simp [execOp, ho, ex]⟩
  · cases h
end
end Go.Ev
