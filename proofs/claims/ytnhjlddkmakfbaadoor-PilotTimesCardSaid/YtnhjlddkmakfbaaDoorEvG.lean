/-
  Ev, part G: literals, maps, and all operations that only read. Proved once, for any program. Conditions: none beside each theorem's own.
-/
import Derived.Test.YtnhjlddkmakfbaaDoorEvF
import Derived.Laws.Tables
namespace Go.Ev
open Go.Sx
set_option linter.unusedVariables false
set_option linter.unusedSimpArgs false

theorem splice_set {α : Type} : ∀ (n : Nat) (v : α) (vs cs : List α), n + (vs.length + 1) ≤ cs.length → splice n (v :: vs) cs = splice (n + 1) vs (cs.set n v)
  | 0, v, vs, [], h => by simp at h
  | 0, v, vs, c :: cs, h => rfl
  | n + 1, v, vs, [], h => by simp at h
  | n + 1, v, vs, c :: cs, h => by
    simp only [List.set_cons_succ, splice]
    rw [splice_set n v vs cs (by simp at h; omega)]

theorem splice_nil {α : Type} : ∀ (n : Nat) (cs : List α), n ≤ cs.length → splice n [] cs = cs
  | 0, cs, _ => rfl
  | n + 1, [], h => by simp at h
  | n + 1, c :: cs, h => by simp [splice, splice_nil n cs (by simpa using h)]

theorem foldl_splice {α : Type} (off : Nat) : ∀ (vs : List α) (k : Nat) (cells : Array α), off + k + vs.length ≤ cells.size →
    (vs.zipIdx k).foldl (fun cs x => cs.setIfInBounds (off + x.2) x.1) cells = (splice (off + k) vs cells.toList).toArray
  | [], k, cells, h => by
    simp only [List.zipIdx_nil, List.foldl_nil]
    rw [splice_nil _ _ (by simpa using h)]
  | v :: vs, k, cells, h => by
    simp only [List.length_cons] at h
    simp only [List.zipIdx_cons, List.foldl_cons]
    rw [foldl_splice off vs (k + 1) _ (by simp; omega), splice_set _ _ _ _ (by simp; omega)]
    simp [Nat.add_assoc]

theorem sxsplice {cells : Array Value} : ∀ (vs : List Value) (off : Nat), off + vs.length ≤ cells.size → Go.Sx.splice cells off vs = (splice off vs cells.toList).toArray := by
  intro vs
  induction vs generalizing cells with
  | nil => intro off h; rw [splice_nil _ _ (by simpa using h)]; simp [Go.Sx.splice]
  | cons v vs ih =>
    intro off h
    simp only [List.length_cons] at h
    rw [Go.Sx.splice, ih _ (by simp; omega), splice_set _ _ _ _ (by simp; omega)]
    simp

section
variable {P : Program} {G : Nat → Option (List Value)} {ν : Nu} {N : Nat} {S : AE} {a : Act} {m : AM} {w : World}

def valPs (ν : Nu) : List (Nat × AV) → List (Nat × Value) → Prop
  | [], [] => True
  | (i, x) :: l, (j, v) :: l' => i = j ∧ x.val ν = some v ∧ valPs ν l l'
  | _, _ => False

theorem fillA_spec (place : Nat → Option (Nat × Nat)) : ∀ {ps : List (Nat × AV)} {qs : List (Nat × Value)} {cells cs : List AV} {us : List Value}, fillA place cells ps = some cs → vals ν cells = some us → valPs ν ps qs →
    ∃ ws, vals ν cs = some ws ∧ Instr.fill place us.toArray qs = some ws.toArray
  | [], [], cells, cs, us, h, hu, _ => by
    simp only [fillA, Option.some.injEq] at h
    subst h
    exact ⟨us, hu, rfl⟩
  | (i, x) :: ps, (j, v) :: qs, cells, cs, us, h, hu, hp => by
    obtain ⟨rfl, hx, hp⟩ := hp
    simp only [fillA] at h
    split at h
    · cases h
    · rename_i off size hpl
      cases hb : (Nat.beq (cellsOf x).length size && Nat.ble (off + (cellsOf x).length) cells.length) with
      | false => rw [hb] at h; cases h
      | true =>
        rw [hb] at h
        simp only [Bool.and_eq_true] at hb
        simp only [cond_true] at h
        have h1 := Nat.eq_of_beq_eq_true hb.1
        have h2 := ble_true hb.2
        have hc := cellsOf_vals hx
        have l1 := vals_length hc
        have l2 := vals_length hu
        obtain ⟨ws, h3, h4⟩ := fillA_spec place h (splice_vals off hc hu) hp
        refine ⟨ws, h3, ?_⟩
        have e1 : v.cells.size = size := by rw [← Array.length_toList, l1, h1]
        have e2 : ¬ (off + v.cells.size > us.toArray.size) := by
          simp only [List.size_toArray, l2, e1]
          rw [h1] at h2
          omega
        simp only [Instr.fill, hpl]
        rw [if_neg (by simp only [Bool.or_eq_true, decide_eq_true_eq, not_or]; exact ⟨by simpa using e1, by simpa using e2⟩)]
        have e3 : (v.cells.zipIdx.foldl (fun cs x => cs.setIfInBounds (off + x.2) x.1) us.toArray) = (splice off v.cells.toList us).toArray := by
          rw [← Array.foldl_toList, Array.toList_zipIdx]
          have := foldl_splice off v.cells.toList 0 us.toArray (by simp only [Array.length_toList, List.size_toArray] at e2 ⊢; omega)
          simpa using this
        exact (congrArg (fun z => Instr.fill place z qs) e3).trans h4

theorem partsA_spec (hf : FitsA ν N S a) : ∀ {l : List (Nat × Operand)} {ps : List (Nat × AV)}, partsA S l = some ps → valPs ν ps (l.map fun (i, x) => (i, a.eval x))
  | [], ps, h => by simp only [partsA, Option.some.injEq] at h; subst h; trivial
  | (i, x) :: l, ps, h => by
    simp only [partsA] at h
    split at h
    · rename_i b hb
      split at h
      · rename_i bs hbs
        simp only [Option.some.injEq] at h
        subst h
        obtain ⟨v, h1, h2⟩ := hf.op hb
        exact ⟨rfl, by rw [h2]; exact h1, partsA_spec hf hbs⟩
      · cases h
    · cases h

theorem places_spec : ∀ {fs : List Field} {pl : List (Nat × Nat)}, places P fs = some pl → fs.mapM (fun f => (P.info? f.type).map fun i => (f.offset, i.size)) = some pl
  | [], pl, h => by simp only [places, Option.some.injEq] at h; subst h; rfl
  | f :: fs, pl, h => by
    simp only [places] at h
    split at h
    · rename_i i hi
      split at h
      · rename_i ps hps
        simp only [Option.some.injEq] at h
        subst h
        simp [List.mapM_cons, hi, places_spec hps]
      · cases h
    · cases h

theorem zeroOf_spec {t : TypeId} {z : List AV} (h : zeroOf P t = some z) : ∃ ti zv, P.info? t = some ti ∧ ti.zero = some zv ∧ vals ν z = some zv.cells.toList := by
  unfold zeroOf at h
  split at h
  · rename_i i hi
    split at h
    · rename_i zv hz
      simp only [Option.some.injEq] at h
      subst h
      exact ⟨i, zv, hi, hz, cellsOf_vals (lift_val ν zv)⟩
    · cases h
  · cases h

theorem buildA_sound (hf : FitsA ν N S a) {o : Oper} {t : TypeId} {parts : Array (Nat × Operand)} (ho : o.op = .build t parts) {av : AV} (h : buildA P S t parts.toList = some av) (w : World) :
    ∃ v, av.val ν = some v ∧ (execOp a.eval o).run P w = .ok (.value v) w := by
  have key : ∀ cells, P.built t (parts.map fun (i, x) => (i, a.eval x)).toList = some cells → (execOp a.eval o).run P w = .ok (.value (.agg cells)) w := by
    intro cells hc
    have := run_build (P := P) w t (parts.map fun (i, x) => (i, a.eval x)) cells hc
    generalize a.eval = ρ at this ⊢
    simp only [execOp, ho, Sem.run_bind, this, Result.andThen_ok, Sem.run_pure]
  unfold buildA at h
  split at h
  · rename_i z ps fields hz hps hu
    obtain ⟨ti, zv, h1, h2, h3⟩ := zeroOf_spec (ν := ν) hz
    have hq := partsA_spec hf hps
    split at h
    · rename_i pl hpl
      split at h
      · rename_i cs hcs
        simp only [Option.some.injEq] at h
        subst h
        obtain ⟨ws, h4, h5⟩ := fillA_spec _ hcs h3 hq
        refine ⟨_, by simp only [AV.val, h4]; rfl, key _ ?_⟩
        simp only [Program.built, h1, hu, h2, places_spec hpl, Array.toList_map]
        have : (fun x : Nat => pl.toArray[x]?) = (fun x : Nat => pl[x]?) := by funext x; simp
        rw [this]
        simpa using h5
      · cases h
    · cases h
  · rename_i z ps n e hz hps hu
    obtain ⟨ti, zv, h1, h2, h3⟩ := zeroOf_spec (ν := ν) hz
    have hq := partsA_spec hf hps
    split at h
    · rename_i ie hie
      split at h
      · rename_i cs hcs
        simp only [Option.some.injEq] at h
        subst h
        obtain ⟨ws, h4, h5⟩ := fillA_spec _ hcs h3 hq
        refine ⟨_, by simp only [AV.val, h4]; rfl, key _ ?_⟩
        simp only [Program.built, h1, hu, h2, hie, Array.toList_map]
        simpa using h5
      · cases h
    · cases h
  · cases h

/-! ### Maps -/
theorem driveP_sound {α : Type} : ∀ (s : Sem α) {x : α}, driveP P s = some x → ∀ w, s.run P w = .ok x w := by
  intro s
  induction s with
  | pure b => intro x h w; simp only [driveP, Option.some.injEq] at h; subst h; rfl
  | program k ih => intro x h w; exact ih P h w
  | mark mk k ih => intro x h w; exact ih h w
  | _ => intro x h; simp [driveP] at h

theorem driveP_bind {α β : Type} : ∀ (s : Sem α) (f : α → Sem β) {y : β}, driveP P (s.bind f) = some y → ∃ x, driveP P s = some x ∧ driveP P (f x) = some y := by
  intro s f
  induction s with
  | pure b => intro y h; exact ⟨b, rfl, h⟩
  | program k ih => intro y h; exact ih P h
  | mark mk k ih => intro y h; exact ih h
  | _ => intro y h; simp [driveP, Sem.bind] at h

theorem valEs_spec : ∀ {es : List (Value × AV × Nat)} {l : List MapEntry}, valEs ν es = some l → l.map (·.key) = es.map (·.1) ∧ l.map (·.born) = es.map (·.2.2) ∧ ∀ (i : Nat) (e : Value × AV × Nat), es[i]? = some e → ∃ v, e.2.1.val ν = some v ∧ l[i]? = some ⟨e.1, v, e.2.2⟩
  | [], l, h => by simp only [valEs, Option.some.injEq] at h; subst h; exact ⟨rfl, rfl, fun i e h => by simp at h⟩
  | e :: es, l, h => by
    simp only [valEs] at h
    split at h
    · rename_i v vs hv hvs
      simp only [Option.some.injEq] at h
      subst h
      obtain ⟨h1, h2, h3⟩ := valEs_spec hvs
      refine ⟨by simp [h1], by simp [h2], fun i x hx => ?_⟩
      cases i with
      | zero => simp at hx; subst hx; exact ⟨v, hv, rfl⟩
      | succ i => simpa using h3 i x (by simpa using hx)
    · cases h

theorem findNow_spec (kind : TypeDesc) (k : Value) : ∀ (es l : List MapEntry) (i : Nat), l.map (·.key) = es.map (·.key) →
    (Instr.findNow kind k es i = none → Instr.findNow kind k l i = none) ∧ (Instr.findNow kind k es i = some none → Instr.findNow kind k l i = some none) ∧
    ∀ j v, Instr.findNow kind k es i = some (some (j, v)) → ∃ e, i ≤ j ∧ l[j - i]? = some e ∧ Instr.findNow kind k l i = some (some (j, e.val))
  | [], [], i, _ => ⟨fun h => h, fun h => h, fun j v h => by simp [Instr.findNow] at h⟩
  | e :: es, x :: l, i, h => by
    simp only [List.map_cons, List.cons.injEq] at h
    obtain ⟨h1, h2⟩ := h
    obtain ⟨k1, k2, k3⟩ := findNow_spec kind k es l (i + 1) h2
    simp only [Instr.findNow, h1]
    cases Instr.sameNow kind k e.key with
    | none => exact ⟨fun h => h, fun h => h, fun j v h => by simp at h⟩
    | some b =>
      cases b with
      | true =>
        refine ⟨fun h => by simp at h, fun h => by simp at h, fun j v h => ?_⟩
        simp only [Option.some.injEq, Prod.mk.injEq] at h
        obtain ⟨rfl, _⟩ := h
        exact ⟨x, Nat.le_refl _, by simp, rfl⟩
      | false =>
        refine ⟨k1, k2, fun j v h => ?_⟩
        obtain ⟨y, h3, h4, h5⟩ := k3 j v h
        refine ⟨y, by omega, ?_, h5⟩
        rw [show j - i = (j - (i + 1)) + 1 from by omega]
        simpa using h4
  | [], x :: l, i, h => by simp at h
  | e :: es, [], i, h => by simp at h

theorem findAsking_spec (kt : TypeId) (k : Value) (w : World) : ∀ (es l : List MapEntry) (i : Nat), l.map (·.key) = es.map (·.key) → ∀ r, driveP P (Instr.findAsking kt k es i) = some r →
    (r = none ∧ (Instr.findAsking kt k l i).run P w = .ok none w) ∨ ∃ j v e, r = some (j, v) ∧ i ≤ j ∧ l[j - i]? = some e ∧ (Instr.findAsking kt k l i).run P w = .ok (some (j, e.val)) w
  | [], [], i, _, r, h => by simp only [Instr.findAsking, pure, driveP, Option.some.injEq] at h; subst h; exact .inl ⟨rfl, rfl⟩
  | e :: es, x :: l, i, h, r, hr => by
    simp only [List.map_cons, List.cons.injEq] at h
    obtain ⟨h1, h2⟩ := h
    simp only [Instr.findAsking, bind] at hr
    obtain ⟨b, hb, hr⟩ := driveP_bind _ _ hr
    have hb' := driveP_sound _ hb w
    simp only [Instr.findAsking, Sem.run_bind, h1, hb', Result.andThen_ok]
    cases b with
    | true =>
      simp only [if_true, pure, driveP, Option.some.injEq] at hr
      subst hr
      exact .inr ⟨i, _, x, rfl, Nat.le_refl _, by simp, rfl⟩
    | false =>
      simp only [Bool.false_eq_true, if_false] at hr ⊢
      rcases findAsking_spec kt k w es l (i + 1) h2 r hr with h | ⟨j, v, y, h3, h4, h5, h6⟩
      · exact .inl h
      · refine .inr ⟨j, v, y, h3, by omega, ?_, h6⟩
        rw [show j - i = (j - (i + 1)) + 1 from by omega]
        simpa using h5
  | [], x :: l, i, h, _, _ => by simp at h
  | e :: es, [], i, h, _, _ => by simp at h

theorem keysOf_keys (es : List (Value × AV × Nat)) : (keysOf es).map (·.key) = es.map (·.1) := by simp [keysOf]

theorem findA_spec {kt : TypeId} {k : Value} {es : List (Value × AV × Nat)} {l : List MapEntry} {r : Option Nat} (h : findA P kt k es = some r) (hl : valEs ν es = some l) (w : World) :
    (r = none ∧ (Instr.findKey kt k l).run P w = .ok none w) ∨ ∃ j e, r = some j ∧ l[j]? = some e ∧ (Instr.findKey kt k l).run P w = .ok (some (j, e.val)) w := by
  have hk : l.map (·.key) = (keysOf es).map (·.key) := by rw [keysOf_keys, (valEs_spec hl).1]
  have key : ∀ q, driveP P (Instr.findKey kt k (keysOf es)) = some q → (q = none ∧ (Instr.findKey kt k l).run P w = .ok none w) ∨ ∃ j v e, q = some (j, v) ∧ l[j]? = some e ∧ (Instr.findKey kt k l).run P w = .ok (some (j, e.val)) w := by
    intro q hq
    simp only [Instr.findKey, bind] at hq
    obtain ⟨d, hd, hq⟩ := driveP_bind _ _ hq
    have hd' := driveP_sound _ hd w
    obtain ⟨k1, k2, k3⟩ := findNow_spec d k (keysOf es) l 0 hk
    simp only [Instr.findKey, Sem.run_bind, hd', Result.andThen_ok]
    cases hn : Instr.findNow d k (keysOf es) 0 with
    | none =>
      rw [hn] at hq
      rw [k1 hn]
      rcases findAsking_spec kt k w (keysOf es) l 0 hk q hq with h | ⟨j, v, e, h3, _, h5, h6⟩
      · exact .inl h
      · exact .inr ⟨j, v, e, h3, by simpa using h5, h6⟩
    | some z =>
      rw [hn] at hq
      simp only [pure, driveP, Option.some.injEq] at hq
      subst hq
      cases z with
      | none => rw [k2 hn]; exact .inl ⟨rfl, rfl⟩
      | some jv =>
        obtain ⟨j, v⟩ := jv
        obtain ⟨e, _, h5, h6⟩ := k3 j v hn
        rw [h6]
        exact .inr ⟨j, v, e, rfl, by simpa using h5, rfl⟩
  unfold findA at h
  split at h
  · rename_i j v hq
    simp only [Option.some.injEq] at h
    subst h
    rcases key _ hq with ⟨h, _⟩ | ⟨j', v', e, h1, h2, h3⟩
    · cases h
    · cases h1; exact .inr ⟨_, e, rfl, h2, h3⟩
  · rename_i hq
    simp only [Option.some.injEq] at h
    subst h
    rcases key _ hq with ⟨_, h⟩ | ⟨j', v', e, h1, h2, h3⟩
    · exact .inl ⟨rfl, h⟩
    · cases h1
  · cases h

theorem keyOK_spec {em : Bool} {kt : TypeId} {k : Value} (h : keyOK P em kt k = true) (w : World) : (Instr.checkKey em 10000 kt k).run P w = .ok () w := by
  unfold keyOK at h
  split at h
  · rename_i u hu; exact driveP_sound _ hu w
  · cases h

theorem emptyL_eq {α : Type} (l : List α) : emptyL l = l.isEmpty := by cases l <;> rfl

theorem valEs_length {es : List (Value × AV × Nat)} {l : List MapEntry} (h : valEs ν es = some l) : l.length = es.length := by
  have := congrArg List.length (valEs_spec h).1
  simpa using this

theorem map_at (hm : MemOK ν m w) {id clock : Nat} {es : List (Value × AV × Nat)} (h : m.get id = some (.map es clock)) : ∃ p l, ν id = some p ∧ valEs ν es = some l ∧ w.heap[p.1]? = some (.map l.toArray clock) := by
  obtain ⟨p, o, h1, h2, l, h3, rfl⟩ := hm.at_ id _ h
  exact ⟨p, l, h1, h3, h2⟩

theorem lookupA_sound (hm : MemOK ν m w) {o : Oper} {t : TypeId} {x k : Operand} {ok : Bool} (ho : o.op = .lookup t x k ok) {ρ : Operand → Value} {xa ka av : AV} (hx : xa.val ν = some (ρ x)) (hk : ka.val ν = some (ρ k)) (h : lookupA P m t xa ka ok = some av) :
    ∃ v, av.val ν = some v ∧ (execOp ρ o).run P w = .ok (.value v) w := by
  unfold lookupA at h
  split at h
  · rename_i id kv kt e hkv hu
    have hkv' := flatOf_val (ν := ν) hkv
    rw [hk] at hkv'
    obtain ⟨p, hp, hv⟩ := mp_val hx
    split at h
    · rename_i es clock ie hg hie
      obtain ⟨p', l, hp', hl, hb⟩ := map_at hm hg
      rw [hp] at hp'
      cases hp'
      cases hko : keyOK P (emptyL es) kt kv with
      | false => rw [hko] at h; cases h
      | true =>
        rw [hko] at h
        simp only [cond_true] at h
        have hck := keyOK_spec hko w
        have hem : l.toArray.isEmpty = emptyL es := by
          rw [emptyL_eq]
          have := valEs_length hl
          cases l <;> cases es <;> simp at this ⊢
        have hrun : ∀ r, (Instr.findKey kt kv l).run P w = .ok r w → (execOp ρ o).run P w = ((match r with
            | some (_, v) => (pure (v, true) : Sem (Value × Bool))
            | none => do pure (← zeroValue e, false)).run P w).andThen fun q w' => .ok (.value (if ok then .tuple #[q.1, .bool q.2] else q.1)) w' := by
          intro r hr
          have hbo : (getObj p.1).run P w = .ok (.map l.toArray clock) w := by simp [getObj, Sem.run, hb]
          simp only [Option.some.injEq] at hkv'
          simp only [execOp, ho, hv, hkv', Instr.lookup, Sem.run_bind, run_underlying hu, Result.andThen_ok, hbo, Sem.run_pure, hem, hck, hr]
          cases r with
          | none =>
            simp only [Sem.run_bind, zeroValue, typeInfo, run_program, hie, Result.andThen_ok, Sem.run_pure]
            cases hz : ie.zero with
            | none => rfl
            | some z => cases ok <;> simp
          | some q => cases ok <;> simp
        split at h
        · rename_i i _ hfi
          split at h
          · rename_i en hen
            rcases findA_spec hfi hl w with ⟨h1, _⟩ | ⟨j, e', h1, h2, h3⟩
            · cases h1
            · cases h1
              obtain ⟨v, h4, h5⟩ := (valEs_spec hl).2.2 _ _ hen
              rw [h2] at h5
              cases h5
              rw [hrun _ h3]
              simp only [Option.some.injEq] at h
              subst h
              cases ok with
              | true => exact ⟨_, by simp only [AV.val, vals, h4]; rfl, by simp⟩
              | false => exact ⟨v, h4, by simp⟩
          · cases h
        · rename_i z hfi hz
          rcases findA_spec hfi hl w with ⟨_, h1⟩ | ⟨j, e', h1, h2, h3⟩
          · rw [hrun _ h1]
            simp only [Option.some.injEq] at h
            subst h
            cases ok with
            | true => exact ⟨.tuple #[z, .bool false], by simp only [AV.val, vals, lift_val], by simp [Sem.run_bind, zeroValue, typeInfo, hie, hz]⟩
            | false => exact ⟨z, lift_val ν z, by simp [Sem.run_bind, zeroValue, typeInfo, hie, hz]⟩
          · cases h1
        · cases h
    · cases h
  · cases h

/-! ### Builtins that only read -/
theorem run_bA (hf : FitsA ν N S a) {o : Oper} {c : Call} {b : Builtin} (ho : o.op = .call c) (hc : c.callee = .builtin b) {as : List AV} (ha : opnds S c.args.toList = some as) (w : World) :
    ∃ (vs : List Value) (cs : Array Bool), vals ν as = some vs ∧ (execOp a.eval o).run P w = (builtin b c.argTypes o.type cs vs.toArray).run P w := by
  have h1 := hf.ops ha
  have h4 : c.args.map a.eval = (c.args.toList.map a.eval).toArray := by apply Array.ext'; simp
  generalize a.eval = ρ at h1 h4 ⊢
  exact ⟨_, _, h1, by rw [← h4]; simp [execOp, ho, resolve, hc, invoke]; rfl⟩

theorem lenOp_sound (hm : MemOK ν m w) {ts : Array TypeId} {as : List AV} {vs : List Value} (hv : vals ν as = some vs) {av : AV} (h : lenOp P m ts.toList as = some av) (ty : TypeId) : ∃ v, av.val ν = some v ∧ (Builtin.len_ ts ty vs.toArray).run P w = .ok v w := by
  unfold lenOp at h
  split at h
  · rename_i t x ht
    obtain ⟨xv, l0, hx, h0, rfl⟩ := vals_cons.1 hv
    simp only [vals, Option.some.injEq] at h0
    subst h0
    have ht0 : ts[0]? = some t := by rw [← Array.getElem?_toList, ht]; rfl
    split at h
    · rename_i e id off len cap kn hu
      obtain ⟨p, c, _, rfl, _⟩ := sl_val hx
      cases h
      exact ⟨_, rfl, by simp [Builtin.len_, ht0, run_underlying hu, goInt]⟩
    · rename_i e id o1 o2 sub hu
      obtain ⟨p, _, c, _, rfl⟩ := se_val hx
      cases h
      exact ⟨_, rfl, by simp [Builtin.len_, ht0, run_underlying hu, goInt]⟩
    · rename_i k e id hu
      obtain ⟨p, hp, rfl⟩ := mp_val hx
      split at h
      · rename_i es clock hg
        obtain ⟨p', l, hp', hl, hb⟩ := map_at hm hg
        rw [hp] at hp'
        cases hp'
        cases h
        have hbo : (getObj p.1).run P w = .ok (.map l.toArray clock) w := by simp [getObj, Sem.run, hb]
        exact ⟨_, rfl, by simp [Builtin.len_, ht0, run_underlying hu, goInt, Sem.run_bind, hbo, valEs_length hl]⟩
      · cases h
    · rename_i arr id off hu
      obtain ⟨p, _, rfl⟩ := ptr_val hx
      split at h
      · rename_i n e hu2
        cases h
        exact ⟨_, rfl, by simp [Builtin.len_, ht0, run_underlying hu, run_underlying hu2, goInt, Sem.run_bind]⟩
      · cases h
    · rename_i n e cs hu
      obtain ⟨us, _, rfl⟩ := agg_val hx
      cases h
      exact ⟨_, rfl, by simp [Builtin.len_, ht0, run_underlying hu, goInt]⟩
    · cases h
  · cases h

theorem lenOpA_sound (hf : FitsA ν N S a) (hm : MemOK ν m w) {o : Oper} {c : Call} (ho : o.op = .call c) (hc : c.callee = .builtin .len) {av : AV} (h : lenOpA P m S o c = some av) :
    ∃ v, av.val ν = some v ∧ (execOp a.eval o).run P w = .ok (.value v) w := by
  unfold lenOpA at h
  split at h
  · rename_i as ha
    refine orGen_sound hf h w fun h => ?_
    obtain ⟨vs, cs, h1, h2⟩ := run_bA hf ho hc ha w
    obtain ⟨v, h3, h4⟩ := lenOp_sound hm h1 h o.type
    refine ⟨v, h3, ?_⟩
    rw [h2]
    simp only [builtin, Sem.run_bind, h4, Result.andThen_ok, Sem.run_pure]
  · cases h

theorem bornA_spec {n : Nat} : ∀ {es : List (Value × AV × Nat)} {l : List MapEntry} {k : Value} {x : AV}, bornA n es = some (k, x) → valEs ν es = some l → ∃ v, x.val ν = some v ∧ l.find? (·.born == n) = some ⟨k, v, n⟩
  | e :: es, l, k, x, h, hl => by
    simp only [valEs] at hl
    split at hl
    · rename_i v vs hv hvs
      simp only [Option.some.injEq] at hl
      subst hl
      simp only [bornA] at h
      cases hb : Nat.beq e.2.2 n with
      | true =>
        rw [hb] at h
        have := Nat.eq_of_beq_eq_true hb
        simp only [cond_true, Option.some.injEq, Prod.mk.injEq] at h
        obtain ⟨rfl, rfl⟩ := h
        subst this
        exact ⟨v, hv, by simp⟩
      | false =>
        rw [hb] at h
        have hne := Nat.ne_of_beq_eq_false hb
        obtain ⟨u, h1, h2⟩ := bornA_spec h hvs
        refine ⟨u, h1, ?_⟩
        rw [List.find?_cons_of_neg (by simpa using hne)]
        exact h2
    · cases hl

theorem entryA_sound (hm : MemOK ν m w) {o : Oper} {x : Operand} (ho : o.op = .entry x) {ρ : Operand → Value} {xa av : AV} (hx : xa.val ν = some (ρ x)) (h : entryA m xa = some av) :
    ∃ v, av.val ν = some v ∧ (execOp ρ o).run P w = .ok (.value v) w := by
  unfold entryA at h
  split at h
  · rename_i id
    obtain ⟨p, hp, hv⟩ := ptr_val hx
    split at h
    · rename_i mid since seen stepped hg
      obtain ⟨p', ob, hp', hb, q, hq, rfl⟩ := hm.at_ id _ hg
      rw [hp] at hp'
      cases hp'
      split at h
      · rename_i es clock stamp hg2 hst
        obtain ⟨q', l, hq', hl, hb2⟩ := map_at hm hg2
        rw [hq] at hq'
        cases hq'
        cases hc : Nat.beq clock stepped with
        | false => rw [hc] at h; cases h
        | true =>
          rw [hc] at h
          have := Nat.eq_of_beq_eq_true hc
          subst this
          simp only [cond_true] at h
          split at h
          · rename_i k v hbo
            simp only [Option.some.injEq] at h
            subst h
            obtain ⟨u, h1, h2⟩ := bornA_spec hbo hl
            refine ⟨.tuple #[k, u], by simp only [AV.val, vals, lift_val, h1], ?_⟩
            have g1 : (getObj p.1).run P w = .ok (.mapIter (some q.1) since seen.toArray clock) w := by simp [getObj, Sem.run, hb]
            have g2 : (getObj q.1).run P w = .ok (.map l.toArray clock) w := by simp [getObj, Sem.run, hb2]
            have g3 : seen.toArray.back? = some stamp := by simpa using hst
            have g4 : l.toArray.find? (fun e => e.born == stamp) = some ⟨k, u, stamp⟩ := by simpa using h2
            simp only [execOp, ho, hv, Instr.entry, Sem.run_bind, g1, Result.andThen_ok, g3, g2, g4, Sem.run_pure, bne_self_eq_false, Bool.false_eq_true, if_false]
          · cases h
      · cases h
    · cases h
  · cases h

theorem on1_some {x : Option AV} {f : AV → Option AV} {av : AV} (h : on1 x f = some av) : ∃ b, x = some b ∧ f b = some av := by
  cases x with
  | none => cases h
  | some b => exact ⟨b, rfl, h⟩
theorem on2_some {x y : Option AV} {f : AV → AV → Option AV} {av : AV} (h : on2 x y f = some av) : ∃ b c, x = some b ∧ y = some c ∧ f b c = some av := by
  cases x with
  | none => cases h
  | some b =>
    cases y with
    | none => cases h
    | some c => exact ⟨b, c, rfl, rfl, h⟩

/-- AN OPERATION THAT ONLY READS. -/
theorem readOp_sound (hf : FitsA ν N S a) (hm : MemOK ν m w) (hG : Glob G w) {o : Oper} {av : AV} (h : readOp P G m S o = some av) : ∃ v, av.val ν = some v ∧ (execOp a.eval o).run P w = .ok (.value v) w := by
  have op1 : ∀ {x : Operand} {b : AV}, opnd S x = some b → b.val ν = some (a.eval x) := by
    intro x b hb
    obtain ⟨v, h1, h2⟩ := hf.op hb
    rw [h2]; exact h1
  unfold readOp at h
  split at h
  · rename_i x ho
    obtain ⟨v, h1, h2⟩ := hf.op h
    exact ⟨v, h1, by simp [execOp, ho, h2]⟩
  · rename_i x ho
    obtain ⟨v, h1, h2⟩ := hf.op h
    exact ⟨v, h1, by simp [execOp, ho, h2]⟩
  · rename_i c x y ho
    unfold pickA at h
    split at h
    · rename_i t ht
      obtain ⟨v, h1, h2⟩ := hf.op ht
      simp only [AV.val, Option.some.injEq] at h1
      subst h1
      split at h
      · obtain ⟨u, h3, h4⟩ := hf.op h
        exact ⟨u, h3, by simp [execOp, ho, h2, asBool, h4]⟩
      · obtain ⟨u, h3, h4⟩ := hf.op h
        exact ⟨u, h3, by simp [execOp, ho, h2, asBool, h4]⟩
    · cases h
  · rename_i t parts ho
    exact orGen_sound hf h w fun h => buildA_sound hf ho h w
  · rename_i t x ho
    obtain ⟨b, hb, h⟩ := on1_some h
    obtain ⟨ad, v, h1, h2, h3⟩ := loadA_sound hm hG (op1 hb) h
    exact ⟨v, h2, run_load ho h1 h3⟩
  · rename_i x ho
    exact nilCheckA_sound hf ho h w
  · rename_i op t x y t' ho
    exact binOpA_sound hf ho h w
  · rename_i fn fst cap ho
    unfold makeFuncA at h
    split at h
    · rename_i f x y hx hy
      simp only [Option.some.injEq] at h
      subst h
      have h1 := hf.ops hx
      have h2 := hf.ops hy
      refine ⟨_, by simp only [AV.val, h1, h2]; rfl, ?_⟩
      generalize a.eval = ρ
      simp only [execOp, ho, Instr.makeFunc, Sem.run_bind, Sem.run_pure, Result.andThen_ok]
      congr 3 <;> (apply Array.ext'; simp)
    · cases h
  · rename_i t x lo hi mx ho
    unfold sliceOpA at h
    split at h
    · rename_i b hb
      exact orGen_sound hf h w fun h => sliceA_sound hf ho (op1 hb) h w
    · cases h
  · rename_i t x f ho
    refine orGen_sound hf h w fun h => ?_
    obtain ⟨b, hb, h⟩ := on1_some h
    exact fieldAddrA_sound ho (op1 hb) h w
  · rename_i t x f ho
    refine orGen_sound hf h w fun h => ?_
    obtain ⟨b, hb, h⟩ := on1_some h
    exact fieldA_sound ho (op1 hb) h w
  · rename_i t x i ho
    refine orGen_sound hf h w fun h => ?_
    obtain ⟨b, c, hb, hc, h⟩ := on2_some h
    exact indexAddrA_sound ho (op1 hb) (op1 hc) h w
  · rename_i t x i ho
    refine orGen_sound hf h w fun h => ?_
    obtain ⟨b, c, hb, hc, h⟩ := on2_some h
    exact indexA_sound ho (op1 hb) (op1 hc) h w
  · rename_i t x k ok ho
    refine orGen_sound hf h w fun h => ?_
    obtain ⟨b, c, hb, hc, h⟩ := on2_some h
    exact lookupA_sound hm ho (op1 hb) (op1 hc) h
  · rename_i x i ho
    exact extractA_sound hf ho h w
  · rename_i x ho
    obtain ⟨b, hb, h⟩ := on1_some h
    exact entryA_sound hm ho (op1 hb) h
  · rename_i t x ho
    obtain ⟨b, hb, h⟩ := on1_some h
    exact arrayAtA_sound ho (op1 hb) h w
  · exact genOp_sound hf h w
  · exact genOp_sound hf h w
  · rename_i c ho
    split at h
    · rename_i b hc
      split at h
      · exact lenOpA_sound hf hm ho hc h
      · exact genOp_sound hf h w
    · cases h
  · cases h
end
end Go.Ev
