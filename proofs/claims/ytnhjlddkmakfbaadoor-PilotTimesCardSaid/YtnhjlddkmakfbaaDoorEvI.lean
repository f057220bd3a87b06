/-
  Ev, part I: maps that change, ranges, and strings out of bytes. Proved once, for any program. Conditions: none beside each theorem's own.
-/
import Derived.Test.YtnhjlddkmakfbaaDoorEvH
import Derived.Laws.IdiomStrings
namespace Go.Ev
open Go.Sx
set_option linter.unusedVariables false
set_option linter.unusedSimpArgs false

theorem setNth_get {α : Type} : ∀ (l : List α) (i k : Nat) (f : α → α), (setNth l i f)[k]? = if k = i then (l[k]?).map f else l[k]?
  | [], i, k, f => by simp [setNth]
  | x :: l, 0, k, f => by cases k <;> simp [setNth]
  | x :: l, i + 1, k, f => by
    cases k with
    | zero => simp [setNth]
    | succ k => simp [setNth, setNth_get l i k f]

theorem modify_eq {α : Type} (l : List α) (i : Nat) (f : α → α) : l.toArray.modify i f = (setNth l i f).toArray := by
  apply Array.ext_getElem?
  intro k
  rw [Array.getElem?_modify]
  simp only [List.getElem?_toArray, setNth_get]
  by_cases h : i = k
  · subst h; simp
  · rw [if_neg h, if_neg (fun e => h e.symm)]

section
variable {P : Program} {G : Nat → Option (List Value)} {ν : Nu} {N : Nat} {S : AE} {a : Act} {m m' : AM} {w w0 : World} {L : List Asn}

theorem valEs_append {es es' : List (Value × AV × Nat)} {l l' : List MapEntry} (h : valEs ν es = some l) (h' : valEs ν es' = some l') : valEs ν (es ++ es') = some (l ++ l') := by
  induction es generalizing l with
  | nil => simp only [valEs, Option.some.injEq] at h; subst h; exact h'
  | cons e es ih =>
    simp only [valEs] at h
    split at h
    · rename_i v vs hv hvs
      simp only [Option.some.injEq] at h
      subst h
      simp only [List.cons_append, valEs, hv, ih hvs]
    · cases h

theorem valEs_set {es : List (Value × AV × Nat)} {l : List MapEntry} (h : valEs ν es = some l) (i : Nat) {f : (Value × AV × Nat) → (Value × AV × Nat)} {g : MapEntry → MapEntry}
    (hfg : ∀ e v, es[i]? = some e → e.2.1.val ν = some v → ∃ u, (f e).2.1.val ν = some u ∧ g ⟨e.1, v, e.2.2⟩ = ⟨(f e).1, u, (f e).2.2⟩) : valEs ν (setNth es i f) = some (setNth l i g) := by
  induction es generalizing l i with
  | nil => simp only [valEs, Option.some.injEq] at h; subst h; rfl
  | cons e es ih =>
    simp only [valEs] at h
    split at h
    · rename_i v vs hv hvs
      simp only [Option.some.injEq] at h
      subst h
      cases i with
      | zero =>
        obtain ⟨u, h1, h2⟩ := hfg e v rfl hv
        simp only [setNth, valEs, h1, hvs, h2]
      | succ i =>
        have := ih hvs i (fun e v he hv => hfg e v (by simpa using he) hv)
        simp only [setNth, valEs, hv, this]
    · cases h

theorem valEs_erase {es : List (Value × AV × Nat)} {l : List MapEntry} (h : valEs ν es = some l) (i : Nat) : valEs ν (es.eraseIdx i) = some (l.eraseIdx i) := by
  induction es generalizing l i with
  | nil => simp only [valEs, Option.some.injEq] at h; subst h; rfl
  | cons e es ih =>
    simp only [valEs] at h
    split at h
    · rename_i v vs hv hvs
      simp only [Option.some.injEq] at h
      subst h
      cases i with
      | zero => simpa using hvs
      | succ i => simp only [List.eraseIdx_cons_succ, valEs, hv, ih hvs i]
    · cases h

theorem valEs_filter {es : List (Value × AV × Nat)} {l : List MapEntry} (h : valEs ν es = some l) (p : Nat → Bool) : valEs ν (es.filter fun e => p e.2.2) = some (l.filter fun e => p e.born) := by
  induction es generalizing l with
  | nil => simp only [valEs, Option.some.injEq] at h; subst h; rfl
  | cons e es ih =>
    simp only [valEs] at h
    split at h
    · rename_i v vs hv hvs
      simp only [Option.some.injEq] at h
      subst h
      cases hp : p e.2.2 with
      | true =>
        rw [List.filter_cons_of_pos (by simpa using hp), List.filter_cons_of_pos (by simpa using hp)]
        simp only [valEs, hv, ih hvs]
      | false =>
        rw [List.filter_cons_of_neg (by simpa using hp), List.filter_cons_of_neg (by simpa using hp)]
        exact ih hvs
    · cases h

theorem run_getMap {r : Nat} {es : Array MapEntry} {c : Nat} (h : w.heap[r]? = some (.map es c)) : (getObj r).run P w = .ok (.map es c) w := by simp [getObj, Sem.run, h]
theorem run_setMap' {r : Nat} {es : Array MapEntry} {c : Nat} (h : w.heap[r]? = some (.map es c)) (o : Obj) : (setObj r o).run P w = .ok () { w with heap := w.heap.setIfInBounds r o } := by simp [setObj, Sem.run, h]

/-- A map is written. -/
theorem mapSet (hs : St w0 (Mem ν m :: L) w) {id clock : Nat} {es : List (Value × AV × Nat)} (hg : m.get id = some (.map es clock)) {p : Nat × Nat} (hp : ν id = some p) {es' : List (Value × AV × Nat)} {l' : List MapEntry} (hl : valEs ν es' = some l') (clock' : Nat) :
    St w0 (Mem ν (m.set id (.map es' clock')) :: L) { w with heap := w.heap.setIfInBounds p.1 (.map l'.toArray clock') } :=
  St.mSet hs hg hp _ ⟨l', hl, rfl⟩

theorem stays_spec {es : List (Value × AV × Nat)} {l : List MapEntry} (hl : valEs ν es = some l) {i : Nat} {k : Value} (h : stays es i k = true) : ∃ e, l[i]? = some e ∧ Instr.sameBits 10000 e.key k = true := by
  unfold stays at h
  split at h
  · rename_i e he
    obtain ⟨v, _, h2⟩ := (valEs_spec hl).2.2 i e he
    exact ⟨_, h2, h⟩
  · cases h

theorem updOp_sound (hf : FitsA ν N S a) (hs : St w0 (Mem ν m :: L) w) {o : Oper} {t : TypeId} {x k v : Operand} (ho : o.op = .mapUpdate t x k v ∨ o.op = .insert t x k v) {av : AV} (h : updOp P m t (opnd S x) (opnd S k) (opnd S v) = some (av, m')) : Eff P ν w0 L m' (execOp a.eval o) w av := by
  have hm := memOK hs
  have hexec : execOp a.eval o = (do Instr.mapUpdate t (a.eval x) (a.eval k) (a.eval v); pure .skip) := by rcases ho with ho | ho <;> simp [execOp, ho]
  rw [hexec]
  unfold updOp at h
  split at h
  · rename_i xa ka va hxa hka hva
    obtain ⟨h9, e9⟩ := wr_some h
    subst e9
    clear h
    obtain ⟨xv, hxv, ex⟩ := hf.op hxa
    obtain ⟨kv, hkv, ek⟩ := hf.op hka
    obtain ⟨vv, hvv, ev⟩ := hf.op hva
    rw [ex, ek, ev]
    unfold updateA at h9
    split at h9
    · rename_i id k0 kt e hk0 hu
      have hk1 := flatOf_val (ν := ν) hk0
      rw [hkv] at hk1
      cases hk1
      obtain ⟨p, hp, rfl⟩ := mp_val hxv
      split at h9
      · rename_i es clock hg
        obtain ⟨p', l, hp', hl, hb⟩ := map_at hm hg
        rw [hp] at hp'
        cases hp'
        cases hko : keyOK P false kt kv with
        | false => rw [hko] at h9; cases h9
        | true =>
          rw [hko] at h9
          simp only [cond_true] at h9
          have hck := keyOK_spec hko w
          have g1 := run_getMap (P := P) hb
          split at h9
          · rename_i i hfi
            cases hst : stays es i kv with
            | false => rw [hst] at h9; cases h9
            | true =>
              rw [hst] at h9
              simp only [cond_true, Option.some.injEq] at h9
              subst h9
              rcases findA_spec hfi hl w with ⟨h1, _⟩ | ⟨j, e', h1, h2, h3⟩
              · cases h1
              · cases h1
                obtain ⟨e2, h4, h5⟩ := stays_spec hl hst
                rw [h2] at h4
                cases h4
                refine ⟨undef, ν, _, Nu.le_refl ν, rfl, mapSet hs hg hp (valEs_set hl i (f := fun e => (kv, va, e.2.2)) (g := fun e => { e with key := kv, val := vv }) fun e v _ _ => ⟨vv, hvv, rfl⟩) clock, .inr ⟨?_, rfl⟩⟩
                have h6 : (Instr.keyThatStays (((l.toArray[i]?).map (·.key)).getD kv) kv).run P w = .ok kv w := by
                  simp [Instr.keyThatStays, h2, h5]
                simp only [Instr.mapUpdate, Sem.run_bind, run_underlying hu, Result.andThen_ok, g1, hck, h3, h6, modify_eq, run_setMap' hb, Sem.run_pure]
          · rename_i hfi
            simp only [Option.some.injEq] at h9
            subst h9
            rcases findA_spec hfi hl w with ⟨_, h1⟩ | ⟨j, e', h1, _, _⟩
            · refine ⟨undef, ν, _, Nu.le_refl ν, rfl, mapSet hs hg hp (valEs_append hl (es' := [(kv, va, clock)]) (l' := [⟨kv, vv, clock⟩]) (by simp [valEs, hvv])) (clock + 1), .inr ⟨?_, rfl⟩⟩
              simp only [Instr.mapUpdate, Sem.run_bind, run_underlying hu, Result.andThen_ok, g1, hck, h1, List.push_toArray, run_setMap' hb, Sem.run_pure]
            · cases h1
          · cases h9
      · cases h9
    · cases h9
  · cases h

theorem bornAt_spec {n : Nat} : ∀ {es : List (Value × AV × Nat)} {l : List MapEntry} {i j : Nat}, bornAt n es i = some j → valEs ν es = some l → i ≤ j ∧ l.findIdx? (fun e => ((e.born : Int) == (n : Int))) = some (j - i)
  | e :: es, l, i, j, h, hl => by
    simp only [valEs] at hl
    split at hl
    · rename_i v vs hv hvs
      simp only [Option.some.injEq] at hl
      subst hl
      simp only [bornAt] at h
      cases hb : Nat.beq e.2.2 n with
      | true =>
        rw [hb] at h
        have := Nat.eq_of_beq_eq_true hb
        simp only [cond_true, Option.some.injEq] at h
        subst h
        exact ⟨Nat.le_refl _, by simp [List.findIdx?_cons, this]⟩
      | false =>
        rw [hb] at h
        have hne := Nat.ne_of_beq_eq_false hb
        obtain ⟨h1, h2⟩ := bornAt_spec h hvs
        refine ⟨by omega, ?_⟩
        rw [List.findIdx?_cons]
        have : ((e.2.2 : Int) == (n : Int)) = false := by simp only [beq_eq_false_iff_ne, ne_eq]; omega
        simp only [this, Bool.false_eq_true, if_false, h2, Option.map_some]
        congr 1
        omega
    · cases hl

theorem esOp_sound (hf : FitsA ν N S a) (hs : St w0 (Mem ν m :: L) w) {o : Oper} {t : TypeId} {x st v : Operand} (ho : o.op = .entryStore t x st v) {av : AV} (h : esOp m (opnd S x) (opnd S st) (opnd S v) = some (av, m')) : Eff P ν w0 L m' (execOp a.eval o) w av := by
  have hm := memOK hs
  unfold esOp at h
  split at h
  · rename_i xa ka va hxa hka hva
    obtain ⟨h9, e9⟩ := wr_some h
    subst e9
    clear h
    obtain ⟨xv, hxv, ex⟩ := hf.op hxa
    obtain ⟨kv, hkv, ek⟩ := hf.op hka
    obtain ⟨vv, hvv, ev⟩ := hf.op hva
    unfold entryStoreA at h9
    split at h9
    · rename_i id k n
      obtain ⟨p, hp, rfl⟩ := mp_val hxv
      simp only [AV.val, Option.some.injEq] at hkv
      subst hkv
      split at h9
      · rename_i es clock hg
        obtain ⟨p', l, hp', hl, hb⟩ := map_at hm hg
        rw [hp] at hp'
        cases hp'
        have g1 := run_getMap (P := P) hb
        split at h9
        · rename_i i hi
          simp only [Option.some.injEq] at h9
          subst h9
          obtain ⟨_, h2⟩ := bornAt_spec hi hl
          simp only [Nat.sub_zero] at h2
          refine ⟨undef, ν, _, Nu.le_refl ν, rfl, mapSet hs hg hp (valEs_set hl i (f := fun e => (e.1, va, e.2.2)) (g := fun e => { e with val := vv }) fun e v _ _ => ⟨vv, hvv, rfl⟩) clock, .inr ⟨?_, rfl⟩⟩
          have h3 : l.toArray.findIdx? (fun e => ((e.born : Int) == Int.ofNat n)) = some i := by simpa using h2
          generalize a.eval = ρ at ex ek ev ⊢
          simp only [execOp, ho, ex, ek, ev, Instr.entryStore, Sem.run_bind, g1, Result.andThen_ok, asInt, asIntOf, Sem.run_pure, h3, modify_eq, run_setMap' hb]
        · cases h9
      · cases h9
    · cases h9
  · cases h

theorem meOp_sound (hf : FitsA ν N S a) (hs : St w0 (Mem ν m :: L) w) {o : Oper} {t : TypeId} {x k : Operand} (ho : o.op = .mapEntry t x k) {av : AV} (h : meOp P m t (opnd S x) (opnd S k) = some (av, m')) : Eff P ν w0 L m' (execOp a.eval o) w av := by
  have hm := memOK hs
  unfold meOp at h
  split at h
  · rename_i xa hxa
    split at h
    · rename_i ka hka
      obtain ⟨xv, hxv, ex⟩ := hf.op hxa
      obtain ⟨kv, hkv, ek⟩ := hf.op hka
      have h9 := h
      clear h
      have hexec : execOp a.eval o = (do pure (.value (← Instr.mapEntry t xv kv))) := by simp [execOp, ho, ex, ek]
      rw [hexec]
      unfold mapEntryA at h9
      split at h9
      · rename_i id k0 kt e hk0 hu
        have hk1 := flatOf_val (ν := ν) hk0
        rw [hkv] at hk1
        cases hk1
        obtain ⟨p, hp, rfl⟩ := mp_val hxv
        split at h9
        · rename_i es clock ie hg hie
          obtain ⟨p', l, hp', hl, hb⟩ := map_at hm hg
          rw [hp] at hp'
          cases hp'
          cases hko : keyOK P false kt kv with
          | false => rw [hko] at h9; cases h9
          | true =>
            rw [hko] at h9
            simp only [cond_true] at h9
            have hck := keyOK_spec hko w
            have g1 := run_getMap (P := P) hb
            split at h9
            · rename_i i hfi
              split at h9
              · rename_i old hold
                cases hst : stays es i kv with
                | false => rw [hst] at h9; cases h9
                | true =>
                  rw [hst] at h9
                  simp only [cond_true, Option.some.injEq, Prod.mk.injEq] at h9
                  obtain ⟨rfl, rfl⟩ := h9
                  rcases findA_spec hfi hl w with ⟨h1, _⟩ | ⟨j, e', h1, h2, h3⟩
                  · cases h1
                  · cases h1
                    obtain ⟨e2, h4, h5⟩ := stays_spec hl hst
                    rw [h2] at h4
                    cases h4
                    obtain ⟨u, h6, h7⟩ := (valEs_spec hl).2.2 i old hold
                    rw [h2] at h7
                    cases h7
                    refine ⟨.tuple #[u, .int .i64 old.2.2], ν, _, Nu.le_refl ν, by simp only [AV.val, vals, h6]; rfl, mapSet hs hg hp (valEs_set hl i (f := fun e => (kv, e.2.1, e.2.2)) (g := fun e => { e with key := kv }) fun e v _ hv => ⟨v, hv, rfl⟩) clock, .inl ?_⟩
                    have h8 : (Instr.keyThatStays (((l.toArray[i]?).map (·.key)).getD kv) kv).run P w = .ok kv w := by
                      simp [Instr.keyThatStays, h2, h5]
                    have h10 : ((l.toArray[i]?).map (fun x => (x.born : Int))).getD 0 = (old.2.2 : Int) := by simp [h2]
                    simp only [Instr.mapEntry, Sem.run_bind, run_underlying hu, Result.andThen_ok, g1, hck, h3, h8, h10, modify_eq, run_setMap' hb, Sem.run_pure, goInt]
              · cases h9
            · rename_i z hfi hz
              simp only [Option.some.injEq, Prod.mk.injEq] at h9
              obtain ⟨rfl, rfl⟩ := h9
              rcases findA_spec hfi hl w with ⟨_, h1⟩ | ⟨j, e', h1, _, _⟩
              · refine ⟨.tuple #[z, .int .i64 clock], ν, _, Nu.le_refl ν, by simp only [AV.val, vals, lift_val]; rfl, mapSet hs hg hp (valEs_append hl (es' := [(kv, lift z, clock)]) (l' := [⟨kv, z, clock⟩]) (by simp [valEs, lift_val])) (clock + 1), .inl ?_⟩
                simp only [Instr.mapEntry, Sem.run_bind, run_underlying hu, Result.andThen_ok, g1, hck, h1, zeroValue, typeInfo, run_program, hie, Sem.run_pure, hz, List.push_toArray, run_setMap' hb, goInt]
              · cases h1
            · cases h9
        · cases h9
      · cases h9
    · cases h
  · cases h

theorem rangeA_sound (hs : St w0 (Mem ν m :: L) w) {o : Oper} {t : TypeId} {x : Operand} (ho : o.op = .range t x) {ρ : Operand → Value} {xa av : AV} (hx : xa.val ν = some (ρ x)) (h : rangeA P m t xa = some (av, m')) : Eff P ν w0 L m' (execOp ρ o) w av := by
  have hm := memOK hs
  unfold rangeA at h
  split at h
  · rename_i k e id hu
    obtain ⟨p, hp, hv⟩ := mp_val hx
    split at h
    · rename_i es clock hg
      simp only [Option.some.injEq, Prod.mk.injEq] at h
      obtain ⟨rfl, rfl⟩ := h
      obtain ⟨p', l, hp', hl, hb⟩ := map_at hm hg
      rw [hp] at hp'
      cases hp'
      have g1 := run_getMap (P := P) hb
      have hne : id ≠ m.next := fun e => by have := hm.ltNext hg; omega
      obtain ⟨k1, k2⟩ := St.mNew hs (.iter id clock [] clock) (.mapIter (some p.1) clock #[] clock) 0 ⟨p, by rw [Nu.add, if_neg hne]; exact hp, by simp⟩
      refine ⟨_, _, _, k2, ptr_mk (Nu.add_self _ _ _), k1, .inl ?_⟩
      simp only [execOp, ho, Instr.range, hv, Sem.run_bind, run_underlying hu, Result.andThen_ok, g1, Sem.run_pure, newObj]
      simp [Sem.run]
    · cases h
  · cases h

theorem nextA_sound (hs : St w0 (Mem ν m :: L) w) {o : Oper} {str : Bool} {x : Operand} (ho : o.op = .next x str) {ρ : Operand → Value} {xa av : AV} (hx : xa.val ν = some (ρ x)) (h : nextA m xa str = some (av, m')) : Eff P ν w0 L m' (execOp ρ o) w av := by
  have hm := memOK hs
  unfold nextA at h
  split at h
  · rename_i id
    obtain ⟨p, hp, hv⟩ := ptr_val hx
    split at h
    · rename_i mid since seen last hg
      obtain ⟨p', ob, hp', hb, q, hq, rfl⟩ := hm.at_ id _ hg
      rw [hp] at hp'
      cases hp'
      split at h
      · rename_i es clock hg2
        obtain ⟨q', l, hq', hl, hb2⟩ := map_at hm hg2
        rw [hq] at hq'
        cases hq'
        have g1 : (getObj p.1).run P w = .ok (.mapIter (some q.1) since seen.toArray last) w := by simp [getObj, Sem.run, hb]
        have g2 := run_getMap (P := P) hb2
        cases hc : (!seen.isEmpty && !es.isEmpty && es.all fun e => Nat.ble last e.2.2) with
        | true => rw [hc] at h; cases h
        | false =>
          rw [hc] at h
          simp only [cond_false] at h
          have hc2 : (!seen.toArray.isEmpty && !l.toArray.isEmpty && l.toArray.all fun e => decide (e.born ≥ last)) = false := by
            rw [← hc]
            have e1 : l.isEmpty = es.isEmpty := by have := valEs_length hl; cases l <;> cases es <;> simp at this ⊢
            have e2 : (l.all fun e => decide (e.born ≥ last)) = es.all fun e => Nat.ble last e.2.2 := by
              have h1 := (valEs_spec hl).2.1
              have : ∀ (l : List MapEntry) (es : List (Value × AV × Nat)), l.map (·.born) = es.map (·.2.2) → (l.all fun e => decide (e.born ≥ last)) = es.all fun e => Nat.ble last e.2.2 := by
                intro l
                induction l with
                | nil => intro es h; cases es <;> simp at h ⊢
                | cons x l ih =>
                  intro es h
                  cases es with
                  | nil => simp at h
                  | cons e es =>
                    simp only [List.map_cons, List.cons.injEq] at h
                    simp only [List.all_cons, ih es h.2, ble_dec, h.1, ge_iff_le]
              exact this l es h1
            simp only [List.isEmpty_toArray, e1]
            congr 1
            simpa using e2
          have hleft : l.toArray.filter (fun e => !seen.toArray.contains e.born) = (l.filter fun e => !seen.contains e.born).toArray := by simp
          have hv2 := valEs_filter hl (fun n => !seen.contains n)
          have g3 : ∀ f : Nat → Sem Next, (Sem.bind (choose (.mapNext 1)) f).run P w = (f 0).run P w := by
            intro f
            rw [Sem.run_bind']
            simp [choose, Sem.run, Question.forced]
          split at h
          · rename_i hfl
            simp only [Option.some.injEq, Prod.mk.injEq] at h
            obtain ⟨rfl, rfl⟩ := h
            rw [hfl] at hv2
            simp only [valEs, Option.some.injEq] at hv2
            refine ⟨_, ν, w, Nu.le_refl ν, by simp only [AV.val, vals]; rfl, hs, .inl ?_⟩
            simp only [execOp, ho, Instr.next, hv, Sem.run_bind, g1, Result.andThen_ok, g2, hc2, Bool.false_eq_true, if_false, hleft, ← hv2]
            simp [choose, Sem.run, Question.forced]
          · rename_i e hfl
            cases hlt : Nat.ble (e.2.2 + 1) since with
            | false => rw [hlt] at h; cases h
            | true =>
              rw [hlt] at h
              have hlt := ble_true hlt
              simp only [cond_true, Option.some.injEq, Prod.mk.injEq] at h
              obtain ⟨rfl, rfl⟩ := h
              rw [hfl] at hv2
              simp only [valEs] at hv2
              cases hev : e.2.1.val ν with
              | none => rw [hev] at hv2; cases hv2
              | some u =>
                rw [hev] at hv2
                simp only [Option.some.injEq] at hv2
                refine ⟨.tuple #[.bool true, e.1, u], ν, _, Nu.le_refl ν, by simp only [AV.val, vals, lift_val, hev], St.mSet hs hg hp (.mapIter (some q.1) since (seen ++ [e.2.2]).toArray clock) ⟨q, hq, rfl⟩, .inl ?_⟩
                have e1 : e.2.2 < since := by omega
                have e2 : ¬ (since ≤ e.2.2) := by omega
                have g4 : (setObj p.1 (.mapIter (some q.1) since (seen.toArray.push e.2.2) clock)).run P w = .ok () { w with heap := w.heap.setIfInBounds p.1 (.mapIter (some q.1) since (seen ++ [e.2.2]).toArray clock) } := by
                  simp [setObj, Sem.run, hb]
                simp only [execOp, ho, Instr.next, hv, Sem.run_bind, g1, Result.andThen_ok, g2, hc2, Bool.false_eq_true, if_false, hleft, ← hv2]
                simp [choose, Sem.run, Question.forced, e1, e2, Sem.run_bind, g4, List.push_toArray]
                simp [setObj, Sem.run, hb]
          · cases h
      · cases h
    · cases h
  · cases h
end
end Go.Ev
