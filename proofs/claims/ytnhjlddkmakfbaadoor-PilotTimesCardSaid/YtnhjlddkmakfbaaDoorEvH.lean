/-
  Ev, part H: operations that change memory. Proved once, for any program. Conditions: none beside each theorem's own.
-/
import Derived.Test.YtnhjlddkmakfbaaDoorEvG
namespace Go.Ev
open Go.Sx
set_option linter.unusedVariables false
set_option linter.unusedSimpArgs false
section
variable {P : Program} {G : Nat → Option (List Value)} {ν : Nu} {N : Nat} {S : AE} {a : Act} {m m' : AM} {w w0 : World} {L : List Asn}

/-- What a run comes to. -/
def Eff (P : Program) (ν : Nu) (w0 : World) (L : List Asn) (m' : AM) (s : Sem Next) (w : World) (av : AV) : Prop :=
  ∃ v ν' w', ν.le ν' ∧ av.val ν' = some v ∧ St w0 (Mem ν' m' :: L) w' ∧ (s.run P w = .ok (.value v) w' ∨ (s.run P w = .ok .skip w' ∧ v = undef))

theorem memOK (hs : St w0 (Mem ν m :: L) w) : MemOK ν m w := hs.holds _ (List.mem_cons_self ..)

theorem onesA_spec : ∀ {l : List AV} {vs : List Value}, onesA l = true → vals ν l = some vs → vs.all oneB = true
  | [], vs, _, h => by simp only [vals, Option.some.injEq] at h; subst h; rfl
  | x :: l, vs, h1, h => by
    obtain ⟨v, ws, h2, h3, rfl⟩ := vals_cons.1 h
    simp only [onesA] at h1
    cases ho : oneA x with
    | false => rw [ho] at h1; cases h1
    | true =>
      rw [ho] at h1
      simp only [cond_true] at h1
      simp only [List.all_cons, Bool.and_eq_true]
      refine ⟨?_, onesA_spec h1 h3⟩
      cases x with
      | num k n => simp only [AV.val, Option.some.injEq] at h2; subst h2; rfl
      | bool b => simp only [AV.val, Option.some.injEq] at h2; subst h2; rfl
      | flat u => simp only [AV.val, Option.some.injEq] at h2; subst h2; exact ho
      | ptr id off => obtain ⟨_, _, rfl⟩ := ptr_val h2; rfl
      | sl id off len cap kn => obtain ⟨_, _, _, rfl, _⟩ := sl_val h2; rfl
      | se id o1 o2 sub => obtain ⟨_, _, _, _, rfl⟩ := se_val h2; rfl
      | mp id => obtain ⟨_, _, rfl⟩ := mp_val h2; rfl
      | fn f x y => obtain ⟨_, _, _, _, rfl⟩ := fn_val h2; rfl
      | agg cs => cases ho
      | tup cs => cases ho

theorem onesA_append {l l' : List AV} : onesA (l ++ l') = (onesA l && onesA l') := by
  induction l with
  | nil => rfl
  | cons x l ih => simp only [List.cons_append, onesA]; cases oneA x <;> simp [ih]

/-- A store of cells. -/
theorem storeCells_run {id off : Nat} {xs : List AV} (h : storeCellsA m id off xs = some m') {p : Nat × Nat} (hp : ν id = some p) {us : List Value} (hu : vals ν xs = some us) (hs : St w0 (Mem ν m :: L) w) :
    ∃ w', St w0 (Mem ν m' :: L) w' ∧ (storeCells ⟨p.1, off, none⟩ us).run P w = .ok () w' := by
  have hm := memOK hs
  unfold storeCellsA at h
  split at h
  · rename_i cs hc
    cases hb : Nat.ble (off + xs.length) cs.length with
    | false => rw [hb] at h; cases h
    | true =>
      rw [hb] at h
      simp only [cond_true] at h
      cases ho : onesA xs with
      | false => rw [ho] at h; cases h
      | true =>
        rw [ho] at h
        simp only [cond_true] at h
        have hle := ble_true hb
        have hone := onesA_spec ho hu
        have lu := vals_length hu
        obtain ⟨p', vs, rest, T, fr, h1, h2, h3, h4⟩ := cellsAt_spec hm hc
        rw [hp] at h1
        cases h1
        have lv := vals_length h2
        have hr := run_storeCells (P := P) us w (vs ++ rest).toArray fr off 0 h3 (by simpa using h4) (by simp; omega) hone
        simp only [Nat.add_zero] at hr
        have hsp : Go.Sx.splice (vs ++ rest).toArray off us = (splice off us vs ++ rest).toArray := by
          rw [sxsplice us off (by simp; omega)]
          simp only [List.toList_toArray]
          rw [splice_take off us vs rest (by omega)]
        rw [hsp] at hr
        have lsp := splice_length off us vs (by omega)
        have hsv := splice_vals off hu h2
        refine ⟨_, ?_, hr⟩
        unfold cellsAt at hc
        unfold withCells at h
        split at hc
        · rename_i cs' hg
          rw [hg] at h
          simp only [Option.some.injEq] at hc h
          subst hc h
          obtain ⟨p', o', h5, h6, vs', T', fr', h7, rfl, h8⟩ := hm.at_ id _ hg
          rw [hp] at h5
          cases h5
          rw [h2] at h7
          cases h7
          rw [h3] at h6
          simp only [Option.some.injEq, Obj.cells.injEq] at h6
          obtain ⟨h6, -, -⟩ := h6
          have hrest : rest = [] := by
            have := congrArg Array.size h6
            simp only [List.size_toArray, List.length_append] at this
            exact List.eq_nil_of_length_eq_zero (by omega)
          subst hrest
          exact St.mSet hs hg hp _ ⟨splice off us vs, T, fr, hsv, by simp, by rw [lsp]; simpa using h4⟩
        · rename_i cs' z hg
          rw [hg] at h
          simp only [Option.some.injEq] at hc h
          subst hc h
          obtain ⟨p', o', h5, h6, vs', rest', T', fr', h7, rfl, h8, h9⟩ := hm.at_ id _ hg
          rw [hp] at h5
          cases h5
          rw [h2] at h7
          cases h7
          rw [h3] at h6
          simp only [Option.some.injEq, Obj.cells.injEq] at h6
          obtain ⟨h6, -, -⟩ := h6
          have hrest : rest = rest' := by
            have := congrArg Array.toList h6
            simpa using this
          subst hrest
          refine St.mSet hs hg hp _ ⟨splice off us vs, rest, T, fr, hsv, rfl, ?_, ?_, h9.2⟩
          · simp only [List.length_append, lsp] at h8 ⊢; exact h8
          · simp only [List.length_append, lsp] at h4 ⊢; exact h4
        · cases hc
  · cases h

/-! ### New blocks -/
theorem newCells (hs : St w0 (Mem ν m :: L) w) {cs : List AV} {us : List Value} (hu : vals ν cs = some us) (T : TypeId) (cap : Nat) :
    St w0 (Mem (ν.add m.next (w.heap.size, cap)) (m.new (.cells cs)) :: L) { w with heap := w.heap.push (.cells us.toArray T) } ∧ ν.le (ν.add m.next (w.heap.size, cap)) := by
  have hle : ν.le (ν.add m.next (w.heap.size, cap)) := Nu.le_add ((memOK hs).fresh _ (Nat.le_refl _))
  exact St.mNew hs _ _ cap ⟨us, T, (0, 0), vals_mono hle cs hu, rfl, fun i _ h => by simp at h⟩

theorem newBuf (hs : St w0 (Mem ν m :: L) w) {cs : List AV} {us rest : List Value} (hu : vals ν cs = some us) (T : TypeId) {cap z : Nat} (hl : (us ++ rest).length = cap * z) (fr : Nat × Nat) (hfr : ∀ i, i < (us ++ rest).length → ¬ (fr.1 ≤ i ∧ i < fr.2)) (hk : cap ≤ 9223372036854775807) :
    St w0 (Mem (ν.add m.next (w.heap.size, cap)) (m.new (.buf cs z)) :: L) { w with heap := w.heap.push (.cells (us ++ rest).toArray T fr) } ∧ ν.le (ν.add m.next (w.heap.size, cap)) := by
  have hle : ν.le (ν.add m.next (w.heap.size, cap)) := Nu.le_add ((memOK hs).fresh _ (Nat.le_refl _))
  exact St.mNew hs _ _ cap ⟨us, rest, T, fr, vals_mono hle cs hu, rfl, hl, hfr, hk⟩

theorem wr_some {r : Option AM} {av : AV} (h : wr r = some (av, m')) : r = some m' ∧ av = .flat undef := by
  cases r with
  | none => cases h
  | some x => simp only [wr, Option.some.injEq, Prod.mk.injEq] at h; exact ⟨by rw [h.2], h.1.symm⟩

theorem storeOp_sound (hf : FitsA ν N S a) (hs : St w0 (Mem ν m :: L) w) {o : Oper} {t : TypeId} {x y : Operand} (ho : o.op = .store t x y) {av : AV} (h : storeOp P m t (opnd S x) (opnd S y) = some (av, m')) : Eff P ν w0 L m' (execOp a.eval o) w av := by
  unfold storeOp at h
  split at h
  · rename_i b hb
    split at h
    · rename_i c hc
      obtain ⟨h9, e9⟩ := wr_some h
      subst e9
      clear h
      obtain ⟨u, h1, ex⟩ := hf.op hb
      obtain ⟨v, h2, ey⟩ := hf.op hc
      have h := h9
      clear h9
      unfold storeA at h
      cases b with
      | ptr id off =>
        simp only at h
        cases hi : P.info? t with
        | none => rw [hi] at h; cases h
        | some ti =>
        rw [hi] at h
        simp only at h
        cases hl : Nat.beq (cellsOf c).length ti.size with
        | false => rw [hl] at h; cases h
        | true =>
          rw [hl] at h
          simp only [cond_true] at h
          have hl := Nat.eq_of_beq_eq_true hl
          obtain ⟨p, hp, rfl⟩ := ptr_val h1
          have hcs := cellsOf_vals h2
          obtain ⟨w', h3, h4⟩ := storeCells_run (P := P) h hp hcs hs
          refine ⟨undef, ν, w', Nu.le_refl ν, rfl, h3, .inr ⟨?_, rfl⟩⟩
          have hsz : v.cells.size = ti.size := by rw [← Array.length_toList, vals_length hcs, hl]
          generalize a.eval = ρ at ex ey ⊢
          simp only [execOp, ho, Instr.storeAt, ex, ey, Instr.sureAddr, storeVar, sizeOf, typeInfo, Sem.run_bind, run_program, hi, Sem.run_pure, Result.andThen_ok, ne_eq, hsz, not_true_eq_false, if_false, h4]
      | _ => cases h
    · cases h
  · cases h

theorem allocOp_sound (hs : St w0 (Mem ν m :: L) w) {o : Oper} {t : TypeId} (ho : o.op = .alloc t) {ρ : Operand → Value} {av : AV} (h : allocOp P m t = some (av, m')) : Eff P ν w0 L m' (execOp ρ o) w av := by
  unfold allocOp at h
  split at h
  · rename_i z hz
    simp only [Option.some.injEq, Prod.mk.injEq] at h
    obtain ⟨rfl, rfl⟩ := h
    obtain ⟨ti, zv, h1, h2, h3⟩ := zeroOf_spec (ν := ν) hz
    obtain ⟨k1, k2⟩ := newCells hs h3 t 0
    refine ⟨_, _, _, k2, ptr_mk (Nu.add_self _ _ _), k1, .inl ?_⟩
    simp [execOp, ho, Instr.alloc, zeroValue, typeInfo, h1, h2, newVar, newRow, newObj, Sem.run, bind, Sem.bind, pure, program]
  · cases h

theorem boxOp_sound (hf : FitsA ν N S a) (hs : St w0 (Mem ν m :: L) w) {o : Oper} {t : TypeId} {x : Operand} (ho : o.op = .box t x) {av : AV} (h : boxOp m (opnd S x) = some (av, m')) : Eff P ν w0 L m' (execOp a.eval o) w av := by
  unfold boxOp at h
  split at h
  · rename_i b hb
    simp only [Option.some.injEq, Prod.mk.injEq] at h
    obtain ⟨rfl, rfl⟩ := h
    obtain ⟨u, h1, ex⟩ := hf.op hb
    obtain ⟨k1, k2⟩ := newCells hs (cellsOf_vals h1) t 0
    refine ⟨_, _, _, k2, ptr_mk (Nu.add_self _ _ _), k1, .inl ?_⟩
    generalize a.eval = ρ at ex ⊢
    simp [execOp, ho, Instr.box, ex, newVar, newRow, newObj, Sem.run, bind, Sem.bind, pure]
  · cases h

theorem rep_vals {z : List AV} {us : List Value} (h : vals ν z = some us) : ∀ n, vals ν (rep n z) = some (rep n us)
  | 0 => rfl
  | n + 1 => vals_append h (rep_vals h n)

theorem rep_length {α : Type} (z : List α) : ∀ n, (rep n z).length = n * z.length
  | 0 => by simp [rep]
  | n + 1 => by simp [rep, rep_length z n, Nat.add_mul, Nat.add_comm]

theorem rep_get {α : Type} (z : List α) (hz : 0 < z.length) : ∀ (n i : Nat), i < n * z.length → (rep n z)[i]? = z[i % z.length]?
  | 0, i, h => by simp at h
  | n + 1, i, h => by
    simp only [rep]
    by_cases hi : i < z.length
    · rw [List.getElem?_append_left hi, Nat.mod_eq_of_lt hi]
    · rw [List.getElem?_append_right (by omega), rep_get z hz n (i - z.length) (by rw [Nat.add_mul] at h; omega)]
      congr 1
      exact (Nat.mod_eq_sub_mod (by omega)).symm

theorem map_range0 {α : Type} (f : Nat → α) : (Array.range 0).map f = #[] := by apply Array.ext'; simp [Array.toList_range]

/-- The model's own row of zeros. -/
theorem zeros_eq {zs : Array Value} (n : Nat) (hz : 0 < zs.size) : (Array.range (n * zs.size)).map (fun i => zs[i % zs.size]!) = (rep n zs.toList).toArray := by
  apply Array.ext_getElem?
  intro i
  by_cases hi : i < n * zs.size
  · have h1 : i % zs.size < zs.size := Nat.mod_lt _ hz
    have := rep_get zs.toList (by simpa using hz) n i (by simpa using hi)
    simp only [List.getElem?_toArray, this, Array.getElem?_map]
    simp [hi, h1]
  · have h2 : (rep n zs.toList).length = n * zs.size := by rw [rep_length]; simp
    rw [Array.getElem?_eq_none (by simp; omega), Array.getElem?_eq_none (by simp [h2]; omega)]

theorem zeroCells_eq {zs : Array Value} (n : Nat) (hz : 0 < zs.size) : Builtin.zeroCells zs n = (rep n zs.toList).toArray := zeros_eq n hz

/-- What a slice literal does. -/
theorem buildCells_run (hf : FitsA ν N S a) {o : Oper} {t : TypeId} {len : Nat} {parts : Array (Nat × Operand)} (ho : o.op = .buildSlice t len parts) {cs : List AV} (h : buildCells P S t len parts.toList = some cs) :
    ∃ (ws : List Value) (e : TypeId), vals ν cs = some ws ∧ ∀ w : World, (execOp a.eval o).run P w = .ok (.value (.slice (some ⟨w.heap.size, 0, none⟩) len len)) { w with heap := w.heap.push (.cells ws.toArray e) } := by
  unfold buildCells at h
  split at h
  · rename_i e hu
    split at h
    · rename_i ie z ps hie hz hps
      cases hb : (Nat.ble (len * ie.size) 16777216 && Nat.beq z.length ie.size && Nat.ble 1 ie.size) with
      | false => rw [hb] at h; cases h
      | true =>
        rw [hb] at h
        simp only [Bool.and_eq_true] at hb
        have b1 := ble_true hb.1.1
        have b2 := Nat.eq_of_beq_eq_true hb.1.2
        have b3 := ble_true hb.2
        have hcs : fillA (fun i => some (i * ie.size, ie.size)) (rep len z) ps = some cs := by simpa only [cond_true] using h
        obtain ⟨ti, zv, h1, h2, h3⟩ := zeroOf_spec (ν := ν) hz
        rw [hie] at h1
        cases h1
        have lz : zv.cells.size = ie.size := by rw [← Array.length_toList, vals_length h3, b2]
        obtain ⟨ws, h4, h5⟩ := fillA_spec _ hcs (rep_vals h3 len) (partsA_spec hf hps)
        refine ⟨ws, e, h4, fun w => ?_⟩
        have hns : ¬ (len * ie.size > 2 ^ 24) := by omega
        have hfill : Instr.fill (fun i => some (i * ie.size, ie.size)) ((Array.range (len * ie.size)).map (fun i => (if len * ie.size = 0 then #[] else zv.cells)[i % (if len * ie.size = 0 then (#[] : Array Value) else zv.cells).size]!)) (parts.map fun (i, x) => (i, a.eval x)).toList = some ws.toArray := by
          rw [Array.toList_map]
          by_cases hz0 : len * ie.size = 0
          · rw [if_pos hz0, hz0]
            have hl0 : len = 0 := by
              rcases Nat.mul_eq_zero.1 hz0 with h | h
              · exact h
              · omega
            subst hl0
            rw [map_range0]
            simpa [rep] using h5
          · rw [if_neg hz0]
            have e1 := zeros_eq (zs := zv.cells) len (by omega)
            rw [lz] at e1
            rw [lz, e1]
            exact h5
        generalize a.eval = ρ at hfill ⊢
        simp only [execOp, ho, Instr.buildSlice, Sem.run_bind, run_underlying hu, Result.andThen_ok, sizeOf, typeInfo, run_program, hie, Sem.run_pure, hns, if_false, zeroValue, newRow, newObj]
        by_cases hz0 : len * ie.size = 0
        · simp only [hz0, if_true] at hfill ⊢
          simp only [Sem.run_bind, Sem.run_pure, Result.andThen_ok]
          simp only [hfill]
          simp [Sem.run, bind, Sem.bind, pure]
        · simp only [hz0, if_false] at hfill ⊢
          simp only [Sem.run_bind, run_program, Result.andThen_ok, hie, Sem.run_pure, h2]
          simp only [hfill]
          simp [Sem.run, bind, Sem.bind, pure]
    · cases h
  · cases h

theorem buildSliceA_sound (hf : FitsA ν N S a) (hs : St w0 (Mem ν m :: L) w) {o : Oper} {t : TypeId} {len : Nat} {parts : Array (Nat × Operand)} (ho : o.op = .buildSlice t len parts) {av : AV} (h : buildSliceA P S m t len parts.toList = some (av, m')) : Eff P ν w0 L m' (execOp a.eval o) w av := by
  unfold buildSliceA at h
  split at h
  · rename_i cs hc
    simp only [Option.some.injEq, Prod.mk.injEq] at h
    obtain ⟨rfl, rfl⟩ := h
    obtain ⟨ws, e, h4, h5⟩ := buildCells_run hf ho hc
    obtain ⟨k1, k2⟩ := newCells hs h4 e 0
    exact ⟨_, _, _, k2, slK_mk (Nu.add_self _ _ _) (Nat.le_refl _), k1, .inl (h5 w)⟩
  · cases h

theorem makeMapOp_sound (hs : St w0 (Mem ν m :: L) w) {o : Oper} {t : TypeId} {r : Option Operand} (ho : o.op = .makeMap t r) {ρ : Operand → Value} {av : AV} (h : makeMapOp m r = some (av, m')) : Eff P ν w0 L m' (execOp ρ o) w av := by
  cases r with
  | some r => cases h
  | none =>
    simp only [makeMapOp, Option.some.injEq, Prod.mk.injEq] at h
    obtain ⟨rfl, rfl⟩ := h
    obtain ⟨k1, k2⟩ := St.mNew hs (.map [] 0) (.map #[] 0) 0 ⟨[], rfl, rfl⟩
    refine ⟨.map (some w.heap.size), _, _, k2, by simp [AV.val, Nu.add_self], k1, .inl ?_⟩
    simp [execOp, ho, Instr.makeMap, newObj, Sem.run, bind, Sem.bind, pure]

theorem makeSliceOp_sound (hf : FitsA ν N S a) (hs : St w0 (Mem ν m :: L) w) {o : Oper} {t : TypeId} {x y : Operand} (ho : o.op = .makeSlice t x y) {av : AV} (h : makeSliceOp P m t (opnd S x) (opnd S y) = some (av, m')) : Eff P ν w0 L m' (execOp a.eval o) w av := by
  unfold makeSliceOp at h
  split at h
  · rename_i xa hxa
    split at h
    · rename_i ya hya
      obtain ⟨u, hu, ex⟩ := hf.op hxa
      obtain ⟨v, hv, ey⟩ := hf.op hya
      unfold makeSliceA at h
      split at h
      · rename_i e l c hun hl hc
        obtain ⟨k, rfl⟩ := intOf_val hl hu
        obtain ⟨k', rfl⟩ := intOf_val hc hv
        split at h
        · rename_i ie z hie hz
          cases hb : (Nat.ble l c && Nat.ble c 1000000 && Nat.ble (ie.bytes * c) 281474976710656 && Nat.beq z.length ie.size && Nat.ble 1 ie.size) with
          | false => rw [hb] at h; cases h
          | true =>
            rw [hb] at h
            simp only [Bool.and_eq_true] at hb
            have b1 := ble_true hb.1.1.1.1
            have b2 := ble_true hb.1.1.1.2
            have b3 := ble_true hb.1.1.2
            have b4 := Nat.eq_of_beq_eq_true hb.1.2
            have b5 := ble_true hb.2
            simp only [cond_true, Option.some.injEq, Prod.mk.injEq] at h
            obtain ⟨rfl, rfl⟩ := h
            obtain ⟨ti, zv, h1, h2, h3⟩ := zeroOf_spec (ν := ν) hz
            rw [hie] at h1
            cases h1
            have lz : zv.cells.size = ie.size := by rw [← Array.length_toList, vals_length h3, b4]
            obtain ⟨k1, k2⟩ := newCells hs (rep_vals h3 c) e 0
            refine ⟨_, _, _, k2, slK_mk (Nu.add_self _ _ _) b1, k1, .inl ?_⟩
            have w1 : IntKind.i64.wrap (l : Int) = (l : Int) := i64w (by omega) (by omega)
            have w2 : IntKind.i64.wrap (c : Int) = (c : Int) := i64w (by omega) (by omega)
            have t1 : ¬ ((c : Int) < 0) := by omega
            have t2 : ¬ ((ie.bytes : Int) * (c : Int) > 2 ^ 48) := by
              rw [← Int.natCast_mul]
              omega
            have t3 : ¬ ((l : Int) < 0) := by omega
            have t4 : ¬ ((l : Int) > (c : Int)) := by omega
            have e0 : (Array.range (c * ie.size)).map (fun i => (if c * ie.size = 0 then #[] else zv.cells)[i % (if c * ie.size = 0 then (#[] : Array Value) else zv.cells).size]!) = (rep c zv.cells.toList).toArray := by
              by_cases hz0 : c * ie.size = 0
              · rw [if_pos hz0, hz0]
                have hl0 : c = 0 := by
                  rcases Nat.mul_eq_zero.1 hz0 with h | h
                  · exact h
                  · omega
                subst hl0
                rw [map_range0]
                simp [rep]
              · rw [if_neg hz0]
                have e1 := zeros_eq (zs := zv.cells) c (by omega)
                rw [lz] at e1
                rw [lz, e1]
            have ask : ∀ b, (askRoom b).run P w = .ok () w := by
              intro b
              unfold askRoom
              split <;> simp [mark, Sem.run]
            generalize a.eval = ρ at ex ey ⊢
            simp only [execOp, ho, ex, ey, Instr.makeSlice, Sem.run_bind, run_underlying hun, Result.andThen_ok, asInt, asIntOf, Sem.run_pure, typeInfo, run_program, hie, w1, w2, t1, t2, t3, t4, decide_false, Bool.false_or, Bool.or_self, Bool.false_eq_true, if_false, ask, Int.toNat_natCast, sizeOf, zeroValue, newRow, newObj]
            by_cases hz0 : c * ie.size = 0
            · simp only [hz0, if_true] at e0 ⊢
              simp only [Sem.run_bind, Sem.run_pure, Result.andThen_ok, e0]
              simp [Sem.run, bind, Sem.bind, pure]
            · simp only [hz0, if_false] at e0 ⊢
              simp only [Sem.run_bind, run_program, Result.andThen_ok, hie, Sem.run_pure, h2, e0]
              simp [Sem.run, bind, Sem.bind, pure]
        · cases h
      · cases h
    · cases h
  · cases h
end
end Go.Ev
