/-
  Sx, part I: maps told as lists; append and slice literals in a region; struct equality in a region; results that lie in memory. Proved once, for any program. Conditions: none beside each theorem's own.
-/
import Derived.Test.YtnhjlddkmakfbaaDoorSxH
namespace Go.Sx
open Go.RowKit
set_option linter.unusedVariables false
set_option linter.unusedSimpArgs false

/-! ### Results that lie in memory -/
section
variable {P : Program} {N : Nat} {S : Env} {w w0 : World} {L : List Asn}

theorem run_loadVarA {t : TypeId} {ti : TypeInfo} (hi : P.info? t = some ti) (ha : isAggB P t = true) {b : Nat} {off : Nat} {vs : Array Value} (hsz : vs.size = ti.size) (hc : ∀ i, i < vs.size → w.cell? ((Addr.mk b off none).add i) = vs[i]?) :
    (loadVar t ⟨b, off, none⟩).run P w = .ok (.agg vs) w := by
  refine run_loadVar_agg hi (fun w => ?_) _ _ hsz hc
  unfold isAggB at ha
  cases hu : P.underlying t with
  | none => rw [hu] at ha; cases ha
  | some d =>
    rw [hu] at ha
    simp only [isAgg, Sem.run_bind, run_underlying hu, Result.andThen_ok]
    cases d <;> first | rfl | simp at ha

theorem resultsA {fn : Func} {t : Tmp} {ty : TypeId} {ti : TypeInfo} {b : Nat} {off : Nat} {vs : Array Value} (hr : fn.results = #[.cell t ty]) (hg : S.get t = some (.pointer (some ⟨b, off, none⟩))) (hi : P.info? ty = some ti) (ha : isAggB P ty = true) (hsz : vs.size = ti.size)
    (hc : ∀ i, i < vs.size → w.cell? ((Addr.mk b off none).add i) = vs[i]?) (a : Act) (hf : Fits N S a) : (results fn a.tmps).run P w = .ok (.agg vs) w := by
  have h1 := hf.get hg
  have h2 := run_loadVarA (P := P) (w := w) hi ha hsz hc
  rw [Array.getD_eq_getD_getElem?] at h1
  unfold results
  rw [hr]
  simp [asAddr, h1, h2, Sem.run_bind]

theorem resultsAV {fn : Func} {t u : Tmp} {ty : TypeId} {ti : TypeInfo} {b : Nat} {off : Nat} {vs : Array Value} {v2 : Value} (hr : fn.results = #[.cell t ty, .tmp u]) (hg : S.get t = some (.pointer (some ⟨b, off, none⟩))) (hu : S.get u = some v2) (hi : P.info? ty = some ti) (ha : isAggB P ty = true) (hsz : vs.size = ti.size)
    (hc : ∀ i, i < vs.size → w.cell? ((Addr.mk b off none).add i) = vs[i]?) (a : Act) (hf : Fits N S a) : (results fn a.tmps).run P w = .ok (.tuple #[.agg vs, v2]) w := by
  have h1 := hf.get hg
  have h3 := hf.get hu
  have h2 := run_loadVarA (P := P) (w := w) hi ha hsz hc
  rw [Array.getD_eq_getD_getElem?] at h1 h3
  unfold results
  rw [hr]
  simp [asAddr, h1, h2, h3, Sem.run_bind]

theorem resultsV {fn : Func} {t : Tmp} {ty : TypeId} {b : Nat} {off : Nat} {v : Value} (hr : fn.results = #[.cell t ty]) (hg : S.get t = some (.pointer (some ⟨b, off, none⟩))) (ha : isAggB P ty = false) (hu : (P.underlying ty).isSome = true)
    (hc : w.cell? ⟨b, off, none⟩ = some v) (a : Act) (hf : Fits N S a) : (results fn a.tmps).run P w = .ok v w := by
  have h1 := hf.get hg
  obtain ⟨d, hd⟩ := Option.isSome_iff_exists.1 hu
  have h3 : (isAgg ty).run P w = .ok false w := by
    simp only [isAggB, hd] at ha
    simp only [isAgg, Sem.run_bind, run_underlying hd, Result.andThen_ok]
    cases d <;> first | rfl | simp at ha
  have h2 : (loadVar ty ⟨b, off, none⟩).run P w = .ok v w := by
    simp only [loadVar, Sem.run_bind, h3, Result.andThen_ok, Bool.false_eq_true, if_false]
    simp [load, Sem.run, hc]
  rw [Array.getD_eq_getD_getElem?] at h1
  unfold results
  rw [hr]
  simp [asAddr, h1, h2, Sem.run_bind]
end

/-! ### Element types, and how a list's elements lie -/
structure ElemOK (P : Program) (t e : TypeId) (size bytes : Nat) : Prop where
  und : P.underlying t = some (.slice e)
  info : ∃ ti z, P.info? e = some ti ∧ ti.zero = some z ∧ ti.size = size ∧ ti.bytes = bytes ∧ z.cells.size = size
  pos : 0 < size

structure CellF {α : Type} (f : α → Array Value) (size : Nat) : Prop where
  size : ∀ x, (f x).size = size
  one : ∀ x, (f x).toList.all Value.oneCell' = true

theorem CellF.ones {α : Type} {f : α → Array Value} {size : Nat} (h : CellF f size) : ∀ x, ∀ u ∈ (f x).toList, u.oneCell' = true := fun x u hu => List.all_eq_true.1 (h.one x) u hu

section
variable {P : Program} {R0 : Exit → Act → World → Prop} {N : Nat} {K : List KItem} {S : Env} {w w0 : World} {l : List Oper} {M : List Nat} {A : Asked} {rest : PT} {L : List Asn}

def bArgs (S : Env) (o : Oper) : Option (Builtin × List TypeId × List Value) :=
  match o.op with
  | .call c =>
    match c.callee, S.ops c.args.toList with
    | .builtin b, some vs => some (b, c.argTypes.toList, vs)
    | _, _ => none
  | _ => none

theorem run_bArgs {a : Act} (hf : Fits N S a) {o : Oper} {b : Builtin} {ts : List TypeId} {vs : List Value} (h : bArgs S o = some (b, ts, vs)) (w : World) :
    ∃ cs : Array Bool, (execOp a.eval o).run P w = (builtin b ts.toArray o.type cs vs.toArray).run P w := by
  unfold bArgs at h
  split at h
  · rename_i c hc
    split at h
    · rename_i b' vs' h1 h2
      simp only [Option.some.injEq, Prod.mk.injEq] at h
      obtain ⟨rfl, rfl, rfl⟩ := h
      have h3 := hf.ops h2
      have h4 : c.args.map a.eval = vs'.toArray := by
        rw [← h3]
        apply Array.ext'
        simp
      generalize a.eval = ρ at h4 ⊢
      exact ⟨_, by simp [execOp, hc, resolve, h1, h4, invoke]; rfl⟩
    · cases h
  · cases h

/-- append to a slice of one's own, what reads as a list -/
theorem GoR.append {α : Type} {i : Nat} {o : Oper} (ho : l[i]? = some o) (hw : wantE l.toArray S o = some true) {t e : TypeId} {size bytes : Nat} (he : ElemOK P t e size bytes) {f : α → Array Value} (hf : CellF f size) {ad : Option Addr} {c : Nat} {xs ys : List α} {adx : Option Addr} {cx : Nat} (d : α)
    (hb : bArgs S o = some (.append, [t, t], [.slice ad xs.length c, .slice adx ys.length cx])) (hs : St w0 (Sl ad c e size f xs :: L) w) (hx : RowsAt w adx ys.length size (fun k => f (ys.getD k d))) (hxn : adx = none → cx = 0) (hlen : (xs.length + ys.length) * bytes ≤ 140737488355328) (hlen2 : xs.length + ys.length ≤ 9223372036854775807)
    (h : ∀ ad' c' w', St w0 (Sl ad' c' e size f (xs ++ ys) :: L) w' → okAll w' (opens M A i) ∧ GoR P l M R0 K N A rest (S.setO o.dst (.slice ad' (xs ++ ys).length c')) w') : GoR P l M R0 K N A (.ef i rest) S w := by
  obtain ⟨ti, z, h1, h2, h3, h4, h5⟩ := he.info
  obtain ⟨ad', c', w', hr, hs'⟩ := run_append_sl (P := P) (ty := o.type) he.und h1 h2 h3 h4 h5 he.pos hf.size hf.ones hs d hx hxn (by simp only [maxLen]; omega) hlen
  obtain ⟨k1, k2⟩ := h ad' c' w' hs'
  refine GoR.run ho hw _ w' (fun a hfit => .inl ?_) k1 k2
  obtain ⟨cs, hrun⟩ := run_bArgs (P := P) hfit hb w
  rw [hrun]
  simp only [builtin, Sem.run_bind]
  rw [hr]
  rfl

/-- a slice literal -/
def litArgs (S : Env) (o : Oper) : Option (TypeId × Nat × List (Nat × Value)) :=
  match o.op with
  | .buildSlice t n parts => match S.ops (parts.toList.map (·.2)) with
    | some vs => some (t, n, (parts.toList.map (·.1)).zip vs)
    | none => none
  | _ => none

theorem GoR.sliceLit {i : Nat} {o : Oper} (ho : l[i]? = some o) (hw : wantE l.toArray S o = some true) {t e : TypeId} {n : Nat} {ps : List (Nat × Value)} (hl : litArgs S o = some (t, n, ps)) (hu : P.underlying t = some (.slice e)) {ti : TypeInfo} {z : Value} (hi : P.info? e = some ti) (hz : ti.zero = some z)
    (hsmall : n * ti.size ≤ 16777216) (hpos : n * ti.size ≠ 0) {cs : Array Value} (hfill : Instr.fill (fun i => some (i * ti.size, ti.size)) ((Array.range (n * ti.size)).map (z.cells[· % z.cells.size]!)) ps = some cs) (hs : St w0 L w)
    (h : ∀ b w', St w0 (Cel b cs e :: L) w' → w'.heap[b]? = some (.cells cs e (0, 0)) → okAll w' (opens M A i) ∧ GoR P l M R0 K N A rest (S.setO o.dst (.slice (some ⟨b, 0, none⟩) n n)) w') : GoR P l M R0 K N A (.ef i rest) S w := by
  obtain ⟨k1, k2⟩ := h _ _ (hs.newCells cs e) (by simp)
  refine GoR.run ho hw _ _ (fun a hfit => .inl ?_) k1 k2
  unfold litArgs at hl
  split at hl
  · rename_i t' n' parts hop
    split at hl
    · rename_i vs hvs
      simp only [Option.some.injEq, Prod.mk.injEq] at hl
      obtain ⟨rfl, rfl, rfl⟩ := hl
      have h3 := hfit.ops hvs
      have h4 : (parts.map fun (i, x) => (i, a.eval x)).toList = (parts.toList.map (·.1)).zip vs := by
        rw [← h3]
        simp only [Array.toList_map]
        generalize parts.toList = q
        induction q with
        | nil => rfl
        | cons y q ih => simp [ih]
      generalize a.eval = ρ at h4 ⊢
      have hns : ¬ (n' * ti.size > 2 ^ 24) := by omega
      simp only [execOp, hop, Instr.buildSlice, Sem.run_bind, run_underlying hu, Result.andThen_ok, sizeOf, typeInfo, run_program, hi, Sem.run_pure, hns, if_false, hpos, zeroValue, hz, h4, hfill, newRow, newObj]
      simp [Sem.run]
    · cases hl
  · cases hl

/-- '==' of structs -/
theorem GoR.eqAgg {i : Nat} {o : Oper} (ho : l[i]? = some o) (hw : wantE l.toArray S o = some true) {b : Bool} {t : TypeId} {xs ys : Array Value} {m : Nat} (he : eqArgs S o = some (b, t, xs, ys)) (hg : P.eqGuardType P.depth t = false) (hm : m ≤ 10000)
    (hok : okEq P m t (.agg xs) (.agg ys) = true) {r : Bool} (hr : (if b then eqFlat P m t (.agg xs) (.agg ys) else !(eqFlat P m t (.agg xs) (.agg ys))) = r)
    (h : GoR P l M R0 K N A rest (S.setO o.dst (.bool r)) w) : GoR P l M R0 K N A (.rd i rest) S w := fun hN a hf => by
  subst hr
  refine ⟨o, _, fun _ => True, by simpa using ho, .inl ⟨wantE_sound hf hw (dstsOK_lt hN), fun w' _ => run_eqArgs hf he hg hm hok w'⟩, trivial, ?_⟩
  exact Plan.addTrue i (fun _ => trivial) _ _ _ _ (h hN _ (hf.setO (dstsOK_spec hN i o (by simpa using ho)) _))
end
end Go.Sx
