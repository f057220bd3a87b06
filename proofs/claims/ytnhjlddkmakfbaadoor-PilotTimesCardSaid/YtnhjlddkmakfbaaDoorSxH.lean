/-
  Sx, part H: '==' of flat structs; append and slice literals in a region; results that lie in memory; bytes into a string. Proved once, for any program. Conditions: none beside each theorem's own.
-/
import Derived.Test.YtnhjlddkmakfbaaDoorSxG
namespace Go.Sx
open Go.RowKit
set_option linter.unusedVariables false
set_option linter.unusedSimpArgs false

theorem strEq (x y : ByteArray) : (x.toList == y.toList) = decide (x = y) := by
  by_cases h : x = y
  · subst h; simp
  · rw [decide_eq_false h]
    refine beq_eq_false_iff_ne.2 fun e => h ?_
    rw [ByteArray.toList_eq, ByteArray.toList_eq] at e
    cases x; cases y
    simpa using e

def slt (x y : ByteArray) : Bool := Op.bytesLess x.toList y.toList

/-! ### '==' of flat data -/
section
variable {P : Program}

def isAggB (P : Program) (t : TypeId) : Bool :=
  match P.underlying t with
  | some (.struct _) => true
  | some (.array _ _) => true
  | _ => false

def partV (P : Program) (t : TypeId) (cs : Array Value) (off : Nat) : Value := if isAggB P t then .agg (cs.extract off (off + P.cellsOf t)) else (cs[off]?).getD undef

def partOK (P : Program) (t : TypeId) (cs : Array Value) (off : Nat) : Bool := (P.info? t).isSome && (P.underlying t).isSome && (isAggB P t || (cs[off]?).isSome)

theorem run_part {t : TypeId} {cs : Array Value} {off : Nat} (w : World) (h : partOK P t cs off = true) : (part t cs off).run P w = .ok (partV P t cs off) w := by
  simp only [partOK, Bool.and_eq_true, Option.isSome_iff_exists] at h
  obtain ⟨⟨⟨ti, hi⟩, ⟨d, hd⟩⟩, h2⟩ := h
  have hsz : P.cellsOf t = ti.size := by simp [Program.cellsOf, hi]
  cases hb : isAggB P t with
  | true =>
    have ha : (isAgg t).run P w = .ok true w := by
      simp only [isAggB, hd] at hb
      simp only [isAgg, Sem.run_bind, run_underlying hd, Result.andThen_ok]
      cases d <;> first | rfl | simp at hb
    simp only [part, Sem.run_bind, ha, Result.andThen_ok, if_true, sizeOf, typeInfo, run_program, hi, Sem.run_pure, partV, hb, hsz]
  | false =>
    have ha : (isAgg t).run P w = .ok false w := by
      simp only [isAggB, hd] at hb
      simp only [isAgg, Sem.run_bind, run_underlying hd, Result.andThen_ok]
      cases d <;> first | rfl | simp at hb
    rw [hb] at h2
    rw [Bool.false_or] at h2
    obtain ⟨v, hv⟩ := Option.isSome_iff_exists.1 h2
    simp only [part, Sem.run_bind, ha, Result.andThen_ok, Bool.false_eq_true, if_false, hv, Sem.run_pure, partV, hb, Option.getD_some]

def eqFlat (P : Program) : Nat → TypeId → Value → Value → Bool
  | 0, _, _, _ => false
  | m + 1, t, x, y =>
    match P.underlying t, x, y with
    | some .bool, .bool a, .bool b => a == b
    | some (.int _), .int _ a, .int _ b => a == b
    | some .string, .string a, .string b => a.toList == b.toList
    | some (.struct fs), .agg xs, .agg ys => fs.toList.all fun f => eqFlat P m f.type (partV P f.type xs f.offset) (partV P f.type ys f.offset)
    | some (.array n e), .agg xs, .agg ys => (List.range n).all fun i => eqFlat P m e (partV P e xs (i * P.cellsOf e)) (partV P e ys (i * P.cellsOf e))
    | _, _, _ => false

def okEq (P : Program) : Nat → TypeId → Value → Value → Bool
  | 0, _, _, _ => false
  | m + 1, t, x, y =>
    match P.underlying t, x, y with
    | some .bool, .bool _, .bool _ => true
    | some (.int _), .int k _, .int k' _ => k == k'
    | some .string, .string _, .string _ => true
    | some (.struct fs), .agg xs, .agg ys => !(P.stoodInHeld t) && fs.toList.all fun f => f.name != "_" && partOK P f.type xs f.offset && partOK P f.type ys f.offset && okEq P m f.type (partV P f.type xs f.offset) (partV P f.type ys f.offset)
    | some (.array n e), .agg xs, .agg ys => (P.info? e).isSome && (List.range n).all fun i => partOK P e xs (i * P.cellsOf e) && partOK P e ys (i * P.cellsOf e) && okEq P m e (partV P e xs (i * P.cellsOf e)) (partV P e ys (i * P.cellsOf e))
    | _, _, _ => false

theorem run_eqFields (d : Nat) (xs ys : Array Value) (r : Field → Bool) (w : World) : ∀ (fs : List Field),
    (∀ f ∈ fs, f.name ≠ "_" ∧ partOK P f.type xs f.offset = true ∧ partOK P f.type ys f.offset = true ∧ (Op.equalIn d f.type (partV P f.type xs f.offset) (partV P f.type ys f.offset)).run P w = .ok (r f) w) →
    (Op.eqFields d xs ys fs).run P w = .ok (fs.all r) w
  | [], _ => by simp [Op.eqFields]
  | f :: fs, h => by
    obtain ⟨h1, h2, h3, h4⟩ := h f (List.mem_cons_self ..)
    have ih := run_eqFields d xs ys r w fs fun g hg => h g (List.mem_cons_of_mem _ hg)
    simp only [Op.eqFields, h1, ne_eq, not_false_eq_true, if_true, Sem.run_bind, run_part w h2, run_part w h3, Result.andThen_ok, h4, List.all_cons]
    cases r f
    · simp
    · simpa using ih

theorem run_equalIn_array {t e : TypeId} {n : Nat} (d : Nat) (xs ys : Array Value) (r : Nat → Bool) (w : World) (ht : P.underlying t = some (.array n e)) {ei : TypeInfo} (he : P.info? e = some ei)
    (h : ∀ i, i < n → partOK P e xs (i * P.cellsOf e) = true ∧ partOK P e ys (i * P.cellsOf e) = true ∧ (Op.equalIn d e (partV P e xs (i * P.cellsOf e)) (partV P e ys (i * P.cellsOf e))).run P w = .ok (r i) w) :
    (Op.equalIn (d + 1) t (.agg xs) (.agg ys)).run P w = .ok ((List.range n).all r) w := by
  have hsz : P.cellsOf e = ei.size := by simp [Program.cellsOf, he]
  rw [hsz] at h
  simp only [Op.equalIn, Sem.run_bind, run_underlying ht, Result.andThen_ok, sizeOf, typeInfo, run_program, he, Sem.run_pure]
  simp only [Std.Legacy.Range.forIn_eq_forIn_range', Std.Legacy.Range.size, Nat.sub_zero, Nat.add_one_sub_one, Nat.div_one]
  have hr : (List.range n).all r = (List.range' 0 n).all r := by rw [List.range_eq_range']
  rw [hr]
  have hlt : ∀ i ∈ List.range' 0 n, i < n := fun i hi => by
    have := List.mem_range'.1 hi
    omega
  generalize List.range' 0 n = is at hlt
  induction is with
  | nil => simp
  | cons i is ih =>
    obtain ⟨h1, h2, h3⟩ := h i (hlt i (by simp))
    have ih' := ih fun k hk => hlt k (by simp [hk])
    simp only [List.forIn_cons, Sem.run_bind, run_part w h1, run_part w h2, Result.andThen_ok, h3, List.all_cons]
    cases hri : r i
    · simp
    · simpa using ih'

theorem run_equalIn_flat : ∀ (m : Nat) (t : TypeId) (x y : Value) (d : Nat) (w : World), okEq P m t x y = true → (Op.equalIn (d + m) t x y).run P w = .ok (eqFlat P m t x y) w := by
  intro m
  induction m with
  | zero => intro t x y d w h; cases h
  | succ m ih =>
    intro t x y d w h
    unfold okEq at h
    unfold eqFlat
    rw [← Nat.add_assoc]
    split at h
    · rename_i a b hu
      exact run_equalIn_bool w _ t a b hu
    · rename_i k0 k a k' b hu
      obtain rfl : k = k' := by simpa using h
      exact run_equalIn_int w _ t k k0 a b hu
    · rename_i a b hu
      exact run_equalIn_string w _ t a b hu
    · rename_i fs xs ys hu
      simp only [Bool.and_eq_true, Bool.not_eq_true', List.all_eq_true, bne_iff_ne, ne_eq] at h
      have hfo : P.fieldsOf t = fs := by simp [Program.fieldsOf, hu]
      rw [run_equalIn_struct w (d + m) t xs ys (by rw [hfo]; exact hu) h.1, hfo]
      refine run_eqFields (d + m) xs ys _ w fs.toList fun f hf => ?_
      obtain ⟨⟨⟨h1, h2⟩, h3⟩, h4⟩ := h.2 f hf
      exact ⟨h1, h2, h3, ih _ _ _ d w h4⟩
    · rename_i n e xs ys hu
      simp only [Bool.and_eq_true, List.all_eq_true, List.mem_range] at h
      obtain ⟨ei, he⟩ := Option.isSome_iff_exists.1 h.1
      refine run_equalIn_array (d + m) xs ys _ w hu he fun i hi => ?_
      obtain ⟨⟨h1, h2⟩, h3⟩ := h.2 i hi
      exact ⟨h1, h2, ih _ _ _ d w h3⟩
    · cases h

def eqArgs (S : Env) (o : Oper) : Option (Bool × TypeId × Array Value × Array Value) :=
  match o.op with
  | .binOp .eql t x y _ => match S.op x, S.op y with
    | some (.agg xs), some (.agg ys) => some (true, t, xs, ys)
    | _, _ => none
  | .binOp .neq t x y _ => match S.op x, S.op y with
    | some (.agg xs), some (.agg ys) => some (false, t, xs, ys)
    | _, _ => none
  | _ => none

theorem run_eqArgs {N : Nat} {S : Env} {a : Act} (hf : Fits N S a) {o : Oper} {b : Bool} {t : TypeId} {xs ys : Array Value} {m : Nat} (h : eqArgs S o = some (b, t, xs, ys)) (hg : P.eqGuardType P.depth t = false) (hm : m ≤ 10000)
    (hok : okEq P m t (.agg xs) (.agg ys) = true) (w : World) : (execOp a.eval o).run P w = .ok (.value (.bool (if b then eqFlat P m t (.agg xs) (.agg ys) else !(eqFlat P m t (.agg xs) (.agg ys))))) w := by
  have hr := run_equalIn_flat m t (.agg xs) (.agg ys) (10000 - m) w hok
  rw [Nat.sub_add_cancel hm] at hr
  unfold eqArgs at h
  split at h
  · rename_i t' x y t2 ho
    split at h
    · rename_i xs' ys' hx hy
      simp only [Option.some.injEq, Prod.mk.injEq] at h
      obtain ⟨rfl, rfl, rfl, rfl⟩ := h
      have hx' := hf.op hx
      have hy' := hf.op hy
      generalize a.eval = ρ at hx' hy' ⊢
      have hgd := run_eqGuard_agg (P := P) w .eql t' x y xs' ys' hg
      have hbo := run_eql_struct (P := P) w t' xs' ys'
      rw [hr] at hbo
      simp only [execOp, ho, hx', hy', Sem.run_bind, hgd, hbo, Result.andThen_ok, if_true]
      rfl
    · cases h
  · rename_i t' x y t2 ho
    split at h
    · rename_i xs' ys' hx hy
      simp only [Option.some.injEq, Prod.mk.injEq] at h
      obtain ⟨rfl, rfl, rfl, rfl⟩ := h
      have hx' := hf.op hx
      have hy' := hf.op hy
      generalize a.eval = ρ at hx' hy' ⊢
      have hgd := run_eqGuard_agg (P := P) w .neq t' x y xs' ys' hg
      have hbo := run_neq_struct (P := P) w t' xs' ys'
      rw [hr] at hbo
      simp only [execOp, ho, hx', hy', Sem.run_bind, hgd, hbo, Result.andThen_ok, Bool.false_eq_true, if_false]
      rfl
    · cases h
  · cases h
end
end Go.Sx
