/-
  Ev, part B: what names stand for; memory told by names. Proved once, for any program. Conditions: none beside each theorem's own.
-/
import Derived.Test.YtnhjlddkmakfbaaDoorEvA
import Derived.WalkKit
namespace Go.Ev
open Go.Sx
set_option linter.unusedVariables false
set_option linter.unusedSimpArgs false

/-! ### Tables -/
namespace Tr
variable {α : Type}
theorem pick0 {β : Type} (a b c d : β) : pick 0 a b c d = a := rfl
theorem pick1 {β : Type} (a b c d : β) : pick 1 a b c d = b := rfl
theorem pick2 {β : Type} (a b c d : β) : pick 2 a b c d = c := rfl
theorem pick3 {β : Type} (a b c d : β) : pick 3 a b c d = d := rfl
theorem get_nil (n : Nat) : (Tr.nil : Tr α).get n = none := rfl
theorem four (k : Nat) : Nat.mod k 4 = 0 ∨ Nat.mod k 4 = 1 ∨ Nat.mod k 4 = 2 ∨ Nat.mod k 4 = 3 := by
  show k % 4 = 0 ∨ k % 4 = 1 ∨ k % 4 = 2 ∨ k % 4 = 3
  omega
theorem get_succ (v : Option α) (a b c d : Tr α) (k : Nat) : (Tr.node v a b c d).get (k + 1) = (pick (Nat.mod k 4) a b c d).get (Nat.div k 4) := by
  show pick (Nat.mod k 4) (a.get (Nat.div k 4)) (b.get (Nat.div k 4)) (c.get (Nat.div k 4)) (d.get (Nat.div k 4)) = _
  rcases four k with h | h | h | h <;> rw [h] <;> rfl
noncomputable def ups (i : Nat) (v : Option α) (x a b c d : Tr α) : Tr α := pick i (.node v x b c d) (.node v a x c d) (.node v a b x d) (.node v a b c x)
theorem put_nilS (d n : Nat) (x : Option α) : put (d + 1) .nil (n + 1) x = ups (Nat.mod n 4) none (put d .nil (Nat.div n 4) x) .nil .nil .nil .nil := rfl
theorem put_nodeS (q n : Nat) (v : Option α) (a b c d : Tr α) (x : Option α) : put (q + 1) (.node v a b c d) (n + 1) x = ups (Nat.mod n 4) v (put q (pick (Nat.mod n 4) a b c d) (Nat.div n 4) x) a b c d := by
  show pick (Nat.mod n 4) (Tr.node v (put q a (Nat.div n 4) x) b c d) (.node v a (put q b (Nat.div n 4) x) c d) (.node v a b (put q c (Nat.div n 4) x) d) (.node v a b c (put q d (Nat.div n 4) x)) = _
  rcases four n with h | h | h | h <;> rw [h] <;> rfl
theorem get_ups0 (n : Nat) (v : Option α) (x a b c d : Tr α) : (ups (Nat.mod n 4) v x a b c d).get 0 = v := by
  unfold ups
  rcases four n with h | h | h | h <;> rw [h] <;> rfl
theorem get_ups (n k : Nat) (v : Option α) (x a b c d : Tr α) : (ups (Nat.mod n 4) v x a b c d).get (k + 1) = if Nat.mod k 4 = Nat.mod n 4 then x.get (Nat.div k 4) else (pick (Nat.mod k 4) a b c d).get (Nat.div k 4) := by
  unfold ups
  rcases four n with h | h | h | h <;> rw [h] <;> simp only [pick0, pick1, pick2, pick3] <;> rw [get_succ] <;> rcases four k with h2 | h2 | h2 | h2 <;> rw [h2] <;> simp only [pick0, pick1, pick2, pick3] <;> simp

theorem get_put : ∀ (d : Nat) (t : Tr α) (n : Nat) (x : Option α) (k : Nat), n < d → (put d t n x).get k = if k = n then x else t.get k
  | 0, t, n, x, k, h => by omega
  | q + 1, .nil, 0, x, k, _ => by
    cases k with
    | zero => rfl
    | succ k =>
      show (Tr.node x .nil .nil .nil .nil).get (k + 1) = _
      rw [get_succ, if_neg (by omega), get_nil]
      rcases four k with h | h | h | h <;> rw [h] <;> rfl
  | q + 1, .node v a b c d, 0, x, k, _ => by
    cases k with
    | zero => rfl
    | succ k =>
      show (Tr.node x a b c d).get (k + 1) = _
      rw [get_succ, if_neg (by omega), get_succ]
  | q + 1, .nil, n + 1, x, k, h => by
    rw [put_nilS]
    cases k with
    | zero => rw [get_ups0, if_neg (by omega)]; rfl
    | succ k =>
      have h1 : Nat.div n 4 < q := by show n / 4 < q; omega
      rw [get_ups, get_put q .nil _ x _ h1]
      have e1 : Nat.mod k 4 = k % 4 := rfl
      have e2 : Nat.mod n 4 = n % 4 := rfl
      have e3 : Nat.div k 4 = k / 4 := rfl
      have e4 : Nat.div n 4 = n / 4 := rfl
      by_cases hm : Nat.mod k 4 = Nat.mod n 4
      · rw [if_pos hm]
        by_cases e : k = n
        · subst e; rw [if_pos rfl, if_pos rfl]
        · rw [if_neg (by omega), if_neg (by omega), get_nil, get_nil]
      · rw [if_neg hm, if_neg (by intro e; apply hm; rw [Nat.succ.inj e]), get_nil]
        rcases four k with h | h | h | h <;> rw [h] <;> rfl
  | q + 1, .node v a b c d, n + 1, x, k, h => by
    rw [put_nodeS]
    cases k with
    | zero => rw [get_ups0, if_neg (by omega)]; rfl
    | succ k =>
      have h1 : Nat.div n 4 < q := by show n / 4 < q; omega
      rw [get_ups, get_put q _ _ x _ h1, get_succ v]
      have e1 : Nat.mod k 4 = k % 4 := rfl
      have e2 : Nat.mod n 4 = n % 4 := rfl
      have e3 : Nat.div k 4 = k / 4 := rfl
      have e4 : Nat.div n 4 = n / 4 := rfl
      by_cases hm : Nat.mod k 4 = Nat.mod n 4
      · rw [if_pos hm, hm]
        by_cases e : k = n
        · subst e; rw [if_pos rfl, if_pos rfl]
        · rw [if_neg (by omega), if_neg (by omega)]
      · rw [if_neg hm, if_neg (by intro e; apply hm; rw [Nat.succ.inj e])]

theorem get_set (t : Tr α) (n : Nat) (a : Option α) (k : Nat) : (t.set n a).get k = if k = n then a else t.get k := get_put (n + 1) t n a k (by omega)
theorem get_set_self (t : Tr α) (n : Nat) (a : Option α) : (t.set n a).get n = a := by rw [get_set, if_pos rfl]
theorem get_set_ne (t : Tr α) {n k : Nat} (a : Option α) (h : k ≠ n) : (t.set n a).get k = t.get k := by rw [get_set, if_neg h]
end Tr

theorem forceN_eq {R : Type} (n : Nat) (k : Nat → R) : forceN n k = k n := by cases n <;> rfl

/-! ### What names stand for -/
abbrev Nu := Nat → Option (Nat × Nat)

mutual
def AV.val (ν : Nu) : AV → Option Value
  | .num k n => some (.int k (.ofNat n))
  | .bool b => some (.bool b)
  | .flat v => some v
  | .ptr id off => match ν id with
    | some p => some (.pointer (some ⟨p.1, off, none⟩))
    | none => none
  | .sl id off len cap kn => match ν id with
    | some p => match kn with
      | true => if len ≤ cap then some (.slice (some ⟨p.1, off, none⟩) len cap) else none
      | false => if len + cap ≤ p.2 then some (.slice (some ⟨p.1, off, none⟩) len (p.2 - cap)) else none
    | none => none
  | .se id off off' sub => match ν id with
    | some p => if sub ≤ p.2 then some (.slice (some ⟨p.1, if p.2 = sub then off else off', none⟩) 0 (p.2 - sub)) else none
    | none => none
  | .mp id => match ν id with
    | some p => some (.map (some p.1))
    | none => none
  | .fn f a b => match vals ν a, vals ν b with
    | some x, some y => some (.func (.func f) x.toArray y.toArray)
    | _, _ => none
  | .agg cs => match vals ν cs with
    | some x => some (.agg x.toArray)
    | none => none
  | .tup cs => match vals ν cs with
    | some x => some (.tuple x.toArray)
    | none => none
def vals (ν : Nu) : List AV → Option (List Value)
  | [] => some []
  | a :: l => match AV.val ν a, vals ν l with
    | some v, some vs => some (v :: vs)
    | _, _ => none
end

def Nu.le (ν ν' : Nu) : Prop := ∀ id p, ν id = some p → ν' id = some p
theorem Nu.le_refl (ν : Nu) : ν.le ν := fun _ _ h => h
theorem Nu.le_trans {ν ν' ν'' : Nu} (h : ν.le ν') (h' : ν'.le ν'') : ν.le ν'' := fun id p hp => h' id p (h id p hp)
def Nu.add (ν : Nu) (id : Nat) (p : Nat × Nat) : Nu := fun k => if k = id then some p else ν k
theorem Nu.le_add {ν : Nu} {id : Nat} {p : Nat × Nat} (h : ν id = none) : ν.le (ν.add id p) := fun k q hq => by
  unfold Nu.add
  by_cases e : k = id
  · subst e; rw [h] at hq; cases hq
  · rw [if_neg e]; exact hq
theorem Nu.add_self (ν : Nu) (id : Nat) (p : Nat × Nat) : (ν.add id p) id = some p := by simp [Nu.add]

mutual
theorem AV.val_mono {ν ν' : Nu} (h : ν.le ν') : ∀ (a : AV) {v : Value}, a.val ν = some v → a.val ν' = some v
  | .num _ _, v, hv => hv
  | .bool _, v, hv => hv
  | .flat _, v, hv => hv
  | .ptr id off, v, hv => by
    simp only [AV.val] at hv ⊢
    cases hp : ν id with
    | none => rw [hp] at hv; cases hv
    | some p => rw [h id p hp]; rw [hp] at hv; exact hv
  | .sl id off len cap kn, v, hv => by
    simp only [AV.val] at hv ⊢
    cases hp : ν id with
    | none => rw [hp] at hv; cases hv
    | some p => rw [h id p hp]; rw [hp] at hv; exact hv
  | .se id off off' sub, v, hv => by
    simp only [AV.val] at hv ⊢
    cases hp : ν id with
    | none => rw [hp] at hv; cases hv
    | some p => rw [h id p hp]; rw [hp] at hv; exact hv
  | .mp id, v, hv => by
    simp only [AV.val] at hv ⊢
    cases hp : ν id with
    | none => rw [hp] at hv; cases hv
    | some p => rw [h id p hp]; rw [hp] at hv; exact hv
  | .fn f a b, v, hv => by
    simp only [AV.val] at hv ⊢
    cases ha : vals ν a with
    | none => rw [ha] at hv; cases hv
    | some x =>
      cases hb : vals ν b with
      | none => rw [ha, hb] at hv; cases hv
      | some y => rw [vals_mono h a ha, vals_mono h b hb]; rw [ha, hb] at hv; exact hv
  | .agg cs, v, hv => by
    simp only [AV.val] at hv ⊢
    cases ha : vals ν cs with
    | none => rw [ha] at hv; cases hv
    | some x => rw [vals_mono h cs ha]; rw [ha] at hv; exact hv
  | .tup cs, v, hv => by
    simp only [AV.val] at hv ⊢
    cases ha : vals ν cs with
    | none => rw [ha] at hv; cases hv
    | some x => rw [vals_mono h cs ha]; rw [ha] at hv; exact hv
theorem vals_mono {ν ν' : Nu} (h : ν.le ν') : ∀ (l : List AV) {vs : List Value}, vals ν l = some vs → vals ν' l = some vs
  | [], vs, hv => hv
  | a :: l, vs, hv => by
    simp only [vals] at hv ⊢
    cases ha : a.val ν with
    | none => rw [ha] at hv; cases hv
    | some x =>
      cases hb : vals ν l with
      | none => rw [ha, hb] at hv; cases hv
      | some y => rw [AV.val_mono h a ha, vals_mono h l hb]; rw [ha, hb] at hv; exact hv
end

theorem vals_cons {ν : Nu} {a : AV} {l : List AV} {vs : List Value} : vals ν (a :: l) = some vs ↔ ∃ v ws, a.val ν = some v ∧ vals ν l = some ws ∧ vs = v :: ws := by
  simp only [vals]
  cases ha : a.val ν with
  | none => simp
  | some x =>
    cases hb : vals ν l with
    | none => simp
    | some y => simp [eq_comm]

theorem vals_cons_mk {ν : Nu} {a : AV} {l : List AV} {v : Value} {ws : List Value} (h1 : a.val ν = some v) (h2 : vals ν l = some ws) : vals ν (a :: l) = some (v :: ws) := vals_cons.2 ⟨v, ws, h1, h2, rfl⟩

theorem vals_length {ν : Nu} : ∀ {l : List AV} {vs : List Value}, vals ν l = some vs → vs.length = l.length
  | [], vs, h => by simp only [vals, Option.some.injEq] at h; subst h; rfl
  | a :: l, vs, h => by
    obtain ⟨v, ws, _, h2, rfl⟩ := vals_cons.1 h
    simp [vals_length h2]

theorem vals_get {ν : Nu} : ∀ {l : List AV} {vs : List Value}, vals ν l = some vs → ∀ {i : Nat} {a : AV}, l[i]? = some a → ∃ v, a.val ν = some v ∧ vs[i]? = some v
  | a :: l, vs, h, i, x, hi => by
    obtain ⟨v, ws, h1, h2, rfl⟩ := vals_cons.1 h
    cases i with
    | zero => simp at hi; subst hi; exact ⟨v, h1, rfl⟩
    | succ i => simpa using vals_get h2 (by simpa using hi)

theorem vals_append {ν : Nu} : ∀ {l l' : List AV} {vs vs' : List Value}, vals ν l = some vs → vals ν l' = some vs' → vals ν (l ++ l') = some (vs ++ vs')
  | [], l', vs, vs', h, h' => by simp only [vals, Option.some.injEq] at h; subst h; exact h'
  | a :: l, l', vs, vs', h, h' => by
    obtain ⟨v, ws, h1, h2, rfl⟩ := vals_cons.1 h
    exact vals_cons_mk h1 (vals_append h2 h')

theorem vals_drop {ν : Nu} : ∀ {l : List AV} {vs : List Value} (n : Nat), vals ν l = some vs → vals ν (l.drop n) = some (vs.drop n)
  | l, vs, 0, h => by simpa using h
  | [], vs, n + 1, h => by simp only [vals, Option.some.injEq] at h; subst h; rfl
  | a :: l, vs, n + 1, h => by
    obtain ⟨v, ws, h1, h2, rfl⟩ := vals_cons.1 h
    simpa using vals_drop n h2

theorem vals_take {ν : Nu} : ∀ {l : List AV} {vs : List Value} (n : Nat), vals ν l = some vs → vals ν (l.take n) = some (vs.take n)
  | l, vs, 0, h => rfl
  | [], vs, n + 1, h => by simp only [vals, Option.some.injEq] at h; subst h; rfl
  | a :: l, vs, n + 1, h => by
    obtain ⟨v, ws, h1, h2, rfl⟩ := vals_cons.1 h
    simpa using vals_cons_mk h1 (vals_take n h2)

theorem over_vals {ν : Nu} : ∀ {vs cs : List AV} {us ws : List Value}, vals ν vs = some us → vals ν cs = some ws → vals ν (over vs cs) = some (over us ws)
  | [], cs, us, ws, h, h' => by simp only [vals, Option.some.injEq] at h; subst h; exact h'
  | v :: vs, [], us, ws, h, h' => by
    simp only [vals, Option.some.injEq] at h'; subst h'
    obtain ⟨_, _, _, _, rfl⟩ := vals_cons.1 h
    rfl
  | v :: vs, c :: cs, us, ws, h, h' => by
    obtain ⟨u, us', h1, h2, rfl⟩ := vals_cons.1 h
    obtain ⟨x, xs, h3, h4, rfl⟩ := vals_cons.1 h'
    exact vals_cons_mk h1 (over_vals h2 h4)

theorem splice_vals {ν : Nu} : ∀ (n : Nat) {vs cs : List AV} {us ws : List Value}, vals ν vs = some us → vals ν cs = some ws → vals ν (splice n vs cs) = some (splice n us ws)
  | 0, vs, cs, us, ws, h, h' => over_vals h h'
  | n + 1, vs, [], us, ws, h, h' => by simp only [vals, Option.some.injEq] at h'; subst h'; rfl
  | n + 1, vs, c :: cs, us, ws, h, h' => by
    obtain ⟨x, xs, h3, h4, rfl⟩ := vals_cons.1 h'
    exact vals_cons_mk h3 (splice_vals n h h4)

theorem over_length {α : Type} : ∀ (vs cs : List α), vs.length ≤ cs.length → (over vs cs).length = cs.length
  | [], cs, _ => rfl
  | v :: vs, [], h => by simp at h
  | v :: vs, c :: cs, h => by simp [over, over_length vs cs (by simpa using h)]

theorem splice_length {α : Type} : ∀ (n : Nat) (vs cs : List α), n + vs.length ≤ cs.length → (splice n vs cs).length = cs.length
  | 0, vs, cs, h => over_length vs cs (by simpa using h)
  | n + 1, vs, [], h => by simp at h
  | n + 1, vs, c :: cs, h => by simp [splice, splice_length n vs cs (by simp at h; omega)]

theorem over_take {α : Type} : ∀ (vs cs rest : List α), vs.length ≤ cs.length → over vs (cs ++ rest) = over vs cs ++ rest
  | [], cs, rest, _ => rfl
  | v :: vs, [], rest, h => by simp at h
  | v :: vs, c :: cs, rest, h => by simp [over, over_take vs cs rest (by simpa using h)]

theorem splice_take {α : Type} : ∀ (n : Nat) (vs cs rest : List α), n + vs.length ≤ cs.length → splice n vs (cs ++ rest) = splice n vs cs ++ rest
  | 0, vs, cs, rest, h => over_take vs cs rest (by simpa using h)
  | n + 1, vs, [], rest, h => by simp at h
  | n + 1, vs, c :: cs, rest, h => by simp [splice, splice_take n vs cs rest (by simp at h; omega)]

theorem lift_val (ν : Nu) (v : Value) : (lift v).val ν = some v := by
  cases v with
  | int k n => cases n <;> rfl
  | _ => rfl

theorem lifts_vals (ν : Nu) : ∀ (l : List Value), vals ν (l.map lift) = some l
  | [] => rfl
  | v :: l => vals_cons_mk (lift_val ν v) (lifts_vals ν l)

theorem cellsOf_vals {ν : Nu} {a : AV} {v : Value} (h : a.val ν = some v) : vals ν (cellsOf a) = some v.cells.toList := by
  have one : ∀ (a : AV) (v : Value), a.val ν = some v → v.cells = #[v] → vals ν [a] = some v.cells.toList := fun a v h h' => by rw [h']; exact vals_cons_mk h rfl
  cases a with
  | flat u =>
    simp only [AV.val, Option.some.injEq] at h
    subst h
    cases u with
    | agg cs => simpa [cellsOf, Value.cells] using lifts_vals ν cs.toList
    | _ => exact vals_cons_mk rfl rfl
  | agg cs =>
    simp only [AV.val] at h
    cases hc : vals ν cs with
    | none => rw [hc] at h; cases h
    | some x => rw [hc] at h; simp only [Option.some.injEq] at h; subst h; simpa [cellsOf, Value.cells] using hc
  | num k n => simp only [AV.val, Option.some.injEq] at h; subst h; rfl
  | bool b => simp only [AV.val, Option.some.injEq] at h; subst h; rfl
  | ptr id off =>
    refine one _ _ h ?_
    simp only [AV.val] at h
    split at h <;> simp at h; subst h; rfl
  | sl id off len cap kn =>
    refine one _ _ h ?_
    simp only [AV.val] at h
    (repeat' split at h) <;> simp at h <;> subst h <;> rfl
  | se id off off' sub =>
    refine one _ _ h ?_
    simp only [AV.val] at h
    (repeat' split at h) <;> simp at h <;> subst h <;> rfl
  | mp id =>
    refine one _ _ h ?_
    simp only [AV.val] at h
    split at h <;> simp at h; subst h; rfl
  | fn f a b =>
    refine one _ _ h ?_
    simp only [AV.val] at h
    split at h <;> simp at h; subst h; rfl
  | tup cs =>
    refine one _ _ h ?_
    simp only [AV.val] at h
    split at h <;> simp at h; subst h; rfl

theorem flat1_val {ν : Nu} {a : AV} {v : Value} (h : flat1 a = some v) : a.val ν = some v := by
  cases a <;> simp [flat1] at h <;> subst h <;> rfl

theorem flats_vals {ν : Nu} : ∀ {l : List AV} {vs : List Value}, flats l = some vs → vals ν l = some vs
  | [], vs, h => h
  | a :: l, vs, h => by
    simp only [flats] at h
    split at h
    · rename_i v hv
      split at h
      · rename_i us hu
        simp only [Option.some.injEq] at h
        subst h
        exact vals_cons_mk (flat1_val hv) (flats_vals hu)
      · cases h
    · cases h

theorem flatOf_val {ν : Nu} {a : AV} {v : Value} (h : flatOf a = some v) : a.val ν = some v := by
  cases a with
  | agg cs =>
    simp only [flatOf] at h
    split at h
    · rename_i vs hv
      simp only [Option.some.injEq] at h
      subst h
      simp [AV.val, flats_vals (ν := ν) hv]
    · cases h
  | _ => simp [flatOf] at h <;> subst h <;> rfl

/-! ### Memory -/
def valEs (ν : Nu) : List (Value × AV × Nat) → Option (List MapEntry)
  | [] => some []
  | e :: l => match e.2.1.val ν, valEs ν l with
    | some v, some vs => some (⟨e.1, v, e.2.2⟩ :: vs)
    | _, _ => none

theorem valEs_mono {ν ν' : Nu} (h : ν.le ν') : ∀ (l : List (Value × AV × Nat)) {vs : List MapEntry}, valEs ν l = some vs → valEs ν' l = some vs
  | [], vs, hv => hv
  | e :: l, vs, hv => by
    simp only [valEs] at hv ⊢
    cases ha : e.2.1.val ν with
    | none => rw [ha] at hv; cases hv
    | some x =>
      cases hb : valEs ν l with
      | none => rw [ha, hb] at hv; cases hv
      | some y => rw [AV.val_mono h _ ha, valEs_mono h l hb]; rw [ha, hb] at hv; exact hv

def Blk.holds (ν : Nu) (k : Nat) : Blk → Obj → Prop
  | .cells cs, o => ∃ vs T fr, vals ν cs = some vs ∧ o = .cells vs.toArray T fr ∧ ∀ i, i < vs.length → ¬ (fr.1 ≤ i ∧ i < fr.2)
  | .buf cs z, o => ∃ vs rest T fr, vals ν cs = some vs ∧ o = .cells (vs ++ rest).toArray T fr ∧ (vs ++ rest).length = k * z ∧ (∀ i, i < (vs ++ rest).length → ¬ (fr.1 ≤ i ∧ i < fr.2)) ∧ k ≤ 9223372036854775807
  | .map es clock, o => ∃ l, valEs ν es = some l ∧ o = .map l.toArray clock
  | .iter mid since seen last, o => ∃ p, ν mid = some p ∧ o = .mapIter (some p.1) since seen.toArray last
  | .siter s pos, o => o = .stringIter s pos

theorem Blk.holds_mono {ν ν' : Nu} (h : ν.le ν') {k : Nat} {o : Obj} : ∀ (b : Blk), b.holds ν k o → b.holds ν' k o
  | .cells cs, ⟨vs, T, fr, h1, h2⟩ => ⟨vs, T, fr, vals_mono h cs h1, h2⟩
  | .buf cs z, ⟨vs, rest, T, fr, h1, h2⟩ => ⟨vs, rest, T, fr, vals_mono h cs h1, h2⟩
  | .map es clock, ⟨l, h1, h2⟩ => ⟨l, valEs_mono h es h1, h2⟩
  | .iter mid since seen last, ⟨p, h1, h2⟩ => ⟨p, h mid p h1, h2⟩
  | .siter s pos, hh => hh

structure MemOK (ν : Nu) (m : AM) (w : World) : Prop where
  fresh : ∀ id, m.next ≤ id → ν id = none
  at_ : ∀ id blk, m.get id = some blk → ∃ p o, ν id = some p ∧ w.heap[p.1]? = some o ∧ blk.holds ν p.2 o
  inj : ∀ id id' blk blk' p p', m.get id = some blk → m.get id' = some blk' → ν id = some p → ν id' = some p' → p.1 = p'.1 → id = id'

def Mem (ν : Nu) (m : AM) : Asn :=
  ⟨fun b => ∃ id blk p, m.get id = some blk ∧ ν id = some p ∧ p.1 = b, MemOK ν m, fun w w' h hm =>
    ⟨hm.fresh, fun id blk hg => by
      obtain ⟨p, o, h1, h2, h3⟩ := hm.at_ id blk hg
      exact ⟨p, o, h1, (h p.1 ⟨id, blk, p, hg, h1, rfl⟩).trans h2, h3⟩, hm.inj⟩⟩

section
variable {ν : Nu} {m : AM} {w w0 : World} {L : List Asn}

theorem MemOK.ltNext (h : MemOK ν m w) {id : Nat} {blk : Blk} (hg : m.get id = some blk) : id < m.next := by
  obtain ⟨p, o, h1, _⟩ := h.at_ id blk hg
  apply Nat.lt_of_not_le
  intro hle
  rw [h.fresh id hle] at h1
  cases h1

theorem get_new (m : AM) (b : Blk) (k : Nat) : (m.new b).get k = if k = m.next then some b else m.get k := Tr.get_set _ _ _ _
theorem get_setM (m : AM) (id : Nat) (b : Blk) (k : Nat) : (m.set id b).get k = if k = id then some b else m.get k := Tr.get_set _ _ _ _
theorem get_del (m : AM) (id k : Nat) : (m.del id).get k = if k = id then none else m.get k := Tr.get_set _ _ _ _

/-- A new block. -/
theorem St.mNew (hs : St w0 (Mem ν m :: L) w) (b : Blk) (o : Obj) (cap : Nat) (hb : b.holds (ν.add m.next (w.heap.size, cap)) cap o) :
    St w0 (Mem (ν.add m.next (w.heap.size, cap)) (m.new b) :: L) { w with heap := w.heap.push o } ∧ ν.le (ν.add m.next (w.heap.size, cap)) := by
  have hm : MemOK ν m w := hs.holds _ (List.mem_cons_self ..)
  have hle : ν.le (ν.add m.next (w.heap.size, cap)) := Nu.le_add (hm.fresh _ (Nat.le_refl _))
  refine ⟨St.step hs rfl rfl rfl (by simp) (fun k hk _ => by simp only [Array.getElem?_push]; rw [if_neg (by omega)]) ⟨?_, ?_, ?_⟩ ?_, hle⟩
  · intro id hid
    have : m.next + 1 ≤ id := hid
    rw [Nu.add, if_neg (by omega)]
    exact hm.fresh id (by omega)
  · intro id blk hg
    rw [get_new] at hg
    by_cases e : id = m.next
    · subst e
      rw [if_pos rfl] at hg
      cases hg
      exact ⟨_, o, Nu.add_self _ _ _, by simp, hb⟩
    · rw [if_neg e] at hg
      obtain ⟨p, o', h1, h2, h3⟩ := hm.at_ id blk hg
      refine ⟨p, o', hle id p h1, ?_, Blk.holds_mono hle _ h3⟩
      have := (Array.getElem?_eq_some_iff.1 h2).1
      simp only [Array.getElem?_push]
      rw [if_neg (by omega)]
      exact h2
  · intro id id' blk blk' p p' hg hg' hp hp' he
    rw [get_new] at hg hg'
    have key : ∀ (id : Nat) (blk : Blk) (p : Nat × Nat), id ≠ m.next → m.get id = some blk → (ν.add m.next (w.heap.size, cap)) id = some p → p.1 < w.heap.size ∧ ν id = some p := by
      intro id blk p hne hg hp
      rw [Nu.add, if_neg hne] at hp
      obtain ⟨q, o', h1, h2, _⟩ := hm.at_ id blk hg
      rw [hp] at h1
      cases h1
      exact ⟨(Array.getElem?_eq_some_iff.1 h2).1, hp⟩
    by_cases e : id = m.next
    · by_cases e' : id' = m.next
      · rw [e, e']
      · rw [if_neg e'] at hg'
        obtain ⟨h1, _⟩ := key id' blk' p' e' hg' hp'
        subst e
        rw [Nu.add_self] at hp
        cases hp
        simp only at he
        omega
    · rw [if_neg e] at hg
      obtain ⟨h1, h2⟩ := key id blk p e hg hp
      by_cases e' : id' = m.next
      · subst e'
        rw [Nu.add_self] at hp'
        cases hp'
        simp only at he
        omega
      · rw [if_neg e'] at hg'
        obtain ⟨_, h3⟩ := key id' blk' p' e' hg' hp'
        exact hm.inj id id' blk blk' p p' hg hg' h2 h3 he
  · intro b' hb'
    obtain ⟨id, blk, p, hg, hp, rfl⟩ := hb'
    rw [get_new] at hg
    by_cases e : id = m.next
    · subst e
      rw [Nu.add_self] at hp
      cases hp
      exact ⟨.inr (Nat.le_refl _), by simp⟩
    · rw [if_neg e] at hg
      rw [Nu.add, if_neg e] at hp
      obtain ⟨q, o', h1, h2, _⟩ := hm.at_ id blk hg
      rw [hp] at h1
      cases h1
      have := (Array.getElem?_eq_some_iff.1 h2).1
      exact ⟨.inl ⟨id, blk, p, hg, hp, rfl⟩, by simp; omega⟩

/-- A block is changed. -/
theorem St.mSet (hs : St w0 (Mem ν m :: L) w) {id : Nat} {blk blk' : Blk} {p : Nat × Nat} (hg : m.get id = some blk) (hp : ν id = some p) (o : Obj) (hb : blk'.holds ν p.2 o) :
    St w0 (Mem ν (m.set id blk') :: L) { w with heap := w.heap.setIfInBounds p.1 o } := by
  have hm : MemOK ν m w := hs.holds _ (List.mem_cons_self ..)
  have hlt : p.1 < w.heap.size := by
    obtain ⟨q, o', h1, h2, _⟩ := hm.at_ id blk hg
    rw [hp] at h1
    cases h1
    exact (Array.getElem?_eq_some_iff.1 h2).1
  have old : ∀ (k : Nat) (b : Blk), (m.set id blk').get k = some b → ∃ b', m.get k = some b' := by
    intro k b h
    rw [get_setM] at h
    by_cases e : k = id
    · subst e; exact ⟨blk, hg⟩
    · rw [if_neg e] at h; exact ⟨b, h⟩
  refine St.step hs rfl rfl rfl (by simp) (fun k hk hn => ?_) ⟨hm.fresh, ?_, ?_⟩ ?_
  · simp only [Array.getElem?_setIfInBounds]
    rw [if_neg (fun e => hn ⟨id, blk, p, hg, hp, e⟩)]
  · intro k b h
    rw [get_setM] at h
    by_cases e : k = id
    · subst e
      rw [if_pos rfl] at h
      cases h
      exact ⟨p, o, hp, by simp [hlt], hb⟩
    · rw [if_neg e] at h
      obtain ⟨q, o', h1, h2, h3⟩ := hm.at_ k b h
      refine ⟨q, o', h1, ?_, h3⟩
      simp only [Array.getElem?_setIfInBounds]
      rw [if_neg (fun e' => e (hm.inj k id b blk q p h hg h1 hp e'.symm))]
      exact h2
  · intro k k' b b' q q' h h' hq hq' he
    obtain ⟨c, hc⟩ := old k b h
    obtain ⟨c', hc'⟩ := old k' b' h'
    exact hm.inj k k' c c' q q' hc hc' hq hq' he
  · intro b' hb'
    obtain ⟨k, b, q, h, hq, rfl⟩ := hb'
    obtain ⟨c, hc⟩ := old k b h
    refine ⟨.inl ⟨k, c, q, hc, hq, rfl⟩, ?_⟩
    obtain ⟨q', o', h1, h2, _⟩ := hm.at_ k c hc
    rw [hq] at h1
    cases h1
    have := (Array.getElem?_eq_some_iff.1 h2).1
    simpa using this

/-- A name is given up. -/
theorem St.mDel (hs : St w0 (Mem ν m :: L) w) (id : Nat) : St w0 (Mem ν (m.del id) :: L) w := by
  have hm : MemOK ν m w := hs.holds _ (List.mem_cons_self ..)
  have old : ∀ (k : Nat) (b : Blk), (m.del id).get k = some b → m.get k = some b := by
    intro k b h
    rw [get_del] at h
    by_cases e : k = id
    · rw [if_pos e] at h; cases h
    · rw [if_neg e] at h; exact h
  refine St.conv hs (fun _ => ⟨hm.fresh, fun k b h => hm.at_ k b (old k b h), fun k k' b b' q q' h h' => hm.inj k k' b b' q q' (old k b h) (old k' b' h')⟩) ?_
  rintro b' ⟨k, b, q, h, hq, rfl⟩
  exact ⟨k, b, q, old k b h, hq, rfl⟩

/-- A block gets a new name, and is changed. -/
theorem St.mMove (hs : St w0 (Mem ν m :: L) w) {id : Nat} {blk blk' : Blk} {p : Nat × Nat} (hg : m.get id = some blk) (hp : ν id = some p) (o : Obj) (hb : blk'.holds (ν.add m.next p) p.2 o) :
    St w0 (Mem (ν.add m.next p) ((m.del id).new blk') :: L) { w with heap := w.heap.setIfInBounds p.1 o } ∧ ν.le (ν.add m.next p) := by
  have hm : MemOK ν m w := hs.holds _ (List.mem_cons_self ..)
  have hle : ν.le (ν.add m.next p) := Nu.le_add (hm.fresh _ (Nat.le_refl _))
  have hlt : p.1 < w.heap.size := by
    obtain ⟨q, o', h1, h2, _⟩ := hm.at_ id blk hg
    rw [hp] at h1
    cases h1
    exact (Array.getElem?_eq_some_iff.1 h2).1
  have hidn := hm.ltNext hg
  have look : ∀ (k : Nat) (b : Blk), ((m.del id).new blk').get k = some b → (k = m.next ∧ b = blk') ∨ (k ≠ m.next ∧ k ≠ id ∧ m.get k = some b) := by
    intro k b h
    rw [get_new] at h
    by_cases e : k = m.next
    · have e' : k = (m.del id).next := e
      rw [if_pos e'] at h; cases h; exact .inl ⟨e, rfl⟩
    · have e' : ¬ k = (m.del id).next := e
      rw [if_neg e', get_del] at h
      by_cases e2 : k = id
      · rw [if_pos e2] at h; cases h
      · rw [if_neg e2] at h; exact .inr ⟨e, e2, h⟩
  refine ⟨St.step hs rfl rfl rfl (by simp) (fun k hk hn => ?_) ⟨?_, ?_, ?_⟩ ?_, hle⟩
  · simp only [Array.getElem?_setIfInBounds]
    rw [if_neg (fun e => hn ⟨id, blk, p, hg, hp, e⟩)]
  · intro k hk
    have : m.next + 1 ≤ k := hk
    rw [Nu.add, if_neg (by omega)]
    exact hm.fresh k (by omega)
  · intro k b h
    rcases look k b h with ⟨rfl, rfl⟩ | ⟨e1, e2, h⟩
    · exact ⟨p, o, Nu.add_self _ _ _, by simp [hlt], hb⟩
    · obtain ⟨q, o', h1, h2, h3⟩ := hm.at_ k b h
      refine ⟨q, o', hle k q h1, ?_, Blk.holds_mono hle _ h3⟩
      simp only [Array.getElem?_setIfInBounds]
      rw [if_neg (fun e' => e2 (hm.inj k id b blk q p h hg h1 hp e'.symm))]
      exact h2
  · intro k k' b b' q q' h h' hq hq' he
    rcases look k b h with ⟨e0, -⟩ | ⟨e1, e2, hh⟩
    · rcases look k' b' h' with ⟨e0', -⟩ | ⟨e3, e4, hh'⟩
      · rw [e0, e0']
      · rw [e0, Nu.add_self] at hq
        cases hq
        rw [Nu.add, if_neg e3] at hq'
        exact absurd (hm.inj k' id b' blk q' p hh' hg hq' hp he.symm) e4
    · rw [Nu.add, if_neg e1] at hq
      rcases look k' b' h' with ⟨e0', -⟩ | ⟨e3, e4, hh'⟩
      · rw [e0', Nu.add_self] at hq'
        cases hq'
        exact absurd (hm.inj k id b blk q p hh hg hq hp he) e2
      · rw [Nu.add, if_neg e3] at hq'
        exact hm.inj k k' b b' q q' hh hh' hq hq' he
  · intro b' hb'
    obtain ⟨k, b, q, h, hq, rfl⟩ := hb'
    rcases look k b h with ⟨rfl, rfl⟩ | ⟨e1, e2, h⟩
    · rw [Nu.add_self] at hq
      cases hq
      exact ⟨.inl ⟨id, blk, p, hg, hp, rfl⟩, by simpa using hlt⟩
    · rw [Nu.add, if_neg e1] at hq
      obtain ⟨q', o', h1, h2, _⟩ := hm.at_ k b h
      rw [hq] at h1
      cases h1
      have := (Array.getElem?_eq_some_iff.1 h2).1
      exact ⟨.inl ⟨k, b, q, h, hq, rfl⟩, by simpa using this⟩
end
end Go.Ev
