/-
  Sx, part B2: what the kernel reckons of an operation is what its run does. Proved once, for any program. Conditions: none beside each theorem's own.
-/
import Derived.Test.YtnhjlddkmakfbaaDoorSxB
import Derived.WalkKit
namespace Go.Sx
open Go.RowKit
set_option linter.unusedVariables false
set_option linter.unusedSimpArgs false
variable {P : Program}

theorem known_spec {S : Env} {o : Oper} (h : known S o = true) : (∀ cs b, o.op ≠ .select cs b) ∧ ∀ x ∈ o.op.operands, ∃ v, S.op x = some v := by
  simp only [known, Bool.and_eq_true, Bool.not_eq_true'] at h
  refine ⟨fun cs b e => by rw [e] at h; simp [isSelect] at h, ?_⟩
  have key : ∀ (l : List Operand), (S.ops l).isSome = true → ∀ x ∈ l, ∃ v, S.op x = some v := by
    intro l
    induction l with
    | nil => intro _ x hx; cases hx
    | cons y l ih =>
      intro hs x hx
      simp only [Env.ops] at hs
      cases h1 : S.op y with
      | none => rw [h1] at hs; cases hs
      | some u =>
        cases h2 : S.ops l with
        | none => rw [h1, h2] at hs; cases hs
        | some us =>
          rcases List.mem_cons.1 hx with rfl | hx
          · exact ⟨u, h1⟩
          · exact ih (by rw [h2]; rfl) x hx
  intro x hx
  exact key _ h.2 x (Array.mem_toList_iff.2 hx)

theorem execOp_fits {N : Nat} {S : Env} {a : Act} (hf : Fits N S a) {o : Oper} (h : known S o = true) : execOp a.eval o = execOp (fun x => (S.op x).getD undef) o := by
  obtain ⟨h1, h2⟩ := known_spec h
  refine execOp_congr o h1 fun x hx => ?_
  obtain ⟨v, hv⟩ := h2 x hx
  rw [hf.op hv, hv]
  rfl

theorem evalGen_sound {N : Nat} {S : Env} {a : Act} (hf : Fits N S a) {o : Oper} {ans : List Value} {n : List Need} {v : Value} {w : World}
    (h : evalGen P S o ans = some (n, v)) (hn : okAll w n) : (execOp a.eval o).run P w = .ok (.value v) w := by
  unfold evalGen at h
  split at h
  · rename_i hk
    rw [execOp_fits hf hk]
    exact drive_sound _ _ _ _ h hn
  · cases h

theorem evalAt_sound {N : Nat} {S : Env} {a : Act} (hf : Fits N S a) {o : Oper} {n : List Need} {v : Value} {w : World}
    (h : evalAt P S o = some (n, v)) (hn : okAll w n) : (execOp a.eval o).run P w = .ok (.value v) w := by
  unfold evalAt at h
  split at h
  · rename_i t x i ho
    split at h
    · rename_i e ad len cap k m hu hx hi
      split at h
      · rename_i ie hie
        simp only [Option.some.injEq, Prod.mk.injEq] at h
        obtain ⟨rfl, rfl⟩ := h
        have hb : 0 ≤ m ∧ m < (len : Int) := hn.1
        have hx' := hf.op hx
        have hi' := hf.op hi
        generalize a.eval = ρ at hx' hi' ⊢
        simp [execOp, ho, Instr.indexAt, hx', hi', asIntOf, run_underlying hu, sizeOf, typeInfo, hie, hb.1, hb.2, go_sem]
      · cases h
    · rename_i len e ad k m hu hx hi
      split at h
      · rename_i ie hie
        simp only [Option.some.injEq, Prod.mk.injEq] at h
        obtain ⟨rfl, rfl⟩ := h
        have hb : 0 ≤ m ∧ m < (len : Int) := hn.1
        have hx' := hf.op hx
        have hi' := hf.op hi
        generalize a.eval = ρ at hx' hi' ⊢
        simp [execOp, ho, Instr.indexAt, hx', hi', asIntOf, Instr.sureAddr, run_underlying hu, sizeOf, typeInfo, hie, hb.1, hb.2, go_sem]
      · cases h
    · cases h
  · cases h

theorem run_loadCells {w : World} (p : Addr) (vs : Array Value) (h : ∀ i, i < vs.size → w.cell? (p.add i) = vs[i]?) :
    ∀ (n i : Nat) (acc : Array Value), i + n = vs.size → (loadCellsFrom p i n acc).run P w = .ok (acc ++ vs.extract i (i + n)) w := by
  intro n
  induction n with
  | zero => intro i acc hi; simp [loadCellsFrom, go_sem]; omega
  | succ n ih =>
    intro i acc hi
    have h1 := h i (by omega)
    rw [Array.getElem?_eq_getElem (by omega)] at h1
    simp only [loadCellsFrom, load, bind, Sem.bind, Sem.run, h1]
    have h2 := ih (i + 1) (acc.push vs[i]) (by omega)
    refine (h2 : _).trans ?_
    congr 1
    rw [show i + 1 + n = i + (n + 1) from by omega]
    apply Array.ext'
    simp [Array.toList_extract, List.extract_eq_take_drop]
    rw [show i + (n + 1) - (i + 1) = n from by omega]
    have hl : i < vs.toList.length := by simpa using (by omega : i < vs.size)
    rw [List.drop_eq_getElem_cons hl, List.take_succ_cons]
    simp

theorem run_loadCells0 {w : World} (p : Addr) (vs : Array Value) {n : Nat} (hs : vs.size = n) (h : ∀ i, i < vs.size → w.cell? (p.add i) = vs[i]?) : (loadCellsFrom p 0 n #[]).run P w = .ok vs w := by
  have h1 := run_loadCells (P := P) p vs h n 0 #[] (by omega)
  rw [Nat.zero_add, ← hs, Array.extract_size] at h1
  rw [← hs]
  simpa using h1

theorem run_loadVar_agg {w : World} {t : TypeId} {ti : TypeInfo} (hi : P.info? t = some ti) (ha : ∀ w, (isAgg t).run P w = .ok true w) (p : Addr) (vs : Array Value) (hs : vs.size = ti.size)
    (h : ∀ i, i < vs.size → w.cell? (p.add i) = vs[i]?) : (loadVar t p).run P w = .ok (.agg vs) w := by
  have h1 := run_loadCells (P := P) p vs h vs.size 0 #[] (by simp)
  simp only [Nat.zero_add, Array.extract_size, Array.empty_append] at h1
  simp only [hs] at h1
  simp [loadVar, ha, sizeOf, typeInfo, hi, loadCells, h1, go_sem]

theorem isAgg_struct {t : TypeId} {fs : Array Field} (h : P.underlying t = some (.struct fs)) (w : World) : (isAgg t).run P w = .ok true w := by
  simp [isAgg, run_underlying h, go_sem]
theorem isAgg_array {t e : TypeId} {n : Nat} (h : P.underlying t = some (.array n e)) (w : World) : (isAgg t).run P w = .ok true w := by
  simp [isAgg, run_underlying h, go_sem]

theorem evalAgg_sound {N : Nat} {S : Env} {a : Act} (hf : Fits N S a) {o : Oper} {vs : Array Value} {n : List Need} {v : Value} {w : World}
    (h : evalAgg P S o vs = some (n, v)) (hn : okAll w n) : (execOp a.eval o).run P w = .ok (.value v) w := by
  unfold evalAgg at h
  split at h
  · rename_i t x ho
    split at h
    · rename_i p i fs hx hi hu
      simp only [Option.some.injEq, Prod.mk.injEq] at h
      obtain ⟨rfl, rfl⟩ := h
      have h1 : vs.size = i.size := hn.1
      have h2 := run_loadCells0 (P := P) p vs h1 hn.2.1
      have h3 := isAgg_struct hu
      have hx' := hf.op hx
      generalize a.eval = ρ at hx' ⊢
      simp [execOp, ho, Instr.loadAt, hx', Instr.sureAddr, h2, h3, sizeOf, typeInfo, hi, go_sem]
    · rename_i p i len e hx hi hu
      simp only [Option.some.injEq, Prod.mk.injEq] at h
      obtain ⟨rfl, rfl⟩ := h
      have h1 : vs.size = i.size := hn.1
      have h2 := run_loadCells0 (P := P) p vs h1 hn.2.1
      have h3 := isAgg_array hu
      have hx' := hf.op hx
      generalize a.eval = ρ at hx' ⊢
      simp [execOp, ho, Instr.loadAt, hx', Instr.sureAddr, h2, h3, sizeOf, typeInfo, hi, go_sem]
    · cases h
  · cases h

theorem evalByte_sound {N : Nat} {S : Env} {a : Act} (hf : Fits N S a) {o : Oper} {b : UInt8} {n : List Need} {v : Value} {w : World}
    (h : evalByte P S o b = some (n, v)) (hn : okAll w n) : (execOp a.eval o).run P w = .ok (.value v) w := by
  unfold evalByte at h
  split at h
  · rename_i t x i ho
    split at h
    · rename_i s k m hu hx hi
      simp only [Option.some.injEq, Prod.mk.injEq] at h
      obtain ⟨rfl, rfl⟩ := h
      have hb : 0 ≤ m ∧ s[m.toNat]? = some b := hn.1
      have hx' := hf.op hx
      have hi' := hf.op hi
      generalize a.eval = ρ at hx' hi' ⊢
      simp [execOp, ho, Instr.index, hx', hi', asIntOf, run_underlying hu, hb.1, hb.2, go_sem]
    · cases h
  · cases h

theorem evalElem_sound {N : Nat} {S : Env} {a : Act} (hf : Fits N S a) {o : Oper} {u : Value} {n : List Need} {v : Value} {w : World}
    (h : evalElem P S o u = some (n, v)) (hn : okAll w n) : (execOp a.eval o).run P w = .ok (.value v) w := by
  unfold evalElem at h
  split at h
  · rename_i t x i ho
    split at h
    · rename_i len e cs k m hu hx hi
      have hx' := hf.op hx
      have hi' := hf.op hi
      generalize a.eval = ρ at hx' hi' ⊢
      split at h
      · rename_i ie fs hie he
        simp only [Option.some.injEq, Prod.mk.injEq] at h
        obtain ⟨rfl, rfl⟩ := h
        have hb : 0 ≤ m ∧ m < (len : Int) := hn.1
        have hv : Value.agg (cs.extract (m.toNat * ie.size) (m.toNat * ie.size + ie.size)) = u := hn.2.1
        subst hv
        simp [execOp, ho, Instr.index, hx', hi', asIntOf, run_underlying hu, hb.1, hb.2, part, isAgg, run_underlying he, sizeOf, typeInfo, hie, asAgg, go_sem]
      · rename_i ie k' e' hie he
        simp only [Option.some.injEq, Prod.mk.injEq] at h
        obtain ⟨rfl, rfl⟩ := h
        have hb : 0 ≤ m ∧ m < (len : Int) := hn.1
        have hv : Value.agg (cs.extract (m.toNat * ie.size) (m.toNat * ie.size + ie.size)) = u := hn.2.1
        subst hv
        simp [execOp, ho, Instr.index, hx', hi', asIntOf, run_underlying hu, hb.1, hb.2, part, isAgg, run_underlying he, sizeOf, typeInfo, hie, asAgg, go_sem]
      · rename_i ie k' hie he
        simp only [Option.some.injEq, Prod.mk.injEq] at h
        obtain ⟨rfl, rfl⟩ := h
        have hb : 0 ≤ m ∧ m < (len : Int) := hn.1
        have hv : cs[m.toNat * ie.size]? = some u := hn.2.1
        simp [execOp, ho, Instr.index, hx', hi', asIntOf, run_underlying hu, hb.1, hb.2, part, isAgg, run_underlying he, sizeOf, typeInfo, hie, asAgg, hv, go_sem]
      · rename_i ie hie he
        simp only [Option.some.injEq, Prod.mk.injEq] at h
        obtain ⟨rfl, rfl⟩ := h
        have hb : 0 ≤ m ∧ m < (len : Int) := hn.1
        have hv : cs[m.toNat * ie.size]? = some u := hn.2.1
        simp [execOp, ho, Instr.index, hx', hi', asIntOf, run_underlying hu, hb.1, hb.2, part, isAgg, run_underlying he, sizeOf, typeInfo, hie, asAgg, hv, go_sem]
      · rename_i ie hie he
        simp only [Option.some.injEq, Prod.mk.injEq] at h
        obtain ⟨rfl, rfl⟩ := h
        have hb : 0 ≤ m ∧ m < (len : Int) := hn.1
        have hv : cs[m.toNat * ie.size]? = some u := hn.2.1
        simp [execOp, ho, Instr.index, hx', hi', asIntOf, run_underlying hu, hb.1, hb.2, part, isAgg, run_underlying he, sizeOf, typeInfo, hie, asAgg, hv, go_sem]
      · cases h
    · cases h
  · cases h

theorem evalDiv_sound {N : Nat} {S : Env} {a : Act} (hf : Fits N S a) {o : Oper} {q : Int} {n : List Need} {v : Value} {w : World}
    (h : evalDiv S o q = some (n, v)) (hn : okAll w n) : (execOp a.eval o).run P w = .ok (.value v) w := by
  unfold evalDiv at h
  split at h
  · rename_i t x y t' ho
    split at h
    · rename_i k a' k' b hx hy
      simp only [Option.some.injEq, Prod.mk.injEq] at h
      obtain ⟨rfl, rfl⟩ := h
      obtain ⟨rfl, hb, rfl⟩ : k = k' ∧ b ≠ 0 ∧ k.wrap (a'.tdiv b) = q := hn.1
      have hx' := hf.op hx
      have hy' := hf.op hy
      generalize a.eval = ρ at hx' hy' ⊢
      simp [execOp, ho, eqGuard, binOp, hx', hy', Op.intDiv, hb, go_sem]
    · cases h
  · rename_i t x y t' ho
    split at h
    · rename_i k a' k' b hx hy
      simp only [Option.some.injEq, Prod.mk.injEq] at h
      obtain ⟨rfl, rfl⟩ := h
      obtain ⟨rfl, hb, rfl⟩ : k = k' ∧ b ≠ 0 ∧ a'.tmod b = q := hn.1
      have hx' := hf.op hx
      have hy' := hf.op hy
      generalize a.eval = ρ at hx' hy' ⊢
      simp [execOp, ho, eqGuard, binOp, hx', hy', Op.intDiv, hb, go_sem]
    · cases h
  · cases h

theorem evalShift_sound {N : Nat} {S : Env} {a : Act} (hf : Fits N S a) {o : Oper} {q : Int} {n : List Need} {v : Value} {w : World}
    (h : evalShift S o q = some (n, v)) (hn : okAll w n) : (execOp a.eval o).run P w = .ok (.value v) w := by
  unfold evalShift at h
  split at h
  · rename_i t x y t' ho
    split at h
    · rename_i k a' k' b hx hy
      simp only [Option.some.injEq, Prod.mk.injEq] at h
      obtain ⟨rfl, rfl⟩ := h
      obtain ⟨hb, rfl⟩ : 0 ≤ b ∧ k.wrap (a' * 2 ^ (min b.toNat k.bits)) = q := hn.1
      have hx' := hf.op hx
      have hy' := hf.op hy
      generalize a.eval = ρ at hx' hy' ⊢
      have hb' : ¬ b < 0 := by omega
      simp [execOp, ho, eqGuard, binOp, hx', hy', Op.shift, hb', go_sem]
    · cases h
  · rename_i t x y t' ho
    split at h
    · rename_i k a' k' b hx hy
      simp only [Option.some.injEq, Prod.mk.injEq] at h
      obtain ⟨rfl, rfl⟩ := h
      obtain ⟨hb, rfl⟩ : 0 ≤ b ∧ a'.fdiv (2 ^ (min b.toNat k.bits)) = q := hn.1
      have hx' := hf.op hx
      have hy' := hf.op hy
      generalize a.eval = ρ at hx' hy' ⊢
      have hb' : ¬ b < 0 := by omega
      simp [execOp, ho, eqGuard, binOp, hx', hy', Op.shift, hb', go_sem]
    · cases h
  · cases h

theorem evalAdd2_sound {N : Nat} {S : Env} {a : Act} (hf : Fits N S a) {o : Oper} {n : List Need} {v : Value} {w : World}
    (h : evalAdd2 S o = some (n, v)) (hn : okAll w n) : (execOp a.eval o).run P w = .ok (.value v) w := by
  unfold evalAdd2 at h
  split at h
  · rename_i t x y t' ho
    split at h
    · rename_i s u hx hy
      simp only [Option.some.injEq, Prod.mk.injEq] at h
      obtain ⟨rfl, rfl⟩ := h
      have hb : ((s.size + u.size : Nat) : Int) ≤ IntKind.i64.max := hn.1
      have hx' := hf.op hx
      have hy' := hf.op hy
      generalize a.eval = ρ at hx' hy' ⊢
      have hb' : ¬ ((s.size + u.size : Nat) : Int) > IntKind.i64.max := by omega
      simp only [execOp, ho, eqGuard, binOp, hx', hy', Op.stringOp, hb', if_false]
      simp [go_sem]
    · cases h
  · cases h

theorem evalLenMap_sound {N : Nat} {S : Env} {a : Act} (hf : Fits N S a) {o : Oper} {es : Array MapEntry} {c : Nat} {n : List Need} {v : Value} {w : World}
    (h : evalLenMap P S o es c = some (n, v)) (hn : okAll w n) : (execOp a.eval o).run P w = .ok (.value v) w := by
  unfold evalLenMap at h
  split at h
  · rename_i cl ho
    split at h
    · rename_i x t hc ha ht
      split at h
      · rename_i k e r hu hx
        simp only [Option.some.injEq, Prod.mk.injEq] at h
        obtain ⟨rfl, rfl⟩ := h
        have hb0 : w.heap[r]? = some (.map es c) := hn.1
        have hb : (getObj r).run P w = .ok (.map es c) w := by simp [getObj, Sem.run, hb0]
        have hx' := hf.op hx
        have ha' : cl.args = #[x] := by rw [← Array.toArray_toList (xs := cl.args), ha]
        have ht' : cl.argTypes = #[t] := by rw [← Array.toArray_toList (xs := cl.argTypes), ht]
        generalize a.eval = ρ at hx' ⊢
        simp [execOp, ho, resolve, hc, ha', ht', invoke, builtin, Builtin.len_, hx', run_underlying hu, hb, goInt, go_sem]
      · cases h
    · cases h
  · cases h

theorem boundNeed_spec {N : Nat} {S : Env} {a : Act} (hf : Fits N S a) {x : Option Operand} {l : Nat} {n : List Need} {w : World} (h : boundNeed S x l = some n) (hn : okAll w n) :
    (x = none) ∨ ∃ y k, x = some y ∧ a.eval y = .int k (l : Int) := by
  unfold boundNeed at h
  split at h
  · rename_i y
    split at h
    · rename_i k m hy
      simp only [Option.some.injEq] at h
      subst h
      have : m = (l : Int) := hn.1
      subst this
      exact .inr ⟨y, k, rfl, hf.op hy⟩
    · cases h
  · exact .inl rfl

theorem run_sliceBound {w : World} (k : IntKind) (l y : Nat) (c : BoundsCode) (h : l ≤ y) : (Instr.sliceBound (.int k (l : Int)) y c).run P w = .ok l w := by
  have h1 : (0 : Int) ≤ l ∧ (l : Int) ≤ y := by omega
  simp [Instr.sliceBound, asIntOf, h1, go_sem]

theorem run_sliceBounds {w : World} {ρ : Operand → Value} {lo hi : Option Operand} {l h len cap : Nat} (sl : Bool)
    (h1 : lo = none ∨ ∃ y k, lo = some y ∧ ρ y = .int k (l : Int)) (h2 : hi = none ∨ ∃ y k, hi = some y ∧ ρ y = .int k (h : Int))
    (h3 : (lo = none → l = 0) ∧ (hi = none → h = len) ∧ l ≤ h ∧ h ≤ cap) : (Instr.sliceBounds sl len cap (lo.map ρ) (hi.map ρ) none).run P w = .ok (l, h, cap) w := by
  obtain ⟨h4, h5, h6, h7⟩ := h3
  rcases h1 with rfl | ⟨y, k, rfl, hy⟩ <;> rcases h2 with rfl | ⟨z, k', rfl, hz⟩
  · obtain rfl := h4 rfl
    obtain rfl := h5 rfl
    simp [Instr.sliceBounds, go_sem]
  · obtain rfl := h4 rfl
    simp [Instr.sliceBounds, hz, run_sliceBound, h7, go_sem]
  · obtain rfl := h5 rfl
    simp [Instr.sliceBounds, hy, run_sliceBound, h6, go_sem]
  · simp [Instr.sliceBounds, hy, hz, run_sliceBound, h6, h7, go_sem]

theorem evalSub_sound {N : Nat} {S : Env} {a : Act} (hf : Fits N S a) {o : Oper} {l hh : Nat} {n : List Need} {v : Value} {w : World}
    (h : evalSub P S o l hh = some (n, v)) (hn : okAll w n) : (execOp a.eval o).run P w = .ok (.value v) w := by
  unfold evalSub at h
  split at h
  · rename_i t x lo hi ho
    split at h
    · rename_i s hu hx
      split at h
      · rename_i n1 n2 e1 e2
        simp only [Option.some.injEq, Prod.mk.injEq] at h
        obtain ⟨rfl, rfl⟩ := h
        obtain ⟨k1, k2⟩ := okAll_append hn
        obtain ⟨k2, k3⟩ := okAll_append k2
        have b1 := boundNeed_spec hf e1 k1
        have b2 := boundNeed_spec hf e2 k2
        have hx' := hf.op hx
        generalize a.eval = ρ at hx' b1 b2 ⊢
        obtain ⟨q1, q2, q3, q4⟩ := k3.1
        clear e1 e2 k1 k2 k3
        rcases b1 with rfl | ⟨y, k, rfl, hy⟩ <;> rcases b2 with rfl | ⟨z, k', rfl, hz⟩
        all_goals (try obtain rfl := q1 rfl)
        all_goals (try obtain rfl := q2 rfl)
        all_goals simp [execOp, ho, Instr.sliceAt, Instr.slice, hx', run_underlying hu, run_sliceBound, q3, q4, go_sem, *]
      · cases h
    · rename_i e ad len cap hu hx
      split at h
      · rename_i n1 n2 ie e1 e2 hie
        simp only [Option.some.injEq, Prod.mk.injEq] at h
        obtain ⟨rfl, rfl⟩ := h
        obtain ⟨k1, k2⟩ := okAll_append hn
        obtain ⟨k2, k3⟩ := okAll_append k2
        have b1 := boundNeed_spec hf e1 k1
        have b2 := boundNeed_spec hf e2 k2
        have hx' := hf.op hx
        generalize a.eval = ρ at hx' b1 b2 ⊢
        obtain ⟨q1, q2, q3, q4⟩ := k3.1
        clear e1 e2 k1 k2 k3
        rcases b1 with rfl | ⟨y, k, rfl, hy⟩ <;> rcases b2 with rfl | ⟨z, k', rfl, hz⟩
        all_goals (try obtain rfl := q1 rfl)
        all_goals (try obtain rfl := q2 rfl)
        all_goals simp [execOp, ho, Instr.sliceAt, Instr.slice, hx', run_underlying hu, run_sliceBound, q3, q4, sizeOf, typeInfo, hie, go_sem, *]
      · cases h
    · rename_i m e ad hu hx
      split at h
      · rename_i n1 n2 ie e1 e2 hie
        simp only [Option.some.injEq, Prod.mk.injEq] at h
        obtain ⟨rfl, rfl⟩ := h
        obtain ⟨k1, k2⟩ := okAll_append hn
        obtain ⟨k2, k3⟩ := okAll_append k2
        have b1 := boundNeed_spec hf e1 k1
        have b2 := boundNeed_spec hf e2 k2
        have hx' := hf.op hx
        generalize a.eval = ρ at hx' b1 b2 ⊢
        obtain ⟨q1, q2, q3, q4⟩ := k3.1
        clear e1 e2 k1 k2 k3
        rcases b1 with rfl | ⟨y, k, rfl, hy⟩ <;> rcases b2 with rfl | ⟨z, k', rfl, hz⟩
        all_goals (try obtain rfl := q1 rfl)
        all_goals (try obtain rfl := q2 rfl)
        all_goals simp [execOp, ho, Instr.sliceAt, Instr.sureAddr, hx', run_underlying hu, run_sliceBound, q3, q4, sizeOf, typeInfo, hie, go_sem, *]
      · cases h
    · cases h
  · cases h

theorem evalOp_sound {N : Nat} {S : Env} {a : Act} (hf : Fits N S a) {o : Oper} {w : World} : ∀ {h : Hint} {n : List Need} {v : Value},
    evalOp P S o h = some (n, v) → okAll w n → (execOp a.eval o).run P w = .ok (.value v) w
  | .gen _, _, _, e, hn => evalGen_sound hf e hn
  | .agg _, _, _, e, hn => evalAgg_sound hf e hn
  | .at_, _, _, e, hn => evalAt_sound hf e hn
  | .byte _, _, _, e, hn => evalByte_sound hf e hn
  | .elem _, _, _, e, hn => evalElem_sound hf e hn
  | .sub _ _, _, _, e, hn => evalSub_sound hf e hn
  | .div _, _, _, e, hn => evalDiv_sound hf e hn
  | .shift _, _, _, e, hn => evalShift_sound hf e hn
  | .add2, _, _, e, hn => evalAdd2_sound hf e hn
  | .lenMap _ _, _, _, e, hn => evalLenMap_sound hf e hn
  | .as_ u h, n, v, e, hn => by
    simp only [evalOp] at e
    split at e
    · rename_i n' u' e'
      simp only [Option.some.injEq, Prod.mk.injEq] at e
      obtain ⟨rfl, rfl⟩ := e
      obtain ⟨h1, h2⟩ := okAll_append hn
      have h3 : u' = u := h2.1
      rw [← h3]
      exact evalOp_sound hf e' h1
    · cases e

/-! ### Guards, and a row of plain operations -/
def wantE (ops : Array Oper) (S : Env) (o : Oper) : Option Bool :=
  match o.guard with
  | none => some true
  | some (j, want) =>
    match (ops[j]?).bind (fun o : Oper => o.dst) with
    | none => some false
    | some d =>
      match S.get d with
      | some (.bool b) => some (b == want)
      | some (.tuple _) => some false
      | _ => none

theorem wantE_sound {N : Nat} {S : Env} {a : Act} (hf : Fits N S a) {ops : Array Oper} {o : Oper} {b : Bool} (h : wantE ops S o = some b) (hd : ∀ (j d : Nat), (ops[j]?).bind (fun o : Oper => o.dst) = some d → d < N) :
    Region.wanted o (yielded ops a.tmps) = b := by
  unfold wantE at h
  unfold Region.wanted
  split at h
  · rename_i hg
    simp only [Option.some.injEq] at h
    rw [hg]
    exact h
  · rename_i j want hg
    rw [hg]
    simp only [yielded]
    split at h
    · rename_i hn
      rw [hn]
      simpa using h
    · rename_i d hs
      have hlt := hd j d hs
      rw [hs]
      split at h
      · rename_i b' hb'
        have := hf.get hb'
        simp only [Option.bind_some]
        rw [Array.getElem?_eq_getElem (by rw [hf.size]; exact hlt)]
        simp only [Array.getD, hf.size, hlt, dite_true] at this
        have h5 : a.tmps[d]'(by rw [hf.size]; exact hlt) = Value.bool b' := this
        rw [h5]
        simpa using h
      · rename_i vs hb'
        have := hf.get hb'
        simp only [Option.bind_some]
        rw [Array.getElem?_eq_getElem (by rw [hf.size]; exact hlt)]
        simp only [Array.getD, hf.size, hlt, dite_true] at this
        have h5 : a.tmps[d]'(by rw [hf.size]; exact hlt) = Value.tuple vs := this
        rw [h5]
        simpa using h
      · cases h

abbrev Asked := List (Nat × List Need)

def dstsOK (N : Nat) (ops : Array Oper) : Bool := ops.all fun o => dstOK N o.dst

theorem dstsOK_spec {N : Nat} {ops : Array Oper} (h : dstsOK N ops = true) (j : Nat) (o : Oper) (hj : ops[j]? = some o) : dstOK N o.dst = true := by
  simp only [dstsOK, Array.all_eq_true_iff_forall_mem] at h
  exact h o (Array.mem_of_getElem? hj)

theorem dstsOK_lt {N : Nat} {ops : Array Oper} (h : dstsOK N ops = true) : ∀ (j d : Nat), (ops[j]?).bind (fun o : Oper => o.dst) = some d → d < N := by
  intro j d hj
  cases ho : ops[j]? with
  | none => rw [ho] at hj; cases hj
  | some o =>
    rw [ho] at hj
    simp only [Option.bind_some] at hj
    have := dstsOK_spec h j o ho
    rw [hj] at this
    simpa [dstOK] using this

def phase (P : Program) (ops : Array Oper) : List (Nat × Hint) → Env → Option (Asked × Env)
  | [], S => some ([], S)
  | (i, h) :: l, S =>
    match ops[i]? with
    | none => none
    | some o =>
      match wantE ops S o with
      | none => none
      | some false => phase P ops l (S.setO o.dst undef)
      | some true =>
        match evalOp P S o h with
        | none => none
        | some (n, v) =>
          match phase P ops l (S.setO o.dst v) with
          | none => none
          | some (A, S') => some (if n.isEmpty then (A, S') else ((i, n) :: A, S'))

def askedOK (w : World) : Asked → Prop
  | [] => True
  | x :: A => okAll w x.2 ∧ askedOK w A

def Asked.reads (A : Asked) : Reads := A.map fun x => (x.1, fun w => okAll w x.2)

/-- The state of a region's run: what was asked so far ('A'), the steps that are left, the slots, the world. -/
def Go1 (P : Program) (ops : Array Oper) (M : List Nat) (Q : Exit → Act → World → Prop) (N : Nat) (A : Asked) (rest : PT) (S : Env) (w : World) : Prop :=
  ∀ a, Fits N S a → Plan P ops M Q A.reads rest a w

theorem Plan.addTrue {ops : Array Oper} {Q : Exit → Act → World → Prop} {M : List Nat} (i : Nat) {R : World → Prop} (hR : ∀ w, R w) : ∀ (p : PT) (D : Reads) (a : Act) (w : World), Plan P ops M Q D p a w → Plan P ops M Q ((i, R) :: D) p a w
  | .done, _, _, _, h => h
  | .alt s t, _, _, _, h => ⟨Plan.addTrue i hR s _ _ _ h.1, Plan.addTrue i hR t _ _ _ h.2⟩
  | .rd j p, D, a, w, h => by
    obtain ⟨o, v, R', ho, hy, hR', hp⟩ := h
    refine ⟨o, v, R', ho, hy, hR', ?_⟩
    refine Plan.mono p ((i, R) :: (j, R') :: D) _ _ _ (fun x hx => ?_) (Plan.addTrue i hR p _ _ _ hp)
    simp only [List.mem_cons] at hx ⊢
    rcases hx with h | h | h
    · exact .inr (.inl h)
    · exact .inl h
    · exact .inr (.inr h)
  | .ef j p, D, a, w, h => wpOp_mono (fun a' w' h' => ⟨fun x hx hx' => by
      rcases List.mem_cons.1 hx with rfl | hx
      · exact hR w'
      · exact h'.1 x hx hx', Plan.addTrue i hR p _ _ _ h'.2⟩) h

def rds : List Nat → PT → PT
  | [], t => t
  | i :: l, t => .rd i (rds l t)

theorem Go1.phase {ops : Array Oper} {M : List Nat} {Q : Exit → Act → World → Prop} {N : Nat} (hN : dstsOK N ops = true) {rest : PT} {w : World} :
    ∀ (l : List (Nat × Hint)) (S : Env) (A A' : Asked) (S' : Env), Go.Sx.phase P ops l S = some (A', S') → askedOK w A' → Go1 P ops M Q N (A'.reverse ++ A) rest S' w →
      Go1 P ops M Q N A (rds (l.map fun x => x.1) rest) S w
  | [], S, A, A', S', h, _, hg => by
    simp only [Go.Sx.phase, Option.some.injEq, Prod.mk.injEq] at h
    obtain ⟨rfl, rfl⟩ := h
    exact hg
  | (i, h) :: l, S, A, A', S', hp, hA, hg => by
    simp only [Go.Sx.phase] at hp
    cases ho : ops[i]? with
    | none => rw [ho] at hp; cases hp
    | some o =>
      simp only [ho] at hp
      have hdo := dstsOK_spec hN i o ho
      cases hw : wantE ops S o with
      | none => rw [hw] at hp; cases hp
      | some b =>
        simp only [hw] at hp
        cases b with
        | false =>
          intro a hf
          have h1 := Go1.phase hN l (S.setO o.dst undef) A A' S' hp hA hg (a.put o.dst undef) (hf.setO hdo _)
          exact ⟨o, undef, fun _ => True, ho, .inr ⟨wantE_sound hf hw (dstsOK_lt hN), rfl⟩, trivial, Plan.addTrue i (fun _ => trivial) _ _ _ _ h1⟩
        | true =>
          simp only at hp
          cases he : evalOp P S o h with
          | none => rw [he] at hp; cases hp
          | some r =>
            obtain ⟨n, v⟩ := r
            simp only [he] at hp
            cases hq : Go.Sx.phase P ops l (S.setO o.dst v) with
            | none => rw [hq] at hp; cases hp
            | some r =>
              obtain ⟨A1, S1⟩ := r
              simp only [hq] at hp
              by_cases hemp : n.isEmpty = true
              · simp only [hemp, if_true, Option.some.injEq, Prod.mk.injEq] at hp
                obtain ⟨rfl, rfl⟩ := hp
                obtain rfl : n = [] := by simpa using hemp
                intro a hf
                have h1 := Go1.phase hN l _ A _ _ hq hA hg (a.put o.dst v) (hf.setO hdo _)
                exact ⟨o, v, fun _ => True, ho, .inl ⟨wantE_sound hf hw (dstsOK_lt hN), fun w' _ => evalOp_sound hf he trivial⟩, trivial, Plan.addTrue i (fun _ => trivial) _ _ _ _ h1⟩
              · simp only [hemp, Bool.false_eq_true, if_false, Option.some.injEq, Prod.mk.injEq] at hp
                obtain ⟨rfl, rfl⟩ := hp
                intro a hf
                have h1 := Go1.phase hN l _ ((i, n) :: A) _ _ hq hA.2 (by simpa using hg) (a.put o.dst v) (hf.setO hdo _)
                exact ⟨o, v, fun w => okAll w n, ho, .inl ⟨wantE_sound hf hw (dstsOK_lt hN), fun w' hw' => evalOp_sound hf he hw'⟩, hA.1, h1⟩
end Go.Sx
