/-
  Sx, part A: a region that draws its order is run by ONE plan (a tree, where two effects may come up in any order). Proved once, for any program. Conditions: the plan passes the closed check 'planOK'; no way through the region panics.
-/
import Derived.OrdersHeld
namespace Go.Sx
set_option linter.unusedVariables false
set_option linter.unusedSimpArgs false
section
variable {P : Program} {ops : Array Oper} {Q : Exit → Act → World → Prop}

inductive PT where
  | done
  | rd (i : Nat) (t : PT)
  | ef (i : Nat) (t : PT)
  | alt (s t : PT)

abbrev Reads := List (Nat × (World → Prop))

def anc (M : List Nat) (x i : Nat) : Bool := (M.getD i 0).testBit x

def Plan (P : Program) (ops : Array Oper) (M : List Nat) (Q : Exit → Act → World → Prop) : Reads → PT → Act → World → Prop
  | _, .done, a, w => Q .normal a w
  | D, .rd i p, a, w => ∃ (o : Oper) (v : Value) (R : World → Prop), ops[i]? = some o ∧ YieldsIf P ops R o v a ∧ R w ∧ Plan P ops M Q ((i, R) :: D) p (a.put o.dst v) w
  | D, .ef i p, a, w => wpOp P ops Q i (fun a' w' => (∀ x ∈ D, anc M x.1 i = false → x.2 w') ∧ Plan P ops M Q D p a' w') a w
  | D, .alt s t, a, w => Plan P ops M Q D s a w ∧ Plan P ops M Q D t a w

theorem Plan.mono {M : List Nat} : ∀ (p : PT) (D D' : Reads) (a : Act) (w : World), (∀ x ∈ D', x ∈ D) → Plan P ops M Q D p a w → Plan P ops M Q D' p a w
  | .done, _, _, _, _, _, h => h
  | .rd i p, D, D', a, w, hs, h => by
    obtain ⟨o, v, R, ho, hy, hR, hp⟩ := h
    refine ⟨o, v, R, ho, hy, hR, Plan.mono p _ _ _ _ ?_ hp⟩
    intro x hx
    rcases List.mem_cons.1 hx with h | h
    · exact List.mem_cons.2 (.inl h)
    · exact List.mem_cons.2 (.inr (hs x h))
  | .ef i p, D, D', a, w, hs, h => wpOp_mono (fun a' w' h' => ⟨fun x hx => h'.1 x (hs x hx), Plan.mono p _ _ _ _ hs h'.2⟩) h
  | .alt s t, D, D', a, w, hs, h => ⟨Plan.mono s _ _ _ _ hs h.1, Plan.mono t _ _ _ _ hs h.2⟩

def binding (o : Oper) : List Nat := (o.after.toList.filter (Region.binds .any ·)).map (·.on)

theorem mem_binding {o : Oper} {j : Nat} : j ∈ binding o ↔ ∃ e ∈ o.after, Region.binds .any e = true ∧ e.on = j := by
  simp [binding, and_assoc]

def preds (ops : Array Oper) (i : Nat) : List Nat := ((ops[i]?).map binding).getD []

def masksOK (ops : Array Oper) (M : List Nat) : Bool :=
  (List.range ops.size).all fun i => (preds ops i).all (fun e => decide (e < i)) &&
    (List.range ops.size).all fun x => !(anc M x i) || (preds ops i).any fun e => e == x || anc M x e

def apartAt (ops : Array Oper) (x y : Nat) : Bool :=
  match ops[x]?, ops[y]? with
  | some ox, some oy => ox.apart ops oy
  | _, _ => false

/-- What has come up, as the bits of a number. -/
def isL (L j : Nat) : Bool := L.testBit j
def addL (L i : Nat) : Nat := L ||| (1 <<< i)
theorem isL_add (L i j : Nat) : isL (addL L i) j = (isL L j || decide (i = j)) := by
  simp only [isL, addL, Nat.testBit_or, Nat.one_shiftLeft, Nat.testBit_two_pow]
theorem addL_comm (L i j : Nat) : addL (addL L i) j = addL (addL L j) i := by
  simp only [addL, Nat.or_assoc]
  rw [Nat.or_comm (1 <<< i)]

def readyL (ops : Array Oper) (L j : Nat) : Bool := !isL L j && (preds ops j).all (isL L)

def PT.heads : PT → List Nat
  | .ef i _ => [i]
  | .alt s t => s.heads ++ t.heads
  | _ => []

def PT.depth : PT → Nat
  | .done => 0
  | .rd _ t => t.depth + 1
  | .ef _ t => t.depth + 1
  | .alt s _ => s.depth

def PT.idxs : PT → List Nat
  | .done => []
  | .rd i t => i :: t.idxs
  | .ef i t => i :: t.idxs
  | .alt s _ => s.idxs

def chk (ops : Array Oper) (M : List Nat) : PT → List Nat → Nat → Bool
  | .done, _, L => (List.range ops.size).all (isL L)
  | .rd i t, _, L => decide (i < ops.size) && readyL ops L i && (List.range ops.size).all (fun j => isL L j || j == i || anc M i j || apartAt ops i j) && chk ops M t [] (addL L i)
  | .ef i t, off, L => decide (i < ops.size) && readyL ops L i && (List.range ops.size).all (fun j => !readyL ops L j || j == i || off.contains j) && chk ops M t [] (addL L i)
  | .alt s t, off, L => s.depth == t.depth && chk ops M s (off ++ t.heads) L && chk ops M t (off ++ s.heads) L

def planOK (ops : Array Oper) (M : List Nat) (p : PT) : Bool :=
  Region.noSelect ops && masksOK ops M && chk ops M p [] 0 && p.depth == ops.size

def DownL (ops : Array Oper) (L : Nat) : Prop := ∀ j, j < ops.size → isL L j = true → ∀ e ∈ preds ops j, isL L e = true

theorem getD_bool (l : Array Bool) (j : Nat) (h : j < l.size) (d : Bool) : l.getD j d = l.getD j true := by
  simp [Array.getD, h]

theorem preds_lt {M : List Nat} (hM : masksOK ops M = true) {i : Nat} (hi : i < ops.size) : ∀ e ∈ preds ops i, e < i := by
  simp only [masksOK, List.all_eq_true, List.mem_range, Bool.and_eq_true, decide_eq_true_eq] at hM
  exact (hM i hi).1

theorem anc_listed {M : List Nat} (hM : masksOK ops M = true) {L : Nat} (hd : DownL ops L)
    {x : Nat} (hx : x < ops.size) : ∀ i, i < ops.size → (∀ e ∈ preds ops i, isL L e = true) → anc M x i = true → isL L x = true := by
  intro i
  induction i using Nat.strongRecOn with
  | _ i ih =>
    intro hi hp ha
    have hlt := preds_lt hM hi
    have hM' := hM
    simp only [masksOK, List.all_eq_true, List.mem_range, Bool.and_eq_true, decide_eq_true_eq] at hM'
    have h1 := (hM' i hi).2 x hx
    rw [ha] at h1
    simp only [Bool.not_true, Bool.false_or, List.any_eq_true, Bool.or_eq_true, beq_iff_eq] at h1
    obtain ⟨e, he, h | h⟩ := h1
    · exact h ▸ hp e he
    · have hei := hlt e he
      exact ih e hei (by omega) (hd e (by omega) (hp e he)) h

theorem readyL_iff {L j : Nat} : readyL ops L j = true ↔ isL L j = false ∧ ∀ e ∈ preds ops j, isL L e = true := by
  simp [readyL]

theorem readyL_add {L i j : Nat} (h : readyL ops L j = true) (hne : i ≠ j) : readyL ops (addL L i) j = true := by
  rw [readyL_iff] at h ⊢
  refine ⟨by rw [isL_add, h.1]; simpa using hne, fun e he => by rw [isL_add, h.2 e he]; rfl⟩

theorem DownL.add {L i : Nat} (hd : DownL ops L) (h : readyL ops L i = true) : DownL ops (addL L i) := by
  intro j hj hl e he
  rw [isL_add] at hl ⊢
  rw [readyL_iff] at h
  by_cases hij : i = j
  · subst hij; rw [h.2 e he]; rfl
  · rw [hd j hj (by simpa [hij] using hl) e he]; rfl

/-- What is found for an operation that comes up: the rest of the plan. -/
def Found (P : Program) (ops : Array Oper) (M : List Nat) (Q : Exit → Act → World → Prop) (D : Reads) (t : PT) (L s : Nat) (a : Act) (w : World) : Prop :=
  ∃ t', chk ops M t' [] (addL L s) = true ∧ t.depth = t'.depth + 1 ∧ wpOp P ops Q s (fun a' w' => (∀ y ∈ D, anc M y.1 s = false → y.2 w') ∧ Plan P ops M Q D t' a' w') a w

theorem Found.head {M : List Nat} {D : Reads} {L s : Nat} {a : Act} {w : World} : ∀ (t : PT) (off : List Nat), s ∈ t.heads → chk ops M t off L = true → Plan P ops M Q D t a w → Found P ops M Q D t L s a w
  | .done, _, h, _, _ => by cases h
  | .rd _ _, _, h, _, _ => by cases h
  | .ef i t, off, h, hc, hp => by
    simp only [PT.heads, List.mem_singleton] at h
    subst h
    simp only [chk, Bool.and_eq_true] at hc
    exact ⟨t, hc.2, rfl, hp⟩
  | .alt x y, off, h, hc, hp => by
    simp only [chk, Bool.and_eq_true, beq_iff_eq] at hc
    rcases List.mem_append.1 h with h | h
    · obtain ⟨t', h1, h2, h3⟩ := Found.head x _ h hc.1.2 hp.1
      exact ⟨t', h1, h2, h3⟩
    · obtain ⟨t', h1, h2, h3⟩ := Found.head y _ h hc.2 hp.2
      exact ⟨t', h1, hc.1.1.trans h2, h3⟩

/-- An operation that may come up is moved ahead of the reads that stand before it in the plan. -/
theorem Plan.move {M : List Nat} (hQ : ∀ c a w, ¬ Q (.panic c) a w) (hsel : Region.noSelect ops = true) (hM : masksOK ops M = true) {s : Nat} (hs : s < ops.size) :
    ∀ (t : PT) (off : List Nat) (L : Nat) (D : Reads) (a : Act) (w : World), chk ops M t off L = true → DownL ops L → readyL ops L s = true → (∀ y ∈ D, y.2 w) → Plan P ops M Q D t a w →
      s ∈ off ∨ Found P ops M Q D t L s a w := by
  intro t
  induction t with
  | done =>
    intro off L D a w hc hd hr _ _
    simp only [chk, List.all_eq_true, List.mem_range] at hc
    have := hc s hs
    rw [(readyL_iff.1 hr).1] at this
    cases this
  | ef i t ih =>
    intro off L D a w hc hd hr _ hp
    simp only [chk, Bool.and_eq_true, List.all_eq_true, List.mem_range, Bool.or_eq_true, Bool.not_eq_true', beq_iff_eq, List.contains_eq_mem, decide_eq_true_eq] at hc
    rcases hc.1.2 s hs with (h | h) | h
    · rw [hr] at h; cases h
    · subst h; exact .inr ⟨t, hc.2, rfl, hp⟩
    · exact .inl h
  | alt x y ihx ihy =>
    intro off L D a w hc hd hr hD hp
    have hc' := hc
    simp only [chk, Bool.and_eq_true, beq_iff_eq] at hc
    rcases ihx _ L D a w hc.1.2 hd hr hD hp.1 with h | h
    · rcases List.mem_append.1 h with h | h
      · exact .inl h
      · exact .inr (Found.head (.alt x y) off (List.mem_append.2 (.inr h)) hc' hp)
    · obtain ⟨t', h1, h2, h3⟩ := h
      exact .inr ⟨t', h1, h2, h3⟩
  | rd x t ih =>
    intro off L D a w hc hd hr hD hp
    simp only [chk, Bool.and_eq_true, List.all_eq_true, List.mem_range, Bool.or_eq_true, beq_iff_eq, decide_eq_true_eq] at hc
    obtain ⟨⟨⟨hxl, hxr⟩, hall⟩, hct⟩ := hc
    obtain ⟨ox, vx, Rx, hox, hyx, hRx, hp⟩ := hp
    by_cases hxs : x = s
    · subst hxs
      refine .inr ⟨t, hct, rfl, YieldsIf.wpOp hox hyx hRx ⟨fun y hy _ => hD y hy, Plan.mono _ _ _ _ _ (fun z hz => List.mem_cons.2 (.inr hz)) hp⟩⟩
    · right
      have hsL := (readyL_iff.1 hr).1
      have han : anc M x s = false := by
        cases ha : anc M x s with
        | false => rfl
        | true =>
          have := anc_listed hM hd hxl s hs (readyL_iff.1 hr).2 ha
          rw [(readyL_iff.1 hxr).1] at this
          cases this
      have hap : apartAt ops x s = true := by
        rcases hall s hs with ((h | h) | h) | h
        · rw [hsL] at h; cases h
        · exact absurd h.symm hxs
        · rw [han] at h; cases h
        · exact h
      have h1 := ih [] (addL L x) ((x, Rx) :: D) (a.put ox.dst vx) w hct (hd.add hxr) (readyL_add hr hxs) (fun y hy => by
        rcases List.mem_cons.1 hy with rfl | hy
        · exact hRx
        · exact hD y hy) hp
      rcases h1 with h1 | ⟨t', hc1, hdp, h1⟩
      · cases h1
      refine ⟨.rd x t', ?_, by simp [PT.depth, hdp], ?_⟩
      · simp only [chk, Bool.and_eq_true, List.all_eq_true, List.mem_range, Bool.or_eq_true, beq_iff_eq, decide_eq_true_eq]
        refine ⟨⟨⟨hxl, readyL_add hxr (fun h => hxs h.symm)⟩, fun j hj => ?_⟩, by rw [addL_comm]; exact hc1⟩
        rcases hall j hj with ((h | h) | h) | h
        · exact .inl (.inl (.inl (by rw [isL_add, h]; rfl)))
        · exact .inl (.inl (.inr h))
        · exact .inl (.inr h)
        · exact .inr h
      · simp only [apartAt, hox] at hap
        cases hj : ops[s]? with
        | none => rw [hj] at hap; cases hap
        | some oj =>
          rw [hj] at hap
          have h2 := wpOp_putIf (S := Rx) hj hap (Region.noSelect_spec hsel x ox · · hox) (Region.noSelect_spec hsel s oj · · hj) (fun c a w hq => absurd hq (hQ c _ w)) hyx h1
          refine wpOp_mono (fun a' w' h3 => ?_) h2
          obtain ⟨hyx', h4, h5⟩ := h3
          exact ⟨fun y hy => h4 y (List.mem_cons.2 (.inr hy)), ox, vx, Rx, hox, hyx', h4 (x, Rx) (List.mem_cons_self ..) han, h5⟩

theorem PT.some_ready {M : List Nat} {L : Nat} : ∀ (t : PT) (off : List Nat), chk ops M t off L = true → t.depth ≠ 0 → ∃ s, s < ops.size ∧ readyL ops L s = true
  | .done, _, _, h => absurd rfl h
  | .rd i t, _, hc, _ => by
    simp only [chk, Bool.and_eq_true, decide_eq_true_eq] at hc
    exact ⟨i, hc.1.1.1, hc.1.1.2⟩
  | .ef i t, _, hc, _ => by
    simp only [chk, Bool.and_eq_true, decide_eq_true_eq] at hc
    exact ⟨i, hc.1.1.1, hc.1.1.2⟩
  | .alt x y, _, hc, h => by
    simp only [chk, Bool.and_eq_true] at hc
    exact PT.some_ready x _ hc.1.2 h

theorem PT.all_done {M : List Nat} {L : Nat} : ∀ (t : PT) (off : List Nat) (D : Reads) (a : Act) (w : World), chk ops M t off L = true → t.depth = 0 → Plan P ops M Q D t a w → (∀ j, j < ops.size → isL L j = true) ∧ Q .normal a w
  | .done, _, _, _, _, hc, _, hp => by
    simp only [chk, List.all_eq_true, List.mem_range] at hc
    exact ⟨hc, hp⟩
  | .rd i t, _, _, _, _, _, h, _ => by simp [PT.depth] at h
  | .ef i t, _, _, _, _, _, h, _ => by simp [PT.depth] at h
  | .alt x y, _, D, a, w, hc, h, hp => by
    simp only [chk, Bool.and_eq_true] at hc
    exact PT.all_done x _ D a w hc.1.2 h hp.1

theorem Plan.sound {M : List Nat} (hQ : ∀ c a w, ¬ Q (.panic c) a w) (hsel : Region.noSelect ops = true) (hM : masksOK ops M = true) :
    ∀ (n : Nat) (t : PT) (listed : Array Bool) (L : Nat) (a : Act) (w : World), t.depth = n → listed.size = ops.size → (∀ j, j < ops.size → listed.getD j true = isL L j) → DownL ops L → chk ops M t [] L = true →
      Plan P ops M Q [] t a w → wpAny P .any ops Q n listed a w := by
  have hpl : ∀ i, i < ops.size → ∀ e ∈ preds ops i, e < ops.size := fun i hi e he => Nat.lt_trans (preds_lt hM hi e he) hi
  have key : ∀ (listed : Array Bool) (L j : Nat), listed.size = ops.size → (∀ j, j < ops.size → listed.getD j true = isL L j) → (j ∈ Region.ready .any ops listed ↔ j < ops.size ∧ readyL ops L j = true) := by
    intro listed L j hsz hl
    constructor
    · intro h
      obtain ⟨h1, o, ho, h2⟩ := mem_ready.1 h
      have hj := (Array.getElem?_eq_some_iff.1 ho).1
      refine ⟨hj, readyL_iff.2 ⟨by rw [← hl j hj]; exact h1, fun e he => ?_⟩⟩
      have hel := hpl j hj e he
      rw [← hl e hel]
      simp only [preds, ho, Option.map_some, Option.getD_some] at he
      obtain ⟨e', hm, hb, rfl⟩ := mem_binding.1 he
      rw [← getD_bool listed _ (by omega) false]
      exact h2 e' hm hb
    · rintro ⟨hj, hr⟩
      obtain ⟨h1, h2⟩ := readyL_iff.1 hr
      refine mem_ready.2 ⟨by rw [hl j hj]; exact h1, ops[j], Array.getElem?_eq_getElem hj, fun e he hb => ?_⟩
      have hm : e.on ∈ preds ops j := by
        simp only [preds, Array.getElem?_eq_getElem hj, Option.map_some, Option.getD_some]
        exact mem_binding.2 ⟨e, he, hb, rfl⟩
      have hel := hpl j hj _ hm
      rw [getD_bool listed _ (by omega) false, hl _ hel]
      exact h2 _ hm
  intro n
  induction n with
  | zero =>
    intro t listed L a w hn hsz hl hd hc h
    obtain ⟨h1, h2⟩ := PT.all_done t [] [] a w hc hn h
    refine ⟨List.eq_nil_iff_forall_not_mem.2 fun j hj => ?_, h2⟩
    obtain ⟨hj1, hj2⟩ := (key listed L j hsz hl).1 hj
    have := h1 j hj1
    rw [(readyL_iff.1 hj2).1] at this
    cases this
  | succ n ih =>
    intro t listed L a w hn hsz hl hd hc h
    refine ⟨fun hr => ?_, fun i hi => ?_⟩
    · obtain ⟨s, hs1, hs2⟩ := PT.some_ready t [] hc (by omega)
      have := (key listed L s hsz hl).2 ⟨hs1, hs2⟩
      rw [hr] at this
      cases this
    · obtain ⟨hi1, hi2⟩ := (key listed L i hsz hl).1 hi
      rcases Plan.move hQ hsel hM hi1 t [] L [] a w hc hd hi2 (fun y hy => by cases hy) h with h | ⟨t', h1, h2, h3⟩
      · cases h
      · refine wpOp_mono (fun a' w' h4 => ih t' _ (addL L i) a' w' (by omega) (by simpa using hsz) (fun j hj => ?_) (hd.add hi2) h1 h4.2) h3
        rw [isL_add]
        by_cases hij : i = j
        · subst hij; simp [Array.getD, hsz, hj]
        · rw [getD_set_ne true hij, hl j hj]; simp [hij]

/-- A REGION THAT DRAWS: by one plan. -/
theorem wp_region_plan {id : Nat} {a : Act} {w : World} (M : List Nat) (p : PT) (hm : P.follows .mixedOrders = true) (hok : planOK ops M p = true)
    (hQ : ∀ c a w, ¬ Q (.panic c) a w) (h : Plan P ops M Q [] p a { w with drawn := w.drawn + 1 }) : (Code.region id ops true).wp P Q a w := by
  refine wp_region_any hm ?_
  simp only [planOK, Bool.and_eq_true, beq_iff_eq] at hok
  obtain ⟨⟨⟨h0, h1⟩, h2⟩, h3⟩ := hok
  exact Plan.sound hQ h0 h1 ops.size p _ 0 a _ h3 (by simp) (fun j hj => by simp [Array.getD, hj, isL]) (fun j hj hl => by simp [isL] at hl) h2 h

theorem Plan.toOps {M : List Nat} : ∀ (p : PT) (D : Reads) (a : Act) (w : World), Plan P ops M Q D p a w → wpOps P ops Q p.idxs a w
  | .done, _, _, _, h => h
  | .rd i p, D, a, w, h => by
    obtain ⟨o, v, R, ho, hy, hR, hp⟩ := h
    rw [PT.idxs, wpOps_cons]
    exact YieldsIf.wpOp ho hy hR (Plan.toOps p _ _ _ hp)
  | .ef i p, D, a, w, h => by
    rw [PT.idxs, wpOps_cons]
    exact wpOp_mono (fun a' w' h' => Plan.toOps p _ _ _ h'.2) h
  | .alt s t, D, a, w, h => Plan.toOps s D a w h.1

/-- A REGION THAT DOES NOT DRAW: in the text's order. -/
theorem wp_region_text {id : Nat} {a : Act} {w : World} {M : List Nat} (p : PT) (hp : p.idxs = List.range ops.size) (h : Plan P ops M Q [] p a w) : (Code.region id ops false).wp P Q a w :=
  wp_region (by rw [← hp]; exact Plan.toOps p _ _ _ h)
end
#print axioms wp_region_plan
end Go.Sx
