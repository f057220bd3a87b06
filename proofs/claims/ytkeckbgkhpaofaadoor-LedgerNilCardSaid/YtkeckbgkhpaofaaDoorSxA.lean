/-
  Sx, part A: a region that draws its order is run by ONE plan. Proved once, for any program. Conditions: the plan passes the closed check 'planOK'; no way through the region panics.
-/
import Derived.OrdersHeld
namespace Go.Sx
set_option linter.unusedVariables false
set_option linter.unusedSimpArgs false
section
variable {P : Program} {ops : Array Oper} {Q : Exit → Act → World → Prop}

inductive PStep where
  | rd (i : Nat)
  | ef (i : Nat)

def PStep.idx : PStep → Nat
  | .rd i => i
  | .ef i => i

abbrev Reads := List (Nat × (World → Prop))

def anc (M : List Nat) (x i : Nat) : Bool := (M.getD i 0).testBit x

def Plan (P : Program) (ops : Array Oper) (M : List Nat) (Q : Exit → Act → World → Prop) : Reads → List PStep → Act → World → Prop
  | _, [], a, w => Q .normal a w
  | D, .rd i :: p, a, w => ∃ (o : Oper) (v : Value) (R : World → Prop), ops[i]? = some o ∧ YieldsIf P ops R o v a ∧ R w ∧ Plan P ops M Q ((i, R) :: D) p (a.put o.dst v) w
  | D, .ef i :: p, a, w => wpOp P ops Q i (fun a' w' => (∀ x ∈ D, anc M x.1 i = false → x.2 w') ∧ Plan P ops M Q D p a' w') a w

theorem Plan.mono {M : List Nat} : ∀ (p : List PStep) (D D' : Reads) (a : Act) (w : World), (∀ x ∈ D', x ∈ D) → Plan P ops M Q D p a w → Plan P ops M Q D' p a w
  | [], _, _, _, _, _, h => h
  | .rd i :: p, D, D', a, w, hs, h => by
    obtain ⟨o, v, R, ho, hy, hR, hp⟩ := h
    refine ⟨o, v, R, ho, hy, hR, Plan.mono p _ _ _ _ ?_ hp⟩
    intro x hx
    rcases List.mem_cons.1 hx with h | h
    · exact List.mem_cons.2 (.inl h)
    · exact List.mem_cons.2 (.inr (hs x h))
  | .ef i :: p, D, D', a, w, hs, h => wpOp_mono (fun a' w' h' => ⟨fun x hx => h'.1 x (hs x hx), Plan.mono p _ _ _ _ hs h'.2⟩) h

def binding (o : Oper) : List Nat := (o.after.toList.filter (Region.binds .any ·)).map (·.on)

theorem mem_binding {o : Oper} {j : Nat} : j ∈ binding o ↔ ∃ e ∈ o.after, Region.binds .any e = true ∧ e.on = j := by
  simp [binding, and_assoc]

def preds (ops : Array Oper) (i : Nat) : List Nat := ((ops[i]?).map binding).getD []

def masksOK (ops : Array Oper) (M : List Nat) : Bool :=
  (List.range ops.size).all fun i => (preds ops i).all (fun e => decide (e < i)) &&
    (List.range ops.size).all fun x => !(anc M x i) || (preds ops i).any fun e => e == x || anc M x e

def apartAt (ops : Array Oper) (x y : Nat) : Bool :=
  match ops[x]?, ops[y]? with
  | some ox, some oy => ox.apart ops oy
  | _, _ => false

def pairB (ops : Array Oper) (M : List Nat) (s t : PStep) : Bool :=
  s.idx != t.idx && !(preds ops s.idx).contains t.idx &&
  match s with
  | .ef e => anc M e t.idx
  | .rd x => anc M x t.idx || apartAt ops x t.idx

def pairsB (ops : Array Oper) (M : List Nat) : List PStep → Bool
  | [] => true
  | s :: p => p.all (pairB ops M s) && pairsB ops M p

def planOK (ops : Array Oper) (M : List Nat) (p : List PStep) : Bool :=
  Region.noSelect ops && masksOK ops M && pairsB ops M p && (p.length == ops.size) && p.all (fun s => decide (s.idx < ops.size)) &&
  (List.range ops.size).all fun j => p.any fun s => s.idx == j

theorem pairsB_spec {M : List Nat} : ∀ {p : List PStep}, pairsB ops M p = true → p.Pairwise (fun s t => pairB ops M s t = true)
  | [], _ => .nil
  | s :: p, h => by
    simp only [pairsB, Bool.and_eq_true, List.all_eq_true] at h
    exact .cons h.1 (pairsB_spec h.2)

/-- What is kept between the rounds of the proof. -/
structure Inv (ops : Array Oper) (M : List Nat) (listed : Array Bool) (p : List PStep) : Prop where
  size : listed.size = ops.size
  mem : ∀ j, j < ops.size → (listed.getD j true = false ↔ ∃ s ∈ p, s.idx = j)
  lt : ∀ s ∈ p, s.idx < ops.size
  pairs : p.Pairwise (fun s t => pairB ops M s t = true)
  down : ∀ j, j < ops.size → listed.getD j true = true → ∀ e ∈ preds ops j, listed.getD e true = true

theorem getD_bool (l : Array Bool) (j : Nat) (h : j < l.size) (d : Bool) : l.getD j d = l.getD j true := by
  simp [Array.getD, h]

theorem preds_lt {M : List Nat} (hM : masksOK ops M = true) {i : Nat} (hi : i < ops.size) : ∀ e ∈ preds ops i, e < i := by
  simp only [masksOK, List.all_eq_true, List.mem_range, Bool.and_eq_true, decide_eq_true_eq] at hM
  exact (hM i hi).1

theorem anc_listed {M : List Nat} (hM : masksOK ops M = true) {listed : Array Bool} (hd : ∀ j, j < ops.size → listed.getD j true = true → ∀ e ∈ preds ops j, listed.getD e true = true)
    {x : Nat} (hx : x < ops.size) : ∀ i, i < ops.size → (∀ e ∈ preds ops i, listed.getD e true = true) → anc M x i = true → listed.getD x true = true := by
  intro i
  induction i using Nat.strongRecOn with
  | _ i ih =>
    intro hi hp ha
    have hlt := preds_lt hM hi
    have hM' := hM
    simp only [masksOK, List.all_eq_true, List.mem_range, Bool.and_eq_true, decide_eq_true_eq] at hM'
    have h1 := (hM' i hi).2 x hx
    rw [ha] at h1
    simp only [Bool.not_true, Bool.false_or, List.any_eq_true, Bool.or_eq_true, beq_iff_eq] at h1
    obtain ⟨e, he, h | h⟩ := h1
    · exact h ▸ hp e he
    · have hei := hlt e he
      exact ih e hei (by omega) (hd e (by omega) (hp e he)) h

theorem ready_preds {listed : Array Bool} {j : Nat} (hs : listed.size = ops.size) (hM : ∀ e ∈ preds ops j, e < ops.size) (h : j ∈ Region.ready .any ops listed) :
    listed.getD j true = false ∧ j < ops.size ∧ ∀ e ∈ preds ops j, listed.getD e true = true := by
  obtain ⟨h1, o, ho, h2⟩ := mem_ready.1 h
  refine ⟨h1, (Array.getElem?_eq_some_iff.1 ho).1, fun e he => ?_⟩
  have hl := hM e he
  simp only [preds, ho, Option.map_some, Option.getD_some] at he
  obtain ⟨e', hm, hb, rfl⟩ := mem_binding.1 he
  rw [← getD_bool listed _ (by omega) false]
  exact h2 e' hm hb

theorem ready_of_preds {listed : Array Bool} {j : Nat} (hs : listed.size = ops.size) (hj : j < ops.size) (h1 : listed.getD j true = false)
    (hM : ∀ e ∈ preds ops j, e < ops.size) (h2 : ∀ e ∈ preds ops j, listed.getD e true = true) : j ∈ Region.ready .any ops listed := by
  refine mem_ready.2 ⟨h1, ops[j], Array.getElem?_eq_getElem hj, fun e he hb => ?_⟩
  have hm : e.on ∈ preds ops j := by
    simp only [preds, Array.getElem?_eq_getElem hj, Option.map_some, Option.getD_some]
    exact mem_binding.2 ⟨e, he, hb, rfl⟩
  have hl := hM _ hm
  rw [getD_bool listed _ (by omega) false]
  exact h2 _ hm

/-- An operation that may come up is moved ahead of the reads that stand before it in the plan. -/
theorem Plan.move {M : List Nat} (hQ : ∀ c a w, ¬ Q (.panic c) a w) (hsel : Region.noSelect ops = true) (s : PStep) (p2 : List PStep) :
    ∀ (p1 : List PStep) (D : Reads) (a : Act) (w : World), (∀ t ∈ p1, ∃ x, t = .rd x ∧ apartAt ops x s.idx = true ∧ anc M x s.idx = false) → (∀ y ∈ D, y.2 w) →
      Plan P ops M Q D (p1 ++ s :: p2) a w →
      wpOp P ops Q s.idx (fun a' w' => (∀ y ∈ D, anc M y.1 s.idx = false → y.2 w') ∧ Plan P ops M Q D (p1 ++ p2) a' w') a w := by
  intro p1
  induction p1 with
  | nil =>
    intro D a w _ hD h
    cases s with
    | rd i =>
      obtain ⟨o, v, R, ho, hy, hR, hp⟩ := h
      exact YieldsIf.wpOp ho hy hR ⟨fun y hy _ => hD y hy, Plan.mono _ _ _ _ _ (fun x hx => List.mem_cons.2 (.inr hx)) hp⟩
    | ef i => exact h
  | cons t p1 ih =>
    intro D a w hall hD h
    obtain ⟨x, rfl, hap, han⟩ := hall t (List.mem_cons_self ..)
    obtain ⟨ox, vx, Rx, hox, hyx, hRx, hp⟩ := h
    have h1 := ih ((x, Rx) :: D) (a.put ox.dst vx) w (fun t ht => hall t (List.mem_cons.2 (.inr ht))) (fun y hy => by
      rcases List.mem_cons.1 hy with rfl | hy
      · exact hRx
      · exact hD y hy) hp
    simp only [apartAt, hox] at hap
    cases hj : ops[s.idx]? with
    | none => rw [hj] at hap; cases hap
    | some oj =>
      rw [hj] at hap
      have h2 := wpOp_putIf (S := Rx) hj hap (Region.noSelect_spec hsel x ox · · hox) (Region.noSelect_spec hsel s.idx oj · · hj) (fun c a w hq => absurd hq (hQ c _ w)) hyx h1
      refine wpOp_mono (fun a' w' h3 => ?_) h2
      obtain ⟨hyx', h4, h5⟩ := h3
      refine ⟨fun y hy => h4 y (List.mem_cons.2 (.inr hy)), ox, vx, Rx, hox, hyx', h4 (x, Rx) (List.mem_cons_self ..) han, h5⟩

theorem Plan.sound {M : List Nat} (hQ : ∀ c a w, ¬ Q (.panic c) a w) (hsel : Region.noSelect ops = true) (hM : masksOK ops M = true) :
    ∀ (n : Nat) (p : List PStep) (listed : Array Bool) (a : Act) (w : World), p.length = n → Inv ops M listed p → Plan P ops M Q [] p a w → wpAny P .any ops Q n listed a w := by
  intro n
  induction n with
  | zero =>
    intro p listed a w hn inv h
    obtain rfl : p = [] := List.eq_nil_of_length_eq_zero hn
    refine ⟨?_, h⟩
    refine List.eq_nil_iff_forall_not_mem.2 fun j hj => ?_
    obtain ⟨h1, o, ho, -⟩ := mem_ready.1 hj
    obtain ⟨s, hs, -⟩ := (inv.mem j (Array.getElem?_eq_some_iff.1 ho).1).1 h1
    cases hs
  | succ n ih =>
    intro p listed a w hn inv h
    have hpl : ∀ i, i < ops.size → ∀ e ∈ preds ops i, e < ops.size := fun i hi e he => Nat.lt_trans (preds_lt hM hi e he) hi
    refine ⟨fun hr => ?_, fun i hi => ?_⟩
    · cases p with
      | nil => simp at hn
      | cons s p =>
        have hs := inv.lt s (List.mem_cons_self ..)
        have hu : listed.getD s.idx true = false := (inv.mem _ hs).2 ⟨s, List.mem_cons_self .., rfl⟩
        have : s.idx ∈ Region.ready .any ops listed := by
          refine ready_of_preds inv.size hs hu (hpl _ hs) fun e he => ?_
          have hel := hpl _ hs e he
          cases hl : listed.getD e true with
          | true => rfl
          | false =>
            obtain ⟨t, ht, hte⟩ := (inv.mem e hel).1 hl
            exfalso
            rcases List.mem_cons.1 ht with rfl | ht
            · have := preds_lt hM hs e he
              omega
            · have hp := (List.pairwise_cons.1 inv.pairs).1 t ht
              simp only [pairB, Bool.and_eq_true, Bool.not_eq_true', List.contains_eq_mem, decide_eq_false_iff_not] at hp
              exact hp.1.2 (hte ▸ he)
        rw [hr] at this
        cases this
    · have hM' := hpl i (by obtain ⟨-, o, ho, -⟩ := mem_ready.1 hi; exact (Array.getElem?_eq_some_iff.1 ho).1)
      obtain ⟨hu, hlt, hpr⟩ := ready_preds inv.size hM' hi
      obtain ⟨s, hs, rfl⟩ := (inv.mem i hlt).1 hu
      obtain ⟨p1, p2, rfl⟩ := List.append_of_mem hs
      have hpw := List.pairwise_append.1 inv.pairs
      have hnot : ∀ x, x < ops.size → (∃ t ∈ p1 ++ s :: p2, t.idx = x) → anc M x s.idx = false := fun x hx hm => by
        cases ha : anc M x s.idx with
        | false => rfl
        | true =>
          have := anc_listed hM inv.down hx _ hlt hpr ha
          rw [(inv.mem x hx).2 hm] at this
          cases this
      have hall : ∀ t ∈ p1, ∃ x, t = .rd x ∧ apartAt ops x s.idx = true ∧ anc M x s.idx = false := fun t ht => by
        have hb := hpw.2.2 t ht s (List.mem_cons_self ..)
        have htm : t ∈ p1 ++ s :: p2 := List.mem_append.2 (.inl ht)
        have hn := hnot t.idx (inv.lt t htm) ⟨t, htm, rfl⟩
        cases t with
        | ef e =>
          simp only [pairB, Bool.and_eq_true] at hb
          rw [show (PStep.ef e).idx = e from rfl] at hn
          rw [hn] at hb
          exact absurd hb.2 (by simp)
        | rd x =>
          rw [show (PStep.rd x).idx = x from rfl] at hn
          simp only [pairB, Bool.and_eq_true, hn, Bool.false_or] at hb
          exact ⟨x, rfl, hb.2, hn⟩
      have hmv := Plan.move hQ hsel s p2 p1 [] a w hall (fun y hy => by cases hy) h
      refine wpOp_mono (fun a' w' h3 => ih (p1 ++ p2) _ a' w' (by simp at hn ⊢; omega) ?_ h3.2) hmv
      have hsub : List.Sublist (p1 ++ p2) (p1 ++ s :: p2) := List.Sublist.append (List.Sublist.refl _) (List.sublist_cons_self ..)
      have hne : ∀ t ∈ p1 ++ p2, t.idx ≠ s.idx := fun t ht => by
        rcases List.mem_append.1 ht with ht | ht
        · have hb := hpw.2.2 t ht s (List.mem_cons_self ..)
          simp only [pairB, Bool.and_eq_true, bne_iff_ne, ne_eq] at hb
          exact hb.1.1
        · have hb := (List.pairwise_cons.1 hpw.2.1).1 t ht
          simp only [pairB, Bool.and_eq_true, bne_iff_ne, ne_eq] at hb
          exact fun h => hb.1.1 h.symm
      refine ⟨by simpa using inv.size, fun j hj => ?_, fun t ht => inv.lt t (hsub.subset ht), inv.pairs.sublist hsub, fun j hj hl e he => ?_⟩
      · by_cases hji : s.idx = j
        · subst hji
          constructor
          · intro hf
            exfalso
            simp [Array.getD, inv.size, hj] at hf
          · rintro ⟨t, ht, hte⟩
            exact absurd hte (hne t ht)
        · rw [getD_set_ne true hji, inv.mem j hj]
          constructor
          · rintro ⟨t, ht, hte⟩
            refine ⟨t, ?_, hte⟩
            rcases List.mem_append.1 ht with ht | ht
            · exact List.mem_append.2 (.inl ht)
            · rcases List.mem_cons.1 ht with rfl | ht
              · exact absurd hte hji
              · exact List.mem_append.2 (.inr ht)
          · rintro ⟨t, ht, hte⟩
            exact ⟨t, hsub.subset ht, hte⟩
      · have hset : ∀ k, listed.getD k true = true → (listed.setIfInBounds s.idx true).getD k true = true := fun k hk => by
          by_cases h : s.idx = k
          · subst h; simp [Array.getD, inv.size, hlt]
          · rw [getD_set_ne true h]; exact hk
        by_cases hji : s.idx = j
        · subst hji; exact hset e (hpr e he)
        · rw [getD_set_ne true hji] at hl
          exact hset e (inv.down j hj hl e he)

theorem Inv.start {M : List Nat} {p : List PStep} (h : planOK ops M p = true) : Inv ops M (Array.replicate ops.size false) p := by
  simp only [planOK, Bool.and_eq_true, List.all_eq_true, decide_eq_true_eq, List.mem_range, List.any_eq_true, beq_iff_eq] at h
  obtain ⟨⟨⟨⟨⟨_, _⟩, h1⟩, _⟩, h2⟩, h3⟩ := h
  refine ⟨by simp, fun j hj => ⟨fun _ => h3 j hj, fun _ => by simp [Array.getD, hj]⟩, h2, pairsB_spec h1, fun j hj hl => ?_⟩
  simp [Array.getD, hj] at hl

/-- A REGION THAT DRAWS: by one plan. -/
theorem wp_region_plan {id : Nat} {a : Act} {w : World} (M : List Nat) (p : List PStep) (hm : P.follows .mixedOrders = true) (hok : planOK ops M p = true)
    (hQ : ∀ c a w, ¬ Q (.panic c) a w) (h : Plan P ops M Q [] p a { w with drawn := w.drawn + 1 }) : (Code.region id ops true).wp P Q a w := by
  refine wp_region_any hm ?_
  have hok' := hok
  simp only [planOK, Bool.and_eq_true, beq_iff_eq] at hok'
  obtain ⟨⟨⟨⟨⟨h0, h1⟩, h2⟩, h3⟩, h4⟩, h5⟩ := hok'
  exact Plan.sound hQ h0 h1 ops.size p _ a _ h3 (Inv.start hok) h

theorem Plan.toOps {M : List Nat} : ∀ (p : List PStep) (D : Reads) (a : Act) (w : World), Plan P ops M Q D p a w → wpOps P ops Q (p.map PStep.idx) a w
  | [], _, _, _, h => h
  | .rd i :: p, D, a, w, h => by
    obtain ⟨o, v, R, ho, hy, hR, hp⟩ := h
    rw [List.map_cons, wpOps_cons]
    exact YieldsIf.wpOp ho hy hR (Plan.toOps p _ _ _ hp)
  | .ef i :: p, D, a, w, h => by
    rw [List.map_cons, wpOps_cons]
    exact wpOp_mono (fun a' w' h' => Plan.toOps p _ _ _ h'.2) h

/-- A REGION THAT DOES NOT DRAW: in the text's order. -/
theorem wp_region_text {id : Nat} {a : Act} {w : World} {M : List Nat} (p : List PStep) (hp : p.map PStep.idx = List.range ops.size) (h : Plan P ops M Q [] p a w) : (Code.region id ops false).wp P Q a w :=
  wp_region (by rw [← hp]; exact Plan.toOps p _ _ _ h)
end
#print axioms wp_region_plan
end Go.Sx
