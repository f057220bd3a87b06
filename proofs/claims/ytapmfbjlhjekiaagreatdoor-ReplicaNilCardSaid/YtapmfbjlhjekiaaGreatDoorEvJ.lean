/-
  Ev, part J: the rules of a walk in a round of a range over a function (and outside of one): a region by one plan. Proved once, for any program. Conditions: as part Sx A's.
-/
import Derived.Test.YtapmfbjlhjekiaaGreatDoorSxT
import Derived.OrdersIn
import Derived.RangeFuncRecord
import Derived.RangeFuncLeaves
namespace Go.Sx
set_option linter.unusedVariables false
set_option linter.unusedSimpArgs false

/-- No fence, but whose round it is. -/
def WideR (r : Option Nat) : Fence := { Fence.wide with round := r }

section
variable {P : Program} {r : Option Nat} {n : Nat}

theorem wideR_none : WideR none = Fence.wide := rfl
theorem wideR_inRound (l : Nat) : (WideR none).inRound l = WideR (some l) := rfl

theorem callsIn_wideR {f : FuncId} {args : Array Value} {w : World} {R : Ending → World → Prop} : CallsIn (WideR r) n P f args w R ↔ Calls P f args w R :=
  (Iff.rfl : CallsIn (WideR r) n P f args w R ↔ CallsIn Fence.wide n P f args w R).trans callsIn_wide

theorem rowsIn_wideR {row : String} {args : Array Value} {w : World} {R : Value → World → Prop} (h : Rows P row args w R) : RowsIn (WideR r) n P row args w R :=
  fun c cs _ => let ⟨v, w', q, s⟩ := h c cs; ⟨v, w', q, stepsIn_wide.2 s⟩

/-- An operation outside of the fenced calculus, in it. -/
theorem Oper.wpIn_of_wp {o : Oper} {a : Act} {w : World} {K : Act → World → Prop} {Q : Exit → Act → World → Prop} (hd : ∀ c, o.op ≠ .defer c) (h : o.wp P a w K Q) : o.wpIn (WideR r) n P a w K Q := by
  refine ⟨fun _ _ => trivial, ?_⟩
  rw [Oper.semAt_eq _ _ _ hd]
  unfold Oper.wp at h
  generalize (execOp a.eval o).run P w = x at *
  cases x with
  | ok x w' =>
    cases x <;> simp only [Oper.upon] at h <;> simp only [Oper.uponIn]
    case value => exact h
    case skip => exact h
    case defer => exact h
    case enter f args =>
      refine ⟨fun h => by simp [WideR, Fence.wide] at h, callsIn_wideR.2 ?_⟩
      refine Calls.mono h fun e w'' he => ?_
      cases e <;> exact he
    case row => exact ⟨fun h => by simp [WideR, Fence.wide] at h, rowsIn_wideR h⟩
  | halt x w' =>
    cases x <;> simp only [Oper.upon] at h <;> simp only [Oper.uponIn]
    case panic => exact h

section
variable {ops : Array Oper} {Q : Exit → Act → World → Prop}
abbrev wpOpR (r : Option Nat) (P : Program) (ops : Array Oper) (Q : Exit → Act → World → Prop) (i : Nat) (K : Act → World → Prop) (a : Act) (w : World) : Prop := wpOpIn (WideR r) 0 P ops Q i K a w

def PlanR (r : Option Nat) (P : Program) (ops : Array Oper) (M : List Nat) (Q : Exit → Act → World → Prop) : Reads → PT → Act → World → Prop
  | _, .done, a, w => Q .normal a w
  | D, .rd i p, a, w => ∃ (o : Oper) (v : Value) (R : World → Prop), ops[i]? = some o ∧ YieldsIf P ops R o v a ∧ R w ∧ PlanR r P ops M Q ((i, R) :: D) p (a.put o.dst v) w
  | D, .ef i p, a, w => wpOpR r P ops Q i (fun a' w' => (∀ x ∈ D, anc M x.1 i = false → x.2 w') ∧ PlanR r P ops M Q D p a' w') a w
  | D, .alt s t, a, w => PlanR r P ops M Q D s a w ∧ PlanR r P ops M Q D t a w

theorem PlanR.ef {M : List Nat} {D : Reads} {i : Nat} {p : PT} {a : Act} {w : World} (h : wpOpR r P ops Q i (fun a' w' => (∀ x ∈ D, anc M x.1 i = false → x.2 w') ∧ PlanR r P ops M Q D p a' w') a w) : PlanR r P ops M Q D (.ef i p) a w := h

theorem PlanR.mono {M : List Nat} : ∀ (p : PT) (D D' : Reads) (a : Act) (w : World), (∀ x ∈ D', x ∈ D) → PlanR r P ops M Q D p a w → PlanR r P ops M Q D' p a w
  | .done, _, _, _, _, _, h => h
  | .rd i p, D, D', a, w, hs, h => by
    obtain ⟨o, v, R, ho, hy, hR, hp⟩ := h
    refine ⟨o, v, R, ho, hy, hR, PlanR.mono p _ _ _ _ ?_ hp⟩
    intro x hx
    rcases List.mem_cons.1 hx with h | h
    · exact List.mem_cons.2 (.inl h)
    · exact List.mem_cons.2 (.inr (hs x h))
  | .ef i p, D, D', a, w, hs, h => by
    change wpOpR r P ops Q i (fun a' w' => (∀ x ∈ D, anc M x.1 i = false → x.2 w') ∧ PlanR r P ops M Q D p a' w') a w at h
    show wpOpR r P ops Q i (fun a' w' => (∀ x ∈ D', anc M x.1 i = false → x.2 w') ∧ PlanR r P ops M Q D' p a' w') a w
    exact wpOpIn_mono (fun a' w' h' => ⟨fun x hx => h'.1 x (hs x hx), PlanR.mono p _ _ _ _ hs h'.2⟩) h
  | .alt s t, D, D', a, w, hs, h => ⟨PlanR.mono s _ _ _ _ hs h.1, PlanR.mono t _ _ _ _ hs h.2⟩

theorem resolve_defer_ne {ρ : Operand → Value} {o : Oper} {c : Call} {v : Value} {w w' : World} (hc : o.op = .defer c) : (execOp ρ o).run P w ≠ .ok (.value v) w' := by
  intro h
  unfold execOp at h
  rw [hc] at h
  simp only [Sem.run_bind] at h
  cases hr : (resolve ρ c o.type).run P w with
  | ok d w1 => rw [hr] at h; simp [Result.andThen, Sem.run_pure] at h
  | halt x w1 => rw [hr] at h; simp [Result.andThen] at h

theorem YieldsIf.wpOpR {S : World → Prop} {i : Nat} {o : Oper} {v : Value} {a : Act} (hi : ops[i]? = some o) (hy : YieldsIf P ops S o v a)
    {K : Act → World → Prop} {w : World} (hS : S w) (h : K (a.put o.dst v) w) : wpOpR r P ops Q i K a w := by
  show wpOpIn (WideR r) 0 P ops Q i K a w
  unfold wpOpIn
  simp only [hi]
  rcases hy with ⟨hw, hv⟩ | ⟨hw, rfl⟩
  · simp only [hw, if_true]
    refine Oper.wpIn_of_wp (fun c hc => resolve_defer_ne hc (hv w hS)) ?_
    unfold Oper.wp
    rw [hv w hS]
    exact h
  · simp only [hw, Bool.false_eq_true, if_false]; exact ⟨fun _ _ => trivial, h⟩

theorem semAt_put {ro : Option Nat} (o : Oper) (hs : ∀ cs b, o.op ≠ .select cs b) (a : Act) (dst : Option Tmp) (v : Value) (h : ∀ d, dst = some d → d ∉ o.looksAt ops) : Oper.semAt ro (a.put dst v).eval o = Oper.semAt ro a.eval o := by
  cases ro with
  | none => exact execOp_put o hs a dst v h
  | some l =>
    by_cases hd : ∃ c, o.op = .defer c
    · obtain ⟨c, hc⟩ := hd
      have e : resolve (a.put dst v).eval c o.type = resolve a.eval c o.type := resolve_congr c o.type fun x hx => Act.eval_put fun d hd hxd => h d hd (by
        subst hxd
        exact List.mem_append_left _ (List.mem_filterMap.2 ⟨.tmp d, by rw [hc]; simpa [Op.operands] using hx, rfl⟩))
      unfold Oper.semAt
      simp only [hc, e]
    · have hd' : ∀ c, o.op ≠ .defer c := fun c hc => hd ⟨c, hc⟩
      rw [Oper.semAt_eq _ _ _ hd', Oper.semAt_eq _ _ _ hd']
      exact execOp_put o hs a dst v h

theorem wpOpR_putIf {S : World → Prop} {j : Nat} {oi oj : Oper} {v : Value} (hj : ops[j]? = some oj) (hap : oi.apart ops oj = true)
    (hsi : ∀ cs b, oi.op ≠ .select cs b) (hsj : ∀ cs b, oj.op ≠ .select cs b)
    (hQ : ∀ c a w, Q (.panic c) (a.put oi.dst v) w → Q (.panic c) a w) {K : Act → World → Prop} {a : Act} {w : World}
    (hy : YieldsIf P ops S oi v a) (h : wpOpR r P ops Q j K (a.put oi.dst v) w) :
    wpOpR r P ops Q j (fun a' w' => YieldsIf P ops S oi v a' ∧ K (a'.put oi.dst v) w') a w := by
  obtain ⟨h1, h2, h3⟩ := Oper.apart_spec hap
  have keep : ∀ (a : Act), YieldsIf P ops S oi v a → ∀ u, YieldsIf P ops S oi v (a.put oj.dst u) := fun a hy u =>
    hy.of_same (execOp_put oi hsi a oj.dst u h3) (wanted_put oi a oj.dst u h3)
  have keepD : ∀ d, YieldsIf P ops S oi v { a with defers := d :: a.defers } := fun d => hy.of_same rfl rfl
  change wpOpIn (WideR r) 0 P ops Q j K (a.put oi.dst v) w at h
  show wpOpIn (WideR r) 0 P ops Q j (fun a' w' => YieldsIf P ops S oi v a' ∧ K (a'.put oi.dst v) w') a w
  unfold wpOpIn at *
  simp only [hj] at *
  rw [wanted_put oj a oi.dst v h1] at h
  split
  · rename_i hw
    simp only [hw, if_true] at h
    unfold Oper.wpIn at *
    refine ⟨fun _ _ => trivial, ?_⟩
    have h := h.2
    rw [semAt_put oj hsj a oi.dst v h1] at h
    generalize (oj.semAt (WideR r).round a.eval).run P w = x at *
    cases x with
    | ok x w' =>
      cases x <;> simp only [Oper.uponIn] at h ⊢
      case value u => exact ⟨keep a hy u, by rw [← Act.put_comm a v u h2]; exact h⟩
      case skip => exact ⟨keep a hy _, by rw [← Act.put_comm a v undef h2]; exact h⟩
      case defer d =>
        refine ⟨keep _ (keepD d) _, ?_⟩
        rw [← Act.put_comm _ v undef h2, ← Act.put_defers]
        exact h
      case enter f args =>
        refine ⟨h.1, CallsIn.mono h.2 fun e w'' he => ?_⟩
        cases e with
        | returned u => exact ⟨keep a hy u, by rw [← Act.put_comm a v u h2]; exact he⟩
        | panicked c => exact hQ _ _ _ he
        | outgrown => exact he
      case row row args => exact ⟨h.1, RowsIn.mono h.2 fun u w'' he => ⟨keep a hy u, by rw [← Act.put_comm a v u h2]; exact he⟩⟩
      case round l f tmps assign body =>
        refine ⟨h.1, RoundIn.mono h.2 fun e w'' he => ?_⟩
        cases e with
        | returned u => exact ⟨keep a hy u, by rw [← Act.put_comm a v u h2]; exact he⟩
        | panicked c => exact hQ _ _ _ he
        | outgrown => exact he
    | halt x w' =>
      cases x <;> simp only [Oper.uponIn] at h ⊢
      case panic u => exact hQ _ _ _ h
  · rename_i hw
    simp only [hw] at h
    exact ⟨fun _ _ => trivial, keep a hy _, by rw [← Act.put_comm a v undef h2]; exact h.2⟩

/-- What is found for an operation that comes up: the rest of the plan. -/
def FoundR (r : Option Nat) (P : Program) (ops : Array Oper) (M : List Nat) (Q : Exit → Act → World → Prop) (D : Reads) (t : PT) (L s : Nat) (a : Act) (w : World) : Prop :=
  ∃ t', chk ops M t' [] (addL L s) = true ∧ t.depth = t'.depth + 1 ∧ wpOpR r P ops Q s (fun a' w' => (∀ y ∈ D, anc M y.1 s = false → y.2 w') ∧ PlanR r P ops M Q D t' a' w') a w

theorem FoundR.head {M : List Nat} {D : Reads} {L s : Nat} {a : Act} {w : World} : ∀ (t : PT) (off : List Nat), s ∈ t.heads → chk ops M t off L = true → PlanR r P ops M Q D t a w → FoundR r P ops M Q D t L s a w
  | .done, _, h, _, _ => by cases h
  | .rd _ _, _, h, _, _ => by cases h
  | .ef i t, off, h, hc, hp => by
    simp only [PT.heads, List.mem_singleton] at h
    subst h
    simp only [chk, Bool.and_eq_true] at hc
    exact ⟨t, hc.2, rfl, hp⟩
  | .alt x y, off, h, hc, hp => by
    simp only [chk, Bool.and_eq_true, beq_iff_eq] at hc
    rcases List.mem_append.1 h with h | h
    · obtain ⟨t', h1, h2, h3⟩ := FoundR.head x _ h hc.1.2 hp.1
      exact ⟨t', h1, h2, h3⟩
    · obtain ⟨t', h1, h2, h3⟩ := FoundR.head y _ h hc.2 hp.2
      exact ⟨t', h1, hc.1.1.trans h2, h3⟩

/-- An operation that may come up is moved ahead of the reads that stand before it in the plan. -/
theorem PlanR.move {M : List Nat} (hQ : ∀ c a w, ¬ Q (.panic c) a w) (hsel : Region.noSelect ops = true) (hM : masksOK ops M = true) {s : Nat} (hs : s < ops.size) :
    ∀ (t : PT) (off : List Nat) (L : Nat) (D : Reads) (a : Act) (w : World), chk ops M t off L = true → DownL ops L → readyL ops L s = true → (∀ y ∈ D, y.2 w) → PlanR r P ops M Q D t a w →
      s ∈ off ∨ FoundR r P ops M Q D t L s a w := by
  intro t
  induction t with
  | done =>
    intro off L D a w hc hd hr _ _
    simp only [chk, List.all_eq_true, List.mem_range] at hc
    have := hc s hs
    rw [(readyL_iff.1 hr).1] at this
    cases this
  | ef i t ih =>
    intro off L D a w hc hd hr _ hp
    simp only [chk, Bool.and_eq_true, List.all_eq_true, List.mem_range, Bool.or_eq_true, Bool.not_eq_true', beq_iff_eq, List.contains_eq_mem, decide_eq_true_eq] at hc
    rcases hc.1.2 s hs with (h | h) | h
    · rw [hr] at h; cases h
    · subst h; exact .inr ⟨t, hc.2, rfl, hp⟩
    · exact .inl h
  | alt x y ihx ihy =>
    intro off L D a w hc hd hr hD hp
    have hc' := hc
    simp only [chk, Bool.and_eq_true, beq_iff_eq] at hc
    rcases ihx _ L D a w hc.1.2 hd hr hD hp.1 with h | h
    · rcases List.mem_append.1 h with h | h
      · exact .inl h
      · exact .inr (FoundR.head (.alt x y) off (List.mem_append.2 (.inr h)) hc' hp)
    · obtain ⟨t', h1, h2, h3⟩ := h
      exact .inr ⟨t', h1, h2, h3⟩
  | rd x t ih =>
    intro off L D a w hc hd hr hD hp
    simp only [chk, Bool.and_eq_true, List.all_eq_true, List.mem_range, Bool.or_eq_true, beq_iff_eq, decide_eq_true_eq] at hc
    obtain ⟨⟨⟨hxl, hxr⟩, hall⟩, hct⟩ := hc
    obtain ⟨ox, vx, Rx, hox, hyx, hRx, hp⟩ := hp
    by_cases hxs : x = s
    · subst hxs
      refine .inr ⟨t, hct, rfl, YieldsIf.wpOpR hox hyx hRx ⟨fun y hy _ => hD y hy, PlanR.mono _ _ _ _ _ (fun z hz => List.mem_cons.2 (.inr hz)) hp⟩⟩
    · right
      have hsL := (readyL_iff.1 hr).1
      have han : anc M x s = false := by
        cases ha : anc M x s with
        | false => rfl
        | true =>
          have := anc_listed hM hd hxl s hs (readyL_iff.1 hr).2 ha
          rw [(readyL_iff.1 hxr).1] at this
          cases this
      have hap : apartAt ops x s = true := by
        rcases hall s hs with ((h | h) | h) | h
        · rw [hsL] at h; cases h
        · exact absurd h.symm hxs
        · rw [han] at h; cases h
        · exact h
      have h1 := ih [] (addL L x) ((x, Rx) :: D) (a.put ox.dst vx) w hct (hd.add hxr) (readyL_add hr hxs) (fun y hy => by
        rcases List.mem_cons.1 hy with rfl | hy
        · exact hRx
        · exact hD y hy) hp
      rcases h1 with h1 | ⟨t', hc1, hdp, h1⟩
      · cases h1
      refine ⟨.rd x t', ?_, by simp [PT.depth, hdp], ?_⟩
      · simp only [chk, Bool.and_eq_true, List.all_eq_true, List.mem_range, Bool.or_eq_true, beq_iff_eq, decide_eq_true_eq]
        refine ⟨⟨⟨hxl, readyL_add hxr (fun h => hxs h.symm)⟩, fun j hj => ?_⟩, by rw [addL_comm]; exact hc1⟩
        rcases hall j hj with ((h | h) | h) | h
        · exact .inl (.inl (.inl (by rw [isL_add, h]; rfl)))
        · exact .inl (.inl (.inr h))
        · exact .inl (.inr h)
        · exact .inr h
      · simp only [apartAt, hox] at hap
        cases hj : ops[s]? with
        | none => rw [hj] at hap; cases hap
        | some oj =>
          rw [hj] at hap
          have h2 := wpOpR_putIf (S := Rx) hj hap (Region.noSelect_spec hsel x ox · · hox) (Region.noSelect_spec hsel s oj · · hj) (fun c a w hq => absurd hq (hQ c _ w)) hyx h1
          refine wpOpIn_mono (fun a' w' h3 => ?_) h2
          obtain ⟨hyx', h4, h5⟩ := h3
          exact ⟨fun y hy => h4 y (List.mem_cons.2 (.inr hy)), ox, vx, Rx, hox, hyx', h4 (x, Rx) (List.mem_cons_self ..) han, h5⟩

theorem PT.all_doneR {M : List Nat} {L : Nat} : ∀ (t : PT) (off : List Nat) (D : Reads) (a : Act) (w : World), chk ops M t off L = true → t.depth = 0 → PlanR r P ops M Q D t a w → (∀ j, j < ops.size → isL L j = true) ∧ Q .normal a w
  | .done, _, _, _, _, hc, _, hp => by
    simp only [chk, List.all_eq_true, List.mem_range] at hc
    exact ⟨hc, hp⟩
  | .rd i t, _, _, _, _, _, h, _ => by simp [PT.depth] at h
  | .ef i t, _, _, _, _, _, h, _ => by simp [PT.depth] at h
  | .alt x y, _, D, a, w, hc, h, hp => by
    simp only [chk, Bool.and_eq_true] at hc
    exact PT.all_doneR x _ D a w hc.1.2 h hp.1

theorem PlanR.sound {M : List Nat} (hQ : ∀ c a w, ¬ Q (.panic c) a w) (hsel : Region.noSelect ops = true) (hM : masksOK ops M = true) :
    ∀ (n : Nat) (t : PT) (listed : Array Bool) (L : Nat) (a : Act) (w : World), t.depth = n → listed.size = ops.size → (∀ j, j < ops.size → listed.getD j true = isL L j) → DownL ops L → chk ops M t [] L = true →
      PlanR r P ops M Q [] t a w → wpAnyIn (WideR r) 0 P .any ops Q n listed a w := by
  have hpl : ∀ i, i < ops.size → ∀ e ∈ preds ops i, e < ops.size := fun i hi e he => Nat.lt_trans (preds_lt hM hi e he) hi
  have key : ∀ (listed : Array Bool) (L j : Nat), listed.size = ops.size → (∀ j, j < ops.size → listed.getD j true = isL L j) → (j ∈ Region.ready .any ops listed ↔ j < ops.size ∧ readyL ops L j = true) := by
    intro listed L j hsz hl
    constructor
    · intro h
      obtain ⟨h1, o, ho, h2⟩ := mem_ready.1 h
      have hj := (Array.getElem?_eq_some_iff.1 ho).1
      refine ⟨hj, readyL_iff.2 ⟨by rw [← hl j hj]; exact h1, fun e he => ?_⟩⟩
      have hel := hpl j hj e he
      rw [← hl e hel]
      simp only [preds, ho, Option.map_some, Option.getD_some] at he
      obtain ⟨e', hm, hb, rfl⟩ := mem_binding.1 he
      rw [← getD_bool listed _ (by omega) false]
      exact h2 e' hm hb
    · rintro ⟨hj, hr⟩
      obtain ⟨h1, h2⟩ := readyL_iff.1 hr
      refine mem_ready.2 ⟨by rw [hl j hj]; exact h1, ops[j], Array.getElem?_eq_getElem hj, fun e he hb => ?_⟩
      have hm : e.on ∈ preds ops j := by
        simp only [preds, Array.getElem?_eq_getElem hj, Option.map_some, Option.getD_some]
        exact mem_binding.2 ⟨e, he, hb, rfl⟩
      have hel := hpl j hj _ hm
      rw [getD_bool listed _ (by omega) false, hl _ hel]
      exact h2 _ hm
  intro n
  induction n with
  | zero =>
    intro t listed L a w hn hsz hl hd hc h
    obtain ⟨h1, h2⟩ := PT.all_doneR t [] [] a w hc hn h
    refine ⟨List.eq_nil_iff_forall_not_mem.2 fun j hj => ?_, h2⟩
    obtain ⟨hj1, hj2⟩ := (key listed L j hsz hl).1 hj
    have := h1 j hj1
    rw [(readyL_iff.1 hj2).1] at this
    cases this
  | succ n ih =>
    intro t listed L a w hn hsz hl hd hc h
    refine ⟨fun hr => ?_, fun i hi => ?_⟩
    · obtain ⟨s, hs1, hs2⟩ := PT.some_ready t [] hc (by omega)
      have := (key listed L s hsz hl).2 ⟨hs1, hs2⟩
      rw [hr] at this
      cases this
    · obtain ⟨hi1, hi2⟩ := (key listed L i hsz hl).1 hi
      rcases PlanR.move hQ hsel hM hi1 t [] L [] a w hc hd hi2 (fun y hy => by cases hy) h with h | ⟨t', h1, h2, h3⟩
      · cases h
      · refine wpOpIn_mono (fun a' w' h4 => ih t' _ (addL L i) a' w' (by omega) (by simpa using hsz) (fun j hj => ?_) (hd.add hi2) h1 h4.2) h3
        rw [isL_add]
        by_cases hij : i = j
        · subst hij; simp [Array.getD, hsz, hj]
        · rw [getD_set_ne true hij, hl j hj]; simp [hij]

/-- A REGION THAT DRAWS: by one plan. -/
theorem wpR_region_plan {id : Nat} {a : Act} {w : World} (M : List Nat) (p : PT) (hm : P.follows .mixedOrders = true) (hok : planOK ops M p = true)
    (hQ : ∀ c a w, ¬ Q (.panic c) a w) (h : PlanR r P ops M Q [] p a { w with drawn := w.drawn + 1 }) : (Code.region id ops true).wpIn (WideR r) 0 P Q a w := by
  refine wpIn_region_any hm ?_
  simp only [planOK, Bool.and_eq_true, beq_iff_eq] at hok
  obtain ⟨⟨⟨h0, h1⟩, h2⟩, h3⟩ := hok
  exact PlanR.sound hQ h0 h1 ops.size p _ 0 a _ h3 (by simp) (fun j hj => by simp [Array.getD, hj, isL]) (fun j hj hl => by simp [isL] at hl) h2 h
end
theorem wpR_loop_ghost {T : Type} {c : Code} {Q : Exit → Act → World → Prop} (I : T → Act → World → Prop) (mu : T → Nat) (round : ∀ x a w, I x a w → c.wpIn (WideR r) 0 P (Exit.then (fun a' w' => ∃ x', mu x' < mu x ∧ I x' a' w') Q) a w) :
    ∀ (x : T) (a : Act) (w : World), I x a w → (Code.loop c).wpIn (WideR r) 0 P Q a w := by
  intro x a w h0 b k cs hro hb hr
  have key : ∀ n x a w, mu x = n → I x a w → ∃ e a' w', Q e a' w' ∧ ArrivesIn (Machine.fenced P (WideR r)) P (lone (b.atR a (.code c :: .inLoop c :: k)) cs w) b k cs e a' w' := by
    intro n
    induction n using Nat.strongRecOn with
    | _ n ih =>
      intro x a w hn hI
      obtain ⟨e, a1, w1, hq, harr⟩ := round x a w hI b (.inLoop c :: k) cs hro hb hr
      cases e with
      | normal =>
        obtain ⟨x', hlt, hI1⟩ := hq
        obtain ⟨e2, a2, w2, hq2, harr2⟩ := ih (mu x') (hn ▸ hlt) x' a1 w1 rfl hI1
        exact ⟨e2, a2, w2, hq2, .of_steps (StepsIn.trans harr (.one (fenced_calm hb hr rfl) stepR_inLoop)) harr2⟩
      | exit id => exact ⟨_, a1, w1, hq, .pass (x := .inLoop c) rfl (fun _ _ => .inl (by simp)) harr⟩
      | goto l => exact ⟨_, a1, w1, hq, .pass (x := .inLoop c) rfl (fun _ _ => .inl (by simp)) harr⟩
      | ret => exact ⟨_, a1, w1, hq, .pass (x := .inLoop c) rfl (fun _ _ => .inl (by simp)) harr⟩
      | panic ch => exact ⟨_, a1, w1, hq, .pass (x := .inLoop c) rfl (fun _ _ => .inl (by simp)) harr⟩
      | outgrown => exact ⟨_, a1, w1, hq, .pass (x := .inLoop c) rfl (fun _ _ => .inl (by simp)) harr⟩
  obtain ⟨e, a', w', hq, harr⟩ := key _ x a w rfl h0
  exact ⟨e, a', w', hq, .of_steps (.one (fenced_calm hb hr rfl) stepR_loop) harr⟩

/-- The marks of ranges over functions on an activation. -/
def marksL (Ds : List Nat) : List Deferred := Ds.map fun d => { target := .collected d, args := #[] }
def DefA (d : Nat) : Asn := Blk d (.deferred (some []))

theorem leaves_marks {fn : Func} {tmps : Array Value} {R : Ending → World → Prop} {w0 : World} {M : Asn} {L : List Asn} : ∀ (Ds : List Nat) (w : World), St w0 (M :: (Ds.map DefA ++ L)) w → (∀ w', St w0 (M :: L) w' → LeavesIn (WideR none) 0 P fn tmps R [] .returning w') → LeavesInM (WideR none) 0 P fn tmps R (marksL Ds) .returning w
  | [], w, hs, h => h w hs
  | d :: Ds, w, hs, h => by
    have hs2 : St w0 (DefA d :: M :: (Ds.map DefA ++ L)) w := hs.perm (List.Perm.swap _ _ _)
    have hd : w.heap[d]? = some (.deferred (some [])) := hs2.holds (DefA d) (List.mem_cons_self ..)
    have hlt := hs2.lt (DefA d) (List.mem_cons_self ..) d rfl
    refine ⟨by simp, .inl ⟨d, w.putObj d (.deferred none), rfl, run_takeDeferred hd, leaves_marks Ds _ ?_ h⟩⟩
    have hs3 : St w0 (Blk d (.deferred none) :: M :: (Ds.map DefA ++ L)) (w.putObj d (.deferred none)) := by
      refine St.step hs2 rfl rfl rfl (by simp) (fun b hb hn => ?_) (World.putObj_heap_same hlt) (fun b hb => ⟨.inl hb, ?_⟩)
      · exact World.putObj_heap_other (fun e => hn e)
      · have : b = d := hb
        rw [this]
        simpa using hlt
    exact hs3.tail
end
#print axioms wpR_region_plan
end Go.Sx
