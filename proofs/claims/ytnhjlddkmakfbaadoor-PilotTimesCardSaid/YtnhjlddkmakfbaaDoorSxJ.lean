/-
  Sx, part J: maps as lists of pairs in the order of their making. Proved once, for any program. Conditions: none beside each theorem's own.
-/
import Derived.Test.YtnhjlddkmakfbaaDoorSxI
namespace Go.Sx
open Go.RowKit
set_option linter.unusedVariables false
set_option linter.unusedSimpArgs false
set_option linter.unusedSectionVars false

/-- How keys and elements lie in a map of type T: keys of one cell that are told apart at once. -/
structure MapLaw (P : Program) (T : TypeId) {α β : Type} [DecidableEq α] (ek : α → Value) (ev : β → Value) (K E : TypeId) : Prop where
  und : P.underlying T = some (.map K E)
  same : ∃ d, P.underlying K = some d ∧ (∀ a b, Instr.sameNow d (ek a) (ek b) = some (decide (a = b))) ∧ ((∃ k, d = .int k) ∨ d = .string ∨ d = .bool)
  bits : ∀ a, Instr.sameBits 10000 (ek a) (ek a) = true
  key : ∀ em a (w : World), (Instr.checkKey em 10000 K (ek a)).run P w = .ok () w

section
variable {α β : Type} [DecidableEq α] {ek : α → Value} {ev : β → Value}

def esOf (ek : α → Value) (ev : β → Value) (m : List ((α × β) × Nat)) : Array MapEntry := (m.map fun x => ({ key := ek x.1.1, val := ev x.1.2, born := x.2 } : MapEntry)).toArray

/-- how a map's block is told: its pairs in the order in which they came, each with its stamp -/
structure MapIs (ek : α → Value) (ev : β → Value) (r : Nat) (m : List (α × β)) (x : List ((α × β) × Nat)) (clk : Nat) (w : World) : Prop where
  blk : w.heap[r]? = some (.map (esOf ek ev x) clk)
  eq : x.map (fun y : (α × β) × Nat => y.1) = m
  lt : ∀ y ∈ x, y.2 < clk
  once : (x.map (fun y : (α × β) × Nat => y.2)).Nodup
  apart : (m.map (fun y : α × β => y.1)).Nodup

theorem MapIs.mono {r : Nat} {m : List (α × β)} {x : List ((α × β) × Nat)} {clk : Nat} {w w' : World} (h : MapIs ek ev r m x clk w) (e : w'.heap[r]? = w.heap[r]?) : MapIs ek ev r m x clk w' := ⟨e.trans h.blk, h.eq, h.lt, h.once, h.apart⟩

/-- a map's block -/
def MapA (ek : α → Value) (ev : β → Value) (r : Nat) (m : List (α × β)) : Asn :=
  ⟨fun k => k = r, fun w => ∃ (x : List ((α × β) × Nat)) (clk : Nat), MapIs ek ev r m x clk w, fun w w' h ⟨x, clk, h1⟩ => ⟨x, clk, h1.mono (h r rfl)⟩⟩

/-- a map's block, and the stamp of one key -/
def MapB (ek : α → Value) (ev : β → Value) (r : Nat) (m : List (α × β)) (s : Nat) (k : α) : Asn :=
  ⟨fun k => k = r, fun w => ∃ (x : List ((α × β) × Nat)) (clk : Nat), MapIs ek ev r m x clk w ∧ ∃ v, ((k, v), s) ∈ x, fun w w' h ⟨x, clk, h1, h2⟩ => ⟨x, clk, h1.mono (h r rfl), h2⟩⟩

/-- a map that is ranged over: what was met, in its order -/
def MapIt (ek : α → Value) (ev : β → Value) (r it : Nat) (m done : List (α × β)) : Asn :=
  ⟨fun k => k = r ∨ k = it, fun w => r ≠ it ∧ ∃ (x y : List ((α × β) × Nat)) (clk : Nat), MapIs ek ev r m x clk w ∧ w.heap[it]? = some (.mapIter (some r) clk (y.map (fun z : (α × β) × Nat => z.2)).toArray clk) ∧
      y.map (fun z : (α × β) × Nat => z.1) = done ∧ (∀ z ∈ y, z ∈ x) ∧ (y.map (fun z : (α × β) × Nat => z.2)).Nodup,
    fun w w' h ⟨h0, x, y, clk, h1, h2, h3⟩ => ⟨h0, x, y, clk, h1.mono (h r (.inl rfl)), (h it (.inr rfl)).trans h2, h3⟩⟩

def aget (m : List (α × β)) (k : α) : Option β := (m.find? fun x => decide (x.1 = k)).map (·.2)
def aset : List (α × β) → α → β → List (α × β)
  | [], k, v => [(k, v)]
  | x :: m, k, v => if x.1 = k then (k, v) :: m else x :: aset m k v
def adel : List (α × β) → α → List (α × β)
  | [], _ => []
  | x :: m, k => if x.1 = k then m else x :: adel m k

theorem aset_keys (k : α) (v : β) : ∀ m : List (α × β), ∀ q, q ∈ (aset m k v).map (fun y : α × β => y.1) ↔ q = k ∨ q ∈ m.map (fun y : α × β => y.1)
  | [], q => by simp [aset]
  | x :: m, q => by
    by_cases h : x.1 = k
    · subst h
      simp only [aset, if_true, List.map_cons, List.mem_cons]
      constructor
      · rintro (h1 | h1)
        · exact .inl h1
        · exact .inr (.inr h1)
      · rintro (h1 | h1 | h1)
        · exact .inl h1
        · exact .inl h1
        · exact .inr h1
    · simp only [aset, if_neg h, List.map_cons, List.mem_cons, aset_keys k v m q]
      constructor
      · rintro (h1 | h1 | h1)
        · exact .inr (.inl h1)
        · exact .inl h1
        · exact .inr (.inr h1)
      · rintro (h1 | h1 | h1)
        · exact .inr (.inl h1)
        · exact .inl h1
        · exact .inr (.inr h1)

theorem aset_apart (k : α) (v : β) : ∀ m : List (α × β), (m.map (fun y : α × β => y.1)).Nodup → ((aset m k v).map (fun y : α × β => y.1)).Nodup
  | [], _ => by simp [aset]
  | x :: m, h => by
    simp only [List.map_cons, List.nodup_cons] at h
    by_cases hx : x.1 = k
    · simp only [aset, if_pos hx, List.map_cons, List.nodup_cons]
      exact ⟨hx ▸ h.1, h.2⟩
    · simp only [aset, if_neg hx, List.map_cons, List.nodup_cons, aset_keys]
      exact ⟨fun hq => hq.elim hx h.1, aset_apart k v m h.2⟩

theorem adel_sub (k : α) : ∀ m : List (α × β), (adel m k).Sublist m
  | [] => List.Sublist.refl _
  | x :: m => by
    by_cases hx : x.1 = k
    · simp only [adel, if_pos hx]; exact List.sublist_cons_self ..
    · simp only [adel, if_neg hx]; exact (adel_sub k m).cons_cons x

variable {P : Program} {T K E : TypeId}

theorem run_checkKey (h : MapLaw P T ek ev K E) (em : Bool) (k : α) (w : World) : (Instr.checkKey em 10000 K (ek k)).run P w = .ok () w := h.key em k w

/-- where a key stands -/
def posOf (m : List ((α × β) × Nat)) (k : α) : Nat → Option (Nat × β)
  | i => match m with
    | [] => none
    | x :: m => if x.1.1 = k then some (i, x.1.2) else posOf m k (i + 1)

theorem run_findKey (h : MapLaw P T ek ev K E) (k : α) (w : World) (m : List ((α × β) × Nat)) : (Instr.findKey K (ek k) (esOf ek ev m).toList).run P w = .ok ((posOf m k 0).map fun x => (x.1, ev x.2)) w := by
  obtain ⟨d, h1, h2, h3⟩ := h.same
  have key : ∀ (m : List ((α × β) × Nat)) (i : Nat), Instr.findNow d (ek k) (esOf ek ev m).toList i = some ((posOf m k i).map fun x => (x.1, ev x.2)) := by
    intro m
    induction m with
    | nil => intro i; rfl
    | cons x m ih =>
      intro i
      have e1 : (esOf ek ev (x :: m)).toList = ({ key := ek x.1.1, val := ev x.1.2, born := x.2 } : MapEntry) :: (esOf ek ev m).toList := by simp [esOf]
      rw [e1]
      simp only [Instr.findNow, h2]
      by_cases hx : k = x.1.1
      · subst hx
        simp [posOf]
      · have hx' : ¬ x.1.1 = k := fun e => hx e.symm
        simp only [decide_eq_false hx, ih, posOf, if_neg hx']
  simp only [Instr.findKey, Sem.run_bind, run_underlying h1, Result.andThen_ok, key, Sem.run_pure]

theorem posOf_spec (k : α) : ∀ (m : List ((α × β) × Nat)) (i : Nat), (posOf m k i = none ∧ (m.map (·.1)).any (fun x => decide (x.1 = k)) = false) ∨
    ∃ j v, posOf m k i = some (i + j, v) ∧ ∃ x, m[j]? = some x ∧ x.1 = (k, v) ∧ ∀ j', j' < j → ∀ y, m[j']? = some y → y.1.1 ≠ k
  | [], i => .inl ⟨rfl, rfl⟩
  | x :: m, i => by
    by_cases hx : x.1.1 = k
    · refine .inr ⟨0, x.1.2, by simp [posOf, hx], x, rfl, by rw [← hx], fun j' hj => by omega⟩
    · rcases posOf_spec k m (i + 1) with ⟨h1, h2⟩ | ⟨j, v, h1, y, h2, h3, h4⟩
      · refine .inl ⟨by simp [posOf, hx, h1], ?_⟩
        simp only [List.map_cons, List.any_cons, decide_eq_false hx, Bool.false_or]
        exact h2
      · refine .inr ⟨j + 1, v, by simp [posOf, hx, h1]; omega, y, h2, h3, fun j' hj z hz => ?_⟩
        cases j' with
        | zero => simp at hz; subst hz; exact hx
        | succ j' => exact h4 j' (by omega) z (by simpa using hz)

theorem posOf_get (k : α) : ∀ (m : List ((α × β) × Nat)) (i : Nat), (posOf m k i).map (·.2) = aget (m.map (·.1)) k
  | [], _ => rfl
  | x :: m, i => by
    by_cases hx : x.1.1 = k
    · simp [posOf, aget, hx]
    · have ih := posOf_get k m (i + 1)
      simp only [posOf, if_neg hx, ih, aget, List.map_cons, List.find?_cons, decide_eq_false hx]
end

section
variable {P : Program} {R0 : Exit → Act → World → Prop} {N : Nat} {Kk : List KItem} {S : Env} {w w0 : World} {l : List Oper} {M : List Nat} {A : Asked} {rest : PT} {L : List Asn}
variable {α β : Type} [DecidableEq α] {ek : α → Value} {ev : β → Value} {T K E : TypeId}

theorem GoR.makeMap {i : Nat} {o : Oper} {t : TypeId} (ho : l[i]? = some o) (hop : o.op = .makeMap t none) (hw : wantE l.toArray S o = some true) (ek : α → Value) (ev : β → Value) (hs : St w0 L w)
    (h : ∀ r w', St w0 (MapA ek ev r [] :: L) w' → okAll w' (opens M A i) ∧ GoR P l M R0 Kk N A rest (S.setO o.dst (.map (some r))) w') : GoR P l M R0 Kk N A (.ef i rest) S w := by
  have hn := hs.newBlk (.map #[] 0)
  have hc : St w0 (MapA ek ev w.heap.size [] :: L) { w with heap := w.heap.push (.map #[] 0) } := hn.conv (fun h1 => ⟨[], 0, h1, rfl, by simp, by simp, by simp⟩) (fun b hb => hb)
  obtain ⟨k1, k2⟩ := h _ _ hc
  refine GoR.run ho hw _ _ (fun a hf => .inl ?_) k1 k2
  simp [execOp, hop, Instr.makeMap, newObj, Sem.run, Sem.run_bind]

def lookArgs (S : Env) (o : Oper) : Option (TypeId × Value × Value × Bool) :=
  match o.op with
  | .lookup t x i ok => match S.op x, S.op i with
    | some m, some k => some (t, m, k, ok)
    | _, _ => none
  | _ => none

/-- m[k], and v, ok := m[k] -/
theorem GoR.lookup {i : Nat} {o : Oper} (ho : l[i]? = some o) (hw : wantE l.toArray S o = some true) (hl : MapLaw P T ek ev K E) {r : Nat} {k : α} {ok : Bool} (ha : lookArgs S o = some (T, .map (some r), ek k, ok)) (hs : St w0 L w) (j : Nat) {m : List (α × β)} (hj : L[j]? = some (MapA ek ev r m))
    {z : Value} (hz : (P.info? E).bind (·.zero) = some z) {v : Value} (hv : (if ok then .tuple #[((aget m k).map ev).getD z, .bool (aget m k).isSome] else ((aget m k).map ev).getD z) = v)
    (h : GoR P l M R0 Kk N ((i, [.holds (MapA ek ev r m).holds]) :: A) rest (S.setO o.dst v) w) : GoR P l M R0 Kk N A (.rd i rest) S w := by
  subst hv
  refine GoR.read ho hw [.holds (MapA ek ev r m).holds] _ (fun a w' hf hn => ?_) ⟨hs.at_ j hj, trivial⟩ h
  obtain ⟨x, clk, hb, rfl, -⟩ := hn.1
  have hg : (getObj r).run P w' = .ok (.map (esOf ek ev x) clk) w' := by simp [getObj, Sem.run, hb]
  cases hei : P.info? E with
  | none => rw [hei] at hz; cases hz
  | some ei =>
  rw [hei] at hz
  simp only [Option.bind_some] at hz
  unfold lookArgs at ha
  split at ha
  · rename_i t' x' i' ok' hop
    split at ha
    · rename_i m' k' h1 h2
      simp only [Option.some.injEq, Prod.mk.injEq] at ha
      obtain ⟨rfl, rfl, rfl, rfl⟩ := ha
      have h1' := hf.op h1
      have h2' := hf.op h2
      generalize a.eval = ρ at h1' h2' ⊢
      simp only [execOp, hop, h1', h2', Instr.lookup, Sem.run_bind, run_underlying hl.und, Result.andThen_ok, hg, Sem.run_pure, run_checkKey hl, run_findKey hl]
      rw [← posOf_get k x 0]
      cases hp : posOf x k 0 with
      | none =>
        simp only [Option.map_none, zeroValue, typeInfo, run_program, Sem.run_bind, Result.andThen_ok, hei, hz, Sem.run_pure, Option.getD_none, Option.isSome_none]
      | some q =>
        simp only [Option.map_some, Sem.run_pure, Result.andThen_ok, Option.getD_some, Option.isSome_some]
        cases ok' <;> rfl
    · cases ha
  · cases ha
end
end Go.Sx
