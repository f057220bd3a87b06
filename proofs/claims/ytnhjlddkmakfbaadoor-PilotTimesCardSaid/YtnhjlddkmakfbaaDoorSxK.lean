/-
  Sx, part K: maps that are changed, and ranged over. Proved once, for any program. Conditions: none beside each theorem's own.
-/
import Derived.Test.YtnhjlddkmakfbaaDoorSxJ
import Derived.Maps.RangeRun
namespace Go.Sx
open Go.RowKit
open Go.ChangeMaps (setBlock)
set_option linter.unusedVariables false
set_option linter.unusedSimpArgs false
set_option linter.unusedSectionVars false

section
variable {α β : Type} [DecidableEq α] {ek : α → Value} {ev : β → Value}

theorem esOf_get (x : List ((α × β) × Nat)) (j : Nat) : (esOf ek ev x)[j]? = x[j]?.map fun y => ({ key := ek y.1.1, val := ev y.1.2, born := y.2 } : MapEntry) := by simp [esOf]

theorem nodup_inj {γ : Type} {q : List γ} (h : q.Nodup) {i j : Nat} (hi : i < q.length) (hj : j < q.length) (e : q[i] = q[j]) : i = j := by
  have hp := List.pairwise_iff_getElem.1 h
  rcases Nat.lt_trichotomy i j with h1 | h1 | h1
  · exact absurd e (hp i j hi hj h1)
  · exact h1
  · exact absurd e.symm (hp j i hj hi h1)

theorem nodup_of_map {γ δ : Type} {f : γ → δ} {q : List γ} (h : (q.map f).Nodup) : q.Nodup := (List.pairwise_map.1 h).imp fun h1 e => h1 (congrArg f e)

theorem nodup_map_inj {γ δ : Type} {f : γ → δ} {q : List γ} (h : (q.map f).Nodup) {a b : γ} (ha : a ∈ q) (hb : b ∈ q) (e : f a = f b) : a = b := by
  obtain ⟨i, hi, rfl⟩ := List.getElem_of_mem ha
  obtain ⟨j, hj, rfl⟩ := List.getElem_of_mem hb
  have := nodup_inj h (i := i) (j := j) (by simpa using hi) (by simpa using hj) (by simpa using e)
  subst this
  rfl

theorem nodup_length {γ : Type} : ∀ {q m : List γ}, q.Nodup → (∀ a ∈ q, a ∈ m) → q.length ≤ m.length
  | [], _, _, _ => Nat.zero_le _
  | a :: q, m, h, hs => by
    obtain ⟨m1, m2, rfl⟩ := List.append_of_mem (hs a (List.mem_cons_self ..))
    have h1 := List.nodup_cons.1 h
    have := nodup_length (q := q) (m := m1 ++ m2) h1.2 (fun b hb => by
      have hb' := hs b (List.mem_cons_of_mem _ hb)
      rcases List.mem_append.1 hb' with h2 | h2
      · exact List.mem_append_left _ h2
      · rcases List.mem_cons.1 h2 with h3 | h3
        · subst h3; exact absurd hb h1.1
        · exact List.mem_append_right _ h3)
    simp only [List.length_append, List.length_cons] at this ⊢
    omega

theorem esOf_push (x : List ((α × β) × Nat)) (k : α) (v : β) (b : Nat) : (esOf ek ev x).push { key := ek k, val := ev v, born := b } = esOf ek ev (x ++ [((k, v), b)]) := by simp [esOf]

theorem esOf_modify (x : List ((α × β) × Nat)) (j : Nat) (f : MapEntry → MapEntry) (g : ((α × β) × Nat) → ((α × β) × Nat)) (h : ∀ y, x[j]? = some y → f { key := ek y.1.1, val := ev y.1.2, born := y.2 } = { key := ek (g y).1.1, val := ev (g y).1.2, born := (g y).2 }) :
    (esOf ek ev x).modify j f = esOf ek ev (x.modify j g) := by
  apply Array.ext_getElem?
  intro i
  rw [Array.getElem?_modify, esOf_get, esOf_get, List.getElem?_modify]
  by_cases hij : j = i
  · subst hij
    simp only [if_true]
    cases hx : x[j]? with
    | none => rfl
    | some y => simp [h y hx]
  · simp only [if_neg hij]
    cases x[i]? <;> rfl

theorem posOf_none (k : α) (v : β) : ∀ (x : List ((α × β) × Nat)) (i : Nat), posOf x k i = none → aset (x.map (fun y : (α × β) × Nat => y.1)) k v = x.map (fun y : (α × β) × Nat => y.1) ++ [(k, v)] ∧ adel (x.map (fun y : (α × β) × Nat => y.1)) k = x.map (fun y : (α × β) × Nat => y.1) ∧ aget (x.map (fun y : (α × β) × Nat => y.1)) k = none
  | [], _, _ => ⟨rfl, rfl, rfl⟩
  | x :: m, i, h => by
    by_cases hx : x.1.1 = k
    · simp [posOf, hx] at h
    · simp only [posOf, if_neg hx] at h
      obtain ⟨h1, h2, h3⟩ := posOf_none k v m (i + 1) h
      simp only [aget] at h3
      simp only [List.map_cons, aset, adel, aget, if_neg hx, h1, h2, List.find?_cons, decide_eq_false hx, h3, List.cons_append, and_self]

theorem posOf_some (k : α) (v : β) : ∀ (x : List ((α × β) × Nat)) (i j : Nat) (u : β), posOf x k i = some (j, u) → ∃ d s, j = i + d ∧ x[d]? = some ((k, u), s) ∧ aset (x.map (fun y : (α × β) × Nat => y.1)) k v = (x.modify d fun y => ((k, v), y.2)).map (fun y : (α × β) × Nat => y.1) ∧
    adel (x.map (fun y : (α × β) × Nat => y.1)) k = (x.eraseIdx d).map (fun y : (α × β) × Nat => y.1) ∧ aget (x.map (fun y : (α × β) × Nat => y.1)) k = some u
  | [], _, _, _, h => by simp [posOf] at h
  | x :: m, i, j, u, h => by
    by_cases hx : x.1.1 = k
    · subst hx
      simp only [posOf, if_true, Option.some.injEq, Prod.mk.injEq] at h
      obtain ⟨rfl, rfl⟩ := h
      exact ⟨0, x.2, rfl, rfl, by simp [aset], by simp [adel], by simp [aget]⟩
    · simp only [posOf, if_neg hx] at h
      obtain ⟨d, s, h1, h2, h3, h4, h5⟩ := posOf_some k v m (i + 1) j u h
      simp only [aget] at h5
      refine ⟨d + 1, s, by omega, by simpa using h2, ?_, ?_, ?_⟩
      · simp only [List.map_cons, aset, if_neg hx, h3, List.modify_succ_cons]
      · simp only [List.map_cons, adel, if_neg hx, h4, List.eraseIdx_cons_succ]
      · simp only [aget, List.map_cons, List.find?_cons, decide_eq_false hx, h5]

theorem modify_stamp (x : List ((α × β) × Nat)) (d : Nat) (k : α) (v : β) : (x.modify d fun y => ((k, v), y.2)).map (fun y : (α × β) × Nat => y.2) = x.map (fun y : (α × β) × Nat => y.2) := by
  apply List.ext_getElem?
  intro i
  simp only [List.getElem?_map, List.getElem?_modify]
  by_cases h : d = i
  · subst h; cases x[d]? <;> simp
  · simp [h]

variable {P : Program} {T K E : TypeId} {w w0 : World} {L : List Asn} {r : Nat} {m : List (α × β)}

theorem run_setMap {es : Array MapEntry} {clock : Nat} (o : Obj) (hb : w.heap[r]? = some (.map es clock)) : (setObj r o).run P w = .ok () (setBlock w r o) := by simp [setObj, Sem.run, hb, setBlock]

/-- a map's block is another one -/
theorem St.setMap {A' : Asn} (hs : St w0 (MapA ek ev r m :: L) w) {o : Obj} (hA : A'.holds (setBlock w r o)) (hown : ∀ b, A'.own b → b = r) : St w0 (A' :: L) (setBlock w r o) := by
  have hlt : r < w.heap.size := hs.lt _ (List.mem_cons_self ..) r rfl
  refine St.step hs rfl rfl rfl (by simp [setBlock]) (fun b hb hn => ?_) hA (fun b hb => ⟨.inl (hown b hb), by rw [hown b hb]; simpa [setBlock] using hlt⟩)
  simp only [setBlock, Array.getElem?_setIfInBounds]
  rw [if_neg (fun e => hn e.symm)]

theorem MapIs.upd {x : List ((α × β) × Nat)} {clk : Nat} (h : MapIs ek ev r m x clk w) (k : α) (v : β) (hlt : r < w.heap.size) :
    (∃ d u s, posOf x k 0 = some (d, u) ∧ x[d]? = some ((k, u), s) ∧ MapIs ek ev r (aset m k v) (x.modify d fun y => ((k, v), y.2)) clk (setBlock w r (.map (esOf ek ev (x.modify d fun y => ((k, v), y.2))) clk)) ∧ ((k, v), s) ∈ (x.modify d fun y => ((k, v), y.2)) ∧ aget m k = some u ∧
      MapIs ek ev r (adel m k) (x.eraseIdx d) clk (setBlock w r (.map (esOf ek ev (x.eraseIdx d)) clk))) ∨
    (posOf x k 0 = none ∧ MapIs ek ev r (aset m k v) (x ++ [((k, v), clk)]) (clk + 1) (setBlock w r (.map (esOf ek ev (x ++ [((k, v), clk)])) (clk + 1))) ∧ aget m k = none ∧ adel m k = m) := by
  obtain ⟨hb, rfl, h1, h2, h3⟩ := h
  have hset : ∀ o, (setBlock w r o).heap[r]? = some o := fun o => by simp [setBlock, hlt]
  cases hp : posOf x k 0 with
  | none =>
    obtain ⟨e1, e2, e3⟩ := posOf_none k v x 0 hp
    refine .inr ⟨rfl, ⟨hset _, by rw [e1]; simp, ?_, ?_, aset_apart k v _ h3⟩, e3, e2⟩
    · intro y hy
      rcases List.mem_append.1 hy with hy | hy
      · have := h1 y hy; omega
      · simp only [List.mem_singleton] at hy; subst hy; simp
    · rw [List.map_append, List.nodup_append]
      refine ⟨h2, by simp, ?_⟩
      intro a ha b hb' e
      simp only [List.map_cons, List.map_nil, List.mem_singleton] at hb'
      subst hb' e
      obtain ⟨y, hy, rfl⟩ := List.mem_map.1 ha
      have := h1 y hy
      omega
  | some q =>
    obtain ⟨j, u⟩ := q
    obtain ⟨d, s, hd, e1, e2, e3, e4⟩ := posOf_some k v x 0 j u hp
    have hd' : j = d := by omega
    subst hd'
    have hsub : (x.eraseIdx j).Sublist x := List.eraseIdx_sublist ..
    refine .inl ⟨j, u, s, rfl, e1, ⟨hset _, e2.symm, ?_, by rw [modify_stamp]; exact h2, aset_apart k v _ h3⟩, ?_, e4, ⟨hset _, e3.symm, fun y hy => h1 y (hsub.subset hy), h2.sublist (hsub.map _), h3.sublist ((adel_sub k _).map _)⟩⟩
    · intro y hy
      have hm : y.2 ∈ (x.modify j fun y => ((k, v), y.2)).map (fun y : (α × β) × Nat => y.2) := List.mem_map.2 ⟨y, hy, rfl⟩
      rw [modify_stamp] at hm
      obtain ⟨z, hz, hz'⟩ := List.mem_map.1 hm
      have := h1 z hz
      omega
    · refine List.mem_of_getElem? (i := j) ?_
      rw [List.getElem?_modify, e1]
      simp

theorem sameBits_key (h : MapLaw P T ek ev K E) {x : List ((α × β) × Nat)} {d : Nat} {k : α} {u : β} {s : Nat} (e : x[d]? = some ((k, u), s)) : (Instr.keyThatStays ((((esOf ek ev x)[d]?).map (·.key)).getD (ek k)) (ek k)).run P w = .ok (ek k) w := by
  rw [esOf_get, e]
  simp only [Option.map_some, Option.getD_some, Instr.keyThatStays, h.bits, if_true, Sem.run_pure]
end

section
variable {P : Program} {R0 : Exit → Act → World → Prop} {N : Nat} {Kk : List KItem} {S : Env} {w w0 : World} {l : List Oper} {M : List Nat} {A : Asked} {rest : PT} {L : List Asn}
variable {α β : Type} [DecidableEq α] {ek : α → Value} {ev : β → Value} {T K E : TypeId}

def updArgs (S : Env) (o : Oper) : Option (TypeId × Value × Value × Value) :=
  match o.op with
  | .mapUpdate t x i y => match S.op x, S.op i, S.op y with
    | some m, some k, some v => some (t, m, k, v)
    | _, _, _ => none
  | _ => none

theorem run_mapUpdate (hl : MapLaw P T ek ev K E) {r : Nat} {k : α} {v : β} {m : List (α × β)} (hs : St w0 (MapA ek ev r m :: L) w) :
    ∃ w', (Instr.mapUpdate T (.map (some r)) (ek k) (ev v)).run P w = .ok () w' ∧ St w0 (MapA ek ev r (aset m k v) :: L) w' := by
  obtain ⟨x, clk, h⟩ := hs.holds _ (List.mem_cons_self ..)
  have hlt : r < w.heap.size := hs.lt _ (List.mem_cons_self ..) r rfl
  have hb := h.blk
  have hg : (getObj r).run P w = .ok (.map (esOf ek ev x) clk) w := by simp [getObj, Sem.run, hb]
  rcases h.upd k v hlt with ⟨d, u, s, hp, hx, h1, h2, h3, h4⟩ | ⟨hp, h1, h2, h3⟩
  · refine ⟨_, ?_, St.setMap (A' := MapA ek ev r (aset m k v)) (o := .map (esOf ek ev (x.modify d fun y => ((k, v), y.2))) clk) hs ⟨_, _, h1⟩ (fun b hb => hb)⟩
    simp only [Instr.mapUpdate, Sem.run_bind, run_underlying hl.und, Result.andThen_ok, hg, run_checkKey hl, run_findKey hl, hp, Option.map_some, sameBits_key hl hx, run_setMap _ hb]
    rw [esOf_modify (ek := ek) (ev := ev) x d _ (fun y => ((k, v), y.2)) (fun y hy => rfl)]
  · refine ⟨_, ?_, St.setMap (A' := MapA ek ev r (aset m k v)) (o := .map (esOf ek ev (x ++ [((k, v), clk)])) (clk + 1)) hs ⟨_, _, h1⟩ (fun b hb => hb)⟩
    simp only [Instr.mapUpdate, Sem.run_bind, run_underlying hl.und, Result.andThen_ok, hg, run_checkKey hl, run_findKey hl, hp, Option.map_none, run_setMap _ hb, esOf_push]

/-- m[k] = v -/
theorem GoR.mapUpdate {i : Nat} {o : Oper} (ho : l[i]? = some o) (hw : wantE l.toArray S o = some true) (hl : MapLaw P T ek ev K E) {r : Nat} {k : α} {v : β} (ha : updArgs S o = some (T, .map (some r), ek k, ev v)) (hs : St w0 L w) (j : Nat) {m : List (α × β)} (hj : L[j]? = some (MapA ek ev r m))
    (h : ∀ w', St w0 (MapA ek ev r (aset m k v) :: L.eraseIdx j) w' → okAll w' (opens M A i) ∧ GoR P l M R0 Kk N A rest (S.setO o.dst undef) w') : GoR P l M R0 Kk N A (.ef i rest) S w := by
  obtain ⟨w', hr, hs'⟩ := run_mapUpdate hl (k := k) (v := v) (hs.pull j hj)
  obtain ⟨k1, k2⟩ := h w' hs'
  refine GoR.run ho hw _ _ (fun a hf => .inr ⟨?_, rfl⟩) k1 k2
  unfold updArgs at ha
  split at ha
  · rename_i t' x' i' y' hop
    split at ha
    · rename_i m' k' v' h1 h2 h3
      simp only [Option.some.injEq, Prod.mk.injEq] at ha
      obtain ⟨rfl, rfl, rfl, rfl⟩ := ha
      have h1' := hf.op h1
      have h2' := hf.op h2
      have h3' := hf.op h3
      generalize a.eval = ρ at h1' h2' h3' ⊢
      simp only [execOp, hop, h1', h2', h3', Sem.run_bind, hr, Result.andThen_ok]
      rfl
    · cases ha
  · cases ha

theorem St.setMapB {r : Nat} {m : List (α × β)} {s : Nat} {k : α} {A' : Asn} (hs : St w0 (MapB ek ev r m s k :: L) w) {o : Obj} (hA : A'.holds (setBlock w r o)) (hown : ∀ b, A'.own b → b = r) : St w0 (A' :: L) (setBlock w r o) :=
  St.setMap (ek := ek) (ev := ev) (m := m) (hs.conv (fun ⟨x, clk, h, _⟩ => ⟨x, clk, h⟩) (fun b hb => hb)) hA hown

theorem run_mapEntry (hl : MapLaw P T ek ev K E) {z : β} (hz : (P.info? E).bind (·.zero) = some (ev z)) {r : Nat} {k : α} {m : List (α × β)} (hs : St w0 (MapA ek ev r m :: L) w) :
    ∃ s w', (Instr.mapEntry T (.map (some r)) (ek k)).run P w = .ok (.tuple #[ev ((aget m k).getD z), .int .i64 (s : Nat)]) w' ∧ St w0 (MapB ek ev r (aset m k ((aget m k).getD z)) s k :: L) w' := by
  obtain ⟨x, clk, h⟩ := hs.holds _ (List.mem_cons_self ..)
  have hlt : r < w.heap.size := hs.lt _ (List.mem_cons_self ..) r rfl
  have hb := h.blk
  have hg : (getObj r).run P w = .ok (.map (esOf ek ev x) clk) w := by simp [getObj, Sem.run, hb]
  rcases h.upd k ((aget m k).getD z) hlt with ⟨d, u, s, hp, hx, h1, h2, h3, h4⟩ | ⟨hp, h1, h2, h3⟩
  · rw [h3] at h1 h2 ⊢
    simp only [Option.getD_some] at h1 h2 ⊢
    refine ⟨s, _, ?_, St.setMap (A' := MapB ek ev r (aset m k u) s k) (o := .map (esOf ek ev (x.modify d fun y => ((k, u), y.2))) clk) hs ⟨_, _, h1, u, h2⟩ (fun b hb => hb)⟩
    simp only [Instr.mapEntry, Sem.run_bind, run_underlying hl.und, Result.andThen_ok, hg, run_checkKey hl, run_findKey hl, hp, Option.map_some, sameBits_key hl hx, run_setMap _ hb]
    have hm : (esOf ek ev x).modify d (fun e => { e with key := ek k }) = esOf ek ev (x.modify d fun y => ((k, u), y.2)) := by
      refine esOf_modify (ek := ek) (ev := ev) x d _ (fun y => ((k, u), y.2)) (fun y hy => ?_)
      rw [hx] at hy
      have := Option.some.inj hy
      subst this
      rfl
    rw [hm]
    simp only [run_setMap _ hb, Result.andThen_ok, Sem.run_pure, esOf_get, hx, Option.map_some, Option.getD_some]
    rfl
  · rw [h2] at h1 ⊢
    simp only [Option.getD_none] at h1 ⊢
    refine ⟨clk, _, ?_, St.setMap (A' := MapB ek ev r (aset m k z) clk k) (o := .map (esOf ek ev (x ++ [((k, z), clk)])) (clk + 1)) hs ⟨_, _, h1, z, by simp⟩ (fun b hb => hb)⟩
    cases hei : P.info? E with
    | none => rw [hei] at hz; cases hz
    | some ei =>
    rw [hei] at hz
    simp only [Option.bind_some] at hz
    simp only [Instr.mapEntry, Sem.run_bind, run_underlying hl.und, Result.andThen_ok, hg, run_checkKey hl, run_findKey hl, hp, Option.map_none, zeroValue, typeInfo, run_program, hei, hz, Sem.run_pure, run_setMap _ hb, esOf_push]
    rfl

theorem aset_same {k : α} (v u : β) : ∀ m : List (α × β), aset (aset m k u) k v = aset m k v
  | [] => by simp [aset]
  | x :: m => by
    by_cases h : x.1 = k
    · simp [aset, h]
    · simp [aset, h, aset_same v u m]

theorem run_entryStore {r : Nat} {k : α} {v : β} {s : Nat} {m : List (α × β)} (hs : St w0 (MapB ek ev r m s k :: L) w) :
    ∃ w', (Instr.entryStore T (.map (some r)) (.int .i64 (s : Nat)) (ev v)).run P w = .ok () w' ∧ St w0 (MapA ek ev r (aset m k v) :: L) w' := by
  obtain ⟨x, clk, h, u, hu⟩ := hs.holds _ (List.mem_cons_self ..)
  have hlt : r < w.heap.size := hs.lt _ (List.mem_cons_self ..) r rfl
  have hb := h.blk
  have hg : (getObj r).run P w = .ok (.map (esOf ek ev x) clk) w := by simp [getObj, Sem.run, hb]
  obtain ⟨d, hd, hd'⟩ := List.getElem_of_mem hu
  have hxd : x[d]? = some ((k, u), s) := by rw [List.getElem?_eq_getElem hd, hd']
  -- the place of the key is the stamp's
  have hpos : ∃ d' u' s', posOf x k 0 = some (d', u') ∧ x[d']? = some ((k, u'), s') ∧ MapIs ek ev r (aset m k v) (x.modify d' fun y => ((k, v), y.2)) clk (setBlock w r (.map (esOf ek ev (x.modify d' fun y => ((k, v), y.2))) clk)) := by
    rcases h.upd k v hlt with ⟨d', u', s', hp, hx, h1, h2, h3, h4⟩ | ⟨hp, h1, h2, h3⟩
    · exact ⟨d', u', s', hp, hx, h1⟩
    · exfalso
      have hk : k ∈ m.map (fun y : α × β => y.1) := by
        rw [← h.eq]
        exact List.mem_map.2 ⟨(k, u), List.mem_map.2 ⟨((k, u), s), hu, rfl⟩, rfl⟩
      obtain ⟨y, hy, hyk⟩ := List.mem_map.1 hk
      simp only [aget, Option.map_eq_none_iff, List.find?_eq_none, decide_eq_true_eq] at h2
      exact h2 y hy hyk
  obtain ⟨d', u', s', hp, hx, h1⟩ := hpos
  have hdd : d' = d := by
    have e1 : (x.map fun y : (α × β) × Nat => y.1.1)[d']? = some k := by simp [hx]
    have e2 : (x.map fun y : (α × β) × Nat => y.1.1)[d]? = some k := by simp [hxd]
    have hnd : (x.map fun y : (α × β) × Nat => y.1.1).Nodup := by
      have := h.apart
      rw [← h.eq, List.map_map] at this
      exact this
    obtain ⟨l1, e1⟩ := List.getElem?_eq_some_iff.1 e1
    obtain ⟨l2, e2⟩ := List.getElem?_eq_some_iff.1 e2
    exact nodup_inj hnd l1 l2 (e1.trans e2.symm)
  subst hdd
  rw [hxd] at hx
  have hfind : (esOf ek ev x).findIdx? (fun e => (e.born : Int) == (s : Int)) = some d' := by
    rw [Array.findIdx?_eq_some_iff_getElem]
    have hsz : (esOf ek ev x).size = x.length := by simp [esOf]
    refine ⟨by rw [hsz]; exact hd, ?_, fun j hj => ?_⟩
    · have : (esOf ek ev x)[d']'(by rw [hsz]; exact hd) = { key := ek k, val := ev u, born := s } := by
        have h9 := esOf_get (ek := ek) (ev := ev) x d'
        rw [hxd, Array.getElem?_eq_getElem (by rw [hsz]; exact hd)] at h9
        simpa using h9
      rw [this]
      simp
    · have hjl : j < x.length := by omega
      have h9 := esOf_get (ek := ek) (ev := ev) x j
      rw [Array.getElem?_eq_getElem (by rw [hsz]; exact hjl), List.getElem?_eq_getElem hjl] at h9
      simp only [Option.map_some, Option.some.injEq] at h9
      rw [h9]
      simp only [Bool.not_eq_true, beq_eq_false_iff_ne, ne_eq]
      intro e
      have e' : x[j].2 = s := by exact_mod_cast e
      have n1 : (x.map fun y : (α × β) × Nat => y.2)[j]'(by simpa using hjl) = s := by simp [e']
      have n2 : (x.map fun y : (α × β) × Nat => y.2)[d']'(by simpa using hd) = s := by simp [hd']
      have := nodup_inj h.once _ _ (n1.trans n2.symm)
      omega
  refine ⟨_, ?_, St.setMapB (A' := MapA ek ev r (aset m k v)) (o := .map (esOf ek ev (x.modify d' fun y => ((k, v), y.2))) clk) hs ⟨_, _, h1⟩ (fun b hb => hb)⟩
  have hai : (asInt (.int .i64 (s : Nat))).run P w = .ok (s : Int) w := rfl
  simp only [Instr.entryStore, Sem.run_bind, Result.andThen_ok, hg, hai, hfind, run_setMap _ hb]
  rw [esOf_modify (ek := ek) (ev := ev) x d' _ (fun y => ((k, v), y.2)) (fun y hy => ?_)]
  rw [hxd] at hy
  have := Option.some.inj hy
  subst this
  rfl

def entArgs (S : Env) (o : Oper) : Option (TypeId × Value × Value) :=
  match o.op with
  | .mapEntry t x i => match S.op x, S.op i with
    | some m, some k => some (t, m, k)
    | _, _ => none
  | _ => none

/-- m[k] = .., its first half -/
theorem GoR.mapEntry {i : Nat} {o : Oper} (ho : l[i]? = some o) (hw : wantE l.toArray S o = some true) (hl : MapLaw P T ek ev K E) {z : β} (hz : (P.info? E).bind (·.zero) = some (ev z)) {r : Nat} {k : α} (ha : entArgs S o = some (T, .map (some r), ek k)) (hs : St w0 L w) (j : Nat) {m : List (α × β)} (hj : L[j]? = some (MapA ek ev r m))
    (h : ∀ (s : Nat) w', St w0 (MapB ek ev r (aset m k ((aget m k).getD z)) s k :: L.eraseIdx j) w' → okAll w' (opens M A i) ∧ GoR P l M R0 Kk N A rest (S.setO o.dst (.tuple #[ev ((aget m k).getD z), .int .i64 (s : Nat)])) w') : GoR P l M R0 Kk N A (.ef i rest) S w := by
  obtain ⟨s, w', hr, hs'⟩ := run_mapEntry hl hz (k := k) (hs.pull j hj)
  obtain ⟨k1, k2⟩ := h s w' hs'
  refine GoR.run ho hw _ _ (fun a hf => .inl ?_) k1 k2
  unfold entArgs at ha
  split at ha
  · rename_i t' x' i' hop
    split at ha
    · rename_i m' k' h1 h2
      simp only [Option.some.injEq, Prod.mk.injEq] at ha
      obtain ⟨rfl, rfl, rfl⟩ := ha
      have h1' := hf.op h1
      have h2' := hf.op h2
      generalize a.eval = ρ at h1' h2' ⊢
      simp only [execOp, hop, h1', h2', Sem.run_bind, hr, Result.andThen_ok]
      rfl
    · cases ha
  · cases ha

def stoArgs (S : Env) (o : Oper) : Option (Value × Value × Value) :=
  match o.op with
  | .entryStore _ x s y => match S.op x, S.op s, S.op y with
    | some m, some k, some v => some (m, k, v)
    | _, _, _ => none
  | _ => none

/-- m[k] = v, its second half -/
theorem GoR.entryStore {i : Nat} {o : Oper} (ho : l[i]? = some o) (hw : wantE l.toArray S o = some true) {r : Nat} {s : Nat} {k : α} {v : β} (ha : stoArgs S o = some (.map (some r), .int .i64 (s : Nat), ev v)) (hs : St w0 L w) (j : Nat) {m : List (α × β)} (hj : L[j]? = some (MapB ek ev r m s k))
    (h : ∀ w', St w0 (MapA ek ev r (aset m k v) :: L.eraseIdx j) w' → okAll w' (opens M A i) ∧ GoR P l M R0 Kk N A rest (S.setO o.dst undef) w') : GoR P l M R0 Kk N A (.ef i rest) S w := by
  unfold stoArgs at ha
  split at ha
  · rename_i t' x' s' y' hop
    split at ha
    · rename_i m' k' v' h1 h2 h3
      simp only [Option.some.injEq, Prod.mk.injEq] at ha
      obtain ⟨rfl, rfl, rfl⟩ := ha
      obtain ⟨w', hr, hs'⟩ := run_entryStore (P := P) (T := t') (v := v) (hs.pull j hj)
      obtain ⟨k1, k2⟩ := h w' hs'
      refine GoR.run ho hw _ _ (fun a hf => .inr ⟨?_, rfl⟩) k1 k2
      have h1' := hf.op h1
      have h2' := hf.op h2
      have h3' := hf.op h3
      generalize a.eval = ρ at h1' h2' h3' ⊢
      simp only [execOp, hop, h1', h2', h3', Sem.run_bind, hr, Result.andThen_ok]
      rfl
    · cases ha
  · cases ha

/-- delete(m, k) -/
theorem GoR.delete {i : Nat} {o : Oper} (ho : l[i]? = some o) (hw : wantE l.toArray S o = some true) (hl : MapLaw P T ek ev K E) {t2 : TypeId} {r : Nat} {k : α} (hb : bArgs S o = some (.delete, [T, t2], [.map (some r), ek k])) (v0 : β) (hs : St w0 L w) (j : Nat) {m : List (α × β)} (hj : L[j]? = some (MapA ek ev r m))
    (h : ∀ w', St w0 (MapA ek ev r (adel m k) :: L.eraseIdx j) w' → okAll w' (opens M A i) ∧ GoR P l M R0 Kk N A rest (S.setO o.dst (.tuple #[])) w') : GoR P l M R0 Kk N A (.ef i rest) S w := by
  have key : ∃ w', (Builtin.delete_ #[T, t2] o.type #[.map (some r), ek k]).run P w = .ok (.tuple #[]) w' ∧ St w0 (MapA ek ev r (adel m k) :: L.eraseIdx j) w' := by
    have hs2 := hs.pull j hj
    obtain ⟨x, clk, h⟩ := hs2.holds _ (List.mem_cons_self ..)
    have hlt : r < w.heap.size := hs2.lt _ (List.mem_cons_self ..) r rfl
    have hb := h.blk
    have hg : (getObj r).run P w = .ok (.map (esOf ek ev x) clk) w := by simp [getObj, Sem.run, hb]
    rcases h.upd k v0 hlt with ⟨d, u, s, hp, hx, h1, h2, h3, h4⟩ | ⟨hp, h1, h2, h3⟩
    · refine ⟨_, ?_, St.setMap (A' := MapA ek ev r (adel m k)) (o := .map (esOf ek ev (x.eraseIdx d)) clk) hs2 ⟨_, _, h4⟩ (fun b hb => hb)⟩
      have he : (esOf ek ev x).eraseIdxIfInBounds d = esOf ek ev (x.eraseIdx d) := by
        apply Array.ext'
        rw [Array.toList_eraseIdxIfInBounds]
        simp only [esOf, ← Go.ChangeMaps.map_eraseIdx]
      simp only [Builtin.delete_, List.getElem?_toArray, List.getElem?_cons_zero, List.getElem?_cons_succ, Sem.run_bind, run_underlying hl.und, Result.andThen_ok, hg, run_checkKey hl, run_findKey hl, hp, Option.map_some, run_setMap _ hb, he, Sem.run_pure]
    · refine ⟨_, ?_, St.setMap (A' := MapA ek ev r (adel m k)) (o := .map (esOf ek ev x) clk) hs2 ⟨x, clk, ⟨by simp [setBlock, hlt], h.eq.trans h3.symm, h.lt, h.once, by rw [h3]; exact h.apart⟩⟩ (fun b hb => hb)⟩
      simp only [Builtin.delete_, List.getElem?_toArray, List.getElem?_cons_zero, List.getElem?_cons_succ, Sem.run_bind, run_underlying hl.und, Result.andThen_ok, hg, run_checkKey hl, run_findKey hl, hp, Option.map_none, run_setMap _ hb, Sem.run_pure]
  obtain ⟨w', hr, hs'⟩ := key
  obtain ⟨k1, k2⟩ := h w' hs'
  refine GoR.run ho hw _ w' (fun a hfit => .inl ?_) k1 k2
  obtain ⟨cs, hrun⟩ := run_bArgs (P := P) hfit hb w
  rw [hrun]
  simp only [builtin, Sem.run_bind]
  rw [hr]
  rfl

/-- len(m) -/
theorem GoR.mapLen {i : Nat} {o : Oper} (ho : l[i]? = some o) (hw : wantE l.toArray S o = some true) (hu : P.underlying T = some (.map K E)) {r : Nat} (hb : bArgs S o = some (.len, [T], [.map (some r)])) (hs : St w0 L w) (j : Nat) {m : List (α × β)} (hj : L[j]? = some (MapA ek ev r m))
    (h : GoR P l M R0 Kk N ((i, [.holds (MapA ek ev r m).holds]) :: A) rest (S.setO o.dst (.int .i64 (m.length : Nat))) w) : GoR P l M R0 Kk N A (.rd i rest) S w := by
  refine GoR.read ho hw [.holds (MapA ek ev r m).holds] _ (fun a w' hf hn => ?_) ⟨hs.at_ j hj, trivial⟩ h
  obtain ⟨x, clk, hbk, rfl, -⟩ := hn.1
  have hg : (getObj r).run P w' = .ok (.map (esOf ek ev x) clk) w' := by simp [getObj, Sem.run, hbk]
  obtain ⟨cs, hrun⟩ := run_bArgs (P := P) hf hb w'
  rw [hrun]
  simp only [builtin, Sem.run_bind, Builtin.len_, List.getElem?_toArray, List.getElem?_cons_zero, run_underlying hu, Result.andThen_ok, hg, Sem.run_pure]
  simp [esOf, goInt]

/-! ### range -/
def rngArgs (S : Env) (o : Oper) : Option (TypeId × Value) :=
  match o.op with
  | .range t x => match S.op x with
    | some m => some (t, m)
    | _ => none
  | _ => none

theorem GoR.range {i : Nat} {o : Oper} (ho : l[i]? = some o) (hw : wantE l.toArray S o = some true) (hu : P.underlying T = some (.map K E)) {r : Nat} (ha : rngArgs S o = some (T, .map (some r))) (hs : St w0 L w) (j : Nat) {m : List (α × β)} (hj : L[j]? = some (MapA ek ev r m))
    (h : ∀ it w', St w0 (MapIt ek ev r it m [] :: L.eraseIdx j) w' → okAll w' (opens M A i) ∧ GoR P l M R0 Kk N A rest (S.setO o.dst (.pointer (some ⟨it, 0, none⟩))) w') : GoR P l M R0 Kk N A (.ef i rest) S w := by
  have hs2 := hs.pull j hj
  obtain ⟨x, clk, hx⟩ := hs2.holds _ (List.mem_cons_self ..)
  have hlt : r < w.heap.size := hs2.lt _ (List.mem_cons_self ..) r rfl
  have hb := hx.blk
  have hr := run_range_map (P := P) w T K E r (esOf ek ev x) clk hu hb
  have hnew : (w.alloc (.mapIter (some r) clk #[] clk)).heap[w.heap.size]? = some (.mapIter (some r) clk #[] clk) := heap_alloc_new w _
  have hold : ∀ b, b < w.heap.size → (w.alloc (.mapIter (some r) clk #[] clk)).heap[b]? = w.heap[b]? := fun b hb => heap_alloc_old w _ hb
  have hsz : (w.alloc (.mapIter (some r) clk #[] clk)).heap.size = w.heap.size + 1 := by simp
  have hst : St w0 (MapIt ek ev r w.heap.size m [] :: L.eraseIdx j) (w.alloc (.mapIter (some r) clk #[] clk)) := by
    refine St.step hs2 rfl rfl rfl (by rw [hsz]; omega) (fun b hb _ => hold b hb) ⟨by omega, x, [], clk, hx.mono (hold r hlt), hnew, rfl, by simp, by simp⟩ (fun b hb => ?_)
    have hb' : b = r ∨ b = w.heap.size := hb
    rcases hb' with rfl | rfl
    · exact ⟨.inl rfl, by rw [hsz]; omega⟩
    · exact ⟨.inr (Nat.le_refl _), by rw [hsz]; omega⟩
  obtain ⟨k1, k2⟩ := h _ _ hst
  refine GoR.run ho hw _ _ (fun a hf => .inl ?_) k1 k2
  unfold rngArgs at ha
  split at ha
  · rename_i t' x' hop
    split at ha
    · rename_i m' h1
      simp only [Option.some.injEq, Prod.mk.injEq] at ha
      obtain ⟨rfl, rfl⟩ := ha
      have h1' := hf.op h1
      generalize a.eval = ρ at h1' ⊢
      simp only [execOp, hop, h1', Sem.run_bind, hr, Result.andThen_ok]
      rfl
    · cases ha
  · cases ha

def itArgs (S : Env) (o : Oper) : Option Value :=
  match o.op with
  | .next x false => S.op x
  | .entry x => S.op x
  | _ => none

theorem perm_of_done {x y : List ((α × β) × Nat)} (h1 : ∀ z ∈ y, z ∈ x) (h2 : (y.map (fun z : (α × β) × Nat => z.2)).Nodup) (h3 : (x.map (fun z : (α × β) × Nat => z.2)).Nodup) (h4 : ∀ z ∈ x, z.2 ∈ y.map (fun z : (α × β) × Nat => z.2)) : y.Perm x := by
  have hy : y.Nodup := nodup_of_map h2
  have hx : x.Nodup := nodup_of_map h3
  refine (List.perm_ext_iff_of_nodup hy hx).2 fun z => ⟨h1 z, fun hz => ?_⟩
  obtain ⟨z', hz', e⟩ := List.mem_map.1 (h4 z hz)
  have : z' = z := nodup_map_inj h3 (h1 z' hz') hz e
  exact this ▸ hz'

theorem GoR.next {i : Nat} {o : Oper} {xo : Operand} (ho : l[i]? = some o) (hop : o.op = .next xo false) (hw : wantE l.toArray S o = some true) {r it : Nat} (ha : S.op xo = some (.pointer (some ⟨it, 0, none⟩))) {m done : List (α × β)} (hs : St w0 (MapIt ek ev r it m done :: L) w)
    (h0 : done.Perm m → okAll w (opens M A i) ∧ GoR P l M R0 Kk N A rest (S.setO o.dst (.tuple #[.bool false])) w)
    (h1 : ∀ k v w', (k, v) ∈ m → done.length < m.length → St w0 (MapIt ek ev r it m (done ++ [(k, v)]) :: L) w' → okAll w' (opens M A i) ∧ GoR P l M R0 Kk N A rest (S.setO o.dst (.tuple #[.bool true, ek k, ev v])) w') : GoR P l M R0 Kk N A (.ef i rest) S w := by
  obtain ⟨hne, x, y, clk, hx, hit, rfl, hyx, hyn⟩ := hs.holds _ (List.mem_cons_self ..)
  have hltr : r < w.heap.size := hs.lt _ (List.mem_cons_self ..) r (.inl rfl)
  have hlti : it < w.heap.size := hs.lt _ (List.mem_cons_self ..) it (.inr rfl)
  have hmeq := hx.eq
  have hrun : ∀ (v : Value) w', (Instr.next (.pointer (some ⟨it, 0, none⟩)) false o.type).run P w = .ok v w' → ∀ a, Fits N S a → (execOp a.eval o).run P w = .ok (.value v) w' := by
    intro v w' hr a hf
    have h1' := hf.op ha
    generalize a.eval = ρ at h1' ⊢
    simp only [execOp, hop, h1', Sem.run_bind, hr, Result.andThen_ok]
    rfl
  have hmem : ∀ z ∈ (esOf ek ev x).toList, z.born < clk := by
    intro z hz
    simp only [esOf, List.toList_toArray, List.mem_map] at hz
    obtain ⟨q, hq, rfl⟩ := hz
    exact hx.lt q hq
  rcases run_next_at (P := P) w o.type it r clk clk _ (esOf ek ev x) clk hit hx.blk hmem (Nat.le_refl _) with ⟨hz, hr⟩ | ⟨e, he, w1, hw1, hr⟩
  · have hall : ∀ z ∈ x, z.2 ∈ y.map (fun z : (α × β) × Nat => z.2) := by
      intro z hz'
      have hemp : leftOf (esOf ek ev x) (y.map (fun z : (α × β) × Nat => z.2)).toArray = #[] := Array.eq_empty_of_size_eq_zero hz
      unfold leftOf at hemp
      rw [Array.filter_eq_empty_iff] at hemp
      have := hemp { key := ek z.1.1, val := ev z.1.2, born := z.2 } (by simp only [esOf, List.mem_toArray, List.mem_map]; exact ⟨z, hz', rfl⟩)
      simpa using this
    have hp := perm_of_done hyx hyn hx.once hall
    obtain ⟨k1, k2⟩ := h0 (hmeq ▸ hp.map _)
    exact GoR.run ho hw _ _ (fun a hf => .inl (hrun _ _ hr a hf)) k1 k2
  · simp only [leftOf, Array.toList_filter, List.mem_filter] at he
    obtain ⟨hem, hen⟩ := he
    simp only [esOf, List.mem_map] at hem
    obtain ⟨z, hz, rfl⟩ := hem
    have hzy : z.2 ∉ y.map (fun z : (α × β) × Nat => z.2) := by
      intro hc
      simp only [Bool.not_eq_true', Array.contains_eq_mem, decide_eq_false_iff_not, List.mem_toArray] at hen
      exact hen hc
    have hs1 : St w0 (MapIt ek ev r it m (y.map (fun z : (α × β) × Nat => z.1)) :: L) w1 := by
      rcases hw1 with rfl | rfl
      · exact hs
      · exact hs.drew
    have hheap : w1.heap = w.heap := by rcases hw1 with rfl | rfl <;> rfl
    have hst : St w0 (MapIt ek ev r it m (y.map (fun z : (α × β) × Nat => z.1) ++ [(z.1.1, z.1.2)]) :: L) (setBlock w1 it (.mapIter (some r) clk ((y.map (fun z : (α × β) × Nat => z.2)).toArray.push z.2) clk)) := by
      refine St.step hs1 rfl rfl rfl (by simp [setBlock]) (fun b hb hn => ?_) ⟨hne, x, y ++ [z], clk, hx.mono ?_, ?_, by simp, ?_, ?_⟩ (fun b hb => ⟨.inl hb, ?_⟩)
      · simp only [setBlock, Array.getElem?_setIfInBounds]
        rw [if_neg (fun e => hn (.inr e.symm))]
      · simp only [setBlock, Array.getElem?_setIfInBounds, hheap]
        rw [if_neg (fun e => hne e.symm)]
      · simp [setBlock, hheap, hlti]
      · intro q hq
        rcases List.mem_append.1 hq with hq | hq
        · exact hyx q hq
        · simp only [List.mem_singleton] at hq; subst hq; exact hz
      · rw [List.map_append, List.nodup_append]
        refine ⟨hyn, by simp, fun a ha b hb e => ?_⟩
        simp only [List.map_cons, List.map_nil, List.mem_singleton] at hb
        subst hb e
        exact hzy ha
      · have hb' : b = r ∨ b = it := hb
        rcases hb' with rfl | rfl <;> simp [setBlock, hheap, hltr, hlti]
    have hlen : (y.map (fun z : (α × β) × Nat => z.1)).length < m.length := by
      rw [← hmeq, List.length_map, List.length_map]
      have hnd : ((y ++ [z]).map (fun z : (α × β) × Nat => z.2)).Nodup := by
        rw [List.map_append, List.nodup_append]
        refine ⟨hyn, by simp, fun a ha b hb e => ?_⟩
        simp only [List.map_cons, List.map_nil, List.mem_singleton] at hb
        subst hb e
        exact hzy ha
      have hsub : ∀ q ∈ y ++ [z], q ∈ x := by
        intro q hq
        rcases List.mem_append.1 hq with hq | hq
        · exact hyx q hq
        · simp only [List.mem_singleton] at hq; subst hq; exact hz
      have := nodup_length (nodup_of_map hnd) hsub
      simp at this
      omega
    obtain ⟨k1, k2⟩ := h1 z.1.1 z.1.2 _ (by rw [← hmeq]; exact List.mem_map.2 ⟨z, hz, rfl⟩) hlen hst
    exact GoR.run ho hw _ _ (fun a hf => .inl (hrun _ _ hr a hf)) k1 k2

/-- the pair that was met last -/
theorem GoR.entry {i : Nat} {o : Oper} {xo : Operand} (ho : l[i]? = some o) (hop : o.op = .entry xo) (hw : wantE l.toArray S o = some true) {r it : Nat} (ha : S.op xo = some (.pointer (some ⟨it, 0, none⟩))) {m done : List (α × β)} {k : α} {v : β} (hs : St w0 L w) (j : Nat) (hj : L[j]? = some (MapIt ek ev r it m (done ++ [(k, v)])))
    (h : GoR P l M R0 Kk N ((i, [.holds (MapIt ek ev r it m (done ++ [(k, v)])).holds]) :: A) rest (S.setO o.dst (.tuple #[ek k, ev v])) w) : GoR P l M R0 Kk N A (.rd i rest) S w := by
  refine GoR.read ho hw [.holds (MapIt ek ev r it m (done ++ [(k, v)])).holds] _ (fun a w' hf hn => ?_) ⟨hs.at_ j hj, trivial⟩ h
  obtain ⟨hne, x, y, clk, hx, hit, hd, hyx, hyn⟩ := hn.1
  obtain ⟨y', z, rfl⟩ : ∃ y' z, y = y' ++ [z] := by
    rcases List.eq_nil_or_concat y with rfl | ⟨y', z, e⟩
    · simp at hd
    · exact ⟨y', z, by simpa using e⟩
  have hz : z.1 = (k, v) := by
    rw [List.map_append] at hd
    have := (List.append_inj' hd rfl).2
    simpa using this
  have he := run_entry_at (P := P) w' it r clk (y'.map (fun z : (α × β) × Nat => z.2)).toArray (esOf ek ev x) clk { key := ek z.1.1, val := ev z.1.2, born := z.2 } (by simpa using hit) hx.blk
    (by simp only [esOf, List.mem_map]; exact ⟨z, hyx z (by simp), rfl⟩) (by simpa [esOf, Function.comp_def] using hx.once)
  have h1' := hf.op ha
  generalize a.eval = ρ at h1' ⊢
  simp only [execOp, hop, h1', Sem.run_bind, he, Result.andThen_ok, hz]
  rfl
end

/-! ### Small words for the printed walks -/
theorem okh {w : World} {p : World → Prop} {l : List Need} (h : p w) (t : okAll w l) : okAll w (.holds p :: l) := ⟨h, t⟩
theorem seq (x y : ByteArray) : Value.bool (x.toList == y.toList) = Value.bool (decide (x = y)) := congrArg _ (strEq x y)
theorem sne (x y : ByteArray) : Value.bool (!(x.toList == y.toList)) = Value.bool (!(decide (x = y))) := congrArg (fun b => Value.bool (!b)) (strEq x y)
theorem sle (x y : ByteArray) : Value.bool (Op.bytesLess x.toList y.toList || (x.toList == y.toList)) = Value.bool (slt x y || decide (x = y)) := congrArg (fun b => Value.bool (slt x y || b)) (strEq x y)
theorem sgt (x y : ByteArray) : Value.bool (!(Op.bytesLess x.toList y.toList || (x.toList == y.toList))) = Value.bool (!(slt x y || decide (x = y))) := congrArg (fun b => Value.bool (!(slt x y || b))) (strEq x y)
theorem lookOk {β : Type} (ev : β → Value) (o : Option β) (z : β) : (if true = true then Value.tuple #[(o.map ev).getD (ev z), .bool o.isSome] else (o.map ev).getD (ev z)) = Value.tuple #[ev (o.getD z), .bool o.isSome] := by cases o <;> rfl
theorem lookV {β : Type} (ev : β → Value) (o : Option β) (z : β) : (if false = true then Value.tuple #[(o.map ev).getD (ev z), .bool o.isSome] else (o.map ev).getD (ev z)) = ev (o.getD z) := by cases o <;> rfl
theorem aggEq {x r : Bool} (h : x = r) : (if true = true then x else !x) = r := h
theorem aggNe {x r : Bool} (h : x = r) : (if false = true then x else !x) = !r := by rw [h]; rfl
theorem RowsAt.at0 {w : World} {b off n size : Nat} {cell : Nat → Array Value} (h : RowsAt w (some ⟨b, off, none⟩) n size cell) {k j : Nat} (hk : k < n) (hj : j < size) {v : Value} (hv : (cell k)[j]? = some v) : w.cell? ⟨b, off + k * size + j, none⟩ = some v := (h.at hk hj).trans hv
theorem RowsAt.all0 {w : World} {b off n size : Nat} {cell : Nat → Array Value} (h : RowsAt w (some ⟨b, off, none⟩) n size cell) {k : Nat} (hk : k < n) {vs : Array Value} (ho : vs.size ≤ size) (hv : (cell k).extract 0 vs.size = vs) :
    ∀ i, i < vs.size → w.cell? ((Addr.mk b (off + k * size) none).add i) = vs[i]? := by
  have := RowsAt.all h hk (o := 0) (vs := vs) (by omega) (by simpa using hv)
  simpa using this
theorem St.slNone {α : Type} {w0 w : World} {L : List Asn} {ad : Option Addr} {c size : Nat} {e : TypeId} {f : α → Array Value} {l : List α} (hs : St w0 L w) (i : Nat) (hi : L[i]? = some (Sl ad c e size f l)) : ad = none → c = 0 := by
  rintro rfl
  have h : w.ownsRow 0 e size (.slice none l.length c) l.length (l.flatMap fun x => (f x).toList) := hs.at_ i hi
  rcases h.2 with ⟨h1, h2⟩ | ⟨g, cap, cur, hv, _⟩
  · simp only [Value.slice.injEq] at h1
    exact h1.2.2
  · simp at hv
theorem St.drop2 {w0 w : World} {A B : Asn} {L L' : List Asn} (h : St w0 (A :: B :: L) w) (n : Nat) (hL : L.drop n = L' := by rfl) : St w0 (A :: B :: L') w := by
  subst hL
  exact h.sub (((List.drop_sublist n L).cons_cons B).cons_cons A)
end Go.Sx
