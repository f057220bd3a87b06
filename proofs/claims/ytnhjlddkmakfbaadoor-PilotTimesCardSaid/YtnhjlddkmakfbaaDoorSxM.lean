/-
  Sx, part M: how long the strings of flat arguments are. Proved once, for any program. Conditions: none beside each theorem's own.
-/
import Derived.Test.YtnhjlddkmakfbaaDoorSxF
import Derived.SizedLaws
namespace Go.Sx
open Go.RowKit Go.ChangeShapes Go.WideShapes Go.Deep
set_option linter.unusedVariables false
set_option linter.unusedSimpArgs false

section
variable {H : Type} {enc : TypeId × Value → H} {P : Program} {w : World} {base : Nat} {spare : Nat → Bool} {held : Bool}

theorem weights_mem_all {e : TypeId} : ∀ {ds : List (DataW H)} {d : DataW H}, d ∈ ds → ∀ n ∈ d.weights P e, n ∈ DataW.weightsAll P e ds
  | d0 :: ds, d, hd, n, hn => by
    simp only [DataW.weightsAll, List.mem_append]
    rcases List.mem_cons.1 hd with rfl | hd
    · exact .inl hn
    · exact .inr (weights_mem_all hd n hn)
  | [], _, hd, _, _ => by cases hd

theorem flat_wt : ∀ (m : Nat) (t : TypeId) (fuel : Nat) (cs : List Value) (x : DataW H × List MemPlace) (ks : List FK), flatK P m t = some ks → DataW.trod enc P w base spare held fuel t cs = some x → ∀ s, Value.string s ∈ cs → s.size ∈ x.1.weights P t := by
  intro m
  induction m with
  | zero => intro t fuel cs x ks h; cases h
  | succ m ih =>
    intro t fuel cs x ks hk h s hs
    unfold flatK at hk
    cases hu : P.underlying t with
    | none => rw [hu] at hk; cases hk
    | some d =>
      rw [hu] at hk
      cases d with
      | bool =>
        cases fuel with
        | zero => simp [DataW.trod] at h
        | succ fuel =>
          unfold DataW.trod at h
          rw [hu] at h
          split at h <;> simp_all
      | int k =>
        cases fuel with
        | zero => simp [DataW.trod] at h
        | succ fuel =>
          unfold DataW.trod at h
          rw [hu] at h
          split at h <;> simp_all
      | string =>
        cases fuel with
        | zero => simp [DataW.trod] at h
        | succ fuel =>
          unfold DataW.trod at h
          rw [hu] at h
          split at h <;> simp_all
          obtain ⟨-, rfl⟩ := h
          simp [DataW.weights, ByteArray.toList_eq]
      | struct fs =>
        simp only at hk
        obtain ⟨xs, n, _, hx, hlen, hxl, hget⟩ := DataW.trod_struct hu h
        have hin : ∀ (i : Nat) (f : Field), fs[i]? = some f → (∃ k1, flatK P m f.type = some k1) → Value.string s ∈ (cs.drop f.offset).take (P.cellsOf f.type) → s.size ∈ x.1.weights P t := by
          intro i f hfi ⟨k1, hfk⟩ hm
          have h1 := hget i f hfi
          have hi : i < xs.length := by rw [hxl]; exact (Array.getElem?_eq_some_iff.1 hfi).1
          rw [List.getElem?_eq_getElem hi] at h1
          have h2 := ih _ _ _ _ _ hfk h1 s hm
          rw [hx]
          simp only [DataW.weights, hu]
          refine DataW.weights_mem_each (j := i) (t := f.type) (d := xs[i].1) ?_ ?_ _ h2
          · simp only [List.getElem?_map, Array.getElem?_toList, hfi, Option.map_some]
          · simp only [List.getElem?_map, List.getElem?_eq_getElem hi, Option.map_some]
        have key : ∀ (l : List Field) (off i : Nat) (ks : List FK), (∀ j f, l[j]? = some f → fs[i + j]? = some f) → flatFs (flatK P m) P l off (P.cellsOf t) = some ks → Value.string s ∈ cs.drop off → s.size ∈ x.1.weights P t := by
          intro l
          induction l with
          | nil =>
            intro off i ks _ hf hm
            simp only [flatFs] at hf
            split at hf
            · rename_i he
              have : off = P.cellsOf t := by simpa using he
              rw [List.drop_eq_nil_of_le (by omega)] at hm
              cases hm
            · cases hf
          | cons f l ihl =>
            intro off i ks hsub hf hm
            simp only [flatFs] at hf
            split at hf
            · rename_i he
              have he : f.offset = off := by simpa using he
              cases hfk : flatK P m f.type with
              | none => rw [hfk] at hf; cases hf
              | some k1 =>
                rw [hfk] at hf
                simp only at hf
                split at hf
                · rename_i hl1
                  have hl1 : k1.length = P.cellsOf f.type := by simpa using hl1
                  cases hr : flatFs (flatK P m) P l (off + k1.length) (P.cellsOf t) with
                  | none => rw [hr] at hf; cases hf
                  | some r =>
                    have hfi : fs[i]? = some f := by simpa using hsub 0 f rfl
                    have h4 : cs.drop off = (cs.drop off).take (P.cellsOf f.type) ++ cs.drop (off + k1.length) := by
                      rw [hl1, ← List.drop_drop, List.take_append_drop]
                    rw [h4] at hm
                    rcases List.mem_append.1 hm with hm | hm
                    · exact hin i f hfi ⟨k1, hfk⟩ (by rw [he]; exact hm)
                    · exact ihl (off + k1.length) (i + 1) r (fun j g hg => by rw [Nat.add_assoc, Nat.add_comm 1 j]; exact hsub (j + 1) g (by simpa using hg)) hr hm
                · cases hf
            · cases hf
        exact key fs.toList 0 0 ks (fun j f hj => by simpa using hj) hk (by simpa using hs)
      | array n e =>
        simp only at hk
        cases hfk : flatK P m e with
        | none => rw [hfk] at hk; cases hk
        | some k1 =>
          rw [hfk] at hk
          simp only at hk
          split at hk
          · rename_i hc
            simp only [Bool.and_eq_true, beq_iff_eq] at hc
            obtain ⟨xs, q, _, hx, hlen, hxl, hget⟩ := DataW.trod_array hu h
            have key : ∀ (r i : Nat), i + r = n → Value.string s ∈ cs.drop (i * P.cellsOf e) → s.size ∈ x.1.weights P t := by
              intro r
              induction r with
              | zero =>
                intro i hi hm
                have : cs.drop (i * P.cellsOf e) = [] := List.drop_eq_nil_of_le (by rw [hlen, ← hc.2, hc.1, ← hi]; simp)
                rw [this] at hm
                cases hm
              | succ r ihr =>
                intro i hi hm
                have h4 : cs.drop (i * P.cellsOf e) = (cs.drop (i * P.cellsOf e)).take (P.cellsOf e) ++ cs.drop ((i + 1) * P.cellsOf e) := by
                  rw [show (i + 1) * P.cellsOf e = i * P.cellsOf e + P.cellsOf e from by rw [Nat.add_mul, Nat.one_mul], ← List.drop_drop, List.take_append_drop]
                rw [h4] at hm
                rcases List.mem_append.1 hm with hm | hm
                · have h1 := hget i (by omega)
                  rw [List.getElem?_eq_getElem (by omega)] at h1
                  have h2 := ih _ _ _ _ _ hfk h1 s hm
                  rw [hx]
                  simp only [DataW.weights, hu]
                  exact weights_mem_all (List.mem_map.2 ⟨xs[i]'(by omega), List.getElem_mem _, rfl⟩) _ h2
                · exact ihr (i + 1) (by omega) hm
            exact key n 0 (by omega) (by simpa using hs)
          · cases hk
      | _ => cases hk

/-- A struct that came in, flat. -/
theorem open_struct {r : Reach} {b0 : Nat} {t : TypeId} {m : Nat} {ks : List FK} {fs : Array Field} {v : Value} {d : DataW H} {ps : List MemPlace} (ht : P.underlying t = some (.struct fs)) (hk : flatK P m t = some ks)
    (hv : Value.okWide P w r b0 t v) (h : DataW.Trod enc P w base spare held t v d ps) : ∃ cs : Array Value, v = .agg cs ∧ fitsAll ks cs.toList ∧ ∀ s, Value.string s ∈ cs.toList → s.size ∈ d.weights P t := by
  obtain ⟨cs, rfl, hsz⟩ := okWide_struct ht hv
  obtain ⟨fuel, hf⟩ := h
  exact ⟨cs, rfl, flat_fits _ _ _ _ _ _ hk hf, flat_wt _ _ _ _ _ _ hk hf⟩

theorem sized_mem {ts : List TypeId} {ds : List (DataW H)} (h : (DataW.weightsEach P ts ds).all (· ≤ reachBytes) = true) {j : Nat} {t : TypeId} {d : DataW H} (ht : ts[j]? = some t) (hd : ds[j]? = some d) {n : Nat} (hn : n ∈ d.weights P t) : n ≤ 140737488351232 := by
  have := List.all_eq_true.1 h _ (DataW.weights_mem_each ht hd n hn)
  have h2 : n ≤ reachBytes := by simpa using this
  exact h2
theorem fitsAll_cons {k : FK} {ks : List FK} : ∀ {vs : List Value}, fitsAll (k :: ks) vs → ∃ v rest, vs = v :: rest ∧ fitsAll [k] [v] ∧ fitsAll ks rest
  | [], h => h.elim
  | v :: rest, h => ⟨v, rest, rfl, ⟨h.1, trivial⟩, h.2⟩
theorem fitsAll_nil : ∀ {vs : List Value}, fitsAll [] vs → vs = []
  | [], _ => rfl
  | _ :: _, h => h.elim

/-- A slice that came in, its elements flat: each element's cells, of the kinds ks; how long its strings are, and how much it takes. -/
theorem open_flat_w {t e : TypeId} {m : Nat} {ks : List FK} (ht : P.underlying t = some (.slice e)) (hk : flatK P m e = some ks) (hsz : P.cellsOf e = ks.length) (h0 : 0 < ks.length) {ad : Option Addr} {n c : Nat} {d : DataW H} {ps : List MemPlace}
    (h : DataW.Trod enc P w base spare held t (.slice ad n c) d ps) :
    n ≤ c ∧ c ≤ maxLen ∧ (ad = none → c = 0) ∧ ((n = 0) ∨ ∃ q ∈ d.weights P t, n * P.bytesOf e ≤ q) ∧ ∃ cell : Nat → Array Value, RowsAt w ad n ks.length cell ∧ ∀ k, k < n → fitsAll ks (cell k).toList ∧ ∀ s, Value.string s ∈ (cell k).toList → s.size ∈ d.weights P t := by
  obtain ⟨fuel, hf⟩ := h
  rcases open_slice ht hf with ⟨hcs, _⟩ | ⟨a, len, cap, mm, nn, D, Pl, hcs, _, hl, hm, hmm, hd, hi⟩
  · simp [Value.cells] at hcs
    obtain ⟨rfl, rfl, rfl⟩ := hcs
    exact ⟨Nat.le_refl _, Nat.zero_le _, fun _ => rfl, .inl rfl, fun _ => #[], fun h => absurd h (by omega), fun k hk => absurd hk (by omega)⟩
  · simp [Value.cells] at hcs
    obtain ⟨rfl, rfl, rfl⟩ := hcs
    simp only [Prod.mk.injEq] at hd
    have hle : n ≤ mm := by rw [hmm]; split <;> omega
    have hw1 : (n + (mm - n)) * P.bytesOf e ∈ d.weights P t := by
      rw [hd.1]
      simp only [DataW.weights, ht, List.length_map, List.length_range]
      exact List.mem_cons_self ..
    have hw2 : ∀ k, k < n → ∀ x ∈ (D k).weights P e, x ∈ d.weights P t := by
      intro k hk x hx
      rw [hd.1]
      simp only [DataW.weights, ht]
      refine List.mem_cons_of_mem _ (List.mem_append.2 (.inl (weights_mem_all (d := D k) ?_ _ hx)))
      exact List.mem_map.2 ⟨k, List.mem_range.2 hk, rfl⟩
    have H : ∀ k, ∃ cs' : List Value, k < n → (w.cells? base (a.add (k * P.cellsOf e)) (P.cellsOf e) = some cs' ∧ fitsAll ks cs' ∧ ∀ s, Value.string s ∈ cs' → s.size ∈ d.weights P t) := fun k => by
      by_cases hk' : k < n
      · obtain ⟨cs', h1, h2⟩ := hi k (by omega)
        exact ⟨cs', fun _ => ⟨h1, flat_fits _ _ _ _ _ _ hk h2, fun s hs => hw2 k hk' _ (flat_wt _ _ _ _ _ _ hk h2 s hs)⟩⟩
      · exact ⟨[], fun h => absurd h hk'⟩
    obtain ⟨F, hF⟩ := Classical.axiomOfChoice H
    refine ⟨by omega, by omega, (fun h => nomatch h), .inr ⟨_, hw1, Nat.mul_le_mul_right _ (by omega)⟩, fun k => (F k).toArray, fun hn => ?_, fun k hk' => by simpa using (hF k hk').2⟩
    have hsp : a.spot = none := by
      obtain ⟨h1, h2, _⟩ := hF 0 hn
      obtain ⟨_, h3, h4⟩ := World.cells?_some h1
      have h5 := h4 0 (by rw [hsz]; exact h0)
      simp only [Nat.zero_mul, Addr.add, if_true] at h5
      cases hs : a.spot with
      | none => rfl
      | some q =>
        exfalso
        rw [List.getElem?_eq_getElem (by rw [h3, hsz]; exact h0)] at h5
        simp only [World.cell?, hs] at h5
        split at h5 <;> simp at h5
    obtain ⟨b, off, sp⟩ := a
    simp only at hsp
    subst hsp
    refine ⟨b, off, rfl, fun k hk' j hj => ?_⟩
    obtain ⟨h1, h2, _⟩ := hF k hk'
    obtain ⟨_, h3, h4⟩ := World.cells?_some h1
    have h5 := h4 j (by omega)
    rw [add_mk, add_mk, hsz] at h5
    rw [h5]
    simp

/-- A slice that came in, told as a list of structures. -/
theorem list_of_cells {α : Type} (dd : α) {f : α → Array Value} {size n : Nat} {ad : Option Addr} {cell : Nat → Array Value} (Q : α → Prop) (hr : RowsAt w ad n size cell) (hc : ∀ k, k < n → ∃ x, Q x ∧ cell k = f x) :
    ∃ l : List α, l.length = n ∧ (∀ x ∈ l, Q x) ∧ RowsAt w ad l.length size (fun k => f (l.getD k dd)) := by
  have H : ∀ k, ∃ x : α, k < n → (Q x ∧ cell k = f x) := fun k => by
    by_cases h : k < n
    · obtain ⟨x, hx⟩ := hc k h
      exact ⟨x, fun _ => hx⟩
    · exact ⟨dd, fun h' => absurd h' h⟩
  obtain ⟨F, hF⟩ := Classical.axiomOfChoice H
  refine ⟨(List.range n).map F, by simp, fun x hx => ?_, ?_⟩
  · obtain ⟨k, hk, rfl⟩ := List.mem_map.1 hx
    exact (hF k (List.mem_range.1 hk)).1
  · rw [List.length_map, List.length_range]
    intro hn
    obtain ⟨b, off, h1, h2⟩ := hr hn
    refine ⟨b, off, h1, fun k hk j hj => ?_⟩
    rw [h2 k hk j hj, (hF k hk).2]
    congr 2
    rw [List.getD_eq_getElem?_getD, List.getElem?_map, List.getElem?_range hk]
    rfl

end
end Go.Sx
