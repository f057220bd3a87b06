/-
  Sx, part P: an argument of flat data in which slices may stand (their elements again so). Proved once, for any program. Conditions: none beside each theorem's own.
-/
import Derived.Test.YtapmfbjlhjekiaaGreatDoorSxT
namespace Go.Sx
open Go.RowKit Go.ChangeShapes Go.WideShapes Go.Deep
set_option linter.unusedVariables false
set_option linter.unusedSimpArgs false

inductive GK where
  | int (k : IntKind)
  | bool
  | str
  | sl (t : TypeId)

def GK.fits (T : TypeId → Value → Prop) : GK → Value → Prop
  | .int k, v => ∃ n, v = .int k n ∧ (Lit.int k n).wf = true
  | .bool, v => ∃ b, v = .bool b
  | .str, v => ∃ s, v = .string s ∧ s.size ≤ maxLen
  | .sl t, v => ∃ ad n c, v = .slice ad n c ∧ T t v

def gfits (T : TypeId → Value → Prop) : List GK → List Value → Prop
  | [], [] => True
  | k :: ks, v :: vs => k.fits T v ∧ gfits T ks vs
  | _, _ => False

theorem gfits_append {T : TypeId → Value → Prop} : ∀ {ks ks' : List GK} {vs vs' : List Value}, gfits T ks vs → gfits T ks' vs' → gfits T (ks ++ ks') (vs ++ vs')
  | [], _, [], _, _, h => h
  | [], _, _ :: _, _, h, _ => h.elim
  | _ :: _, _, [], _, h, _ => h.elim
  | _ :: _, _, _ :: _, _, h, h' => ⟨h.1, gfits_append h.2 h'⟩

theorem gfits_length {T : TypeId → Value → Prop} : ∀ {ks : List GK} {vs : List Value}, gfits T ks vs → vs.length = ks.length
  | [], [], _ => rfl
  | [], _ :: _, h => h.elim
  | _ :: _, [], h => h.elim
  | _ :: _, _ :: _, h => by simp [gfits_length h.2]

def gflatFs (f : TypeId → Option (List GK)) (P : Program) : List Field → Nat → Nat → Option (List GK)
  | [], off, tot => if off == tot then some [] else none
  | fd :: fs, off, tot =>
    if fd.offset == off then
      match f fd.type with
      | some ks => if ks.length == P.cellsOf fd.type then (match gflatFs f P fs (off + ks.length) tot with | some r => some (ks ++ r) | none => none) else none
      | none => none
    else none

def gflatK (P : Program) : Nat → TypeId → Option (List GK)
  | 0, _ => none
  | m + 1, t =>
    match P.underlying t with
    | some .bool => some [.bool]
    | some (.int k) => some [.int k]
    | some .string => some [.str]
    | some (.slice _) => some [.sl t]
    | some (.struct fs) => gflatFs (gflatK P m) P fs.toList 0 (P.cellsOf t)
    | some (.array n e) =>
      match gflatK P m e with
      | some ks => if ks.length == P.cellsOf e && n * ks.length == P.cellsOf t then some (List.replicate n ks).flatten else none
      | none => none
    | _ => none

section
variable {H : Type} {enc : TypeId × Value → H} {P : Program} {w : World} {base : Nat} {spare : Nat → Bool} {held : Bool}

/-- What a slice that came in holds is read, too; and what it weighs is below. -/
def SlT (enc : TypeId × Value → H) (P : Program) (w : World) (base : Nat) (spare : Nat → Bool) (held : Bool) (t : TypeId) (v : Value) : Prop := ∃ d ps, DataW.Trod enc P w base spare held t v d ps

theorem gflat_fits : ∀ (m : Nat) (t : TypeId) (fuel : Nat) (cs : List Value) (x : DataW H × List MemPlace) (ks : List GK), gflatK P m t = some ks → DataW.trod enc P w base spare held fuel t cs = some x → gfits (SlT enc P w base spare held) ks cs := by
  intro m
  induction m with
  | zero => intro t fuel cs x ks h; cases h
  | succ m ih =>
    intro t fuel cs x ks hk h
    unfold gflatK at hk
    cases hu : P.underlying t with
    | none => rw [hu] at hk; cases hk
    | some d =>
      rw [hu] at hk
      cases d with
      | bool =>
        simp only [Option.some.injEq] at hk
        subst hk
        cases fuel with
        | zero => simp [DataW.trod] at h
        | succ fuel =>
          unfold DataW.trod at h
          rw [hu] at h
          split at h <;> simp_all
          exact ⟨⟨_, rfl⟩, trivial⟩
      | int k =>
        simp only [Option.some.injEq] at hk
        subst hk
        cases fuel with
        | zero => simp [DataW.trod] at h
        | succ fuel =>
          unfold DataW.trod at h
          rw [hu] at h
          split at h <;> simp_all
          exact ⟨⟨_, rfl, h.1.2⟩, trivial⟩
      | string =>
        simp only [Option.some.injEq] at hk
        subst hk
        cases fuel with
        | zero => simp [DataW.trod] at h
        | succ fuel =>
          unfold DataW.trod at h
          rw [hu] at h
          split at h <;> simp_all
          exact ⟨⟨_, rfl, h.1⟩, trivial⟩
      | slice e =>
        simp only [Option.some.injEq] at hk
        subst hk
        cases fuel with
        | zero => simp [DataW.trod] at h
        | succ fuel =>
          have h0 := h
          rcases open_slice hu h with ⟨hcs, _⟩ | ⟨a, len, cap, mm, nn, D, Pl, hcs, _⟩
          · subst hcs
            exact ⟨⟨_, _, _, rfl, _, _, fuel + 1, by simpa [Value.cells] using h0⟩, trivial⟩
          · subst hcs
            exact ⟨⟨_, _, _, rfl, _, _, fuel + 1, by simpa [Value.cells] using h0⟩, trivial⟩
      | struct fs =>
        simp only at hk
        obtain ⟨xs, n, _, _, hlen, hxl, hget⟩ := DataW.trod_struct hu h
        have key : ∀ (l : List Field) (off i : Nat) (ks : List GK), (∀ j f, l[j]? = some f → fs[i + j]? = some f) → gflatFs (gflatK P m) P l off (P.cellsOf t) = some ks → gfits (SlT enc P w base spare held) ks (cs.drop off) := by
          intro l
          induction l with
          | nil =>
            intro off i ks _ hf
            simp only [gflatFs] at hf
            split at hf
            · rename_i he
              simp only [Option.some.injEq] at hf
              subst hf
              have : off = P.cellsOf t := by simpa using he
              rw [List.drop_eq_nil_of_le (by omega)]
              trivial
            · cases hf
          | cons f l ihl =>
            intro off i ks hsub hf
            simp only [gflatFs] at hf
            split at hf
            · rename_i he
              have he : f.offset = off := by simpa using he
              cases hfk : gflatK P m f.type with
              | none => rw [hfk] at hf; cases hf
              | some k1 =>
                rw [hfk] at hf
                simp only at hf
                split at hf
                · rename_i hl1
                  have hl1 : k1.length = P.cellsOf f.type := by simpa using hl1
                  cases hr : gflatFs (gflatK P m) P l (off + k1.length) (P.cellsOf t) with
                  | none => rw [hr] at hf; cases hf
                  | some r =>
                    rw [hr] at hf
                    simp only [Option.some.injEq] at hf
                    subst hf
                    have hfi : fs[i]? = some f := by simpa using hsub 0 f rfl
                    have h1 := hget i f hfi
                    have hi : i < xs.length := by rw [hxl]; exact (Array.getElem?_eq_some_iff.1 hfi).1
                    rw [List.getElem?_eq_getElem hi] at h1
                    have h2 := ih _ _ _ _ _ hfk h1
                    rw [he] at h2
                    have h3 := ihl (off + k1.length) (i + 1) r (fun j g hg => by rw [Nat.add_assoc, Nat.add_comm 1 j]; exact hsub (j + 1) g (by simpa using hg)) hr
                    have h4 : cs.drop off = (cs.drop off).take (P.cellsOf f.type) ++ cs.drop (off + k1.length) := by
                      rw [hl1, ← List.drop_drop, List.take_append_drop]
                    rw [h4]
                    exact gfits_append h2 h3
                · cases hf
            · cases hf
        simpa using key fs.toList 0 0 ks (fun j f hj => by simpa using hj) hk
      | array n e =>
        simp only at hk
        cases hfk : gflatK P m e with
        | none => rw [hfk] at hk; cases hk
        | some k1 =>
          rw [hfk] at hk
          simp only at hk
          split at hk
          · rename_i hc
            simp only [Bool.and_eq_true, beq_iff_eq] at hc
            simp only [Option.some.injEq] at hk
            subst hk
            obtain ⟨xs, q, _, _, hlen, hxl, hget⟩ := DataW.trod_array hu h
            have key : ∀ (r i : Nat), i + r = n → gfits (SlT enc P w base spare held) (List.replicate r k1).flatten (cs.drop (i * P.cellsOf e)) := by
              intro r
              induction r with
              | zero =>
                intro i hi
                have : cs.drop (i * P.cellsOf e) = [] := List.drop_eq_nil_of_le (by rw [hlen, ← hc.2, hc.1, ← hi]; simp)
                rw [this]
                trivial
              | succ r ihr =>
                intro i hi
                have h1 := hget i (by omega)
                rw [List.getElem?_eq_getElem (by omega)] at h1
                have h2 := ih _ _ _ _ _ hfk h1
                have h3 := ihr (i + 1) (by omega)
                have h4 : cs.drop (i * P.cellsOf e) = (cs.drop (i * P.cellsOf e)).take (P.cellsOf e) ++ cs.drop ((i + 1) * P.cellsOf e) := by
                  rw [show (i + 1) * P.cellsOf e = i * P.cellsOf e + P.cellsOf e from by rw [Nat.add_mul, Nat.one_mul], ← List.drop_drop, List.take_append_drop]
                rw [h4, List.replicate_succ, List.flatten_cons]
                exact gfits_append h2 h3
            simpa using key n 0 (by omega)
          · cases hk
      | _ => cases hk

theorem gflat_wt : ∀ (m : Nat) (t : TypeId) (fuel : Nat) (cs : List Value) (x : DataW H × List MemPlace) (ks : List GK), gflatK P m t = some ks → DataW.trod enc P w base spare held fuel t cs = some x → ∀ s, Value.string s ∈ cs → s.size ∈ x.1.weights P t := by
  intro m
  induction m with
  | zero => intro t fuel cs x ks h; cases h
  | succ m ih =>
    intro t fuel cs x ks hk h s hs
    unfold gflatK at hk
    cases hu : P.underlying t with
    | none => rw [hu] at hk; cases hk
    | some d =>
      rw [hu] at hk
      cases d with
      | bool =>
        cases fuel with
        | zero => simp [DataW.trod] at h
        | succ fuel =>
          unfold DataW.trod at h
          rw [hu] at h
          split at h <;> simp_all
      | int k =>
        cases fuel with
        | zero => simp [DataW.trod] at h
        | succ fuel =>
          unfold DataW.trod at h
          rw [hu] at h
          split at h <;> simp_all
      | string =>
        cases fuel with
        | zero => simp [DataW.trod] at h
        | succ fuel =>
          unfold DataW.trod at h
          rw [hu] at h
          split at h <;> simp_all
          obtain ⟨-, rfl⟩ := h
          simp [DataW.weights, ByteArray.toList_eq]
      | slice e =>
        cases fuel with
        | zero => simp [DataW.trod] at h
        | succ fuel =>
          rcases open_slice hu h with ⟨hcs, _⟩ | ⟨a, len, cap, mm, nn, D, Pl, hcs, _⟩
          · subst hcs; simp at hs
          · subst hcs; simp at hs
      | struct fs =>
        simp only at hk
        obtain ⟨xs, n, _, hx, hlen, hxl, hget⟩ := DataW.trod_struct hu h
        have hin : ∀ (i : Nat) (f : Field), fs[i]? = some f → (∃ k1, gflatK P m f.type = some k1) → Value.string s ∈ (cs.drop f.offset).take (P.cellsOf f.type) → s.size ∈ x.1.weights P t := by
          intro i f hfi ⟨k1, hfk⟩ hm
          have h1 := hget i f hfi
          have hi : i < xs.length := by rw [hxl]; exact (Array.getElem?_eq_some_iff.1 hfi).1
          rw [List.getElem?_eq_getElem hi] at h1
          have h2 := ih _ _ _ _ _ hfk h1 s hm
          rw [hx]
          simp only [DataW.weights, hu]
          refine DataW.weights_mem_each (j := i) (t := f.type) (d := xs[i].1) ?_ ?_ _ h2
          · simp only [List.getElem?_map, Array.getElem?_toList, hfi, Option.map_some]
          · simp only [List.getElem?_map, List.getElem?_eq_getElem hi, Option.map_some]
        have key : ∀ (l : List Field) (off i : Nat) (ks : List GK), (∀ j f, l[j]? = some f → fs[i + j]? = some f) → gflatFs (gflatK P m) P l off (P.cellsOf t) = some ks → Value.string s ∈ cs.drop off → s.size ∈ x.1.weights P t := by
          intro l
          induction l with
          | nil =>
            intro off i ks _ hf hm
            simp only [gflatFs] at hf
            split at hf
            · rename_i he
              have : off = P.cellsOf t := by simpa using he
              rw [List.drop_eq_nil_of_le (by omega)] at hm
              cases hm
            · cases hf
          | cons f l ihl =>
            intro off i ks hsub hf hm
            simp only [gflatFs] at hf
            split at hf
            · rename_i he
              have he : f.offset = off := by simpa using he
              cases hfk : gflatK P m f.type with
              | none => rw [hfk] at hf; cases hf
              | some k1 =>
                rw [hfk] at hf
                simp only at hf
                split at hf
                · rename_i hl1
                  have hl1 : k1.length = P.cellsOf f.type := by simpa using hl1
                  cases hr : gflatFs (gflatK P m) P l (off + k1.length) (P.cellsOf t) with
                  | none => rw [hr] at hf; cases hf
                  | some r =>
                    have hfi : fs[i]? = some f := by simpa using hsub 0 f rfl
                    have h4 : cs.drop off = (cs.drop off).take (P.cellsOf f.type) ++ cs.drop (off + k1.length) := by
                      rw [hl1, ← List.drop_drop, List.take_append_drop]
                    rw [h4] at hm
                    rcases List.mem_append.1 hm with hm | hm
                    · exact hin i f hfi ⟨k1, hfk⟩ (by rw [he]; exact hm)
                    · exact ihl (off + k1.length) (i + 1) r (fun j g hg => by rw [Nat.add_assoc, Nat.add_comm 1 j]; exact hsub (j + 1) g (by simpa using hg)) hr hm
                · cases hf
            · cases hf
        exact key fs.toList 0 0 ks (fun j f hj => by simpa using hj) hk (by simpa using hs)
      | array n e =>
        simp only at hk
        cases hfk : gflatK P m e with
        | none => rw [hfk] at hk; cases hk
        | some k1 =>
          rw [hfk] at hk
          simp only at hk
          split at hk
          · rename_i hc
            simp only [Bool.and_eq_true, beq_iff_eq] at hc
            obtain ⟨xs, q, _, hx, hlen, hxl, hget⟩ := DataW.trod_array hu h
            have key : ∀ (r i : Nat), i + r = n → Value.string s ∈ cs.drop (i * P.cellsOf e) → s.size ∈ x.1.weights P t := by
              intro r
              induction r with
              | zero =>
                intro i hi hm
                have : cs.drop (i * P.cellsOf e) = [] := List.drop_eq_nil_of_le (by rw [hlen, ← hc.2, hc.1, ← hi]; simp)
                rw [this] at hm
                cases hm
              | succ r ihr =>
                intro i hi hm
                have h4 : cs.drop (i * P.cellsOf e) = (cs.drop (i * P.cellsOf e)).take (P.cellsOf e) ++ cs.drop ((i + 1) * P.cellsOf e) := by
                  rw [show (i + 1) * P.cellsOf e = i * P.cellsOf e + P.cellsOf e from by rw [Nat.add_mul, Nat.one_mul], ← List.drop_drop, List.take_append_drop]
                rw [h4] at hm
                rcases List.mem_append.1 hm with hm | hm
                · have h1 := hget i (by omega)
                  rw [List.getElem?_eq_getElem (by omega)] at h1
                  have h2 := ih _ _ _ _ _ hfk h1 s hm
                  rw [hx]
                  simp only [DataW.weights, hu]
                  exact weights_mem_all (List.mem_map.2 ⟨xs[i]'(by omega), List.getElem_mem _, rfl⟩) _ h2
                · exact ihr (i + 1) (by omega) hm
            exact key n 0 (by omega) (by simpa using hs)
          · cases hk
      | _ => cases hk

/-- A struct that came in, flat. -/
theorem gopen_struct {r : Reach} {b0 : Nat} {t : TypeId} {m : Nat} {ks : List GK} {fs : Array Field} {v : Value} {d : DataW H} {ps : List MemPlace} (ht : P.underlying t = some (.struct fs)) (hk : gflatK P m t = some ks)
    (hv : Value.okWide P w r b0 t v) (h : DataW.Trod enc P w base spare held t v d ps) : ∃ cs : Array Value, v = .agg cs ∧ gfits (SlT enc P w base spare held) ks cs.toList ∧ ∀ s, Value.string s ∈ cs.toList → s.size ∈ d.weights P t := by
  obtain ⟨cs, rfl, hsz⟩ := okWide_struct ht hv
  obtain ⟨fuel, hf⟩ := h
  exact ⟨cs, rfl, gflat_fits _ _ _ _ _ _ hk hf, gflat_wt _ _ _ _ _ _ hk hf⟩

theorem gfits_cons {T : TypeId → Value → Prop} {k : GK} {ks : List GK} : ∀ {vs : List Value}, gfits T (k :: ks) vs → ∃ v rest, vs = v :: rest ∧ k.fits T v ∧ gfits T ks rest
  | [], h => h.elim
  | v :: rest, h => ⟨v, rest, rfl, h.1, h.2⟩
theorem gfits_nil {T : TypeId → Value → Prop} : ∀ {vs : List Value}, gfits T [] vs → vs = []
  | [], _ => rfl
  | _ :: _, h => h.elim

/-- A slice that came in, its elements flat: each element's cells, of the kinds ks. -/
theorem gopen_flat {t e : TypeId} {m : Nat} {ks : List GK} (ht : P.underlying t = some (.slice e)) (hk : gflatK P m e = some ks) (hsz : P.cellsOf e = ks.length) (h0 : 0 < ks.length) {ad : Option Addr} {n c : Nat} {d : DataW H} {ps : List MemPlace}
    (h : DataW.Trod enc P w base spare held t (.slice ad n c) d ps) :
    n ≤ maxLen ∧ ∃ cell : Nat → Array Value, RowsAt w ad n ks.length cell ∧ ∀ k, k < n → gfits (SlT enc P w base spare held) ks (cell k).toList := by
  obtain ⟨fuel, hf⟩ := h
  rcases open_slice ht hf with ⟨hcs, _⟩ | ⟨a, len, cap, mm, nn, D, Pl, hcs, _, hl, hm, hmm, _, hi⟩
  · simp [Value.cells] at hcs
    obtain ⟨rfl, rfl, rfl⟩ := hcs
    exact ⟨Nat.zero_le _, fun _ => #[], fun h => absurd h (by omega), fun k hk => absurd hk (by omega)⟩
  · simp [Value.cells] at hcs
    obtain ⟨rfl, rfl, rfl⟩ := hcs
    have hle : n ≤ mm := by rw [hmm]; split <;> omega
    have H : ∀ k, ∃ cs' : List Value, k < n → (w.cells? base (a.add (k * P.cellsOf e)) (P.cellsOf e) = some cs' ∧ gfits (SlT enc P w base spare held) ks cs') := fun k => by
      by_cases hk' : k < n
      · obtain ⟨cs', h1, h2⟩ := hi k (by omega)
        exact ⟨cs', fun _ => ⟨h1, gflat_fits _ _ _ _ _ _ hk h2⟩⟩
      · exact ⟨[], fun h => absurd h hk'⟩
    obtain ⟨F, hF⟩ := Classical.axiomOfChoice H
    refine ⟨by omega, fun k => (F k).toArray, fun hn => ?_, fun k hk' => by simpa using (hF k hk').2⟩
    have hsp : a.spot = none := by
      obtain ⟨h1, h2⟩ := hF 0 hn
      obtain ⟨_, h3, h4⟩ := World.cells?_some h1
      have h5 := h4 0 (by rw [hsz]; exact h0)
      simp only [Nat.zero_mul, Addr.add, if_true] at h5
      cases hs : a.spot with
      | none => rfl
      | some q =>
        exfalso
        rw [List.getElem?_eq_getElem (by rw [h3, hsz]; exact h0)] at h5
        simp only [World.cell?, hs] at h5
        split at h5 <;> simp at h5
    obtain ⟨b, off, sp⟩ := a
    simp only at hsp
    subst hsp
    refine ⟨b, off, rfl, fun k hk' j hj => ?_⟩
    obtain ⟨h1, h2⟩ := hF k hk'
    obtain ⟨_, h3, h4⟩ := World.cells?_some h1
    have h5 := h4 j (by omega)
    rw [add_mk, add_mk, hsz] at h5
    rw [h5]
    simp
end
end Go.Sx
