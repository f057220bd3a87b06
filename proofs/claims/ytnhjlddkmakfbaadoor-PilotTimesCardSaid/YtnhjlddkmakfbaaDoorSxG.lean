/-
  Sx, part G: slices that the walk owns, told as lists; append; slice literals; copy of bytes into a string. Proved once, for any program. Conditions: none beside each theorem's own.
-/
import Derived.Test.YtnhjlddkmakfbaaDoorSxE
namespace Go.Sx
open Go.RowKit
set_option linter.unusedVariables false
set_option linter.unusedSimpArgs false

/-! ### Rows of a slice, whatever memory they lie in -/
theorem RowsAt.isSome {w : World} {ad : Option Addr} {n size : Nat} {cell : Nat → Array Value} (h : RowsAt w ad n size cell) (hn : 0 < n) : ∃ b off, ad = some ⟨b, off, none⟩ := by
  obtain ⟨b, off, h1, _⟩ := h hn
  exact ⟨b, off, h1⟩

theorem RowsAt.at {w : World} {b off n size : Nat} {cell : Nat → Array Value} (h : RowsAt w (some ⟨b, off, none⟩) n size cell) {k j : Nat} (hk : k < n) (hj : j < size) : w.cell? ⟨b, off + k * size + j, none⟩ = (cell k)[j]? := by
  obtain ⟨b', off', h1, h2⟩ := h (by omega)
  simp only [Option.some.injEq, Addr.mk.injEq, and_true] at h1
  obtain ⟨rfl, rfl⟩ := h1
  exact h2 k hk j hj

/-- a whole element -/
theorem RowsAt.all {w : World} {b off n size : Nat} {cell : Nat → Array Value} (h : RowsAt w (some ⟨b, off, none⟩) n size cell) {k o : Nat} (hk : k < n) {vs : Array Value} (ho : o + vs.size ≤ size) (hv : (cell k).extract o (o + vs.size) = vs) :
    ∀ i, i < vs.size → w.cell? ((Addr.mk b (off + k * size + o) none).add i) = vs[i]? := by
  intro i hi
  rw [add_mk, Nat.add_assoc, h.at hk (by omega)]
  have h1 : ((cell k).extract o (o + vs.size))[i]? = vs[i]? := by rw [hv]
  rw [← h1, Array.getElem?_extract]
  have h2 := congrArg Array.size hv
  simp only [Array.size_extract] at h2
  rw [if_pos (by omega)]

theorem RowsAt.base {W w w0 : World} {L : List Asn} {ad : Option Addr} {n size : Nat} {cell : Nat → Array Value} (h : RowsAt W ad n size cell) (hc : ∀ k, k < n → (cell k).size = size) (hs : St w0 L w) (i : Nat) (hi : L[i]? = some (Base W)) : RowsAt w ad n size cell := fun hn => by
  obtain ⟨b, off, h1, h2⟩ := h hn
  refine ⟨b, off, h1, fun k hk j hj => ?_⟩
  have h3 := h2 k hk j hj
  have hlt : j < (cell k).size := by rw [hc k hk]; exact hj
  rw [Array.getElem?_eq_getElem hlt] at h3 ⊢
  exact hs.base i hi h3

/-- part of a slice -/
theorem RowsAt.sub {w : World} {b off n size : Nat} {cell : Nat → Array Value} (h : RowsAt w (some ⟨b, off, none⟩) n size cell) (lo m : Nat) (hm : lo + m ≤ n) : RowsAt w (some ⟨b, off + lo * size, none⟩) m size (fun k => cell (lo + k)) := fun hn =>
  ⟨b, off + lo * size, rfl, fun k hk j hj => by rw [Nat.add_assoc off, ← Nat.add_mul]; exact h.at (by omega) hj⟩

theorem RowsAt.nil {w : World} (ad : Option Addr) (size : Nat) (cell : Nat → Array Value) : RowsAt w ad 0 size cell := fun h => absurd h (by omega)

theorem RowsAt.lt {w : World} {ad : Option Addr} {n size : Nat} {cell : Nat → Array Value} (h : RowsAt w ad n size cell) {m : Nat} (hm : m ≤ n) : RowsAt w ad m size cell := fun hn => by
  obtain ⟨b, off, h1, h2⟩ := h (by omega)
  exact ⟨b, off, h1, fun k hk => h2 k (by omega)⟩

theorem RowsAt.congr' {W : World} {ad : Option Addr} {n size : Nat} {cell cell' : Nat → Array Value} (h : RowsAt W ad n size cell) (hc : ∀ k, k < n → cell k = cell' k) : RowsAt W ad n size cell' := fun hn => by
  obtain ⟨b, off, h1, h2⟩ := h hn
  exact ⟨b, off, h1, fun k hk j hj => by rw [← hc k hk]; exact h2 k hk j hj⟩

/-! ### A slice of one's own -/
def Own (v : Value) (e : TypeId) (size n : Nat) (xs : List Value) : Asn :=
  ⟨fun b => v.ownBlock = some b, fun w => w.ownsRow 0 e size v n xs, fun w w' h h1 => by
    obtain ⟨h2, h3⟩ := h1
    refine ⟨h2, ?_⟩
    rcases h3 with h3 | ⟨g, cap, cur, hv, hb, hg, r⟩
    · exact .inl h3
    · exact .inr ⟨g, cap, cur, hv, hb, by rw [h g (by rw [hv]; rfl)]; exact hg, r⟩⟩

def Sl {α : Type} (ad : Option Addr) (c : Nat) (e : TypeId) (size : Nat) (f : α → Array Value) (l : List α) : Asn := Own (.slice ad l.length c) e size l.length (l.flatMap fun x => (f x).toList)

theorem flat_length {α : Type} {f : α → Array Value} {size : Nat} (hf : ∀ x, (f x).size = size) : ∀ (l : List α), (l.flatMap fun x => (f x).toList).length = l.length * size
  | [] => by simp
  | x :: l => by
    simp only [List.flatMap_cons, List.length_append, flat_length hf l, List.length_cons, Array.length_toList, hf]
    rw [Nat.add_mul, Nat.one_mul, Nat.add_comm]

theorem flat_get {α : Type} {f : α → Array Value} {size : Nat} (hf : ∀ x, (f x).size = size) (d : α) : ∀ (l : List α) (k j : Nat), k < l.length → j < size → (l.flatMap fun x => (f x).toList)[k * size + j]? = (f (l.getD k d))[j]?
  | [], k, j, h, _ => by simp at h
  | x :: l, 0, j, _, hj => by
    simp only [List.flatMap_cons, Nat.zero_mul, Nat.zero_add]
    rw [List.getElem?_append_left (by rw [Array.length_toList, hf]; exact hj)]
    simp
  | x :: l, k + 1, j, h, hj => by
    simp only [List.flatMap_cons]
    rw [List.getElem?_append_right (by rw [Array.length_toList, hf, Nat.add_mul]; omega), Array.length_toList, hf]
    rw [show (k + 1) * size + j - size = k * size + j from by rw [Nat.add_mul]; omega]
    rw [flat_get hf d l k j (by simpa using h) hj]
    simp

section
variable {w0 w : World} {L : List Asn} {α : Type} {ad : Option Addr} {c size : Nat} {e : TypeId} {f : α → Array Value} {l : List α}

theorem Sl.rows (hf : ∀ x, (f x).size = size) (h : (Sl ad c e size f l).holds w) (d : α) : RowsAt w ad l.length size (fun k => f (l.getD k d)) := fun hn => by
  have h0 : w.ownsRow 0 e size (.slice ad l.length c) l.length (l.flatMap fun x => (f x).toList) := h
  rcases h0.2 with ⟨h1, h2⟩ | ⟨g, cap, cur, hv, _⟩
  · omega
  · simp only [Value.slice.injEq] at hv
    obtain ⟨rfl, _, rfl⟩ := hv
    refine ⟨g, 0, rfl, fun k hk j hj => ?_⟩
    rw [Nat.zero_add]
    have hlt : k * size + j < l.length * size := by
      calc k * size + j < k * size + size := by omega
        _ = (k + 1) * size := by rw [Nat.add_mul, Nat.one_mul]
        _ ≤ l.length * size := Nat.mul_le_mul_right _ hk
    rw [h0.cellAt _ hlt]
    exact flat_get hf d l k j hk hj

theorem St.rows (hs : St w0 L w) (i : Nat) (hi : L[i]? = some (Sl ad c e size f l)) (hf : ∀ x, (f x).size = size) (d : α) : RowsAt w ad l.length size (fun k => f (l.getD k d)) := Sl.rows hf (hs.at_ i hi) d

theorem St.slNil (hs : St w0 L w) (e : TypeId) (size : Nat) (f : α → Array Value) : St w0 (Sl none 0 e size f [] :: L) w :=
  St.new hs rfl rfl rfl (Nat.le_refl _) (fun _ _ => rfl) (World.ownsRow_nil w 0 e size) (fun b hb => by simp [Sl, Own, Value.ownBlock] at hb)

/-- a new block is a slice of one's own -/
theorem St.slOf {b : Nat} {cs : Array Value} {T : TypeId} (hs : St w0 (Cel b cs T :: L) w) (hz : w.heap[b]? = some (.cells cs T (0, 0))) (hf : ∀ x, (f x).size = size) (hl : l.length ≤ maxLen) (hcs : cs.toList = l.flatMap fun x => (f x).toList) :
    St w0 (Sl (some ⟨b, 0, none⟩) l.length T size f l :: L) w := by
  refine St.step hs rfl rfl rfl (Nat.le_refl _) (fun _ _ _ => rfl) ?_ (fun k hk => ⟨.inl ?_, ?_⟩)
  · refine ⟨flat_length hf l, .inr ⟨b, l.length, cs, rfl, Nat.zero_le _, hz, Nat.le_refl _, hl, ?_, ?_⟩⟩
    · rw [← Array.length_toList, hcs, flat_length hf]
    · rw [hcs, List.take_of_length_le (by rw [flat_length hf]; exact Nat.le_refl _)]
  · have h1 : (some b : Option Nat) = some k := hk
    exact (Option.some.inj h1).symm
  · have h1 : (some b : Option Nat) = some k := hk
    have h2 := Option.some.inj h1
    subst h2
    exact (Array.getElem?_eq_some_iff.1 hz).1

theorem St.grown {A A' : Asn} {w' : World} {row : Option Nat} (hs : St w0 (A :: L) w) (hg : w.grownBy w' row) (hrow : ∀ b, row = some b → A.own b) (hA : A'.holds w') (hown : ∀ b, A'.own b → (A.own b ∨ w.heap.size ≤ b) ∧ b < w'.heap.size) : St w0 (A' :: L) w' :=
  St.step hs hg.os hg.tape hg.output hg.size (fun b hb hn => hg.block b hb (fun e => hn (hrow b e.symm))) hA hown

variable {P : Program}

/-- append's run, told on lists: what is appended reads as ys. -/
theorem run_append_sl {t ty : TypeId} {ti : TypeInfo} {z : Value} {bytes : Nat} (ht : P.underlying t = some (.slice e)) (hi : P.info? e = some ti) (hz : ti.zero = some z) (hsize : ti.size = size) (hby : ti.bytes = bytes) (hzs : z.cells.size = size) (hsz : 0 < size)
    (hf : ∀ x, (f x).size = size) (h1 : ∀ x, ∀ u ∈ (f x).toList, u.oneCell' = true) (hs : St w0 (Sl ad c e size f l :: L) w) (d : α) {adx : Option Addr} {cx : Nat} {ys : List α} (hx : RowsAt w adx ys.length size (fun k => f (ys.getD k d))) (hxn : adx = none → cx = 0)
    (h63 : l.length + ys.length ≤ maxLen) (hb : (l.length + ys.length) * bytes ≤ 140737488355328) :
    ∃ ad' c' w', (Builtin.append_ #[t, t] ty #[.slice ad l.length c, .slice adx ys.length cx]).run P w = .ok (.slice ad' (l ++ ys).length c') w' ∧ St w0 (Sl ad' c' e size f (l ++ ys) :: L) w' := by
  have h0 : w.ownsRow 0 e size (.slice ad l.length c) l.length (l.flatMap fun x => (f x).toList) := hs.holds _ (List.mem_cons_self ..)
  cases adx with
  | none =>
    have hcx := hxn rfl
    subst hcx
    have hy : ys = [] := by
      cases ys with
      | nil => rfl
      | cons y ys =>
        obtain ⟨b, off, hh, _⟩ := hx (by simp)
        cases hh
    subst hy
    refine ⟨ad, c, w, ?_, by rw [List.append_nil]; exact hs⟩
    rw [List.append_nil]
    exact run_append_owned_none w 0 t ty e ti size ht hi _ _ _ h0
  | some a =>
    have hnews : ∀ j u, (ys.flatMap fun x => (f x).toList)[j]? = some u → w.cell? (a.add j) = some u := by
      intro j u hj
      have hlen : j < ys.length * size := by rw [← flat_length hf ys]; exact (List.getElem?_eq_some_iff.1 hj).1
      have hy : 0 < ys.length := by
        rcases Nat.eq_zero_or_pos ys.length with hz | hz
        · rw [hz] at hlen; omega
        · exact hz
      obtain ⟨b, off, hh, hrow⟩ := hx hy
      simp only [Option.some.injEq] at hh
      subst hh
      have hk : j / size < ys.length := Nat.div_lt_of_lt_mul (by rw [Nat.mul_comm]; exact hlen)
      have hm : j % size < size := Nat.mod_lt _ hsz
      have h2 := hrow (j / size) hk (j % size) hm
      have h3 := flat_get hf d ys (j / size) (j % size) hk hm
      have h4 : j / size * size + j % size = j := by rw [Nat.mul_comm]; exact Nat.div_add_mod j size
      rw [Nat.add_assoc, h4] at h2
      rw [h4] at h3
      rw [add_mk, h2, ← h3]
      exact hj
    have hone : ∀ u ∈ (ys.flatMap fun x => (f x).toList), u.oneCell' = true := by
      intro u hu
      obtain ⟨y, _, hy⟩ := List.mem_flatMap.1 hu
      exact h1 y u hy
    have hl : (l ++ ys).length = l.length + ys.length := List.length_append
    have hfl : ((l ++ ys).flatMap fun x => (f x).toList) = (l.flatMap fun x => (f x).toList) ++ (ys.flatMap fun x => (f x).toList) := List.flatMap_append
    have hny := flat_length hf ys
    have hsmall : l.length + ys.length ≤ 9223372036854775807 := by simp only [maxLen] at h63; omega
    subst hby
    -- the new row
    have fresh : ∀ cap, St w0 (Sl (some ⟨w.heap.size, 0, none⟩) (grownCap w (l.length + ys.length) cap e) e size f (l ++ ys) :: L)
        (w.drew.alloc (.cells ((l.flatMap fun x => (f x).toList).toArray ++ (ys.flatMap fun x => (f x).toList).toArray ++ Builtin.zeroCells z.cells (grownCap w (l.length + ys.length) cap e - (l.length + ys.length))) e)) := by
      intro cap
      have hge := grownCap_ge w (l.length + ys.length) cap e
      have hcm : grownCap w (l.length + ys.length) cap e ≤ maxLen := grownCap_le_maxLen w (l.length + ys.length) cap e h63
      refine St.step hs rfl rfl rfl (by simp) (fun k hk _ => heap_alloc_old w.drew _ hk) ?_ (fun k hk => ⟨.inr ?_, ?_⟩)
      · show World.ownsRow _ 0 e size (.slice _ (l ++ ys).length _) (l ++ ys).length ((l ++ ys).flatMap fun x => (f x).toList)
        rw [hl, hfl]
        refine ⟨by rw [List.length_append, flat_length hf, flat_length hf, Nat.add_mul], .inr ⟨w.heap.size, _, _, rfl, Nat.zero_le _, heap_alloc_new w.drew _, hge, hcm, ?_, ?_⟩⟩
        · simp only [Array.size_append, List.size_toArray, size_zeroCells, hzs, flat_length hf, ← Nat.add_mul]
          congr 1
          omega
        · have h9 : (l.length + ys.length) * size = ((l.flatMap fun x => (f x).toList) ++ (ys.flatMap fun x => (f x).toList)).length := by rw [List.length_append, flat_length hf, flat_length hf, Nat.add_mul]
          simp only [Array.toList_append, List.append_assoc]
          rw [← List.append_assoc, h9]
          exact List.take_left
      · have h1 : (some w.heap.size : Option Nat) = some k := hk
        have h2 := Option.some.inj h1
        omega
      · have h1 : (some w.heap.size : Option Nat) = some k := hk
        have h2 := Option.some.inj h1
        subst h2
        simp
    rcases h0.2 with ⟨h3, h4⟩ | ⟨g, cap, cur, h3, hbg, hg, hnc, hcm, hcs, htake⟩
    · simp only [Value.slice.injEq] at h3
      obtain ⟨rfl, _, rfl⟩ := h3
      have hle : l = [] := List.eq_nil_of_length_eq_zero h4
      subst hle
      by_cases hm : ys.length = 0
      · have hye : ys = [] := List.eq_nil_of_length_eq_zero hm
        subst hye
        refine ⟨none, 0, w, ?_, by rw [List.append_nil]; exact hs⟩
        simp [Builtin.append_, run_underlying ht, sizeOf, typeInfo, hi, Builtin.lenOf, Builtin.firstCells, loadCells, loadCellsFrom]
      · have hr := run_append_nil (P := P) w t ty e ti z ht hi hz a ys.length cx _ (by rw [hny, hsize]) hnews (by omega) (by simp only [List.length_nil, Nat.zero_add] at hsmall; omega) (by have hb' := hb; simp only [List.length_nil, Nat.zero_add] at hb'; omega)
        have hfr := fresh 0
        simp only [List.length_nil, Nat.zero_add, List.nil_append, List.flatMap_nil, Array.empty_append] at hfr hr ⊢
        exact ⟨_, _, _, hr, hfr⟩
    · simp only [Value.slice.injEq] at h3
      obtain ⟨rfl, _, rfl⟩ := h3
      by_cases hroom : l.length + ys.length ≤ c
      · obtain ⟨w', hr, hown, hgr⟩ := run_append_fits (P := P) w 0 t ty e ti size ht hi hsize g l.length c _ h0 a ys.length cx _ hny hnews hone hroom
        refine ⟨some ⟨g, 0, none⟩, c, w', by rw [hl]; exact hr, ?_⟩
        have hown' : (Sl (some ⟨g, 0, none⟩) c e size f (l ++ ys)).holds w' := by
          show w'.ownsRow 0 e size (.slice _ (l ++ ys).length c) (l ++ ys).length ((l ++ ys).flatMap fun x => (f x).toList)
          rw [hl, hfl]
          exact hown
        refine St.grown hs hgr (fun b hb => hb) hown' (fun b hb => ⟨.inl hb, ?_⟩)
        have h1 : (some g : Option Nat) = some b := hb
        have h2 := Option.some.inj h1
        subst h2
        exact Nat.lt_of_lt_of_le (Array.getElem?_eq_some_iff.1 hg).1 hgr.size
      · have holds : ∀ j u, (l.flatMap fun x => (f x).toList)[j]? = some u → w.cell? ((⟨g, 0, none⟩ : Addr).add j) = some u := h0.cells (g := g) rfl
        have hr := run_append_grow (P := P) w t ty e ti z ht hi hz ⟨g, 0, none⟩ l.length c _ (by rw [flat_length hf, hsize]) holds a ys.length cx _ (by rw [hny, hsize]) hnews (by omega) (by omega) (growslice_fits (by omega) hb)
        exact ⟨_, _, _, by rw [hl]; exact hr, fresh c⟩

end
end Go.Sx
