/-
  Sx, part N: an array in a block, told as a list. Proved once, for any program. Conditions: none beside each theorem's own.
-/
import Derived.Test.YtnhjlddkmakfbaaDoorSxL
namespace Go.Sx
open Go.RowKit
set_option linter.unusedVariables false
set_option linter.unusedSimpArgs false

def arrCells {α : Type} (f : α → Array Value) (l : List α) : Array Value := (l.flatMap fun x => (f x).toList).toArray

section
variable {α : Type} {f : α → Array Value} {size : Nat} {l : List α}

theorem arr_size (hf : ∀ x, (f x).size = size) (l : List α) : (arrCells f l).size = l.length * size := by
  rw [arrCells, List.size_toArray, flat_length hf]

theorem arr_get (hf : ∀ x, (f x).size = size) (d : α) {k j : Nat} (hk : k < l.length) (hj : j < size) : (arrCells f l)[k * size + j]? = (f (l.getD k d))[j]? := by
  rw [arrCells, List.getElem?_toArray]
  exact flat_get hf d l k j hk hj

theorem arr_rows {w0 w : World} {L : List Asn} {b : Nat} {T : TypeId} (hs : St w0 L w) (i : Nat) (hi : L[i]? = some (Cel b (arrCells f l) T)) (hf : ∀ x, (f x).size = size) (d : α) : RowsAt w (some ⟨b, 0, none⟩) l.length size (fun k => f (l.getD k d)) := fun hn => by
  obtain ⟨fr, hb, hfr⟩ := hs.at_ i hi
  refine ⟨b, 0, rfl, fun k hk j hj => ?_⟩
  simp only [World.cell?, hb, Nat.zero_add]
  exact arr_get hf d hk hj

theorem splice_get : ∀ (vs : List Value) (cs : Array Value) (off i : Nat), (splice cs off vs)[i]? = if off ≤ i ∧ i < off + vs.length ∧ i < cs.size then vs[i - off]? else cs[i]?
  | [], cs, off, i => by
    simp only [splice, List.length_nil, Nat.add_zero]
    rw [if_neg (by omega)]
  | v :: vs, cs, off, i => by
    rw [splice, splice_get vs (cs.setIfInBounds off v) (off + 1) i]
    simp only [Array.size_setIfInBounds, List.length_cons, Array.getElem?_setIfInBounds]
    by_cases h1 : off + 1 ≤ i ∧ i < off + 1 + vs.length ∧ i < cs.size
    · rw [if_pos h1, if_pos (by omega)]
      obtain ⟨u, rfl⟩ : ∃ u, i = off + 1 + u := ⟨i - (off + 1), by omega⟩
      rw [show off + 1 + u - (off + 1) = u by omega, show off + 1 + u - off = u + 1 by omega, List.getElem?_cons_succ]
    · rw [if_neg h1]
      by_cases h2 : off = i
      · subst h2
        rw [if_pos rfl]
        by_cases h3 : off < cs.size
        · rw [if_pos h3, if_pos (by omega), Nat.sub_self]
          rfl
        · rw [if_neg h3, if_neg (by omega), Array.getElem?_eq_none (by omega)]
      · rw [if_neg h2, if_neg (by omega)]

/-- a whole element is put -/
theorem splice_arr (hf : ∀ x, (f x).size = size) {k : Nat} (hk : k < l.length) (x : α) : splice (arrCells f l) (k * size) (f x).toList = arrCells f (l.set k x) := by
  have hl1 := arr_size hf l
  have hl2 := arr_size hf (l.set k x)
  rw [List.length_set] at hl2
  have hx : (f x).toList.length = size := by rw [Array.length_toList, hf]
  have hk2 : k * size + size ≤ l.length * size := by
    calc k * size + size = (k + 1) * size := by rw [Nat.add_mul, Nat.one_mul]
      _ ≤ l.length * size := Nat.mul_le_mul_right _ hk
  apply Array.ext_getElem?
  intro i
  rw [splice_get, hx, hl1]
  by_cases hi : i < l.length * size
  · have hpos : 0 < size := by
      rcases Nat.eq_zero_or_pos size with h | h
      · rw [h] at hi; omega
      · exact h
    have hq : i / size < l.length := Nat.div_lt_of_lt_mul (by rw [Nat.mul_comm]; exact hi)
    have hr : i % size < size := Nat.mod_lt _ hpos
    have hi2 : i / size * size + i % size = i := by rw [Nat.mul_comm]; exact Nat.div_add_mod i size
    have e1 := arr_get (l := l) hf x hq hr
    have e2 := arr_get (l := l.set k x) hf x (k := i / size) (j := i % size) (by rw [List.length_set]; exact hq) hr
    rw [hi2] at e1 e2
    rw [e1, e2]
    by_cases hkk : i / size = k
    · have h3 : k * size + i % size = i := by rw [← hkk]; exact hi2
      rw [if_pos (by omega)]
      have e3 : (l.set k x).getD (i / size) x = x := by
        rw [hkk, List.getD_eq_getElem?_getD, List.getElem?_set]
        simp [hk]
      rw [e3, show i - k * size = i % size by omega, Array.getElem?_toList]
    · have hne : ¬ (k * size ≤ i ∧ i < k * size + size ∧ i < l.length * size) := by
        rintro ⟨h4, h5, -⟩
        exact hkk (Nat.div_eq_of_lt_le h4 (by rw [Nat.add_mul, Nat.one_mul]; exact h5))
      rw [if_neg hne]
      have e3 : (l.set k x).getD (i / size) x = l.getD (i / size) x := by
        rw [List.getD_eq_getElem?_getD, List.getD_eq_getElem?_getD, List.getElem?_set_ne (fun e => hkk e.symm)]
      rw [e3]
  · rw [if_neg (by omega), Array.getElem?_eq_none (by omega), Array.getElem?_eq_none (by omega)]

theorem arr_room (hf : ∀ x, (f x).size = size) {k : Nat} (hk : k < l.length) : k * size + size ≤ (arrCells f l).size := by
  rw [arr_size hf]
  calc k * size + size = (k + 1) * size := by rw [Nat.add_mul, Nat.one_mul]
    _ ≤ l.length * size := Nat.mul_le_mul_right _ hk
end
end Go.Sx
