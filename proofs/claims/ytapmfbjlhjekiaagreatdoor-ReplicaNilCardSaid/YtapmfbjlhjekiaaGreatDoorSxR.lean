/-
  Sx, part R: values that are whole arrays, told as lists. Proved once, for any program. Conditions: none beside each theorem's own.
-/
import Derived.Test.YtapmfbjlhjekiaaGreatDoorSxQ
namespace Go.Sx
open Go.RowKit
set_option linter.unusedVariables false
set_option linter.unusedSimpArgs false

section
variable {α : Type} {f : α → Array Value} {size n m : Nat} {l : List α}
theorem arrvSize (hf : CellF f size) (h : l.length = n) (hm : (n * size).beq m = true) : Array.size (arrCells f l) = m := by
  rw [arr_size hf.size, h]; exact Nat.eq_of_beq_eq_true hm
theorem arrvCells (hf : CellF f size) (h : l.length = n) (hm : (n * size).beq m = true) : (Value.cells (.agg (arrCells f l))).size = m := arrvSize hf h hm
theorem arrvOne (hf : CellF f size) : (Value.cells (.agg (arrCells f l))).toList.all oneB = true := by
  show (arrCells f l).toList.all _ = true
  rw [List.all_eq_true]
  intro u hu
  simp only [arrCells] at hu
  obtain ⟨x, _, hx⟩ := List.mem_flatMap.1 hu
  have h1 := hf.ones x u hx
  cases u <;> simp_all [oneB, Value.oneCell']
theorem arrvRoom (hf : CellF f size) (h : l.length = n) {cs : Array Value} (hm : (n * size).beq cs.size = true) : 0 + (Value.cells (.agg (arrCells f l))).size ≤ cs.size := by
  rw [Nat.zero_add, arrvCells hf h hm]; exact Nat.le_refl _
theorem arrvPut (hf : CellF f size) (h : l.length = n) {cs : Array Value} (hm : (n * size).beq cs.size = true) : splice cs 0 (Value.cells (.agg (arrCells f l))).toList = arrCells f l := by
  have hs : (arrCells f l).size = cs.size := arrvSize hf h hm
  apply Array.ext_getElem?
  intro i
  have he : (Value.cells (.agg (arrCells f l))).toList = (arrCells f l).toList := rfl
  rw [he, splice_get]
  have hl : (arrCells f l).toList.length = cs.size := by rw [Array.length_toList, hs]
  by_cases hi : i < cs.size
  · rw [if_pos ⟨Nat.zero_le _, by omega, hi⟩, Nat.sub_zero, Array.getElem?_toList]
  · rw [if_neg (by omega), Array.getElem?_eq_none (by omega), Array.getElem?_eq_none (by omega)]
end
end Go.Sx
