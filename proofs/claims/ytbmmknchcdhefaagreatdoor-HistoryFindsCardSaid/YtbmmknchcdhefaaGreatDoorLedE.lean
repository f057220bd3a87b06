/-
  Package ledger: List.
-/
import Derived.Test.YtbmmknchcdhefaaGreatDoorSxT
import Derived.Test.YtbmmknchcdhefaaGreatDoorProg
import Derived.Test.YtbmmknchcdhefaaGreatDoorLedD
import Derived.Test.YtbmmknchcdhefaaGreatDoorLedS0
namespace Go.Proofs.YtbmmknchcdhefaaGreatDoor
open Go.RowKit Go.Sx
set_option linter.unusedVariables false
set_option linter.unusedSimpArgs false
set_option linter.unnecessarySimpa false
set_option maxRecDepth 100000
def itemsOf (m : List (ByteArray × ByteArray)) : List ItemV := m.map fun y => ⟨y.1, y.2⟩
def lst (m : List (ByteArray × ByteArray)) : List ItemV := (itemsOf m).mergeSort (fun x y => !slt y.key x.key)
theorem sle_trans (x y z : ItemV) (h1 : (!slt y.key x.key) = true) (h2 : (!slt z.key y.key) = true) : (!slt z.key x.key) = true := by
  simp only [Bool.not_eq_true'] at *
  exact slt_ntrans h2 h1
theorem sle_total (x y : ItemV) : ((!slt y.key x.key) || (!slt x.key y.key)) = true := by
  cases h1 : slt y.key x.key with
  | false => rfl
  | true =>
    cases h2 : slt x.key y.key with
    | false => rfl
    | true => have := slt_trans h1 h2; rw [slt_irrefl] at this; cases this
theorem lst_perm (m : List (ByteArray × ByteArray)) : (lst m).Perm (itemsOf m) := List.mergeSort_perm _ _
theorem lst_sorted (m : List (ByteArray × ByteArray)) : (lst m).Pairwise fun x y => slt y.key x.key = false :=
  (List.pairwise_mergeSort (le := fun x y : ItemV => !slt y.key x.key) sle_trans sle_total (itemsOf m)).imp fun h => by simpa using h
theorem lst_length (m : List (ByteArray × ByteArray)) : (lst m).length = m.length := by rw [(lst_perm m).length_eq, itemsOf, List.length_map]
theorem sorted_unique : ∀ {l l' : List ItemV}, l.Perm l' → (l.map (·.key)).Nodup → (l.Pairwise fun x y => slt y.key x.key = false) → (l'.Pairwise fun x y => slt y.key x.key = false) → l = l'
  | [], l', h, _, _, _ => (List.nil_perm.1 h).symm
  | x :: l, [], h, _, _, _ => absurd h.symm (List.not_perm_nil_cons _ _)
  | x :: l, y :: l', h, hn, h1, h2 => by
    have hxy : x = y := by
      have hx : x ∈ y :: l' := h.mem_iff.1 (List.mem_cons_self ..)
      have hy : y ∈ x :: l := h.mem_iff.2 (List.mem_cons_self ..)
      rcases List.mem_cons.1 hx with e | hx
      · exact e
      · rcases List.mem_cons.1 hy with e | hy
        · exact e.symm
        · have a1 := (List.pairwise_cons.1 h1).1 y hy
          have a2 := (List.pairwise_cons.1 h2).1 x hx
          have := slt_total a2 a1
          simp only [List.map_cons, List.nodup_cons] at hn
          exact absurd (List.mem_map.2 ⟨y, hy, this.symm⟩) hn.1
    subst hxy
    rw [sorted_unique (List.Perm.cons_inv h) (List.nodup_cons.1 hn).2 (List.pairwise_cons.1 h1).2 (List.pairwise_cons.1 h2).2]
end Go.Proofs.YtbmmknchcdhefaaGreatDoor
