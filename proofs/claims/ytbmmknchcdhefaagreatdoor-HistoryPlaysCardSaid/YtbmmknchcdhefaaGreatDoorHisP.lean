/-
  What Check and Find say, in plain words. Conditions: none beside each theorem's own.
-/
import Derived.Test.YtbmmknchcdhefaaGreatDoorSxT
import Derived.Test.YtbmmknchcdhefaaGreatDoorHisH
namespace Go.Proofs.YtbmmknchcdhefaaGreatDoor
open Go.RowKit Go.Sx
set_option linter.unusedVariables false
set_option linter.unusedSimpArgs false
set_option linter.unnecessarySimpa false
set_option maxRecDepth 100000
theorem chkF_range (l : List CallV) (row : List ReqV) : ∀ n, n ≤ 7 → 0 ≤ (chkF l row n).1 ∧ (chkF l row n).1 ≤ 7
  | 0, _ => ⟨Int.le_refl _, by show (0 : Int) ≤ 7; decide⟩
  | n + 1, h => by
    rw [chkF]
    split
    · exact ⟨by show (0 : Int) ≤ ((6 - n : Nat) : Int) + 1; omega, by show ((6 - n : Nat) : Int) + 1 ≤ 7; omega⟩
    · exact chkF_range l row n (by omega)
theorem chkV_range (l : List CallV) (row : List ReqV) : 0 ≤ (chkV l row).1 ∧ (chkV l row).1 ≤ 7 := chkF_range l row 7 (Nat.le_refl _)
theorem tryF_sound {l : List CallV} : ∀ {d : Nat} {o x : List Nat}, Fresh l.length o → tryF l d o = some x → Fresh l.length x ∧ okO l x = true
  | 0, o, x, hf, h => by
    rw [tryF] at h
    split at h
    · rename_i hk
      obtain rfl := Option.some.inj h
      exact ⟨hf, hk⟩
    · cases h
  | d + 1, o, x, hf, h => by
    rw [tryF] at h
    split at h
    · rename_i hk
      obtain rfl := Option.some.inj h
      exact ⟨hf, hk⟩
    · obtain ⟨i, hi, he⟩ := List.exists_of_findSome?_eq_some h
      have hi2 := List.mem_range.1 hi
      by_cases hm : i ∈ o
      · rw [if_pos hm] at he; cases he
      · rw [if_neg hm] at he
        exact tryF_sound (hf.snoc hi2 hm) he
theorem findF_sound {l : List CallV} {x : List Nat} (h : findF l = some x) : Fresh l.length x ∧ okO l x = true := by
  unfold findF at h
  split at h
  · exact tryF_sound ⟨List.nodup_nil, fun i hi => by cases hi⟩ h
  · cases h
theorem findF_len (l : List CallV) : ((findF l).getD []).length ≤ 7 := by
  cases h : findF l with
  | none => decide
  | some x =>
    have h1 := (findF_sound h).1.len
    unfold findF at h
    split at h
    · exact Nat.le_trans h1 (by assumption)
    · cases h
end Go.Proofs.YtbmmknchcdhefaaGreatDoor
