/-
  What Check and Find say, in plain words. Conditions: none beside each theorem's own.
-/
import Derived.Test.YtbmmknchcdhefaaGreatDoorSxT
import Derived.Test.YtbmmknchcdhefaaGreatDoorHisH
namespace Go.Proofs.YtbmmknchcdhefaaGreatDoor
open Go.RowKit Go.Sx
set_option linter.unusedVariables false
set_option linter.unusedSimpArgs false
set_option linter.unnecessarySimpa false
set_option maxRecDepth 100000
theorem tryF_sound {l : List CallV} : ∀ {d : Nat} {o x : List Nat}, Fresh l.length o → tryF l d o = some x → Fresh l.length x ∧ okO l x = true
  | 0, o, x, hf, h => by
    rw [tryF] at h
    split at h
    · rename_i hk
      obtain rfl := Option.some.inj h
      exact ⟨hf, hk⟩
    · cases h
  | d + 1, o, x, hf, h => by
    rw [tryF] at h
    split at h
    · rename_i hk
      obtain rfl := Option.some.inj h
      exact ⟨hf, hk⟩
    · obtain ⟨i, hi, he⟩ := List.exists_of_findSome?_eq_some h
      have hi2 := List.mem_range.1 hi
      by_cases hm : i ∈ o
      · rw [if_pos hm] at he; cases he
      · rw [if_neg hm] at he
        exact tryF_sound (hf.snoc hi2 hm) he
theorem tryF_complete {l : List CallV} : ∀ (e : List Nat) {d : Nat} {o : List Nat}, okO l (o ++ e) = true → e.length ≤ d → Fresh l.length (o ++ e) → (tryF l d o).isSome = true
  | [], d, o, h, _, _ => by
    rw [List.append_nil] at h
    rw [tryF_ok h]
    rfl
  | i :: e, 0, o, _, hl, _ => by simp only [List.length_cons] at hl; omega
  | i :: e, d + 1, o, h, hl, hf => by
    rw [tryF]
    split
    · rfl
    · have hap : o ++ i :: e = (o ++ [i]) ++ e := by simp
      have h1 : (tryF l d (o ++ [i])).isSome = true := tryF_complete e (by rw [← hap]; exact h) (by simp only [List.length_cons] at hl; omega) (by rw [← hap]; exact hf)
      have hm : ¬ i ∈ o := fun hm => (List.nodup_append.1 hf.1).2.2 i hm i (List.mem_cons_self ..) rfl
      have hi : i < l.length := hf.2 i (by simp)
      rw [Option.isSome_iff_ne_none]
      intro hn
      have h2 := List.findSome?_eq_none_iff.1 hn i (List.mem_range.2 hi)
      rw [if_neg hm] at h2
      rw [h2] at h1
      cases h1
theorem findF_sound {l : List CallV} {x : List Nat} (h : findF l = some x) : Fresh l.length x ∧ okO l x = true := by
  unfold findF at h
  split at h
  · exact tryF_sound ⟨List.nodup_nil, fun i hi => by cases hi⟩ h
  · cases h
theorem findF_len (l : List CallV) : ((findF l).getD []).length ≤ 7 := by
  cases h : findF l with
  | none => decide
  | some x =>
    have h1 := (findF_sound h).1.len
    unfold findF at h
    split at h
    · exact Nat.le_trans h1 (by assumption)
    · cases h
theorem findF_complete {l : List CallV} (hl : l.length ≤ 7) {x : List Nat} (hf : Fresh l.length x) (h : okO l x = true) : (findF l).isSome = true := by
  rw [findF, if_pos hl]
  exact tryF_complete x (by simpa using h) hf.len (by simpa using hf)
end Go.Proofs.YtbmmknchcdhefaaGreatDoor
