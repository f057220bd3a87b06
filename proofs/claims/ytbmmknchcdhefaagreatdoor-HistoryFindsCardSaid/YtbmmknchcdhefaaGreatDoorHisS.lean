/-
  What Check looks for, in plain words. Conditions: none beside each theorem's own.
-/
import Derived.Test.YtbmmknchcdhefaaGreatDoorHisF
namespace Go.Proofs.YtbmmknchcdhefaaGreatDoor
open Go.RowKit Go.Sx
set_option linter.unusedVariables false
set_option linter.unusedSimpArgs false
set_option linter.unnecessarySimpa false
set_option maxRecDepth 100000
theorem metL_get {α : Type} {nm : α → NameV} {l : List α} (d : α) (x : NameV) : ∀ {i : Nat}, i ≤ l.length → ((aget (metL nm l i) x).getD 0 > 0 ↔ ∃ k, k < i ∧ nm (l.getD k d) = x)
  | 0, _ => by simp [metL, aget]
  | i + 1, hi => by
    rw [metL_succ d (by omega), aget_aset]
    by_cases hx : nm (l.getD i d) = x
    · rw [if_pos hx]
      exact ⟨fun _ => ⟨i, by omega, hx⟩, fun _ => by decide⟩
    · rw [if_neg hx, metL_get d x (show i ≤ l.length by omega)]
      constructor
      · rintro ⟨k, h1, h2⟩
        exact ⟨k, by omega, h2⟩
      · rintro ⟨k, h1, h2⟩
        refine ⟨k, ?_, h2⟩
        rcases Nat.lt_succ_iff_lt_or_eq.1 h1 with h3 | rfl
        · exact h3
        · exact absurd h2 hx
theorem twP_iff {α : Type} {nm : α → NameV} {d : α} {l : List α} {i : Nat} (hi : i < l.length) : twP nm d l i = true ↔ ∃ k, k < i ∧ nm (l.getD k d) = nm (l.getD i d) := by
  unfold twP
  rw [decide_eq_true_iff]
  exact metL_get d _ (Nat.le_of_lt hi)
theorem twP_no {α : Type} {nm : α → NameV} {d : α} {l : List α} {i : Nat} (hi : i < l.length) (h : ∀ k, k < i → ¬ nm (l.getD k d) = nm (l.getD i d)) : twP nm d l i = false := by
  cases hp : twP nm d l i with
  | false => rfl
  | true =>
    obtain ⟨k, h1, h2⟩ := (twP_iff hi).1 hp
    exact absurd h2 (h k h1)
def stepS (row : List ReqV) (k : Nat) := sdo (trun (row.take k)).1 (trun (row.take k)).2 (row.getD k dReq)
theorem repM_get (row : List ReqV) : ∀ (n : Nat) {k : Nat}, k < n → aget (repM row n) ((k : Nat) : Int) = if (stepS row k).1.2 = true then some (stepS row k).1.1 else none
  | 0, k, h => by omega
  | n + 1, k, h => by
    have hno : ∀ (n : Nat) {k : Nat}, n ≤ k → aget (repM row n) ((k : Nat) : Int) = none := by
      intro n
      induction n with
      | zero => intro k _; rfl
      | succ n ih =>
        intro k hk
        rw [repM]
        split
        · rw [aget_aset, if_neg (by omega)]
          exact ih (by omega)
        · exact ih (by omega)
    have he : repM row (n + 1) = if (stepS row n).1.2 = true then aset (repM row n) ((n : Nat) : Int) (stepS row n).1.1 else repM row n := rfl
    rw [he]
    rcases Nat.lt_succ_iff_lt_or_eq.1 h with h1 | rfl
    · split
      · rw [aget_aset, if_neg (by omega)]
        exact repM_get row n h1
      · exact repM_get row n h1
    · by_cases hd : (stepS row k).1.2 = true
      · rw [if_pos hd, if_pos hd, aget_aset, if_pos rfl]
      · rw [if_neg hd, if_neg hd]
        exact hno k (Nat.le_refl _)
theorem ear_eq {l : List CallV} {row : List ReqV} {c : CallV} (h : 0 ≤ placeI c row) : earB l row c = (idx dCall l (ear1 row c (placeI c row))).isSome := by
  rw [earB, if_pos (by rw [decide_eq_true_iff]; exact h)]
theorem idx_is {α : Type} {d : α} {l : List α} {p : α → Bool} {k : Nat} (hk : k < l.length) (h : p (l.getD k d) = true) : (idx d l p).isSome = true := by
  cases hx : idx d l p with
  | some q => rfl
  | none => rw [firstO_none_iff.1 hx k hk] at h; cases h
theorem idx_no {α : Type} {d : α} {l : List α} {p : α → Bool} (h : ∀ k, k < l.length → p (l.getD k d) = false) : (idx d l p).isSome = false := by
  rw [idx_none h]; rfl
theorem chk_upto {l : List CallV} {row : List ReqV} : ∀ {j : Nat}, j ≤ 7 → (∀ q, q < j → look l row q = none) → chkV l row = chkF l row (7 - j)
  | 0, _, _ => rfl
  | j + 1, hj, h => chk_miss (by omega) (chk_upto (by omega) fun q hq => h q (by omega)) (by rw [h j (by omega)]; rfl)
theorem chk_right {l : List CallV} {row : List ReqV} (h : ∀ q, q < 7 → look l row q = none) : chkV l row = (0, 0) := by
  rw [chk_upto (Nat.le_refl 7) h]; rfl
end Go.Proofs.YtbmmknchcdhefaaGreatDoor
