/-
  Calls that were answered by one order: what Check says of them. Conditions: none beside each theorem's own.
-/
import Derived.Test.YtbmmknchcdhefaaGreatDoorHisS
namespace Go.Proofs.YtbmmknchcdhefaaGreatDoor
open Go.RowKit Go.Sx
set_option linter.unusedVariables false
set_option linter.unusedSimpArgs false
set_option maxRecDepth 100000
theorem ofB_name {c : CallV} {q : ReqV} (h : ofB c q = true) : nameOf c = nameQ q := by
  have := of_decide_eq_true h
  unfold nameOf nameQ
  rw [this.1, this.2.1]
def DistQ (r : List ReqV) : Prop := ∀ i j, i < j → j < r.length → nameQ (r.getD i dReq) ≠ nameQ (r.getD j dReq)
structure Fit (l : List CallV) (r : List ReqV) : Prop where
  len : l.length = r.length
  of : ∀ j, j < l.length → ofB (l.getD j dCall) (r.getD j dReq) = true
  dist : DistQ r
  over : ∀ i j, i < l.length → j < l.length → over1 (l.getD i dCall) (l.getD j dCall) = false
  early : ∀ i j, i < j → j < l.length → aheadB (l.getD j dCall) (l.getD i dCall) = false
def RepAt (l : List CallV) (r : List ReqV) (j : Nat) : Prop := (stepS r j).1.2 = true ∧ (stepS r j).1.1 = (l.getD j dCall).reply
theorem tw_c {l : List CallV} (h : ∀ i j, i < j → j < l.length → nameOf (l.getD i dCall) ≠ nameOf (l.getD j dCall)) : twO nameOf dCall l = none := firstO_none fun i hi => twP_no hi fun k hk => h k i hk hi
theorem tw_q {r : List ReqV} (h : DistQ r) : twO nameQ dReq r = none := firstO_none fun i hi => twP_no hi fun k hk => h k i hk hi
theorem place_at {c : CallV} {r : List ReqV} {j : Nat} (hj : j < r.length) (ho : ofB c (r.getD j dReq) = true) (hd : DistQ r) : placeI c r = ((j : Nat) : Int) := by
  rw [placeI, idx_at (k := j) hj ho (fun i hi => by
    cases hx : ofB c (r.getD i dReq) with
    | false => rfl
    | true => exact absurd ((ofB_name hx).symm.trans (ofB_name ho)) (hd i j hi hj))]
  rfl
section
variable {l : List CallV} {r : List ReqV}
theorem Fit.name (h : Fit l r) {j : Nat} (hj : j < l.length) : nameOf (l.getD j dCall) = nameQ (r.getD j dReq) := ofB_name (h.of j hj)
theorem Fit.look0 (h : Fit l r) (x : List ReqV) : look l x 0 = none := tw_c fun i j hij hj => by
  rw [h.name (by omega), h.name hj]
  exact h.dist i j hij (by have := h.len; omega)
theorem Fit.look1 (h : Fit l r) (x : List ReqV) : look l x 1 = none := idx_none fun i hi => idx_no fun k hk => h.over i k hi hk
theorem look2 {x : List ReqV} (h : ∀ i, i < x.length → ∃ j, j < l.length ∧ ofB (l.getD j dCall) (x.getD i dReq) = true) : look l x 2 = none := idx_none fun i hi => by
  obtain ⟨j, h1, h2⟩ := h i hi
  rw [forB, idx_is (p := fun c => ofB c (x.getD i dReq)) h1 h2]
  rfl
theorem Fit.look2 (h : Fit l r) : look l r 2 = none := Go.Proofs.YtbmmknchcdhefaaGreatDoor.look2 fun i hi => ⟨i, by rw [h.len]; exact hi, h.of i (by rw [h.len]; exact hi)⟩
theorem Fit.look3 (h : Fit l r) : look l r 3 = none := tw_q h.dist
theorem Fit.place (h : Fit l r) {j : Nat} (hj : j < l.length) : placeI (l.getD j dCall) r = ((j : Nat) : Int) := place_at (by rw [← h.len]; exact hj) (h.of j hj) h.dist
theorem Fit.miss (h : Fit l r) {j : Nat} (hj : j < l.length) : missB r (l.getD j dCall) = false := by
  unfold missB
  split
  · rw [h.place hj]
    exact decide_eq_false (by omega)
  · rfl
theorem Fit.look4 (h : Fit l r) : look l r 4 = none := idx_none fun i hi => h.miss hi
theorem Fit.oth (h : Fit l r) {j : Nat} (hj : j < l.length) (hr : (l.getD j dCall).done = true → RepAt l r j) : othB (repM r r.length) r (l.getD j dCall) = false := by
  unfold othB
  split
  · rename_i hd
    obtain ⟨h1, h2⟩ := hr hd
    rw [h.place hj, repM_get r r.length (by rw [← h.len]; exact hj), if_pos h1, h2]
    simp
  · rfl
theorem Fit.look6 (h : Fit l r) : look l r 6 = none := idx_none fun i hi => by
  rw [ear_eq (by rw [h.place hi]; omega)]
  refine idx_no fun k hk => ?_
  unfold ear1
  split
  · rename_i ha
    rw [h.place hi, h.place hk]
    refine decide_eq_false ?_
    rcases Nat.lt_or_ge i k with h1 | h1
    · rw [h.early i k h1 hk] at ha; cases ha
    · omega
  · rfl
theorem fit_right (h : Fit l r) (hr : ∀ j, j < l.length → (l.getD j dCall).done = true → RepAt l r j) : chkV l r = (0, 0) := by
  refine chk_right fun q hq => ?_
  match q, hq with
  | 0, _ => exact h.look0 _
  | 1, _ => exact h.look1 _
  | 2, _ => exact h.look2
  | 3, _ => exact h.look3
  | 4, _ => exact h.look4
  | 5, _ => exact idx_none fun i hi => h.oth hi (hr i hi)
  | 6, _ => exact h.look6
theorem getD_app {α : Type} {x y : List α} {d : α} {i : Nat} : (x ++ y).getD i d = if i < x.length then x.getD i d else y.getD (i - x.length) d := by
  rw [List.getD_eq_getElem?_getD, List.getElem?_append]
  split <;> rw [List.getD_eq_getElem?_getD]
end
end Go.Proofs.YtbmmknchcdhefaaGreatDoor
