/-
  Calls that were answered by one order: what Check says of them. Conditions: none beside each theorem's own.
-/
import Derived.Test.YtbmmknchcdhefaaGreatDoorHisS
namespace Go.Proofs.YtbmmknchcdhefaaGreatDoor
open Go.RowKit Go.Sx
set_option linter.unusedVariables false
set_option linter.unusedSimpArgs false
set_option maxRecDepth 100000
theorem ofB_name {c : CallV} {q : ReqV} (h : ofB c q = true) : nameOf c = nameQ q := by
  have := of_decide_eq_true h
  unfold nameOf nameQ
  rw [this.1, this.2.1]
def DistQ (r : List ReqV) : Prop := ∀ i j, i < j → j < r.length → nameQ (r.getD i dReq) ≠ nameQ (r.getD j dReq)
theorem DistQ.ne {r : List ReqV} (h : DistQ r) {i j : Nat} (hi : i < r.length) (hj : j < r.length) (hn : nameQ (r.getD i dReq) = nameQ (r.getD j dReq)) : i = j := by
  rcases Nat.lt_trichotomy i j with h1 | h1 | h1
  · exact absurd hn (h i j h1 hj)
  · exact h1
  · exact absurd hn.symm (h j i h1 hi)
structure Fit (l : List CallV) (r : List ReqV) : Prop where
  len : l.length = r.length
  of : ∀ j, j < l.length → ofB (l.getD j dCall) (r.getD j dReq) = true
  dist : DistQ r
  over : ∀ i j, i < l.length → j < l.length → over1 (l.getD i dCall) (l.getD j dCall) = false
  early : ∀ i j, i < j → j < l.length → aheadB (l.getD j dCall) (l.getD i dCall) = false
def RepAt (l : List CallV) (r : List ReqV) (j : Nat) : Prop := (stepS r j).1.2 = true ∧ (stepS r j).1.1 = (l.getD j dCall).reply
theorem tw_c {l : List CallV} (h : ∀ i j, i < j → j < l.length → nameOf (l.getD i dCall) ≠ nameOf (l.getD j dCall)) : twO nameOf dCall l = none := firstO_none fun i hi => twP_no hi fun k hk => h k i hk hi
theorem tw_q {r : List ReqV} (h : DistQ r) : twO nameQ dReq r = none := firstO_none fun i hi => twP_no hi fun k hk => h k i hk hi
theorem place_at {c : CallV} {r : List ReqV} {j : Nat} (hj : j < r.length) (ho : ofB c (r.getD j dReq) = true) (hd : DistQ r) : placeI c r = ((j : Nat) : Int) := by
  rw [placeI, idx_at (k := j) hj ho (fun i hi => by
    cases hx : ofB c (r.getD i dReq) with
    | false => rfl
    | true => exact absurd ((ofB_name hx).symm.trans (ofB_name ho)) (hd i j hi hj))]
  rfl
theorem place_no {c : CallV} {r : List ReqV} (h : ∀ i, i < r.length → nameQ (r.getD i dReq) ≠ nameOf c) : placeI c r = -1 := by
  rw [placeI, idx_none (fun i hi => by
    cases hx : ofB c (r.getD i dReq) with
    | false => rfl
    | true => exact absurd (ofB_name hx).symm (h i hi))]
  rfl
section
variable {l : List CallV} {r : List ReqV}
theorem Fit.name (h : Fit l r) {j : Nat} (hj : j < l.length) : nameOf (l.getD j dCall) = nameQ (r.getD j dReq) := ofB_name (h.of j hj)
theorem Fit.look0 (h : Fit l r) (x : List ReqV) : look l x 0 = none := tw_c fun i j hij hj => by
  rw [h.name (by omega), h.name hj]
  exact h.dist i j hij (by have := h.len; omega)
theorem Fit.look1 (h : Fit l r) (x : List ReqV) : look l x 1 = none := idx_none fun i hi => idx_no fun k hk => h.over i k hi hk
theorem look2 {x : List ReqV} (h : ∀ i, i < x.length → ∃ j, j < l.length ∧ ofB (l.getD j dCall) (x.getD i dReq) = true) : look l x 2 = none := idx_none fun i hi => by
  obtain ⟨j, h1, h2⟩ := h i hi
  rw [forB, idx_is (p := fun c => ofB c (x.getD i dReq)) h1 h2]
  rfl
theorem Fit.look2 (h : Fit l r) : look l r 2 = none := Go.Proofs.YtbmmknchcdhefaaGreatDoor.look2 fun i hi => ⟨i, by rw [h.len]; exact hi, h.of i (by rw [h.len]; exact hi)⟩
theorem Fit.look3 (h : Fit l r) : look l r 3 = none := tw_q h.dist
theorem Fit.place (h : Fit l r) {j : Nat} (hj : j < l.length) : placeI (l.getD j dCall) r = ((j : Nat) : Int) := place_at (by rw [← h.len]; exact hj) (h.of j hj) h.dist
theorem Fit.miss (h : Fit l r) {j : Nat} (hj : j < l.length) : missB r (l.getD j dCall) = false := by
  unfold missB
  split
  · rw [h.place hj]
    exact decide_eq_false (by omega)
  · rfl
theorem Fit.look4 (h : Fit l r) : look l r 4 = none := idx_none fun i hi => h.miss hi
theorem Fit.oth (h : Fit l r) {j : Nat} (hj : j < l.length) (hr : (l.getD j dCall).done = true → RepAt l r j) : othB (repM r r.length) r (l.getD j dCall) = false := by
  unfold othB
  split
  · rename_i hd
    obtain ⟨h1, h2⟩ := hr hd
    rw [h.place hj, repM_get r r.length (by rw [← h.len]; exact hj), if_pos h1, h2]
    simp
  · rfl
theorem Fit.othT (h : Fit l r) {j : Nat} (hj : j < l.length) (hd : (l.getD j dCall).done = true) (h1 : (stepS r j).1.2 = true) (h2 : (stepS r j).1.1 ≠ (l.getD j dCall).reply) : othB (repM r r.length) r (l.getD j dCall) = true := by
  rw [othB, if_pos hd, h.place hj, repM_get r r.length (by rw [← h.len]; exact hj), if_pos h1]
  simpa using h2
theorem Fit.look6 (h : Fit l r) : look l r 6 = none := idx_none fun i hi => by
  rw [ear_eq (by rw [h.place hi]; omega)]
  refine idx_no fun k hk => ?_
  unfold ear1
  split
  · rename_i ha
    rw [h.place hi, h.place hk]
    refine decide_eq_false ?_
    rcases Nat.lt_or_ge i k with h1 | h1
    · rw [h.early i k h1 hk] at ha; cases ha
    · omega
  · rfl
theorem fit_right (h : Fit l r) (hr : ∀ j, j < l.length → (l.getD j dCall).done = true → RepAt l r j) : chkV l r = (0, 0) := by
  refine chk_right fun q hq => ?_
  match q, hq with
  | 0, _ => exact h.look0 _
  | 1, _ => exact h.look1 _
  | 2, _ => exact h.look2
  | 3, _ => exact h.look3
  | 4, _ => exact h.look4
  | 5, _ => exact idx_none fun i hi => h.oth hi (hr i hi)
  | 6, _ => exact h.look6
theorem fit_other (h : Fit l r) {k : Nat} (hk : k < l.length) (hr : ∀ j, j < k → (l.getD j dCall).done = true → RepAt l r j) (hd : (l.getD k dCall).done = true) (h1 : (stepS r k).1.2 = true) (h2 : (stepS r k).1.1 ≠ (l.getD k dCall).reply) : chkV l r = (6, ((k : Nat) : Int)) := by
  refine chk_first (j := 5) (by decide) (fun q hq => ?_) (idx_at hk (h.othT hk hd h1 h2) fun i hi => h.oth (by omega) (hr i hi))
  match q, hq with
  | 0, _ => exact h.look0 _
  | 1, _ => exact h.look1 _
  | 2, _ => exact h.look2
  | 3, _ => exact h.look3
  | 4, _ => exact h.look4
theorem getD_app {α : Type} {x y : List α} {d : α} {i : Nat} : (x ++ y).getD i d = if i < x.length then x.getD i d else y.getD (i - x.length) d := by
  rw [List.getD_eq_getElem?_getD, List.getElem?_append]
  split <;> rw [List.getD_eq_getElem?_getD]
theorem cut_get {α : Type} {x : List α} {d : α} {k i : Nat} (hk : k < x.length) : (x.take k ++ x.drop (k + 1)).getD i d = x.getD (if i < k then i else i + 1) d := by
  rw [getD_app, List.length_take, Nat.min_eq_left (Nat.le_of_lt hk)]
  split
  · rw [List.getD_eq_getElem?_getD, List.getElem?_take, if_pos (by assumption), List.getD_eq_getElem?_getD]
  · rw [List.getD_eq_getElem?_getD, List.getElem?_drop, List.getD_eq_getElem?_getD]
    rw [show k + 1 + (i - k) = i + 1 by omega]
theorem cut_length {α : Type} {x : List α} {k : Nat} (hk : k < x.length) : (x.take k ++ x.drop (k + 1)).length = x.length - 1 := by
  rw [List.length_append, List.length_take, List.length_drop]
  omega
theorem fit_short (h : Fit l r) {k : Nat} (hk : k < l.length) (hd : (l.getD k dCall).done = true) : chkV l (r.take k ++ r.drop (k + 1)) = (5, ((k : Nat) : Int)) := by
  have hkr : k < r.length := by rw [← h.len]; exact hk
  have hlen := cut_length hkr
  have hl := h.len
  have hdq : DistQ (r.take k ++ r.drop (k + 1)) := fun i j hij hj hn => by
    rw [cut_get hkr, cut_get hkr] at hn
    have := h.dist.ne (by split <;> omega) (by split <;> omega) hn
    split at this <;> split at this <;> omega
  have hm : ∀ i, i < k → missB (r.take k ++ r.drop (k + 1)) (l.getD i dCall) = false := fun i hi => by
    unfold missB
    split
    · rw [place_at (j := i) (by omega) (by rw [cut_get hkr, if_pos hi]; exact h.of i (by omega)) hdq]
      exact decide_eq_false (by omega)
    · rfl
  have hmk : missB (r.take k ++ r.drop (k + 1)) (l.getD k dCall) = true := by
    rw [missB, if_pos hd, place_no (fun i hi hn => ?_)]
    · rfl
    · rw [cut_get hkr, h.name hk] at hn
      have := h.dist.ne (by split <;> omega) hkr hn
      split at this <;> omega
  refine chk_first (j := 4) (by decide) (fun q hq => ?_) (idx_at hk hmk hm)
  match q, hq with
  | 0, _ => exact h.look0 _
  | 1, _ => exact h.look1 _
  | 2, _ =>
    refine look2 fun i hi => ⟨if i < k then i else i + 1, by split <;> omega, ?_⟩
    rw [cut_get hkr]
    exact h.of _ (by split <;> omega)
  | 3, _ => exact tw_q hdq
theorem fit_more (h : Fit l r) {f : ReqV} (hf : ∀ j, j < l.length → nameOf (l.getD j dCall) ≠ nameQ f) : chkV l (r ++ [f]) = (3, ((r.length : Nat) : Int)) := by
  have hfk : forB l ((r ++ [f]).getD r.length dReq) = true := by
    rw [getD_app, if_neg (by omega), Nat.sub_self, forB, idx_no (p := fun c => ofB c ([f].getD 0 dReq)) fun j hj => ?_]
    · rfl
    · cases hx : ofB (l.getD j dCall) ([f].getD 0 dReq) with
      | false => rfl
      | true => exact absurd (ofB_name hx) (hf j hj)
  refine chk_first (j := 2) (by decide) (fun q hq => ?_) (idx_at (by simp) hfk fun i hi => ?_)
  · match q, hq with
    | 0, _ => exact h.look0 _
    | 1, _ => exact h.look1 _
  · rw [getD_app, if_pos hi, forB, idx_is (p := fun c => ofB c (r.getD i dReq)) (k := i) (by rw [h.len]; exact hi) (h.of i (by rw [h.len]; exact hi))]
    rfl
end
end Go.Proofs.YtbmmknchcdhefaaGreatDoor
