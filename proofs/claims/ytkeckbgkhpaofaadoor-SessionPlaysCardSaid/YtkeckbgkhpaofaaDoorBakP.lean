/-
  Sessions that list the same go on alike.
-/
import Derived.Test.YtkeckbgkhpaofaaDoorSesO
import Derived.Test.YtkeckbgkhpaofaaDoorOncP
namespace Go.Proofs.YtkeckbgkhpaofaaDoor
open Go.RowKit Go.Sx
set_option linter.unusedVariables false
set_option linter.unusedSimpArgs false
set_option maxRecDepth 100000

theorem bad_set {r : ReqV} {x : RepV} (h : r.time ≠ 0) : badLast ⟨r.time, x⟩ = false := by
  unfold badLast
  have : (r.time == 0) = false := by simpa using h
  simp [h]
theorem tab_ok {s : TS} (l : List ReqV) (hi : TInv s) (h : ∀ x ∈ s.1, badLast x = false) : ∀ x ∈ (tfrom s l).1, badLast x = false := by
  induction l generalizing s with
  | nil => exact h
  | cons r l ih =>
    refine ih (s := (sdo s.1 s.2 r).2) (sdo_inv r hi) fun x hx => ?_
    cases hq : (sdo s.1 s.2 r).1.2 with
    | false => rw [sdo_false hi hq] at hx; exact h x hx
    | true =>
      obtain ⟨hv, _, he⟩ := sdo_true hi hq
      rw [he] at hx
      rcases List.mem_or_eq_of_mem_set hx with hx | hx
      · exact h x hx
      · rw [hx]; exact bad_set hv.2.2
theorem trun_ok (l : List ReqV) : tofOK (trun l).1 = true := by
  have h1 : (trun l).1.any badLast = false := by
    rw [List.any_eq_false]
    intro x hx
    rw [tab_ok l t0_inv (fun x hx => by rw [List.eq_of_mem_replicate hx]; decide) x hx]
    decide
  rw [tofOK, h1, (trun_inv l).len]
  rfl
structure RE (s s' : TS) : Prop where
  inv : TInv s
  inv' : TInv s'
  tab : s.1 = s'.1
  eqv : Eqv s.2 s'.2
theorem re_start (l : List ReqV) : RE (trun l) ((trun l).1, pairsOf (lst (trun l).2)) :=
  ⟨trun_inv l, ⟨(trun_inv l).len, pairs_inv (trun_inv l).inv⟩, rfl, eqv_pairs (trun_inv l).inv⟩
theorem RE.step {s s' : TS} (h : RE s s') (r : ReqV) : (sdo s.1 s.2 r).1 = (sdo s'.1 s'.2 r).1 ∧ RE (sdo s.1 s.2 r).2 (sdo s'.1 s'.2 r).2 := by
  have h1 := sdo_inv r h.inv
  have h2 := sdo_inv r h.inv'
  rw [sdo_form h.inv.len] at h1 ⊢
  rw [sdo_form h.inv'.len] at h2 ⊢
  have ht := h.tab
  obtain ⟨t, m⟩ := s
  obtain ⟨t', m'⟩ := s'
  simp only at ht
  subst ht
  have hE : Eqv m m' := h.eqv
  split
  · rename_i hv
    rw [if_pos hv] at h1 h2
    split
    · exact ⟨rfl, h⟩
    · rename_i c1
      rw [if_neg c1] at h1 h2
      split
      · exact ⟨rfl, h⟩
      · rename_i c2
        rw [if_neg c2] at h1 h2
        refine ⟨by simp only [hE.reply], h1, h2, by simp only [hE.reply], hE.next _⟩
  · exact ⟨rfl, h⟩
theorem RE.reply1 {s s' : TS} (h : RE s s') {r : ReqV} : (sdo s.1 s.2 r).1.1 = (sdo s'.1 s'.2 r).1.1 := by rw [(h.step r).1]
theorem RE.reply2 {s s' : TS} (h : RE s s') {r : ReqV} : (sdo s.1 s.2 r).1.2 = (sdo s'.1 s'.2 r).1.2 := by rw [(h.step r).1]
end Go.Proofs.YtkeckbgkhpaofaaDoor
