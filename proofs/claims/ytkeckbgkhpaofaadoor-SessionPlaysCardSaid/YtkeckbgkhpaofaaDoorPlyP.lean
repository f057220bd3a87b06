/-
  The document's table does what the program's does.
-/
import Derived.Test.YtkeckbgkhpaofaaDoorSesR
import Derived.Test.YtkeckbgkhpaofaaDoorLawR
namespace Go.Proofs.YtkeckbgkhpaofaaDoor
open Go.RowKit Go.Sx
set_option linter.unusedVariables false
set_option linter.unusedSimpArgs false
set_option maxRecDepth 100000

structure PI (s : TS) : Prop where
  inv : TInv s
theorem lst_nil10 : lst ([] : List (ByteArray × ByteArray)) = [] := List.eq_nil_of_length_eq_zero (by rw [lst_length]; rfl)
theorem rsdo_lst {t : List LastV} {m : Pairs} (h : TInv (t, m)) (r : ReqV) : rsdo t (lst m) r = ((sdo t m r).1, (sdo t m r).2.1, lst (sdo t m r).2.2) := by
  rw [sdo_form h.len]
  unfold rsdo
  by_cases hv : Valid r
  · have c0 : ¬ (((decide ((r.client : Int) < 1)) || (decide ((r.client : Int) > 8))) || ((r.time : Int) == 0)) = true := by
      have h1 := hv.1
      have h2 := hv.2.1
      have h3 := hv.2.2
      simp
      refine ⟨⟨by omega, by omega⟩, h3⟩
    rw [if_neg c0, if_pos hv]
    show (if decide (r.time < (t.getD (ix r) dLast).time) = true then _ else if (r.time == (t.getD (ix r) dLast).time) = true then _ else _) = _
    by_cases h1 : r.time < (t.getD (ix r) dLast).time
    · rw [if_pos (decide_eq_true h1), if_pos h1]
    · rw [if_neg (fun hc => h1 (of_decide_eq_true hc)), if_neg h1]
      by_cases h2 : r.time = (t.getD (ix r) dLast).time
      · rw [if_pos (beq_iff_eq.2 h2), if_pos h2]
        rfl
      · rw [if_neg (fun hc => h2 (beq_iff_eq.1 hc)), if_neg h2, rdo_lst h.inv]
        rfl
  · have c0 : (((decide ((r.client : Int) < 1)) || (decide ((r.client : Int) > 8))) || ((r.time : Int) == 0)) = true := by
      simp only [Bool.or_eq_true, decide_eq_true_eq, beq_iff_eq]
      unfold Valid at hv
      omega
    rw [if_pos c0, if_neg hv]
theorem sdo_tab {t : List LastV} {m : Pairs} (h : TInv (t, m)) (r : ReqV) : (sdo t m r).2.1.length = 8 := (sdo_inv r h).len
theorem rsdo_tab {t : List LastV} {m : Pairs} (h : TInv (t, m)) (r : ReqV) : (rsdo t (lst m) r).2.1.length = 8 := by rw [rsdo_lst h]; exact (sdo_inv r h).len
theorem PI.step {t : List LastV} {m : Pairs} (h : PI (t, m)) (r : ReqV) : PI ((sdo t m r).2.1, (sdo t m r).2.2) := ⟨sdo_inv r h.inv⟩
theorem PI.start {t : List LastV} (h : t.length = 8) : PI (t, []) := ⟨⟨h, inv_nil⟩⟩
theorem tof_len {l : List LastV} (h : tofOK l = true) : l.length = 8 := by
  unfold tofOK at h
  exact of_decide_eq_true (Bool.and_eq_true_iff.1 h).1
theorem tlast_in {l : List LastV} {i : Int} (h1 : 1 ≤ i) (h2 : i ≤ 8) : tlast l i = l.getD (Int.toNat (i - 1)) dLast := by
  unfold tlast
  rw [if_pos (isClient_iff.2 ⟨h1, h2⟩)]
theorem tlast_out {l : List LastV} {i : Int} (h : ¬ (1 ≤ i ∧ i ≤ 8)) : tlast l i = (⟨0, ⟨0, (⟨#[]⟩ : ByteArray)⟩⟩ : LastV) := by
  unfold tlast
  rw [if_neg (fun hc => h (isClient_iff.1 hc))]
end Go.Proofs.YtkeckbgkhpaofaaDoor
