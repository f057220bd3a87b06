/-
  Sessions as plain functions; the document's table does what the program's does. Conditions: none beside each theorem's own.
-/
import Derived.Test.YtbmmknchcdhefaaGreatDoorSxT
import Derived.Test.YtbmmknchcdhefaaGreatDoorHisT
import Derived.Test.YtbmmknchcdhefaaGreatDoorHisR
namespace Go.Proofs.YtbmmknchcdhefaaGreatDoor
open Go.RowKit Go.Sx
set_option linter.unusedVariables false
set_option linter.unusedSimpArgs false
set_option linter.unnecessarySimpa false
set_option maxRecDepth 100000
abbrev TS := List LastV × Pairs
def Valid (r : ReqV) : Prop := 1 ≤ r.client ∧ r.client ≤ 8 ∧ r.time ≠ 0
instance (r : ReqV) : Decidable (Valid r) := by unfold Valid; infer_instance
def ix (r : ReqV) : Nat := Int.toNat (r.client - 1)
theorem sdo_form {tl : List LastV} {m : Pairs} {r : ReqV} (hl : tl.length = 8) : sdo tl m r =
    if Valid r then
      (if r.time < (tl.getD (ix r) dLast).time then ((⟨13, ⟨#[]⟩⟩, false), tl, m)
      else if r.time = (tl.getD (ix r) dLast).time then (((tl.getD (ix r) dLast).reply, false), tl, m)
      else (((ldo m r.op).1, true), tl.set (ix r) ⟨r.time, (ldo m r.op).1⟩, (ldo m r.op).2))
    else ((⟨1, ⟨#[]⟩⟩, false), tl, m) := by
  unfold sdo
  by_cases hc : isClient r.client = true
  · have hc' := isClient_iff.1 hc
    rw [if_neg (by rw [hc]; decide)]
    by_cases ht : r.time = 0
    · rw [if_pos (by rw [ht]; rfl), if_neg (show ¬ Valid r from fun h => h.2.2 ht)]
    · have ht2 : ¬ (r.time == 0) = true := by simpa using ht
      rw [if_neg ht2, if_pos (show Valid r from ⟨hc'.1, hc'.2, ht⟩)]
      have hi : ix r < tl.length := by unfold ix; omega
      by_cases h1 : r.time < (tl.getD (ix r) dLast).time
      · rw [if_pos (show decide (r.time < (tl.getD (Int.toNat (r.client - 1)) dLast).time) = true from decide_eq_true h1), if_pos h1]
      · rw [if_neg (show ¬ decide (r.time < (tl.getD (Int.toNat (r.client - 1)) dLast).time) = true from fun hc => h1 (of_decide_eq_true hc)), if_neg h1]
        by_cases h2 : r.time = (tl.getD (ix r) dLast).time
        · rw [if_pos (show (r.time == (tl.getD (Int.toNat (r.client - 1)) dLast).time) = true from beq_iff_eq.2 h2), if_pos h2]
          rfl
        · rw [if_neg (show ¬ (r.time == (tl.getD (Int.toNat (r.client - 1)) dLast).time) = true from fun hc => h2 (beq_iff_eq.1 hc)), if_neg h2]
          have hg : ∀ v : LastV, (tl.set (Int.toNat (r.client - 1)) v).getD (Int.toNat (r.client - 1)) dLast = v := fun v => by
            rw [List.getD_eq_getElem?_getD, List.getElem?_set, if_pos rfl, if_pos (show Int.toNat (r.client - 1) < tl.length from hi)]; rfl
          rw [hg]
          rfl
  · rw [if_pos (by simpa using hc), if_neg (fun h => hc (isClient_iff.2 ⟨h.1, h.2.1⟩))]
structure TInv (s : TS) : Prop where
  len : s.1.length = 8
  inv : Inv s.2
theorem sdo_inv {s : TS} (r : ReqV) (h : TInv s) : TInv (sdo s.1 s.2 r).2 := by
  rw [sdo_form h.len]
  split
  · split
    · exact h
    · split
      · exact h
      · exact ⟨by simp only [List.length_set]; exact h.len, ldo_inv _ h.inv⟩
  · exact h
def tfrom (s : TS) (l : List ReqV) : TS := l.foldl (fun s r => (sdo s.1 s.2 r).2) s
def trun (l : List ReqV) : TS := tfrom (List.replicate 8 dLast, []) l
theorem tfrom_inv {s : TS} (l : List ReqV) (h : TInv s) : TInv (tfrom s l) := by
  induction l generalizing s with
  | nil => exact h
  | cons r l ih => exact ih (sdo_inv r h)
theorem t0_inv : TInv (List.replicate 8 dLast, []) := ⟨by simp, inv_nil⟩
theorem trun_inv (l : List ReqV) : TInv (trun l) := tfrom_inv l t0_inv
theorem tfrom_succ {s : TS} {l : List ReqV} {d : ReqV} {k : Nat} (hk : k < l.length) : tfrom s (l.take (k + 1)) = (sdo (tfrom s (l.take k)).1 (tfrom s (l.take k)).2 (l.getD k d)).2 := by
  rw [take_succ_getD (d := d) hk, tfrom, List.foldl_append]
  rfl
theorem trun_fst {l : List ReqV} {d : ReqV} {k : Nat} (hk : k < l.length) : (trun (l.take (k + 1))).1 = (sdo (trun (l.take k)).1 (trun (l.take k)).2 (l.getD k d)).2.1 := by
  rw [trun, tfrom_succ (d := d) hk]; rfl
theorem trun_snd {l : List ReqV} {d : ReqV} {k : Nat} (hk : k < l.length) : (trun (l.take (k + 1))).2 = (sdo (trun (l.take k)).1 (trun (l.take k)).2 (l.getD k d)).2.2 := by
  rw [trun, tfrom_succ (d := d) hk]; rfl
section
variable {s : TS} {r : ReqV}
end
theorem lst_nil10 : lst ([] : List (ByteArray × ByteArray)) = [] := List.eq_nil_of_length_eq_zero (by rw [lst_length]; rfl)
theorem rsdo_lst {t : List LastV} {m : Pairs} (h : TInv (t, m)) (r : ReqV) : rsdo t (lst m) r = ((sdo t m r).1, (sdo t m r).2.1, lst (sdo t m r).2.2) := by
  rw [sdo_form h.len]
  unfold rsdo
  by_cases hv : Valid r
  · have c0 : ¬ (((decide ((r.client : Int) < 1)) || (decide ((r.client : Int) > 8))) || ((r.time : Int) == 0)) = true := by
      have h1 := hv.1
      have h2 := hv.2.1
      have h3 := hv.2.2
      simp
      refine ⟨⟨by omega, by omega⟩, h3⟩
    rw [if_neg c0, if_pos hv]
    show (if decide (r.time < (t.getD (ix r) dLast).time) = true then _ else if (r.time == (t.getD (ix r) dLast).time) = true then _ else _) = _
    by_cases h1 : r.time < (t.getD (ix r) dLast).time
    · rw [if_pos (decide_eq_true h1), if_pos h1]
    · rw [if_neg (fun hc => h1 (of_decide_eq_true hc)), if_neg h1]
      by_cases h2 : r.time = (t.getD (ix r) dLast).time
      · rw [if_pos (beq_iff_eq.2 h2), if_pos h2]
        rfl
      · rw [if_neg (fun hc => h2 (beq_iff_eq.1 hc)), if_neg h2, rdo_lst h.inv]
        rfl
  · have c0 : (((decide ((r.client : Int) < 1)) || (decide ((r.client : Int) > 8))) || ((r.time : Int) == 0)) = true := by
      simp only [Bool.or_eq_true, decide_eq_true_eq, beq_iff_eq]
      unfold Valid at hv
      omega
    rw [if_pos c0, if_neg hv]
end Go.Proofs.YtbmmknchcdhefaaGreatDoor
