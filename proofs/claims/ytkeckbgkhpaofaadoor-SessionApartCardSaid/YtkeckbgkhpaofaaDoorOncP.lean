/-
  Sessions as plain functions; SessionOnce as a plain law.
-/
import Derived.Test.YtkeckbgkhpaofaaDoorOncD
namespace Go.Proofs.YtkeckbgkhpaofaaDoor
open Go.RowKit Go.Sx
set_option linter.unusedVariables false
set_option linter.unusedSimpArgs false
set_option maxRecDepth 100000

abbrev TS := List LastV × Pairs
def Valid (r : ReqV) : Prop := 1 ≤ r.client ∧ r.client ≤ 8 ∧ r.time ≠ 0
instance (r : ReqV) : Decidable (Valid r) := by unfold Valid; infer_instance
def ix (r : ReqV) : Nat := Int.toNat (r.client - 1)
theorem sdo_form {tl : List LastV} {m : Pairs} {r : ReqV} (hl : tl.length = 8) : sdo tl m r =
    if Valid r then
      (if r.time < (tl.getD (ix r) dLast).time then ((⟨13, ⟨#[]⟩⟩, false), tl, m)
      else if r.time = (tl.getD (ix r) dLast).time then (((tl.getD (ix r) dLast).reply, false), tl, m)
      else (((ldo m r.op).1, true), tl.set (ix r) ⟨r.time, (ldo m r.op).1⟩, (ldo m r.op).2))
    else ((⟨1, ⟨#[]⟩⟩, false), tl, m) := by
  unfold sdo
  by_cases hc : isClient r.client = true
  · have hc' := isClient_iff.1 hc
    rw [if_neg (by rw [hc]; decide)]
    by_cases ht : r.time = 0
    · rw [if_pos (by rw [ht]; rfl), if_neg (show ¬ Valid r from fun h => h.2.2 ht)]
    · have ht2 : ¬ (r.time == 0) = true := by simpa using ht
      rw [if_neg ht2, if_pos (show Valid r from ⟨hc'.1, hc'.2, ht⟩)]
      have hi : ix r < tl.length := by unfold ix; omega
      by_cases h1 : r.time < (tl.getD (ix r) dLast).time
      · rw [if_pos (show decide (r.time < (tl.getD (Int.toNat (r.client - 1)) dLast).time) = true from decide_eq_true h1), if_pos h1]
      · rw [if_neg (show ¬ decide (r.time < (tl.getD (Int.toNat (r.client - 1)) dLast).time) = true from fun hc => h1 (of_decide_eq_true hc)), if_neg h1]
        by_cases h2 : r.time = (tl.getD (ix r) dLast).time
        · rw [if_pos (show (r.time == (tl.getD (Int.toNat (r.client - 1)) dLast).time) = true from beq_iff_eq.2 h2), if_pos h2]
          rfl
        · rw [if_neg (show ¬ (r.time == (tl.getD (Int.toNat (r.client - 1)) dLast).time) = true from fun hc => h2 (beq_iff_eq.1 hc)), if_neg h2]
          have hg : ∀ v : LastV, (tl.set (Int.toNat (r.client - 1)) v).getD (Int.toNat (r.client - 1)) dLast = v := fun v => by
            rw [List.getD_eq_getElem?_getD, List.getElem?_set, if_pos rfl, if_pos (show Int.toNat (r.client - 1) < tl.length from hi)]; rfl
          rw [hg]
          rfl
  · rw [if_pos (by simpa using hc), if_neg (fun h => hc (isClient_iff.2 ⟨h.1, h.2.1⟩))]
structure TInv (s : TS) : Prop where
  len : s.1.length = 8
  inv : Inv s.2
theorem sdo_inv {s : TS} (r : ReqV) (h : TInv s) : TInv (sdo s.1 s.2 r).2 := by
  rw [sdo_form h.len]
  split
  · split
    · exact h
    · split
      · exact h
      · exact ⟨by simp only [List.length_set]; exact h.len, ldo_inv _ h.inv⟩
  · exact h
def tfrom (s : TS) (l : List ReqV) : TS := l.foldl (fun s r => (sdo s.1 s.2 r).2) s
def trun (l : List ReqV) : TS := tfrom (List.replicate 8 dLast, []) l
theorem tfrom_inv {s : TS} (l : List ReqV) (h : TInv s) : TInv (tfrom s l) := by
  induction l generalizing s with
  | nil => exact h
  | cons r l ih => exact ih (sdo_inv r h)
theorem t0_inv : TInv (List.replicate 8 dLast, []) := ⟨by simp, inv_nil⟩
theorem trun_inv (l : List ReqV) : TInv (trun l) := tfrom_inv l t0_inv
theorem tfrom_succ {s : TS} {l : List ReqV} {d : ReqV} {k : Nat} (hk : k < l.length) : tfrom s (l.take (k + 1)) = (sdo (tfrom s (l.take k)).1 (tfrom s (l.take k)).2 (l.getD k d)).2 := by
  rw [take_succ_getD (d := d) hk, tfrom, List.foldl_append]
  rfl
theorem trun_fst {l : List ReqV} {d : ReqV} {k : Nat} (hk : k < l.length) : (trun (l.take (k + 1))).1 = (sdo (trun (l.take k)).1 (trun (l.take k)).2 (l.getD k d)).2.1 := by
  rw [trun, tfrom_succ (d := d) hk]; rfl
theorem trun_snd {l : List ReqV} {d : ReqV} {k : Nat} (hk : k < l.length) : (trun (l.take (k + 1))).2 = (sdo (trun (l.take k)).1 (trun (l.take k)).2 (l.getD k d)).2.2 := by
  rw [trun, tfrom_succ (d := d) hk]; rfl

section
variable {s : TS} {r : ReqV}
theorem sdo_false (h : TInv s) (hf : (sdo s.1 s.2 r).1.2 = false) : (sdo s.1 s.2 r).2 = s := by
  rw [sdo_form h.len] at hf ⊢
  split
  · rename_i hv
    rw [if_pos hv] at hf
    split
    · rfl
    · rename_i h1
      rw [if_neg h1] at hf
      split
      · rfl
      · rename_i h2; rw [if_neg h2] at hf; cases hf
  · rfl
theorem sdo_true (h : TInv s) (ht : (sdo s.1 s.2 r).1.2 = true) : Valid r ∧ (s.1.getD (ix r) dLast).time < r.time ∧ sdo s.1 s.2 r = (((ldo s.2 r.op).1, true), s.1.set (ix r) ⟨r.time, (ldo s.2 r.op).1⟩, (ldo s.2 r.op).2) := by
  rw [sdo_form h.len] at ht ⊢
  by_cases hv : Valid r
  · rw [if_pos hv] at ht ⊢
    by_cases h1 : r.time < (s.1.getD (ix r) dLast).time
    · rw [if_pos h1] at ht; cases ht
    · rw [if_neg h1] at ht ⊢
      by_cases h2 : r.time = (s.1.getD (ix r) dLast).time
      · rw [if_pos h2] at ht; cases ht
      · rw [if_neg h2]
        exact ⟨hv, by omega, rfl⟩
  · rw [if_neg hv] at ht; cases ht
end
theorem sdo_same1 {l : List ReqV} {r : ReqV} (h : (sdo (trun l).1 (trun l).2 r).1.2 = false) : (sdo (trun l).1 (trun l).2 r).2.1 = (trun l).1 := by rw [sdo_false (trun_inv l) h]
theorem sdo_same2 {l : List ReqV} {r : ReqV} (h : (sdo (trun l).1 (trun l).2 r).1.2 = false) : (sdo (trun l).1 (trun l).2 r).2.2 = (trun l).2 := by rw [sdo_false (trun_inv l) h]

/-! ### Once -/
theorem once_same {l : List ReqV} {r : ReqV} {la : List LastV} (hla : la = dLast :: (trun l).1) (h : (sdo (trun l).1 (trun l).2 r).1.2 = false) : la = dLast :: (sdo (trun l).1 (trun l).2 r).2.1 := by
  rw [sdo_same1 h]; exact hla
theorem once_set {l : List ReqV} {r : ReqV} {la : List LastV} (hla : la = dLast :: (trun l).1) (h : (sdo (trun l).1 (trun l).2 r).1.2 = true) : la.set (Int.toNat r.client) ⟨r.time, (sdo (trun l).1 (trun l).2 r).1.1⟩ = dLast :: (sdo (trun l).1 (trun l).2 r).2.1 := by
  obtain ⟨hv, _, he⟩ := sdo_true (trun_inv l) h
  have hi : Int.toNat r.client = ix r + 1 := by unfold ix; have := hv.1; omega
  rw [he, hla, hi]
  rfl
theorem getD_cons_ix {tl : List LastV} {r : ReqV} (hv : 1 ≤ r.client) : (dLast :: tl).getD (Int.toNat r.client) dLast = tl.getD (ix r) dLast := by
  have hi : Int.toNat r.client = ix r + 1 := by unfold ix; omega
  rw [hi]
  rfl
theorem onceB_true {s : TS} (h : TInv s) {la : List LastV} (hla : la = dLast :: s.1) {r : ReqV} (hr : ReqV.OK r) : onceB s.1 s.2 la r = true := by
  subst hla
  unfold onceB
  by_cases hv : Valid r
  · have c0 : ¬ (((decide ((r.client : Int) < 1)) || (decide ((r.client : Int) > 8))) || (((r.time) : Int) == 0)) = true := by
      have h1 := hv.1
      have h2 := hv.2.1
      have h3 := hv.2.2
      simp
      refine ⟨⟨by omega, by omega⟩, h3⟩
    rw [if_neg c0, getD_cons_ix hv.1, sdo_form h.len, if_pos hv]
    generalize hx : s.1.getD (ix r) dLast = x
    by_cases h1 : r.time < x.time
    · rw [if_pos h1]
      have h2 : ¬ x.time < r.time := by omega
      have h3 : ¬ r.time = x.time := by omega
      have h4 : r.time ≤ x.time := by omega
      simp [h2, h3, h4]
    · rw [if_neg h1]
      by_cases h2 : r.time = x.time
      · rw [if_pos h2]
        simp [h2]
      · rw [if_neg h2]
        have h3 : x.time < r.time := by omega
        simp [h2, h3]
  · have c0 : (((decide ((r.client : Int) < 1)) || (decide ((r.client : Int) > 8))) || (((r.time) : Int) == 0)) = true := by
      simp only [Bool.or_eq_true, decide_eq_true_eq, beq_iff_eq]
      unfold Valid at hv
      omega
    rw [if_pos c0, sdo_form h.len, if_neg hv]
    rfl

/-! ### What was asked is settled -/
def Past (tl : List LastV) (r : ReqV) : Prop := Valid r → r.time ≤ (tl.getD (ix r) dLast).time
theorem past_false {s : TS} {r : ReqV} (h : TInv s) (hp : Past s.1 r) : (sdo s.1 s.2 r).1.2 = false := by
  cases hq : (sdo s.1 s.2 r).1.2 with
  | false => rfl
  | true =>
    obtain ⟨hv, hlt, _⟩ := sdo_true h hq
    have := hp hv
    omega
theorem time_up {s : TS} (h : TInv s) (r : ReqV) (j : Nat) : (s.1.getD j dLast).time ≤ ((sdo s.1 s.2 r).2.1.getD j dLast).time := by
  cases hq : (sdo s.1 s.2 r).1.2 with
  | false => rw [sdo_false h hq]; omega
  | true =>
    obtain ⟨hv, hlt, he⟩ := sdo_true h hq
    rw [he]
    simp only
    have hi : ix r < s.1.length := by rw [h.len]; unfold ix; have := hv.2.1; have := hv.1; omega
    rw [List.getD_eq_getElem?_getD (l := s.1.set _ _), List.getElem?_set]
    by_cases hj : ix r = j
    · subst hj
      rw [if_pos rfl, if_pos hi]
      simp only [Option.getD_some]
      omega
    · rw [if_neg hj, ← List.getD_eq_getElem?_getD]; omega
theorem past_now {s : TS} (h : TInv s) (r : ReqV) : Past (sdo s.1 s.2 r).2.1 r := by
  intro hv
  have hi : ix r < s.1.length := by rw [h.len]; unfold ix; have := hv.2.1; have := hv.1; omega
  cases hq : (sdo s.1 s.2 r).1.2 with
  | false =>
    rw [sdo_form h.len, if_pos hv] at hq ⊢
    by_cases h1 : r.time < (s.1.getD (ix r) dLast).time
    · rw [if_pos h1]; simp only; omega
    · rw [if_neg h1] at hq ⊢
      by_cases h2 : r.time = (s.1.getD (ix r) dLast).time
      · rw [if_pos h2]; simp only; omega
      · rw [if_neg h2] at hq; cases hq
  | true =>
    obtain ⟨_, hlt, he⟩ := sdo_true h hq
    rw [he]
    simp only
    rw [List.getD_eq_getElem?_getD, List.getElem?_set, if_pos rfl, if_pos hi]
    simp
theorem past_from : ∀ (l : List ReqV) (s : TS), TInv s → (∀ r, Past s.1 r → Past (tfrom s l).1 r) ∧ ∀ r ∈ l, Past (tfrom s l).1 r
  | [], s, h => ⟨fun _ h => h, fun r hr => nomatch hr⟩
  | q :: l, s, h => by
    obtain ⟨h1, h2⟩ := past_from l (sdo s.1 s.2 q).2 (sdo_inv q h)
    refine ⟨fun r hp => h1 r fun hv => Int.le_trans (hp hv) (time_up h q _), fun r hr => ?_⟩
    rcases List.mem_cons.1 hr with rfl | hr
    · exact h1 r (past_now h r)
    · exact h2 r hr
theorem settled (l : List ReqV) {r : ReqV} (hr : r ∈ l) : ¬ (sdo (trun l).1 (trun l).2 r).1.2 = true := by
  rw [past_false (trun_inv l) ((past_from l _ t0_inv).2 r hr)]
  decide
end Go.Proofs.YtkeckbgkhpaofaaDoor
