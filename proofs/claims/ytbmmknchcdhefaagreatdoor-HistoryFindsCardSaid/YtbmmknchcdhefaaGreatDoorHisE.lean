/-
  What the ledger's plain function does, by kinds. Conditions: none beside each theorem's own.
-/
import Derived.Test.YtbmmknchcdhefaaGreatDoorSxT
import Derived.Test.YtbmmknchcdhefaaGreatDoorLawA
namespace Go.Proofs.YtbmmknchcdhefaaGreatDoor
open Go.RowKit Go.Sx
set_option linter.unusedVariables false
set_option linter.unusedSimpArgs false
set_option linter.unnecessarySimpa false
set_option maxRecDepth 100000
structure Inv (m : Pairs) : Prop where
  keys : Keyd m
  len : m.length ≤ 64
  key : ∀ x ∈ m, 1 ≤ x.1.size ∧ x.1.size ≤ 32
  val : ∀ x ∈ m, x.2.size ≤ 128
theorem inv_nil : Inv [] := ⟨by simp [Keyd], by simp, (fun x h => nomatch h), (fun x h => nomatch h)⟩
theorem Inv.short {m : Pairs} (h : Inv m) : Short m := fun x hx => Nat.le_trans (h.val x hx) (by decide)
theorem aset_mem {α β : Type} [DecidableEq α] {k : α} {v : β} : ∀ {m : List (α × β)} {x : α × β}, x ∈ aset m k v → x = (k, v) ∨ x ∈ m
  | [], x, h => by simp [aset] at h; exact .inl h
  | y :: m, x, h => by
    unfold aset at h
    split at h
    · rcases List.mem_cons.1 h with h | h
      · exact .inl h
      · exact .inr (List.mem_cons_of_mem _ h)
    · rcases List.mem_cons.1 h with h | h
      · exact .inr (List.mem_cons.2 (.inl h))
      · rcases aset_mem h with h | h
        · exact .inl h
        · exact .inr (List.mem_cons_of_mem _ h)
theorem Inv.aset {m : Pairs} (h : Inv m) {k v : ByteArray} (hk : 1 ≤ k.size ∧ k.size ≤ 32) (hv : v.size ≤ 128) (hf : (aget m k).isSome = true ∨ m.length < 64) : Inv (aset m k v) := by
  refine ⟨aset_apart k v m h.keys, ?_, fun x hx => ?_, fun x hx => ?_⟩
  · rw [aset_length]
    have := h.len
    rcases hf with hf | hf
    · rw [if_pos hf]; exact this
    · split <;> omega
  · rcases aset_mem hx with rfl | hx
    · exact hk
    · exact h.key x hx
  · rcases aset_mem hx with rfl | hx
    · exact hv
    · exact h.val x hx
theorem Inv.adel {m : Pairs} (h : Inv m) (k : ByteArray) : Inv (adel m k) :=
  ⟨adel_keys h.keys, Nat.le_trans (adel_sub k m).length_le h.len, fun x hx => h.key x ((adel_sub k m).subset hx), fun x hx => h.val x ((adel_sub k m).subset hx)⟩
abbrev KeyOK (s : ByteArray) : Prop := 1 ≤ s.size ∧ s.size ≤ 32
theorem size_zero {s : ByteArray} (h : s.size = 0) : s = ⟨#[]⟩ := by
  apply ByteArray.ext
  exact Array.eq_empty_of_size_eq_zero h
theorem keyed_iff {s : ByteArray} : keyed s = true ↔ KeyOK s := by
  unfold keyed
  simp only [Bool.and_eq_true, Bool.not_eq_true', decide_eq_false_iff_not, decide_eq_true_eq]
  constructor
  · rintro ⟨h1, h2⟩
    refine ⟨?_, by omega⟩
    rcases Nat.eq_zero_or_pos s.size with h | h
    · exact absurd (size_zero h) h1
    · exact h
  · rintro ⟨h1, h2⟩
    refine ⟨fun e => ?_, by omega⟩
    subst e
    exact absurd h1 (by decide)
theorem valued_iff {s : ByteArray} : valued s = true ↔ s.size ≤ 128 := by
  unfold valued
  simp only [decide_eq_true_eq]
  omega
structure MayF (o : OpV) : Prop where
  key : KeyOK o.key
  value : o.value.size ≤ 128
  old : o.old.size ≤ 128
  kind : o.kind = 1 ∨ o.kind = 2 ∨ o.kind = 3 ∨ o.kind = 4 ∨ (o.kind = 5 ∧ KeyOK o.dest ∧ o.dest ≠ o.key ∧ 1 ≤ o.amount ∧ o.amount ≤ 1125899906842624)
theorem may_facts {o : OpV} (h : may o = true) : MayF o := by
  unfold may at h
  have fin : ∀ {p : Prop} [Decidable p] (k : p → (o.kind = 1 ∨ o.kind = 2 ∨ o.kind = 3 ∨ o.kind = 4 ∨ (o.kind = 5 ∧ KeyOK o.dest ∧ o.dest ≠ o.key ∧ 1 ≤ o.amount ∧ o.amount ≤ 1125899906842624))),
      (if (decide p) = true then (if (keyed o.key) = true then (if (valued o.value) = true then valued o.old else false) else false) else false) = true → MayF o := by
    intro p _ k h
    split at h
    · rename_i hp
      split at h
      · rename_i h1
        split at h
        · rename_i h2
          exact ⟨keyed_iff.1 h1, valued_iff.1 h2, valued_iff.1 h, k (of_decide_eq_true hp)⟩
        · cases h
      · cases h
    · cases h
  by_cases h1 : (o.kind == 1) = true
  · rw [if_pos h1] at h; exact fin (fun _ => .inl (by simpa using h1)) h
  rw [if_neg h1] at h
  by_cases h2 : (o.kind == 3) = true
  · rw [if_pos h2] at h; exact fin (fun _ => .inr (.inr (.inl (by simpa using h2)))) h
  rw [if_neg h2] at h
  by_cases h3 : (o.kind == 4) = true
  · rw [if_pos h3] at h; exact fin (fun _ => .inr (.inr (.inr (.inl (by simpa using h3))))) h
  rw [if_neg h3] at h
  by_cases h4 : (o.kind == 2) = true
  · rw [if_pos h4] at h; exact fin (fun _ => .inr (.inl (by simpa using h4))) h
  rw [if_neg h4] at h
  by_cases h5 : (o.kind == 5) = true
  · rw [if_pos h5] at h
    by_cases a1 : (!(keyed o.dest)) = true
    · rw [if_pos a1] at h; cases h
    rw [if_neg a1] at h
    by_cases a2 : decide (o.dest = o.key) = true
    · rw [if_pos a2] at h; cases h
    rw [if_neg a2] at h
    by_cases a3 : decide (o.amount < 1) = true
    · rw [if_pos a3] at h; cases h
    rw [if_neg a3] at h
    by_cases a4 : decide (o.amount > 1125899906842624) = true
    · rw [if_pos a4] at h; cases h
    rw [if_neg a4] at h
    simp only [decide_eq_true_eq] at a2 a3 a4
    exact fin (fun _ => .inr (.inr (.inr (.inr ⟨by simpa using h5, keyed_iff.1 (by simpa using a1), a2, by omega, by omega⟩)))) h
  · rw [if_neg h5] at h; cases h
/-! ### By kinds -/
theorem ldo_not {m : Pairs} {o : OpV} (h : may o = false) : ldo m o = (⟨1, ⟨#[]⟩⟩, m) := by unfold ldo; rw [h]; rfl
theorem ldo_get {m : Pairs} {o : OpV} (h : may o = true) (hk : o.kind = 1) : ldo m o = match aget m o.key with | none => (⟨4, ⟨#[]⟩⟩, m) | some v => (⟨0, v⟩, m) := by
  unfold ldo; rw [h, hk]; cases hg : aget m o.key <;> simp [failed, lget, hg]
theorem ldo_put {m : Pairs} {o : OpV} (h : may o = true) (hk : o.kind = 2) : ldo m o = if full m o.key = true then (⟨7, ⟨#[]⟩⟩, m) else (⟨0, ⟨#[]⟩⟩, aset m o.key o.value) := by
  unfold ldo; rw [h, hk]; simp [failed, lput]
theorem ldo_del {m : Pairs} {o : OpV} (h : may o = true) (hk : o.kind = 3) : ldo m o = match aget m o.key with | none => (⟨4, ⟨#[]⟩⟩, m) | some v => (⟨0, v⟩, adel m o.key) := by
  unfold ldo; rw [h, hk]; cases hg : aget m o.key <;> simp [failed, ldrop, hg]
theorem ldo_swap {m : Pairs} {o : OpV} (h : may o = true) (hk : o.kind = 4) : ldo m o = match aget m o.key with | none => (⟨4, ⟨#[]⟩⟩, m) | some v => if v = o.old then (⟨0, ⟨#[]⟩⟩, aset m o.key o.value) else (⟨15, v⟩, m) := by
  unfold ldo; rw [h, hk]; cases hg : aget m o.key <;> simp [failed, lswap, hg]
theorem number_nil : number (⟨#[]⟩ : ByteArray) = (0, false) := by decide +kernel
def toNum (m : Pairs) (k : ByteArray) : Int := (number ((aget m k).getD ⟨#[]⟩)).1
theorem full_iff {m : Pairs} {k : ByteArray} : full m k = true ↔ aget m k = none ∧ 64 ≤ m.length := by
  unfold full
  cases hg : aget m k <;> simp
  omega
theorem ldo_move {m : Pairs} {o : OpV} (h : may o = true) (hk : o.kind = 5) : ldo m o = match aget m o.key with
    | none => (⟨4, ⟨#[]⟩⟩, m)
    | some v =>
      if (number v).2 = false ∨ (∃ w, aget m o.dest = some w ∧ (number w).2 = false) then (⟨5, ⟨#[]⟩⟩, m)
      else if (number v).1 < o.amount then (⟨14, v⟩, m)
      else if 1125899906842624 < toNum m o.dest + o.amount then (⟨6, ⟨#[]⟩⟩, m)
      else if full m o.dest = true then (⟨7, ⟨#[]⟩⟩, m)
      else (⟨0, dec ((number v).1 - o.amount)⟩, aset (aset m o.key (dec ((number v).1 - o.amount))) o.dest (dec (toNum m o.dest + o.amount))) := by
  obtain ⟨_, _, _, hm⟩ := may_facts h
  have hm : 1 ≤ o.amount ∧ o.amount ≤ 1125899906842624 := by
    rcases hm with h | h | h | h | h
    · omega
    · omega
    · omega
    · omega
    · exact h.2.2.2
  unfold ldo
  rw [h, hk]
  cases hg : aget m o.key with
  | none => simp [failed]
  | some v =>
    simp [lmove]
    by_cases h1 : (number v).2 = false
    · simp [h1, failed]
    · simp only [Bool.not_eq_false] at h1
      simp only [h1, Bool.true_eq_false, false_or, if_false]
      have hto : ∀ w, aget m o.dest = some w → (number w).2 = false → ((number ((aget m o.dest).getD ⟨#[]⟩)).2 = false) := fun w hw h => by rw [hw]; exact h
      by_cases h2 : ∃ w, aget m o.dest = some w ∧ (number w).2 = false
      · obtain ⟨w, hw, h3⟩ := h2
        rw [if_pos ⟨by rw [hw]; rfl, by rw [hw]; exact h3⟩, if_pos ⟨w, hw, h3⟩]
        rfl
      · rw [if_neg (fun hc => by
          obtain ⟨w, hw⟩ := Option.isSome_iff_exists.1 hc.1
          exact h2 ⟨w, hw, by have := hc.2; rw [hw] at this; exact this⟩), if_neg h2]
        have hwr : 0 ≤ toNum m o.dest ∧ toNum m o.dest ≤ 1125899906842624 := by
          unfold toNum
          cases hd : aget m o.dest with
          | none => simp [number_nil]
          | some w =>
            have : (number w).2 = true := by
              cases hq : (number w).2 with
              | true => rfl
              | false => exact absurd ⟨w, hd, hq⟩ h2
            exact (number_true this).2
        have hw2 : IntKind.u64.wrap ((number ((aget m o.dest).getD ⟨#[]⟩)).1 + o.amount) = toNum m o.dest + o.amount := u64w (by unfold toNum at hwr; omega) (by unfold toNum at hwr; omega)
        rw [hw2]
        simp only [failed]
theorem dec_size128 {n : Int} (h0 : 0 ≤ n) (h1 : n < 18446744073709551616) : (dec n).size ≤ 128 := by
  have := (dec_size n h0 h1).2; omega
theorem toNum_range {m : Pairs} {k : ByteArray} (h : ¬ ∃ w, aget m k = some w ∧ (number w).2 = false) : 0 ≤ toNum m k ∧ toNum m k ≤ 1125899906842624 := by
  unfold toNum
  cases hd : aget m k with
  | none => simp [number_nil]
  | some w =>
    have : (number w).2 = true := by
      cases hq : (number w).2 with
      | true => rfl
      | false => exact absurd ⟨w, hd, hq⟩ h
    exact (number_true this).2
theorem ldo_inv {m : Pairs} (o : OpV) (hi : Inv m) : Inv (ldo m o).2 := by
  cases hm : may o with
  | false => rw [ldo_not hm]; exact hi
  | true =>
    have F := may_facts hm
    rcases F.kind with hk | hk | hk | hk | hk
    · rw [ldo_get hm hk]; cases aget m o.key <;> exact hi
    · rw [ldo_put hm hk]
      split
      · exact hi
      · rename_i hf
        refine hi.aset F.key F.value ?_
        rw [full_iff] at hf
        cases hg : aget m o.key with
        | some v => exact .inl rfl
        | none =>
          right
          rcases Nat.lt_or_ge m.length 64 with h | h
          · exact h
          · exact absurd ⟨hg, h⟩ hf
    · rw [ldo_del hm hk]; cases aget m o.key
      · exact hi
      · exact hi.adel _
    · rw [ldo_swap hm hk]
      cases hg : aget m o.key with
      | none => exact hi
      | some v =>
        simp only
        split
        · exact hi.aset F.key F.value (.inl (by rw [hg]; rfl))
        · exact hi
    · obtain ⟨hk, hd, hne, ha1, ha2⟩ := hk
      rw [ldo_move hm hk]
      cases hg : aget m o.key with
      | none => exact hi
      | some v =>
        simp only
        split
        · exact hi
        · rename_i hn
          split
          · exact hi
          · rename_i hl
            split
            · exact hi
            · rename_i ht
              split
              · exact hi
              · rename_i hf
                have hv : (number v).2 = true := by
                  cases hq : (number v).2 with
                  | true => rfl
                  | false => exact absurd (.inl hq) hn
                obtain ⟨-, hv1, hv2⟩ := number_true hv
                obtain ⟨ht1, ht2⟩ := toNum_range (m := m) (k := o.dest) (fun hc => hn (.inr hc))
                refine (hi.aset F.key (dec_size128 (by omega) (by omega)) (.inl (by rw [hg]; rfl))).aset hd (dec_size128 (by omega) (by omega)) ?_
                rw [aget_aset, if_neg (fun e => hne e.symm), aset_length, hg]
                rw [full_iff] at hf
                simp only [Option.isSome_some, if_true]
                cases hg2 : aget m o.dest with
                | some w => exact .inl rfl
                | none =>
                  right
                  rcases Nat.lt_or_ge m.length 64 with h | h
                  · exact h
                  · exact absurd ⟨hg2, h⟩ hf
end Go.Proofs.YtbmmknchcdhefaaGreatDoor
