/-
  Plain facts for the laws of layer 9: association lists, what a ledger lists, numbers.
-/
import Derived.Test.YtbmmknchcdhefaaGreatDoorSxT
import Derived.Test.YtbmmknchcdhefaaGreatDoorLedG
namespace Go.Proofs.YtbmmknchcdhefaaGreatDoor
open Go.RowKit Go.Sx
set_option linter.unusedVariables false
set_option linter.unusedSimpArgs false
set_option maxRecDepth 100000
section
variable {α β : Type} [DecidableEq α] {m : List (α × β)} {k k' : α} {v : β}
theorem aget_nil : aget ([] : List (α × β)) k = none := rfl
theorem aget_cons (x : α × β) (m : List (α × β)) (k : α) : aget (x :: m) k = if x.1 = k then some x.2 else aget m k := by
  unfold aget
  rw [List.find?_cons]
  by_cases h : x.1 = k <;> simp [h]
theorem aget_aset (m : List (α × β)) (k k' : α) (v : β) : aget (aset m k v) k' = if k = k' then some v else aget m k' := by
  induction m with
  | nil => simp [aset, aget_cons, aget_nil]
  | cons x m ih =>
    unfold aset
    by_cases h : x.1 = k
    · rw [if_pos h, aget_cons, aget_cons]
      by_cases h2 : k = k'
      · simp [h2]
      · simp only [if_neg h2]
        rw [if_neg (fun e => h2 (h.symm.trans e))]
    · rw [if_neg h, aget_cons, aget_cons, ih]
      by_cases h2 : x.1 = k'
      · rw [if_pos h2, if_pos h2, if_neg (fun e => h (h2.trans e.symm))]
      · rw [if_neg h2, if_neg h2]
theorem aget_some_mem (h : aget m k = some v) : (k, v) ∈ m := by
  unfold aget at h
  cases hf : m.find? fun x => decide (x.1 = k) with
  | none => rw [hf] at h; cases h
  | some x =>
    rw [hf] at h
    simp only [Option.map_some, Option.some.injEq] at h
    have h1 := List.mem_of_find?_eq_some hf
    have h2 : x.1 = k := by simpa using List.find?_some hf
    rw [← h, ← h2]
    exact h1
theorem aget_mem (hn : (m.map fun y : α × β => y.1).Nodup) (h : (k, v) ∈ m) : aget m k = some v := by
  induction m with
  | nil => cases h
  | cons x m ih =>
    simp only [List.map_cons, List.nodup_cons] at hn
    rw [aget_cons]
    rcases List.mem_cons.1 h with rfl | h
    · simp
    · have hne : ¬ x.1 = k := fun e => hn.1 (e ▸ List.mem_map.2 ⟨(k, v), h, rfl⟩)
      rw [if_neg hne]
      exact ih hn.2 h
theorem aget_none_of (h : ∀ x ∈ m, x.1 ≠ k) : aget m k = none := by
  cases hg : aget m k with
  | none => rfl
  | some v => exact absurd rfl (h _ (aget_some_mem hg))
theorem aget_adel (hn : (m.map fun y : α × β => y.1).Nodup) : aget (adel m k) k' = if k = k' then none else aget m k' := by
  induction m with
  | nil => simp [adel, aget_nil]
  | cons x m ih =>
    simp only [List.map_cons, List.nodup_cons] at hn
    unfold adel
    by_cases h : x.1 = k
    · rw [if_pos h, aget_cons]
      by_cases h2 : k = k'
      · rw [if_pos h2]
        refine aget_none_of fun y hy e => hn.1 ?_
        rw [h, h2, ← e]
        exact List.mem_map.2 ⟨y, hy, rfl⟩
      · rw [if_neg h2, if_neg (fun e => h2 (h.symm.trans e))]
    · rw [if_neg h, aget_cons, aget_cons, ih hn.2]
      by_cases h2 : x.1 = k'
      · rw [if_pos h2, if_pos h2, if_neg (fun e => h (h2.trans e.symm))]
      · rw [if_neg h2, if_neg h2]
theorem aset_length (m : List (α × β)) (k : α) (v : β) : (aset m k v).length = if (aget m k).isSome then m.length else m.length + 1 := by
  induction m with
  | nil => simp [aset, aget_nil]
  | cons x m ih =>
    unfold aset
    rw [aget_cons]
    by_cases h : x.1 = k
    · simp [h]
    · rw [if_neg h, if_neg h, List.length_cons, ih]
      cases (aget m k).isSome <;> simp
theorem adel_keys (hn : (m.map fun y : α × β => y.1).Nodup) : ((adel m k).map fun y : α × β => y.1).Nodup := hn.sublist ((adel_sub k m).map _)
end
/-! ### What is listed -/
abbrev Pairs := List (ByteArray × ByteArray)
abbrev Keyd (m : Pairs) : Prop := (m.map fun y : ByteArray × ByteArray => y.1).Nodup
theorem lst_mem {m : Pairs} {x : ItemV} : x ∈ lst m ↔ (x.key, x.value) ∈ m := by
  rw [(lst_perm m).mem_iff, itemsOf, List.mem_map]
  constructor
  · rintro ⟨y, hy, rfl⟩; exact hy
  · intro h; exact ⟨_, h, rfl⟩
theorem lst_keys {m : Pairs} (hn : Keyd m) : ((lst m).map (·.key)).Nodup := by
  have : (itemsOf m).map (·.key) = m.map fun y : ByteArray × ByteArray => y.1 := by simp [itemsOf]
  exact (((lst_perm m).map (·.key)).nodup_iff).2 (by rw [this]; exact hn)
theorem nodup_of_keys {l : List ItemV} (h : (l.map (·.key)).Nodup) : l.Nodup := by
  rw [List.Nodup, List.pairwise_map] at h
  exact h.imp fun hne e => hne (congrArg ItemV.key e)
theorem rising_ext {l l' : List ItemV} (h1 : (l.map (·.key)).Nodup) (h2 : (l'.map (·.key)).Nodup) (s1 : l.Pairwise fun x y => slt y.key x.key = false) (s2 : l'.Pairwise fun x y => slt y.key x.key = false) (h : ∀ x, x ∈ l ↔ x ∈ l') : l = l' :=
  sorted_unique ((List.perm_ext_iff_of_nodup (nodup_of_keys h1) (nodup_of_keys h2)).2 h) h1 s1 s2
theorem lst_mem_aget {m : Pairs} (hn : Keyd m) {x : ItemV} : x ∈ lst m ↔ aget m x.key = some x.value := by
  rw [lst_mem]
  exact ⟨aget_mem hn, aget_some_mem⟩
theorem lst_rises {m : Pairs} (hn : Keyd m) : (lst m).Pairwise fun x y => slt x.key y.key = true := by
  have h1 := lst_keys hn
  rw [List.Nodup, List.pairwise_map] at h1
  refine (List.pairwise_and_iff.2 ⟨lst_sorted m, h1⟩).imp fun {a b} ⟨h2, h3⟩ => ?_
  cases h4 : slt a.key b.key with
  | true => rfl
  | false => exact absurd (slt_total h4 h2) h3
/-! ### Numbers -/
theorem bat_list (s : ByteArray) (k : Nat) : bat s k = (s.data.toList.getD k 0).toNat := by
  rw [bat, Array.getD_eq_getD_getElem?, List.getD_eq_getElem?_getD, Array.getElem?_toList]
theorem size_list (s : ByteArray) : s.data.toList.length = s.size := rfl
def nvl (l : List UInt8) : Nat := l.foldl (fun a c => a * 10 + (c.toNat - 48)) 0
def isDig (c : UInt8) : Bool := decide (48 ≤ c.toNat) && decide (c.toNat ≤ 57)
theorem nvl_snoc (l : List UInt8) (c : UInt8) : nvl (l ++ [c]) = nvl l * 10 + (c.toNat - 48) := by simp [nvl]
theorem foldl_lt : ∀ (l : List UInt8) (a : Nat), l.all isDig = true → l.foldl (fun a c => a * 10 + (c.toNat - 48)) a < (a + 1) * 10 ^ l.length
  | [], a, _ => by simp
  | c :: l, a, h => by
    simp only [List.all_cons, Bool.and_eq_true, isDig, decide_eq_true_eq] at h
    have := foldl_lt l (a * 10 + (c.toNat - 48)) (by simpa [isDig] using h.2)
    simp only [List.foldl_cons, List.length_cons, Nat.pow_succ]
    refine Nat.lt_of_lt_of_le this ?_
    rw [Nat.mul_comm (10 ^ l.length) 10, ← Nat.mul_assoc]
    exact Nat.mul_le_mul_right _ (by omega)
theorem nvl_lt {l : List UInt8} (h : l.all isDig = true) : nvl l < 10 ^ l.length := by
  have := foldl_lt l 0 h
  simpa [nvl] using this
def num (s : ByteArray) : Int × Bool :=
  if 1 ≤ s.size ∧ s.size ≤ 16 ∧ s.data.toList.all isDig = true then ((nvl s.data.toList : Nat), decide ((nvl s.data.toList : Int) ≤ 1125899906842624) && decide (dec (nvl s.data.toList : Nat) = s)) else (0, false)
theorem dec_small {n : Int} (h0 : 0 ≤ n) (h : n < 10) : dec n = ⟨#[UInt8.ofNat (48 + n.toNat)]⟩ := by
  rw [dec, Lib.decDigits_one (by omega)]
theorem dec_step {n : Int} (h : 10 ≤ n) : dec n = dec (n / 10) ++ (⟨#[UInt8.ofNat (48 + (n % 10).toNat)]⟩ : ByteArray) := by
  have h1 : Lib.decDigits n.toNat = Lib.decDigits (n.toNat / 10) ++ [UInt8.ofNat (48 + n.toNat % 10)] := by
    rw [Lib.decDigits, dif_neg (by omega)]
  have h2 : (n / 10).toNat = n.toNat / 10 := by omega
  have h3 : (n % 10).toNat = n.toNat % 10 := by omega
  apply ByteArray.ext
  rw [ByteArray.data_append]
  simp only [dec, h1, h2, h3]
  simp
theorem parseM_ok {M : Nat} : ∀ (l : List UInt8) (acc u : Nat), Lib.parseUintM M acc l = .ok u → l.all isDig = true ∧ u = l.foldl (fun a c => a * 10 + (c.toNat - 48)) acc
  | [], acc, u, h => by simp only [Lib.parseUintM, Lib.NumEnd.ok.injEq] at h; exact ⟨rfl, h.symm⟩
  | c :: l, acc, u, h => by
    unfold Lib.parseUintM at h
    split at h
    · rename_i hc
      split at h
      · cases h
      · split at h
        · cases h
        · obtain ⟨h1, h2⟩ := parseM_ok l _ u h
          refine ⟨?_, h2⟩
          simp [isDig, hc, h1]
    · cases h
theorem parseM_of : ∀ (l : List UInt8) (acc : Nat), l.all isDig = true → (acc + 1) * 10 ^ l.length ≤ 10000000000000000 → Lib.parseUintM (2 ^ 64 - 1) acc l = .ok (l.foldl (fun a c => a * 10 + (c.toNat - 48)) acc)
  | [], acc, _, _ => rfl
  | c :: l, acc, h, hb => by
    simp only [List.all_cons, Bool.and_eq_true, isDig, decide_eq_true_eq] at h
    simp only [List.length_cons, Nat.pow_succ] at hb
    rw [Nat.mul_comm (10 ^ l.length) 10, ← Nat.mul_assoc] at hb
    have h10 : 1 ≤ 10 ^ l.length := Nat.one_le_pow _ _ (by decide)
    have hacc : (acc + 1) * 10 ≤ 10000000000000000 := Nat.le_trans (Nat.le_mul_of_pos_right _ h10) hb
    unfold Lib.parseUintM
    rw [if_pos h.1, if_neg (by omega), if_neg (by omega)]
    refine parseM_of l _ (by simpa [isDig] using h.2) (Nat.le_trans (Nat.mul_le_mul_right _ ?_) hb)
    omega
theorem number_fst (s : ByteArray) : (number s).1 = (pu s).1 := by
  unfold number
  split
  · split
    · split <;> rfl
    · rfl
  · rfl
theorem dec_pos (n : Int) : 1 ≤ (dec n).size := by
  have e : (dec n).size = (Lib.decDigits n.toNat).length := rfl
  rw [e]
  cases hq : Lib.decDigits n.toNat with
  | nil => rw [Lib.decDigits] at hq; split at hq <;> simp at hq
  | cons => simp
theorem num_of_number {s : ByteArray} (h : (number s).2 = true) : num s = ((number s).1, true) := by
  rw [number_fst]
  unfold number at h
  split at h
  · rename_i h1
    split at h
    · rename_i h2
      split at h
      · rename_i h3
        simp only [decide_eq_true_eq] at h h2 h3
        have hp : Lib.parseUintB 64 s.data.toList = .ok (pu s).1.toNat := by
          unfold pu at h1 ⊢
          split at h1
          · rename_i u hu; rw [hu]; simp
          · cases h1
          · cases h1
        unfold Lib.parseUintB at hp
        split at hp
        · cases hp
        · obtain ⟨h4, h5⟩ := parseM_ok _ _ _ hp
          have h6 : nvl s.data.toList = (pu s).1.toNat := h5.symm
          have h7 := (pu_range s).1
          have h8 := dec_pos (pu s).1
          rw [h] at h8
          have h9 : ((nvl s.data.toList : Nat) : Int) = (pu s).1 := by omega
          unfold num
          rw [if_pos ⟨h8, by omega, h4⟩, h9]
          simp [h, h3]
      · cases h
    · cases h
  · cases h
theorem number_of_num {s : ByteArray} (h : (num s).2 = true) : number s = ((num s).1, true) := by
  unfold num at h ⊢
  split at h
  · rename_i hc
    rw [if_pos hc]
    simp only [Bool.and_eq_true, decide_eq_true_eq] at h
    have hne : s.data.toList ≠ [] := by
      intro e
      have := size_list s
      rw [e] at this
      simp at this
      omega
    have hb : Lib.parseUintB 64 s.data.toList = .ok (nvl s.data.toList) := by
      unfold Lib.parseUintB
      rw [if_neg hne]
      refine parseM_of _ 0 hc.2.2 ?_
      rw [size_list]
      calc (0 + 1) * 10 ^ s.size = 10 ^ s.size := by simp
        _ ≤ 10 ^ 16 := Nat.pow_le_pow_right (by decide) hc.2.1
    have hp : pu s = (((nvl s.data.toList : Nat) : Int), true) := by unfold pu; rw [hb]
    unfold number
    rw [hp]
    simp only [if_true]
    rw [if_pos (decide_eq_true (by have := hc.2.1; omega)), if_pos (decide_eq_true h.1)]
    simp [h.2]
  · cases h
theorem num_snd (s : ByteArray) : (num s).2 = (number s).2 := by
  cases h : (number s).2 with
  | true => rw [num_of_number h]
  | false =>
    cases h2 : (num s).2 with
    | false => rfl
    | true => rw [number_of_num h2] at h; cases h
theorem num_fst {s : ByteArray} (h : (number s).2 = true) : (num s).1 = (number s).1 := by rw [num_of_number h]
theorem num_empty : num (⟨#[]⟩ : ByteArray) = (0, false) := by
  unfold num; rw [if_neg]; intro h; exact absurd h.1 (by decide)
theorem number_true {s : ByteArray} (h : (number s).2 = true) : dec (number s).1 = s ∧ 0 ≤ (number s).1 ∧ (number s).1 ≤ 1125899906842624 := by
  have hr := (pu_range s).1
  rw [number_fst]
  unfold number at h
  split at h
  · split at h
    · split at h
      · rename_i h3
        simp only [decide_eq_true_eq] at h h3
        exact ⟨h, hr, h3⟩
      · cases h
    · cases h
  · cases h
end Go.Proofs.YtbmmknchcdhefaaGreatDoor
