/-
  The document's ledger does what the program's does. Conditions: none beside each theorem's own.
-/
import Derived.Test.YtbmmknchcdhefaaGreatDoorSxT
import Derived.Test.YtbmmknchcdhefaaGreatDoorRefB
import Derived.Test.YtbmmknchcdhefaaGreatDoorHisE
namespace Go.Proofs.YtbmmknchcdhefaaGreatDoor
open Go.RowKit Go.Sx
set_option linter.unusedVariables false
set_option linter.unusedSimpArgs false
set_option linter.unnecessarySimpa false
set_option maxRecDepth 100000
abbrev Rises (l : List ItemV) : Prop := l.Pairwise fun x y => slt x.key y.key = true
theorem Rises.keys {l : List ItemV} (h : Rises l) : (l.map (·.key)).Nodup := by
  rw [List.Nodup, List.pairwise_map]
  exact h.imp fun {a b} hs e => by rw [e, slt_irrefl] at hs; cases hs
theorem slt_asymm {a b : ByteArray} (h : slt a b = true) : slt b a = false := by
  cases h2 : slt b a with
  | false => rfl
  | true => have := slt_trans h h2; rw [slt_irrefl] at this; cases this
theorem Rises.sorted {l : List ItemV} (h : Rises l) : l.Pairwise fun x y => slt y.key x.key = false := h.imp fun h => slt_asymm h
theorem Rises.ext {l l' : List ItemV} (h : Rises l) (h' : Rises l') (hm : ∀ x, x ∈ l ↔ x ∈ l') : l = l' := rising_ext h.keys h'.keys h.sorted h'.sorted hm
section
variable {l : List ItemV} {k v : ByteArray}
theorem take_lt (l : List ItemV) (k : ByteArray) : ∀ x ∈ l.take (fnd l k), slt x.key k = true := by
  have : l.take (fnd l k) = l.takeWhile fun x => slt x.key k := by
    unfold fnd
    exact (List.prefix_iff_eq_take.1 (List.takeWhile_prefix _)).symm
  rw [this]
  induction l with
  | nil => intro x hx; simp at hx
  | cons y l ih =>
    intro x hx
    rw [List.takeWhile_cons] at hx
    split at hx
    · rename_i hy
      rcases List.mem_cons.1 hx with rfl | hx
      · exact hy
      · exact ih (by unfold fnd; exact (List.prefix_iff_eq_take.1 (List.takeWhile_prefix _)).symm) x hx
    · cases hx
theorem at_ge (h : fnd l k < l.length) : slt (l.getD (fnd l k) dItem).key k = false := by
  cases hs : slt (l.getD (fnd l k) dItem).key k with
  | false => rfl
  | true =>
    exfalso
    have hd : ∀ l : List ItemV, ∀ h : fnd l k < l.length, slt (l[fnd l k]'h).key k = false := by
      intro l
      induction l with
      | nil => intro h; simp at h
      | cons y l ih =>
        intro h
        by_cases hy : slt y.key k = true
        · have e : fnd (y :: l) k = fnd l k + 1 := by simp [fnd, List.takeWhile_cons, hy]
          simp only [e, List.getElem_cons_succ]
          exact ih (by rw [e] at h; simpa using h)
        · have e : fnd (y :: l) k = 0 := by simp [fnd, List.takeWhile_cons, hy]
          simp only [e, List.getElem_cons_zero]
          simpa using hy
    have := hd l h
    rw [List.getD_eq_getElem?_getD, List.getElem?_eq_getElem h, Option.getD_some, this] at hs
    cases hs
theorem drop_ge (hr : Rises l) : ∀ x ∈ l.drop (fnd l k), slt x.key k = false := by
  intro x hx
  rcases Nat.lt_or_ge (fnd l k) l.length with h | h
  · rw [drop_getD (d := dItem) h] at hx
    have h0 := at_ge (l := l) (k := k) h
    rcases List.mem_cons.1 hx with rfl | hx
    · exact h0
    · have hp : Rises (l.drop (fnd l k)) := hr.sublist (List.drop_sublist ..)
      rw [drop_getD (d := dItem) h] at hp
      have h1 := (List.pairwise_cons.1 hp).1 x hx
      cases hs : slt x.key k with
      | false => rfl
      | true => have := slt_trans h1 hs; rw [h0] at this; cases this
  · rw [List.drop_eq_nil_of_le h] at hx; cases hx
theorem behind_gt (hr : Rises l) : ∀ x ∈ l.drop (if fis l k = true then fnd l k + 1 else fnd l k), slt k x.key = true := by
  intro x hx
  split at hx
  · rename_i hf
    have hlt := fis_lt hf
    have hp : Rises (l.drop (fnd l k)) := hr.sublist (List.drop_sublist ..)
    rw [drop_getD (d := dItem) hlt] at hp
    have := (List.pairwise_cons.1 hp).1 x hx
    rw [fis_key hf] at this
    exact this
  · rename_i hf
    have h1 := drop_ge hr x hx
    cases hs : slt k x.key with
    | true => rfl
    | false =>
      exfalso
      have he : x.key = k := slt_total h1 hs
      -- then the key stands at the place
      rcases Nat.lt_or_ge (fnd l k) l.length with h | h
      · have hp : Rises (l.drop (fnd l k)) := hr.sublist (List.drop_sublist ..)
        rw [drop_getD (d := dItem) h] at hp hx
        rcases List.mem_cons.1 hx with rfl | hx
        · exact hf (by rw [fis, decide_eq_true h, decide_eq_true he]; rfl)
        · have h2 := (List.pairwise_cons.1 hp).1 x hx
          rw [he, at_ge h] at h2; cases h2
      · rw [List.drop_eq_nil_of_le h] at hx; cases hx
theorem split_mem (hr : Rises l) (x : ItemV) : x ∈ l.take (fnd l k) ∨ x ∈ l.drop (if fis l k = true then fnd l k + 1 else fnd l k) ↔ x ∈ l ∧ x.key ≠ k := by
  constructor
  · rintro (h | h)
    · refine ⟨List.mem_of_mem_take h, fun e => ?_⟩
      have := take_lt l k x h
      rw [e, slt_irrefl] at this; cases this
    · refine ⟨List.mem_of_mem_drop h, fun e => ?_⟩
      have := behind_gt hr x h
      rw [e, slt_irrefl] at this; cases this
  · rintro ⟨h, hne⟩
    rw [← List.take_append_drop (fnd l k) l] at h
    rcases List.mem_append.1 h with h | h
    · exact .inl h
    · right
      split
      · rename_i hf
        rw [drop_getD (d := dItem) (fis_lt hf)] at h
        rcases List.mem_cons.1 h with rfl | h
        · exact absurd (fis_key hf) hne
        · exact h
      · exact h
theorem rset_form (l : List ItemV) (k v : ByteArray) : rset l k v = l.take (fnd l k) ++ (⟨k, v⟩ :: l.drop (if fis l k = true then fnd l k + 1 else fnd l k)) := by
  unfold rset
  split <;> simp
theorem rset_rises (hr : Rises l) : Rises (rset l k v) := by
  rw [rset_form]
  refine List.pairwise_append.2 ⟨hr.sublist (List.take_sublist ..), List.pairwise_cons.2 ⟨fun x hx => behind_gt hr x hx, hr.sublist (List.drop_sublist ..)⟩, fun x hx y hy => ?_⟩
  have h1 := take_lt l k x hx
  rcases List.mem_cons.1 hy with rfl | hy
  · exact h1
  · exact slt_trans h1 (behind_gt hr y hy)
theorem rset_mem (hr : Rises l) (x : ItemV) : x ∈ rset l k v ↔ x = ⟨k, v⟩ ∨ (x ∈ l ∧ x.key ≠ k) := by
  rw [rset_form, List.mem_append, List.mem_cons, ← split_mem hr x]
  constructor
  · rintro (h | h | h)
    · exact .inr (.inl h)
    · exact .inl h
    · exact .inr (.inr h)
  · rintro (h | h | h)
    · exact .inr (.inl h)
    · exact .inl h
    · exact .inr (.inr h)
end
section
variable {m : Pairs} {k v : ByteArray}
theorem rset_lst (hi : Keyd m) : rset (lst m) k v = lst (aset m k v) := by
  refine (rset_rises (lst_rises hi)).ext (lst_rises (aset_apart k v m hi)) fun x => ?_
  rw [rset_mem (lst_rises hi), lst_mem_aget hi, lst_mem_aget (aset_apart k v m hi), aget_aset]
  by_cases hk : k = x.key
  · rw [if_pos hk]
    constructor
    · rintro (h | ⟨_, h⟩)
      · rw [h]
      · exact absurd hk.symm h
    · intro h
      left
      obtain ⟨a, b⟩ := x
      simp only [Option.some.injEq] at h hk
      rw [hk, h]
  · rw [if_neg hk]
    constructor
    · rintro (h | ⟨h, _⟩)
      · rw [h] at hk; exact absurd rfl hk
      · exact h
    · intro h; exact .inr ⟨h, fun e => hk e.symm⟩
theorem fis_lst (hi : Keyd m) : fis (lst m) k = (aget m k).isSome := by
  cases hg : aget m k with
  | some v =>
    cases hf : fis (lst m) k with
    | true => rfl
    | false =>
      exfalso
      have hm : (⟨k, v⟩ : ItemV) ∈ lst m := (lst_mem_aget hi).2 hg
      have h1 := mt (split_mem (k := k) (lst_rises hi) ⟨k, v⟩).1 (fun h => h.2 rfl)
      rw [hf] at h1
      simp only [Bool.false_eq_true, if_false, not_or] at h1
      rw [← List.take_append_drop (fnd (lst m) k) (lst m)] at hm
      rcases List.mem_append.1 hm with h | h
      · exact h1.1 h
      · exact h1.2 h
  | none =>
    cases hf : fis (lst m) k with
    | false => rfl
    | true =>
      exfalso
      have h1 := (lst_mem_aget hi).1 (getD_mem (d := dItem) (fis_lt hf))
      rw [fis_key hf, hg] at h1; cases h1
theorem rget_lst (hi : Keyd m) : rget (lst m) k = ((aget m k).getD ⟨#[]⟩, (aget m k).isSome) := by
  have h2 : (rget (lst m) k).2 = (aget m k).isSome := by rw [rget_snd, fis_lst hi]
  have h1 : (rget (lst m) k).1 = (aget m k).getD ⟨#[]⟩ := by
    rw [rget_fst]
    have hf := fis_lst (k := k) hi
    cases hg : aget m k with
    | none => rw [hg] at hf; rw [hf]; rfl
    | some v =>
      rw [hg] at hf
      simp only [Option.isSome_some] at hf
      rw [if_pos hf]
      have h1 := (lst_mem_aget hi).1 (getD_mem (d := dItem) (fis_lt hf))
      rw [fis_key hf, hg] at h1
      simp only [Option.some.injEq] at h1
      rw [h1]; rfl
  rw [← h1, ← h2]
theorem rdel_lst (hi : Keyd m) (h : (aget m k).isSome = true) : (lst m).take (fnd (lst m) k) ++ (lst m).drop (fnd (lst m) k + 1) = lst (adel m k) := by
  have hf : fis (lst m) k = true := by rw [fis_lst hi]; exact h
  have hr := lst_rises hi
  have hb := behind_gt (k := k) hr
  rw [if_pos hf] at hb
  have hR : Rises ((lst m).take (fnd (lst m) k) ++ (lst m).drop (fnd (lst m) k + 1)) :=
    List.pairwise_append.2 ⟨hr.sublist (List.take_sublist ..), hr.sublist (List.drop_sublist ..), fun x hx y hy => slt_trans (take_lt (lst m) k x hx) (hb y hy)⟩
  refine hR.ext (lst_rises (adel_keys hi)) fun x => ?_
  have hs := split_mem (k := k) hr x
  rw [if_pos hf] at hs
  rw [List.mem_append, hs, lst_mem_aget hi, lst_mem_aget (adel_keys hi), aget_adel hi]
  by_cases hk : k = x.key
  · rw [if_pos hk]
    constructor
    · rintro ⟨_, h⟩; exact absurd hk.symm h
    · intro h; cases h
  · rw [if_neg hk]
    exact ⟨fun h => h.1, fun h => ⟨h, fun e => hk e.symm⟩⟩
end
/-! ### May -/
theorem rmay_eq (o : OpV) : rmay o = may o := by
  have e0 : valued (⟨#[]⟩ : ByteArray) = true := by decide
  rw [Bool.eq_iff_iff]
  obtain ⟨kd, ky, vl, ol, ds, am⟩ := o
  unfold rmay may
  simp only [rkey_eq, rvalue_eq]
  by_cases c1 : kd = 1
  · subst c1; simp
    constructor
    · rintro ⟨h, rfl, rfl, rfl, rfl⟩; exact ⟨⟨rfl, rfl, rfl, rfl⟩, h, e0, e0⟩
    · rintro ⟨⟨rfl, rfl, rfl, rfl⟩, h, _, _⟩; exact ⟨h, rfl, rfl, rfl, rfl⟩
  by_cases c3 : kd = 3
  · subst c3; simp
    constructor
    · rintro ⟨h, rfl, rfl, rfl, rfl⟩; exact ⟨⟨rfl, rfl, rfl, rfl⟩, h, e0, e0⟩
    · rintro ⟨⟨rfl, rfl, rfl, rfl⟩, h, _, _⟩; exact ⟨h, rfl, rfl, rfl, rfl⟩
  by_cases c4 : kd = 4
  · subst c4; simp; constructor <;> simp_all
  by_cases c2 : kd = 2
  · subst c2; simp
    constructor <;> (intro h; simp_all)
  by_cases c5 : kd = 5
  · subst c5; simp
    constructor <;> (intro h; simp_all <;> omega)
  · simp [c1, c2, c3, c4, c5]
/-! ### Do -/
theorem rmove_lst {m : Pairs} {o : OpV} {v : ByteArray} (hi : Inv m) (hm : may o = true) (hk : o.kind = 5) (hg : aget m o.key = some v) : rmove (lst m) o v = ((ldo m o).1, lst (ldo m o).2) := by
  obtain ⟨_, _, _, hmv⟩ := may_facts hm
  have hmv : 1 ≤ o.amount ∧ o.amount ≤ 1125899906842624 := by
    rcases hmv with h | h | h | h | h
    · omega
    · omega
    · omega
    · omega
    · exact h.2.2.2
  have hL := lst_length m
  rw [ldo_move hm hk]
  simp only [hg]
  unfold rmove
  simp only [rget_lst hi.keys]
  cases h1 : (number v).2 with
  | false =>
    have nv : (num v).2 = false := by rw [num_snd, h1]
    rw [if_pos (by rw [nv]; rfl), if_pos (.inl rfl)]
  | true =>
    have nv := num_of_number h1
    by_cases h2 : ∃ w, aget m o.dest = some w ∧ (number w).2 = false
    · obtain ⟨w, hw, hw2⟩ := h2
      have nw : (num w).2 = false := by rw [num_snd, hw2]
      rw [if_pos (by rw [hw]; simp [nw]), if_pos (.inr ⟨w, hw, hw2⟩)]
    · have c1 : ¬ ((!((num v).2)) || (((aget m o.dest).isSome) && (!((num ((aget m o.dest).getD ⟨#[]⟩)).2)))) = true := by
        rw [nv]
        cases hd : aget m o.dest with
        | none => simp
        | some w =>
          have : (num w).2 = true := by
            rw [num_snd]
            cases hq : (number w).2 with
            | true => rfl
            | false => exact absurd ⟨w, hd, hq⟩ h2
          simp [this]
      have c1' : ¬ (true = false ∨ ∃ w, aget m o.dest = some w ∧ (number w).2 = false) := by
        rintro (h | h)
        · cases h
        · exact h2 h
      obtain ⟨t1, t2⟩ := toNum_range h2
      have ht : (num ((aget m o.dest).getD ⟨#[]⟩)).1 = toNum m o.dest := by
        unfold toNum
        cases hd : aget m o.dest with
        | none => simp only [Option.getD_none]; rw [num_empty, number_nil]
        | some w =>
          simp only [Option.getD_some]
          refine num_fst ?_
          cases hq : (number w).2 with
          | true => rfl
          | false => exact absurd ⟨w, hd, hq⟩ h2
      have hw : IntKind.u64.wrap (toNum m o.dest + o.amount) = toNum m o.dest + o.amount := u64w (by omega) (by omega)
      rw [if_neg c1, if_neg c1', ht, hw, nv]
      simp only
      by_cases c2 : (number v).1 < o.amount
      · rw [if_pos (decide_eq_true c2), if_pos c2]
      · rw [if_neg (by rw [decide_eq_false c2]; decide), if_neg c2]
        by_cases c3 : 1125899906842624 < toNum m o.dest + o.amount
        · rw [if_pos (decide_eq_true c3), if_pos c3]
        · rw [if_neg (by rw [decide_eq_false c3]; decide), if_neg c3]
          by_cases c4 : full m o.dest = true
          · obtain ⟨c5, c6⟩ := full_iff.1 c4
            rw [if_pos (by rw [c5, hL]; simp; omega), if_pos c4]
          · rw [if_neg ?_, if_neg c4]
            · rw [rset_lst hi.keys, rset_lst (aset_apart _ _ _ hi.keys)]
            · intro hc
              simp only [Bool.and_eq_true, Bool.not_eq_true', decide_eq_true_eq] at hc
              refine c4 (full_iff.2 ⟨by simpa using hc.1, ?_⟩)
              have := hc.2
              omega
theorem rdo_lst {m : Pairs} (hi : Inv m) (o : OpV) : rdo (lst m) o = ((ldo m o).1, lst (ldo m o).2) := by
  have hL := lst_length m
  unfold rdo
  rw [rmay_eq]
  cases hm : may o with
  | false => rw [ldo_not hm]; rfl
  | true =>
    have F := may_facts hm
    rw [if_neg (by decide)]
    simp only [rget_lst hi.keys]
    rcases F.kind with hk | hk | hk | hk | hk
    · rw [ldo_get hm hk, hk]
      cases hg : aget m o.key <;> simp
    · rw [ldo_put hm hk, hk]
      by_cases c4 : full m o.key = true
      · obtain ⟨c5, c6⟩ := full_iff.1 c4
        rw [if_pos (by decide), if_pos (by rw [c5, hL]; simp; omega), if_pos c4]
      · rw [if_pos (by decide), if_neg ?_, if_neg c4]
        · rw [rset_lst hi.keys]
        · intro hc
          simp only [Bool.and_eq_true, Bool.not_eq_true', decide_eq_true_eq] at hc
          refine c4 (full_iff.2 ⟨by simpa using hc.1, ?_⟩)
          have := hc.2
          omega
    · rw [ldo_del hm hk, hk]
      cases hg : aget m o.key with
      | none => simp
      | some v => simp; exact rdel_lst hi.keys (by rw [hg]; rfl)
    · rw [ldo_swap hm hk, hk]
      cases hg : aget m o.key with
      | none => simp
      | some v =>
        by_cases hv : v = o.old
        · simp [hv]; exact rset_lst hi.keys
        · simp [hv]
    · obtain ⟨hk, -⟩ := hk
      cases hg : aget m o.key with
      | none => rw [ldo_move hm hk, hk, hg]; simp
      | some v =>
        have h := rmove_lst hi hm hk hg
        rw [hk]
        simp [h]
end Go.Proofs.YtbmmknchcdhefaaGreatDoor
