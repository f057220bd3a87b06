/-
  LedgerSums as a plain law; ledgers that list the same go on alike.
-/
import Derived.Test.YtkeckbgkhpaofaaDoorLawSd
namespace Go.Proofs.YtkeckbgkhpaofaaDoor
open Go.RowKit Go.Sx
set_option linter.unusedVariables false
set_option linter.unusedSimpArgs false
set_option maxRecDepth 100000

/-! ### Ledgers that list the same -/
structure Eqv (m m' : Pairs) : Prop where
  inv : Inv m
  inv' : Inv m'
  get : ∀ k, aget m k = aget m' k
theorem Eqv.lst_eq {m m' : Pairs} (E : Eqv m m') : lst m = lst m' := lst_ext E.inv.keys E.inv'.keys E.get
theorem Eqv.len {m m' : Pairs} (E : Eqv m m') : m.length = m'.length := by rw [← lst_length m, ← lst_length m', E.lst_eq]
theorem Eqv.full {m m' : Pairs} (E : Eqv m m') (k : ByteArray) : full m k = full m' k := by unfold Go.Proofs.YtkeckbgkhpaofaaDoor.full; rw [E.get, E.len]
theorem Eqv.toNum {m m' : Pairs} (E : Eqv m m') (k : ByteArray) : toNum m k = toNum m' k := by unfold Go.Proofs.YtkeckbgkhpaofaaDoor.toNum; rw [E.get]
theorem Eqv.step {m m' : Pairs} (E : Eqv m m') (o : OpV) : (ldo m o).1 = (ldo m' o).1 ∧ ∀ k, aget (ldo m o).2 k = aget (ldo m' o).2 k := by
  cases hm : may o with
  | false => rw [ldo_not hm, ldo_not hm]; exact ⟨rfl, E.get⟩
  | true =>
    have F := may_facts hm
    have hset : ∀ (k v q : ByteArray), aget (aset m k v) q = aget (aset m' k v) q := fun k v q => by rw [aget_aset, aget_aset, E.get]
    rcases F.kind with hk | hk | hk | hk | hk
    · rw [ldo_get hm hk, ldo_get hm hk, E.get]; cases aget m' o.key <;> exact ⟨rfl, E.get⟩
    · rw [ldo_put hm hk, ldo_put hm hk, E.full]
      split
      · exact ⟨rfl, E.get⟩
      · exact ⟨rfl, hset _ _⟩
    · rw [ldo_del hm hk, ldo_del hm hk, E.get]
      cases aget m' o.key
      · exact ⟨rfl, E.get⟩
      · exact ⟨rfl, fun q => by simp only; rw [aget_adel E.inv.keys, aget_adel E.inv'.keys, E.get]⟩
    · rw [ldo_swap hm hk, ldo_swap hm hk, E.get]
      cases aget m' o.key with
      | none => exact ⟨rfl, E.get⟩
      | some v =>
        simp only
        split
        · exact ⟨rfl, hset _ _⟩
        · exact ⟨rfl, E.get⟩
    · rw [ldo_move hm hk.1, ldo_move hm hk.1, E.get]
      cases aget m' o.key with
      | none => exact ⟨rfl, E.get⟩
      | some v =>
        simp only [E.get o.dest, E.full, E.toNum]
        split
        · exact ⟨rfl, E.get⟩
        · split
          · exact ⟨rfl, E.get⟩
          · split
            · exact ⟨rfl, E.get⟩
            · split
              · exact ⟨rfl, E.get⟩
              · exact ⟨rfl, fun q => by simp only [aget_aset, E.get]⟩
theorem Eqv.reply {m m' : Pairs} (E : Eqv m m') {o : OpV} : (ldo m o).1 = (ldo m' o).1 := (E.step o).1
theorem Eqv.next {m m' : Pairs} (E : Eqv m m') (o : OpV) : Eqv (ldo m o).2 (ldo m' o).2 := ⟨ldo_inv o E.inv, ldo_inv o E.inv', (E.step o).2⟩
def lfrom (m : Pairs) (l : List OpV) : Pairs := l.foldl (fun m o => (ldo m o).2) m
theorem lfrom_inv {m : Pairs} (l : List OpV) (h : Inv m) : Inv (lfrom m l) := by
  induction l generalizing m with
  | nil => exact h
  | cons o l ih => exact ih (ldo_inv o h)
theorem lfrom_succ {m : Pairs} {l : List OpV} {d : OpV} {k : Nat} (hk : k < l.length) : lfrom m (l.take (k + 1)) = (ldo (lfrom m (l.take k)) (l.getD k d)).2 := by
  rw [take_succ_getD (d := d) hk, lfrom, List.foldl_append]
  rfl
theorem Eqv.from {m m' : Pairs} (E : Eqv m m') (l : List OpV) : Eqv (lfrom m l) (lfrom m' l) := by
  induction l generalizing m m' with
  | nil => exact E
  | cons o l ih => exact ih (E.next o)

/-! ### What is listed makes the ledger again -/
theorem pairs_mem {l : List ItemV} {x : ByteArray × ByteArray} : x ∈ pairsOf l ↔ (⟨x.1, x.2⟩ : ItemV) ∈ l := by
  rw [pairsOf, List.mem_map]
  constructor
  · rintro ⟨y, hy, rfl⟩; exact hy
  · intro h; exact ⟨_, h, rfl⟩
theorem pairs_keys (l : List ItemV) : (pairsOf l).map (fun y : ByteArray × ByteArray => y.1) = l.map (·.key) := by simp [pairsOf]
theorem pairs_inv {m : Pairs} (h : Inv m) : Inv (pairsOf (lst m)) := by
  refine ⟨?_, ?_, fun x hx => ?_, fun x hx => ?_⟩
  · show ((pairsOf (lst m)).map _).Nodup
    rw [pairs_keys]; exact lst_keys h.keys
  · rw [pairsOf, List.length_map, lst_length]; exact h.len
  · exact h.key _ (lst_mem.1 (pairs_mem.1 hx))
  · exact h.val _ (lst_mem.1 (pairs_mem.1 hx))
theorem eqv_pairs {m : Pairs} (h : Inv m) : Eqv m (pairsOf (lst m)) := by
  refine ⟨h, pairs_inv h, fun k => ?_⟩
  cases hg : aget m k with
  | some v => exact (aget_mem (pairs_inv h).keys (pairs_mem.2 (lst_mem.2 (aget_some_mem hg)))).symm
  | none =>
    refine (aget_none_of fun x hx e => ?_).symm
    have h1 := lst_mem.1 (pairs_mem.1 hx)
    have h2 := aget_mem h.keys h1
    rw [e, hg] at h2
    cases h2
theorem lst_pairs {m : Pairs} (h : Inv m) : lst (pairsOf (lst m)) = lst m := (eqv_pairs h).lst_eq.symm
theorem eqv_back (l l' : List OpV) : Eqv (lfrom (lrun l) l') (lfrom (pairsOf (lst (lrun l))) l') := (eqv_pairs (lrun_inv l)).from l'
theorem okItems_of : ∀ {l : List ItemV} {was : ByteArray}, (∀ x ∈ l, keyed x.key = true ∧ valued x.value = true) → (∀ x ∈ l, slt was x.key = true) → (l.Pairwise fun x y => slt x.key y.key = true) → okItems was l = true
  | [], _, _, _, _ => rfl
  | x :: l, was, h1, h2, h3 => by
    have a1 := h1 x (List.mem_cons_self ..)
    have a2 := h2 x (List.mem_cons_self ..)
    have a3 : slt x.key was = false := by
      cases hs : slt x.key was with
      | false => rfl
      | true => have := slt_trans a2 hs; rw [slt_irrefl] at this; cases this
    have a4 : ¬ x.key = was := fun e => by rw [e, slt_irrefl] at a2; cases a2
    have h3' := List.pairwise_cons.1 h3
    rw [okItems, a1.1, a1.2, a3, decide_eq_false a4, okItems_of (fun y hy => h1 y (List.mem_cons_of_mem _ hy)) h3'.1 h3'.2]
    rfl
theorem slt_nil {s : ByteArray} (h : 1 ≤ s.size) : slt ⟨#[]⟩ s = true := by
  have : s.data.toList ≠ [] := fun e => by
    have := size_list s
    rw [e] at this; simp at this; omega
  unfold slt
  cases hs : s.data.toList with
  | nil => exact absurd hs this
  | cons c r => rw [ByteArray.toList_eq, ByteArray.toList_eq]; simp [Op.bytesLess, hs]
theorem ofOK_lst {m : Pairs} (h : Inv m) : ofOK (lst m) = true := by
  have h1 : okItems ⟨#[]⟩ (lst m) = true := by
    refine okItems_of (fun x hx => ?_) (fun x hx => ?_) (lst_rises h.keys)
    · have h2 := lst_mem.1 hx
      exact ⟨keyed_iff.2 (h.key _ h2), valued_iff.2 (h.val _ h2)⟩
    · exact slt_nil (h.key _ (lst_mem.1 hx)).1
  rw [ofOK, h1, lst_length, decide_eq_true h.len]
  rfl
theorem rise_at {l : List ItemV} {j : Nat} {d : ItemV} (h : l.Pairwise fun x y => slt x.key y.key = true) (hj : j + 1 < l.length) : slt (l.getD j d).key (l.getD (j + 1) d).key = true := by
  have h1 := List.pairwise_iff_getElem.1 h j (j + 1) (by omega) hj (by omega)
  rw [List.getD_eq_getElem?_getD, List.getD_eq_getElem?_getD, List.getElem?_eq_getElem hj, List.getElem?_eq_getElem (show j < l.length by omega)]
  exact h1

/-! ### Sums -/
def valN (v : ByteArray) : Int := if (num v).2 = true then (num v).1 else 0
def tot (m : Pairs) : Int := (m.map fun p => valN p.2).sum
theorem sumL_tot (l : List ItemV) : sumL l = (l.map fun x => valN x.value).sum % 18446744073709551616 := by
  have key : ∀ (l : List ItemV) (a : Int), 0 ≤ a → a < 18446744073709551616 → l.foldl (fun n x => if (num x.value).2 = true then IntKind.u64.wrap (n + (num x.value).1) else n) a = (a + (l.map fun x => valN x.value).sum) % 18446744073709551616 := by
    intro l
    induction l with
    | nil => intro a h0 h1; simp only [List.foldl_nil, List.map_nil, List.sum_nil]; omega
    | cons x l ih =>
      intro a h0 h1
      simp only [List.foldl_cons, List.map_cons, List.sum_cons]
      by_cases hx : (num x.value).2 = true
      · have hw : IntKind.u64.wrap (a + (num x.value).1) = (a + (num x.value).1) % 18446744073709551616 := by rw [IntKind.wrap_u64]
        rw [if_pos hx, hw, ih _ (by omega) (by omega)]
        have : valN x.value = (num x.value).1 := by rw [valN, if_pos hx]
        rw [this]
        omega
      · rw [if_neg hx, ih a h0 h1]
        have : valN x.value = 0 := by rw [valN, if_neg hx]
        rw [this, Int.zero_add]
  rw [sumL, key l 0 (by omega) (by omega), Int.zero_add]
theorem perm_sum {l l' : List Int} (h : l.Perm l') : l.sum = l'.sum := by
  induction h with
  | nil => rfl
  | cons x _ ih => simp only [List.sum_cons, ih]
  | swap x y l => simp only [List.sum_cons]; omega
  | trans _ _ h1 h2 => exact h1.trans h2
theorem sumL_lst (m : Pairs) : sumL (lst m) = tot m % 18446744073709551616 := by
  rw [sumL_tot, tot]
  congr 1
  have h := perm_sum ((lst_perm m).map fun x => valN x.value)
  rw [h, itemsOf, List.map_map]
  rfl
def valO (v : Option ByteArray) : Int := match v with | none => 0 | some v => valN v
theorem tot_aset (m : Pairs) (k v : ByteArray) : tot (aset m k v) = tot m + valN v - valO (aget m k) := by
  induction m with
  | nil => simp [aset, tot, aget_nil, valO]
  | cons x m ih =>
    have hc : ∀ (y : ByteArray × ByteArray) (m : Pairs), tot (y :: m) = valN y.2 + tot m := fun y m => by simp [tot]
    rw [aget_cons]
    unfold aset
    by_cases h : x.1 = k
    · rw [if_pos h, if_pos h, hc, hc]; simp only [valO]; omega
    · rw [if_neg h, if_neg h, hc, hc, ih]; omega
theorem valN_dec {n : Int} (h0 : 0 ≤ n) (h1 : n ≤ 1125899906842624) : valN (dec n) = n := by rw [valN, num_dec h0 h1]; rfl
theorem move_tot {m : Pairs} {o : OpV} (hm : may o = true) (hk : o.kind = 5) : tot (ldo m o).2 = tot m := by
  obtain ⟨_, _, _, hmv⟩ := may_facts hm
  have hmv : o.dest ≠ o.key ∧ 1 ≤ o.amount ∧ o.amount ≤ 1125899906842624 := by
    rcases hmv with h | h | h | h | h
    · omega
    · omega
    · omega
    · omega
    · exact h.2.2
  rw [ldo_move hm hk]
  cases hg : aget m o.key with
  | none => rfl
  | some v =>
    simp only
    split
    · rfl
    · rename_i hn
      split
      · rfl
      · rename_i hl
        split
        · rfl
        · rename_i ht
          split
          · rfl
          · have hv : (number v).2 = true := by
              cases hq : (number v).2 with
              | true => rfl
              | false => exact absurd (.inl hq) hn
            obtain ⟨-, hv1, hv2⟩ := number_true hv
            have hwn : ¬ ∃ w, aget m o.dest = some w ∧ (number w).2 = false := fun hc => hn (.inr hc)
            obtain ⟨ht1, ht2⟩ := toNum_range hwn
            simp only
            rw [tot_aset, tot_aset, aget_aset, if_neg (fun e => hmv.1 e.symm), hg, valN_dec (by omega) (by omega), valN_dec (by omega) (by omega)]
            have e1 : valO (some v) = (number v).1 := by simp only [valO]; rw [valN, num_of_number hv]; rfl
            have e2 : valO (aget m o.dest) = toNum m o.dest := by
              unfold toNum
              cases hd : aget m o.dest with
              | none => simp only [valO, Option.getD_none]; rw [number_nil]
              | some w =>
                have hw : (number w).2 = true := by
                  cases hq : (number w).2 with
                  | true => rfl
                  | false => exact absurd ⟨w, hd, hq⟩ hwn
                simp only [valO, Option.getD_some]; rw [valN, num_of_number hw]; rfl
            rw [e1, e2]
            omega
theorem sumB_true {m : Pairs} (hi : Inv m) (o : OpV) : sumB m o = true := by
  have hi2 := ldo_inv o hi
  have c3 : ¬ (decide ((((lst ((ldo m o).2)).length : Nat) : Int) > 64)) = true := by
    rw [lst_length]; have := hi2.len; simp only [decide_eq_true_eq]; omega
  have c2 : o.kind = 5 → ¬ (((sumL (lst (m))) : Int) != (sumL (lst ((ldo (m) o).2)))) = true := fun hk => by
    have : sumL (lst m) = sumL (lst (ldo m o).2) := by
      cases hm : may o with
      | false => rw [ldo_not hm]
      | true => rw [sumL_lst, sumL_lst, move_tot hm hk]
    rw [this]; simp
  unfold sumB
  by_cases h1 : (((((ldo (m) o).1).err) : Int) != 0) = true
  · have := ldo_err o (by simpa using h1)
    rw [if_pos h1, if_neg (by rw [this]; simp)]
    by_cases h2 : (((o.kind) : Int) == 5) = true
    · rw [if_pos h2, if_neg (c2 (by simpa using h2)), if_neg c3]
    · rw [if_neg h2, if_neg c3]
  · rw [if_neg h1]
    by_cases h2 : (((o.kind) : Int) == 5) = true
    · rw [if_pos h2, if_neg (c2 (by simpa using h2)), if_neg c3]
    · rw [if_neg h2, if_neg c3]
end Go.Proofs.YtkeckbgkhpaofaaDoor
