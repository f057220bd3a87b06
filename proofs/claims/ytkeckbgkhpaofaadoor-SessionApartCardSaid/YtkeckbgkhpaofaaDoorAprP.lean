/-
  SessionApart as a plain law: clients with keys of their own.
-/
import Derived.Test.YtkeckbgkhpaofaaDoorOncP
import Derived.Test.YtkeckbgkhpaofaaDoorLawS
namespace Go.Proofs.YtkeckbgkhpaofaaDoor
open Go.RowKit Go.Sx
set_option linter.unusedVariables false
set_option linter.unusedSimpArgs false
set_option maxRecDepth 100000

theorem nodup_le {α : Type} [DecidableEq α] : ∀ {l k : List α}, l.Nodup → (∀ x ∈ l, x ∈ k) → l.length ≤ k.length
  | [], k, _, _ => Nat.zero_le _
  | x :: l, k, hn, hs => by
    obtain ⟨h1, h2⟩ := List.nodup_cons.1 hn
    have hx := hs x (List.mem_cons_self ..)
    have := nodup_le (l := l) (k := k.erase x) h2 fun y hy => by
      have hne : y ≠ x := fun e => h1 (e ▸ hy)
      exact (List.mem_erase_of_ne hne).2 (hs y (List.mem_cons_of_mem _ hy))
    rw [List.length_erase_of_mem hx] at this
    have hpos : 0 < k.length := List.length_pos_of_mem hx
    rw [List.length_cons]
    omega
theorem not_full {m : Pairs} {k : ByteArray} (h : m.length < 64) : full m k = false := by
  cases hf : full m k with
  | false => rfl
  | true => have := (full_iff.1 hf).2; omega
/-- two ledgers with room answer alike where the operation's keys lie alike -/
theorem loc_step {m m' : Pairs} {o : OpV} (hi : Inv m) (hi' : Inv m') (hl : m.length < 64) (hl' : m'.length < 64) (hk0 : aget m o.key = aget m' o.key) (hd : o.kind = 5 → aget m o.dest = aget m' o.dest) :
    (ldo m o).1 = (ldo m' o).1 ∧ ∀ k, aget m k = aget m' k → aget (ldo m o).2 k = aget (ldo m' o).2 k := by
  cases hm : may o with
  | false => rw [ldo_not hm, ldo_not hm]; exact ⟨rfl, fun k h => h⟩
  | true =>
    have F := may_facts hm
    have hset : ∀ (k v q : ByteArray), aget m q = aget m' q → aget (aset m k v) q = aget (aset m' k v) q := fun k v q h => by rw [aget_aset, aget_aset, h]
    rcases F.kind with hk | hk | hk | hk | hk
    · rw [ldo_get hm hk, ldo_get hm hk, hk0]; cases aget m' o.key <;> exact ⟨rfl, fun k h => h⟩
    · rw [ldo_put hm hk, ldo_put hm hk, not_full hl, not_full hl', if_neg (by decide), if_neg (by decide)]
      exact ⟨rfl, hset _ _⟩
    · rw [ldo_del hm hk, ldo_del hm hk, hk0]
      cases aget m' o.key
      · exact ⟨rfl, fun k h => h⟩
      · exact ⟨rfl, fun q h => by simp only; rw [aget_adel hi.keys, aget_adel hi'.keys, h]⟩
    · rw [ldo_swap hm hk, ldo_swap hm hk, hk0]
      cases aget m' o.key with
      | none => exact ⟨rfl, fun k h => h⟩
      | some v =>
        simp only
        split
        · exact ⟨rfl, hset _ _⟩
        · exact ⟨rfl, fun k h => h⟩
    · have hd := hd hk.1
      have hn : toNum m o.dest = toNum m' o.dest := by unfold toNum; rw [hd]
      rw [ldo_move hm hk.1, ldo_move hm hk.1, hk0]
      cases aget m' o.key with
      | none => exact ⟨rfl, fun k h => h⟩
      | some v =>
        simp only [hd, not_full hl, not_full hl', hn]
        split
        · exact ⟨rfl, fun k h => h⟩
        · split
          · exact ⟨rfl, fun k h => h⟩
          · split
            · exact ⟨rfl, fun k h => h⟩
            · exact ⟨rfl, fun q h => by simp only [aget_aset, h, Bool.false_eq_true, if_false]⟩
/-- no key but those that the operation uses is touched -/
theorem loc_frame {m : Pairs} (o : OpV) (hi : Inv m) {k : ByteArray} (h1 : k ≠ o.key) (h2 : o.kind = 5 → k ≠ o.dest) : aget (ldo m o).2 k = aget m k := by
  by_cases h5 : o.kind = 5
  · exact ldo_frame o hi h1 (h2 h5)
  · cases hm : may o with
    | false => rw [ldo_not hm]
    | true =>
      have F := may_facts hm
      rcases F.kind with hk | hk | hk | hk | hk
      · rw [ldo_get hm hk]; cases aget m o.key <;> rfl
      · rw [ldo_put hm hk]
        split
        · rfl
        · simp only; rw [aget_aset, if_neg (fun e => h1 e.symm)]
      · rw [ldo_del hm hk]; cases aget m o.key
        · rfl
        · simp only; rw [aget_adel hi.keys, if_neg (fun e => h1 e.symm)]
      · rw [ldo_swap hm hk]
        cases aget m o.key with
        | none => rfl
        | some v =>
          simp only
          split
          · simp only; rw [aget_aset, if_neg (fun e => h1 e.symm)]
          · rfl
      · exact absurd hk.1 h5
theorem loc_keys {m : Pairs} (o : OpV) (hi : Inv m) {S : List ByteArray} (hS : ∀ x ∈ m, x.1 ∈ S) (h1 : o.key ∈ S) (h2 : o.kind = 5 → o.dest ∈ S) : ∀ x ∈ (ldo m o).2, x.1 ∈ S := by
  intro x hx
  by_cases e1 : x.1 = o.key
  · rw [e1]; exact h1
  · by_cases e2 : o.kind = 5 ∧ x.1 = o.dest
    · rw [e2.2]; exact h2 e2.1
    · have hg := aget_mem (ldo_inv o hi).keys hx
      rw [loc_frame o hi e1 (fun h5 e => e2 ⟨h5, e⟩)] at hg
      exact hS _ (aget_some_mem hg)

/-! ### The keys of the two -/
def letterKey (own : UInt8) (j : Nat) : ByteArray := ⟨#[own, UInt8.ofNat (97 + j)]⟩
def keysP : List ByteArray := (List.range 6).map (letterKey 112)
def keysQ : List ByteArray := (List.range 6).map (letterKey 113)
def pk (k : ByteArray) : Bool := decide (0 < k.size) && (bat k 0 == 112)
theorem keysP_pk : ∀ k ∈ keysP, pk k = true := by decide
theorem keysQ_pk : ∀ k ∈ keysQ, pk k = false := by decide
structure PReq (r : ReqV) : Prop where
  client : r.client = 1
  key : r.op.key ∈ keysP
  dest : r.op.kind = 5 → r.op.dest ∈ keysP
structure QReq (r : ReqV) : Prop where
  client : r.client = 2
  key : r.op.key ∈ keysQ
  dest : r.op.kind = 5 → r.op.dest ∈ keysQ
structure Rel (s s' : TS) : Prop where
  inv : TInv s
  inv' : TInv s'
  tab : s.1.getD 0 dLast = s'.1.getD 0 dLast
  get : ∀ k, pk k = true → aget s.2 k = aget s'.2 k
  few : ∀ x ∈ s.2, x.1 ∈ keysP ++ keysQ
  few' : ∀ x ∈ s'.2, x.1 ∈ keysP
theorem Rel.len {s s' : TS} (h : Rel s s') : s.2.length < 64 := by
  have := nodup_le (l := s.2.map fun y => y.1) (k := keysP ++ keysQ) h.inv.inv.keys (fun x hx => by obtain ⟨y, hy, rfl⟩ := List.mem_map.1 hx; exact h.few y hy)
  have h12 : (keysP ++ keysQ).length = 12 := by decide
  rw [List.length_map] at this
  omega
theorem Rel.len' {s s' : TS} (h : Rel s s') : s'.2.length < 64 := by
  have := nodup_le (l := s'.2.map fun y => y.1) (k := keysP) h.inv'.inv.keys (fun x hx => by obtain ⟨y, hy, rfl⟩ := List.mem_map.1 hx; exact h.few' y hy)
  have h12 : keysP.length = 6 := by decide
  rw [List.length_map] at this
  omega
theorem rel_start : Rel (List.replicate 8 dLast, []) (List.replicate 8 dLast, []) := ⟨t0_inv, t0_inv, rfl, fun _ _ => rfl, (fun x h => nomatch h), (fun x h => nomatch h)⟩
theorem getD_set_ne {t : List LastV} {i j : Nat} (x : LastV) (h : i ≠ j) : (t.set i x).getD j dLast = t.getD j dLast := by
  rw [List.getD_eq_getElem?_getD, List.getElem?_set_ne h, ← List.getD_eq_getElem?_getD]
theorem getD_set_eq {t : List LastV} {i : Nat} (x : LastV) (h : i < t.length) : (t.set i x).getD i dLast = x := by
  rw [List.getD_eq_getElem?_getD, List.getElem?_set_self h]; rfl
theorem Rel.stepQ {t m t' m'} (h : Rel (t, m) (t', m')) {r : ReqV} (hr : QReq r) : Rel ((sdo t m r).2.1, (sdo t m r).2.2) (t', m') := by
  have h1 := sdo_inv r h.inv
  have hi : ix r = 1 := by unfold ix; rw [hr.client]; rfl
  simp only at h1
  rw [sdo_form h.inv.len] at h1 ⊢
  split
  · rename_i hv
    rw [if_pos hv] at h1
    split
    · exact h
    · rename_i c1
      rw [if_neg c1] at h1
      split
      · exact h
      · rename_i c2
        rw [if_neg c2] at h1
        refine ⟨h1, h.inv', ?_, ?_, ?_, h.few'⟩
        · simp only; rw [hi, getD_set_ne _ (by decide)]; exact h.tab
        · intro k hk
          simp only
          rw [loc_frame r.op h.inv.inv (fun e => by rw [e, keysQ_pk _ hr.key] at hk; cases hk) (fun h5 e => by rw [e, keysQ_pk _ (hr.dest h5)] at hk; cases hk)]
          exact h.get k hk
        · exact loc_keys r.op h.inv.inv h.few (List.mem_append_right _ hr.key) (fun h5 => List.mem_append_right _ (hr.dest h5))
  · exact h
theorem Rel.stepP {t m t' m'} (h : Rel (t, m) (t', m')) {r : ReqV} (hr : PReq r) : (sdo t m r).1 = (sdo t' m' r).1 ∧ Rel ((sdo t m r).2.1, (sdo t m r).2.2) ((sdo t' m' r).2.1, (sdo t' m' r).2.2) := by
  have h1 := sdo_inv r h.inv
  have h2 := sdo_inv r h.inv'
  have hi : ix r = 0 := by unfold ix; rw [hr.client]; rfl
  have ht : t.getD (ix r) dLast = t'.getD (ix r) dLast := by rw [hi]; exact h.tab
  have hl1 : t.length = 8 := h.inv.len
  have hl2 : t'.length = 8 := h.inv'.len
  have hL := loc_step (o := r.op) h.inv.inv h.inv'.inv h.len h.len' (h.get _ (keysP_pk _ hr.key)) (fun h5 => h.get _ (keysP_pk _ (hr.dest h5)))
  simp only at h1 h2 hL
  rw [sdo_form h.inv.len] at h1 ⊢
  rw [sdo_form h.inv'.len] at h2 ⊢
  simp only [ht] at h1 ⊢
  split
  · rename_i hv
    rw [if_pos hv] at h1 h2
    split
    · exact ⟨rfl, h⟩
    · rename_i c1
      rw [if_neg c1] at h1 h2
      split
      · exact ⟨rfl, h⟩
      · rename_i c2
        rw [if_neg c2] at h1 h2
        refine ⟨by simp only [hL.1], h1, h2, ?_, ?_, ?_, ?_⟩
        · simp only; rw [hi, getD_set_eq _ (by omega), getD_set_eq _ (by omega), hL.1]
        · intro k hk; exact hL.2 k (h.get k hk)
        · exact loc_keys r.op h.inv.inv h.few (List.mem_append_left _ hr.key) (fun h5 => List.mem_append_left _ (hr.dest h5))
        · exact loc_keys r.op h.inv'.inv h.few' hr.key hr.dest
  · exact ⟨rfl, h⟩
theorem Rel.mine {t m t' m'} (h : Rel (t, m) (t', m')) : (lst m).filter (fun x => pk x.key) = lst m' := by
  rw [lst_filter (m' := m') h.inv.inv.keys h.inv'.inv.keys _ (fun x hx => h.get _ hx)]
  exact List.filter_eq_self.2 fun x hx => keysP_pk _ (h.few' _ (lst_mem.1 hx))
theorem Rel.last {t m t' m'} (h : Rel (t, m) (t', m')) : tlast t 1 = tlast t' 1 := by
  unfold tlast
  rw [if_pos (isClient_iff.2 ⟨by decide, by decide⟩), if_pos (isClient_iff.2 ⟨by decide, by decide⟩)]
  exact h.tab
/-! ### What the walk writes -/
def wCl (r : ReqV) (c : Int) : ReqV := ⟨c, r.time, r.op, r.tag⟩
def wKey (r : ReqV) (k : ByteArray) : ReqV := ⟨r.client, r.time, ⟨r.op.kind, k, r.op.value, r.op.old, r.op.dest, r.op.amount⟩, r.tag⟩
def wDest (r : ReqV) (k : ByteArray) : ReqV := ⟨r.client, r.time, ⟨r.op.kind, r.op.key, r.op.value, r.op.old, k, r.op.amount⟩, r.tag⟩
theorem keyP_mem {X : Int} (h1 : 97 ≤ X) (h2 : X ≤ 102) : ((⟨#[112]⟩ : ByteArray) ++ (⟨([u8of X] : List UInt8).toArray⟩ : ByteArray)) ∈ keysP := by
  have : X = 97 ∨ X = 98 ∨ X = 99 ∨ X = 100 ∨ X = 101 ∨ X = 102 := by omega
  rcases this with rfl | rfl | rfl | rfl | rfl | rfl
  · exact List.mem_map.2 ⟨0, by decide, by decide +kernel⟩
  · exact List.mem_map.2 ⟨1, by decide, by decide +kernel⟩
  · exact List.mem_map.2 ⟨2, by decide, by decide +kernel⟩
  · exact List.mem_map.2 ⟨3, by decide, by decide +kernel⟩
  · exact List.mem_map.2 ⟨4, by decide, by decide +kernel⟩
  · exact List.mem_map.2 ⟨5, by decide, by decide +kernel⟩
theorem keyQ_mem {X : Int} (h1 : 97 ≤ X) (h2 : X ≤ 102) : ((⟨#[113]⟩ : ByteArray) ++ (⟨([u8of X] : List UInt8).toArray⟩ : ByteArray)) ∈ keysQ := by
  have : X = 97 ∨ X = 98 ∨ X = 99 ∨ X = 100 ∨ X = 101 ∨ X = 102 := by omega
  rcases this with rfl | rfl | rfl | rfl | rfl | rfl
  · exact List.mem_map.2 ⟨0, by decide, by decide +kernel⟩
  · exact List.mem_map.2 ⟨1, by decide, by decide +kernel⟩
  · exact List.mem_map.2 ⟨2, by decide, by decide +kernel⟩
  · exact List.mem_map.2 ⟨3, by decide, by decide +kernel⟩
  · exact List.mem_map.2 ⟨4, by decide, by decide +kernel⟩
  · exact List.mem_map.2 ⟨5, by decide, by decide +kernel⟩
theorem filt_yes {l : List ItemV} {j : Nat} {p : ItemV → Bool} (hj : j < l.length) (h : p (l.getD j dItem) = true) : (l.take j).filter p ++ [l.getD j dItem] = (l.take (j + 1)).filter p := by
  rw [take_succ_getD (d := dItem) hj, List.filter_append, List.filter_cons, if_pos h]; rfl
theorem filt_no {l : List ItemV} {j : Nat} {p : ItemV → Bool} (hj : j < l.length) (h : p (l.getD j dItem) = false) : (l.take j).filter p = (l.take (j + 1)).filter p := by
  rw [take_succ_getD (d := dItem) hj, List.filter_append, List.filter_cons, if_neg (ne_true_of_eq_false h)]; simp
theorem pk_yes {k : ByteArray} (h1 : ((k.size : Nat) : Int) > 0) (h2 : ((bat k 0 : Nat) : Int) = 112) : pk k = true := by
  unfold pk
  rw [decide_eq_true (by omega), show bat k 0 = 112 by omega]; rfl
theorem pk_no1 {k : ByteArray} (h1 : ¬ ((k.size : Nat) : Int) > 0) : pk k = false := by
  unfold pk
  rw [decide_eq_false (by omega)]; rfl
theorem pk_no2 {k : ByteArray} (h2 : ¬ ((bat k 0 : Nat) : Int) = 112) : pk k = false := by
  unfold pk
  have : (bat k 0 == 112) = false := beq_eq_false_iff_ne.2 (by omega)
  rw [this, Bool.and_false]
theorem pk_and {k : ByteArray} (h : (decide (((k.size : Nat) : Int) > 0) && (((bat k 0 : Nat) : Int) == 112)) = false) : pk k = false := by
  by_cases h1 : ((k.size : Nat) : Int) > 0
  · rw [decide_eq_true h1, Bool.true_and] at h
    exact pk_no2 (fun e => by rw [e] at h; cases h)
  · exact pk_no1 h1
end Go.Proofs.YtkeckbgkhpaofaaDoor
