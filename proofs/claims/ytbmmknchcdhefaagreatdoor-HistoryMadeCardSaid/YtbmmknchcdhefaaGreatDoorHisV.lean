/-
  Replies are small; what was made, further. Conditions: none beside each theorem's own.
-/
import Derived.Test.YtbmmknchcdhefaaGreatDoorHisU
namespace Go.Proofs.YtbmmknchcdhefaaGreatDoor
open Go.RowKit Go.Sx
set_option linter.unusedVariables false
set_option linter.unusedSimpArgs false
set_option linter.unnecessarySimpa false
set_option maxRecDepth 100000
structure RepOK (r : RepV) : Prop where
  err : 0 ≤ r.err ∧ r.err ≤ 15
  value : r.value.size ≤ 128
theorem repOK_of {e : Int} {v : ByteArray} (h1 : 0 ≤ e ∧ e ≤ 15) (h2 : v.size ≤ 128) : RepOK ⟨e, v⟩ := ⟨h1, h2⟩
theorem repOK_no {e : Int} (h1 : 0 ≤ e ∧ e ≤ 15) : RepOK ⟨e, ⟨#[]⟩⟩ := ⟨h1, by show (0 : Nat) ≤ 128; omega⟩
theorem Inv.get {m : Pairs} (hi : Inv m) {k v : ByteArray} (h : aget m k = some v) : v.size ≤ 128 := hi.val _ (aget_some_mem h)
theorem ldo_rep {m : Pairs} (o : OpV) (hi : Inv m) : RepOK (ldo m o).1 := by
  cases hm : may o with
  | false => rw [ldo_not hm]; exact repOK_no (by omega)
  | true =>
    have F := may_facts hm
    rcases F.kind with hk | hk | hk | hk | hk
    · rw [ldo_get hm hk]
      cases hg : aget m o.key with
      | none => exact repOK_no (by omega)
      | some v => exact repOK_of (by omega) (hi.get hg)
    · rw [ldo_put hm hk]
      split
      · exact repOK_no (by omega)
      · exact repOK_no (by omega)
    · rw [ldo_del hm hk]
      cases hg : aget m o.key with
      | none => exact repOK_no (by omega)
      | some v => exact repOK_of (by omega) (hi.get hg)
    · rw [ldo_swap hm hk]
      cases hg : aget m o.key with
      | none => exact repOK_no (by omega)
      | some v =>
        simp only
        split
        · exact repOK_no (by omega)
        · exact repOK_of (by omega) (hi.get hg)
    · obtain ⟨hk, hd, hne, ha1, ha2⟩ := hk
      rw [ldo_move hm hk]
      cases hg : aget m o.key with
      | none => exact repOK_no (by omega)
      | some v =>
        simp only
        split
        · exact repOK_no (by omega)
        · rename_i hn
          split
          · exact repOK_of (by omega) (hi.get hg)
          · rename_i hl
            split
            · exact repOK_no (by omega)
            · split
              · exact repOK_no (by omega)
              · have hv : (number v).2 = true := by
                  cases hq : (number v).2 with
                  | true => rfl
                  | false => exact absurd (.inl hq) hn
                obtain ⟨-, hv1, hv2⟩ := number_true hv
                exact repOK_of (by omega) (dec_size128 (by omega) (by omega))
theorem MI.small {s : MS} {k : Nat} (h : MI s k) {j : Nat} (hj : j < s.calls.length) (hd : (s.calls.getD j dCall).done = true) : (s.calls.getD j dCall).reply.value.size ≤ 128 := by
  have hj' : j < s.row.length := by rw [← h.len]; exact hj
  rw [← h.rep j hj' hd]
  have ht := sdo_true (s := trun (s.row.take j)) (trun_inv _) (h.don j hj')
  have he : (stepS s.row j).1.1 = (ldo (trun (s.row.take j)).2 (s.row.getD j dReq).op).1 := by
    unfold stepS
    rw [ht.2.2]
  rw [he]
  exact (ldo_rep _ (trun_inv (s.row.take j)).inv).value
theorem mrun_row {l : List AskV} : ∀ {k : Nat}, k ≤ l.length → ∀ q ∈ (mrun l k).row, ∃ a ∈ l, q.op = a.op
  | 0, _, q, hq => by cases hq
  | k + 1, hk, q, hq => by
    have hq' : q ∈ (mstep (mrun l k) k (l.getD k dAsk)).row := hq
    unfold mstep at hq'
    split at hq'
    · exact mrun_row (by omega) q hq'
    · rcases List.mem_append.1 hq' with h1 | h1
      · exact mrun_row (by omega) q h1
      · rw [List.mem_singleton.1 h1]
        exact ⟨_, getD_mem hk, rfl⟩
theorem app_ne (v : ByteArray) (e : Int) : (⟨e, v ++ (⟨#[63]⟩ : ByteArray)⟩ : RepV) ≠ ⟨e, v⟩ := fun h => by
  have h1 := congrArg (fun r : RepV => r.value.size) h
  simp only [ByteArray.size_append] at h1
  have h2 : (⟨#[63]⟩ : ByteArray).size = 1 := rfl
  omega
end Go.Proofs.YtbmmknchcdhefaaGreatDoor
