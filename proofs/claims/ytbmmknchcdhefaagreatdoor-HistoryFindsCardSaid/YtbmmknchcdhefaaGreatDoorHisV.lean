/-
  Replies are small; what was made, further. Conditions: none beside each theorem's own.
-/
import Derived.Test.YtbmmknchcdhefaaGreatDoorHisU
namespace Go.Proofs.YtbmmknchcdhefaaGreatDoor
open Go.RowKit Go.Sx
set_option linter.unusedVariables false
set_option linter.unusedSimpArgs false
set_option linter.unnecessarySimpa false
set_option maxRecDepth 100000
theorem Inv.get {m : Pairs} (hi : Inv m) {k v : ByteArray} (h : aget m k = some v) : v.size ≤ 128 := hi.val _ (aget_some_mem h)
theorem mrun_row {l : List AskV} : ∀ {k : Nat}, k ≤ l.length → ∀ q ∈ (mrun l k).row, ∃ a ∈ l, q.op = a.op
  | 0, _, q, hq => by cases hq
  | k + 1, hk, q, hq => by
    have hq' : q ∈ (mstep (mrun l k) k (l.getD k dAsk)).row := hq
    unfold mstep at hq'
    split at hq'
    · exact mrun_row (by omega) q hq'
    · rcases List.mem_append.1 hq' with h1 | h1
      · exact mrun_row (by omega) q h1
      · rw [List.mem_singleton.1 h1]
        exact ⟨_, getD_mem hk, rfl⟩
theorem mrun_calls {l : List AskV} : ∀ {k : Nat}, (mrun l k).row = (mrun l k).calls.map reqOf
  | 0 => rfl
  | k + 1 => by
    show (mstep (mrun l k) k (l.getD k dAsk)).row = (mstep (mrun l k) k (l.getD k dAsk)).calls.map reqOf
    unfold mstep
    split
    · exact mrun_calls
    · show (mrun l k).row ++ [_] = ((mrun l k).calls ++ [_]).map reqOf
      rw [List.map_append, ← mrun_calls]
      have : mReq (mrun l k) (l.getD k dAsk) = reqOf (mCall (mrun l k) k (l.getD k dAsk)) := by
        unfold mCall
        split <;> rfl
      rw [this]
      rfl
end Go.Proofs.YtbmmknchcdhefaaGreatDoor
