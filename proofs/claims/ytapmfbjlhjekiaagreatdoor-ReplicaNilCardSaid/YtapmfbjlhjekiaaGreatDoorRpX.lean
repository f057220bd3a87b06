/-
  What is known of sha.Block. Conditions: none.
-/
import Derived.Test.YtapmfbjlhjekiaaGreatDoorRpD0
import Derived.Test.YtapmfbjlhjekiaaGreatDoorRpB0
import Derived.Test.YtapmfbjlhjekiaaGreatDoorRpB1
import Derived.Test.YtapmfbjlhjekiaaGreatDoorRpB2
namespace Go.Proofs.YtapmfbjlhjekiaaGreatDoor
open Go.RowKit Go.Sx Go.Ev
set_option linter.unusedVariables false
set_option linter.unusedSimpArgs false
set_option linter.unnecessarySimpa false
set_option maxRecDepth 100000
noncomputable def blkTab : List (List AV × AV) := [blkKey0, blkKey1, blkKey2, blkKey3, blkKey4, blkKey5, blkKey6, blkKey7, blkKey8, blkKey9, blkKey10, blkKey11]
theorem blk_known : ∀ e ∈ blkTab, Known 264 e := by
  intro e he
  simp only [blkTab, List.mem_cons, List.not_mem_nil, or_false] at he
  rcases he with rfl | rfl | rfl | rfl | rfl | rfl | rfl | rfl | rfl | rfl | rfl | rfl
  · exact blk0
  · exact blk1
  · exact blk2
  · exact blk3
  · exact blk4
  · exact blk5
  · exact blk6
  · exact blk7
  · exact blk8
  · exact blk9
  · exact blk10
  · exact blk11
/-- sha.Block is known at some blocks. -/
noncomputable def X1 : Specs := fun g => bif Nat.beq g 264 then some (fun ax m => match lookB ax blkTab with | some r => some (r, m) | none => none) else X0 g
theorem x1_ok : SpecsOK Tryz.prog tabG X1 := by
  intro g f h avs m r m' ν vs w w0 L hf hG hv hs
  unfold X1 at h
  cases hb : Nat.beq g 264 with
  | false =>
    rw [hb] at h
    exact x0_ok g f h avs m r m' ν vs w w0 L hf hG hv hs
  | true =>
    rw [hb] at h
    have := Nat.eq_of_beq_eq_true hb
    subst this
    simp only [cond_true, Option.some.injEq] at h
    subst h
    simp only at hf
    split at hf
    · rename_i r' hl
      simp only [Option.some.injEq, Prod.mk.injEq] at hf
      obtain ⟨rfl, rfl⟩ := hf
      exact known_ok (e := (avs, r')) (by kernel_rfl) (blk_known _ (lookB_mem hl)) hG hv hs
    · cases hf
end Go.Proofs.YtapmfbjlhjekiaaGreatDoor
