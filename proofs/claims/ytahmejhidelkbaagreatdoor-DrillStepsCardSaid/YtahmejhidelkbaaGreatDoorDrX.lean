/-
  What is known of sha.Block. Conditions: none.
-/
import Derived.Test.YtahmejhidelkbaaGreatDoorDrD0
import Derived.Test.YtahmejhidelkbaaGreatDoorDrB0
import Derived.Test.YtahmejhidelkbaaGreatDoorDrB1
import Derived.Test.YtahmejhidelkbaaGreatDoorDrB2
import Derived.Test.YtahmejhidelkbaaGreatDoorDrB3
import Derived.Test.YtahmejhidelkbaaGreatDoorDrB4
import Derived.Test.YtahmejhidelkbaaGreatDoorDrB5
import Derived.Test.YtahmejhidelkbaaGreatDoorDrB6
import Derived.Test.YtahmejhidelkbaaGreatDoorEvO
namespace Go.Proofs.YtahmejhidelkbaaGreatDoor
open Go.RowKit Go.Sx Go.Ev
set_option linter.unusedVariables false
set_option linter.unusedSimpArgs false
set_option linter.unnecessarySimpa false
set_option maxRecDepth 100000
noncomputable def blkTab : List (List AV × AV) := [blkKey0, blkKey1, blkKey2, blkKey3, blkKey4, blkKey5, blkKey6, blkKey7, blkKey8, blkKey9, blkKey10, blkKey11, blkKey12, blkKey13, blkKey14, blkKey15, blkKey16, blkKey17, blkKey18, blkKey19, blkKey20, blkKey21, blkKey22, blkKey23, blkKey24, blkKey25, blkKey26, blkKey27, blkKey28, blkKey29, blkKey30, blkKey31]
theorem blk_known : ∀ e ∈ blkTab, Known 247 e := by
  intro e he
  simp only [blkTab, List.mem_cons, List.not_mem_nil, or_false] at he
  rcases he with rfl | rfl | rfl | rfl | rfl | rfl | rfl | rfl | rfl | rfl | rfl | rfl | rfl | rfl | rfl | rfl | rfl | rfl | rfl | rfl | rfl | rfl | rfl | rfl | rfl | rfl | rfl | rfl | rfl | rfl | rfl | rfl
  · exact blk0
  · exact blk1
  · exact blk2
  · exact blk3
  · exact blk4
  · exact blk5
  · exact blk6
  · exact blk7
  · exact blk8
  · exact blk9
  · exact blk10
  · exact blk11
  · exact blk12
  · exact blk13
  · exact blk14
  · exact blk15
  · exact blk16
  · exact blk17
  · exact blk18
  · exact blk19
  · exact blk20
  · exact blk21
  · exact blk22
  · exact blk23
  · exact blk24
  · exact blk25
  · exact blk26
  · exact blk27
  · exact blk28
  · exact blk29
  · exact blk30
  · exact blk31
/-- sha.Block is known at some blocks. -/
noncomputable def X1 : Specs := fun g => bif Nat.beq g 247 then some (fun ax m => match lookB ax blkTab with | some r => some (r, m) | none => none) else X0 g
theorem x1_ok : SpecsOK Tryz.prog tabG X1 := by
  intro g f h avs m r m' ν vs w w0 L hf hG hv hs
  unfold X1 at h
  cases hb : Nat.beq g 247 with
  | false =>
    rw [hb] at h
    exact x0_ok g f h avs m r m' ν vs w w0 L hf hG hv hs
  | true =>
    rw [hb] at h
    have := Nat.eq_of_beq_eq_true hb
    subst this
    simp only [cond_true, Option.some.injEq] at h
    subst h
    simp only at hf
    split at hf
    · rename_i r' hl
      simp only [Option.some.injEq, Prod.mk.injEq] at hf
      obtain ⟨rfl, rfl⟩ := hf
      exact known_ok (e := (avs, r')) (by kernel_rfl) (blk_known _ (lookB_mem hl)) hG hv hs
    · cases hf
/-- slices.Sorted[uint64] comes out in several ways that agree. -/
noncomputable def XW0 : Specs := fun g => bif Nat.beq g 237 then some (specR Tryz.prog tabG plans X1 100000 1 237) else X1 g
theorem xw0_ok : SpecsOK Tryz.prog tabG XW0 := by
  intro g f h avs m r m' ν vs w w0 L hf hG hv hs
  unfold XW0 at h
  cases hb : Nat.beq g 237 with
  | false =>
    rw [hb] at h
    exact x1_ok g f h avs m r m' ν vs w w0 L hf hG hv hs
  | true =>
    rw [hb] at h
    have := Nat.eq_of_beq_eq_true hb
    subst this
    simp only [cond_true, Option.some.injEq] at h
    subst h
    exact specR_ok x1_ok hpl mix 100000 1 hf hG hv hs
end Go.Proofs.YtahmejhidelkbaaGreatDoor
