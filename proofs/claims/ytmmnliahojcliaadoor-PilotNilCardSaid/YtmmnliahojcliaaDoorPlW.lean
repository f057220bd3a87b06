/-
  The anchor of layer 35 is true. Conditions: what ratchet/sha.table holds.
-/
import Derived.Test.YtmmnliahojcliaaDoorPlB0
import Derived.Test.YtmmnliahojcliaaDoorPlB1
import Derived.Test.YtmmnliahojcliaaDoorPlB2
import Derived.Test.YtmmnliahojcliaaDoorPlB3
import Derived.Test.YtmmnliahojcliaaDoorPlB4
namespace Go.Proofs.YtmmnliahojcliaaDoor
open Go.RowKit Go.Sx Go.Ev
set_option linter.unusedVariables false
set_option linter.unusedSimpArgs false
set_option linter.unnecessarySimpa false
set_option maxRecDepth 100000
def blkTab : List (List AV × AV) := [key0, key1, key2, key3, key4]
theorem blk_known : ∀ e ∈ blkTab, Known 41 e := by
  intro e he
  simp only [blkTab, List.mem_cons, List.not_mem_nil, or_false] at he
  rcases he with rfl | rfl | rfl | rfl | rfl
  · exact blk0
  · exact blk1
  · exact blk2
  · exact blk3
  · exact blk4
/-- sha.Block is known at some blocks. -/
noncomputable def X1 : Specs := fun g => bif Nat.beq g 41 then some (fun ax m => match lookB ax blkTab with | some r => some (r, m) | none => none) else X0 g
theorem x1_ok : SpecsOK Tryd.prog tabG X1 := by
  intro g f h avs m r m' ν vs w w0 L hf hG hv hs
  unfold X1 at h
  cases hb : Nat.beq g 41 with
  | false =>
    rw [hb] at h
    exact x0_ok g f h avs m r m' ν vs w w0 L hf hG hv hs
  | true =>
    rw [hb] at h
    have := Nat.eq_of_beq_eq_true hb
    subst this
    simp only [cond_true, Option.some.injEq] at h
    subst h
    simp only at hf
    split at hf
    · rename_i r' hl
      simp only [Option.some.injEq, Prod.mk.injEq] at hf
      obtain ⟨rfl, rfl⟩ := hf
      exact known_ok (e := (avs, r')) (by kernel_rfl) (blk_known _ (lookB_mem hl)) hG hv hs
    · cases hf
/-- Hear ranges over what was told, in any order. -/
noncomputable def X2 : Specs := fun g => bif Nat.beq g 7 then some (specL Tryd.prog tabG plans X1 100000 7) else X1 g
theorem x2_ok : SpecsOK Tryd.prog tabG X2 := by
  intro g f h avs m r m' ν vs w w0 L hf hG hv hs
  unfold X2 at h
  cases hb : Nat.beq g 7 with
  | false =>
    rw [hb] at h
    exact x1_ok g f h avs m r m' ν vs w w0 L hf hG hv hs
  | true =>
    rw [hb] at h
    have := Nat.eq_of_beq_eq_true hb
    subst this
    simp only [cond_true, Option.some.injEq] at h
    subst h
    exact specL_ok x1_ok hpl mix 100000 hf hG hv hs
theorem plworks_run : (callK Tryd.prog tabG X2 (exec Tryd.prog tabG plans X2 100000) 5 [] ⟨.nil, 0⟩).map (·.1) = some (.bool true) := by kernel_rfl
theorem plworks_spec {w w0 : World} {L : List Asn} (hG : GOK tabG w0 L) (hs : St w0 L w) : Calls Tryd.prog 5 #[] w (Ret fun rv w' => rv = .bool true ∧ St w0 L w') :=
  ev_callG x2_ok 100000 (by kernel_rfl) (avs := []) (vs := []) plworks_run rfl rfl hG hs
end Go.Proofs.YtmmnliahojcliaaDoor
