/-
  A long loop, its pieces jumped over. Conditions: none.
-/
import Derived.Test.YthekpemobnajhaaGreatDoorInL0
import Derived.Test.YthekpemobnajhaaGreatDoorInL1
import Derived.Test.YthekpemobnajhaaGreatDoorInL2
import Derived.Test.YthekpemobnajhaaGreatDoorInL3
namespace Go.Proofs.YthekpemobnajhaaGreatDoor
open Go.RowKit Go.Sx Go.Ev
set_option linter.unusedVariables false
set_option linter.unusedSimpArgs false
set_option linter.unnecessarySimpa false
set_option maxRecDepth 100000
noncomputable def inLTab : List Jump := [inLJ0, inLJ1, inLJ2, inLJ3]
theorem inLTab_ok : ∀ j ∈ inLTab, ∃ n, jumpB Tryz.prog tabG plans X0 n 6 Tryz.f6.ntmps inLLoop inLMem j = true := by
  intro j hj
  simp only [inLTab, List.mem_cons, List.not_mem_nil, or_false] at hj
  rcases hj with rfl | rfl | rfl | rfl
  · exact ⟨100000, inLJ0_ok⟩
  · exact ⟨100000, inLJ1_ok⟩
  · exact ⟨100000, inLJ2_ok⟩
  · exact ⟨100000, inLJ3_ok⟩
noncomputable def XLo : Specs := fun g => bif Nat.beq g 6 then some (specJ Tryz.prog tabG plans X0 inLMem inLTab 100000 6) else X0 g
theorem XLo_ok : SpecsOK Tryz.prog tabG XLo := by
  intro g f h avs m r m' ν vs w w0 L hf hG hv hs
  unfold XLo at h
  cases hb : Nat.beq g 6 with
  | false =>
    rw [hb] at h
    exact x0_ok g f h avs m r m' ν vs w w0 L hf hG hv hs
  | true =>
    rw [hb] at h
    have := Nat.eq_of_beq_eq_true hb
    subst this
    simp only [cond_true, Option.some.injEq] at h
    subst h
    exact specJ_ok (b := inLBody) (bL := inLLoop) x0_ok hpl mix Tryz.func6 (by kernel_rfl) (by kernel_rfl) (fun x hx => by
      have e : draws inLLoop = [] := by kernel_rfl
      rw [e] at hx
      cases hx) (by kernel_rfl) inLTab_ok 100000 hf hG hv hs
end Go.Proofs.YthekpemobnajhaaGreatDoor
