/-
  A long loop, its pieces jumped over. Conditions: none.
-/
import Derived.Test.YthekpemobnajhaaGreatDoorInJ0
import Derived.Test.YthekpemobnajhaaGreatDoorInJ1
import Derived.Test.YthekpemobnajhaaGreatDoorInJ2
import Derived.Test.YthekpemobnajhaaGreatDoorInJ3
import Derived.Test.YthekpemobnajhaaGreatDoorInJ4
import Derived.Test.YthekpemobnajhaaGreatDoorInJ5
import Derived.Test.YthekpemobnajhaaGreatDoorInJ6
import Derived.Test.YthekpemobnajhaaGreatDoorInJ7
import Derived.Test.YthekpemobnajhaaGreatDoorInJ8
namespace Go.Proofs.YthekpemobnajhaaGreatDoor
open Go.RowKit Go.Sx Go.Ev
set_option linter.unusedVariables false
set_option linter.unusedSimpArgs false
set_option linter.unnecessarySimpa false
set_option maxRecDepth 100000
noncomputable def inJTab : List Jump := [inJJ0, inJJ1, inJJ2, inJJ3, inJJ4, inJJ5, inJJ6, inJJ7, inJJ8]
theorem inJTab_ok : ∀ j ∈ inJTab, ∃ n, jumpB Tryz.prog tabG plans X1 n 6 Tryz.f6.ntmps inJLoop inJMem j = true := by
  intro j hj
  simp only [inJTab, List.mem_cons, List.not_mem_nil, or_false] at hj
  rcases hj with rfl | rfl | rfl | rfl | rfl | rfl | rfl | rfl | rfl
  · exact ⟨100000, inJJ0_ok⟩
  · exact ⟨100000, inJJ1_ok⟩
  · exact ⟨100000, inJJ2_ok⟩
  · exact ⟨100000, inJJ3_ok⟩
  · exact ⟨100000, inJJ4_ok⟩
  · exact ⟨100000, inJJ5_ok⟩
  · exact ⟨100000, inJJ6_ok⟩
  · exact ⟨100000, inJJ7_ok⟩
  · exact ⟨100000, inJJ8_ok⟩
noncomputable def XJ : Specs := fun g => bif Nat.beq g 6 then some (specJ Tryz.prog tabG plans X1 inJMem inJTab 100000 6) else X1 g
theorem XJ_ok : SpecsOK Tryz.prog tabG XJ := by
  intro g f h avs m r m' ν vs w w0 L hf hG hv hs
  unfold XJ at h
  cases hb : Nat.beq g 6 with
  | false =>
    rw [hb] at h
    exact x1_ok g f h avs m r m' ν vs w w0 L hf hG hv hs
  | true =>
    rw [hb] at h
    have := Nat.eq_of_beq_eq_true hb
    subst this
    simp only [cond_true, Option.some.injEq] at h
    subst h
    exact specJ_ok (b := inJBody) (bL := inJLoop) x1_ok hpl mix Tryz.func6 (by kernel_rfl) (by kernel_rfl) (fun x hx => by
      have e : draws inJLoop = [] := by kernel_rfl
      rw [e] at hx
      cases hx) (by kernel_rfl) inJTab_ok 100000 hf hG hv hs
end Go.Proofs.YthekpemobnajhaaGreatDoor
