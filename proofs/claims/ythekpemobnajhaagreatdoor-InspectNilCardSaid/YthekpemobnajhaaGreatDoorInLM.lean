/-
  A long loop: what stays of memory, and its pieces. Conditions: none.
-/
import Derived.Test.YthekpemobnajhaaGreatDoorEvT
import Derived.Test.YthekpemobnajhaaGreatDoorInX
namespace Go.Proofs.YthekpemobnajhaaGreatDoor
open Go.RowKit Go.Sx Go.Ev
set_option linter.unusedVariables false
set_option linter.unusedSimpArgs false
set_option linter.unnecessarySimpa false
set_option maxRecDepth 100000
noncomputable def inLMem : List (Nat × Ev.Blk) := []
noncomputable def inLBody : Code := Tryz.f6.body.getD .skip
noncomputable def inLLoop : Code := (loopsOf inLBody).headD .skip
noncomputable def inLJ0 : Jump := ⟨6, 0, [(0, .flat (.pointer none)), (2, .flat (.slice none 0 0)), (6, .num .i64 0)], 2, 2053, [(0, .flat (.pointer none)), (2, .flat (.slice none 0 0)), (6, .num .i64 2053)], 4108⟩
noncomputable def inLJ1 : Jump := ⟨6, 2053, [(0, .flat (.pointer none)), (2, .flat (.slice none 0 0)), (6, .num .i64 2053)], 4108, 2053, [(0, .flat (.pointer none)), (2, .flat (.slice none 0 0)), (6, .num .i64 4106)], 8214⟩
noncomputable def inLJ2 : Jump := ⟨6, 4106, [(0, .flat (.pointer none)), (2, .flat (.slice none 0 0)), (6, .num .i64 4106)], 8214, 2053, [(0, .flat (.pointer none)), (2, .flat (.slice none 0 0)), (6, .num .i64 6159)], 12320⟩
noncomputable def inLJ3 : Jump := ⟨6, 6159, [(0, .flat (.pointer none)), (2, .flat (.slice none 0 0)), (6, .num .i64 6159)], 12320, 2053, [(0, .flat (.pointer none)), (2, .flat (.slice none 0 0)), (6, .num .i64 8212)], 16426⟩
end Go.Proofs.YthekpemobnajhaaGreatDoor
