/-
  The plain function of LedgerSums.
-/
import Derived.Test.YtkeckbgkhpaofaaDoorProg
import Derived.Test.YtkeckbgkhpaofaaDoorLawB
namespace Go.Proofs.YtkeckbgkhpaofaaDoor
open Go.RowKit Go.Sx
set_option linter.unusedVariables false
set_option linter.unusedSimpArgs false
set_option linter.unnecessarySimpa false
set_option maxRecDepth 100000
def sumB (m : List (ByteArray × ByteArray)) (o : OpV) : Bool :=
  if (((((ldo (m) o).1).err) : Int) != 0) = true then
    if (!(decide ((lst (m)) = (lst ((ldo (m) o).2))))) = true then
      false
    else
      if (((o.kind) : Int) == 5) = true then
        if (((sumL (lst (m))) : Int) != (sumL (lst ((ldo (m) o).2)))) = true then
          false
        else
          if (decide ((((lst ((ldo (m) o).2)).length : Nat) : Int) > 64)) = true then
            false
          else
            true
      else
        if (decide ((((lst ((ldo (m) o).2)).length : Nat) : Int) > 64)) = true then
          false
        else
          true
  else
    if (((o.kind) : Int) == 5) = true then
      if (((sumL (lst (m))) : Int) != (sumL (lst ((ldo (m) o).2)))) = true then
        false
      else
        if (decide ((((lst ((ldo (m) o).2)).length : Nat) : Int) > 64)) = true then
          false
        else
          true
    else
      if (decide ((((lst ((ldo (m) o).2)).length : Nat) : Int) > 64)) = true then
        false
      else
        true
end Go.Proofs.YtkeckbgkhpaofaaDoor
