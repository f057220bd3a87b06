/-
  The plain function of SessionOnce.
-/
import Derived.Test.YtkeckbgkhpaofaaDoorProg
import Derived.Test.YtkeckbgkhpaofaaDoorCardS
import Derived.Test.YtkeckbgkhpaofaaDoorLawS
namespace Go.Proofs.YtkeckbgkhpaofaaDoor
open Go.RowKit Go.Sx
set_option linter.unusedVariables false
set_option linter.unusedSimpArgs false
set_option linter.unnecessarySimpa false
set_option maxRecDepth 100000
def onceB (tl : List LastV) (m : List (ByteArray × ByteArray)) (la : List LastV) (r : ReqV) : Bool :=
  if (((decide ((r.client : Int) < 1)) || (decide ((r.client : Int) > 8))) || (((r.time) : Int) == 0)) = true then
    if (((sdo (tl) (m) r).1.2) || (((((sdo (tl) (m) r).1.1).err) : Int) != 1)) = true then
      false
    else
      true
  else
    if (!(((sdo (tl) (m) r).1.2) == (decide ((r.time : Int) > ((la.getD (Int.toNat (r.client)) dLast).time))))) = true then
      false
    else
      if (((r.time) : Int) == ((la.getD (Int.toNat (r.client)) dLast).time)) = true then
        if (!(decide ((sdo (tl) (m) r).1.1 = (la.getD (Int.toNat (r.client)) dLast).reply))) = true then
          false
        else
          if ((sdo (tl) (m) r).1.2) = true then
            true
          else
            true
      else
        if ((sdo (tl) (m) r).1.2) = true then
          true
        else
          true
end Go.Proofs.YtkeckbgkhpaofaaDoor
