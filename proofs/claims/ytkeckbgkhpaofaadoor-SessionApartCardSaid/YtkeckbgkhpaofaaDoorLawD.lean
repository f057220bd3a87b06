/-
  Plain functions of the laws of layer 9.
-/
import Derived.Test.YtkeckbgkhpaofaaDoorProg
import Derived.Test.YtkeckbgkhpaofaaDoorLawA
import Derived.Test.YtkeckbgkhpaofaaDoorCardT
namespace Go.Proofs.YtkeckbgkhpaofaaDoor
open Go.RowKit Go.Sx
set_option linter.unusedVariables false
set_option linter.unusedSimpArgs false
set_option linter.unnecessarySimpa false
set_option maxRecDepth 100000
def lrun (l : List OpV) : List (ByteArray × ByteArray) := l.foldl (fun m o => (ldo m o).2) []
def effB (m : List (ByteArray × ByteArray)) (o : OpV) : Bool :=
  if (!(decide (((lst (m)).filter (oth o.key o.dest)) = ((lst ((ldo (m) o).2)).filter (oth o.key o.dest))))) = true then
    false
  else
    if (!(may o)) = true then
      if (decide ((ldo (m) o).1 = (⟨1, (⟨#[]⟩ : ByteArray)⟩ : RepV))) = true then
        if (decide ((lst (m)) = (lst ((ldo (m) o).2)))) = true then
          true
        else
          false
      else
        false
    else
      if ((o.kind : Int) == 1) = true then
        if (decide ((lst (m)) = (lst ((ldo (m) o).2)))) = true then
          if ((aget (m) o.key).isSome) = true then
            if (decide ((ldo (m) o).1 = (⟨0, (aget (m) o.key).getD (⟨#[]⟩ : ByteArray)⟩ : RepV))) = true then
              true
            else
              false
          else
            if (decide ((ldo (m) o).1 = (⟨4, (⟨#[]⟩ : ByteArray)⟩ : RepV))) = true then
              true
            else
              false
        else
          false
      else
        if ((o.kind : Int) == 2) = true then
          if ((!((aget (m) o.key).isSome)) && (decide ((((lst (m)).length : Nat) : Int) ≥ 64))) = true then
            if (decide ((ldo (m) o).1 = (⟨7, (⟨#[]⟩ : ByteArray)⟩ : RepV))) = true then
              true
            else
              false
          else
            if (decide ((ldo (m) o).1 = (⟨0, (⟨#[]⟩ : ByteArray)⟩ : RepV))) = true then
              if ((aget ((ldo (m) o).2) o.key).isSome) = true then
                if (decide (((aget ((ldo (m) o).2) o.key).getD (⟨#[]⟩ : ByteArray)) = o.value)) = true then
                  true
                else
                  false
              else
                false
            else
              false
        else
          if ((o.kind : Int) == 3) = true then
            if (!((aget ((ldo (m) o).2) o.key).isSome)) = true then
              if ((aget (m) o.key).isSome) = true then
                if (decide ((ldo (m) o).1 = (⟨0, (aget (m) o.key).getD (⟨#[]⟩ : ByteArray)⟩ : RepV))) = true then
                  true
                else
                  false
              else
                if (decide ((ldo (m) o).1 = (⟨4, (⟨#[]⟩ : ByteArray)⟩ : RepV))) = true then
                  true
                else
                  false
            else
              false
          else
            if ((o.kind : Int) == 4) = true then
              if (((aget (m) o.key).isSome) && (decide (((aget (m) o.key).getD (⟨#[]⟩ : ByteArray)) = o.old))) = true then
                if ((aget ((ldo (m) o).2) o.key).isSome) = true then
                  if (decide (((aget ((ldo (m) o).2) o.key).getD (⟨#[]⟩ : ByteArray)) = o.value)) = true then
                    if (decide ((ldo (m) o).1 = (⟨0, (⟨#[]⟩ : ByteArray)⟩ : RepV))) = true then
                      true
                    else
                      false
                  else
                    false
                else
                  false
              else
                if (decide ((lst (m)) = (lst ((ldo (m) o).2)))) = true then
                  if (((((ldo (m) o).1).err) : Int) != 0) = true then
                    true
                  else
                    false
                else
                  false
            else
              true
end Go.Proofs.YtkeckbgkhpaofaaDoor
