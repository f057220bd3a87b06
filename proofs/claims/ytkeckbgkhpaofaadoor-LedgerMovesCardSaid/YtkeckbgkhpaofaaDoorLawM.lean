/-
  The plain function of LedgerMoves.
-/
import Derived.Test.YtkeckbgkhpaofaaDoorProg
import Derived.Test.YtkeckbgkhpaofaaDoorLawB
namespace Go.Proofs.YtkeckbgkhpaofaaDoor
open Go.RowKit Go.Sx
set_option linter.unusedVariables false
set_option linter.unusedSimpArgs false
set_option linter.unnecessarySimpa false
set_option maxRecDepth 100000
def movB (m : List (ByteArray × ByteArray)) (a b : ByteArray) (n : Int) : Bool :=
  if (!((((((((aget (m) a).isSome) && ((num ((aget (m) a).getD (⟨#[]⟩ : ByteArray))).2)) && (((num ((aget (m) b).getD (⟨#[]⟩ : ByteArray))).2) || (!((aget (m) b).isSome)))) && (decide (((num ((aget (m) a).getD (⟨#[]⟩ : ByteArray))).1 : Int) ≥ n))) && (decide ((IntKind.u64.wrap (((num ((aget (m) b).getD (⟨#[]⟩ : ByteArray))).1) + n) : Int) ≤ 1125899906842624))) && (((aget (m) b).isSome) || (decide ((((lst (m)).length : Nat) : Int) < 64)))) == (((((ldo (m) (⟨5, a, (⟨#[]⟩ : ByteArray), (⟨#[]⟩ : ByteArray), b, n⟩ : OpV)).1).err) : Int) == 0))) = true then
    false
  else
    if (!(((((((aget (m) a).isSome) && ((num ((aget (m) a).getD (⟨#[]⟩ : ByteArray))).2)) && (((num ((aget (m) b).getD (⟨#[]⟩ : ByteArray))).2) || (!((aget (m) b).isSome)))) && (decide (((num ((aget (m) a).getD (⟨#[]⟩ : ByteArray))).1 : Int) ≥ n))) && (decide ((IntKind.u64.wrap (((num ((aget (m) b).getD (⟨#[]⟩ : ByteArray))).1) + n) : Int) ≤ 1125899906842624))) && (((aget (m) b).isSome) || (decide ((((lst (m)).length : Nat) : Int) < 64))))) = true then
      if (decide ((lst (m)) = (lst ((ldo (m) (⟨5, a, (⟨#[]⟩ : ByteArray), (⟨#[]⟩ : ByteArray), b, n⟩ : OpV)).2)))) = true then
        true
      else
        false
    else
      if ((((((((num ((aget ((ldo (m) (⟨5, a, (⟨#[]⟩ : ByteArray), (⟨#[]⟩ : ByteArray), b, n⟩ : OpV)).2) a).getD (⟨#[]⟩ : ByteArray))).1) : Int) != (IntKind.u64.wrap (((num ((aget (m) a).getD (⟨#[]⟩ : ByteArray))).1) - n))) || (!((aget ((ldo (m) (⟨5, a, (⟨#[]⟩ : ByteArray), (⟨#[]⟩ : ByteArray), b, n⟩ : OpV)).2) b).isSome))) || (!((num ((aget ((ldo (m) (⟨5, a, (⟨#[]⟩ : ByteArray), (⟨#[]⟩ : ByteArray), b, n⟩ : OpV)).2) b).getD (⟨#[]⟩ : ByteArray))).2))) || ((((num ((aget ((ldo (m) (⟨5, a, (⟨#[]⟩ : ByteArray), (⟨#[]⟩ : ByteArray), b, n⟩ : OpV)).2) b).getD (⟨#[]⟩ : ByteArray))).1) : Int) != (IntKind.u64.wrap (((num ((aget (m) b).getD (⟨#[]⟩ : ByteArray))).1) + n)))) || (!(decide ((((ldo (m) (⟨5, a, (⟨#[]⟩ : ByteArray), (⟨#[]⟩ : ByteArray), b, n⟩ : OpV)).1).value) = ((aget ((ldo (m) (⟨5, a, (⟨#[]⟩ : ByteArray), (⟨#[]⟩ : ByteArray), b, n⟩ : OpV)).2) a).getD (⟨#[]⟩ : ByteArray)))))) = true then
        false
      else
        if (!((aget (m) b).isSome)) = true then
          if (!(decide (((aget ((ldo ((ldo (m) (⟨5, a, (⟨#[]⟩ : ByteArray), (⟨#[]⟩ : ByteArray), b, n⟩ : OpV)).2) (⟨5, b, (⟨#[]⟩ : ByteArray), (⟨#[]⟩ : ByteArray), a, n⟩ : OpV)).2) b).getD (⟨#[]⟩ : ByteArray)) = (⟨#[48]⟩ : ByteArray)))) = true then
            false
          else
            if (decide ((lst (m)) = (lst ((ldo ((ldo ((ldo (m) (⟨5, a, (⟨#[]⟩ : ByteArray), (⟨#[]⟩ : ByteArray), b, n⟩ : OpV)).2) (⟨5, b, (⟨#[]⟩ : ByteArray), (⟨#[]⟩ : ByteArray), a, n⟩ : OpV)).2) (⟨3, b, (⟨#[]⟩ : ByteArray), (⟨#[]⟩ : ByteArray), (⟨#[]⟩ : ByteArray), 0⟩ : OpV)).2)))) = true then
              true
            else
              false
        else
          if (decide ((lst (m)) = (lst ((ldo ((ldo (m) (⟨5, a, (⟨#[]⟩ : ByteArray), (⟨#[]⟩ : ByteArray), b, n⟩ : OpV)).2) (⟨5, b, (⟨#[]⟩ : ByteArray), (⟨#[]⟩ : ByteArray), a, n⟩ : OpV)).2)))) = true then
            true
          else
            false
end Go.Proofs.YtkeckbgkhpaofaaDoor
