/-
  The walks of the laws of layer 9.
-/
import Derived.Test.YtbmmknchcdhefaaGreatDoorSxT
import Derived.Test.YtbmmknchcdhefaaGreatDoorProg
import Derived.Test.YtbmmknchcdhefaaGreatDoorLedF
namespace Go.Proofs.YtbmmknchcdhefaaGreatDoor
open Go.RowKit Go.Sx
set_option linter.unusedVariables false
set_option linter.unusedSimpArgs false
set_option linter.unnecessarySimpa false
set_option maxRecDepth 100000
theorem Laid.base {W w w0 : World} {L : List Asn} (h : Laid W) (hs : St w0 L w) (i : Nat) (hi : L[i]? = some (Base W)) : Laid w := by
  have hb := hs.at_ i hi
  have key : ∀ (n : String) (g : Nat) (v : Array Value), Tryz.prog.globalNamed n = some g → W.var? Tryz.prog n = some v → w.var? Tryz.prog n = some v := by
    intro n g v hg hv
    unfold World.var? at hv ⊢
    rw [hg] at hv ⊢
    simp only [Option.bind_some] at hv ⊢
    have hlt : g < W.heap.size := by
      cases hx : W.heap[g]? with
      | none => rw [hx] at hv; cases hv
      | some o => exact (Array.getElem?_eq_some_iff.1 hx).1
    rw [hb g hlt]
    exact hv
  obtain ⟨h1, ⟨t2, p2, h2⟩, ⟨t3, p3, h3⟩⟩ := h
  exact ⟨key _ _ _ (by kernel_rfl : _ = some 0) h1, ⟨t2, p2, key _ _ _ (by kernel_rfl : _ = some 1) h2⟩, ⟨t3, p3, key _ _ _ (by kernel_rfl : _ = some 2) h3⟩⟩
end Go.Proofs.YtbmmknchcdhefaaGreatDoor
