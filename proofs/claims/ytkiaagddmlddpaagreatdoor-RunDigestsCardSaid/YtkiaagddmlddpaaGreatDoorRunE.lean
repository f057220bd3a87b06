/-
  What RunDigests is told of: bytes that came in; what stays of a run.
-/
import Derived.Test.YtkiaagddmlddpaaGreatDoorRunD
namespace Go.Proofs.YtkiaagddmlddpaaGreatDoor
open Go.RowKit Go.Sx
set_option linter.unusedVariables false
set_option linter.unusedSimpArgs false
set_option linter.unnecessarySimpa false
set_option maxRecDepth 100000
structure ByV where
  b : Int
def ByV.cells (x : ByV) : Array Value := #[.int .u8 x.b]
abbrev dBy : ByV := ⟨0⟩
theorem byvF : CellF ByV.cells 1 := ⟨fun _ => rfl, fun _ => rfl⟩
abbrev ByV.kinds : List FK := [.int .u8]
structure ByV.OK (o : ByV) : Prop where
  b : 0 ≤ o.b ∧ o.b ≤ 255
theorem ByV.of {cs : Array Value} (h : fitsAll ByV.kinds cs.toList) (hw : ∀ s, Value.string s ∈ cs.toList → s.size ≤ 140737488351232) : ∃ o : ByV, ByV.OK o ∧ cs = ByV.cells o := by
  obtain ⟨l⟩ := cs
  simp only at h hw
  obtain ⟨_, r0, rfl, ⟨⟨n0, rfl, w0⟩, -⟩, g0⟩ := fitsAll_cons h
  obtain rfl := fitsAll_nil g0
  exact ⟨⟨n0⟩, ⟨(by have h := wf_u8 w0; exact h)⟩, rfl⟩
theorem take_pre {l : List ReqV} {n m : Nat} (h : n ≤ m) (h2 : m ≤ l.length) : (l.take m).take (l.take n).length = l.take n := by
  rw [List.length_take, List.take_take, show min (min n l.length) m = n by omega]
theorem min_nat {a n : Nat} {b : Int} (hb : 0 ≤ b) : ∃ m : Nat, min ((a : Nat) : Int) ((n : Nat) + b % 9) = (m : Int) ∧ (n ≤ a → n ≤ m) ∧ m ≤ a := by
  have h9 : 0 ≤ b % 9 := Int.emod_nonneg _ (by decide)
  refine ⟨Int.toNat (min ((a : Nat) : Int) ((n : Nat) + b % 9)), ?_, fun h => ?_, ?_⟩ <;> omega
theorem dig_same {l : List ReqV} {n k : Nat} {tB : List LastV} {mB : Pairs} {cB : Int} (hn : n ≤ l.length) (hk : k ≠ 0 ∧ k % 4 = 0 ∧ k ≤ (l.take n).length) (h : (tB, mB) = trun (l.take k)) (hc : cB = ((l.take k).length : Nat)) : (digsOf (l.take n)).getD (k / 4 - 1) dD32 = digV (wd cB ++ tailB tB (lst mB)) := by
  have hk3 := hk.2.2
  rw [List.length_take] at hk3
  rw [digsOf_take l hn, digsN_get (by omega), show 4 * (k / 4 - 1 + 1) = k by omega]
  unfold digAt
  rw [← h, hc]
theorem take_more {l : List ReqV} {k : Nat} (h : ¬ k < l.length) : l.take (k + 1) = l.take k := by
  rw [List.take_of_length_le (by omega), List.take_of_length_le (by omega)]
end Go.Proofs.YtkiaagddmlddpaaGreatDoor
