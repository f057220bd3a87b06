/-
  What the arguments of the laws are.
-/
import Derived.Test.YtkeckbgkhpaofaaDoorProg
import Derived.Test.YtkeckbgkhpaofaaDoorSxM
import Derived.Test.YtkeckbgkhpaofaaDoorLedG
namespace Go.Proofs.YtkeckbgkhpaofaaDoor
open Go.RowKit Go.Sx
set_option linter.unusedVariables false
set_option linter.unusedSimpArgs false
set_option linter.unnecessarySimpa false
set_option maxRecDepth 100000
abbrev OpV.kinds : List FK := [.int .u8, .str, .str, .str, .str, .int .u64]
structure OpV.OK (o : OpV) : Prop where
  kind : 0 ≤ o.kind ∧ o.kind ≤ 255
  key : o.key.size ≤ 140737488351232
  value : o.value.size ≤ 140737488351232
  old : o.old.size ≤ 140737488351232
  dest : o.dest.size ≤ 140737488351232
  amount : 0 ≤ o.amount ∧ o.amount ≤ 18446744073709551615
theorem OpV.of {cs : Array Value} (h : fitsAll OpV.kinds cs.toList) (hw : ∀ s, Value.string s ∈ cs.toList → s.size ≤ 140737488351232) : ∃ o : OpV, OpV.OK o ∧ cs = OpV.cells o := by
  obtain ⟨l⟩ := cs
  simp only at h hw
  obtain ⟨_, r0, rfl, ⟨⟨n0, rfl, w0⟩, -⟩, g0⟩ := fitsAll_cons h
  obtain ⟨_, r1, rfl, ⟨⟨n1, rfl, w1⟩, -⟩, g1⟩ := fitsAll_cons g0
  obtain ⟨_, r2, rfl, ⟨⟨n2, rfl, w2⟩, -⟩, g2⟩ := fitsAll_cons g1
  obtain ⟨_, r3, rfl, ⟨⟨n3, rfl, w3⟩, -⟩, g3⟩ := fitsAll_cons g2
  obtain ⟨_, r4, rfl, ⟨⟨n4, rfl, w4⟩, -⟩, g4⟩ := fitsAll_cons g3
  obtain ⟨_, r5, rfl, ⟨⟨n5, rfl, w5⟩, -⟩, g5⟩ := fitsAll_cons g4
  obtain rfl := fitsAll_nil g5
  exact ⟨⟨n0, n1, n2, n3, n4, n5⟩, ⟨(by have h := wf_u8 w0; exact h), (hw n1 (by simp)), (hw n2 (by simp)), (hw n3 (by simp)), (hw n4 (by simp)), (by have h := wf_u64 w5; exact h)⟩, rfl⟩
abbrev ItemV.kinds : List FK := [.str, .str]
structure ItemV.OK (o : ItemV) : Prop where
  key : o.key.size ≤ 140737488351232
  value : o.value.size ≤ 140737488351232
theorem ItemV.of {cs : Array Value} (h : fitsAll ItemV.kinds cs.toList) (hw : ∀ s, Value.string s ∈ cs.toList → s.size ≤ 140737488351232) : ∃ o : ItemV, ItemV.OK o ∧ cs = ItemV.cells o := by
  obtain ⟨l⟩ := cs
  simp only at h hw
  obtain ⟨_, r0, rfl, ⟨⟨n0, rfl, w0⟩, -⟩, g0⟩ := fitsAll_cons h
  obtain ⟨_, r1, rfl, ⟨⟨n1, rfl, w1⟩, -⟩, g1⟩ := fitsAll_cons g0
  obtain rfl := fitsAll_nil g1
  exact ⟨⟨n0, n1⟩, ⟨(hw n0 (by simp)), (hw n1 (by simp))⟩, rfl⟩
abbrev RepV.kinds : List FK := [.int .i64, .str]
structure RepV.OK (o : RepV) : Prop where
  err : -9223372036854775808 ≤ o.err ∧ o.err ≤ 9223372036854775807
  value : o.value.size ≤ 140737488351232
theorem RepV.of {cs : Array Value} (h : fitsAll RepV.kinds cs.toList) (hw : ∀ s, Value.string s ∈ cs.toList → s.size ≤ 140737488351232) : ∃ o : RepV, RepV.OK o ∧ cs = RepV.cells o := by
  obtain ⟨l⟩ := cs
  simp only at h hw
  obtain ⟨_, r0, rfl, ⟨⟨n0, rfl, w0⟩, -⟩, g0⟩ := fitsAll_cons h
  obtain ⟨_, r1, rfl, ⟨⟨n1, rfl, w1⟩, -⟩, g1⟩ := fitsAll_cons g0
  obtain rfl := fitsAll_nil g1
  exact ⟨⟨n0, n1⟩, ⟨(by have h := wf_i64 w0; exact h), (hw n1 (by simp))⟩, rfl⟩
theorem OpV.OK.small {o : OpV} (h : OpV.OK o) : opSum o ≤ 1000000000000000 := by have h1 := h.key; have h2 := h.value; have h3 := h.old; have h4 := h.dest; simp only [opSum]; omega
end Go.Proofs.YtkeckbgkhpaofaaDoor
