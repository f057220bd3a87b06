/-
  The ranges of flat arguments; Few of calls. Conditions: none beside each theorem's own.
-/
import Derived.Test.YtbmmknchcdhefaaGreatDoorSxT
import Derived.Test.YtbmmknchcdhefaaGreatDoorHisF
namespace Go.Proofs.YtbmmknchcdhefaaGreatDoor
open Go.RowKit Go.Sx
set_option linter.unusedVariables false
set_option linter.unusedSimpArgs false
set_option linter.unnecessarySimpa false
set_option maxRecDepth 100000
abbrev OpV.kinds : List FK := [.int .u8, .str, .str, .str, .str, .int .u64]
structure OpV.OK (o : OpV) : Prop where
  kind : 0 ≤ o.kind ∧ o.kind ≤ 255
  key : o.key.size ≤ 140737488351232
  value : o.value.size ≤ 140737488351232
  old : o.old.size ≤ 140737488351232
  dest : o.dest.size ≤ 140737488351232
  amount : 0 ≤ o.amount ∧ o.amount ≤ 18446744073709551615
theorem OpV.of {cs : Array Value} (h : fitsAll OpV.kinds cs.toList) (hw : ∀ s, Value.string s ∈ cs.toList → s.size ≤ 140737488351232) : ∃ o : OpV, OpV.OK o ∧ cs = OpV.cells o := by
  obtain ⟨l⟩ := cs
  simp only at h hw
  obtain ⟨_, r0, rfl, ⟨⟨n0, rfl, w0⟩, -⟩, g0⟩ := fitsAll_cons h
  obtain ⟨_, r1, rfl, ⟨⟨n1, rfl, w1⟩, -⟩, g1⟩ := fitsAll_cons g0
  obtain ⟨_, r2, rfl, ⟨⟨n2, rfl, w2⟩, -⟩, g2⟩ := fitsAll_cons g1
  obtain ⟨_, r3, rfl, ⟨⟨n3, rfl, w3⟩, -⟩, g3⟩ := fitsAll_cons g2
  obtain ⟨_, r4, rfl, ⟨⟨n4, rfl, w4⟩, -⟩, g4⟩ := fitsAll_cons g3
  obtain ⟨_, r5, rfl, ⟨⟨n5, rfl, w5⟩, -⟩, g5⟩ := fitsAll_cons g4
  obtain rfl := fitsAll_nil g5
  exact ⟨⟨n0, n1, n2, n3, n4, n5⟩, ⟨(by have h := wf_u8 w0; exact h), (hw n1 (by simp)), (hw n2 (by simp)), (hw n3 (by simp)), (hw n4 (by simp)), (by have h := wf_u64 w5; exact h)⟩, rfl⟩
abbrev RepV.kinds : List FK := [.int .i64, .str]
structure RepV.OK (o : RepV) : Prop where
  err : -9223372036854775808 ≤ o.err ∧ o.err ≤ 9223372036854775807
  value : o.value.size ≤ 140737488351232
theorem RepV.of {cs : Array Value} (h : fitsAll RepV.kinds cs.toList) (hw : ∀ s, Value.string s ∈ cs.toList → s.size ≤ 140737488351232) : ∃ o : RepV, RepV.OK o ∧ cs = RepV.cells o := by
  obtain ⟨l⟩ := cs
  simp only at h hw
  obtain ⟨_, r0, rfl, ⟨⟨n0, rfl, w0⟩, -⟩, g0⟩ := fitsAll_cons h
  obtain ⟨_, r1, rfl, ⟨⟨n1, rfl, w1⟩, -⟩, g1⟩ := fitsAll_cons g0
  obtain rfl := fitsAll_nil g1
  exact ⟨⟨n0, n1⟩, ⟨(by have h := wf_i64 w0; exact h), (hw n1 (by simp))⟩, rfl⟩
abbrev ReqV.kinds : List FK := [.int .i64, .int .u64, .int .u8, .str, .str, .str, .str, .int .u64, .int .u8, .int .u8, .int .u8, .int .u8, .int .u8, .int .u8, .int .u8, .int .u8, .int .u8, .int .u8, .int .u8, .int .u8, .int .u8, .int .u8, .int .u8, .int .u8, .int .u8, .int .u8, .int .u8, .int .u8, .int .u8, .int .u8, .int .u8, .int .u8, .int .u8, .int .u8, .int .u8, .int .u8, .int .u8, .int .u8, .int .u8, .int .u8]
structure ReqV.OK (o : ReqV) : Prop where
  client : -9223372036854775808 ≤ o.client ∧ o.client ≤ 9223372036854775807
  time : 0 ≤ o.time ∧ o.time ≤ 18446744073709551615
  op : OpV.OK o.op
theorem ReqV.of {cs : Array Value} (h : fitsAll ReqV.kinds cs.toList) (hw : ∀ s, Value.string s ∈ cs.toList → s.size ≤ 140737488351232) : ∃ o : ReqV, ReqV.OK o ∧ cs = ReqV.cells o := by
  obtain ⟨l⟩ := cs
  simp only at h hw
  obtain ⟨_, r0, rfl, ⟨⟨n0, rfl, w0⟩, -⟩, g0⟩ := fitsAll_cons h
  obtain ⟨_, r1, rfl, ⟨⟨n1, rfl, w1⟩, -⟩, g1⟩ := fitsAll_cons g0
  obtain ⟨_, r2, rfl, ⟨⟨n2, rfl, w2⟩, -⟩, g2⟩ := fitsAll_cons g1
  obtain ⟨_, r3, rfl, ⟨⟨n3, rfl, w3⟩, -⟩, g3⟩ := fitsAll_cons g2
  obtain ⟨_, r4, rfl, ⟨⟨n4, rfl, w4⟩, -⟩, g4⟩ := fitsAll_cons g3
  obtain ⟨_, r5, rfl, ⟨⟨n5, rfl, w5⟩, -⟩, g5⟩ := fitsAll_cons g4
  obtain ⟨_, r6, rfl, ⟨⟨n6, rfl, w6⟩, -⟩, g6⟩ := fitsAll_cons g5
  obtain ⟨_, r7, rfl, ⟨⟨n7, rfl, w7⟩, -⟩, g7⟩ := fitsAll_cons g6
  obtain ⟨_, r8, rfl, ⟨⟨n8, rfl, w8⟩, -⟩, g8⟩ := fitsAll_cons g7
  obtain ⟨_, r9, rfl, ⟨⟨n9, rfl, w9⟩, -⟩, g9⟩ := fitsAll_cons g8
  obtain ⟨_, r10, rfl, ⟨⟨n10, rfl, w10⟩, -⟩, g10⟩ := fitsAll_cons g9
  obtain ⟨_, r11, rfl, ⟨⟨n11, rfl, w11⟩, -⟩, g11⟩ := fitsAll_cons g10
  obtain ⟨_, r12, rfl, ⟨⟨n12, rfl, w12⟩, -⟩, g12⟩ := fitsAll_cons g11
  obtain ⟨_, r13, rfl, ⟨⟨n13, rfl, w13⟩, -⟩, g13⟩ := fitsAll_cons g12
  obtain ⟨_, r14, rfl, ⟨⟨n14, rfl, w14⟩, -⟩, g14⟩ := fitsAll_cons g13
  obtain ⟨_, r15, rfl, ⟨⟨n15, rfl, w15⟩, -⟩, g15⟩ := fitsAll_cons g14
  obtain ⟨_, r16, rfl, ⟨⟨n16, rfl, w16⟩, -⟩, g16⟩ := fitsAll_cons g15
  obtain ⟨_, r17, rfl, ⟨⟨n17, rfl, w17⟩, -⟩, g17⟩ := fitsAll_cons g16
  obtain ⟨_, r18, rfl, ⟨⟨n18, rfl, w18⟩, -⟩, g18⟩ := fitsAll_cons g17
  obtain ⟨_, r19, rfl, ⟨⟨n19, rfl, w19⟩, -⟩, g19⟩ := fitsAll_cons g18
  obtain ⟨_, r20, rfl, ⟨⟨n20, rfl, w20⟩, -⟩, g20⟩ := fitsAll_cons g19
  obtain ⟨_, r21, rfl, ⟨⟨n21, rfl, w21⟩, -⟩, g21⟩ := fitsAll_cons g20
  obtain ⟨_, r22, rfl, ⟨⟨n22, rfl, w22⟩, -⟩, g22⟩ := fitsAll_cons g21
  obtain ⟨_, r23, rfl, ⟨⟨n23, rfl, w23⟩, -⟩, g23⟩ := fitsAll_cons g22
  obtain ⟨_, r24, rfl, ⟨⟨n24, rfl, w24⟩, -⟩, g24⟩ := fitsAll_cons g23
  obtain ⟨_, r25, rfl, ⟨⟨n25, rfl, w25⟩, -⟩, g25⟩ := fitsAll_cons g24
  obtain ⟨_, r26, rfl, ⟨⟨n26, rfl, w26⟩, -⟩, g26⟩ := fitsAll_cons g25
  obtain ⟨_, r27, rfl, ⟨⟨n27, rfl, w27⟩, -⟩, g27⟩ := fitsAll_cons g26
  obtain ⟨_, r28, rfl, ⟨⟨n28, rfl, w28⟩, -⟩, g28⟩ := fitsAll_cons g27
  obtain ⟨_, r29, rfl, ⟨⟨n29, rfl, w29⟩, -⟩, g29⟩ := fitsAll_cons g28
  obtain ⟨_, r30, rfl, ⟨⟨n30, rfl, w30⟩, -⟩, g30⟩ := fitsAll_cons g29
  obtain ⟨_, r31, rfl, ⟨⟨n31, rfl, w31⟩, -⟩, g31⟩ := fitsAll_cons g30
  obtain ⟨_, r32, rfl, ⟨⟨n32, rfl, w32⟩, -⟩, g32⟩ := fitsAll_cons g31
  obtain ⟨_, r33, rfl, ⟨⟨n33, rfl, w33⟩, -⟩, g33⟩ := fitsAll_cons g32
  obtain ⟨_, r34, rfl, ⟨⟨n34, rfl, w34⟩, -⟩, g34⟩ := fitsAll_cons g33
  obtain ⟨_, r35, rfl, ⟨⟨n35, rfl, w35⟩, -⟩, g35⟩ := fitsAll_cons g34
  obtain ⟨_, r36, rfl, ⟨⟨n36, rfl, w36⟩, -⟩, g36⟩ := fitsAll_cons g35
  obtain ⟨_, r37, rfl, ⟨⟨n37, rfl, w37⟩, -⟩, g37⟩ := fitsAll_cons g36
  obtain ⟨_, r38, rfl, ⟨⟨n38, rfl, w38⟩, -⟩, g38⟩ := fitsAll_cons g37
  obtain ⟨_, r39, rfl, ⟨⟨n39, rfl, w39⟩, -⟩, g39⟩ := fitsAll_cons g38
  obtain rfl := fitsAll_nil g39
  exact ⟨⟨n0, n1, ⟨n2, n3, n4, n5, n6, n7⟩, #v[n8, n9, n10, n11, n12, n13, n14, n15, n16, n17, n18, n19, n20, n21, n22, n23, n24, n25, n26, n27, n28, n29, n30, n31, n32, n33, n34, n35, n36, n37, n38, n39]⟩, ⟨(by have h := wf_i64 w0; exact h), (by have h := wf_u64 w1; exact h), (⟨(by have h := wf_u8 w2; exact h), (hw n3 (by simp)), (hw n4 (by simp)), (hw n5 (by simp)), (hw n6 (by simp)), (by have h := wf_u64 w7; exact h)⟩)⟩, rfl⟩
abbrev CallV.kinds : List FK := [.int .i64, .int .u64, .int .u8, .str, .str, .str, .str, .int .u64, .int .u64, .int .u64, .bool, .int .i64, .str]
structure CallV.OK (o : CallV) : Prop where
  client : -9223372036854775808 ≤ o.client ∧ o.client ≤ 9223372036854775807
  time : 0 ≤ o.time ∧ o.time ≤ 18446744073709551615
  op : OpV.OK o.op
  from_ : 0 ≤ o.from_ ∧ o.from_ ≤ 18446744073709551615
  to_ : 0 ≤ o.to_ ∧ o.to_ ≤ 18446744073709551615
  reply : RepV.OK o.reply
theorem CallV.of {cs : Array Value} (h : fitsAll CallV.kinds cs.toList) (hw : ∀ s, Value.string s ∈ cs.toList → s.size ≤ 140737488351232) : ∃ o : CallV, CallV.OK o ∧ cs = CallV.cells o := by
  obtain ⟨l⟩ := cs
  simp only at h hw
  obtain ⟨_, r0, rfl, ⟨⟨n0, rfl, w0⟩, -⟩, g0⟩ := fitsAll_cons h
  obtain ⟨_, r1, rfl, ⟨⟨n1, rfl, w1⟩, -⟩, g1⟩ := fitsAll_cons g0
  obtain ⟨_, r2, rfl, ⟨⟨n2, rfl, w2⟩, -⟩, g2⟩ := fitsAll_cons g1
  obtain ⟨_, r3, rfl, ⟨⟨n3, rfl, w3⟩, -⟩, g3⟩ := fitsAll_cons g2
  obtain ⟨_, r4, rfl, ⟨⟨n4, rfl, w4⟩, -⟩, g4⟩ := fitsAll_cons g3
  obtain ⟨_, r5, rfl, ⟨⟨n5, rfl, w5⟩, -⟩, g5⟩ := fitsAll_cons g4
  obtain ⟨_, r6, rfl, ⟨⟨n6, rfl, w6⟩, -⟩, g6⟩ := fitsAll_cons g5
  obtain ⟨_, r7, rfl, ⟨⟨n7, rfl, w7⟩, -⟩, g7⟩ := fitsAll_cons g6
  obtain ⟨_, r8, rfl, ⟨⟨n8, rfl, w8⟩, -⟩, g8⟩ := fitsAll_cons g7
  obtain ⟨_, r9, rfl, ⟨⟨n9, rfl, w9⟩, -⟩, g9⟩ := fitsAll_cons g8
  obtain ⟨_, r10, rfl, ⟨⟨n10, rfl⟩, -⟩, g10⟩ := fitsAll_cons g9
  obtain ⟨_, r11, rfl, ⟨⟨n11, rfl, w11⟩, -⟩, g11⟩ := fitsAll_cons g10
  obtain ⟨_, r12, rfl, ⟨⟨n12, rfl, w12⟩, -⟩, g12⟩ := fitsAll_cons g11
  obtain rfl := fitsAll_nil g12
  exact ⟨⟨n0, n1, ⟨n2, n3, n4, n5, n6, n7⟩, n8, n9, n10, ⟨n11, n12⟩⟩, ⟨(by have h := wf_i64 w0; exact h), (by have h := wf_u64 w1; exact h), (⟨(by have h := wf_u8 w2; exact h), (hw n3 (by simp)), (hw n4 (by simp)), (hw n5 (by simp)), (hw n6 (by simp)), (by have h := wf_u64 w7; exact h)⟩), (by have h := wf_u64 w8; exact h), (by have h := wf_u64 w9; exact h), (⟨(by have h := wf_i64 w11; exact h), (hw n12 (by simp))⟩)⟩, rfl⟩
theorem OpV.OK.small {o : OpV} (h : OpV.OK o) : opSum o ≤ 1000000000000000 := by have h1 := h.key; have h2 := h.value; have h3 := h.old; have h4 := h.dest; simp only [opSum]; omega
end Go.Proofs.YtbmmknchcdhefaaGreatDoor
