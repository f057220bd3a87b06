/-
  The ranges of flat arguments; Few of calls. Conditions: none beside each theorem's own.
-/
import Derived.Test.YtbmmknchcdhefaaGreatDoorSxT
import Derived.Test.YtbmmknchcdhefaaGreatDoorHisF
namespace Go.Proofs.YtbmmknchcdhefaaGreatDoor
open Go.RowKit Go.Sx
set_option linter.unusedVariables false
set_option linter.unusedSimpArgs false
set_option linter.unnecessarySimpa false
set_option maxRecDepth 100000
abbrev OpV.kinds : List FK := [.int .u8, .str, .str, .str, .str, .int .u64]
structure OpV.OK (o : OpV) : Prop where
  kind : 0 ≤ o.kind ∧ o.kind ≤ 255
  key : o.key.size ≤ 140737488351232
  value : o.value.size ≤ 140737488351232
  old : o.old.size ≤ 140737488351232
  dest : o.dest.size ≤ 140737488351232
  amount : 0 ≤ o.amount ∧ o.amount ≤ 18446744073709551615
theorem OpV.of {cs : Array Value} (h : fitsAll OpV.kinds cs.toList) (hw : ∀ s, Value.string s ∈ cs.toList → s.size ≤ 140737488351232) : ∃ o : OpV, OpV.OK o ∧ cs = OpV.cells o := by
  obtain ⟨l⟩ := cs
  simp only at h hw
  obtain ⟨_, r0, rfl, ⟨⟨n0, rfl, w0⟩, -⟩, g0⟩ := fitsAll_cons h
  obtain ⟨_, r1, rfl, ⟨⟨n1, rfl, w1⟩, -⟩, g1⟩ := fitsAll_cons g0
  obtain ⟨_, r2, rfl, ⟨⟨n2, rfl, w2⟩, -⟩, g2⟩ := fitsAll_cons g1
  obtain ⟨_, r3, rfl, ⟨⟨n3, rfl, w3⟩, -⟩, g3⟩ := fitsAll_cons g2
  obtain ⟨_, r4, rfl, ⟨⟨n4, rfl, w4⟩, -⟩, g4⟩ := fitsAll_cons g3
  obtain ⟨_, r5, rfl, ⟨⟨n5, rfl, w5⟩, -⟩, g5⟩ := fitsAll_cons g4
  obtain rfl := fitsAll_nil g5
  exact ⟨⟨n0, n1, n2, n3, n4, n5⟩, ⟨(by have h := wf_u8 w0; exact h), (hw n1 (by simp)), (hw n2 (by simp)), (hw n3 (by simp)), (hw n4 (by simp)), (by have h := wf_u64 w5; exact h)⟩, rfl⟩
abbrev RepV.kinds : List FK := [.int .i64, .str]
structure RepV.OK (o : RepV) : Prop where
  err : -9223372036854775808 ≤ o.err ∧ o.err ≤ 9223372036854775807
  value : o.value.size ≤ 140737488351232
theorem RepV.of {cs : Array Value} (h : fitsAll RepV.kinds cs.toList) (hw : ∀ s, Value.string s ∈ cs.toList → s.size ≤ 140737488351232) : ∃ o : RepV, RepV.OK o ∧ cs = RepV.cells o := by
  obtain ⟨l⟩ := cs
  simp only at h hw
  obtain ⟨_, r0, rfl, ⟨⟨n0, rfl, w0⟩, -⟩, g0⟩ := fitsAll_cons h
  obtain ⟨_, r1, rfl, ⟨⟨n1, rfl, w1⟩, -⟩, g1⟩ := fitsAll_cons g0
  obtain rfl := fitsAll_nil g1
  exact ⟨⟨n0, n1⟩, ⟨(by have h := wf_i64 w0; exact h), (hw n1 (by simp))⟩, rfl⟩
abbrev ReqV.kinds : List FK := [.int .i64, .int .u64, .int .u8, .str, .str, .str, .str, .int .u64, .int .u8, .int .u8, .int .u8, .int .u8, .int .u8, .int .u8, .int .u8, .int .u8, .int .u8, .int .u8, .int .u8, .int .u8, .int .u8, .int .u8, .int .u8, .int .u8, .int .u8, .int .u8, .int .u8, .int .u8, .int .u8, .int .u8, .int .u8, .int .u8, .int .u8, .int .u8, .int .u8, .int .u8, .int .u8, .int .u8, .int .u8, .int .u8]
structure ReqV.OK (o : ReqV) : Prop where
  client : -9223372036854775808 ≤ o.client ∧ o.client ≤ 9223372036854775807
  time : 0 ≤ o.time ∧ o.time ≤ 18446744073709551615
  op : OpV.OK o.op
theorem ReqV.of {cs : Array Value} (h : fitsAll ReqV.kinds cs.toList) (hw : ∀ s, Value.string s ∈ cs.toList → s.size ≤ 140737488351232) : ∃ o : ReqV, ReqV.OK o ∧ cs = ReqV.cells o := by
  obtain ⟨l⟩ := cs
  simp only at h hw
  obtain ⟨_, r0, rfl, ⟨⟨n0, rfl, w0⟩, -⟩, g0⟩ := fitsAll_cons h
  obtain ⟨_, r1, rfl, ⟨⟨n1, rfl, w1⟩, -⟩, g1⟩ := fitsAll_cons g0
  obtain ⟨_, r2, rfl, ⟨⟨n2, rfl, w2⟩, -⟩, g2⟩ := fitsAll_cons g1
  obtain ⟨_, r3, rfl, ⟨⟨n3, rfl, w3⟩, -⟩, g3⟩ := fitsAll_cons g2
  obtain ⟨_, r4, rfl, ⟨⟨n4, rfl, w4⟩, -⟩, g4⟩ := fitsAll_cons g3
  obtain ⟨_, r5, rfl, ⟨⟨n5, rfl, w5⟩, -⟩, g5⟩ := fitsAll_cons g4
  obtain ⟨_, r6, rfl, ⟨⟨n6, rfl, w6⟩, -⟩, g6⟩ := fitsAll_cons g5
  obtain ⟨_, r7, rfl, ⟨⟨n7, rfl, w7⟩, -⟩, g7⟩ := fitsAll_cons g6
  obtain ⟨_, r8, rfl, ⟨⟨n8, rfl, w8⟩, -⟩, g8⟩ := fitsAll_cons g7
  obtain ⟨_, r9, rfl, ⟨⟨n9, rfl, w9⟩, -⟩, g9⟩ := fitsAll_cons g8
  obtain ⟨_, r10, rfl, ⟨⟨n10, rfl, w10⟩, -⟩, g10⟩ := fitsAll_cons g9
  obtain ⟨_, r11, rfl, ⟨⟨n11, rfl, w11⟩, -⟩, g11⟩ := fitsAll_cons g10
  obtain ⟨_, r12, rfl, ⟨⟨n12, rfl, w12⟩, -⟩, g12⟩ := fitsAll_cons g11
  obtain ⟨_, r13, rfl, ⟨⟨n13, rfl, w13⟩, -⟩, g13⟩ := fitsAll_cons g12
  obtain ⟨_, r14, rfl, ⟨⟨n14, rfl, w14⟩, -⟩, g14⟩ := fitsAll_cons g13
  obtain ⟨_, r15, rfl, ⟨⟨n15, rfl, w15⟩, -⟩, g15⟩ := fitsAll_cons g14
  obtain ⟨_, r16, rfl, ⟨⟨n16, rfl, w16⟩, -⟩, g16⟩ := fitsAll_cons g15
  obtain ⟨_, r17, rfl, ⟨⟨n17, rfl, w17⟩, -⟩, g17⟩ := fitsAll_cons g16
  obtain ⟨_, r18, rfl, ⟨⟨n18, rfl, w18⟩, -⟩, g18⟩ := fitsAll_cons g17
  obtain ⟨_, r19, rfl, ⟨⟨n19, rfl, w19⟩, -⟩, g19⟩ := fitsAll_cons g18
  obtain ⟨_, r20, rfl, ⟨⟨n20, rfl, w20⟩, -⟩, g20⟩ := fitsAll_cons g19
  obtain ⟨_, r21, rfl, ⟨⟨n21, rfl, w21⟩, -⟩, g21⟩ := fitsAll_cons g20
  obtain ⟨_, r22, rfl, ⟨⟨n22, rfl, w22⟩, -⟩, g22⟩ := fitsAll_cons g21
  obtain ⟨_, r23, rfl, ⟨⟨n23, rfl, w23⟩, -⟩, g23⟩ := fitsAll_cons g22
  obtain ⟨_, r24, rfl, ⟨⟨n24, rfl, w24⟩, -⟩, g24⟩ := fitsAll_cons g23
  obtain ⟨_, r25, rfl, ⟨⟨n25, rfl, w25⟩, -⟩, g25⟩ := fitsAll_cons g24
  obtain ⟨_, r26, rfl, ⟨⟨n26, rfl, w26⟩, -⟩, g26⟩ := fitsAll_cons g25
  obtain ⟨_, r27, rfl, ⟨⟨n27, rfl, w27⟩, -⟩, g27⟩ := fitsAll_cons g26
  obtain ⟨_, r28, rfl, ⟨⟨n28, rfl, w28⟩, -⟩, g28⟩ := fitsAll_cons g27
  obtain ⟨_, r29, rfl, ⟨⟨n29, rfl, w29⟩, -⟩, g29⟩ := fitsAll_cons g28
  obtain ⟨_, r30, rfl, ⟨⟨n30, rfl, w30⟩, -⟩, g30⟩ := fitsAll_cons g29
  obtain ⟨_, r31, rfl, ⟨⟨n31, rfl, w31⟩, -⟩, g31⟩ := fitsAll_cons g30
  obtain ⟨_, r32, rfl, ⟨⟨n32, rfl, w32⟩, -⟩, g32⟩ := fitsAll_cons g31
  obtain ⟨_, r33, rfl, ⟨⟨n33, rfl, w33⟩, -⟩, g33⟩ := fitsAll_cons g32
  obtain ⟨_, r34, rfl, ⟨⟨n34, rfl, w34⟩, -⟩, g34⟩ := fitsAll_cons g33
  obtain ⟨_, r35, rfl, ⟨⟨n35, rfl, w35⟩, -⟩, g35⟩ := fitsAll_cons g34
  obtain ⟨_, r36, rfl, ⟨⟨n36, rfl, w36⟩, -⟩, g36⟩ := fitsAll_cons g35
  obtain ⟨_, r37, rfl, ⟨⟨n37, rfl, w37⟩, -⟩, g37⟩ := fitsAll_cons g36
  obtain ⟨_, r38, rfl, ⟨⟨n38, rfl, w38⟩, -⟩, g38⟩ := fitsAll_cons g37
  obtain ⟨_, r39, rfl, ⟨⟨n39, rfl, w39⟩, -⟩, g39⟩ := fitsAll_cons g38
  obtain rfl := fitsAll_nil g39
  exact ⟨⟨n0, n1, ⟨n2, n3, n4, n5, n6, n7⟩, #v[n8, n9, n10, n11, n12, n13, n14, n15, n16, n17, n18, n19, n20, n21, n22, n23, n24, n25, n26, n27, n28, n29, n30, n31, n32, n33, n34, n35, n36, n37, n38, n39]⟩, ⟨(by have h := wf_i64 w0; exact h), (by have h := wf_u64 w1; exact h), (⟨(by have h := wf_u8 w2; exact h), (hw n3 (by simp)), (hw n4 (by simp)), (hw n5 (by simp)), (hw n6 (by simp)), (by have h := wf_u64 w7; exact h)⟩)⟩, rfl⟩
abbrev CallV.kinds : List FK := [.int .i64, .int .u64, .int .u8, .str, .str, .str, .str, .int .u64, .int .u64, .int .u64, .bool, .int .i64, .str]
structure CallV.OK (o : CallV) : Prop where
  client : -9223372036854775808 ≤ o.client ∧ o.client ≤ 9223372036854775807
  time : 0 ≤ o.time ∧ o.time ≤ 18446744073709551615
  op : OpV.OK o.op
  from_ : 0 ≤ o.from_ ∧ o.from_ ≤ 18446744073709551615
  to_ : 0 ≤ o.to_ ∧ o.to_ ≤ 18446744073709551615
  reply : RepV.OK o.reply
theorem CallV.of {cs : Array Value} (h : fitsAll CallV.kinds cs.toList) (hw : ∀ s, Value.string s ∈ cs.toList → s.size ≤ 140737488351232) : ∃ o : CallV, CallV.OK o ∧ cs = CallV.cells o := by
  obtain ⟨l⟩ := cs
  simp only at h hw
  obtain ⟨_, r0, rfl, ⟨⟨n0, rfl, w0⟩, -⟩, g0⟩ := fitsAll_cons h
  obtain ⟨_, r1, rfl, ⟨⟨n1, rfl, w1⟩, -⟩, g1⟩ := fitsAll_cons g0
  obtain ⟨_, r2, rfl, ⟨⟨n2, rfl, w2⟩, -⟩, g2⟩ := fitsAll_cons g1
  obtain ⟨_, r3, rfl, ⟨⟨n3, rfl, w3⟩, -⟩, g3⟩ := fitsAll_cons g2
  obtain ⟨_, r4, rfl, ⟨⟨n4, rfl, w4⟩, -⟩, g4⟩ := fitsAll_cons g3
  obtain ⟨_, r5, rfl, ⟨⟨n5, rfl, w5⟩, -⟩, g5⟩ := fitsAll_cons g4
  obtain ⟨_, r6, rfl, ⟨⟨n6, rfl, w6⟩, -⟩, g6⟩ := fitsAll_cons g5
  obtain ⟨_, r7, rfl, ⟨⟨n7, rfl, w7⟩, -⟩, g7⟩ := fitsAll_cons g6
  obtain ⟨_, r8, rfl, ⟨⟨n8, rfl, w8⟩, -⟩, g8⟩ := fitsAll_cons g7
  obtain ⟨_, r9, rfl, ⟨⟨n9, rfl, w9⟩, -⟩, g9⟩ := fitsAll_cons g8
  obtain ⟨_, r10, rfl, ⟨⟨n10, rfl⟩, -⟩, g10⟩ := fitsAll_cons g9
  obtain ⟨_, r11, rfl, ⟨⟨n11, rfl, w11⟩, -⟩, g11⟩ := fitsAll_cons g10
  obtain ⟨_, r12, rfl, ⟨⟨n12, rfl, w12⟩, -⟩, g12⟩ := fitsAll_cons g11
  obtain rfl := fitsAll_nil g12
  exact ⟨⟨n0, n1, ⟨n2, n3, n4, n5, n6, n7⟩, n8, n9, n10, ⟨n11, n12⟩⟩, ⟨(by have h := wf_i64 w0; exact h), (by have h := wf_u64 w1; exact h), (⟨(by have h := wf_u8 w2; exact h), (hw n3 (by simp)), (hw n4 (by simp)), (hw n5 (by simp)), (hw n6 (by simp)), (by have h := wf_u64 w7; exact h)⟩), (by have h := wf_u64 w8; exact h), (by have h := wf_u64 w9; exact h), (⟨(by have h := wf_i64 w11; exact h), (hw n12 (by simp))⟩)⟩, rfl⟩
theorem few31_spec {w0 w : World} {L : List Asn} {al : Option Addr} {cl : Nat} (l : List CallV) (most : Nat) (hll : l.length ≤ 2000000000000) (hol : ∀ c ∈ l, CallV.OK c) (hr : ∀ w, St w0 L w → RowsAt w al l.length 13 (fun k => CallV.cells (l.getD k dCall))) (hs : St w0 (L) w) : Calls Tryz.prog 6 #[.slice al l.length cl, .int .i64 (most : Nat)] w (Ret fun rv w' => ∃ (b : Bool), rv = .bool b ∧ (b = true → l.length ≤ most) ∧ St w0 (L) w') := by
  refine enter (args := [.slice al l.length cl, .int .i64 (most : Nat)]) Tryz.func6 rfl Tryz.ntmps6 (Nat.le_of_ble_eq_true (by kernel_rfl)) ?_
  refine GoC.slots (S' := [(0, .slice al l.length cl), (1, .int .i64 (most : Nat))]) rfl ?_
  refine GoC.seq ?_
  refine Xt (.rd 0 .done) ?_
  refine Xk [(0, .gen [])] [] [(4, .bool false), (0, .slice al l.length cl), (1, .int .i64 (most : Nat))] ak0 ?_
  refine GoR.done (GoQ.thn (GoC.seq (GoC.seq ?_)))
  refine Xt (.rd 0 (.rd 1 (.rd 2 (.rd 3 .done)))) ?_
  refine Xk [(0, .gen []), (1, .gen []), (2, .gen []), (3, .gen [])] [] [(10, .bool (decide (((l.length : Nat) : Int) > (most : Nat)))), (4, .bool false), (0, .slice al l.length cl)] ak0 ?_
  refine GoR.done (GoQ.thn ?_)
  refine Xc (t := decide (((l.length : Nat) : Int) > (most : Nat))) (fun h1 => ?_) (fun h1 => ?_)
  · have h1' : ((l.length : Nat) : Int) > (most : Nat) := of_decide_eq_true h1
    refine GoC.seq ?_
    refine Xt (.rd 0 .done) ?_
    refine Xk [(0, .gen [])] [] [(4, .bool false), (0, .slice al l.length cl)] ak0 ?_
    refine GoR.done (GoQ.thn (GoC.ret (GoQ.skipCR ?_)))
    refine X1 (v := .bool false) ?_
    exact ⟨false, rfl, (fun h => nomatch h), hs⟩
  · have h1' : ¬ (((l.length : Nat) : Int) > (most : Nat)) := of_decide_eq_false h1
    have hlm : l.length ≤ most := by omega
    refine GoC.skip (GoQ.thn (GoC.seq (GoC.seq ?_)))
    refine Xt (.rd 0 .done) ?_
    refine Xk [(0, .gen [])] [] [(5, .int .i64 0), (4, .bool false), (0, .slice al l.length cl)] ak0 ?_
    refine GoR.done (GoQ.thn (GoC.block ?_))
    refine GoC.loop (T := Nat) (fun gg => [(0, .slice al l.length cl), (5, .int .i64 (gg : Nat))]) (fun gg w => (gg ≤ l.length) ∧ St w0 (L) w) (fun gg => l.length - gg) 0 [0, 5] (by kernel_rfl) ⟨Nat.zero_le _, hs⟩ ?_
    rintro k w2 ⟨hp0, hs3⟩
    have hp : k ≤ l.length := hp0
    have hs4 : St w0 (L) w2 := hs3
    refine GoC.slots (S' := [(0, .slice al l.length cl), (5, .int .i64 (k : Nat))]) rfl ?_
    refine GoC.seq (GoC.seq ?_)
    refine Xt (.rd 0 (.rd 1 (.rd 2 (.rd 3 .done)))) ?_
    refine Xk [(0, .gen []), (1, .gen []), (2, .gen []), (3, .gen [])] [] [(14, .bool (decide (((k : Nat) : Int) < (l.length : Nat)))), (0, .slice al l.length cl), (5, .int .i64 (k : Nat))] ak0 ?_
    refine GoR.done (GoQ.thn ?_)
    refine Xc (t := decide (((k : Nat) : Int) < (l.length : Nat))) (fun h5 => ?_) (fun h5 => ?_)
    · have h5' : ((k : Nat) : Int) < (l.length : Nat) := of_decide_eq_true h5
      have hk : k < l.length := by omega
      have hq := hol _ (getD_mem (d := dCall) hk)
      have hq1 := hq.op.key
      have hq2 := hq.op.value
      have hq3 := hq.op.old
      have hq4 := hq.op.dest
      have hq5 := hq.reply.value
      obtain ⟨ab6, ao7, rfl⟩ := RowsAt.isSome (hr _ (hs4.drop 0)) (by omega)
      refine GoC.skip (GoQ.thn (GoC.seq (GoC.block (GoC.seq ?_))))
      refine Xt (.rd 0 (.rd 1 (.rd 2 (.rd 3 (.rd 4 (.ef 5 (.ef 6 .done))))))) ?_
      refine Xk [(0, .gen []), (1, .gen []), (2, .as_ (vp ab6 (ao7 + (k * 13))) .at_), (3, .gen []), (4, .agg (OpV.cells ((l.getD k dCall).op)))] [(2, [.prop (0 ≤ ((k : Nat) : Int) ∧ ((k : Nat) : Int) < ((l.length : Nat) : Int)), .prop (Value.pointer (some (Addr.add ⟨ab6, ao7, none⟩ (Int.toNat (k : Nat) * 13))) = Value.pointer (some ⟨ab6, ao7 + (k * 13), none⟩))]), (4, [.prop (Array.size (OpV.cells ((l.getD k dCall).op)) = 6), .cells ⟨ab6, ao7 + (k * 13) + 2, none⟩ (OpV.cells ((l.getD k dCall).op))])] [(21, .agg (OpV.cells ((l.getD k dCall).op))), (0, vl ab6 ao7 l.length cl), (5, .int .i64 (k : Nat))] (ak (okp (by omega) (okp (ptrAdd _ _ _) ok0)) (ak (okp (by kernel_rfl) (oka (RowsAt.all (hr _ (hs4.drop 0)) (by first | omega | (simp only [List.length_set]; omega) | (simp only [List.length_set, List.length_append, List.length_cons, List.length_nil]; omega)) (Nat.le_of_ble_eq_true (by kernel_rfl)) (by kernel_rfl)) ok0)) ak0)) ?_
      refine GoR.alloc rfl rfl (by kernel_rfl) (z := .agg (OpV.cells dOp)) (by kernel_rfl) hs4 (cs := OpV.cells dOp) (by kernel_rfl) ?_
      intro b8 w9 hs10
      refine ⟨Xo, ?_⟩
      refine GoR.store rfl rfl (by kernel_rfl) (b := b8) (off := 0) (v := .agg (OpV.cells ((l.getD k dCall).op))) (by kernel_rfl) (by kernel_rfl) (ti := Tryz.t44) (by kernel_rfl) hs10 0 rfl (by kernel_rfl) (by kernel_rfl) (Nat.le_of_ble_eq_true (by kernel_rfl)) (cs' := OpV.cells ((l.getD k dCall).op)) (L' := (Cel b8 (OpV.cells ((l.getD k dCall).op)) 44) :: L) (by kernel_rfl) rfl ?_
      intro w11 hs12
      refine ⟨Xo, ?_⟩
      refine GoR.done (GoQ.thn (GoC.seq ?_))
      refine GoC.regD [0, 1, 3, 0, 8, 24, 63, 0, 128, 384, 1023, 0, 2048, 6144, 16383, 0, 0, 98304, 229376, 491520, 1015808, 2064384, 4194303, 8388607] (.rd 0 (.rd 1 (.rd 2 (.rd 3 (.rd 4 (.rd 5 (.rd 6 (.rd 7 (.rd 8 (.rd 9 (.rd 10 (.rd 11 (.rd 12 (.rd 13 (.rd 14 (.rd 15 (.rd 16 (.rd 17 (.rd 18 (.rd 19 (.rd 20 (.rd 21 (.rd 22 (.rd 23 .done)))))))))))))))))))))))) (by kernel_rfl) (by kernel_rfl) noPan_body (by kernel_rfl) hs12 ?_
      intro w13 hs14 hw15
      refine Xk [(0, .gen []), (1, .gen [.string (((l.getD k dCall).op).key)]), (2, .gen []), (3, .gen []), (4, .gen [.string (((l.getD k dCall).op).value)]), (5, .gen []), (6, .as_ (.int .i64 (((((l.getD k dCall).op).key).size : Nat) + ((((l.getD k dCall).op).value).size : Nat))) (.gen [])), (7, .gen []), (8, .gen [.string (((l.getD k dCall).op).old)]), (9, .gen []), (10, .as_ (.int .i64 ((((((l.getD k dCall).op).key).size : Nat) + ((((l.getD k dCall).op).value).size : Nat)) + ((((l.getD k dCall).op).old).size : Nat))) (.gen [])), (11, .gen []), (12, .gen [.string (((l.getD k dCall).op).dest)]), (13, .gen []), (14, .as_ (.int .i64 (((((((l.getD k dCall).op).key).size : Nat) + ((((l.getD k dCall).op).value).size : Nat)) + ((((l.getD k dCall).op).old).size : Nat)) + ((((l.getD k dCall).op).dest).size : Nat))) (.gen [])), (15, .gen []), (16, .gen []), (17, .as_ (vp ab6 (ao7 + (k * 13))) .at_), (18, .gen []), (19, .gen []), (20, .gen [.string (((l.getD k dCall).reply).value)]), (21, .gen []), (22, .as_ (.int .i64 ((((((((l.getD k dCall).op).key).size : Nat) + ((((l.getD k dCall).op).value).size : Nat)) + ((((l.getD k dCall).op).old).size : Nat)) + ((((l.getD k dCall).op).dest).size : Nat)) + ((((l.getD k dCall).reply).value).size : Nat))) (.gen [])), (23, .gen [])] [(1, [.cell ⟨b8, 1, none⟩ (.string (((l.getD k dCall).op).key))]), (4, [.cell ⟨b8, 2, none⟩ (.string (((l.getD k dCall).op).value))]), (6, [.prop (Value.int .i64 (IntKind.i64.wrap (((((l.getD k dCall).op).key).size : Nat) + ((((l.getD k dCall).op).value).size : Nat))) = Value.int .i64 (((((l.getD k dCall).op).key).size : Nat) + ((((l.getD k dCall).op).value).size : Nat)))]), (8, [.cell ⟨b8, 3, none⟩ (.string (((l.getD k dCall).op).old))]), (10, [.prop (Value.int .i64 (IntKind.i64.wrap ((((((l.getD k dCall).op).key).size : Nat) + ((((l.getD k dCall).op).value).size : Nat)) + ((((l.getD k dCall).op).old).size : Nat))) = Value.int .i64 ((((((l.getD k dCall).op).key).size : Nat) + ((((l.getD k dCall).op).value).size : Nat)) + ((((l.getD k dCall).op).old).size : Nat)))]), (12, [.cell ⟨b8, 4, none⟩ (.string (((l.getD k dCall).op).dest))]), (14, [.prop (Value.int .i64 (IntKind.i64.wrap (((((((l.getD k dCall).op).key).size : Nat) + ((((l.getD k dCall).op).value).size : Nat)) + ((((l.getD k dCall).op).old).size : Nat)) + ((((l.getD k dCall).op).dest).size : Nat))) = Value.int .i64 (((((((l.getD k dCall).op).key).size : Nat) + ((((l.getD k dCall).op).value).size : Nat)) + ((((l.getD k dCall).op).old).size : Nat)) + ((((l.getD k dCall).op).dest).size : Nat)))]), (17, [.prop (0 ≤ ((k : Nat) : Int) ∧ ((k : Nat) : Int) < ((l.length : Nat) : Int)), .prop (Value.pointer (some (Addr.add ⟨ab6, ao7, none⟩ (Int.toNat (k : Nat) * 13))) = Value.pointer (some ⟨ab6, ao7 + (k * 13), none⟩))]), (20, [.cell ⟨ab6, ao7 + (k * 13) + 11 + 1, none⟩ (.string (((l.getD k dCall).reply).value))]), (22, [.prop (Value.int .i64 (IntKind.i64.wrap ((((((((l.getD k dCall).op).key).size : Nat) + ((((l.getD k dCall).op).value).size : Nat)) + ((((l.getD k dCall).op).old).size : Nat)) + ((((l.getD k dCall).op).dest).size : Nat)) + ((((l.getD k dCall).reply).value).size : Nat))) = Value.int .i64 ((((((((l.getD k dCall).op).key).size : Nat) + ((((l.getD k dCall).op).value).size : Nat)) + ((((l.getD k dCall).op).old).size : Nat)) + ((((l.getD k dCall).op).dest).size : Nat)) + ((((l.getD k dCall).reply).value).size : Nat)))])] [(45, .bool (decide (((((((((l.getD k dCall).op).key).size : Nat) + ((((l.getD k dCall).op).value).size : Nat)) + ((((l.getD k dCall).op).old).size : Nat)) + ((((l.getD k dCall).op).dest).size : Nat)) + ((((l.getD k dCall).reply).value).size : Nat) : Int) > 1000))), (0, vl ab6 ao7 l.length cl), (5, .int .i64 (k : Nat))] (ak (okc (hs14.cell 0 rfl (by kernel_rfl)) ok0) (ak (okc (hs14.cell 0 rfl (by kernel_rfl)) ok0) (ak (okp (i64ok (by omega) (by omega)) ok0) (ak (okc (hs14.cell 0 rfl (by kernel_rfl)) ok0) (ak (okp (i64ok (by omega) (by omega)) ok0) (ak (okc (hs14.cell 0 rfl (by kernel_rfl)) ok0) (ak (okp (i64ok (by omega) (by omega)) ok0) (ak (okp (by omega) (okp (ptrAdd _ _ _) ok0)) (ak (okc (RowsAt.at0 (hr _ (hs14.drop 1)) (k := k) (by first | omega | (simp only [List.length_set]; omega) | (simp only [List.length_set, List.length_append, List.length_cons, List.length_nil]; omega)) (j := 12) (by decide) (by kernel_rfl)) ok0) (ak (okp (i64ok (by omega) (by omega)) ok0) ak0)))))))))) ?_
      refine GoR.done (GoQ.thn ?_)
      refine Xc (t := decide (((((((((l.getD k dCall).op).key).size : Nat) + ((((l.getD k dCall).op).value).size : Nat)) + ((((l.getD k dCall).op).old).size : Nat)) + ((((l.getD k dCall).op).dest).size : Nat)) + ((((l.getD k dCall).reply).value).size : Nat) : Int) > 1000)) (fun h16 => ?_) (fun h16 => ?_)
      · have h16' : ((((((((l.getD k dCall).op).key).size : Nat) + ((((l.getD k dCall).op).value).size : Nat)) + ((((l.getD k dCall).op).old).size : Nat)) + ((((l.getD k dCall).op).dest).size : Nat)) + ((((l.getD k dCall).reply).value).size : Nat) : Int) > 1000 := of_decide_eq_true h16
        refine GoC.seq ?_
        refine Xt (.rd 0 .done) ?_
        refine Xk [(0, .gen [])] [] [(4, .bool false), (0, vl ab6 ao7 l.length cl), (5, .int .i64 (k : Nat))] ak0 ?_
        refine GoR.done (GoQ.thn (GoC.ret (GoQ.blkR (GoQ.skipCR (GoQ.skipLR (GoQ.blkR (GoQ.skipCR ?_)))))))
        refine X1 (v := .bool false) ?_
        have hs17 : St w0 (L) w13 := hs14.drop 1
        exact ⟨false, rfl, (fun h => nomatch h), hs17⟩
      · have h16' : ¬ (((((((((l.getD k dCall).op).key).size : Nat) + ((((l.getD k dCall).op).value).size : Nat)) + ((((l.getD k dCall).op).old).size : Nat)) + ((((l.getD k dCall).op).dest).size : Nat)) + ((((l.getD k dCall).reply).value).size : Nat) : Int) > 1000) := of_decide_eq_false h16
        refine GoC.skip (GoQ.blkN (GoQ.thn ?_))
        refine Xt (.rd 0 (.rd 1 (.rd 2 .done))) ?_
        refine Xk [(0, .gen []), (1, .as_ (.int .i64 ((k : Nat) + 1)) (.gen [])), (2, .gen [])] [(1, [.prop (Value.int .i64 (IntKind.i64.wrap ((k : Nat) + 1)) = Value.int .i64 ((k : Nat) + 1))])] [(5, .int .i64 ((k : Nat) + 1)), (0, vl ab6 ao7 l.length cl)] (ak (okp (i64ok (by omega) (by omega)) ok0) ak0) ?_
        refine GoR.done ?_
        have hs18 : St w0 (L) w13 := hs14.drop 1
        exact GoQ.back (k + 1) [0, 5] (by kernel_rfl) (by show l.length - (k + 1) < l.length - k; omega) ⟨(by omega), hs18⟩
    · have h5' : ¬ (((k : Nat) : Int) < (l.length : Nat)) := of_decide_eq_false h5
      refine GoC.exit (GoQ.skipC (GoQ.skipL (GoQ.hit (GoQ.thn (GoC.seq ?_)))))
      refine Xt (.rd 0 .done) ?_
      refine Xk [(0, .gen [])] [] [(4, .bool true)] ak0 ?_
      refine GoR.done (GoQ.thn (GoC.ret ?_))
      refine X1 (v := .bool true) ?_
      exact ⟨true, rfl, (fun _ => hlm), hs4⟩
end Go.Proofs.YtbmmknchcdhefaaGreatDoor
