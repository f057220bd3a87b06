/-
  Flat structs; Few of operations, of a client's steps, of a pilot's steps. Conditions: none beside each theorem's own.
-/
import Derived.Test.YtmmnliahojcliaaDoorProg
import Derived.Test.YtmmnliahojcliaaDoorSxK
import Derived.Test.YtmmnliahojcliaaDoorSxM
import Derived.Test.YtmmnliahojcliaaDoorSxO
namespace Go.Proofs.YtmmnliahojcliaaDoor
open Go.RowKit Go.Sx
set_option linter.unusedVariables false
set_option linter.unusedSimpArgs false
set_option linter.unnecessarySimpa false
set_option maxRecDepth 100000
structure OpV where
  kind : Int
  key : ByteArray
  value : ByteArray
  old : ByteArray
  dest : ByteArray
  amount : Int
deriving DecidableEq
def OpV.cells (o : OpV) : Array Value := #[.int .u8 o.kind, .string o.key, .string o.value, .string o.old, .string o.dest, .int .u64 o.amount]
structure RepV where
  err : Int
  value : ByteArray
deriving DecidableEq
def RepV.cells (o : RepV) : Array Value := #[.int .i64 o.err, .string o.value]
structure ToldV where
  client : Int
  time : Int
  reply : RepV
  moment : Int
deriving DecidableEq
def ToldV.cells (o : ToldV) : Array Value := #[.int .i64 o.client, .int .u64 o.time, .int .i64 o.reply.err, .string o.reply.value, .int .u64 o.moment]
structure CsV where
  hear : Bool
  own : Bool
  op : OpV
  j : Int
  pick : Int
  told : ToldV
deriving DecidableEq
def CsV.cells (o : CsV) : Array Value := #[.bool o.hear, .bool o.own, .int .u8 o.op.kind, .string o.op.key, .string o.op.value, .string o.op.old, .string o.op.dest, .int .u64 o.op.amount, .int .i64 o.j, .int .u8 o.pick, .int .i64 o.told.client, .int .u64 o.told.time, .int .i64 o.told.reply.err, .string o.told.reply.value, .int .u64 o.told.moment]
structure PsV where
  s : CsV
  look : Bool
  pass : Int
deriving DecidableEq
def PsV.cells (o : PsV) : Array Value := #[.bool o.s.hear, .bool o.s.own, .int .u8 o.s.op.kind, .string o.s.op.key, .string o.s.op.value, .string o.s.op.old, .string o.s.op.dest, .int .u64 o.s.op.amount, .int .i64 o.s.j, .int .u8 o.s.pick, .int .i64 o.s.told.client, .int .u64 o.s.told.time, .int .i64 o.s.told.reply.err, .string o.s.told.reply.value, .int .u64 o.s.told.moment, .bool o.look, .int .u64 o.pass]
abbrev dOp : OpV := ⟨0, ⟨#[]⟩, ⟨#[]⟩, ⟨#[]⟩, ⟨#[]⟩, 0⟩
abbrev dCs : CsV := ⟨false, false, ⟨0, ⟨#[]⟩, ⟨#[]⟩, ⟨#[]⟩, ⟨#[]⟩, 0⟩, 0, 0, ⟨0, 0, ⟨0, ⟨#[]⟩⟩, 0⟩⟩
abbrev dPs : PsV := ⟨⟨false, false, ⟨0, ⟨#[]⟩, ⟨#[]⟩, ⟨#[]⟩, ⟨#[]⟩, 0⟩, 0, 0, ⟨0, 0, ⟨0, ⟨#[]⟩⟩, 0⟩⟩, false, 0⟩
theorem opF : CellF OpV.cells 6 := ⟨fun _ => rfl, fun _ => rfl⟩
theorem csF : CellF CsV.cells 15 := ⟨fun _ => rfl, fun _ => rfl⟩
theorem psF : CellF PsV.cells 17 := ⟨fun _ => rfl, fun _ => rfl⟩
def opSum (o : OpV) : Nat := o.key.size + o.value.size + o.old.size + o.dest.size
def few (l : List OpV) : Bool := decide (l.length ≤ 150) && l.all fun o => decide (opSum o ≤ 2000)
theorem few_false1 {l : List OpV} (h : ¬ l.length ≤ 150) : few l = false := by simp [few, h]
theorem few_false2 {l : List OpV} {k : Nat} {d : OpV} (hk : k < l.length) (h : 2000 < opSum (l.getD k d)) : few l = false := by
  have h1 : ∃ x ∈ l, 2000 < opSum x := ⟨l[k], List.getElem_mem hk, by simpa [List.getD_eq_getElem?_getD, List.getElem?_eq_getElem hk] using h⟩
  obtain ⟨x, hx, h2⟩ := h1
  have h3 : (l.all fun o => decide (opSum o ≤ 2000)) = false := by
    rw [List.all_eq_false]
    exact ⟨x, hx, by simp; omega⟩
  rw [few, h3, Bool.and_false]
theorem few_true {l : List OpV} {d : OpV} (h1 : l.length ≤ 150) (h : ∀ j, j < l.length → opSum (l.getD j d) ≤ 2000) : few l = true := by
  have h3 : (l.all fun o => decide (opSum o ≤ 2000)) = true := by
    rw [List.all_eq_true]
    intro x hx
    obtain ⟨j, hj, rfl⟩ := List.getElem_of_mem hx
    have := h j hj
    simpa [List.getD_eq_getElem?_getD, List.getElem?_eq_getElem hj] using this
  rw [few, h3, Bool.and_true]
  simpa using h1
def Small (o : OpV) : Prop := opSum o ≤ 1000000000000000
theorem small_getD {l : List OpV} {d : OpV} (h : ∀ o ∈ l, Small o) (k : Nat) (hk : k < l.length) : opSum (l.getD k d) ≤ 1000000000000000 := by
  have : l.getD k d = l[k] := by simp [List.getD_eq_getElem?_getD, List.getElem?_eq_getElem hk]
  rw [this]
  exact h _ (List.getElem_mem hk)
theorem opsOK : ElemOK Tryd.prog 61 24 6 80 := ⟨by kernel_rfl, ⟨Tryd.t24, .agg #[.int .u8 0, .string ⟨#[]⟩, .string ⟨#[]⟩, .string ⟨#[]⟩, .string ⟨#[]⟩, .int .u64 0], by kernel_rfl, by kernel_rfl, by kernel_rfl, by kernel_rfl, by kernel_rfl⟩, by decide⟩
theorem cssOK : ElemOK Tryd.prog 51 31 15 152 := ⟨by kernel_rfl, ⟨Tryd.t31, .agg #[.bool false, .bool false, .int .u8 0, .string ⟨#[]⟩, .string ⟨#[]⟩, .string ⟨#[]⟩, .string ⟨#[]⟩, .int .u64 0, .int .i64 0, .int .u8 0, .int .i64 0, .int .u64 0, .int .i64 0, .string ⟨#[]⟩, .int .u64 0], by kernel_rfl, by kernel_rfl, by kernel_rfl, by kernel_rfl, by kernel_rfl⟩, by decide⟩
abbrev OpV.kinds : List FK := [.int .u8, .str, .str, .str, .str, .int .u64]
structure OpV.OK (o : OpV) : Prop where
  kind : 0 ≤ o.kind ∧ o.kind ≤ 255
  key : o.key.size ≤ 140737488351232
  value : o.value.size ≤ 140737488351232
  old : o.old.size ≤ 140737488351232
  dest : o.dest.size ≤ 140737488351232
  amount : 0 ≤ o.amount ∧ o.amount ≤ 18446744073709551615
theorem OpV.of {cs : Array Value} (h : fitsAll OpV.kinds cs.toList) (hw : ∀ s, Value.string s ∈ cs.toList → s.size ≤ 140737488351232) : ∃ o : OpV, OpV.OK o ∧ cs = OpV.cells o := by
  obtain ⟨l⟩ := cs
  simp only at h hw
  obtain ⟨_, r0, rfl, ⟨⟨n0, rfl, w0⟩, -⟩, g0⟩ := fitsAll_cons h
  obtain ⟨_, r1, rfl, ⟨⟨n1, rfl, w1⟩, -⟩, g1⟩ := fitsAll_cons g0
  obtain ⟨_, r2, rfl, ⟨⟨n2, rfl, w2⟩, -⟩, g2⟩ := fitsAll_cons g1
  obtain ⟨_, r3, rfl, ⟨⟨n3, rfl, w3⟩, -⟩, g3⟩ := fitsAll_cons g2
  obtain ⟨_, r4, rfl, ⟨⟨n4, rfl, w4⟩, -⟩, g4⟩ := fitsAll_cons g3
  obtain ⟨_, r5, rfl, ⟨⟨n5, rfl, w5⟩, -⟩, g5⟩ := fitsAll_cons g4
  obtain rfl := fitsAll_nil g5
  exact ⟨⟨n0, n1, n2, n3, n4, n5⟩, ⟨(by have h := wf_u8 w0; exact h), (hw n1 (by simp)), (hw n2 (by simp)), (hw n3 (by simp)), (hw n4 (by simp)), (by have h := wf_u64 w5; exact h)⟩, rfl⟩
abbrev RepV.kinds : List FK := [.int .i64, .str]
structure RepV.OK (o : RepV) : Prop where
  err : -9223372036854775808 ≤ o.err ∧ o.err ≤ 9223372036854775807
  value : o.value.size ≤ 140737488351232
theorem RepV.of {cs : Array Value} (h : fitsAll RepV.kinds cs.toList) (hw : ∀ s, Value.string s ∈ cs.toList → s.size ≤ 140737488351232) : ∃ o : RepV, RepV.OK o ∧ cs = RepV.cells o := by
  obtain ⟨l⟩ := cs
  simp only at h hw
  obtain ⟨_, r0, rfl, ⟨⟨n0, rfl, w0⟩, -⟩, g0⟩ := fitsAll_cons h
  obtain ⟨_, r1, rfl, ⟨⟨n1, rfl, w1⟩, -⟩, g1⟩ := fitsAll_cons g0
  obtain rfl := fitsAll_nil g1
  exact ⟨⟨n0, n1⟩, ⟨(by have h := wf_i64 w0; exact h), (hw n1 (by simp))⟩, rfl⟩
abbrev ToldV.kinds : List FK := [.int .i64, .int .u64, .int .i64, .str, .int .u64]
structure ToldV.OK (o : ToldV) : Prop where
  client : -9223372036854775808 ≤ o.client ∧ o.client ≤ 9223372036854775807
  time : 0 ≤ o.time ∧ o.time ≤ 18446744073709551615
  reply : RepV.OK o.reply
  moment : 0 ≤ o.moment ∧ o.moment ≤ 18446744073709551615
theorem ToldV.of {cs : Array Value} (h : fitsAll ToldV.kinds cs.toList) (hw : ∀ s, Value.string s ∈ cs.toList → s.size ≤ 140737488351232) : ∃ o : ToldV, ToldV.OK o ∧ cs = ToldV.cells o := by
  obtain ⟨l⟩ := cs
  simp only at h hw
  obtain ⟨_, r0, rfl, ⟨⟨n0, rfl, w0⟩, -⟩, g0⟩ := fitsAll_cons h
  obtain ⟨_, r1, rfl, ⟨⟨n1, rfl, w1⟩, -⟩, g1⟩ := fitsAll_cons g0
  obtain ⟨_, r2, rfl, ⟨⟨n2, rfl, w2⟩, -⟩, g2⟩ := fitsAll_cons g1
  obtain ⟨_, r3, rfl, ⟨⟨n3, rfl, w3⟩, -⟩, g3⟩ := fitsAll_cons g2
  obtain ⟨_, r4, rfl, ⟨⟨n4, rfl, w4⟩, -⟩, g4⟩ := fitsAll_cons g3
  obtain rfl := fitsAll_nil g4
  exact ⟨⟨n0, n1, ⟨n2, n3⟩, n4⟩, ⟨(by have h := wf_i64 w0; exact h), (by have h := wf_u64 w1; exact h), (⟨(by have h := wf_i64 w2; exact h), (hw n3 (by simp))⟩), (by have h := wf_u64 w4; exact h)⟩, rfl⟩
abbrev CsV.kinds : List FK := [.bool, .bool, .int .u8, .str, .str, .str, .str, .int .u64, .int .i64, .int .u8, .int .i64, .int .u64, .int .i64, .str, .int .u64]
structure CsV.OK (o : CsV) : Prop where
  op : OpV.OK o.op
  j : -9223372036854775808 ≤ o.j ∧ o.j ≤ 9223372036854775807
  pick : 0 ≤ o.pick ∧ o.pick ≤ 255
  told : ToldV.OK o.told
theorem CsV.of {cs : Array Value} (h : fitsAll CsV.kinds cs.toList) (hw : ∀ s, Value.string s ∈ cs.toList → s.size ≤ 140737488351232) : ∃ o : CsV, CsV.OK o ∧ cs = CsV.cells o := by
  obtain ⟨l⟩ := cs
  simp only at h hw
  obtain ⟨_, r0, rfl, ⟨⟨n0, rfl⟩, -⟩, g0⟩ := fitsAll_cons h
  obtain ⟨_, r1, rfl, ⟨⟨n1, rfl⟩, -⟩, g1⟩ := fitsAll_cons g0
  obtain ⟨_, r2, rfl, ⟨⟨n2, rfl, w2⟩, -⟩, g2⟩ := fitsAll_cons g1
  obtain ⟨_, r3, rfl, ⟨⟨n3, rfl, w3⟩, -⟩, g3⟩ := fitsAll_cons g2
  obtain ⟨_, r4, rfl, ⟨⟨n4, rfl, w4⟩, -⟩, g4⟩ := fitsAll_cons g3
  obtain ⟨_, r5, rfl, ⟨⟨n5, rfl, w5⟩, -⟩, g5⟩ := fitsAll_cons g4
  obtain ⟨_, r6, rfl, ⟨⟨n6, rfl, w6⟩, -⟩, g6⟩ := fitsAll_cons g5
  obtain ⟨_, r7, rfl, ⟨⟨n7, rfl, w7⟩, -⟩, g7⟩ := fitsAll_cons g6
  obtain ⟨_, r8, rfl, ⟨⟨n8, rfl, w8⟩, -⟩, g8⟩ := fitsAll_cons g7
  obtain ⟨_, r9, rfl, ⟨⟨n9, rfl, w9⟩, -⟩, g9⟩ := fitsAll_cons g8
  obtain ⟨_, r10, rfl, ⟨⟨n10, rfl, w10⟩, -⟩, g10⟩ := fitsAll_cons g9
  obtain ⟨_, r11, rfl, ⟨⟨n11, rfl, w11⟩, -⟩, g11⟩ := fitsAll_cons g10
  obtain ⟨_, r12, rfl, ⟨⟨n12, rfl, w12⟩, -⟩, g12⟩ := fitsAll_cons g11
  obtain ⟨_, r13, rfl, ⟨⟨n13, rfl, w13⟩, -⟩, g13⟩ := fitsAll_cons g12
  obtain ⟨_, r14, rfl, ⟨⟨n14, rfl, w14⟩, -⟩, g14⟩ := fitsAll_cons g13
  obtain rfl := fitsAll_nil g14
  exact ⟨⟨n0, n1, ⟨n2, n3, n4, n5, n6, n7⟩, n8, n9, ⟨n10, n11, ⟨n12, n13⟩, n14⟩⟩, ⟨(⟨(by have h := wf_u8 w2; exact h), (hw n3 (by simp)), (hw n4 (by simp)), (hw n5 (by simp)), (hw n6 (by simp)), (by have h := wf_u64 w7; exact h)⟩), (by have h := wf_i64 w8; exact h), (by have h := wf_u8 w9; exact h), (⟨(by have h := wf_i64 w10; exact h), (by have h := wf_u64 w11; exact h), (⟨(by have h := wf_i64 w12; exact h), (hw n13 (by simp))⟩), (by have h := wf_u64 w14; exact h)⟩)⟩, rfl⟩
abbrev PsV.kinds : List FK := [.bool, .bool, .int .u8, .str, .str, .str, .str, .int .u64, .int .i64, .int .u8, .int .i64, .int .u64, .int .i64, .str, .int .u64, .bool, .int .u64]
structure PsV.OK (o : PsV) : Prop where
  s : CsV.OK o.s
  pass : 0 ≤ o.pass ∧ o.pass ≤ 18446744073709551615
theorem PsV.of {cs : Array Value} (h : fitsAll PsV.kinds cs.toList) (hw : ∀ s, Value.string s ∈ cs.toList → s.size ≤ 140737488351232) : ∃ o : PsV, PsV.OK o ∧ cs = PsV.cells o := by
  obtain ⟨l⟩ := cs
  simp only at h hw
  obtain ⟨_, r0, rfl, ⟨⟨n0, rfl⟩, -⟩, g0⟩ := fitsAll_cons h
  obtain ⟨_, r1, rfl, ⟨⟨n1, rfl⟩, -⟩, g1⟩ := fitsAll_cons g0
  obtain ⟨_, r2, rfl, ⟨⟨n2, rfl, w2⟩, -⟩, g2⟩ := fitsAll_cons g1
  obtain ⟨_, r3, rfl, ⟨⟨n3, rfl, w3⟩, -⟩, g3⟩ := fitsAll_cons g2
  obtain ⟨_, r4, rfl, ⟨⟨n4, rfl, w4⟩, -⟩, g4⟩ := fitsAll_cons g3
  obtain ⟨_, r5, rfl, ⟨⟨n5, rfl, w5⟩, -⟩, g5⟩ := fitsAll_cons g4
  obtain ⟨_, r6, rfl, ⟨⟨n6, rfl, w6⟩, -⟩, g6⟩ := fitsAll_cons g5
  obtain ⟨_, r7, rfl, ⟨⟨n7, rfl, w7⟩, -⟩, g7⟩ := fitsAll_cons g6
  obtain ⟨_, r8, rfl, ⟨⟨n8, rfl, w8⟩, -⟩, g8⟩ := fitsAll_cons g7
  obtain ⟨_, r9, rfl, ⟨⟨n9, rfl, w9⟩, -⟩, g9⟩ := fitsAll_cons g8
  obtain ⟨_, r10, rfl, ⟨⟨n10, rfl, w10⟩, -⟩, g10⟩ := fitsAll_cons g9
  obtain ⟨_, r11, rfl, ⟨⟨n11, rfl, w11⟩, -⟩, g11⟩ := fitsAll_cons g10
  obtain ⟨_, r12, rfl, ⟨⟨n12, rfl, w12⟩, -⟩, g12⟩ := fitsAll_cons g11
  obtain ⟨_, r13, rfl, ⟨⟨n13, rfl, w13⟩, -⟩, g13⟩ := fitsAll_cons g12
  obtain ⟨_, r14, rfl, ⟨⟨n14, rfl, w14⟩, -⟩, g14⟩ := fitsAll_cons g13
  obtain ⟨_, r15, rfl, ⟨⟨n15, rfl⟩, -⟩, g15⟩ := fitsAll_cons g14
  obtain ⟨_, r16, rfl, ⟨⟨n16, rfl, w16⟩, -⟩, g16⟩ := fitsAll_cons g15
  obtain rfl := fitsAll_nil g16
  exact ⟨⟨⟨n0, n1, ⟨n2, n3, n4, n5, n6, n7⟩, n8, n9, ⟨n10, n11, ⟨n12, n13⟩, n14⟩⟩, n15, n16⟩, ⟨(⟨(⟨(by have h := wf_u8 w2; exact h), (hw n3 (by simp)), (hw n4 (by simp)), (hw n5 (by simp)), (hw n6 (by simp)), (by have h := wf_u64 w7; exact h)⟩), (by have h := wf_i64 w8; exact h), (by have h := wf_u8 w9; exact h), (⟨(by have h := wf_i64 w10; exact h), (by have h := wf_u64 w11; exact h), (⟨(by have h := wf_i64 w12; exact h), (hw n13 (by simp))⟩), (by have h := wf_u64 w14; exact h)⟩)⟩), (by have h := wf_u64 w16; exact h)⟩, rfl⟩
theorem OpV.OK.small {o : OpV} (h : OpV.OK o) : Small o := by have h1 := h.key; have h2 := h.value; have h3 := h.old; have h4 := h.dest; simp only [Small, opSum]; omega
set_option maxHeartbeats 400000 in
theorem few_spec {w0 w : World} {L : List Asn} {ad : Option Addr} {c : Nat} (l : List OpV) (hb : ∀ o ∈ l, Small o) (hln : l.length ≤ 1000000000000000) (hr : ∀ w, St w0 L w → RowsAt w ad l.length 6 (fun k => OpV.cells (l.getD k dOp))) (hs : St w0 L w) : Calls Tryd.prog 18 #[.slice ad l.length c] w (Ret fun rv w' => rv = .bool (few l) ∧ St w0 L w') := by
  refine enter (args := [.slice ad l.length c]) Tryd.func18 rfl Tryd.ntmps18 (Nat.le_of_ble_eq_true (by kernel_rfl)) ?_
  refine GoC.slots (S' := [(0, .slice ad l.length c)]) rfl ?_
  refine GoC.seq ?_
  refine GoC.regT [1] (.rd 0 .done) (by kernel_rfl) (by kernel_rfl) ?_
  refine GoR.phaseK [(0, .gen [])] [2, 0] [] [(2, .bool false), (0, .slice ad l.length c)] (by kernel_rfl) rfl ak0 ?_
  refine GoR.done (GoQ.thn (GoC.seq (GoC.seq ?_)))
  refine GoC.regT [7, 7, 7] (.rd 0 (.rd 1 (.rd 2 .done))) (by kernel_rfl) (by kernel_rfl) ?_
  refine GoR.phaseK [(0, .gen []), (1, .gen []), (2, .gen [])] [6, 2, 0] [] [(6, .bool (decide (((l.length : Nat) : Int) > 150))), (2, .bool false), (0, .slice ad l.length c)] (by kernel_rfl) rfl ak0 ?_
  refine GoR.done (GoQ.thn ?_)
  refine GoC.cond (t := decide (((l.length : Nat) : Int) > 150)) (by kernel_rfl) (fun h1 => ?_) (fun h1 => ?_)
  · have h1' : ((l.length : Nat) : Int) > 150 := of_decide_eq_true h1
    refine GoC.seq ?_
    refine GoC.regT [1] (.rd 0 .done) (by kernel_rfl) (by kernel_rfl) ?_
    refine GoR.phaseK [(0, .gen [])] [2, 0] [] [(2, .bool false), (0, .slice ad l.length c)] (by kernel_rfl) rfl ak0 ?_
    refine GoR.done (GoQ.thn (GoC.ret (GoQ.skipCR ?_)))
    refine GoQ.done (.inl rfl) (v := .bool false) (fun a hf => results1 rfl (by kernel_rfl) a hf) ?_
    exact ⟨by rw [few_false1 (by omega)], hs⟩
  · have h1' : ¬ (((l.length : Nat) : Int) > 150) := of_decide_eq_false h1
    refine GoC.skip (GoQ.thn (GoC.seq (GoC.seq ?_)))
    refine GoC.regT [1] (.rd 0 .done) (by kernel_rfl) (by kernel_rfl) ?_
    refine GoR.phaseK [(0, .gen [])] [3, 2, 0] [] [(3, .int .i64 0), (2, .bool false), (0, .slice ad l.length c)] (by kernel_rfl) rfl ak0 ?_
    refine GoR.done (GoQ.thn (GoC.block ?_))
    have h150 : l.length ≤ 150 := by omega
    refine GoC.loop (T := Nat) (fun k => [(0, .slice ad l.length c), (3, .int .i64 (k : Nat))]) (fun k w => (k ≤ l.length ∧ ∀ j, j < k → opSum (l.getD j dOp) ≤ 2000) ∧ St w0 (L) w) (fun k => l.length - k) (0) [0, 3] (by kernel_rfl) ⟨⟨Nat.zero_le _, fun j hj => absurd hj (Nat.not_lt_zero _)⟩, hs⟩ ?_
    rintro k w2 ⟨hp, hs3⟩
    refine GoC.slots (S' := [(0, .slice ad l.length c), (3, .int .i64 (k : Nat))]) rfl ?_
    refine GoC.seq (GoC.seq ?_)
    refine GoC.regT [15, 15, 15, 15] (.rd 0 (.rd 1 (.rd 2 (.rd 3 .done)))) (by kernel_rfl) (by kernel_rfl) ?_
    refine GoR.phaseK [(0, .gen []), (1, .gen []), (2, .gen []), (3, .gen [])] [10, 0, 3] [] [(10, .bool (decide (((k : Nat) : Int) < (l.length : Nat)))), (0, .slice ad l.length c), (3, .int .i64 (k : Nat))] (by kernel_rfl) rfl ak0 ?_
    refine GoR.done (GoQ.thn ?_)
    refine GoC.cond (t := decide (((k : Nat) : Int) < (l.length : Nat))) (by kernel_rfl) (fun h4 => ?_) (fun h4 => ?_)
    · have h4' : ((k : Nat) : Int) < (l.length : Nat) := of_decide_eq_true h4
      have hk : k < l.length := by omega
      have hsm := small_getD (d := dOp) hb k hk
      simp only [opSum] at hsm
      obtain ⟨ab, ao, rfl⟩ := RowsAt.isSome (hr _ hs3) (by omega)
      refine GoC.skip (GoQ.thn (GoC.seq (GoC.block (GoC.seq ?_))))
      refine GoC.regD [0, 0, 3, 7, 15, 31, 0, 0, 192, 448, 960, 1984, 4095, 0, 0, 24576, 57344, 122880, 253952, 524287, 0, 0, 3145728, 7340032, 15728640, 32505856, 67108863, 134217727] (.rd 0 (.rd 1 (.rd 2 (.rd 3 (.rd 4 (.rd 5 (.rd 6 (.rd 7 (.rd 8 (.rd 9 (.rd 10 (.rd 11 (.rd 12 (.rd 13 (.rd 14 (.rd 15 (.rd 16 (.rd 17 (.rd 18 (.rd 19 (.rd 20 (.rd 21 (.rd 22 (.rd 23 (.rd 24 (.rd 25 (.rd 26 (.rd 27 .done)))))))))))))))))))))))))))) (by kernel_rfl) (by kernel_rfl) noPan_body (by kernel_rfl) hs3 ?_
      intro w5 hs6 hw7
      refine GoR.phaseK [(0, .gen []), (1, .gen []), (2, .as_ (.pointer (some ⟨ab, ao + (k * 6), none⟩)) .at_), (3, .gen []), (4, .gen [.string ((l.getD k dOp).key)]), (5, .gen []), (6, .gen []), (7, .gen []), (8, .as_ (.pointer (some ⟨ab, ao + (k * 6), none⟩)) .at_), (9, .gen []), (10, .gen [.string ((l.getD k dOp).value)]), (11, .gen []), (12, .as_ (.int .i64 ((((l.getD k dOp).key).size : Nat) + (((l.getD k dOp).value).size : Nat))) (.gen [])), (13, .gen []), (14, .gen []), (15, .as_ (.pointer (some ⟨ab, ao + (k * 6), none⟩)) .at_), (16, .gen []), (17, .gen [.string ((l.getD k dOp).old)]), (18, .gen []), (19, .as_ (.int .i64 (((((l.getD k dOp).key).size : Nat) + (((l.getD k dOp).value).size : Nat)) + (((l.getD k dOp).old).size : Nat))) (.gen [])), (20, .gen []), (21, .gen []), (22, .as_ (.pointer (some ⟨ab, ao + (k * 6), none⟩)) .at_), (23, .gen []), (24, .gen [.string ((l.getD k dOp).dest)]), (25, .gen []), (26, .as_ (.int .i64 ((((((l.getD k dOp).key).size : Nat) + (((l.getD k dOp).value).size : Nat)) + (((l.getD k dOp).old).size : Nat)) + (((l.getD k dOp).dest).size : Nat))) (.gen [])), (27, .gen [])] [40, 0, 3] [(2, [.prop (0 ≤ ((k : Nat) : Int) ∧ ((k : Nat) : Int) < ((l.length : Nat) : Int)), .prop (Value.pointer (some (Addr.add ⟨ab, ao, none⟩ (Int.toNat (k : Nat) * 6))) = Value.pointer (some ⟨ab, ao + (k * 6), none⟩))]), (4, [.cell ⟨ab, ao + (k * 6) + 1, none⟩ (.string ((l.getD k dOp).key))]), (8, [.prop (0 ≤ ((k : Nat) : Int) ∧ ((k : Nat) : Int) < ((l.length : Nat) : Int)), .prop (Value.pointer (some (Addr.add ⟨ab, ao, none⟩ (Int.toNat (k : Nat) * 6))) = Value.pointer (some ⟨ab, ao + (k * 6), none⟩))]), (10, [.cell ⟨ab, ao + (k * 6) + 2, none⟩ (.string ((l.getD k dOp).value))]), (12, [.prop (Value.int .i64 (IntKind.i64.wrap ((((l.getD k dOp).key).size : Nat) + (((l.getD k dOp).value).size : Nat))) = Value.int .i64 ((((l.getD k dOp).key).size : Nat) + (((l.getD k dOp).value).size : Nat)))]), (15, [.prop (0 ≤ ((k : Nat) : Int) ∧ ((k : Nat) : Int) < ((l.length : Nat) : Int)), .prop (Value.pointer (some (Addr.add ⟨ab, ao, none⟩ (Int.toNat (k : Nat) * 6))) = Value.pointer (some ⟨ab, ao + (k * 6), none⟩))]), (17, [.cell ⟨ab, ao + (k * 6) + 3, none⟩ (.string ((l.getD k dOp).old))]), (19, [.prop (Value.int .i64 (IntKind.i64.wrap (((((l.getD k dOp).key).size : Nat) + (((l.getD k dOp).value).size : Nat)) + (((l.getD k dOp).old).size : Nat))) = Value.int .i64 (((((l.getD k dOp).key).size : Nat) + (((l.getD k dOp).value).size : Nat)) + (((l.getD k dOp).old).size : Nat)))]), (22, [.prop (0 ≤ ((k : Nat) : Int) ∧ ((k : Nat) : Int) < ((l.length : Nat) : Int)), .prop (Value.pointer (some (Addr.add ⟨ab, ao, none⟩ (Int.toNat (k : Nat) * 6))) = Value.pointer (some ⟨ab, ao + (k * 6), none⟩))]), (24, [.cell ⟨ab, ao + (k * 6) + 4, none⟩ (.string ((l.getD k dOp).dest))]), (26, [.prop (Value.int .i64 (IntKind.i64.wrap ((((((l.getD k dOp).key).size : Nat) + (((l.getD k dOp).value).size : Nat)) + (((l.getD k dOp).old).size : Nat)) + (((l.getD k dOp).dest).size : Nat))) = Value.int .i64 ((((((l.getD k dOp).key).size : Nat) + (((l.getD k dOp).value).size : Nat)) + (((l.getD k dOp).old).size : Nat)) + (((l.getD k dOp).dest).size : Nat)))])] [(40, .bool (decide (((((((l.getD k dOp).key).size : Nat) + (((l.getD k dOp).value).size : Nat)) + (((l.getD k dOp).old).size : Nat)) + (((l.getD k dOp).dest).size : Nat) : Int) > 2000))), (0, .slice (some ⟨ab, ao, none⟩) l.length c), (3, .int .i64 (k : Nat))] (by kernel_rfl) rfl (ak (okp (by omega) (okp (ptrAdd _ _ _) ok0)) (ak (okc (RowsAt.at0 (hr _ hs6) (by first | omega | (simp only [List.length_set]; omega)) (j := 1) (by decide) (by kernel_rfl)) ok0) (ak (okp (by omega) (okp (ptrAdd _ _ _) ok0)) (ak (okc (RowsAt.at0 (hr _ hs6) (by first | omega | (simp only [List.length_set]; omega)) (j := 2) (by decide) (by kernel_rfl)) ok0) (ak (okp (i64ok (by omega) (by omega)) ok0) (ak (okp (by omega) (okp (ptrAdd _ _ _) ok0)) (ak (okc (RowsAt.at0 (hr _ hs6) (by first | omega | (simp only [List.length_set]; omega)) (j := 3) (by decide) (by kernel_rfl)) ok0) (ak (okp (i64ok (by omega) (by omega)) ok0) (ak (okp (by omega) (okp (ptrAdd _ _ _) ok0)) (ak (okc (RowsAt.at0 (hr _ hs6) (by first | omega | (simp only [List.length_set]; omega)) (j := 4) (by decide) (by kernel_rfl)) ok0) (ak (okp (i64ok (by omega) (by omega)) ok0) ak0))))))))))) ?_
      refine GoR.done (GoQ.thn ?_)
      refine GoC.cond (t := decide (((((((l.getD k dOp).key).size : Nat) + (((l.getD k dOp).value).size : Nat)) + (((l.getD k dOp).old).size : Nat)) + (((l.getD k dOp).dest).size : Nat) : Int) > 2000)) (by kernel_rfl) (fun h8 => ?_) (fun h8 => ?_)
      · have h8' : ((((((l.getD k dOp).key).size : Nat) + (((l.getD k dOp).value).size : Nat)) + (((l.getD k dOp).old).size : Nat)) + (((l.getD k dOp).dest).size : Nat) : Int) > 2000 := of_decide_eq_true h8
        refine GoC.seq ?_
        refine GoC.regT [1] (.rd 0 .done) (by kernel_rfl) (by kernel_rfl) ?_
        refine GoR.phaseK [(0, .gen [])] [2, 0, 3] [] [(2, .bool false), (0, .slice (some ⟨ab, ao, none⟩) l.length c), (3, .int .i64 (k : Nat))] (by kernel_rfl) rfl ak0 ?_
        refine GoR.done (GoQ.thn (GoC.ret (GoQ.blkR (GoQ.skipCR (GoQ.skipLR (GoQ.blkR (GoQ.skipCR ?_)))))))
        refine GoQ.done (.inl rfl) (v := .bool false) (fun a hf => results1 rfl (by kernel_rfl) a hf) ?_
        exact ⟨by rw [few_false2 (d := dOp) hk (by simp only [opSum]; omega)], hs6⟩
      · have h8' : ¬ (((((((l.getD k dOp).key).size : Nat) + (((l.getD k dOp).value).size : Nat)) + (((l.getD k dOp).old).size : Nat)) + (((l.getD k dOp).dest).size : Nat) : Int) > 2000) := of_decide_eq_false h8
        refine GoC.skip (GoQ.blkN (GoQ.thn ?_))
        refine GoC.regT [7, 7, 7] (.rd 0 (.rd 1 (.rd 2 .done))) (by kernel_rfl) (by kernel_rfl) ?_
        refine GoR.phaseK [(0, .gen []), (1, .as_ (.int .i64 ((k : Nat) + 1)) (.gen [])), (2, .gen [])] [3, 0] [(1, [.prop (Value.int .i64 (IntKind.i64.wrap ((k : Nat) + 1)) = Value.int .i64 ((k : Nat) + 1))])] [(3, .int .i64 ((k : Nat) + 1)), (0, .slice (some ⟨ab, ao, none⟩) l.length c)] (by kernel_rfl) rfl (ak (okp (i64ok (by omega) (by omega)) ok0) ak0) ?_
        refine GoR.done ?_
        exact GoQ.back (k + 1) [0, 3] (by kernel_rfl) (by omega) ⟨⟨by omega, fun j hj => (Nat.lt_succ_iff_lt_or_eq.1 hj).elim (fun h => hp.2 j h) (fun e => by subst e; simp only [opSum]; omega)⟩, hs6⟩
    · have h4' : ¬ (((k : Nat) : Int) < (l.length : Nat)) := of_decide_eq_false h4
      refine GoC.exit (GoQ.skipC (GoQ.skipL (GoQ.hit (GoQ.thn (GoC.seq ?_)))))
      refine GoC.regT [1] (.rd 0 .done) (by kernel_rfl) (by kernel_rfl) ?_
      refine GoR.phaseK [(0, .gen [])] [2] [] [(2, .bool true)] (by kernel_rfl) rfl ak0 ?_
      refine GoR.done (GoQ.thn (GoC.ret ?_))
      refine GoQ.done (.inl rfl) (v := .bool true) (fun a hf => results1 rfl (by kernel_rfl) a hf) ?_
      exact ⟨by rw [few_true (d := dOp) h150 (fun j hj => hp.2 j (by omega))], hs3⟩
theorem take_few25 {l : List CsV} {k : Nat} {d : CsV} (hk : k < l.length) : (l.take (k + 1)).map (fun r => r.op) = (l.take k).map (fun r => r.op) ++ [(l.getD k d).op] := by
  rw [List.take_succ_eq_append_getElem hk, List.map_append, List.getD_eq_getElem?_getD, List.getElem?_eq_getElem hk]
  rfl
structure Gfew25 where
  k : Nat
  l : List OpV
  ad : Option Addr
  c : Nat
theorem few25_spec {w0 w : World} {L : List Asn} {ad : Option Addr} {c : Nat} (l : List CsV) (hb : ∀ r ∈ l, Small r.op) (hln : l.length ≤ 110000000000) (hr : ∀ w, St w0 L w → RowsAt w ad l.length 15 (fun k => CsV.cells (l.getD k dCs))) (hs : St w0 L w) : Calls Tryd.prog 11 #[.slice ad l.length c] w (Ret fun rv w' => ∃ b : Bool, rv = .bool b ∧ St w0 L w') := by
  refine enter (args := [.slice ad l.length c]) Tryd.func11 rfl Tryd.ntmps11 (Nat.le_of_ble_eq_true (by kernel_rfl)) ?_
  refine GoC.slots (S' := [(0, .slice ad l.length c)]) rfl ?_
  refine GoC.seq ?_
  refine GoC.regT [1] (.rd 0 .done) (by kernel_rfl) (by kernel_rfl) ?_
  refine GoR.phaseK [(0, .gen [])] [2, 0] [] [(2, .bool false), (0, .slice ad l.length c)] (by kernel_rfl) rfl ak0 ?_
  refine GoR.done (GoQ.thn (GoC.seq ?_))
  refine GoC.regT [1] (.rd 0 .done) (by kernel_rfl) (by kernel_rfl) ?_
  refine GoR.phaseK [(0, .gen [])] [3, 2, 0] [] [(3, .slice none 0 0), (2, .bool false), (0, .slice ad l.length c)] (by kernel_rfl) rfl ak0 ?_
  refine GoR.done (GoQ.thn (GoC.seq (GoC.seq ?_)))
  refine GoC.regT [1] (.rd 0 .done) (by kernel_rfl) (by kernel_rfl) ?_
  refine GoR.phaseK [(0, .gen [])] [4, 3, 2, 0] [] [(4, .int .i64 0), (3, .slice none 0 0), (2, .bool false), (0, .slice ad l.length c)] (by kernel_rfl) rfl ak0 ?_
  refine GoR.done (GoQ.thn (GoC.block ?_))
  refine GoC.loop (T := Gfew25) (fun x => [(0, .slice ad l.length c), (3, .slice x.ad x.l.length x.c), (4, .int .i64 (x.k : Nat))]) (fun x w => (x.k ≤ l.length ∧ x.l = (l.take x.k).map (fun r => r.op)) ∧ St w0 ((Sl x.ad x.c 24 6 OpV.cells x.l) :: L) w) (fun x => l.length - x.k) (⟨0, [], none, 0⟩) [0, 3, 4] (by kernel_rfl) ⟨⟨Nat.zero_le _, rfl⟩, (hs.slNil 24 6 OpV.cells)⟩ ?_
  rintro x w1 ⟨hp, hs2⟩
  refine GoC.slots (S' := [(0, .slice ad l.length c), (3, .slice x.ad x.l.length x.c), (4, .int .i64 (x.k : Nat))]) rfl ?_
  refine GoC.seq (GoC.seq ?_)
  refine GoC.regT [15, 15, 15, 15] (.rd 0 (.rd 1 (.rd 2 (.rd 3 .done)))) (by kernel_rfl) (by kernel_rfl) ?_
  refine GoR.phaseK [(0, .gen []), (1, .gen []), (2, .gen []), (3, .gen [])] [8, 0, 3, 4] [] [(8, .bool (decide (((x.k : Nat) : Int) < (l.length : Nat)))), (0, .slice ad l.length c), (3, .slice x.ad x.l.length x.c), (4, .int .i64 (x.k : Nat))] (by kernel_rfl) rfl ak0 ?_
  refine GoR.done (GoQ.thn ?_)
  refine GoC.cond (t := decide (((x.k : Nat) : Int) < (l.length : Nat))) (by kernel_rfl) (fun h3 => ?_) (fun h3 => ?_)
  · have h3' : ((x.k : Nat) : Int) < (l.length : Nat) := of_decide_eq_true h3
    have hk : x.k < l.length := by omega
    obtain ⟨ab, ao, rfl⟩ := RowsAt.isSome (hr _ (hs2.drop 1)) (by omega)
    refine GoC.skip (GoQ.thn (GoC.seq (GoC.block (GoC.seq (GoC.seq ?_)))))
    refine GoC.regT [511, 511, 511, 511, 511, 511, 511, 511, 511] (.rd 0 (.rd 1 (.rd 2 (.rd 3 (.rd 4 (.rd 5 (.rd 6 (.rd 7 (.rd 8 .done))))))))) (by kernel_rfl) (by kernel_rfl) ?_
    refine GoR.phaseK [(0, .gen []), (1, .gen []), (2, .as_ (.pointer (some ⟨ab, ao + (x.k * 15), none⟩)) .at_), (3, .gen []), (4, .gen []), (5, .gen []), (6, .gen [.string ((((l.getD x.k dCs).told).reply).value)]), (7, .gen []), (8, .gen [])] [19, 0, 3, 4] [(2, [.prop (0 ≤ ((x.k : Nat) : Int) ∧ ((x.k : Nat) : Int) < ((l.length : Nat) : Int)), .prop (Value.pointer (some (Addr.add ⟨ab, ao, none⟩ (Int.toNat (x.k : Nat) * 15))) = Value.pointer (some ⟨ab, ao + (x.k * 15), none⟩))]), (6, [.cell ⟨ab, ao + (x.k * 15) + 10 + 2 + 1, none⟩ (.string ((((l.getD x.k dCs).told).reply).value))])] [(19, .bool (decide (((((((l.getD x.k dCs).told).reply).value).size : Nat) : Int) > 1000))), (0, .slice (some ⟨ab, ao, none⟩) l.length c), (3, .slice x.ad x.l.length x.c), (4, .int .i64 (x.k : Nat))] (by kernel_rfl) rfl (ak (okp (by omega) (okp (ptrAdd _ _ _) ok0)) (ak (okc (RowsAt.at0 (hr _ (hs2.drop 1)) (by first | omega | (simp only [List.length_set]; omega)) (j := 13) (by decide) (by kernel_rfl)) ok0) ak0)) ?_
    refine GoR.done (GoQ.thn ?_)
    refine GoC.cond (t := decide (((((((l.getD x.k dCs).told).reply).value).size : Nat) : Int) > 1000)) (by kernel_rfl) (fun h4 => ?_) (fun h4 => ?_)
    · have h4' : ((((((l.getD x.k dCs).told).reply).value).size : Nat) : Int) > 1000 := of_decide_eq_true h4
      refine GoC.seq ?_
      refine GoC.regT [1] (.rd 0 .done) (by kernel_rfl) (by kernel_rfl) ?_
      refine GoR.phaseK [(0, .gen [])] [2, 0, 3, 4] [] [(2, .bool false), (0, .slice (some ⟨ab, ao, none⟩) l.length c), (3, .slice x.ad x.l.length x.c), (4, .int .i64 (x.k : Nat))] (by kernel_rfl) rfl ak0 ?_
      refine GoR.done (GoQ.thn (GoC.ret (GoQ.skipCR (GoQ.blkR (GoQ.skipCR (GoQ.skipLR (GoQ.blkR (GoQ.skipCR ?_))))))))
      refine GoQ.done (.inl rfl) (v := .bool false) (fun a hf => results1 rfl (by kernel_rfl) a hf) ?_
      exact ⟨_, rfl, hs2.drop 1⟩
    · have h4' : ¬ (((((((l.getD x.k dCs).told).reply).value).size : Nat) : Int) > 1000) := of_decide_eq_false h4
      refine GoC.skip (GoQ.thn ?_)
      refine GoC.regT [511, 511, 511, 511, 511, 511, 511, 511, 511] (.rd 0 (.rd 1 (.rd 2 (.rd 3 (.rd 4 (.rd 5 (.ef 6 (.ef 7 (.rd 8 .done))))))))) (by kernel_rfl) (by kernel_rfl) ?_
      refine GoR.phaseK [(0, .gen []), (1, .gen []), (2, .gen []), (3, .as_ (.pointer (some ⟨ab, ao + (x.k * 15), none⟩)) .at_), (4, .gen []), (5, .agg (OpV.cells ((l.getD x.k dCs).op)))] [25, 20, 0, 3, 4] [(3, [.prop (0 ≤ ((x.k : Nat) : Int) ∧ ((x.k : Nat) : Int) < ((l.length : Nat) : Int)), .prop (Value.pointer (some (Addr.add ⟨ab, ao, none⟩ (Int.toNat (x.k : Nat) * 15))) = Value.pointer (some ⟨ab, ao + (x.k * 15), none⟩))]), (5, [.prop (Array.size (OpV.cells ((l.getD x.k dCs).op)) = 6), .cells ⟨ab, ao + (x.k * 15) + 2, none⟩ (OpV.cells ((l.getD x.k dCs).op))])] [(25, .agg (OpV.cells ((l.getD x.k dCs).op))), (20, .slice x.ad x.l.length x.c), (0, .slice (some ⟨ab, ao, none⟩) l.length c), (3, .slice x.ad x.l.length x.c), (4, .int .i64 (x.k : Nat))] (by kernel_rfl) rfl (ak (okp (by omega) (okp (ptrAdd _ _ _) ok0)) (ak (okp (by kernel_rfl) (oka (RowsAt.all (hr _ (hs2.drop 1)) (by first | omega | (simp only [List.length_set]; omega)) (Nat.le_of_ble_eq_true (by kernel_rfl)) (by kernel_rfl)) ok0)) ak0)) ?_
      refine GoR.sliceLit rfl (by kernel_rfl) (t := 61) (e := 24) (n := 1) (ps := [(0, .agg (OpV.cells ((l.getD x.k dCs).op)))]) (by kernel_rfl) (by kernel_rfl) (ti := Tryd.t24) (z := .agg #[.int .u8 0, .string (⟨#[]⟩ : ByteArray), .string (⟨#[]⟩ : ByteArray), .string (⟨#[]⟩ : ByteArray), .string (⟨#[]⟩ : ByteArray), .int .u64 0]) (by kernel_rfl) (by kernel_rfl) (by decide) (by decide) (cs := #[.int .u8 (((l.getD x.k dCs).op).kind), .string (((l.getD x.k dCs).op).key), .string (((l.getD x.k dCs).op).value), .string (((l.getD x.k dCs).op).old), .string (((l.getD x.k dCs).op).dest), .int .u64 (((l.getD x.k dCs).op).amount)]) (by kernel_rfl) hs2 ?_
      intro b5 w6 hs7 hz8
      have hs9 : St w0 ((Sl (some ⟨b5, 0, none⟩) 1 24 6 OpV.cells ([(((l.getD x.k dCs).op) : OpV)])) :: (Sl x.ad x.c 24 6 OpV.cells x.l) :: L) w6 := St.slOf (l := [(((l.getD x.k dCs).op) : OpV)]) (f := OpV.cells) hs7 hz8 (opF).size (by simp only [List.length_cons, List.length_nil, maxLen]; omega) (by kernel_rfl)
      refine ⟨(opn (by kernel_rfl)), ?_⟩
      have hs12 : St w0 ((Sl x.ad x.c 24 6 OpV.cells x.l) :: (Sl (some ⟨b5, 0, none⟩) 1 24 6 OpV.cells ([(((l.getD x.k dCs).op) : OpV)])) :: L) w6 := (hs9.pull 1 rfl)
      refine GoR.append rfl (by kernel_rfl) opsOK opF (ad := x.ad) (c := x.c) (xs := x.l) (ys := [(((l.getD x.k dCs).op) : OpV)]) (adx := some ⟨b5, 0, none⟩) (cx := 1) dOp (by kernel_rfl) hs12 (hs12.rows 1 rfl (opF).size dOp) (fun h => nomatch h) (by have hh : x.l.length ≤ x.k := (by rw [hp.2, List.length_map, List.length_take]; omega); simp only [List.length_cons, List.length_nil]; omega) (by have hh : x.l.length ≤ x.k := (by rw [hp.2, List.length_map, List.length_take]; omega); simp only [List.length_cons, List.length_nil]; omega) ?_
      intro ad13 c14 w10 hs11
      refine ⟨(opn (by kernel_rfl)), ?_⟩
      refine GoR.phaseK [(8, .gen [])] [3, 0, 4] [] [(3, .slice ad13 ((x.l ++ ([(((l.getD x.k dCs).op) : OpV)])).length) c14), (0, .slice (some ⟨ab, ao, none⟩) l.length c), (4, .int .i64 (x.k : Nat))] (by kernel_rfl) rfl ak0 ?_
      refine GoR.done (GoQ.blkN (GoQ.thn ?_))
      refine GoC.regT [7, 7, 7] (.rd 0 (.rd 1 (.rd 2 .done))) (by kernel_rfl) (by kernel_rfl) ?_
      refine GoR.phaseK [(0, .gen []), (1, .as_ (.int .i64 ((x.k : Nat) + 1)) (.gen [])), (2, .gen [])] [4, 3, 0] [(1, [.prop (Value.int .i64 (IntKind.i64.wrap ((x.k : Nat) + 1)) = Value.int .i64 ((x.k : Nat) + 1))])] [(4, .int .i64 ((x.k : Nat) + 1)), (3, .slice ad13 ((x.l ++ ([(((l.getD x.k dCs).op) : OpV)])).length) c14), (0, .slice (some ⟨ab, ao, none⟩) l.length c)] (by kernel_rfl) rfl (ak (okp (i64ok (by omega) (by omega)) ok0) ak0) ?_
      refine GoR.done ?_
      have hs15 : St w0 ((Sl (some ⟨b5, 0, none⟩) 1 24 6 OpV.cells ([(((l.getD x.k dCs).op) : OpV)])) :: (Sl ad13 c14 24 6 OpV.cells (x.l ++ ([(((l.getD x.k dCs).op) : OpV)]))) :: L) w10 := ((hs11.pull 0 rfl).pull 1 rfl)
      have hs16 : St w0 ((Sl ad13 c14 24 6 OpV.cells (x.l ++ ([(((l.getD x.k dCs).op) : OpV)]))) :: L) w10 := hs15.drop 1
      exact GoQ.back (⟨x.k + 1, x.l ++ ([(((l.getD x.k dCs).op) : OpV)]), ad13, c14⟩) [0, 3, 4] (by kernel_rfl) (by simp only; omega) ⟨(by refine ⟨by simp only; omega, ?_⟩; simp only [hp.2]; exact (take_few25 hk).symm), hs16⟩
  · have h3' : ¬ (((x.k : Nat) : Int) < (l.length : Nat)) := of_decide_eq_false h3
    have hxl : x.l = l.map (fun r => r.op) := by rw [hp.2, List.take_of_length_le (by omega)]
    refine GoC.exit (GoQ.skipC (GoQ.skipL (GoQ.hit (GoQ.thn (GoC.seq ?_)))))
    refine GoC.regT [7, 7, 7] (.rd 0 (.ef 1 (.rd 2 .done))) (by kernel_rfl) (by kernel_rfl) ?_
    refine GoR.phaseK [(0, .gen [])] [28] [] [(28, .slice x.ad x.l.length x.c)] (by kernel_rfl) rfl ak0 ?_
    refine GoR.call rfl rfl (by kernel_rfl) (f := 18) (args := #[.slice x.ad x.l.length x.c]) (by kernel_rfl) Tryd.call18 (few_spec x.l (by rw [hxl]; intro q hq; obtain ⟨r, hr1, rfl⟩ := List.mem_map.1 hq; exact hb r hr1) (by rw [hxl, List.length_map]; omega) (fun w h => h.rows 0 rfl opF.size _) hs2) ?_
    rintro v18 w19 ⟨rfl, hs17⟩
    refine ⟨(opn (by kernel_rfl)), ?_⟩
    refine GoR.phaseK [(2, .gen [])] [2] [] [(2, .bool (few x.l))] (by kernel_rfl) rfl ak0 ?_
    refine GoR.done (GoQ.thn (GoC.ret ?_))
    refine GoQ.done (.inl rfl) (v := .bool (few x.l)) (fun a hf => results1 rfl (by kernel_rfl) a hf) ?_
    exact ⟨_, rfl, hs17.drop 1⟩
theorem take_few35 {l : List PsV} {k : Nat} {d : PsV} (hk : k < l.length) : (l.take (k + 1)).map (fun r => r.s) = (l.take k).map (fun r => r.s) ++ [(l.getD k d).s] := by
  rw [List.take_succ_eq_append_getElem hk, List.map_append, List.getD_eq_getElem?_getD, List.getElem?_eq_getElem hk]
  rfl
structure Gfew35 where
  k : Nat
  l : List CsV
  ad : Option Addr
  c : Nat
theorem few35_spec {w0 w : World} {L : List Asn} {ad : Option Addr} {c : Nat} (l : List PsV) (hb : ∀ r ∈ l, Small r.s.op) (hln : l.length ≤ 100000000000) (hr : ∀ w, St w0 L w → RowsAt w ad l.length 17 (fun k => PsV.cells (l.getD k dPs))) (hs : St w0 L w) : Calls Tryd.prog 4 #[.slice ad l.length c] w (Ret fun rv w' => ∃ b : Bool, rv = .bool b ∧ St w0 L w') := by
  refine enter (args := [.slice ad l.length c]) Tryd.func4 rfl Tryd.ntmps4 (Nat.le_of_ble_eq_true (by kernel_rfl)) ?_
  refine GoC.slots (S' := [(0, .slice ad l.length c)]) rfl ?_
  refine GoC.seq ?_
  refine GoC.regT [1] (.rd 0 .done) (by kernel_rfl) (by kernel_rfl) ?_
  refine GoR.phaseK [(0, .gen [])] [2, 0] [] [(2, .bool false), (0, .slice ad l.length c)] (by kernel_rfl) rfl ak0 ?_
  refine GoR.done (GoQ.thn (GoC.seq ?_))
  refine GoC.regT [1] (.rd 0 .done) (by kernel_rfl) (by kernel_rfl) ?_
  refine GoR.phaseK [(0, .gen [])] [3, 2, 0] [] [(3, .slice none 0 0), (2, .bool false), (0, .slice ad l.length c)] (by kernel_rfl) rfl ak0 ?_
  refine GoR.done (GoQ.thn (GoC.seq (GoC.seq ?_)))
  refine GoC.regT [1] (.rd 0 .done) (by kernel_rfl) (by kernel_rfl) ?_
  refine GoR.phaseK [(0, .gen [])] [4, 3, 2, 0] [] [(4, .int .i64 0), (3, .slice none 0 0), (2, .bool false), (0, .slice ad l.length c)] (by kernel_rfl) rfl ak0 ?_
  refine GoR.done (GoQ.thn (GoC.block ?_))
  refine GoC.loop (T := Gfew35) (fun x => [(0, .slice ad l.length c), (2, .bool false), (3, .slice x.ad x.l.length x.c), (4, .int .i64 (x.k : Nat))]) (fun x w => (x.k ≤ l.length ∧ x.l = (l.take x.k).map (fun r => r.s)) ∧ St w0 ((Sl x.ad x.c 31 15 CsV.cells x.l) :: L) w) (fun x => l.length - x.k) (⟨0, [], none, 0⟩) [0, 2, 3, 4] (by kernel_rfl) ⟨⟨Nat.zero_le _, rfl⟩, (hs.slNil 31 15 CsV.cells)⟩ ?_
  rintro x w1 ⟨hp, hs2⟩
  refine GoC.slots (S' := [(0, .slice ad l.length c), (2, .bool false), (3, .slice x.ad x.l.length x.c), (4, .int .i64 (x.k : Nat))]) rfl ?_
  refine GoC.seq (GoC.seq ?_)
  refine GoC.regT [15, 15, 15, 15] (.rd 0 (.rd 1 (.rd 2 (.rd 3 .done)))) (by kernel_rfl) (by kernel_rfl) ?_
  refine GoR.phaseK [(0, .gen []), (1, .gen []), (2, .gen []), (3, .gen [])] [8, 0, 2, 3, 4] [] [(8, .bool (decide (((x.k : Nat) : Int) < (l.length : Nat)))), (0, .slice ad l.length c), (2, .bool false), (3, .slice x.ad x.l.length x.c), (4, .int .i64 (x.k : Nat))] (by kernel_rfl) rfl ak0 ?_
  refine GoR.done (GoQ.thn ?_)
  refine GoC.cond (t := decide (((x.k : Nat) : Int) < (l.length : Nat))) (by kernel_rfl) (fun h3 => ?_) (fun h3 => ?_)
  · have h3' : ((x.k : Nat) : Int) < (l.length : Nat) := of_decide_eq_true h3
    have hk : x.k < l.length := by omega
    obtain ⟨ab, ao, rfl⟩ := RowsAt.isSome (hr _ (hs2.drop 1)) (by omega)
    refine GoC.skip (GoQ.thn (GoC.seq (GoC.block ?_)))
    refine GoC.regT [511, 511, 511, 511, 511, 511, 511, 511, 511] (.rd 0 (.rd 1 (.rd 2 (.rd 3 (.rd 4 (.rd 5 (.ef 6 (.ef 7 (.rd 8 .done))))))))) (by kernel_rfl) (by kernel_rfl) ?_
    refine GoR.phaseK [(0, .gen []), (1, .gen []), (2, .gen []), (3, .as_ (.pointer (some ⟨ab, ao + (x.k * 17), none⟩)) .at_), (4, .gen []), (5, .agg (CsV.cells ((l.getD x.k dPs).s)))] [16, 11, 0, 2, 3, 4] [(3, [.prop (0 ≤ ((x.k : Nat) : Int) ∧ ((x.k : Nat) : Int) < ((l.length : Nat) : Int)), .prop (Value.pointer (some (Addr.add ⟨ab, ao, none⟩ (Int.toNat (x.k : Nat) * 17))) = Value.pointer (some ⟨ab, ao + (x.k * 17), none⟩))]), (5, [.prop (Array.size (CsV.cells ((l.getD x.k dPs).s)) = 15), .cells ⟨ab, ao + (x.k * 17), none⟩ (CsV.cells ((l.getD x.k dPs).s))])] [(16, .agg (CsV.cells ((l.getD x.k dPs).s))), (11, .slice x.ad x.l.length x.c), (0, .slice (some ⟨ab, ao, none⟩) l.length c), (2, .bool false), (3, .slice x.ad x.l.length x.c), (4, .int .i64 (x.k : Nat))] (by kernel_rfl) rfl (ak (okp (by omega) (okp (ptrAdd _ _ _) ok0)) (ak (okp (by kernel_rfl) (oka (RowsAt.all0 (hr _ (hs2.drop 1)) (by first | omega | (simp only [List.length_set]; omega)) (Nat.le_of_ble_eq_true (by kernel_rfl)) (by kernel_rfl)) ok0)) ak0)) ?_
    refine GoR.sliceLit rfl (by kernel_rfl) (t := 51) (e := 31) (n := 1) (ps := [(0, .agg (CsV.cells ((l.getD x.k dPs).s)))]) (by kernel_rfl) (by kernel_rfl) (ti := Tryd.t31) (z := .agg #[.bool false, .bool false, .int .u8 0, .string (⟨#[]⟩ : ByteArray), .string (⟨#[]⟩ : ByteArray), .string (⟨#[]⟩ : ByteArray), .string (⟨#[]⟩ : ByteArray), .int .u64 0, .int .i64 0, .int .u8 0, .int .i64 0, .int .u64 0, .int .i64 0, .string (⟨#[]⟩ : ByteArray), .int .u64 0]) (by kernel_rfl) (by kernel_rfl) (by decide) (by decide) (cs := #[.bool (((l.getD x.k dPs).s).hear), .bool (((l.getD x.k dPs).s).own), .int .u8 ((((l.getD x.k dPs).s).op).kind), .string ((((l.getD x.k dPs).s).op).key), .string ((((l.getD x.k dPs).s).op).value), .string ((((l.getD x.k dPs).s).op).old), .string ((((l.getD x.k dPs).s).op).dest), .int .u64 ((((l.getD x.k dPs).s).op).amount), .int .i64 (((l.getD x.k dPs).s).j), .int .u8 (((l.getD x.k dPs).s).pick), .int .i64 ((((l.getD x.k dPs).s).told).client), .int .u64 ((((l.getD x.k dPs).s).told).time), .int .i64 (((((l.getD x.k dPs).s).told).reply).err), .string (((((l.getD x.k dPs).s).told).reply).value), .int .u64 ((((l.getD x.k dPs).s).told).moment)]) (by kernel_rfl) hs2 ?_
    intro b4 w5 hs6 hz7
    have hs8 : St w0 ((Sl (some ⟨b4, 0, none⟩) 1 31 15 CsV.cells ([(((l.getD x.k dPs).s) : CsV)])) :: (Sl x.ad x.c 31 15 CsV.cells x.l) :: L) w5 := St.slOf (l := [(((l.getD x.k dPs).s) : CsV)]) (f := CsV.cells) hs6 hz7 (csF).size (by simp only [List.length_cons, List.length_nil, maxLen]; omega) (by kernel_rfl)
    refine ⟨(opn (by kernel_rfl)), ?_⟩
    have hs11 : St w0 ((Sl x.ad x.c 31 15 CsV.cells x.l) :: (Sl (some ⟨b4, 0, none⟩) 1 31 15 CsV.cells ([(((l.getD x.k dPs).s) : CsV)])) :: L) w5 := (hs8.pull 1 rfl)
    refine GoR.append rfl (by kernel_rfl) cssOK csF (ad := x.ad) (c := x.c) (xs := x.l) (ys := [(((l.getD x.k dPs).s) : CsV)]) (adx := some ⟨b4, 0, none⟩) (cx := 1) dCs (by kernel_rfl) hs11 (hs11.rows 1 rfl (csF).size dCs) (fun h => nomatch h) (by have hh : x.l.length ≤ x.k := (by rw [hp.2, List.length_map, List.length_take]; omega); simp only [List.length_cons, List.length_nil]; omega) (by have hh : x.l.length ≤ x.k := (by rw [hp.2, List.length_map, List.length_take]; omega); simp only [List.length_cons, List.length_nil]; omega) ?_
    intro ad12 c13 w9 hs10
    refine ⟨(opn (by kernel_rfl)), ?_⟩
    refine GoR.phaseK [(8, .gen [])] [3, 0, 2, 4] [] [(3, .slice ad12 ((x.l ++ ([(((l.getD x.k dPs).s) : CsV)])).length) c13), (0, .slice (some ⟨ab, ao, none⟩) l.length c), (2, .bool false), (4, .int .i64 (x.k : Nat))] (by kernel_rfl) rfl ak0 ?_
    refine GoR.done (GoQ.blkN (GoQ.thn ?_))
    refine GoC.regT [7, 7, 7] (.rd 0 (.rd 1 (.rd 2 .done))) (by kernel_rfl) (by kernel_rfl) ?_
    refine GoR.phaseK [(0, .gen []), (1, .as_ (.int .i64 ((x.k : Nat) + 1)) (.gen [])), (2, .gen [])] [4, 3, 0, 2] [(1, [.prop (Value.int .i64 (IntKind.i64.wrap ((x.k : Nat) + 1)) = Value.int .i64 ((x.k : Nat) + 1))])] [(4, .int .i64 ((x.k : Nat) + 1)), (3, .slice ad12 ((x.l ++ ([(((l.getD x.k dPs).s) : CsV)])).length) c13), (0, .slice (some ⟨ab, ao, none⟩) l.length c), (2, .bool false)] (by kernel_rfl) rfl (ak (okp (i64ok (by omega) (by omega)) ok0) ak0) ?_
    refine GoR.done ?_
    have hs14 : St w0 ((Sl (some ⟨b4, 0, none⟩) 1 31 15 CsV.cells ([(((l.getD x.k dPs).s) : CsV)])) :: (Sl ad12 c13 31 15 CsV.cells (x.l ++ ([(((l.getD x.k dPs).s) : CsV)]))) :: L) w9 := ((hs10.pull 0 rfl).pull 1 rfl)
    have hs15 : St w0 ((Sl ad12 c13 31 15 CsV.cells (x.l ++ ([(((l.getD x.k dPs).s) : CsV)]))) :: L) w9 := hs14.drop 1
    exact GoQ.back (⟨x.k + 1, x.l ++ ([(((l.getD x.k dPs).s) : CsV)]), ad12, c13⟩) [0, 2, 3, 4] (by kernel_rfl) (by simp only; omega) ⟨(by refine ⟨by simp only; omega, ?_⟩; simp only [hp.2]; exact (take_few35 hk).symm), hs15⟩
  · have h3' : ¬ (((x.k : Nat) : Int) < (l.length : Nat)) := of_decide_eq_false h3
    have hxl : x.l = l.map (fun r => r.s) := by rw [hp.2, List.take_of_length_le (by omega)]
    refine GoC.exit (GoQ.skipC (GoQ.skipL (GoQ.hit (GoQ.thn (GoC.seq ?_)))))
    refine GoC.regT [7, 7, 7] (.rd 0 (.ef 1 (.rd 2 .done))) (by kernel_rfl) (by kernel_rfl) ?_
    refine GoR.phaseK [(0, .gen [])] [19, 2] [] [(19, .slice x.ad x.l.length x.c), (2, .bool false)] (by kernel_rfl) rfl ak0 ?_
    refine GoR.call rfl rfl (by kernel_rfl) (f := 11) (args := #[.slice x.ad x.l.length x.c]) (by kernel_rfl) Tryd.call11 (few25_spec x.l (by rw [hxl]; intro q hq; obtain ⟨r, hr1, rfl⟩ := List.mem_map.1 hq; exact hb r hr1) (by rw [hxl, List.length_map]; omega) (fun w h => h.rows 0 rfl csF.size _) hs2) ?_
    rintro v18 w19 ⟨fb17, rfl, hs16⟩
    refine ⟨(opn (by kernel_rfl)), ?_⟩
    refine GoR.phaseK [(2, .gen [])] [2] [] [(2, .bool fb17)] (by kernel_rfl) rfl ak0 ?_
    refine GoR.done (GoQ.thn (GoC.ret ?_))
    refine GoQ.done (.inl rfl) (v := .bool fb17) (fun a hf => results1 rfl (by kernel_rfl) a hf) ?_
    exact ⟨_, rfl, hs16.drop 1⟩
end Go.Proofs.YtmmnliahojcliaaDoor
