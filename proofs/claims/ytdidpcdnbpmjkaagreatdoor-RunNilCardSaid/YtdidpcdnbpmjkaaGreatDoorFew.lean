/-
  Flat structs; Few of operations and of requests. Conditions: none beside each theorem's own.
-/
import Derived.Test.YtdidpcdnbpmjkaaGreatDoorProg
import Derived.Test.YtdidpcdnbpmjkaaGreatDoorSxK
import Derived.Test.YtdidpcdnbpmjkaaGreatDoorSxM
import Derived.Test.YtdidpcdnbpmjkaaGreatDoorSxO
namespace Go.Proofs.YtdidpcdnbpmjkaaGreatDoor
open Go.RowKit Go.Sx
set_option linter.unusedVariables false
set_option linter.unusedSimpArgs false
set_option linter.unnecessarySimpa false
set_option maxRecDepth 100000
structure OpV where
  kind : Int
  key : ByteArray
  value : ByteArray
  old : ByteArray
  dest : ByteArray
  amount : Int
deriving DecidableEq
def OpV.cells (o : OpV) : Array Value := #[.int .u8 o.kind, .string o.key, .string o.value, .string o.old, .string o.dest, .int .u64 o.amount]
structure RepV where
  err : Int
  value : ByteArray
deriving DecidableEq
def RepV.cells (o : RepV) : Array Value := #[.int .i64 o.err, .string o.value]
abbrev dOp : OpV := ⟨0, ⟨#[]⟩, ⟨#[]⟩, ⟨#[]⟩, ⟨#[]⟩, 0⟩
theorem opF : CellF OpV.cells 6 := ⟨fun _ => rfl, fun _ => rfl⟩
def opSum (o : OpV) : Nat := o.key.size + o.value.size + o.old.size + o.dest.size
def few (l : List OpV) : Bool := decide (l.length ≤ 150) && l.all fun o => decide (opSum o ≤ 2000)
theorem few_false1 {l : List OpV} (h : ¬ l.length ≤ 150) : few l = false := by simp [few, h]
theorem few_false2 {l : List OpV} {k : Nat} {d : OpV} (hk : k < l.length) (h : 2000 < opSum (l.getD k d)) : few l = false := by
  have h1 : ∃ x ∈ l, 2000 < opSum x := ⟨l[k], List.getElem_mem hk, by simpa [List.getD_eq_getElem?_getD, List.getElem?_eq_getElem hk] using h⟩
  obtain ⟨x, hx, h2⟩ := h1
  have h3 : (l.all fun o => decide (opSum o ≤ 2000)) = false := by
    rw [List.all_eq_false]
    exact ⟨x, hx, by simp; omega⟩
  rw [few, h3, Bool.and_false]
theorem few_true {l : List OpV} {d : OpV} (h1 : l.length ≤ 150) (h : ∀ j, j < l.length → opSum (l.getD j d) ≤ 2000) : few l = true := by
  have h3 : (l.all fun o => decide (opSum o ≤ 2000)) = true := by
    rw [List.all_eq_true]
    intro x hx
    obtain ⟨j, hj, rfl⟩ := List.getElem_of_mem hx
    have := h j hj
    simpa [List.getD_eq_getElem?_getD, List.getElem?_eq_getElem hj] using this
  rw [few, h3, Bool.and_true]
  simpa using h1
def Small (o : OpV) : Prop := opSum o ≤ 1000000000000000
theorem small_getD {l : List OpV} {d : OpV} (h : ∀ o ∈ l, Small o) (k : Nat) (hk : k < l.length) : opSum (l.getD k d) ≤ 1000000000000000 := by
  have : l.getD k d = l[k] := by simp [List.getD_eq_getElem?_getD, List.getElem?_eq_getElem hk]
  rw [this]
  exact h _ (List.getElem_mem hk)
set_option maxHeartbeats 400000 in
theorem few_spec {w0 w : World} {L : List Asn} {ad : Option Addr} {c : Nat} (l : List OpV) (hb : ∀ o ∈ l, Small o) (hln : l.length ≤ 1000000000000000) (hr : ∀ w, St w0 L w → RowsAt w ad l.length 6 (fun k => OpV.cells (l.getD k dOp))) (hs : St w0 L w) : Calls Tryz.prog 11 #[.slice ad l.length c] w (Ret fun rv w' => rv = .bool (few l) ∧ St w0 L w') := by
  refine enter (args := [.slice ad l.length c]) Tryz.func11 rfl Tryz.ntmps11 (Nat.le_of_ble_eq_true (by kernel_rfl)) ?_
  refine GoC.slots (S' := [(0, .slice ad l.length c)]) rfl ?_
  refine GoC.seq ?_
  refine GoC.regT [1] (.rd 0 .done) (by kernel_rfl) (by kernel_rfl) ?_
  refine GoR.phaseK [(0, .gen [])] [2, 0] [] [(2, .bool false), (0, .slice ad l.length c)] (by kernel_rfl) rfl ak0 ?_
  refine GoR.done (GoQ.thn (GoC.seq (GoC.seq ?_)))
  refine GoC.regT [7, 7, 7] (.rd 0 (.rd 1 (.rd 2 .done))) (by kernel_rfl) (by kernel_rfl) ?_
  refine GoR.phaseK [(0, .gen []), (1, .gen []), (2, .gen [])] [6, 2, 0] [] [(6, .bool (decide (((l.length : Nat) : Int) > 150))), (2, .bool false), (0, .slice ad l.length c)] (by kernel_rfl) rfl ak0 ?_
  refine GoR.done (GoQ.thn ?_)
  refine GoC.cond (t := decide (((l.length : Nat) : Int) > 150)) (by kernel_rfl) (fun h1 => ?_) (fun h1 => ?_)
  · have h1' : ((l.length : Nat) : Int) > 150 := of_decide_eq_true h1
    refine GoC.seq ?_
    refine GoC.regT [1] (.rd 0 .done) (by kernel_rfl) (by kernel_rfl) ?_
    refine GoR.phaseK [(0, .gen [])] [2, 0] [] [(2, .bool false), (0, .slice ad l.length c)] (by kernel_rfl) rfl ak0 ?_
    refine GoR.done (GoQ.thn (GoC.ret (GoQ.skipCR ?_)))
    refine GoQ.done (.inl rfl) (v := .bool false) (fun a hf => results1 rfl (by kernel_rfl) a hf) ?_
    exact ⟨by rw [few_false1 (by omega)], hs⟩
  · have h1' : ¬ (((l.length : Nat) : Int) > 150) := of_decide_eq_false h1
    refine GoC.skip (GoQ.thn (GoC.seq (GoC.seq ?_)))
    refine GoC.regT [1] (.rd 0 .done) (by kernel_rfl) (by kernel_rfl) ?_
    refine GoR.phaseK [(0, .gen [])] [3, 2, 0] [] [(3, .int .i64 0), (2, .bool false), (0, .slice ad l.length c)] (by kernel_rfl) rfl ak0 ?_
    refine GoR.done (GoQ.thn (GoC.block ?_))
    have h150 : l.length ≤ 150 := by omega
    refine GoC.loop (T := Nat) (fun k => [(0, .slice ad l.length c), (3, .int .i64 (k : Nat))]) (fun k w => (k ≤ l.length ∧ ∀ j, j < k → opSum (l.getD j dOp) ≤ 2000) ∧ St w0 (L) w) (fun k => l.length - k) (0) [0, 3] (by kernel_rfl) ⟨⟨Nat.zero_le _, fun j hj => absurd hj (Nat.not_lt_zero _)⟩, hs⟩ ?_
    rintro k w2 ⟨hp, hs3⟩
    refine GoC.slots (S' := [(0, .slice ad l.length c), (3, .int .i64 (k : Nat))]) rfl ?_
    refine GoC.seq (GoC.seq ?_)
    refine GoC.regT [15, 15, 15, 15] (.rd 0 (.rd 1 (.rd 2 (.rd 3 .done)))) (by kernel_rfl) (by kernel_rfl) ?_
    refine GoR.phaseK [(0, .gen []), (1, .gen []), (2, .gen []), (3, .gen [])] [10, 0, 3] [] [(10, .bool (decide (((k : Nat) : Int) < (l.length : Nat)))), (0, .slice ad l.length c), (3, .int .i64 (k : Nat))] (by kernel_rfl) rfl ak0 ?_
    refine GoR.done (GoQ.thn ?_)
    refine GoC.cond (t := decide (((k : Nat) : Int) < (l.length : Nat))) (by kernel_rfl) (fun h4 => ?_) (fun h4 => ?_)
    · have h4' : ((k : Nat) : Int) < (l.length : Nat) := of_decide_eq_true h4
      have hk : k < l.length := by omega
      have hsm := small_getD (d := dOp) hb k hk
      simp only [opSum] at hsm
      obtain ⟨ab, ao, rfl⟩ := RowsAt.isSome (hr _ hs3) (by omega)
      refine GoC.skip (GoQ.thn (GoC.seq (GoC.block (GoC.seq ?_))))
      refine GoC.regD [0, 0, 3, 7, 15, 31, 0, 0, 192, 448, 960, 1984, 4095, 0, 0, 24576, 57344, 122880, 253952, 524287, 0, 0, 3145728, 7340032, 15728640, 32505856, 67108863, 134217727] (.rd 0 (.rd 1 (.rd 2 (.rd 3 (.rd 4 (.rd 5 (.rd 6 (.rd 7 (.rd 8 (.rd 9 (.rd 10 (.rd 11 (.rd 12 (.rd 13 (.rd 14 (.rd 15 (.rd 16 (.rd 17 (.rd 18 (.rd 19 (.rd 20 (.rd 21 (.rd 22 (.rd 23 (.rd 24 (.rd 25 (.rd 26 (.rd 27 .done)))))))))))))))))))))))))))) (by kernel_rfl) (by kernel_rfl) noPan_body (by kernel_rfl) hs3 ?_
      intro w5 hs6 hw7
      refine GoR.phaseK [(0, .gen []), (1, .gen []), (2, .as_ (.pointer (some ⟨ab, ao + (k * 6), none⟩)) .at_), (3, .gen []), (4, .gen [.string ((l.getD k dOp).key)]), (5, .gen []), (6, .gen []), (7, .gen []), (8, .as_ (.pointer (some ⟨ab, ao + (k * 6), none⟩)) .at_), (9, .gen []), (10, .gen [.string ((l.getD k dOp).value)]), (11, .gen []), (12, .as_ (.int .i64 ((((l.getD k dOp).key).size : Nat) + (((l.getD k dOp).value).size : Nat))) (.gen [])), (13, .gen []), (14, .gen []), (15, .as_ (.pointer (some ⟨ab, ao + (k * 6), none⟩)) .at_), (16, .gen []), (17, .gen [.string ((l.getD k dOp).old)]), (18, .gen []), (19, .as_ (.int .i64 (((((l.getD k dOp).key).size : Nat) + (((l.getD k dOp).value).size : Nat)) + (((l.getD k dOp).old).size : Nat))) (.gen [])), (20, .gen []), (21, .gen []), (22, .as_ (.pointer (some ⟨ab, ao + (k * 6), none⟩)) .at_), (23, .gen []), (24, .gen [.string ((l.getD k dOp).dest)]), (25, .gen []), (26, .as_ (.int .i64 ((((((l.getD k dOp).key).size : Nat) + (((l.getD k dOp).value).size : Nat)) + (((l.getD k dOp).old).size : Nat)) + (((l.getD k dOp).dest).size : Nat))) (.gen [])), (27, .gen [])] [40, 0, 3] [(2, [.prop (0 ≤ ((k : Nat) : Int) ∧ ((k : Nat) : Int) < ((l.length : Nat) : Int)), .prop (Value.pointer (some (Addr.add ⟨ab, ao, none⟩ (Int.toNat (k : Nat) * 6))) = Value.pointer (some ⟨ab, ao + (k * 6), none⟩))]), (4, [.cell ⟨ab, ao + (k * 6) + 1, none⟩ (.string ((l.getD k dOp).key))]), (8, [.prop (0 ≤ ((k : Nat) : Int) ∧ ((k : Nat) : Int) < ((l.length : Nat) : Int)), .prop (Value.pointer (some (Addr.add ⟨ab, ao, none⟩ (Int.toNat (k : Nat) * 6))) = Value.pointer (some ⟨ab, ao + (k * 6), none⟩))]), (10, [.cell ⟨ab, ao + (k * 6) + 2, none⟩ (.string ((l.getD k dOp).value))]), (12, [.prop (Value.int .i64 (IntKind.i64.wrap ((((l.getD k dOp).key).size : Nat) + (((l.getD k dOp).value).size : Nat))) = Value.int .i64 ((((l.getD k dOp).key).size : Nat) + (((l.getD k dOp).value).size : Nat)))]), (15, [.prop (0 ≤ ((k : Nat) : Int) ∧ ((k : Nat) : Int) < ((l.length : Nat) : Int)), .prop (Value.pointer (some (Addr.add ⟨ab, ao, none⟩ (Int.toNat (k : Nat) * 6))) = Value.pointer (some ⟨ab, ao + (k * 6), none⟩))]), (17, [.cell ⟨ab, ao + (k * 6) + 3, none⟩ (.string ((l.getD k dOp).old))]), (19, [.prop (Value.int .i64 (IntKind.i64.wrap (((((l.getD k dOp).key).size : Nat) + (((l.getD k dOp).value).size : Nat)) + (((l.getD k dOp).old).size : Nat))) = Value.int .i64 (((((l.getD k dOp).key).size : Nat) + (((l.getD k dOp).value).size : Nat)) + (((l.getD k dOp).old).size : Nat)))]), (22, [.prop (0 ≤ ((k : Nat) : Int) ∧ ((k : Nat) : Int) < ((l.length : Nat) : Int)), .prop (Value.pointer (some (Addr.add ⟨ab, ao, none⟩ (Int.toNat (k : Nat) * 6))) = Value.pointer (some ⟨ab, ao + (k * 6), none⟩))]), (24, [.cell ⟨ab, ao + (k * 6) + 4, none⟩ (.string ((l.getD k dOp).dest))]), (26, [.prop (Value.int .i64 (IntKind.i64.wrap ((((((l.getD k dOp).key).size : Nat) + (((l.getD k dOp).value).size : Nat)) + (((l.getD k dOp).old).size : Nat)) + (((l.getD k dOp).dest).size : Nat))) = Value.int .i64 ((((((l.getD k dOp).key).size : Nat) + (((l.getD k dOp).value).size : Nat)) + (((l.getD k dOp).old).size : Nat)) + (((l.getD k dOp).dest).size : Nat)))])] [(40, .bool (decide (((((((l.getD k dOp).key).size : Nat) + (((l.getD k dOp).value).size : Nat)) + (((l.getD k dOp).old).size : Nat)) + (((l.getD k dOp).dest).size : Nat) : Int) > 2000))), (0, .slice (some ⟨ab, ao, none⟩) l.length c), (3, .int .i64 (k : Nat))] (by kernel_rfl) rfl (ak (okp (by omega) (okp (ptrAdd _ _ _) ok0)) (ak (okc (RowsAt.at0 (hr _ hs6) (by first | omega | (simp only [List.length_set]; omega)) (j := 1) (by decide) (by kernel_rfl)) ok0) (ak (okp (by omega) (okp (ptrAdd _ _ _) ok0)) (ak (okc (RowsAt.at0 (hr _ hs6) (by first | omega | (simp only [List.length_set]; omega)) (j := 2) (by decide) (by kernel_rfl)) ok0) (ak (okp (i64ok (by omega) (by omega)) ok0) (ak (okp (by omega) (okp (ptrAdd _ _ _) ok0)) (ak (okc (RowsAt.at0 (hr _ hs6) (by first | omega | (simp only [List.length_set]; omega)) (j := 3) (by decide) (by kernel_rfl)) ok0) (ak (okp (i64ok (by omega) (by omega)) ok0) (ak (okp (by omega) (okp (ptrAdd _ _ _) ok0)) (ak (okc (RowsAt.at0 (hr _ hs6) (by first | omega | (simp only [List.length_set]; omega)) (j := 4) (by decide) (by kernel_rfl)) ok0) (ak (okp (i64ok (by omega) (by omega)) ok0) ak0))))))))))) ?_
      refine GoR.done (GoQ.thn ?_)
      refine GoC.cond (t := decide (((((((l.getD k dOp).key).size : Nat) + (((l.getD k dOp).value).size : Nat)) + (((l.getD k dOp).old).size : Nat)) + (((l.getD k dOp).dest).size : Nat) : Int) > 2000)) (by kernel_rfl) (fun h8 => ?_) (fun h8 => ?_)
      · have h8' : ((((((l.getD k dOp).key).size : Nat) + (((l.getD k dOp).value).size : Nat)) + (((l.getD k dOp).old).size : Nat)) + (((l.getD k dOp).dest).size : Nat) : Int) > 2000 := of_decide_eq_true h8
        refine GoC.seq ?_
        refine GoC.regT [1] (.rd 0 .done) (by kernel_rfl) (by kernel_rfl) ?_
        refine GoR.phaseK [(0, .gen [])] [2, 0, 3] [] [(2, .bool false), (0, .slice (some ⟨ab, ao, none⟩) l.length c), (3, .int .i64 (k : Nat))] (by kernel_rfl) rfl ak0 ?_
        refine GoR.done (GoQ.thn (GoC.ret (GoQ.blkR (GoQ.skipCR (GoQ.skipLR (GoQ.blkR (GoQ.skipCR ?_)))))))
        refine GoQ.done (.inl rfl) (v := .bool false) (fun a hf => results1 rfl (by kernel_rfl) a hf) ?_
        exact ⟨by rw [few_false2 (d := dOp) hk (by simp only [opSum]; omega)], hs6⟩
      · have h8' : ¬ (((((((l.getD k dOp).key).size : Nat) + (((l.getD k dOp).value).size : Nat)) + (((l.getD k dOp).old).size : Nat)) + (((l.getD k dOp).dest).size : Nat) : Int) > 2000) := of_decide_eq_false h8
        refine GoC.skip (GoQ.blkN (GoQ.thn ?_))
        refine GoC.regT [7, 7, 7] (.rd 0 (.rd 1 (.rd 2 .done))) (by kernel_rfl) (by kernel_rfl) ?_
        refine GoR.phaseK [(0, .gen []), (1, .as_ (.int .i64 ((k : Nat) + 1)) (.gen [])), (2, .gen [])] [3, 0] [(1, [.prop (Value.int .i64 (IntKind.i64.wrap ((k : Nat) + 1)) = Value.int .i64 ((k : Nat) + 1))])] [(3, .int .i64 ((k : Nat) + 1)), (0, .slice (some ⟨ab, ao, none⟩) l.length c)] (by kernel_rfl) rfl (ak (okp (i64ok (by omega) (by omega)) ok0) ak0) ?_
        refine GoR.done ?_
        exact GoQ.back (k + 1) [0, 3] (by kernel_rfl) (by omega) ⟨⟨by omega, fun j hj => (Nat.lt_succ_iff_lt_or_eq.1 hj).elim (fun h => hp.2 j h) (fun e => by subst e; simp only [opSum]; omega)⟩, hs6⟩
    · have h4' : ¬ (((k : Nat) : Int) < (l.length : Nat)) := of_decide_eq_false h4
      refine GoC.exit (GoQ.skipC (GoQ.skipL (GoQ.hit (GoQ.thn (GoC.seq ?_)))))
      refine GoC.regT [1] (.rd 0 .done) (by kernel_rfl) (by kernel_rfl) ?_
      refine GoR.phaseK [(0, .gen [])] [2] [] [(2, .bool true)] (by kernel_rfl) rfl ak0 ?_
      refine GoR.done (GoQ.thn (GoC.ret ?_))
      refine GoQ.done (.inl rfl) (v := .bool true) (fun a hf => results1 rfl (by kernel_rfl) a hf) ?_
      exact ⟨by rw [few_true (d := dOp) h150 (fun j hj => hp.2 j (by omega))], hs3⟩
structure ReqV where
  client : Int
  time : Int
  op : OpV
  tag : Vector Int 32
deriving DecidableEq
def ReqV.cells (x : ReqV) : Array Value := #[.int .i64 x.client, .int .u64 x.time, .int .u8 x.op.kind, .string x.op.key, .string x.op.value, .string x.op.old, .string x.op.dest, .int .u64 x.op.amount, .int .u8 x.tag[0], .int .u8 x.tag[1], .int .u8 x.tag[2], .int .u8 x.tag[3], .int .u8 x.tag[4], .int .u8 x.tag[5], .int .u8 x.tag[6], .int .u8 x.tag[7], .int .u8 x.tag[8], .int .u8 x.tag[9], .int .u8 x.tag[10], .int .u8 x.tag[11], .int .u8 x.tag[12], .int .u8 x.tag[13], .int .u8 x.tag[14], .int .u8 x.tag[15], .int .u8 x.tag[16], .int .u8 x.tag[17], .int .u8 x.tag[18], .int .u8 x.tag[19], .int .u8 x.tag[20], .int .u8 x.tag[21], .int .u8 x.tag[22], .int .u8 x.tag[23], .int .u8 x.tag[24], .int .u8 x.tag[25], .int .u8 x.tag[26], .int .u8 x.tag[27], .int .u8 x.tag[28], .int .u8 x.tag[29], .int .u8 x.tag[30], .int .u8 x.tag[31]]
def dReq : ReqV := ⟨0, 0, ⟨0, ⟨#[]⟩, ⟨#[]⟩, ⟨#[]⟩, ⟨#[]⟩, 0⟩, #v[0, 0, 0, 0, 0, 0, 0, 0, 0, 0, 0, 0, 0, 0, 0, 0, 0, 0, 0, 0, 0, 0, 0, 0, 0, 0, 0, 0, 0, 0, 0, 0]⟩
theorem reqF : CellF ReqV.cells 40 := ⟨fun _ => rfl, fun _ => rfl⟩
theorem opsOK : ElemOK Tryz.prog 43 45 6 80 := ⟨by kernel_rfl, ⟨Tryz.t45, .agg #[.int .u8 0, .string ⟨#[]⟩, .string ⟨#[]⟩, .string ⟨#[]⟩, .string ⟨#[]⟩, .int .u64 0], by kernel_rfl, by kernel_rfl, by kernel_rfl, by kernel_rfl, by kernel_rfl⟩, by decide⟩
structure FG where
  k : Nat
  l : List OpV
  ad : Option Addr
  c : Nat
theorem take_op {l : List ReqV} {k : Nat} {d : ReqV} (hk : k < l.length) : (l.take (k + 1)).map (fun r => r.op) = (l.take k).map (fun r => r.op) ++ [(l.getD k d).op] := by
  rw [List.take_succ_eq_append_getElem hk, List.map_append, List.getD_eq_getElem?_getD, List.getElem?_eq_getElem hk]
  rfl
theorem few10_spec {w0 w : World} {L : List Asn} {ad : Option Addr} {c : Nat} (l : List ReqV) (hb : ∀ r ∈ l, Small r.op) (hln : l.length ≤ 1100000000000) (hr : ∀ w, St w0 L w → RowsAt w ad l.length 40 (fun k => ReqV.cells (l.getD k dReq))) (hs : St w0 L w) : Calls Tryz.prog 4 #[.slice ad l.length c] w (Ret fun rv w' => rv = .bool (few (l.map fun r => r.op)) ∧ St w0 L w') := by
  refine enter (args := [.slice ad l.length c]) Tryz.func4 rfl Tryz.ntmps4 (Nat.le_of_ble_eq_true (by kernel_rfl)) ?_
  refine GoC.slots (S' := [(0, .slice ad l.length c)]) rfl ?_
  refine GoC.seq ?_
  refine GoC.regT [1] (.rd 0 .done) (by kernel_rfl) (by kernel_rfl) ?_
  refine GoR.phaseK [(0, .gen [])] [2, 0] [] [(2, .bool false), (0, .slice ad l.length c)] (by kernel_rfl) rfl ak0 ?_
  refine GoR.done (GoQ.thn (GoC.seq ?_))
  refine GoC.regT [1] (.rd 0 .done) (by kernel_rfl) (by kernel_rfl) ?_
  refine GoR.phaseK [(0, .gen [])] [3, 2, 0] [] [(3, .slice none 0 0), (2, .bool false), (0, .slice ad l.length c)] (by kernel_rfl) rfl ak0 ?_
  refine GoR.done (GoQ.thn (GoC.seq (GoC.seq ?_)))
  refine GoC.regT [1] (.rd 0 .done) (by kernel_rfl) (by kernel_rfl) ?_
  refine GoR.phaseK [(0, .gen [])] [4, 3, 2, 0] [] [(4, .int .i64 0), (3, .slice none 0 0), (2, .bool false), (0, .slice ad l.length c)] (by kernel_rfl) rfl ak0 ?_
  refine GoR.done (GoQ.thn (GoC.block ?_))
  refine GoC.loop (T := FG) (fun x => [(0, .slice ad l.length c), (2, .bool false), (3, .slice x.ad x.l.length x.c), (4, .int .i64 (x.k : Nat))]) (fun x w => (x.k ≤ l.length ∧ x.l = (l.take x.k).map (fun r => r.op)) ∧ St w0 ((Sl x.ad x.c 45 6 OpV.cells x.l) :: L) w) (fun x => l.length - x.k) (⟨0, [], none, 0⟩) [0, 2, 3, 4] (by kernel_rfl) ⟨⟨Nat.zero_le _, rfl⟩, (hs.slNil 45 6 OpV.cells)⟩ ?_
  rintro x w1 ⟨hp, hs2⟩
  refine GoC.slots (S' := [(0, .slice ad l.length c), (2, .bool false), (3, .slice x.ad x.l.length x.c), (4, .int .i64 (x.k : Nat))]) rfl ?_
  refine GoC.seq (GoC.seq ?_)
  refine GoC.regT [15, 15, 15, 15] (.rd 0 (.rd 1 (.rd 2 (.rd 3 .done)))) (by kernel_rfl) (by kernel_rfl) ?_
  refine GoR.phaseK [(0, .gen []), (1, .gen []), (2, .gen []), (3, .gen [])] [8, 0, 2, 3, 4] [] [(8, .bool (decide (((x.k : Nat) : Int) < (l.length : Nat)))), (0, .slice ad l.length c), (2, .bool false), (3, .slice x.ad x.l.length x.c), (4, .int .i64 (x.k : Nat))] (by kernel_rfl) rfl ak0 ?_
  refine GoR.done (GoQ.thn ?_)
  refine GoC.cond (t := decide (((x.k : Nat) : Int) < (l.length : Nat))) (by kernel_rfl) (fun h3 => ?_) (fun h3 => ?_)
  · have h3' : ((x.k : Nat) : Int) < (l.length : Nat) := of_decide_eq_true h3
    have hk : x.k < l.length := by omega
    obtain ⟨ab, ao, rfl⟩ := RowsAt.isSome (hr _ (hs2.drop 1)) (by omega)
    refine GoC.skip (GoQ.thn (GoC.seq (GoC.block ?_)))
    refine GoC.regT [511, 511, 511, 511, 511, 511, 511, 511, 511] (.rd 0 (.rd 1 (.rd 2 (.rd 3 (.rd 4 (.rd 5 (.ef 6 (.ef 7 (.rd 8 .done))))))))) (by kernel_rfl) (by kernel_rfl) ?_
    refine GoR.phaseK [(0, .gen []), (1, .gen []), (2, .gen []), (3, .as_ (.pointer (some ⟨ab, ao + (x.k * 40), none⟩)) .at_), (4, .gen []), (5, .agg (OpV.cells ((l.getD x.k dReq).op)))] [16, 11, 0, 2, 3, 4] [(3, [.prop (0 ≤ ((x.k : Nat) : Int) ∧ ((x.k : Nat) : Int) < ((l.length : Nat) : Int)), .prop (Value.pointer (some (Addr.add ⟨ab, ao, none⟩ (Int.toNat (x.k : Nat) * 40))) = Value.pointer (some ⟨ab, ao + (x.k * 40), none⟩))]), (5, [.prop (Array.size (OpV.cells ((l.getD x.k dReq).op)) = 6), .cells ⟨ab, ao + (x.k * 40) + 2, none⟩ (OpV.cells ((l.getD x.k dReq).op))])] [(16, .agg (OpV.cells ((l.getD x.k dReq).op))), (11, .slice x.ad x.l.length x.c), (0, .slice (some ⟨ab, ao, none⟩) l.length c), (2, .bool false), (3, .slice x.ad x.l.length x.c), (4, .int .i64 (x.k : Nat))] (by kernel_rfl) rfl (ak (okp (by omega) (okp (ptrAdd _ _ _) ok0)) (ak (okp (by kernel_rfl) (oka (RowsAt.all (hr _ (hs2.drop 1)) (by first | omega | (simp only [List.length_set]; omega)) (Nat.le_of_ble_eq_true (by kernel_rfl)) (by kernel_rfl)) ok0)) ak0)) ?_
    refine GoR.sliceLit rfl (by kernel_rfl) (t := 43) (e := 45) (n := 1) (ps := [(0, .agg (OpV.cells ((l.getD x.k dReq).op)))]) (by kernel_rfl) (by kernel_rfl) (ti := Tryz.t45) (z := .agg #[.int .u8 0, .string (⟨#[]⟩ : ByteArray), .string (⟨#[]⟩ : ByteArray), .string (⟨#[]⟩ : ByteArray), .string (⟨#[]⟩ : ByteArray), .int .u64 0]) (by kernel_rfl) (by kernel_rfl) (by decide) (by decide) (cs := #[.int .u8 (((l.getD x.k dReq).op).kind), .string (((l.getD x.k dReq).op).key), .string (((l.getD x.k dReq).op).value), .string (((l.getD x.k dReq).op).old), .string (((l.getD x.k dReq).op).dest), .int .u64 (((l.getD x.k dReq).op).amount)]) (by kernel_rfl) hs2 ?_
    intro b4 w5 hs6 hz7
    have hs8 : St w0 ((Sl (some ⟨b4, 0, none⟩) 1 45 6 OpV.cells ([(((l.getD x.k dReq).op) : OpV)])) :: (Sl x.ad x.c 45 6 OpV.cells x.l) :: L) w5 := St.slOf (l := [(((l.getD x.k dReq).op) : OpV)]) (f := OpV.cells) hs6 hz7 (opF).size (by simp only [List.length_cons, List.length_nil, maxLen]; omega) (by kernel_rfl)
    refine ⟨(opn (by kernel_rfl)), ?_⟩
    have hs11 : St w0 ((Sl x.ad x.c 45 6 OpV.cells x.l) :: (Sl (some ⟨b4, 0, none⟩) 1 45 6 OpV.cells ([(((l.getD x.k dReq).op) : OpV)])) :: L) w5 := (hs8.pull 1 rfl)
    refine GoR.append rfl (by kernel_rfl) opsOK opF (ad := x.ad) (c := x.c) (xs := x.l) (ys := [(((l.getD x.k dReq).op) : OpV)]) (adx := some ⟨b4, 0, none⟩) (cx := 1) dOp (by kernel_rfl) hs11 (hs11.rows 1 rfl (opF).size dOp) (fun h => nomatch h) (by have hh : x.l.length ≤ x.k := (by rw [hp.2, List.length_map, List.length_take]; omega); simp only [List.length_cons, List.length_nil]; omega) (by have hh : x.l.length ≤ x.k := (by rw [hp.2, List.length_map, List.length_take]; omega); simp only [List.length_cons, List.length_nil]; omega) ?_
    intro ad12 c13 w9 hs10
    refine ⟨(opn (by kernel_rfl)), ?_⟩
    refine GoR.phaseK [(8, .gen [])] [3, 0, 2, 4] [] [(3, .slice ad12 ((x.l ++ ([(((l.getD x.k dReq).op) : OpV)])).length) c13), (0, .slice (some ⟨ab, ao, none⟩) l.length c), (2, .bool false), (4, .int .i64 (x.k : Nat))] (by kernel_rfl) rfl ak0 ?_
    refine GoR.done (GoQ.blkN (GoQ.thn ?_))
    refine GoC.regT [7, 7, 7] (.rd 0 (.rd 1 (.rd 2 .done))) (by kernel_rfl) (by kernel_rfl) ?_
    refine GoR.phaseK [(0, .gen []), (1, .as_ (.int .i64 ((x.k : Nat) + 1)) (.gen [])), (2, .gen [])] [4, 3, 0, 2] [(1, [.prop (Value.int .i64 (IntKind.i64.wrap ((x.k : Nat) + 1)) = Value.int .i64 ((x.k : Nat) + 1))])] [(4, .int .i64 ((x.k : Nat) + 1)), (3, .slice ad12 ((x.l ++ ([(((l.getD x.k dReq).op) : OpV)])).length) c13), (0, .slice (some ⟨ab, ao, none⟩) l.length c), (2, .bool false)] (by kernel_rfl) rfl (ak (okp (i64ok (by omega) (by omega)) ok0) ak0) ?_
    refine GoR.done ?_
    have hs14 : St w0 ((Sl (some ⟨b4, 0, none⟩) 1 45 6 OpV.cells ([(((l.getD x.k dReq).op) : OpV)])) :: (Sl ad12 c13 45 6 OpV.cells (x.l ++ ([(((l.getD x.k dReq).op) : OpV)]))) :: L) w9 := ((hs10.pull 0 rfl).pull 1 rfl)
    have hs15 : St w0 ((Sl ad12 c13 45 6 OpV.cells (x.l ++ ([(((l.getD x.k dReq).op) : OpV)]))) :: L) w9 := hs14.drop 1
    exact GoQ.back (⟨x.k + 1, x.l ++ ([(((l.getD x.k dReq).op) : OpV)]), ad12, c13⟩) [0, 2, 3, 4] (by kernel_rfl) (by simp only; omega) ⟨(by refine ⟨by simp only; omega, ?_⟩; simp only [hp.2]; exact (take_op hk).symm), hs15⟩
  · have h3' : ¬ (((x.k : Nat) : Int) < (l.length : Nat)) := of_decide_eq_false h3
    have hxl : x.l = l.map (fun r => r.op) := by rw [hp.2, List.take_of_length_le (by omega)]
    refine GoC.exit (GoQ.skipC (GoQ.skipL (GoQ.hit (GoQ.thn (GoC.seq ?_)))))
    refine GoC.regT [7, 7, 7] (.rd 0 (.ef 1 (.rd 2 .done))) (by kernel_rfl) (by kernel_rfl) ?_
    refine GoR.phaseK [(0, .gen [])] [19, 2] [] [(19, .slice x.ad x.l.length x.c), (2, .bool false)] (by kernel_rfl) rfl ak0 ?_
    refine GoR.call rfl rfl (by kernel_rfl) (f := 11) (args := #[.slice x.ad x.l.length x.c]) (by kernel_rfl) Tryz.call11 (few_spec x.l (by rw [hxl]; intro q hq; obtain ⟨r, hr1, rfl⟩ := List.mem_map.1 hq; exact hb r hr1) (by rw [hxl, List.length_map]; omega) (fun w h => h.rows 0 rfl opF.size _) hs2) ?_
    rintro v17 w18 ⟨rfl, hs16⟩
    refine ⟨(opn (by kernel_rfl)), ?_⟩
    refine GoR.phaseK [(2, .gen [])] [2] [] [(2, .bool (few x.l))] (by kernel_rfl) rfl ak0 ?_
    refine GoR.done (GoQ.thn (GoC.ret ?_))
    refine GoQ.done (.inl rfl) (v := .bool (few x.l)) (fun a hf => results1 rfl (by kernel_rfl) a hf) ?_
    exact ⟨by rw [hxl], hs16.drop 1⟩
abbrev OpV.kinds : List FK := [.int .u8, .str, .str, .str, .str, .int .u64]
structure OpV.OK (o : OpV) : Prop where
  kind : 0 ≤ o.kind ∧ o.kind ≤ 255
  key : o.key.size ≤ 140737488351232
  value : o.value.size ≤ 140737488351232
  old : o.old.size ≤ 140737488351232
  dest : o.dest.size ≤ 140737488351232
  amount : 0 ≤ o.amount ∧ o.amount ≤ 18446744073709551615
theorem OpV.of {cs : Array Value} (h : fitsAll OpV.kinds cs.toList) (hw : ∀ s, Value.string s ∈ cs.toList → s.size ≤ 140737488351232) : ∃ o : OpV, OpV.OK o ∧ cs = OpV.cells o := by
  obtain ⟨l⟩ := cs
  simp only at h hw
  obtain ⟨_, r0, rfl, ⟨⟨n0, rfl, w0⟩, -⟩, g0⟩ := fitsAll_cons h
  obtain ⟨_, r1, rfl, ⟨⟨n1, rfl, w1⟩, -⟩, g1⟩ := fitsAll_cons g0
  obtain ⟨_, r2, rfl, ⟨⟨n2, rfl, w2⟩, -⟩, g2⟩ := fitsAll_cons g1
  obtain ⟨_, r3, rfl, ⟨⟨n3, rfl, w3⟩, -⟩, g3⟩ := fitsAll_cons g2
  obtain ⟨_, r4, rfl, ⟨⟨n4, rfl, w4⟩, -⟩, g4⟩ := fitsAll_cons g3
  obtain ⟨_, r5, rfl, ⟨⟨n5, rfl, w5⟩, -⟩, g5⟩ := fitsAll_cons g4
  obtain rfl := fitsAll_nil g5
  exact ⟨⟨n0, n1, n2, n3, n4, n5⟩, ⟨(by have h := wf_u8 w0; exact h), (hw n1 (by simp)), (hw n2 (by simp)), (hw n3 (by simp)), (hw n4 (by simp)), (by have h := wf_u64 w5; exact h)⟩, rfl⟩
abbrev ReqV.kinds : List FK := [.int .i64, .int .u64, .int .u8, .str, .str, .str, .str, .int .u64, .int .u8, .int .u8, .int .u8, .int .u8, .int .u8, .int .u8, .int .u8, .int .u8, .int .u8, .int .u8, .int .u8, .int .u8, .int .u8, .int .u8, .int .u8, .int .u8, .int .u8, .int .u8, .int .u8, .int .u8, .int .u8, .int .u8, .int .u8, .int .u8, .int .u8, .int .u8, .int .u8, .int .u8, .int .u8, .int .u8, .int .u8, .int .u8]
structure ReqV.OK (o : ReqV) : Prop where
  client : -9223372036854775808 ≤ o.client ∧ o.client ≤ 9223372036854775807
  time : 0 ≤ o.time ∧ o.time ≤ 18446744073709551615
  op : OpV.OK o.op
theorem ReqV.of {cs : Array Value} (h : fitsAll ReqV.kinds cs.toList) (hw : ∀ s, Value.string s ∈ cs.toList → s.size ≤ 140737488351232) : ∃ o : ReqV, ReqV.OK o ∧ cs = ReqV.cells o := by
  obtain ⟨l⟩ := cs
  simp only at h hw
  obtain ⟨_, r0, rfl, ⟨⟨n0, rfl, w0⟩, -⟩, g0⟩ := fitsAll_cons h
  obtain ⟨_, r1, rfl, ⟨⟨n1, rfl, w1⟩, -⟩, g1⟩ := fitsAll_cons g0
  obtain ⟨_, r2, rfl, ⟨⟨n2, rfl, w2⟩, -⟩, g2⟩ := fitsAll_cons g1
  obtain ⟨_, r3, rfl, ⟨⟨n3, rfl, w3⟩, -⟩, g3⟩ := fitsAll_cons g2
  obtain ⟨_, r4, rfl, ⟨⟨n4, rfl, w4⟩, -⟩, g4⟩ := fitsAll_cons g3
  obtain ⟨_, r5, rfl, ⟨⟨n5, rfl, w5⟩, -⟩, g5⟩ := fitsAll_cons g4
  obtain ⟨_, r6, rfl, ⟨⟨n6, rfl, w6⟩, -⟩, g6⟩ := fitsAll_cons g5
  obtain ⟨_, r7, rfl, ⟨⟨n7, rfl, w7⟩, -⟩, g7⟩ := fitsAll_cons g6
  obtain ⟨_, r8, rfl, ⟨⟨n8, rfl, w8⟩, -⟩, g8⟩ := fitsAll_cons g7
  obtain ⟨_, r9, rfl, ⟨⟨n9, rfl, w9⟩, -⟩, g9⟩ := fitsAll_cons g8
  obtain ⟨_, r10, rfl, ⟨⟨n10, rfl, w10⟩, -⟩, g10⟩ := fitsAll_cons g9
  obtain ⟨_, r11, rfl, ⟨⟨n11, rfl, w11⟩, -⟩, g11⟩ := fitsAll_cons g10
  obtain ⟨_, r12, rfl, ⟨⟨n12, rfl, w12⟩, -⟩, g12⟩ := fitsAll_cons g11
  obtain ⟨_, r13, rfl, ⟨⟨n13, rfl, w13⟩, -⟩, g13⟩ := fitsAll_cons g12
  obtain ⟨_, r14, rfl, ⟨⟨n14, rfl, w14⟩, -⟩, g14⟩ := fitsAll_cons g13
  obtain ⟨_, r15, rfl, ⟨⟨n15, rfl, w15⟩, -⟩, g15⟩ := fitsAll_cons g14
  obtain ⟨_, r16, rfl, ⟨⟨n16, rfl, w16⟩, -⟩, g16⟩ := fitsAll_cons g15
  obtain ⟨_, r17, rfl, ⟨⟨n17, rfl, w17⟩, -⟩, g17⟩ := fitsAll_cons g16
  obtain ⟨_, r18, rfl, ⟨⟨n18, rfl, w18⟩, -⟩, g18⟩ := fitsAll_cons g17
  obtain ⟨_, r19, rfl, ⟨⟨n19, rfl, w19⟩, -⟩, g19⟩ := fitsAll_cons g18
  obtain ⟨_, r20, rfl, ⟨⟨n20, rfl, w20⟩, -⟩, g20⟩ := fitsAll_cons g19
  obtain ⟨_, r21, rfl, ⟨⟨n21, rfl, w21⟩, -⟩, g21⟩ := fitsAll_cons g20
  obtain ⟨_, r22, rfl, ⟨⟨n22, rfl, w22⟩, -⟩, g22⟩ := fitsAll_cons g21
  obtain ⟨_, r23, rfl, ⟨⟨n23, rfl, w23⟩, -⟩, g23⟩ := fitsAll_cons g22
  obtain ⟨_, r24, rfl, ⟨⟨n24, rfl, w24⟩, -⟩, g24⟩ := fitsAll_cons g23
  obtain ⟨_, r25, rfl, ⟨⟨n25, rfl, w25⟩, -⟩, g25⟩ := fitsAll_cons g24
  obtain ⟨_, r26, rfl, ⟨⟨n26, rfl, w26⟩, -⟩, g26⟩ := fitsAll_cons g25
  obtain ⟨_, r27, rfl, ⟨⟨n27, rfl, w27⟩, -⟩, g27⟩ := fitsAll_cons g26
  obtain ⟨_, r28, rfl, ⟨⟨n28, rfl, w28⟩, -⟩, g28⟩ := fitsAll_cons g27
  obtain ⟨_, r29, rfl, ⟨⟨n29, rfl, w29⟩, -⟩, g29⟩ := fitsAll_cons g28
  obtain ⟨_, r30, rfl, ⟨⟨n30, rfl, w30⟩, -⟩, g30⟩ := fitsAll_cons g29
  obtain ⟨_, r31, rfl, ⟨⟨n31, rfl, w31⟩, -⟩, g31⟩ := fitsAll_cons g30
  obtain ⟨_, r32, rfl, ⟨⟨n32, rfl, w32⟩, -⟩, g32⟩ := fitsAll_cons g31
  obtain ⟨_, r33, rfl, ⟨⟨n33, rfl, w33⟩, -⟩, g33⟩ := fitsAll_cons g32
  obtain ⟨_, r34, rfl, ⟨⟨n34, rfl, w34⟩, -⟩, g34⟩ := fitsAll_cons g33
  obtain ⟨_, r35, rfl, ⟨⟨n35, rfl, w35⟩, -⟩, g35⟩ := fitsAll_cons g34
  obtain ⟨_, r36, rfl, ⟨⟨n36, rfl, w36⟩, -⟩, g36⟩ := fitsAll_cons g35
  obtain ⟨_, r37, rfl, ⟨⟨n37, rfl, w37⟩, -⟩, g37⟩ := fitsAll_cons g36
  obtain ⟨_, r38, rfl, ⟨⟨n38, rfl, w38⟩, -⟩, g38⟩ := fitsAll_cons g37
  obtain ⟨_, r39, rfl, ⟨⟨n39, rfl, w39⟩, -⟩, g39⟩ := fitsAll_cons g38
  obtain rfl := fitsAll_nil g39
  exact ⟨⟨n0, n1, ⟨n2, n3, n4, n5, n6, n7⟩, #v[n8, n9, n10, n11, n12, n13, n14, n15, n16, n17, n18, n19, n20, n21, n22, n23, n24, n25, n26, n27, n28, n29, n30, n31, n32, n33, n34, n35, n36, n37, n38, n39]⟩, ⟨(by have h := wf_i64 w0; exact h), (by have h := wf_u64 w1; exact h), (⟨(by have h := wf_u8 w2; exact h), (hw n3 (by simp)), (hw n4 (by simp)), (hw n5 (by simp)), (hw n6 (by simp)), (by have h := wf_u64 w7; exact h)⟩)⟩, rfl⟩
theorem OpV.OK.small {o : OpV} (h : OpV.OK o) : Small o := by have h1 := h.key; have h2 := h.value; have h3 := h.old; have h4 := h.dest; simp only [Small, opSum]; omega
end Go.Proofs.YtdidpcdnbpmjkaaGreatDoor
