/-
  Flat structs with slices in them; Few at one step. Conditions: none beside each theorem's own.
-/
import Derived.Test.YthdggndldnefpaaGreatDoorProg
import Derived.Test.YthdggndldnefpaaGreatDoorSxT
namespace Go.Proofs.YthdggndldnefpaaGreatDoor
open Go.RowKit Go.Sx
set_option linter.unusedVariables false
set_option linter.unusedSimpArgs false
set_option linter.unnecessarySimpa false
set_option maxRecDepth 100000
structure SlV where
  ad : Option Addr
  n : Nat
  c : Nat
structure OpV where
  kind_ : Int
  key_ : ByteArray
  value_ : ByteArray
  old_ : ByteArray
  to_ : ByteArray
  amount_ : Int
def OpV.cells (o : OpV) : Array Value := #[.int .u8 o.kind_, .string o.key_, .string o.value_, .string o.old_, .string o.to_, .int .u64 o.amount_]
abbrev dOp : OpV := ⟨0, ⟨#[]⟩, ⟨#[]⟩, ⟨#[]⟩, ⟨#[]⟩, 0⟩
theorem opF : CellF OpV.cells 6 := ⟨fun _ => rfl, fun _ => rfl⟩
def opSum (o : OpV) : Nat := o.key_.size + o.value_.size + o.old_.size + o.to_.size
def few (l : List OpV) : Bool := decide (l.length ≤ 150) && l.all fun o => decide (opSum o ≤ 2000)
theorem few_false1 {l : List OpV} (h : ¬ l.length ≤ 150) : few l = false := by simp [few, h]
theorem few_false2 {l : List OpV} {k : Nat} {d : OpV} (hk : k < l.length) (h : 2000 < opSum (l.getD k d)) : few l = false := by
  have h1 : ∃ x ∈ l, 2000 < opSum x := ⟨l[k], List.getElem_mem hk, by simpa [List.getD_eq_getElem?_getD, List.getElem?_eq_getElem hk] using h⟩
  obtain ⟨x, hx, h2⟩ := h1
  have h3 : (l.all fun o => decide (opSum o ≤ 2000)) = false := by
    rw [List.all_eq_false]
    exact ⟨x, hx, by simp; omega⟩
  rw [few, h3, Bool.and_false]
theorem few_true {l : List OpV} {d : OpV} (h1 : l.length ≤ 150) (h : ∀ j, j < l.length → opSum (l.getD j d) ≤ 2000) : few l = true := by
  have h3 : (l.all fun o => decide (opSum o ≤ 2000)) = true := by
    rw [List.all_eq_true]
    intro x hx
    obtain ⟨j, hj, rfl⟩ := List.getElem_of_mem hx
    have := h j hj
    simpa [List.getD_eq_getElem?_getD, List.getElem?_eq_getElem hj] using this
  rw [few, h3, Bool.and_true]
  simpa using h1
def Small (o : OpV) : Prop := opSum o ≤ 1000000000000000
theorem small_getD {l : List OpV} {d : OpV} (h : ∀ o ∈ l, Small o) (k : Nat) (hk : k < l.length) : opSum (l.getD k d) ≤ 1000000000000000 := by
  have : l.getD k d = l[k] := by simp [List.getD_eq_getElem?_getD, List.getElem?_eq_getElem hk]
  rw [this]
  exact h _ (List.getElem_mem hk)
theorem opsOK : ElemOK Tryz.prog 73 24 6 80 := ⟨by kernel_rfl, ⟨Tryz.t24, .agg #[.int .u8 0, .string ⟨#[]⟩, .string ⟨#[]⟩, .string ⟨#[]⟩, .string ⟨#[]⟩, .int .u64 0], by kernel_rfl, by kernel_rfl, by kernel_rfl, by kernel_rfl, by kernel_rfl⟩, by decide⟩
set_option maxHeartbeats 400000 in
theorem few_spec {w0 w : World} {L : List Asn} {ad : Option Addr} {c : Nat} (l : List OpV) (hb : ∀ o ∈ l, Small o) (hln : l.length ≤ 1000000000000000) (hr : ∀ w, St w0 L w → RowsAt w ad l.length 6 (fun k => OpV.cells (l.getD k dOp))) (hs : St w0 L w) : Calls Tryz.prog 23 #[.slice ad l.length c] w (Ret fun rv w' => rv = .bool (few l) ∧ St w0 L w') := by
  refine enter (args := [.slice ad l.length c]) Tryz.func23 rfl Tryz.ntmps23 (Nat.le_of_ble_eq_true (by kernel_rfl)) ?_
  refine GoC.slots (S' := [(0, .slice ad l.length c)]) rfl ?_
  refine GoC.seq ?_
  refine GoC.regT [1] (.rd 0 .done) (by kernel_rfl) (by kernel_rfl) ?_
  refine GoR.phaseK [(0, .gen [])] [2, 0] [] [(2, .bool false), (0, .slice ad l.length c)] (by kernel_rfl) rfl ak0 ?_
  refine GoR.done (GoQ.thn (GoC.seq (GoC.seq ?_)))
  refine GoC.regT [7, 7, 7] (.rd 0 (.rd 1 (.rd 2 .done))) (by kernel_rfl) (by kernel_rfl) ?_
  refine GoR.phaseK [(0, .gen []), (1, .gen []), (2, .gen [])] [6, 2, 0] [] [(6, .bool (decide (((l.length : Nat) : Int) > 150))), (2, .bool false), (0, .slice ad l.length c)] (by kernel_rfl) rfl ak0 ?_
  refine GoR.done (GoQ.thn ?_)
  refine GoC.cond (t := decide (((l.length : Nat) : Int) > 150)) (by kernel_rfl) (fun h1 => ?_) (fun h1 => ?_)
  · have h1' : ((l.length : Nat) : Int) > 150 := of_decide_eq_true h1
    refine GoC.seq ?_
    refine GoC.regT [1] (.rd 0 .done) (by kernel_rfl) (by kernel_rfl) ?_
    refine GoR.phaseK [(0, .gen [])] [2, 0] [] [(2, .bool false), (0, .slice ad l.length c)] (by kernel_rfl) rfl ak0 ?_
    refine GoR.done (GoQ.thn (GoC.ret (GoQ.skipCR ?_)))
    refine GoQ.done (.inl rfl) (v := .bool false) (fun a hf => results1 rfl (by kernel_rfl) a hf) ?_
    exact ⟨by rw [few_false1 (by omega)], hs⟩
  · have h1' : ¬ (((l.length : Nat) : Int) > 150) := of_decide_eq_false h1
    refine GoC.skip (GoQ.thn (GoC.seq (GoC.seq ?_)))
    refine GoC.regT [1] (.rd 0 .done) (by kernel_rfl) (by kernel_rfl) ?_
    refine GoR.phaseK [(0, .gen [])] [3, 2, 0] [] [(3, .int .i64 0), (2, .bool false), (0, .slice ad l.length c)] (by kernel_rfl) rfl ak0 ?_
    refine GoR.done (GoQ.thn (GoC.block ?_))
    have h150 : l.length ≤ 150 := by omega
    refine GoC.loop (T := Nat) (fun k => [(0, .slice ad l.length c), (3, .int .i64 (k : Nat))]) (fun k w => (k ≤ l.length ∧ ∀ j, j < k → opSum (l.getD j dOp) ≤ 2000) ∧ St w0 (L) w) (fun k => l.length - k) (0) [0, 3] (by kernel_rfl) ⟨⟨Nat.zero_le _, fun j hj => absurd hj (Nat.not_lt_zero _)⟩, hs⟩ ?_
    rintro k w2 ⟨hp, hs3⟩
    refine GoC.slots (S' := [(0, .slice ad l.length c), (3, .int .i64 (k : Nat))]) rfl ?_
    refine GoC.seq (GoC.seq ?_)
    refine GoC.regT [15, 15, 15, 15] (.rd 0 (.rd 1 (.rd 2 (.rd 3 .done)))) (by kernel_rfl) (by kernel_rfl) ?_
    refine GoR.phaseK [(0, .gen []), (1, .gen []), (2, .gen []), (3, .gen [])] [10, 0, 3] [] [(10, .bool (decide (((k : Nat) : Int) < (l.length : Nat)))), (0, .slice ad l.length c), (3, .int .i64 (k : Nat))] (by kernel_rfl) rfl ak0 ?_
    refine GoR.done (GoQ.thn ?_)
    refine GoC.cond (t := decide (((k : Nat) : Int) < (l.length : Nat))) (by kernel_rfl) (fun h4 => ?_) (fun h4 => ?_)
    · have h4' : ((k : Nat) : Int) < (l.length : Nat) := of_decide_eq_true h4
      have hk : k < l.length := by omega
      have hsm := small_getD (d := dOp) hb k hk
      simp only [opSum] at hsm
      obtain ⟨ab, ao, rfl⟩ := RowsAt.isSome (hr _ hs3) (by omega)
      refine GoC.skip (GoQ.thn (GoC.seq (GoC.block (GoC.seq ?_))))
      refine GoC.regD [0, 0, 3, 7, 15, 31, 0, 0, 192, 448, 960, 1984, 4095, 0, 0, 24576, 57344, 122880, 253952, 524287, 0, 0, 3145728, 7340032, 15728640, 32505856, 67108863, 134217727] (.rd 0 (.rd 1 (.rd 2 (.rd 3 (.rd 4 (.rd 5 (.rd 6 (.rd 7 (.rd 8 (.rd 9 (.rd 10 (.rd 11 (.rd 12 (.rd 13 (.rd 14 (.rd 15 (.rd 16 (.rd 17 (.rd 18 (.rd 19 (.rd 20 (.rd 21 (.rd 22 (.rd 23 (.rd 24 (.rd 25 (.rd 26 (.rd 27 .done)))))))))))))))))))))))))))) (by kernel_rfl) (by kernel_rfl) noPan_body (by kernel_rfl) hs3 ?_
      intro w5 hs6 hw7
      refine GoR.phaseK [(0, .gen []), (1, .gen []), (2, .as_ (.pointer (some ⟨ab, ao + (k * 6), none⟩)) .at_), (3, .gen []), (4, .gen [.string ((l.getD k dOp).key_)]), (5, .gen []), (6, .gen []), (7, .gen []), (8, .as_ (.pointer (some ⟨ab, ao + (k * 6), none⟩)) .at_), (9, .gen []), (10, .gen [.string ((l.getD k dOp).value_)]), (11, .gen []), (12, .as_ (.int .i64 ((((l.getD k dOp).key_).size : Nat) + (((l.getD k dOp).value_).size : Nat))) (.gen [])), (13, .gen []), (14, .gen []), (15, .as_ (.pointer (some ⟨ab, ao + (k * 6), none⟩)) .at_), (16, .gen []), (17, .gen [.string ((l.getD k dOp).old_)]), (18, .gen []), (19, .as_ (.int .i64 (((((l.getD k dOp).key_).size : Nat) + (((l.getD k dOp).value_).size : Nat)) + (((l.getD k dOp).old_).size : Nat))) (.gen [])), (20, .gen []), (21, .gen []), (22, .as_ (.pointer (some ⟨ab, ao + (k * 6), none⟩)) .at_), (23, .gen []), (24, .gen [.string ((l.getD k dOp).to_)]), (25, .gen []), (26, .as_ (.int .i64 ((((((l.getD k dOp).key_).size : Nat) + (((l.getD k dOp).value_).size : Nat)) + (((l.getD k dOp).old_).size : Nat)) + (((l.getD k dOp).to_).size : Nat))) (.gen [])), (27, .gen [])] [40, 0, 3] [(2, [.prop (0 ≤ ((k : Nat) : Int) ∧ ((k : Nat) : Int) < ((l.length : Nat) : Int)), .prop (Value.pointer (some (Addr.add ⟨ab, ao, none⟩ (Int.toNat (k : Nat) * 6))) = Value.pointer (some ⟨ab, ao + (k * 6), none⟩))]), (4, [.cell ⟨ab, ao + (k * 6) + 1, none⟩ (.string ((l.getD k dOp).key_))]), (8, [.prop (0 ≤ ((k : Nat) : Int) ∧ ((k : Nat) : Int) < ((l.length : Nat) : Int)), .prop (Value.pointer (some (Addr.add ⟨ab, ao, none⟩ (Int.toNat (k : Nat) * 6))) = Value.pointer (some ⟨ab, ao + (k * 6), none⟩))]), (10, [.cell ⟨ab, ao + (k * 6) + 2, none⟩ (.string ((l.getD k dOp).value_))]), (12, [.prop (Value.int .i64 (IntKind.i64.wrap ((((l.getD k dOp).key_).size : Nat) + (((l.getD k dOp).value_).size : Nat))) = Value.int .i64 ((((l.getD k dOp).key_).size : Nat) + (((l.getD k dOp).value_).size : Nat)))]), (15, [.prop (0 ≤ ((k : Nat) : Int) ∧ ((k : Nat) : Int) < ((l.length : Nat) : Int)), .prop (Value.pointer (some (Addr.add ⟨ab, ao, none⟩ (Int.toNat (k : Nat) * 6))) = Value.pointer (some ⟨ab, ao + (k * 6), none⟩))]), (17, [.cell ⟨ab, ao + (k * 6) + 3, none⟩ (.string ((l.getD k dOp).old_))]), (19, [.prop (Value.int .i64 (IntKind.i64.wrap (((((l.getD k dOp).key_).size : Nat) + (((l.getD k dOp).value_).size : Nat)) + (((l.getD k dOp).old_).size : Nat))) = Value.int .i64 (((((l.getD k dOp).key_).size : Nat) + (((l.getD k dOp).value_).size : Nat)) + (((l.getD k dOp).old_).size : Nat)))]), (22, [.prop (0 ≤ ((k : Nat) : Int) ∧ ((k : Nat) : Int) < ((l.length : Nat) : Int)), .prop (Value.pointer (some (Addr.add ⟨ab, ao, none⟩ (Int.toNat (k : Nat) * 6))) = Value.pointer (some ⟨ab, ao + (k * 6), none⟩))]), (24, [.cell ⟨ab, ao + (k * 6) + 4, none⟩ (.string ((l.getD k dOp).to_))]), (26, [.prop (Value.int .i64 (IntKind.i64.wrap ((((((l.getD k dOp).key_).size : Nat) + (((l.getD k dOp).value_).size : Nat)) + (((l.getD k dOp).old_).size : Nat)) + (((l.getD k dOp).to_).size : Nat))) = Value.int .i64 ((((((l.getD k dOp).key_).size : Nat) + (((l.getD k dOp).value_).size : Nat)) + (((l.getD k dOp).old_).size : Nat)) + (((l.getD k dOp).to_).size : Nat)))])] [(40, .bool (decide (((((((l.getD k dOp).key_).size : Nat) + (((l.getD k dOp).value_).size : Nat)) + (((l.getD k dOp).old_).size : Nat)) + (((l.getD k dOp).to_).size : Nat) : Int) > 2000))), (0, .slice (some ⟨ab, ao, none⟩) l.length c), (3, .int .i64 (k : Nat))] (by kernel_rfl) rfl (ak (okp (by omega) (okp (ptrAdd _ _ _) ok0)) (ak (okc (RowsAt.at0 (hr _ hs6) (k := k) (by first | omega | (simp only [List.length_set]; omega) | (simp only [List.length_set, List.length_append, List.length_cons, List.length_nil]; omega)) (j := 1) (by decide) (by kernel_rfl)) ok0) (ak (okp (by omega) (okp (ptrAdd _ _ _) ok0)) (ak (okc (RowsAt.at0 (hr _ hs6) (k := k) (by first | omega | (simp only [List.length_set]; omega) | (simp only [List.length_set, List.length_append, List.length_cons, List.length_nil]; omega)) (j := 2) (by decide) (by kernel_rfl)) ok0) (ak (okp (i64ok (by omega) (by omega)) ok0) (ak (okp (by omega) (okp (ptrAdd _ _ _) ok0)) (ak (okc (RowsAt.at0 (hr _ hs6) (k := k) (by first | omega | (simp only [List.length_set]; omega) | (simp only [List.length_set, List.length_append, List.length_cons, List.length_nil]; omega)) (j := 3) (by decide) (by kernel_rfl)) ok0) (ak (okp (i64ok (by omega) (by omega)) ok0) (ak (okp (by omega) (okp (ptrAdd _ _ _) ok0)) (ak (okc (RowsAt.at0 (hr _ hs6) (k := k) (by first | omega | (simp only [List.length_set]; omega) | (simp only [List.length_set, List.length_append, List.length_cons, List.length_nil]; omega)) (j := 4) (by decide) (by kernel_rfl)) ok0) (ak (okp (i64ok (by omega) (by omega)) ok0) ak0))))))))))) ?_
      refine GoR.done (GoQ.thn ?_)
      refine GoC.cond (t := decide (((((((l.getD k dOp).key_).size : Nat) + (((l.getD k dOp).value_).size : Nat)) + (((l.getD k dOp).old_).size : Nat)) + (((l.getD k dOp).to_).size : Nat) : Int) > 2000)) (by kernel_rfl) (fun h8 => ?_) (fun h8 => ?_)
      · have h8' : ((((((l.getD k dOp).key_).size : Nat) + (((l.getD k dOp).value_).size : Nat)) + (((l.getD k dOp).old_).size : Nat)) + (((l.getD k dOp).to_).size : Nat) : Int) > 2000 := of_decide_eq_true h8
        refine GoC.seq ?_
        refine GoC.regT [1] (.rd 0 .done) (by kernel_rfl) (by kernel_rfl) ?_
        refine GoR.phaseK [(0, .gen [])] [2, 0, 3] [] [(2, .bool false), (0, .slice (some ⟨ab, ao, none⟩) l.length c), (3, .int .i64 (k : Nat))] (by kernel_rfl) rfl ak0 ?_
        refine GoR.done (GoQ.thn (GoC.ret (GoQ.blkR (GoQ.skipCR (GoQ.skipLR (GoQ.blkR (GoQ.skipCR ?_)))))))
        refine GoQ.done (.inl rfl) (v := .bool false) (fun a hf => results1 rfl (by kernel_rfl) a hf) ?_
        exact ⟨by rw [few_false2 (d := dOp) hk (by simp only [opSum]; omega)], hs6⟩
      · have h8' : ¬ (((((((l.getD k dOp).key_).size : Nat) + (((l.getD k dOp).value_).size : Nat)) + (((l.getD k dOp).old_).size : Nat)) + (((l.getD k dOp).to_).size : Nat) : Int) > 2000) := of_decide_eq_false h8
        refine GoC.skip (GoQ.blkN (GoQ.thn ?_))
        refine GoC.regT [7, 7, 7] (.rd 0 (.rd 1 (.rd 2 .done))) (by kernel_rfl) (by kernel_rfl) ?_
        refine GoR.phaseK [(0, .gen []), (1, .as_ (.int .i64 ((k : Nat) + 1)) (.gen [])), (2, .gen [])] [3, 0] [(1, [.prop (Value.int .i64 (IntKind.i64.wrap ((k : Nat) + 1)) = Value.int .i64 ((k : Nat) + 1))])] [(3, .int .i64 ((k : Nat) + 1)), (0, .slice (some ⟨ab, ao, none⟩) l.length c)] (by kernel_rfl) rfl (ak (okp (i64ok (by omega) (by omega)) ok0) ak0) ?_
        refine GoR.done ?_
        exact GoQ.back (k + 1) [0, 3] (by kernel_rfl) (by omega) ⟨⟨by omega, fun j hj => (Nat.lt_succ_iff_lt_or_eq.1 hj).elim (fun h => hp.2 j h) (fun e => by subst e; simp only [opSum]; omega)⟩, hs6⟩
    · have h4' : ¬ (((k : Nat) : Int) < (l.length : Nat)) := of_decide_eq_false h4
      refine GoC.exit (GoQ.skipC (GoQ.skipL (GoQ.hit (GoQ.thn (GoC.seq ?_)))))
      refine GoC.regT [1] (.rd 0 .done) (by kernel_rfl) (by kernel_rfl) ?_
      refine GoR.phaseK [(0, .gen [])] [2] [] [(2, .bool true)] (by kernel_rfl) rfl ak0 ?_
      refine GoR.done (GoQ.thn (GoC.ret ?_))
      refine GoQ.done (.inl rfl) (v := .bool true) (fun a hf => results1 rfl (by kernel_rfl) a hf) ?_
      exact ⟨by rw [few_true (d := dOp) h150 (fun j hj => hp.2 j (by omega))], hs3⟩
structure RqV where
  client_ : Int
  time_ : Int
  op_ : OpV
  tag_ : Vector Int 32
def RqV.cells (o : RqV) : Array Value := #[.int .i64 o.client_, .int .u64 o.time_, .int .u8 o.op_.kind_, .string o.op_.key_, .string o.op_.value_, .string o.op_.old_, .string o.op_.to_, .int .u64 o.op_.amount_, .int .u8 (o.tag_[0]), .int .u8 (o.tag_[1]), .int .u8 (o.tag_[2]), .int .u8 (o.tag_[3]), .int .u8 (o.tag_[4]), .int .u8 (o.tag_[5]), .int .u8 (o.tag_[6]), .int .u8 (o.tag_[7]), .int .u8 (o.tag_[8]), .int .u8 (o.tag_[9]), .int .u8 (o.tag_[10]), .int .u8 (o.tag_[11]), .int .u8 (o.tag_[12]), .int .u8 (o.tag_[13]), .int .u8 (o.tag_[14]), .int .u8 (o.tag_[15]), .int .u8 (o.tag_[16]), .int .u8 (o.tag_[17]), .int .u8 (o.tag_[18]), .int .u8 (o.tag_[19]), .int .u8 (o.tag_[20]), .int .u8 (o.tag_[21]), .int .u8 (o.tag_[22]), .int .u8 (o.tag_[23]), .int .u8 (o.tag_[24]), .int .u8 (o.tag_[25]), .int .u8 (o.tag_[26]), .int .u8 (o.tag_[27]), .int .u8 (o.tag_[28]), .int .u8 (o.tag_[29]), .int .u8 (o.tag_[30]), .int .u8 (o.tag_[31])]
structure BdV where
  kind_ : Int
  view_ : Int
  k_ : Int
  request_ : RqV
  q_ : SlV
  digest_ : Vector Int 32
def BdV.cells (o : BdV) : Array Value := #[.int .u8 o.kind_, .int .u64 o.view_, .int .u64 o.k_, .int .i64 o.request_.client_, .int .u64 o.request_.time_, .int .u8 o.request_.op_.kind_, .string o.request_.op_.key_, .string o.request_.op_.value_, .string o.request_.op_.old_, .string o.request_.op_.to_, .int .u64 o.request_.op_.amount_, .int .u8 (o.request_.tag_[0]), .int .u8 (o.request_.tag_[1]), .int .u8 (o.request_.tag_[2]), .int .u8 (o.request_.tag_[3]), .int .u8 (o.request_.tag_[4]), .int .u8 (o.request_.tag_[5]), .int .u8 (o.request_.tag_[6]), .int .u8 (o.request_.tag_[7]), .int .u8 (o.request_.tag_[8]), .int .u8 (o.request_.tag_[9]), .int .u8 (o.request_.tag_[10]), .int .u8 (o.request_.tag_[11]), .int .u8 (o.request_.tag_[12]), .int .u8 (o.request_.tag_[13]), .int .u8 (o.request_.tag_[14]), .int .u8 (o.request_.tag_[15]), .int .u8 (o.request_.tag_[16]), .int .u8 (o.request_.tag_[17]), .int .u8 (o.request_.tag_[18]), .int .u8 (o.request_.tag_[19]), .int .u8 (o.request_.tag_[20]), .int .u8 (o.request_.tag_[21]), .int .u8 (o.request_.tag_[22]), .int .u8 (o.request_.tag_[23]), .int .u8 (o.request_.tag_[24]), .int .u8 (o.request_.tag_[25]), .int .u8 (o.request_.tag_[26]), .int .u8 (o.request_.tag_[27]), .int .u8 (o.request_.tag_[28]), .int .u8 (o.request_.tag_[29]), .int .u8 (o.request_.tag_[30]), .int .u8 (o.request_.tag_[31]), .slice o.q_.ad o.q_.n o.q_.c, .int .u8 (o.digest_[0]), .int .u8 (o.digest_[1]), .int .u8 (o.digest_[2]), .int .u8 (o.digest_[3]), .int .u8 (o.digest_[4]), .int .u8 (o.digest_[5]), .int .u8 (o.digest_[6]), .int .u8 (o.digest_[7]), .int .u8 (o.digest_[8]), .int .u8 (o.digest_[9]), .int .u8 (o.digest_[10]), .int .u8 (o.digest_[11]), .int .u8 (o.digest_[12]), .int .u8 (o.digest_[13]), .int .u8 (o.digest_[14]), .int .u8 (o.digest_[15]), .int .u8 (o.digest_[16]), .int .u8 (o.digest_[17]), .int .u8 (o.digest_[18]), .int .u8 (o.digest_[19]), .int .u8 (o.digest_[20]), .int .u8 (o.digest_[21]), .int .u8 (o.digest_[22]), .int .u8 (o.digest_[23]), .int .u8 (o.digest_[24]), .int .u8 (o.digest_[25]), .int .u8 (o.digest_[26]), .int .u8 (o.digest_[27]), .int .u8 (o.digest_[28]), .int .u8 (o.digest_[29]), .int .u8 (o.digest_[30]), .int .u8 (o.digest_[31])]
structure MsV where
  origin_ : Int
  number_ : Int
  deps_ : Vector Int 11
  body_ : BdV
  tag_ : Vector Int 32
def MsV.cells (o : MsV) : Array Value := #[.int .i64 o.origin_, .int .u64 o.number_, .int .u64 (o.deps_[0]), .int .u64 (o.deps_[1]), .int .u64 (o.deps_[2]), .int .u64 (o.deps_[3]), .int .u64 (o.deps_[4]), .int .u64 (o.deps_[5]), .int .u64 (o.deps_[6]), .int .u64 (o.deps_[7]), .int .u64 (o.deps_[8]), .int .u64 (o.deps_[9]), .int .u64 (o.deps_[10]), .int .u8 o.body_.kind_, .int .u64 o.body_.view_, .int .u64 o.body_.k_, .int .i64 o.body_.request_.client_, .int .u64 o.body_.request_.time_, .int .u8 o.body_.request_.op_.kind_, .string o.body_.request_.op_.key_, .string o.body_.request_.op_.value_, .string o.body_.request_.op_.old_, .string o.body_.request_.op_.to_, .int .u64 o.body_.request_.op_.amount_, .int .u8 (o.body_.request_.tag_[0]), .int .u8 (o.body_.request_.tag_[1]), .int .u8 (o.body_.request_.tag_[2]), .int .u8 (o.body_.request_.tag_[3]), .int .u8 (o.body_.request_.tag_[4]), .int .u8 (o.body_.request_.tag_[5]), .int .u8 (o.body_.request_.tag_[6]), .int .u8 (o.body_.request_.tag_[7]), .int .u8 (o.body_.request_.tag_[8]), .int .u8 (o.body_.request_.tag_[9]), .int .u8 (o.body_.request_.tag_[10]), .int .u8 (o.body_.request_.tag_[11]), .int .u8 (o.body_.request_.tag_[12]), .int .u8 (o.body_.request_.tag_[13]), .int .u8 (o.body_.request_.tag_[14]), .int .u8 (o.body_.request_.tag_[15]), .int .u8 (o.body_.request_.tag_[16]), .int .u8 (o.body_.request_.tag_[17]), .int .u8 (o.body_.request_.tag_[18]), .int .u8 (o.body_.request_.tag_[19]), .int .u8 (o.body_.request_.tag_[20]), .int .u8 (o.body_.request_.tag_[21]), .int .u8 (o.body_.request_.tag_[22]), .int .u8 (o.body_.request_.tag_[23]), .int .u8 (o.body_.request_.tag_[24]), .int .u8 (o.body_.request_.tag_[25]), .int .u8 (o.body_.request_.tag_[26]), .int .u8 (o.body_.request_.tag_[27]), .int .u8 (o.body_.request_.tag_[28]), .int .u8 (o.body_.request_.tag_[29]), .int .u8 (o.body_.request_.tag_[30]), .int .u8 (o.body_.request_.tag_[31]), .slice o.body_.q_.ad o.body_.q_.n o.body_.q_.c, .int .u8 (o.body_.digest_[0]), .int .u8 (o.body_.digest_[1]), .int .u8 (o.body_.digest_[2]), .int .u8 (o.body_.digest_[3]), .int .u8 (o.body_.digest_[4]), .int .u8 (o.body_.digest_[5]), .int .u8 (o.body_.digest_[6]), .int .u8 (o.body_.digest_[7]), .int .u8 (o.body_.digest_[8]), .int .u8 (o.body_.digest_[9]), .int .u8 (o.body_.digest_[10]), .int .u8 (o.body_.digest_[11]), .int .u8 (o.body_.digest_[12]), .int .u8 (o.body_.digest_[13]), .int .u8 (o.body_.digest_[14]), .int .u8 (o.body_.digest_[15]), .int .u8 (o.body_.digest_[16]), .int .u8 (o.body_.digest_[17]), .int .u8 (o.body_.digest_[18]), .int .u8 (o.body_.digest_[19]), .int .u8 (o.body_.digest_[20]), .int .u8 (o.body_.digest_[21]), .int .u8 (o.body_.digest_[22]), .int .u8 (o.body_.digest_[23]), .int .u8 (o.body_.digest_[24]), .int .u8 (o.body_.digest_[25]), .int .u8 (o.body_.digest_[26]), .int .u8 (o.body_.digest_[27]), .int .u8 (o.body_.digest_[28]), .int .u8 (o.body_.digest_[29]), .int .u8 (o.body_.digest_[30]), .int .u8 (o.body_.digest_[31]), .int .u8 (o.tag_[0]), .int .u8 (o.tag_[1]), .int .u8 (o.tag_[2]), .int .u8 (o.tag_[3]), .int .u8 (o.tag_[4]), .int .u8 (o.tag_[5]), .int .u8 (o.tag_[6]), .int .u8 (o.tag_[7]), .int .u8 (o.tag_[8]), .int .u8 (o.tag_[9]), .int .u8 (o.tag_[10]), .int .u8 (o.tag_[11]), .int .u8 (o.tag_[12]), .int .u8 (o.tag_[13]), .int .u8 (o.tag_[14]), .int .u8 (o.tag_[15]), .int .u8 (o.tag_[16]), .int .u8 (o.tag_[17]), .int .u8 (o.tag_[18]), .int .u8 (o.tag_[19]), .int .u8 (o.tag_[20]), .int .u8 (o.tag_[21]), .int .u8 (o.tag_[22]), .int .u8 (o.tag_[23]), .int .u8 (o.tag_[24]), .int .u8 (o.tag_[25]), .int .u8 (o.tag_[26]), .int .u8 (o.tag_[27]), .int .u8 (o.tag_[28]), .int .u8 (o.tag_[29]), .int .u8 (o.tag_[30]), .int .u8 (o.tag_[31])]
structure PkV where
  from_ : Int
  to_ : Int
  known_ : Vector Int 11
def PkV.cells (mad : Option Addr) (mn mc : Nat) (o : PkV) : Array Value := #[.int .i64 o.from_, .int .i64 o.to_, .int .u64 (o.known_[0]), .int .u64 (o.known_[1]), .int .u64 (o.known_[2]), .int .u64 (o.known_[3]), .int .u64 (o.known_[4]), .int .u64 (o.known_[5]), .int .u64 (o.known_[6]), .int .u64 (o.known_[7]), .int .u64 (o.known_[8]), .int .u64 (o.known_[9]), .int .u64 (o.known_[10]), .slice mad mn mc]
structure RepV where
  err_ : Int
  value_ : ByteArray
def RepV.cells (o : RepV) : Array Value := #[.int .i64 o.err_, .string o.value_]
structure ApV where
  do_ : Int
  client_ : Int
  who_ : Int
  j_ : Int
  k_ : Int
  n_ : Int
  op_ : OpV
  body_ : BdV
  packet_ : PkV
  time_ : Int
  reply_ : RepV
  at_ : Int
  picks_ : SlV
def ApV.cells (mad : Option Addr) (mn mc : Nat) (o : ApV) : Array Value := #[.int .u8 o.do_, .int .i64 o.client_, .int .i64 o.who_, .int .i64 o.j_, .int .i64 o.k_, .int .i64 o.n_, .int .u8 o.op_.kind_, .string o.op_.key_, .string o.op_.value_, .string o.op_.old_, .string o.op_.to_, .int .u64 o.op_.amount_, .int .u8 o.body_.kind_, .int .u64 o.body_.view_, .int .u64 o.body_.k_, .int .i64 o.body_.request_.client_, .int .u64 o.body_.request_.time_, .int .u8 o.body_.request_.op_.kind_, .string o.body_.request_.op_.key_, .string o.body_.request_.op_.value_, .string o.body_.request_.op_.old_, .string o.body_.request_.op_.to_, .int .u64 o.body_.request_.op_.amount_, .int .u8 (o.body_.request_.tag_[0]), .int .u8 (o.body_.request_.tag_[1]), .int .u8 (o.body_.request_.tag_[2]), .int .u8 (o.body_.request_.tag_[3]), .int .u8 (o.body_.request_.tag_[4]), .int .u8 (o.body_.request_.tag_[5]), .int .u8 (o.body_.request_.tag_[6]), .int .u8 (o.body_.request_.tag_[7]), .int .u8 (o.body_.request_.tag_[8]), .int .u8 (o.body_.request_.tag_[9]), .int .u8 (o.body_.request_.tag_[10]), .int .u8 (o.body_.request_.tag_[11]), .int .u8 (o.body_.request_.tag_[12]), .int .u8 (o.body_.request_.tag_[13]), .int .u8 (o.body_.request_.tag_[14]), .int .u8 (o.body_.request_.tag_[15]), .int .u8 (o.body_.request_.tag_[16]), .int .u8 (o.body_.request_.tag_[17]), .int .u8 (o.body_.request_.tag_[18]), .int .u8 (o.body_.request_.tag_[19]), .int .u8 (o.body_.request_.tag_[20]), .int .u8 (o.body_.request_.tag_[21]), .int .u8 (o.body_.request_.tag_[22]), .int .u8 (o.body_.request_.tag_[23]), .int .u8 (o.body_.request_.tag_[24]), .int .u8 (o.body_.request_.tag_[25]), .int .u8 (o.body_.request_.tag_[26]), .int .u8 (o.body_.request_.tag_[27]), .int .u8 (o.body_.request_.tag_[28]), .int .u8 (o.body_.request_.tag_[29]), .int .u8 (o.body_.request_.tag_[30]), .int .u8 (o.body_.request_.tag_[31]), .slice o.body_.q_.ad o.body_.q_.n o.body_.q_.c, .int .u8 (o.body_.digest_[0]), .int .u8 (o.body_.digest_[1]), .int .u8 (o.body_.digest_[2]), .int .u8 (o.body_.digest_[3]), .int .u8 (o.body_.digest_[4]), .int .u8 (o.body_.digest_[5]), .int .u8 (o.body_.digest_[6]), .int .u8 (o.body_.digest_[7]), .int .u8 (o.body_.digest_[8]), .int .u8 (o.body_.digest_[9]), .int .u8 (o.body_.digest_[10]), .int .u8 (o.body_.digest_[11]), .int .u8 (o.body_.digest_[12]), .int .u8 (o.body_.digest_[13]), .int .u8 (o.body_.digest_[14]), .int .u8 (o.body_.digest_[15]), .int .u8 (o.body_.digest_[16]), .int .u8 (o.body_.digest_[17]), .int .u8 (o.body_.digest_[18]), .int .u8 (o.body_.digest_[19]), .int .u8 (o.body_.digest_[20]), .int .u8 (o.body_.digest_[21]), .int .u8 (o.body_.digest_[22]), .int .u8 (o.body_.digest_[23]), .int .u8 (o.body_.digest_[24]), .int .u8 (o.body_.digest_[25]), .int .u8 (o.body_.digest_[26]), .int .u8 (o.body_.digest_[27]), .int .u8 (o.body_.digest_[28]), .int .u8 (o.body_.digest_[29]), .int .u8 (o.body_.digest_[30]), .int .u8 (o.body_.digest_[31]), .int .i64 o.packet_.from_, .int .i64 o.packet_.to_, .int .u64 (o.packet_.known_[0]), .int .u64 (o.packet_.known_[1]), .int .u64 (o.packet_.known_[2]), .int .u64 (o.packet_.known_[3]), .int .u64 (o.packet_.known_[4]), .int .u64 (o.packet_.known_[5]), .int .u64 (o.packet_.known_[6]), .int .u64 (o.packet_.known_[7]), .int .u64 (o.packet_.known_[8]), .int .u64 (o.packet_.known_[9]), .int .u64 (o.packet_.known_[10]), .slice mad mn mc, .int .u64 o.time_, .int .i64 o.reply_.err_, .string o.reply_.value_, .int .u64 o.at_, .slice o.picks_.ad o.picks_.n o.picks_.c]
structure S6V where
  s_ : ApV
  near_ : Bool
def S6V.cells (mad : Option Addr) (mn mc : Nat) (o : S6V) : Array Value := #[.int .u8 o.s_.do_, .int .i64 o.s_.client_, .int .i64 o.s_.who_, .int .i64 o.s_.j_, .int .i64 o.s_.k_, .int .i64 o.s_.n_, .int .u8 o.s_.op_.kind_, .string o.s_.op_.key_, .string o.s_.op_.value_, .string o.s_.op_.old_, .string o.s_.op_.to_, .int .u64 o.s_.op_.amount_, .int .u8 o.s_.body_.kind_, .int .u64 o.s_.body_.view_, .int .u64 o.s_.body_.k_, .int .i64 o.s_.body_.request_.client_, .int .u64 o.s_.body_.request_.time_, .int .u8 o.s_.body_.request_.op_.kind_, .string o.s_.body_.request_.op_.key_, .string o.s_.body_.request_.op_.value_, .string o.s_.body_.request_.op_.old_, .string o.s_.body_.request_.op_.to_, .int .u64 o.s_.body_.request_.op_.amount_, .int .u8 (o.s_.body_.request_.tag_[0]), .int .u8 (o.s_.body_.request_.tag_[1]), .int .u8 (o.s_.body_.request_.tag_[2]), .int .u8 (o.s_.body_.request_.tag_[3]), .int .u8 (o.s_.body_.request_.tag_[4]), .int .u8 (o.s_.body_.request_.tag_[5]), .int .u8 (o.s_.body_.request_.tag_[6]), .int .u8 (o.s_.body_.request_.tag_[7]), .int .u8 (o.s_.body_.request_.tag_[8]), .int .u8 (o.s_.body_.request_.tag_[9]), .int .u8 (o.s_.body_.request_.tag_[10]), .int .u8 (o.s_.body_.request_.tag_[11]), .int .u8 (o.s_.body_.request_.tag_[12]), .int .u8 (o.s_.body_.request_.tag_[13]), .int .u8 (o.s_.body_.request_.tag_[14]), .int .u8 (o.s_.body_.request_.tag_[15]), .int .u8 (o.s_.body_.request_.tag_[16]), .int .u8 (o.s_.body_.request_.tag_[17]), .int .u8 (o.s_.body_.request_.tag_[18]), .int .u8 (o.s_.body_.request_.tag_[19]), .int .u8 (o.s_.body_.request_.tag_[20]), .int .u8 (o.s_.body_.request_.tag_[21]), .int .u8 (o.s_.body_.request_.tag_[22]), .int .u8 (o.s_.body_.request_.tag_[23]), .int .u8 (o.s_.body_.request_.tag_[24]), .int .u8 (o.s_.body_.request_.tag_[25]), .int .u8 (o.s_.body_.request_.tag_[26]), .int .u8 (o.s_.body_.request_.tag_[27]), .int .u8 (o.s_.body_.request_.tag_[28]), .int .u8 (o.s_.body_.request_.tag_[29]), .int .u8 (o.s_.body_.request_.tag_[30]), .int .u8 (o.s_.body_.request_.tag_[31]), .slice o.s_.body_.q_.ad o.s_.body_.q_.n o.s_.body_.q_.c, .int .u8 (o.s_.body_.digest_[0]), .int .u8 (o.s_.body_.digest_[1]), .int .u8 (o.s_.body_.digest_[2]), .int .u8 (o.s_.body_.digest_[3]), .int .u8 (o.s_.body_.digest_[4]), .int .u8 (o.s_.body_.digest_[5]), .int .u8 (o.s_.body_.digest_[6]), .int .u8 (o.s_.body_.digest_[7]), .int .u8 (o.s_.body_.digest_[8]), .int .u8 (o.s_.body_.digest_[9]), .int .u8 (o.s_.body_.digest_[10]), .int .u8 (o.s_.body_.digest_[11]), .int .u8 (o.s_.body_.digest_[12]), .int .u8 (o.s_.body_.digest_[13]), .int .u8 (o.s_.body_.digest_[14]), .int .u8 (o.s_.body_.digest_[15]), .int .u8 (o.s_.body_.digest_[16]), .int .u8 (o.s_.body_.digest_[17]), .int .u8 (o.s_.body_.digest_[18]), .int .u8 (o.s_.body_.digest_[19]), .int .u8 (o.s_.body_.digest_[20]), .int .u8 (o.s_.body_.digest_[21]), .int .u8 (o.s_.body_.digest_[22]), .int .u8 (o.s_.body_.digest_[23]), .int .u8 (o.s_.body_.digest_[24]), .int .u8 (o.s_.body_.digest_[25]), .int .u8 (o.s_.body_.digest_[26]), .int .u8 (o.s_.body_.digest_[27]), .int .u8 (o.s_.body_.digest_[28]), .int .u8 (o.s_.body_.digest_[29]), .int .u8 (o.s_.body_.digest_[30]), .int .u8 (o.s_.body_.digest_[31]), .int .i64 o.s_.packet_.from_, .int .i64 o.s_.packet_.to_, .int .u64 (o.s_.packet_.known_[0]), .int .u64 (o.s_.packet_.known_[1]), .int .u64 (o.s_.packet_.known_[2]), .int .u64 (o.s_.packet_.known_[3]), .int .u64 (o.s_.packet_.known_[4]), .int .u64 (o.s_.packet_.known_[5]), .int .u64 (o.s_.packet_.known_[6]), .int .u64 (o.s_.packet_.known_[7]), .int .u64 (o.s_.packet_.known_[8]), .int .u64 (o.s_.packet_.known_[9]), .int .u64 (o.s_.packet_.known_[10]), .slice mad mn mc, .int .u64 o.s_.time_, .int .i64 o.s_.reply_.err_, .string o.s_.reply_.value_, .int .u64 o.s_.at_, .slice o.s_.picks_.ad o.s_.picks_.n o.s_.picks_.c, .bool o.near_]
abbrev dMs : MsV := ⟨0, 0, #v[0, 0, 0, 0, 0, 0, 0, 0, 0, 0, 0], ⟨0, 0, 0, ⟨0, 0, ⟨0, ⟨#[]⟩, ⟨#[]⟩, ⟨#[]⟩, ⟨#[]⟩, 0⟩, #v[0, 0, 0, 0, 0, 0, 0, 0, 0, 0, 0, 0, 0, 0, 0, 0, 0, 0, 0, 0, 0, 0, 0, 0, 0, 0, 0, 0, 0, 0, 0, 0]⟩, ⟨none, 0, 0⟩, #v[0, 0, 0, 0, 0, 0, 0, 0, 0, 0, 0, 0, 0, 0, 0, 0, 0, 0, 0, 0, 0, 0, 0, 0, 0, 0, 0, 0, 0, 0, 0, 0]⟩, #v[0, 0, 0, 0, 0, 0, 0, 0, 0, 0, 0, 0, 0, 0, 0, 0, 0, 0, 0, 0, 0, 0, 0, 0, 0, 0, 0, 0, 0, 0, 0, 0]⟩
abbrev dS6 : S6V := ⟨⟨0, 0, 0, 0, 0, 0, ⟨0, ⟨#[]⟩, ⟨#[]⟩, ⟨#[]⟩, ⟨#[]⟩, 0⟩, ⟨0, 0, 0, ⟨0, 0, ⟨0, ⟨#[]⟩, ⟨#[]⟩, ⟨#[]⟩, ⟨#[]⟩, 0⟩, #v[0, 0, 0, 0, 0, 0, 0, 0, 0, 0, 0, 0, 0, 0, 0, 0, 0, 0, 0, 0, 0, 0, 0, 0, 0, 0, 0, 0, 0, 0, 0, 0]⟩, ⟨none, 0, 0⟩, #v[0, 0, 0, 0, 0, 0, 0, 0, 0, 0, 0, 0, 0, 0, 0, 0, 0, 0, 0, 0, 0, 0, 0, 0, 0, 0, 0, 0, 0, 0, 0, 0]⟩, ⟨0, 0, #v[0, 0, 0, 0, 0, 0, 0, 0, 0, 0, 0]⟩, 0, ⟨0, ⟨#[]⟩⟩, 0, ⟨none, 0, 0⟩⟩, false⟩
theorem msF : CellF MsV.cells 121 := ⟨fun _ => rfl, fun _ => rfl⟩
theorem s6F (mad : Option Addr) (mn mc : Nat) : CellF (S6V.cells mad mn mc) 108 := ⟨fun _ => rfl, fun _ => rfl⟩
theorem mssOK : ElemOK Tryz.prog 33 55 121 344 := ⟨by kernel_rfl, ⟨Tryz.t55, .agg #[.int .i64 0, .int .u64 0, .int .u64 0, .int .u64 0, .int .u64 0, .int .u64 0, .int .u64 0, .int .u64 0, .int .u64 0, .int .u64 0, .int .u64 0, .int .u64 0, .int .u64 0, .int .u8 0, .int .u64 0, .int .u64 0, .int .i64 0, .int .u64 0, .int .u8 0, .string ⟨#[]⟩, .string ⟨#[]⟩, .string ⟨#[]⟩, .string ⟨#[]⟩, .int .u64 0, .int .u8 0, .int .u8 0, .int .u8 0, .int .u8 0, .int .u8 0, .int .u8 0, .int .u8 0, .int .u8 0, .int .u8 0, .int .u8 0, .int .u8 0, .int .u8 0, .int .u8 0, .int .u8 0, .int .u8 0, .int .u8 0, .int .u8 0, .int .u8 0, .int .u8 0, .int .u8 0, .int .u8 0, .int .u8 0, .int .u8 0, .int .u8 0, .int .u8 0, .int .u8 0, .int .u8 0, .int .u8 0, .int .u8 0, .int .u8 0, .int .u8 0, .int .u8 0, .slice none 0 0, .int .u8 0, .int .u8 0, .int .u8 0, .int .u8 0, .int .u8 0, .int .u8 0, .int .u8 0, .int .u8 0, .int .u8 0, .int .u8 0, .int .u8 0, .int .u8 0, .int .u8 0, .int .u8 0, .int .u8 0, .int .u8 0, .int .u8 0, .int .u8 0, .int .u8 0, .int .u8 0, .int .u8 0, .int .u8 0, .int .u8 0, .int .u8 0, .int .u8 0, .int .u8 0, .int .u8 0, .int .u8 0, .int .u8 0, .int .u8 0, .int .u8 0, .int .u8 0, .int .u8 0, .int .u8 0, .int .u8 0, .int .u8 0, .int .u8 0, .int .u8 0, .int .u8 0, .int .u8 0, .int .u8 0, .int .u8 0, .int .u8 0, .int .u8 0, .int .u8 0, .int .u8 0, .int .u8 0, .int .u8 0, .int .u8 0, .int .u8 0, .int .u8 0, .int .u8 0, .int .u8 0, .int .u8 0, .int .u8 0, .int .u8 0, .int .u8 0, .int .u8 0, .int .u8 0, .int .u8 0, .int .u8 0, .int .u8 0, .int .u8 0, .int .u8 0], by kernel_rfl, by kernel_rfl, by kernel_rfl, by kernel_rfl, by kernel_rfl⟩, by decide⟩
theorem s6sOK : ElemOK Tryz.prog 45 44 108 536 := ⟨by kernel_rfl, ⟨Tryz.t44, .agg #[.int .u8 0, .int .i64 0, .int .i64 0, .int .i64 0, .int .i64 0, .int .i64 0, .int .u8 0, .string ⟨#[]⟩, .string ⟨#[]⟩, .string ⟨#[]⟩, .string ⟨#[]⟩, .int .u64 0, .int .u8 0, .int .u64 0, .int .u64 0, .int .i64 0, .int .u64 0, .int .u8 0, .string ⟨#[]⟩, .string ⟨#[]⟩, .string ⟨#[]⟩, .string ⟨#[]⟩, .int .u64 0, .int .u8 0, .int .u8 0, .int .u8 0, .int .u8 0, .int .u8 0, .int .u8 0, .int .u8 0, .int .u8 0, .int .u8 0, .int .u8 0, .int .u8 0, .int .u8 0, .int .u8 0, .int .u8 0, .int .u8 0, .int .u8 0, .int .u8 0, .int .u8 0, .int .u8 0, .int .u8 0, .int .u8 0, .int .u8 0, .int .u8 0, .int .u8 0, .int .u8 0, .int .u8 0, .int .u8 0, .int .u8 0, .int .u8 0, .int .u8 0, .int .u8 0, .int .u8 0, .slice none 0 0, .int .u8 0, .int .u8 0, .int .u8 0, .int .u8 0, .int .u8 0, .int .u8 0, .int .u8 0, .int .u8 0, .int .u8 0, .int .u8 0, .int .u8 0, .int .u8 0, .int .u8 0, .int .u8 0, .int .u8 0, .int .u8 0, .int .u8 0, .int .u8 0, .int .u8 0, .int .u8 0, .int .u8 0, .int .u8 0, .int .u8 0, .int .u8 0, .int .u8 0, .int .u8 0, .int .u8 0, .int .u8 0, .int .u8 0, .int .u8 0, .int .u8 0, .int .u8 0, .int .i64 0, .int .i64 0, .int .u64 0, .int .u64 0, .int .u64 0, .int .u64 0, .int .u64 0, .int .u64 0, .int .u64 0, .int .u64 0, .int .u64 0, .int .u64 0, .int .u64 0, .slice none 0 0, .int .u64 0, .int .i64 0, .string ⟨#[]⟩, .int .u64 0, .slice none 0 0, .bool false], by kernel_rfl, by kernel_rfl, by kernel_rfl, by kernel_rfl, by kernel_rfl⟩, by decide⟩
structure G26 where
  k : Nat
  l : List OpV
  ad : Option Addr
  c : Nat
set_option maxHeartbeats 4000000 in
theorem few26_spec {w0 w : World} {L : List Asn} {ad mad : Option Addr} {c mc : Nat} (x : ApV) (near : Bool) (ms : List MsV) (hsm : Small x.op_) (hsm2 : Small x.body_.request_.op_) (hr : ∀ w, St w0 L w → RowsAt w ad 1 108 (fun k => S6V.cells mad ms.length mc ([⟨x, near⟩].getD k dS6))) (hm : ∀ w, St w0 L w → RowsAt w mad ms.length 121 (fun k => MsV.cells (ms.getD k dMs))) (hs : St w0 L w) : Calls Tryz.prog 5 #[.slice ad 1 c, .int .i64 1] w (Ret fun rv w' => ∃ b : Bool, rv = .bool b ∧ St w0 L w') := by
  refine enter (args := [.slice ad 1 c, .int .i64 1]) Tryz.func5 rfl Tryz.ntmps5 (Nat.le_of_ble_eq_true (by kernel_rfl)) ?_
  refine GoC.slots (S' := [(0, .slice ad 1 c), (1, .int .i64 1)]) rfl ?_
  refine GoC.seq ?_
  refine GoC.regT [1] (.rd 0 .done) (by kernel_rfl) (by kernel_rfl) ?_
  refine GoR.phaseK [(0, .gen [])] [4, 0, 1] [] [(4, .bool false), (0, .slice ad 1 c), (1, .int .i64 1)] (by kernel_rfl) rfl ak0 ?_
  refine GoR.done (GoQ.thn (GoC.seq (GoC.seq ?_)))
  refine GoC.regT [15, 15, 15, 15] (.rd 0 (.rd 1 (.rd 2 (.rd 3 .done)))) (by kernel_rfl) (by kernel_rfl) ?_
  refine GoR.phaseK [(0, .gen []), (1, .gen []), (2, .gen []), (3, .gen [])] [12, 4, 0] [] [(12, .bool (decide (((1 : Nat) : Int) > 1))), (4, .bool false), (0, .slice ad 1 c)] (by kernel_rfl) rfl ak0 ?_
  refine GoR.done (GoQ.thn ?_)
  refine GoC.cond (t := decide (((1 : Nat) : Int) > 1)) (by kernel_rfl) (fun h1 => ?_) (fun h1 => ?_)
  · have h1' : ((1 : Nat) : Int) > 1 := of_decide_eq_true h1
    refine GoC.seq ?_
    refine GoC.regT [1] (.rd 0 .done) (by kernel_rfl) (by kernel_rfl) ?_
    refine GoR.phaseK [(0, .gen [])] [4, 0] [] [(4, .bool false), (0, .slice ad 1 c)] (by kernel_rfl) rfl ak0 ?_
    refine GoR.done (GoQ.thn (GoC.ret (GoQ.skipCR ?_)))
    refine GoQ.done (.inl rfl) (v := .bool false) (fun a hf => results1 rfl (by kernel_rfl) a hf) ?_
    exact ⟨_, rfl, hs.drop 0⟩
  · have h1' : ¬ (((1 : Nat) : Int) > 1) := of_decide_eq_false h1
    refine GoC.skip (GoQ.thn (GoC.seq ?_))
    refine GoC.regT [1] (.rd 0 .done) (by kernel_rfl) (by kernel_rfl) ?_
    refine GoR.phaseK [(0, .gen [])] [5, 4, 0] [] [(5, .slice none 0 0), (4, .bool false), (0, .slice ad 1 c)] (by kernel_rfl) rfl ak0 ?_
    refine GoR.done (GoQ.thn (GoC.seq (GoC.seq ?_)))
    refine GoC.regT [1] (.rd 0 .done) (by kernel_rfl) (by kernel_rfl) ?_
    refine GoR.phaseK [(0, .gen [])] [6, 5, 4, 0] [] [(6, .int .i64 0), (5, .slice none 0 0), (4, .bool false), (0, .slice ad 1 c)] (by kernel_rfl) rfl ak0 ?_
    refine GoR.done (GoQ.thn (GoC.block ?_))
    refine GoC.loop (T := G26) (fun g => [(0, .slice ad 1 c), (5, .slice g.ad g.l.length g.c), (6, .int .i64 (g.k : Nat))]) (fun g w => (g.k ≤ 1 ∧ g.l.length = 2 * g.k ∧ ∀ q ∈ g.l, Small q) ∧ St w0 ((Sl g.ad g.c 24 6 OpV.cells g.l) :: L) w) (fun g => 1 - g.k) (⟨0, [], none, 0⟩) [0, 5, 6] (by kernel_rfl) ⟨⟨Nat.zero_le _, rfl, fun q hq => by cases hq⟩, (hs.slNil 24 6 OpV.cells)⟩ ?_
    rintro g w2 ⟨hp, hs3⟩
    refine GoC.slots (S' := [(0, .slice ad 1 c), (5, .slice g.ad g.l.length g.c), (6, .int .i64 (g.k : Nat))]) rfl ?_
    refine GoC.seq (GoC.seq ?_)
    refine GoC.regT [15, 15, 15, 15] (.rd 0 (.rd 1 (.rd 2 (.rd 3 .done)))) (by kernel_rfl) (by kernel_rfl) ?_
    refine GoR.phaseK [(0, .gen []), (1, .gen []), (2, .gen []), (3, .gen [])] [16, 0, 5, 6] [] [(16, .bool (decide (((g.k : Nat) : Int) < (1 : Nat)))), (0, .slice ad 1 c), (5, .slice g.ad g.l.length g.c), (6, .int .i64 (g.k : Nat))] (by kernel_rfl) rfl ak0 ?_
    refine GoR.done (GoQ.thn ?_)
    refine GoC.cond (t := decide (((g.k : Nat) : Int) < (1 : Nat))) (by kernel_rfl) (fun h4 => ?_) (fun h4 => ?_)
    · have h4' : ((g.k : Nat) : Int) < (1 : Nat) := of_decide_eq_true h4
      have hk : g.k = 0 := by omega
      have he : [⟨x, near⟩].getD g.k dS6 = (⟨x, near⟩ : S6V) := by rw [hk]; rfl
      obtain ⟨bb, bo, rfl⟩ := RowsAt.isSome (hr _ (hs3.drop 1)) (by omega)
      refine GoC.skip (GoQ.thn (GoC.seq (GoC.block (GoC.seq ?_))))
      refine GoC.regT [127, 127, 127, 127, 127, 127, 127] (.rd 0 (.rd 1 (.rd 2 (.rd 3 (.rd 4 (.ef 5 (.ef 6 .done))))))) (by kernel_rfl) (by kernel_rfl) ?_
      refine GoR.phaseK [(0, .gen []), (1, .gen []), (2, .as_ (.pointer (some ⟨bb, bo + (g.k * 108), none⟩)) .at_), (3, .gen []), (4, .agg (ApV.cells mad ms.length mc ((([⟨x, near⟩]).getD g.k dS6).s_)))] [23, 0, 5, 6] [(2, [.prop (0 ≤ ((g.k : Nat) : Int) ∧ ((g.k : Nat) : Int) < (1 : Int)), .prop (Value.pointer (some (Addr.add ⟨bb, bo, none⟩ (Int.toNat (g.k : Nat) * 108))) = Value.pointer (some ⟨bb, bo + (g.k * 108), none⟩))]), (4, [.prop (Array.size (ApV.cells mad ms.length mc ((([⟨x, near⟩]).getD g.k dS6).s_)) = 107), .cells ⟨bb, bo + (g.k * 108), none⟩ (ApV.cells mad ms.length mc ((([⟨x, near⟩]).getD g.k dS6).s_))])] [(23, .agg (ApV.cells mad ms.length mc ((([⟨x, near⟩]).getD g.k dS6).s_))), (0, .slice (some ⟨bb, bo, none⟩) 1 c), (5, .slice g.ad g.l.length g.c), (6, .int .i64 (g.k : Nat))] (by kernel_rfl) rfl (ak (okp (by omega) (okp (ptrAdd _ _ _) ok0)) (ak (okp (by kernel_rfl) (oka (RowsAt.all0 (hr _ (hs3.drop 1)) (by first | omega | (simp only [List.length_set]; omega) | (simp only [List.length_set, List.length_append, List.length_cons, List.length_nil]; omega)) (Nat.le_of_ble_eq_true (by kernel_rfl)) (by kernel_rfl)) ok0)) ak0)) ?_
      refine GoR.alloc rfl rfl (by kernel_rfl) (z := .agg #[.int .u8 0, .int .i64 0, .int .i64 0, .int .i64 0, .int .i64 0, .int .i64 0, .int .u8 0, .string (⟨#[]⟩ : ByteArray), .string (⟨#[]⟩ : ByteArray), .string (⟨#[]⟩ : ByteArray), .string (⟨#[]⟩ : ByteArray), .int .u64 0, .int .u8 0, .int .u64 0, .int .u64 0, .int .i64 0, .int .u64 0, .int .u8 0, .string (⟨#[]⟩ : ByteArray), .string (⟨#[]⟩ : ByteArray), .string (⟨#[]⟩ : ByteArray), .string (⟨#[]⟩ : ByteArray), .int .u64 0, .int .u8 0, .int .u8 0, .int .u8 0, .int .u8 0, .int .u8 0, .int .u8 0, .int .u8 0, .int .u8 0, .int .u8 0, .int .u8 0, .int .u8 0, .int .u8 0, .int .u8 0, .int .u8 0, .int .u8 0, .int .u8 0, .int .u8 0, .int .u8 0, .int .u8 0, .int .u8 0, .int .u8 0, .int .u8 0, .int .u8 0, .int .u8 0, .int .u8 0, .int .u8 0, .int .u8 0, .int .u8 0, .int .u8 0, .int .u8 0, .int .u8 0, .int .u8 0, .slice none 0 0, .int .u8 0, .int .u8 0, .int .u8 0, .int .u8 0, .int .u8 0, .int .u8 0, .int .u8 0, .int .u8 0, .int .u8 0, .int .u8 0, .int .u8 0, .int .u8 0, .int .u8 0, .int .u8 0, .int .u8 0, .int .u8 0, .int .u8 0, .int .u8 0, .int .u8 0, .int .u8 0, .int .u8 0, .int .u8 0, .int .u8 0, .int .u8 0, .int .u8 0, .int .u8 0, .int .u8 0, .int .u8 0, .int .u8 0, .int .u8 0, .int .u8 0, .int .u8 0, .int .i64 0, .int .i64 0, .int .u64 0, .int .u64 0, .int .u64 0, .int .u64 0, .int .u64 0, .int .u64 0, .int .u64 0, .int .u64 0, .int .u64 0, .int .u64 0, .int .u64 0, .slice none 0 0, .int .u64 0, .int .i64 0, .string (⟨#[]⟩ : ByteArray), .int .u64 0, .slice none 0 0]) (by kernel_rfl) hs3 (cs := #[.int .u8 0, .int .i64 0, .int .i64 0, .int .i64 0, .int .i64 0, .int .i64 0, .int .u8 0, .string (⟨#[]⟩ : ByteArray), .string (⟨#[]⟩ : ByteArray), .string (⟨#[]⟩ : ByteArray), .string (⟨#[]⟩ : ByteArray), .int .u64 0, .int .u8 0, .int .u64 0, .int .u64 0, .int .i64 0, .int .u64 0, .int .u8 0, .string (⟨#[]⟩ : ByteArray), .string (⟨#[]⟩ : ByteArray), .string (⟨#[]⟩ : ByteArray), .string (⟨#[]⟩ : ByteArray), .int .u64 0, .int .u8 0, .int .u8 0, .int .u8 0, .int .u8 0, .int .u8 0, .int .u8 0, .int .u8 0, .int .u8 0, .int .u8 0, .int .u8 0, .int .u8 0, .int .u8 0, .int .u8 0, .int .u8 0, .int .u8 0, .int .u8 0, .int .u8 0, .int .u8 0, .int .u8 0, .int .u8 0, .int .u8 0, .int .u8 0, .int .u8 0, .int .u8 0, .int .u8 0, .int .u8 0, .int .u8 0, .int .u8 0, .int .u8 0, .int .u8 0, .int .u8 0, .int .u8 0, .slice none 0 0, .int .u8 0, .int .u8 0, .int .u8 0, .int .u8 0, .int .u8 0, .int .u8 0, .int .u8 0, .int .u8 0, .int .u8 0, .int .u8 0, .int .u8 0, .int .u8 0, .int .u8 0, .int .u8 0, .int .u8 0, .int .u8 0, .int .u8 0, .int .u8 0, .int .u8 0, .int .u8 0, .int .u8 0, .int .u8 0, .int .u8 0, .int .u8 0, .int .u8 0, .int .u8 0, .int .u8 0, .int .u8 0, .int .u8 0, .int .u8 0, .int .u8 0, .int .u8 0, .int .i64 0, .int .i64 0, .int .u64 0, .int .u64 0, .int .u64 0, .int .u64 0, .int .u64 0, .int .u64 0, .int .u64 0, .int .u64 0, .int .u64 0, .int .u64 0, .int .u64 0, .slice none 0 0, .int .u64 0, .int .i64 0, .string (⟨#[]⟩ : ByteArray), .int .u64 0, .slice none 0 0]) (by kernel_rfl) ?_
      intro b5 w6 hs7
      refine ⟨(opn (by kernel_rfl)), ?_⟩
      refine GoR.store rfl rfl (by kernel_rfl) (b := b5) (off := 0) (v := .agg (ApV.cells mad ms.length mc ((([⟨x, near⟩]).getD g.k dS6).s_))) (by kernel_rfl) (by kernel_rfl) (ti := Tryz.t41) (by kernel_rfl) hs7 0 rfl (by kernel_rfl) (by kernel_rfl) (Nat.le_of_ble_eq_true (by kernel_rfl)) (cs' := ApV.cells mad ms.length mc ((([⟨x, near⟩]).getD g.k dS6).s_)) (L' := (Cel b5 (ApV.cells mad ms.length mc ((([⟨x, near⟩]).getD g.k dS6).s_)) 41) :: (Sl g.ad g.c 24 6 OpV.cells g.l) :: L) (by kernel_rfl) rfl ?_
      intro w8 hs9
      refine ⟨(opn (by kernel_rfl)), ?_⟩
      refine GoR.done (GoQ.thn (GoC.seq (GoC.seq ?_)))
      refine GoC.join (T := Unit) (E := fun _ => [(48, .bool ((((decide ((((((([⟨x, near⟩]).getD g.k dS6).s_).body_).q_.n : Nat) : Int) > 20)) || (decide (((ms.length : Nat) : Int) > 20))) || (decide (((((([⟨x, near⟩]).getD g.k dS6).s_).picks_.n : Nat) : Int) > 60))) || (decide (((((((([⟨x, near⟩]).getD g.k dS6).s_).reply_).value_).size : Nat) : Int) > 1000)))), (7, .pointer (some ⟨b5, 0, none⟩)), (0, .slice (some ⟨bb, bo, none⟩) 1 c), (5, .slice g.ad g.l.length g.c), (6, .int .i64 (g.k : Nat))]) (F := fun _ w => St w0 ((Cel b5 (ApV.cells mad ms.length mc ((([⟨x, near⟩]).getD g.k dS6).s_)) 41) :: (Sl g.ad g.c 24 6 OpV.cells g.l) :: L) w) ?_ ?_
      · refine GoC.regT [33554431, 33554431, 33554431, 33554431, 33554431, 33554431, 33554431, 33554431, 33554431, 33554431, 33554431, 33554431, 33554431, 33554431, 33554431, 33554431, 33554431, 33554431, 33554431, 33554431, 33554431, 33554431, 33554431, 33554431, 33554431] (.rd 0 (.rd 1 (.rd 2 (.rd 3 (.rd 4 (.rd 5 (.rd 6 (.rd 7 (.rd 8 (.rd 9 (.rd 10 (.rd 11 (.rd 12 (.rd 13 (.rd 14 (.rd 15 (.rd 16 (.rd 17 (.rd 18 (.rd 19 (.rd 20 (.rd 21 (.rd 22 (.rd 23 (.rd 24 .done))))))))))))))))))))))))) (by kernel_rfl) (by kernel_rfl) ?_
        refine GoR.phaseK [(0, .gen []), (1, .gen []), (2, .gen [.slice ((((([⟨x, near⟩]).getD g.k dS6).s_).body_).q_.ad) ((((([⟨x, near⟩]).getD g.k dS6).s_).body_).q_.n) ((((([⟨x, near⟩]).getD g.k dS6).s_).body_).q_.c)]), (3, .gen []), (4, .gen []), (5, .gen [])] [29, 7, 0, 5, 6] [(2, [.cell ⟨b5, 55, none⟩ (.slice ((((([⟨x, near⟩]).getD g.k dS6).s_).body_).q_.ad) ((((([⟨x, near⟩]).getD g.k dS6).s_).body_).q_.n) ((((([⟨x, near⟩]).getD g.k dS6).s_).body_).q_.c))])] [(29, .bool (decide ((((((([⟨x, near⟩]).getD g.k dS6).s_).body_).q_.n : Nat) : Int) > 20))), (7, .pointer (some ⟨b5, 0, none⟩)), (0, .slice (some ⟨bb, bo, none⟩) 1 c), (5, .slice g.ad g.l.length g.c), (6, .int .i64 (g.k : Nat))] (by kernel_rfl) rfl (ak (okc (hs9.cell 0 rfl (by kernel_rfl)) ok0) ak0) ?_
        rcases Bool.eq_false_or_eq_true (decide ((((((([⟨x, near⟩]).getD g.k dS6).s_).body_).q_.n : Nat) : Int) > 20)) with h10 | h10
        · refine GoR.setB 29 true (by decide) (by kernel_rfl) h10 ?_
          have h10' : (((((([⟨x, near⟩]).getD g.k dS6).s_).body_).q_.n : Nat) : Int) > 20 := of_decide_eq_true h10
          refine GoR.phaseK [(6, .gen []), (7, .gen []), (8, .gen []), (9, .gen []), (10, .gen []), (11, .gen []), (12, .gen []), (13, .gen []), (14, .gen []), (15, .gen []), (16, .gen []), (17, .gen []), (18, .gen []), (19, .gen []), (20, .gen []), (21, .gen []), (22, .gen []), (23, .gen []), (24, .gen [])] [48, 7, 0, 5, 6] [] [(48, .bool true), (7, .pointer (some ⟨b5, 0, none⟩)), (0, .slice (some ⟨bb, bo, none⟩) 1 c), (5, .slice g.ad g.l.length g.c), (6, .int .i64 (g.k : Nat))] (by kernel_rfl) rfl ak0 ?_
          refine GoR.done ?_
          refine GoQ.pick [48, 7, 0, 5, 6] (S' := [(48, .bool true), (7, .pointer (some ⟨b5, 0, none⟩)), (0, .slice (some ⟨bb, bo, none⟩) 1 c), (5, .slice g.ad g.l.length g.c), (6, .int .i64 (g.k : Nat))]) (by kernel_rfl) ?_
          exact GoQ.meet1 () (by first | rfl | (simp only [h10, Bool.not_true, Bool.not_false, Bool.true_or, Bool.false_or, Bool.true_and, Bool.false_and, Bool.or_true, Bool.or_false, Bool.and_true, Bool.and_false]; done) | (simp [h10]; done)) hs9
        · refine GoR.setB 29 false (by decide) (by kernel_rfl) h10 ?_
          have h10' : ¬ ((((((([⟨x, near⟩]).getD g.k dS6).s_).body_).q_.n : Nat) : Int) > 20) := of_decide_eq_false h10
          refine GoR.phaseK [(6, .gen []), (7, .gen []), (8, .gen [.slice mad ms.length mc]), (9, .gen []), (10, .gen []), (11, .gen []), (12, .gen [])] [36, 7, 0, 5, 6] [(8, [.cell ⟨b5, 101, none⟩ (.slice mad ms.length mc)])] [(36, .bool (decide (((ms.length : Nat) : Int) > 20))), (7, .pointer (some ⟨b5, 0, none⟩)), (0, .slice (some ⟨bb, bo, none⟩) 1 c), (5, .slice g.ad g.l.length g.c), (6, .int .i64 (g.k : Nat))] (by kernel_rfl) rfl (ak (okc (hs9.cell 0 rfl (by kernel_rfl)) ok0) ak0) ?_
          rcases Bool.eq_false_or_eq_true (decide (((ms.length : Nat) : Int) > 20)) with h11 | h11
          · refine GoR.setB 36 true (by decide) (by kernel_rfl) h11 ?_
            have h11' : ((ms.length : Nat) : Int) > 20 := of_decide_eq_true h11
            refine GoR.phaseK [(13, .gen []), (14, .gen []), (15, .gen []), (16, .gen []), (17, .gen []), (18, .gen []), (19, .gen []), (20, .gen []), (21, .gen []), (22, .gen []), (23, .gen []), (24, .gen [])] [48, 7, 0, 5, 6] [] [(48, .bool true), (7, .pointer (some ⟨b5, 0, none⟩)), (0, .slice (some ⟨bb, bo, none⟩) 1 c), (5, .slice g.ad g.l.length g.c), (6, .int .i64 (g.k : Nat))] (by kernel_rfl) rfl ak0 ?_
            refine GoR.done ?_
            refine GoQ.pick [48, 7, 0, 5, 6] (S' := [(48, .bool true), (7, .pointer (some ⟨b5, 0, none⟩)), (0, .slice (some ⟨bb, bo, none⟩) 1 c), (5, .slice g.ad g.l.length g.c), (6, .int .i64 (g.k : Nat))]) (by kernel_rfl) ?_
            exact GoQ.meet1 () (by first | rfl | (simp only [h10, h11, Bool.not_true, Bool.not_false, Bool.true_or, Bool.false_or, Bool.true_and, Bool.false_and, Bool.or_true, Bool.or_false, Bool.and_true, Bool.and_false]; done) | (simp [h10, h11]; done)) hs9
          · refine GoR.setB 36 false (by decide) (by kernel_rfl) h11 ?_
            have h11' : ¬ (((ms.length : Nat) : Int) > 20) := of_decide_eq_false h11
            refine GoR.phaseK [(13, .gen []), (14, .gen [.slice (((([⟨x, near⟩]).getD g.k dS6).s_).picks_.ad) (((([⟨x, near⟩]).getD g.k dS6).s_).picks_.n) (((([⟨x, near⟩]).getD g.k dS6).s_).picks_.c)]), (15, .gen []), (16, .gen []), (17, .gen []), (18, .gen [])] [42, 7, 0, 5, 6] [(14, [.cell ⟨b5, 106, none⟩ (.slice (((([⟨x, near⟩]).getD g.k dS6).s_).picks_.ad) (((([⟨x, near⟩]).getD g.k dS6).s_).picks_.n) (((([⟨x, near⟩]).getD g.k dS6).s_).picks_.c))])] [(42, .bool (decide (((((([⟨x, near⟩]).getD g.k dS6).s_).picks_.n : Nat) : Int) > 60))), (7, .pointer (some ⟨b5, 0, none⟩)), (0, .slice (some ⟨bb, bo, none⟩) 1 c), (5, .slice g.ad g.l.length g.c), (6, .int .i64 (g.k : Nat))] (by kernel_rfl) rfl (ak (okc (hs9.cell 0 rfl (by kernel_rfl)) ok0) ak0) ?_
            rcases Bool.eq_false_or_eq_true (decide (((((([⟨x, near⟩]).getD g.k dS6).s_).picks_.n : Nat) : Int) > 60)) with h12 | h12
            · refine GoR.setB 42 true (by decide) (by kernel_rfl) h12 ?_
              have h12' : ((((([⟨x, near⟩]).getD g.k dS6).s_).picks_.n : Nat) : Int) > 60 := of_decide_eq_true h12
              refine GoR.phaseK [(19, .gen []), (20, .gen []), (21, .gen []), (22, .gen []), (23, .gen []), (24, .gen [])] [48, 7, 0, 5, 6] [] [(48, .bool true), (7, .pointer (some ⟨b5, 0, none⟩)), (0, .slice (some ⟨bb, bo, none⟩) 1 c), (5, .slice g.ad g.l.length g.c), (6, .int .i64 (g.k : Nat))] (by kernel_rfl) rfl ak0 ?_
              refine GoR.done ?_
              refine GoQ.pick [48, 7, 0, 5, 6] (S' := [(48, .bool true), (7, .pointer (some ⟨b5, 0, none⟩)), (0, .slice (some ⟨bb, bo, none⟩) 1 c), (5, .slice g.ad g.l.length g.c), (6, .int .i64 (g.k : Nat))]) (by kernel_rfl) ?_
              exact GoQ.meet1 () (by first | rfl | (simp only [h10, h11, h12, Bool.not_true, Bool.not_false, Bool.true_or, Bool.false_or, Bool.true_and, Bool.false_and, Bool.or_true, Bool.or_false, Bool.and_true, Bool.and_false]; done) | (simp [h10, h11, h12]; done)) hs9
            · refine GoR.setB 42 false (by decide) (by kernel_rfl) h12 ?_
              have h12' : ¬ (((((([⟨x, near⟩]).getD g.k dS6).s_).picks_.n : Nat) : Int) > 60) := of_decide_eq_false h12
              refine GoR.phaseK [(19, .gen []), (20, .gen []), (21, .gen [.string ((((([⟨x, near⟩]).getD g.k dS6).s_).reply_).value_)]), (22, .gen []), (23, .gen []), (24, .gen [])] [48, 7, 0, 5, 6] [(21, [.cell ⟨b5, 104, none⟩ (.string ((((([⟨x, near⟩]).getD g.k dS6).s_).reply_).value_))])] [(48, .bool (decide (((((((([⟨x, near⟩]).getD g.k dS6).s_).reply_).value_).size : Nat) : Int) > 1000))), (7, .pointer (some ⟨b5, 0, none⟩)), (0, .slice (some ⟨bb, bo, none⟩) 1 c), (5, .slice g.ad g.l.length g.c), (6, .int .i64 (g.k : Nat))] (by kernel_rfl) rfl (ak (okc (hs9.cell 0 rfl (by kernel_rfl)) ok0) ak0) ?_
              refine GoR.done ?_
              refine GoQ.pick [48, 7, 0, 5, 6] (S' := [(48, .bool (decide (((((((([⟨x, near⟩]).getD g.k dS6).s_).reply_).value_).size : Nat) : Int) > 1000))), (7, .pointer (some ⟨b5, 0, none⟩)), (0, .slice (some ⟨bb, bo, none⟩) 1 c), (5, .slice g.ad g.l.length g.c), (6, .int .i64 (g.k : Nat))]) (by kernel_rfl) ?_
              exact GoQ.meet1 () (by first | rfl | (simp only [h10, h11, h12, Bool.not_true, Bool.not_false, Bool.true_or, Bool.false_or, Bool.true_and, Bool.false_and, Bool.or_true, Bool.or_false, Bool.and_true, Bool.and_false]; done) | (simp [h10, h11, h12]; done)) hs9
      intro _ w13 hs14
      refine GoQ.thn ?_
      refine GoC.cond (t := (((decide ((((((([⟨x, near⟩]).getD g.k dS6).s_).body_).q_.n : Nat) : Int) > 20)) || (decide (((ms.length : Nat) : Int) > 20))) || (decide (((((([⟨x, near⟩]).getD g.k dS6).s_).picks_.n : Nat) : Int) > 60))) || (decide (((((((([⟨x, near⟩]).getD g.k dS6).s_).reply_).value_).size : Nat) : Int) > 1000))) (by kernel_rfl) (fun h15 => ?_) (fun h15 => ?_)
      · refine GoC.seq ?_
        refine GoC.regT [1] (.rd 0 .done) (by kernel_rfl) (by kernel_rfl) ?_
        refine GoR.phaseK [(0, .gen [])] [4, 7, 0, 5, 6] [] [(4, .bool false), (7, .pointer (some ⟨b5, 0, none⟩)), (0, .slice (some ⟨bb, bo, none⟩) 1 c), (5, .slice g.ad g.l.length g.c), (6, .int .i64 (g.k : Nat))] (by kernel_rfl) rfl ak0 ?_
        refine GoR.done (GoQ.thn (GoC.ret (GoQ.skipCR (GoQ.blkR (GoQ.skipCR (GoQ.skipLR (GoQ.blkR (GoQ.skipCR ?_))))))))
        refine GoQ.done (.inl rfl) (v := .bool false) (fun a hf => results1 rfl (by kernel_rfl) a hf) ?_
        exact ⟨_, rfl, hs14.drop 2⟩
      · have h15a : (((decide ((((((([⟨x, near⟩]).getD g.k dS6).s_).body_).q_.n : Nat) : Int) > 20)) || (decide (((ms.length : Nat) : Int) > 20))) || (decide (((((([⟨x, near⟩]).getD g.k dS6).s_).picks_.n : Nat) : Int) > 60))) = false := (Bool.or_eq_false_iff.1 h15).1
        have h15aa : ((decide ((((((([⟨x, near⟩]).getD g.k dS6).s_).body_).q_.n : Nat) : Int) > 20)) || (decide (((ms.length : Nat) : Int) > 20))) = false := (Bool.or_eq_false_iff.1 h15a).1
        have h15aaa : (decide ((((((([⟨x, near⟩]).getD g.k dS6).s_).body_).q_.n : Nat) : Int) > 20)) = false := (Bool.or_eq_false_iff.1 h15aa).1
        have h15aaa' : ¬ ((((((([⟨x, near⟩]).getD g.k dS6).s_).body_).q_.n : Nat) : Int) > 20) := of_decide_eq_false h15aaa
        have h15aab : (decide (((ms.length : Nat) : Int) > 20)) = false := (Bool.or_eq_false_iff.1 h15aa).2
        have h15aab' : ¬ (((ms.length : Nat) : Int) > 20) := of_decide_eq_false h15aab
        have h15ab : (decide (((((([⟨x, near⟩]).getD g.k dS6).s_).picks_.n : Nat) : Int) > 60)) = false := (Bool.or_eq_false_iff.1 h15a).2
        have h15ab' : ¬ (((((([⟨x, near⟩]).getD g.k dS6).s_).picks_.n : Nat) : Int) > 60) := of_decide_eq_false h15ab
        have h15b : (decide (((((((([⟨x, near⟩]).getD g.k dS6).s_).reply_).value_).size : Nat) : Int) > 1000)) = false := (Bool.or_eq_false_iff.1 h15).2
        have h15b' : ¬ (((((((([⟨x, near⟩]).getD g.k dS6).s_).reply_).value_).size : Nat) : Int) > 1000) := of_decide_eq_false h15b
        refine GoC.skip (GoQ.thn (GoC.seq (GoC.seq ?_)))
        refine GoC.regT [1] (.rd 0 .done) (by kernel_rfl) (by kernel_rfl) ?_
        refine GoR.phaseK [(0, .gen [])] [8, 7, 0, 5, 6] [] [(8, .int .i64 0), (7, .pointer (some ⟨b5, 0, none⟩)), (0, .slice (some ⟨bb, bo, none⟩) 1 c), (5, .slice g.ad g.l.length g.c), (6, .int .i64 (g.k : Nat))] (by kernel_rfl) rfl ak0 ?_
        refine GoR.done (GoQ.thn (GoC.block ?_))
        refine GoC.loop (T := Nat) (fun j => [(0, .slice (some ⟨bb, bo, none⟩) 1 c), (5, .slice g.ad g.l.length g.c), (6, .int .i64 (g.k : Nat)), (7, .pointer (some ⟨b5, 0, none⟩)), (8, .int .i64 (j : Nat))]) (fun j w => (j ≤ ms.length) ∧ St w0 ((Cel b5 (ApV.cells mad ms.length mc ((([⟨x, near⟩]).getD g.k dS6).s_)) 41) :: (Sl g.ad g.c 24 6 OpV.cells g.l) :: L) w) (fun j => ms.length - j) (0) [0, 5, 6, 7, 8] (by kernel_rfl) ⟨Nat.zero_le _, hs14⟩ ?_
        rintro j w16 ⟨hj, hs17⟩
        refine GoC.slots (S' := [(0, .slice (some ⟨bb, bo, none⟩) 1 c), (5, .slice g.ad g.l.length g.c), (6, .int .i64 (g.k : Nat)), (7, .pointer (some ⟨b5, 0, none⟩)), (8, .int .i64 (j : Nat))]) rfl ?_
        refine GoC.seq (GoC.seq ?_)
        refine GoC.regT [63, 63, 63, 63, 63, 63] (.rd 0 (.rd 1 (.rd 2 (.rd 3 (.rd 4 (.rd 5 .done)))))) (by kernel_rfl) (by kernel_rfl) ?_
        refine GoR.phaseK [(0, .gen []), (1, .gen []), (2, .gen []), (3, .gen [.slice mad ms.length mc]), (4, .gen []), (5, .gen [])] [54, 0, 5, 6, 7, 8] [(3, [.cell ⟨b5, 101, none⟩ (.slice mad ms.length mc)])] [(54, .bool (decide (((j : Nat) : Int) < (ms.length : Nat)))), (0, .slice (some ⟨bb, bo, none⟩) 1 c), (5, .slice g.ad g.l.length g.c), (6, .int .i64 (g.k : Nat)), (7, .pointer (some ⟨b5, 0, none⟩)), (8, .int .i64 (j : Nat))] (by kernel_rfl) rfl (ak (okc (hs17.cell 0 rfl (by kernel_rfl)) ok0) ak0) ?_
        refine GoR.done (GoQ.thn ?_)
        refine GoC.cond (t := decide (((j : Nat) : Int) < (ms.length : Nat))) (by kernel_rfl) (fun h18 => ?_) (fun h18 => ?_)
        · have h18' : ((j : Nat) : Int) < (ms.length : Nat) := of_decide_eq_true h18
          have hjl : j < ms.length := by omega
          obtain ⟨ab, ao, rfl⟩ := RowsAt.isSome (hm _ (hs17.drop 2)) (by omega)
          refine GoC.skip (GoQ.thn (GoC.seq (GoC.block (GoC.seq ?_))))
          refine GoC.regT [1023, 1023, 1023, 1023, 1023, 1023, 1023, 1023, 1023, 1023] (.rd 0 (.rd 1 (.rd 2 (.rd 3 (.rd 4 (.rd 5 (.rd 6 (.rd 7 (.rd 8 (.rd 9 .done)))))))))) (by kernel_rfl) (by kernel_rfl) ?_
          refine GoR.phaseK [(0, .gen []), (1, .gen []), (2, .gen [.slice (some ⟨ab, ao, none⟩) ms.length mc]), (3, .gen []), (4, .as_ (.pointer (some ⟨ab, ao + (j * 121), none⟩)) .at_), (5, .gen []), (6, .gen []), (7, .gen [.slice (((ms.getD j dMs).body_).q_.ad) (((ms.getD j dMs).body_).q_.n) (((ms.getD j dMs).body_).q_.c)]), (8, .gen []), (9, .gen [])] [66, 0, 5, 6, 7, 8] [(2, [.cell ⟨b5, 101, none⟩ (.slice (some ⟨ab, ao, none⟩) ms.length mc)]), (4, [.prop (0 ≤ ((j : Nat) : Int) ∧ ((j : Nat) : Int) < ((ms.length : Nat) : Int)), .prop (Value.pointer (some (Addr.add ⟨ab, ao, none⟩ (Int.toNat (j : Nat) * 121))) = Value.pointer (some ⟨ab, ao + (j * 121), none⟩))]), (7, [.cell ⟨ab, ao + (j * 121) + 13 + 43, none⟩ (.slice (((ms.getD j dMs).body_).q_.ad) (((ms.getD j dMs).body_).q_.n) (((ms.getD j dMs).body_).q_.c))])] [(66, .bool (decide (((((ms.getD j dMs).body_).q_.n : Nat) : Int) > 20))), (0, .slice (some ⟨bb, bo, none⟩) 1 c), (5, .slice g.ad g.l.length g.c), (6, .int .i64 (g.k : Nat)), (7, .pointer (some ⟨b5, 0, none⟩)), (8, .int .i64 (j : Nat))] (by kernel_rfl) rfl (ak (okc (hs17.cell 0 rfl (by kernel_rfl)) ok0) (ak (okp (by omega) (okp (ptrAdd _ _ _) ok0)) (ak (okc (RowsAt.at0 (hm _ (hs17.drop 2)) (k := j) (by first | omega | (simp only [List.length_set]; omega) | (simp only [List.length_set, List.length_append, List.length_cons, List.length_nil]; omega)) (j := 56) (by decide) (by kernel_rfl)) ok0) ak0))) ?_
          refine GoR.done (GoQ.thn ?_)
          refine GoC.cond (t := decide (((((ms.getD j dMs).body_).q_.n : Nat) : Int) > 20)) (by kernel_rfl) (fun h19 => ?_) (fun h19 => ?_)
          · have h19' : ((((ms.getD j dMs).body_).q_.n : Nat) : Int) > 20 := of_decide_eq_true h19
            refine GoC.seq ?_
            refine GoC.regT [1] (.rd 0 .done) (by kernel_rfl) (by kernel_rfl) ?_
            refine GoR.phaseK [(0, .gen [])] [4, 0, 5, 6, 7, 8] [] [(4, .bool false), (0, .slice (some ⟨bb, bo, none⟩) 1 c), (5, .slice g.ad g.l.length g.c), (6, .int .i64 (g.k : Nat)), (7, .pointer (some ⟨b5, 0, none⟩)), (8, .int .i64 (j : Nat))] (by kernel_rfl) rfl ak0 ?_
            refine GoR.done (GoQ.thn (GoC.ret (GoQ.blkR (GoQ.skipCR (GoQ.skipLR (GoQ.blkR (GoQ.skipCR (GoQ.blkR (GoQ.skipCR (GoQ.skipLR (GoQ.blkR (GoQ.skipCR ?_))))))))))))
            refine GoQ.done (.inl rfl) (v := .bool false) (fun a hf => results1 rfl (by kernel_rfl) a hf) ?_
            exact ⟨_, rfl, hs17.drop 2⟩
          · have h19' : ¬ (((((ms.getD j dMs).body_).q_.n : Nat) : Int) > 20) := of_decide_eq_false h19
            refine GoC.skip (GoQ.blkN (GoQ.thn ?_))
            refine GoC.regT [7, 7, 7] (.rd 0 (.rd 1 (.rd 2 .done))) (by kernel_rfl) (by kernel_rfl) ?_
            refine GoR.phaseK [(0, .gen []), (1, .as_ (.int .i64 ((j : Nat) + 1)) (.gen [])), (2, .gen [])] [8, 0, 5, 6, 7] [(1, [.prop (Value.int .i64 (IntKind.i64.wrap ((j : Nat) + 1)) = Value.int .i64 ((j : Nat) + 1))])] [(8, .int .i64 ((j : Nat) + 1)), (0, .slice (some ⟨bb, bo, none⟩) 1 c), (5, .slice g.ad g.l.length g.c), (6, .int .i64 (g.k : Nat)), (7, .pointer (some ⟨b5, 0, none⟩))] (by kernel_rfl) rfl (ak (okp (i64ok (by omega) (by omega)) ok0) ak0) ?_
            refine GoR.done ?_
            exact GoQ.back (j + 1) [0, 5, 6, 7, 8] (by kernel_rfl) (by omega) ⟨(by omega), hs17⟩
        · have h18' : ¬ (((j : Nat) : Int) < (ms.length : Nat)) := of_decide_eq_false h18
          refine GoC.exit (GoQ.skipC (GoQ.skipL (GoQ.hit (GoQ.thn ?_))))
          refine GoC.regT [1023, 1023, 1023, 1023, 1023, 1023, 1023, 1023, 1023, 1023] (.rd 0 (.rd 1 (.rd 2 (.rd 3 (.rd 4 (.rd 5 (.rd 6 (.ef 7 (.ef 8 (.rd 9 .done)))))))))) (by kernel_rfl) (by kernel_rfl) ?_
          refine GoR.phaseK [(0, .gen []), (1, .gen []), (2, .agg (OpV.cells (((([⟨x, near⟩]).getD g.k dS6).s_).op_))), (3, .gen []), (4, .gen []), (5, .gen []), (6, .agg (OpV.cells (((((([⟨x, near⟩]).getD g.k dS6).s_).body_).request_).op_)))] [73, 69, 67, 0, 5, 6] [(2, [.prop (Array.size (OpV.cells (((([⟨x, near⟩]).getD g.k dS6).s_).op_)) = 6), .cells ⟨b5, 6, none⟩ (OpV.cells (((([⟨x, near⟩]).getD g.k dS6).s_).op_))]), (6, [.prop (Array.size (OpV.cells (((((([⟨x, near⟩]).getD g.k dS6).s_).body_).request_).op_)) = 6), .cells ⟨b5, 17, none⟩ (OpV.cells (((((([⟨x, near⟩]).getD g.k dS6).s_).body_).request_).op_))])] [(73, .agg (OpV.cells (((((([⟨x, near⟩]).getD g.k dS6).s_).body_).request_).op_))), (69, .agg (OpV.cells (((([⟨x, near⟩]).getD g.k dS6).s_).op_))), (67, .slice g.ad g.l.length g.c), (0, .slice (some ⟨bb, bo, none⟩) 1 c), (5, .slice g.ad g.l.length g.c), (6, .int .i64 (g.k : Nat))] (by kernel_rfl) rfl (ak (okp (by kernel_rfl) (oka (hs17.cells 0 6 rfl (by kernel_rfl)) ok0)) (ak (okp (by kernel_rfl) (oka (hs17.cells 0 17 rfl (by kernel_rfl)) ok0)) ak0)) ?_
          refine GoR.sliceLit rfl (by kernel_rfl) (t := 73) (e := 24) (n := 2) (ps := [(0, .agg (OpV.cells (((([⟨x, near⟩]).getD g.k dS6).s_).op_))), (1, .agg (OpV.cells (((((([⟨x, near⟩]).getD g.k dS6).s_).body_).request_).op_)))]) (by kernel_rfl) (by kernel_rfl) (ti := Tryz.t24) (z := .agg #[.int .u8 0, .string (⟨#[]⟩ : ByteArray), .string (⟨#[]⟩ : ByteArray), .string (⟨#[]⟩ : ByteArray), .string (⟨#[]⟩ : ByteArray), .int .u64 0]) (by kernel_rfl) (by kernel_rfl) (by decide) (by decide) (cs := #[.int .u8 ((((([⟨x, near⟩]).getD g.k dS6).s_).op_).kind_), .string ((((([⟨x, near⟩]).getD g.k dS6).s_).op_).key_), .string ((((([⟨x, near⟩]).getD g.k dS6).s_).op_).value_), .string ((((([⟨x, near⟩]).getD g.k dS6).s_).op_).old_), .string ((((([⟨x, near⟩]).getD g.k dS6).s_).op_).to_), .int .u64 ((((([⟨x, near⟩]).getD g.k dS6).s_).op_).amount_), .int .u8 ((((((([⟨x, near⟩]).getD g.k dS6).s_).body_).request_).op_).kind_), .string ((((((([⟨x, near⟩]).getD g.k dS6).s_).body_).request_).op_).key_), .string ((((((([⟨x, near⟩]).getD g.k dS6).s_).body_).request_).op_).value_), .string ((((((([⟨x, near⟩]).getD g.k dS6).s_).body_).request_).op_).old_), .string ((((((([⟨x, near⟩]).getD g.k dS6).s_).body_).request_).op_).to_), .int .u64 ((((((([⟨x, near⟩]).getD g.k dS6).s_).body_).request_).op_).amount_)]) (by kernel_rfl) hs17 ?_
          intro b20 w21 hs22 hz23
          have hs24 : St w0 ((Sl (some ⟨b20, 0, none⟩) 2 24 6 OpV.cells ([((((([⟨x, near⟩]).getD g.k dS6).s_).op_) : OpV), ((((((([⟨x, near⟩]).getD g.k dS6).s_).body_).request_).op_) : OpV)])) :: (Cel b5 (ApV.cells mad ms.length mc ((([⟨x, near⟩]).getD g.k dS6).s_)) 41) :: (Sl g.ad g.c 24 6 OpV.cells g.l) :: L) w21 := St.slOf (l := [((((([⟨x, near⟩]).getD g.k dS6).s_).op_) : OpV), ((((((([⟨x, near⟩]).getD g.k dS6).s_).body_).request_).op_) : OpV)]) (f := OpV.cells) hs22 hz23 (opF).size (by simp only [List.length_cons, List.length_nil, maxLen]; omega) (by kernel_rfl)
          refine ⟨(opn (by kernel_rfl)), ?_⟩
          have hs27 : St w0 ((Sl g.ad g.c 24 6 OpV.cells g.l) :: (Sl (some ⟨b20, 0, none⟩) 2 24 6 OpV.cells ([((((([⟨x, near⟩]).getD g.k dS6).s_).op_) : OpV), ((((((([⟨x, near⟩]).getD g.k dS6).s_).body_).request_).op_) : OpV)])) :: (Cel b5 (ApV.cells mad ms.length mc ((([⟨x, near⟩]).getD g.k dS6).s_)) 41) :: L) w21 := (hs24.pull 2 rfl)
          refine GoR.append rfl (by kernel_rfl) opsOK opF (ad := g.ad) (c := g.c) (xs := g.l) (ys := [((((([⟨x, near⟩]).getD g.k dS6).s_).op_) : OpV), ((((((([⟨x, near⟩]).getD g.k dS6).s_).body_).request_).op_) : OpV)]) (adx := some ⟨b20, 0, none⟩) (cx := 2) dOp (by kernel_rfl) hs27 (hs27.rows 1 rfl (opF).size dOp) (fun h => nomatch h) (by simp only [List.length_cons, List.length_nil]; omega) (by simp only [List.length_cons, List.length_nil]; omega) ?_
          intro ad28 c29 w25 hs26
          refine ⟨(opn (by kernel_rfl)), ?_⟩
          refine GoR.phaseK [(9, .gen [])] [5, 0, 6] [] [(5, .slice ad28 ((g.l ++ ([((((([⟨x, near⟩]).getD g.k dS6).s_).op_) : OpV), ((((((([⟨x, near⟩]).getD g.k dS6).s_).body_).request_).op_) : OpV)])).length) c29), (0, .slice (some ⟨bb, bo, none⟩) 1 c), (6, .int .i64 (g.k : Nat))] (by kernel_rfl) rfl ak0 ?_
          refine GoR.done (GoQ.blkN (GoQ.thn ?_))
          refine GoC.regT [7, 7, 7] (.rd 0 (.rd 1 (.rd 2 .done))) (by kernel_rfl) (by kernel_rfl) ?_
          refine GoR.phaseK [(0, .gen []), (1, .as_ (.int .i64 ((g.k : Nat) + 1)) (.gen [])), (2, .gen [])] [6, 5, 0] [(1, [.prop (Value.int .i64 (IntKind.i64.wrap ((g.k : Nat) + 1)) = Value.int .i64 ((g.k : Nat) + 1))])] [(6, .int .i64 ((g.k : Nat) + 1)), (5, .slice ad28 ((g.l ++ ([((((([⟨x, near⟩]).getD g.k dS6).s_).op_) : OpV), ((((((([⟨x, near⟩]).getD g.k dS6).s_).body_).request_).op_) : OpV)])).length) c29), (0, .slice (some ⟨bb, bo, none⟩) 1 c)] (by kernel_rfl) rfl (ak (okp (i64ok (by omega) (by omega)) ok0) ak0) ?_
          refine GoR.done ?_
          have hs30 : St w0 ((Sl (some ⟨b20, 0, none⟩) 2 24 6 OpV.cells ([((((([⟨x, near⟩]).getD g.k dS6).s_).op_) : OpV), ((((((([⟨x, near⟩]).getD g.k dS6).s_).body_).request_).op_) : OpV)])) :: (Cel b5 (ApV.cells mad ms.length mc ((([⟨x, near⟩]).getD g.k dS6).s_)) 41) :: (Sl ad28 c29 24 6 OpV.cells (g.l ++ ([((((([⟨x, near⟩]).getD g.k dS6).s_).op_) : OpV), ((((((([⟨x, near⟩]).getD g.k dS6).s_).body_).request_).op_) : OpV)]))) :: L) w25 := (((hs26.pull 0 rfl).pull 2 rfl).pull 2 rfl)
          have hs31 : St w0 ((Sl ad28 c29 24 6 OpV.cells (g.l ++ ([((((([⟨x, near⟩]).getD g.k dS6).s_).op_) : OpV), ((((((([⟨x, near⟩]).getD g.k dS6).s_).body_).request_).op_) : OpV)]))) :: L) w25 := hs30.drop 2
          exact GoQ.back (⟨g.k + 1, g.l ++ ([((((([⟨x, near⟩]).getD g.k dS6).s_).op_) : OpV), ((((((([⟨x, near⟩]).getD g.k dS6).s_).body_).request_).op_) : OpV)]), ad28, c29⟩) [0, 5, 6] (by kernel_rfl) (by simp only; omega) ⟨(by
                        refine ⟨by simp only; omega, by simp only [List.length_append, List.length_cons, List.length_nil]; omega, ?_⟩
                        intro q hq
                        simp only [List.mem_append, List.mem_cons, List.not_mem_nil, or_false] at hq
                        rcases hq with hq | rfl | rfl
                        · exact hp.2.2 q hq
                        · rw [he]; exact hsm
                        · rw [he]; exact hsm2), hs31⟩
    · have h4' : ¬ (((g.k : Nat) : Int) < (1 : Nat)) := of_decide_eq_false h4
      have hol : g.l.length = 2 * g.k := hp.2.1
      refine GoC.exit (GoQ.skipC (GoQ.skipL (GoQ.hit (GoQ.thn (GoC.seq ?_)))))
      refine GoC.regT [8388607, 8388607, 8388607, 8388607, 8388607, 8388607, 8388607, 8388607, 8388607, 8388607, 8388607, 8388607, 8388607, 8388607, 8388607, 8388607, 8388607, 8388607, 8388607, 8388607, 8388607, 8388607, 8388607] (.rd 0 (.rd 1 (.rd 2 (.rd 3 (.rd 4 (.ef 5 (.rd 6 (.rd 7 (.rd 8 (.rd 9 (.rd 10 (.rd 11 (.rd 12 (.rd 13 (.ef 14 (.rd 15 (.rd 16 (.rd 17 (.rd 18 (.ef 19 (.rd 20 (.rd 21 (.rd 22 .done))))))))))))))))))))))) (by kernel_rfl) (by kernel_rfl) ?_
      refine GoR.phaseK [(0, .gen []), (1, .gen []), (2, .gen []), (3, .gen [])] [79, 5] [] [(79, .bool (decide (((g.l.length : Nat) : Int) ≤ 150))), (5, .slice g.ad g.l.length g.c)] (by kernel_rfl) rfl ak0 ?_
      rcases Bool.eq_false_or_eq_true (decide (((g.l.length : Nat) : Int) ≤ 150)) with h32 | h32
      · refine GoR.setB 79 true (by decide) (by kernel_rfl) h32 ?_
        have h32' : ((g.l.length : Nat) : Int) ≤ 150 := of_decide_eq_true h32
        refine GoR.phaseK [(4, .gen [])] [80, 79, 5] [] [(80, .slice g.ad g.l.length g.c), (79, .bool true), (5, .slice g.ad g.l.length g.c)] (by kernel_rfl) rfl ak0 ?_
        refine GoR.call rfl rfl (by kernel_rfl) (f := 23) (args := #[.slice g.ad g.l.length g.c]) (by kernel_rfl) Tryz.call23 (few_spec g.l hp.2.2 (by rw [hol]; omega) (fun w h => h.rows 0 rfl opF.size _) hs3) ?_
        rintro v34 w35 ⟨rfl, hs33⟩
        refine ⟨(opn (by kernel_rfl)), ?_⟩
        refine GoR.phaseK [(6, .gen []), (7, .gen [])] [83, 5] [] [(83, .bool (few g.l)), (5, .slice g.ad g.l.length g.c)] (by kernel_rfl) rfl ak0 ?_
        rcases Bool.eq_false_or_eq_true (few g.l) with h36 | h36
        · refine GoR.setB 83 true (by decide) (by kernel_rfl) h36 ?_
          refine GoR.phaseK [(8, .gen []), (9, .gen []), (10, .gen []), (11, .gen []), (12, .gen []), (13, .gen [])] [89, 87, 83, 5] [] [(89, undef), (87, undef), (83, .bool true), (5, .slice g.ad g.l.length g.c)] (by kernel_rfl) rfl ak0 ?_
          refine GoR.skip rfl (by kernel_rfl) (opn (by kernel_rfl)) ?_
          refine GoR.phaseK [(15, .gen []), (16, .gen []), (17, .gen []), (18, .gen [])] [94, 92, 83] [] [(94, undef), (92, undef), (83, .bool true)] (by kernel_rfl) rfl ak0 ?_
          refine GoR.skip rfl (by kernel_rfl) (opn (by kernel_rfl)) ?_
          refine GoR.phaseK [(20, .gen []), (21, .gen []), (22, .gen [])] [4] [] [(4, .bool true)] (by kernel_rfl) rfl ak0 ?_
          refine GoR.done (GoQ.thn (GoC.ret ?_))
          refine GoQ.done (.inl rfl) (v := .bool true) (fun a hf => results1 rfl (by kernel_rfl) a hf) ?_
          exact ⟨_, rfl, hs33.drop 1⟩
        · refine GoR.setB 83 false (by decide) (by kernel_rfl) h36 ?_
          refine GoR.phaseK [(8, .gen []), (9, .gen []), (10, .gen []), (11, .gen [])] [87, 83, 5] [] [(87, .bool (decide (((g.l.length : Nat) : Int) > 150))), (83, .bool false), (5, .slice g.ad g.l.length g.c)] (by kernel_rfl) rfl ak0 ?_
          rcases Bool.eq_false_or_eq_true (decide (((g.l.length : Nat) : Int) > 150)) with h37 | h37
          · refine GoR.setB 87 true (by decide) (by kernel_rfl) h37 ?_
            have h37' : ((g.l.length : Nat) : Int) > 150 := of_decide_eq_true h37
            exfalso; omega
          · refine GoR.setB 87 false (by decide) (by kernel_rfl) h37 ?_
            have h37' : ¬ (((g.l.length : Nat) : Int) > 150) := of_decide_eq_false h37
            refine GoR.phaseK [(12, .gen []), (13, .gen [])] [89, 87, 83, 5] [] [(89, undef), (87, .bool false), (83, .bool false), (5, .slice g.ad g.l.length g.c)] (by kernel_rfl) rfl ak0 ?_
            refine GoR.skip rfl (by kernel_rfl) (opn (by kernel_rfl)) ?_
            refine GoR.phaseK [(15, .gen []), (16, .gen []), (17, .gen []), (18, .gen [])] [94, 92, 83] [] [(94, undef), (92, .bool false), (83, .bool false)] (by kernel_rfl) rfl ak0 ?_
            refine GoR.skip rfl (by kernel_rfl) (opn (by kernel_rfl)) ?_
            refine GoR.phaseK [(20, .gen []), (21, .gen []), (22, .gen [])] [4] [] [(4, .bool false)] (by kernel_rfl) rfl ak0 ?_
            refine GoR.done (GoQ.thn (GoC.ret ?_))
            refine GoQ.done (.inl rfl) (v := .bool false) (fun a hf => results1 rfl (by kernel_rfl) a hf) ?_
            exact ⟨_, rfl, hs33.drop 1⟩
      · refine GoR.setB 79 false (by decide) (by kernel_rfl) h32 ?_
        have h32' : ¬ (((g.l.length : Nat) : Int) ≤ 150) := of_decide_eq_false h32
        exfalso; omega
end Go.Proofs.YthdggndldnefpaaGreatDoor
