/-
  Package session: nil roads; law10: Few.
-/
import Derived.Test.YtkiaagddmlddpaaGreatDoorProg
import Derived.Test.YtkiaagddmlddpaaGreatDoorSesC
import Derived.Test.YtkiaagddmlddpaaGreatDoorLedG
namespace Go.Proofs.YtkiaagddmlddpaaGreatDoor
open Go.RowKit Go.Sx
set_option linter.unusedVariables false
set_option linter.unusedSimpArgs false
set_option linter.unnecessarySimpa false
set_option maxRecDepth 100000
theorem sdo_nil1 {w0 w : World} {L : List Asn} (q : Nat) (r : ReqV) (hs : St w0 L w) : Calls Tryz.prog 22 #[.pointer none, .pointer (some ⟨q, 0, none⟩), .agg (ReqV.cells r)] w (Ret fun rv w' => rv = .tuple #[.agg (RepV.cells ⟨2, ⟨#[]⟩⟩), .bool false] ∧ St w0 L w') := by
  refine enter (args := [.pointer none, .pointer (some ⟨q, 0, none⟩), .agg (ReqV.cells r)]) Tryz.func22 rfl Tryz.ntmps22 (Nat.le_of_ble_eq_true (by kernel_rfl)) ?_
  refine GoC.slots (S' := [(0, .pointer none), (1, .pointer (some ⟨q, 0, none⟩)), (2, .agg (ReqV.cells r))]) rfl ?_
  refine GoC.seq ?_
  refine GoC.regT [7, 7, 7] (.ef 0 (.ef 1 (.rd 2 .done))) (by kernel_rfl) (by kernel_rfl) ?_
  refine GoR.box rfl rfl (by kernel_rfl) (v := .agg (ReqV.cells r)) (by kernel_rfl) hs (cs := ReqV.cells r) (by kernel_rfl) ?_
  intro b1 w2 hs3
  refine ⟨(opn (by kernel_rfl)), ?_⟩
  refine GoR.alloc rfl rfl (by kernel_rfl) (z := .agg #[.int .i64 0, .string (⟨#[]⟩ : ByteArray)]) (by kernel_rfl) hs3 (cs := #[.int .i64 0, .string (⟨#[]⟩ : ByteArray)]) (by kernel_rfl) ?_
  intro b4 w5 hs6
  refine ⟨(opn (by kernel_rfl)), ?_⟩
  refine GoR.phaseK [(2, .gen [])] [7, 6, 5, 0, 1] [] [(7, .bool false), (6, .pointer (some ⟨b4, 0, none⟩)), (5, .pointer (some ⟨b1, 0, none⟩)), (0, .pointer none), (1, .pointer (some ⟨q, 0, none⟩))] (by kernel_rfl) rfl ak0 ?_
  refine GoR.done (GoQ.thn (GoC.seq (GoC.block (GoC.seq (GoC.seq ?_)))))
  refine GoC.regT [7, 7, 7] (.rd 0 (.rd 1 (.rd 2 .done))) (by kernel_rfl) (by kernel_rfl) ?_
  refine GoR.phaseK [(0, .gen []), (1, .gen []), (2, .gen [])] [9, 7, 6, 5, 0, 1] [] [(9, .bool true), (7, .bool false), (6, .pointer (some ⟨b4, 0, none⟩)), (5, .pointer (some ⟨b1, 0, none⟩)), (0, .pointer none), (1, .pointer (some ⟨q, 0, none⟩))] (by kernel_rfl) rfl ak0 ?_
  refine GoR.done (GoQ.thn (GoC.condT (by kernel_rfl) (GoC.skip (GoQ.thn (GoC.condT (by kernel_rfl) (GoC.seq ?_))))))
  refine GoC.regT [7, 7, 7] (.rd 0 (.ef 1 (.rd 2 .done))) (by kernel_rfl) (by kernel_rfl) ?_
  refine GoR.phaseK [(0, .gen [])] [14, 7, 6, 5, 0, 1] [] [(14, .agg #[.int .i64 2, .string (⟨#[]⟩ : ByteArray)]), (7, .bool false), (6, .pointer (some ⟨b4, 0, none⟩)), (5, .pointer (some ⟨b1, 0, none⟩)), (0, .pointer none), (1, .pointer (some ⟨q, 0, none⟩))] (by kernel_rfl) rfl ak0 ?_
  refine GoR.store rfl rfl (by kernel_rfl) (b := b4) (off := 0) (v := .agg #[.int .i64 2, .string (⟨#[]⟩ : ByteArray)]) (by kernel_rfl) (by kernel_rfl) (ti := Tryz.t40) (by kernel_rfl) hs6 0 rfl (by kernel_rfl) (by kernel_rfl) (Nat.le_of_ble_eq_true (by kernel_rfl)) (cs' := #[.int .i64 2, .string (⟨#[]⟩ : ByteArray)]) (L' := (Cel b4 #[.int .i64 2, .string (⟨#[]⟩ : ByteArray)] 40) :: (Cel b1 (ReqV.cells r) 46) :: L) (by kernel_rfl) rfl ?_
  intro w7 hs8
  refine ⟨(opn (by kernel_rfl)), ?_⟩
  refine GoR.phaseK [(2, .gen [])] [7, 6, 5, 0, 1] [] [(7, .bool false), (6, .pointer (some ⟨b4, 0, none⟩)), (5, .pointer (some ⟨b1, 0, none⟩)), (0, .pointer none), (1, .pointer (some ⟨q, 0, none⟩))] (by kernel_rfl) rfl ak0 ?_
  refine GoR.done (GoQ.thn (GoC.ret (GoQ.blkR (GoQ.skipCR ?_))))
  refine GoQ.done (.inl rfl) (v := .tuple #[.agg #[.int .i64 2, .string (⟨#[]⟩ : ByteArray)], .bool false]) (fun a hf => resultsAV rfl (by kernel_rfl) (by kernel_rfl) (ti := Tryz.t40) (by kernel_rfl) (by kernel_rfl) (vs := #[.int .i64 2, .string (⟨#[]⟩ : ByteArray)]) (by kernel_rfl) (hs8.cells 0 0 rfl (by kernel_rfl)) a hf) ?_
  exact ⟨rfl, hs8.drop 2⟩
theorem sdo_nil2 {w0 w : World} {L : List Asn} (q : Nat) (r : ReqV) (hs : St w0 L w) : Calls Tryz.prog 22 #[.pointer (some ⟨q, 0, none⟩), .pointer none, .agg (ReqV.cells r)] w (Ret fun rv w' => rv = .tuple #[.agg (RepV.cells ⟨2, ⟨#[]⟩⟩), .bool false] ∧ St w0 L w') := by
  refine enter (args := [.pointer (some ⟨q, 0, none⟩), .pointer none, .agg (ReqV.cells r)]) Tryz.func22 rfl Tryz.ntmps22 (Nat.le_of_ble_eq_true (by kernel_rfl)) ?_
  refine GoC.slots (S' := [(0, .pointer (some ⟨q, 0, none⟩)), (1, .pointer none), (2, .agg (ReqV.cells r))]) rfl ?_
  refine GoC.seq ?_
  refine GoC.regT [7, 7, 7] (.ef 0 (.ef 1 (.rd 2 .done))) (by kernel_rfl) (by kernel_rfl) ?_
  refine GoR.box rfl rfl (by kernel_rfl) (v := .agg (ReqV.cells r)) (by kernel_rfl) hs (cs := ReqV.cells r) (by kernel_rfl) ?_
  intro b1 w2 hs3
  refine ⟨(opn (by kernel_rfl)), ?_⟩
  refine GoR.alloc rfl rfl (by kernel_rfl) (z := .agg #[.int .i64 0, .string (⟨#[]⟩ : ByteArray)]) (by kernel_rfl) hs3 (cs := #[.int .i64 0, .string (⟨#[]⟩ : ByteArray)]) (by kernel_rfl) ?_
  intro b4 w5 hs6
  refine ⟨(opn (by kernel_rfl)), ?_⟩
  refine GoR.phaseK [(2, .gen [])] [7, 6, 5, 0, 1] [] [(7, .bool false), (6, .pointer (some ⟨b4, 0, none⟩)), (5, .pointer (some ⟨b1, 0, none⟩)), (0, .pointer (some ⟨q, 0, none⟩)), (1, .pointer none)] (by kernel_rfl) rfl ak0 ?_
  refine GoR.done (GoQ.thn (GoC.seq (GoC.block (GoC.seq (GoC.seq ?_)))))
  refine GoC.regT [7, 7, 7] (.rd 0 (.rd 1 (.rd 2 .done))) (by kernel_rfl) (by kernel_rfl) ?_
  refine GoR.phaseK [(0, .gen []), (1, .gen []), (2, .gen [])] [9, 7, 6, 5, 0, 1] [] [(9, .bool false), (7, .bool false), (6, .pointer (some ⟨b4, 0, none⟩)), (5, .pointer (some ⟨b1, 0, none⟩)), (0, .pointer (some ⟨q, 0, none⟩)), (1, .pointer none)] (by kernel_rfl) rfl ak0 ?_
  refine GoR.done (GoQ.thn (GoC.condF (by kernel_rfl) ?_))
  refine GoC.regT [7, 7, 7] (.rd 0 (.rd 1 (.rd 2 .done))) (by kernel_rfl) (by kernel_rfl) ?_
  refine GoR.phaseK [(0, .gen []), (1, .gen []), (2, .gen [])] [9, 7, 6, 5, 0, 1] [] [(9, .bool true), (7, .bool false), (6, .pointer (some ⟨b4, 0, none⟩)), (5, .pointer (some ⟨b1, 0, none⟩)), (0, .pointer (some ⟨q, 0, none⟩)), (1, .pointer none)] (by kernel_rfl) rfl ak0 ?_
  refine GoR.done (GoQ.thn (GoC.condT (by kernel_rfl) (GoC.seq ?_)))
  refine GoC.regT [7, 7, 7] (.rd 0 (.ef 1 (.rd 2 .done))) (by kernel_rfl) (by kernel_rfl) ?_
  refine GoR.phaseK [(0, .gen [])] [14, 7, 6, 5, 0, 1] [] [(14, .agg #[.int .i64 2, .string (⟨#[]⟩ : ByteArray)]), (7, .bool false), (6, .pointer (some ⟨b4, 0, none⟩)), (5, .pointer (some ⟨b1, 0, none⟩)), (0, .pointer (some ⟨q, 0, none⟩)), (1, .pointer none)] (by kernel_rfl) rfl ak0 ?_
  refine GoR.store rfl rfl (by kernel_rfl) (b := b4) (off := 0) (v := .agg #[.int .i64 2, .string (⟨#[]⟩ : ByteArray)]) (by kernel_rfl) (by kernel_rfl) (ti := Tryz.t40) (by kernel_rfl) hs6 0 rfl (by kernel_rfl) (by kernel_rfl) (Nat.le_of_ble_eq_true (by kernel_rfl)) (cs' := #[.int .i64 2, .string (⟨#[]⟩ : ByteArray)]) (L' := (Cel b4 #[.int .i64 2, .string (⟨#[]⟩ : ByteArray)] 40) :: (Cel b1 (ReqV.cells r) 46) :: L) (by kernel_rfl) rfl ?_
  intro w7 hs8
  refine ⟨(opn (by kernel_rfl)), ?_⟩
  refine GoR.phaseK [(2, .gen [])] [7, 6, 5, 0, 1] [] [(7, .bool false), (6, .pointer (some ⟨b4, 0, none⟩)), (5, .pointer (some ⟨b1, 0, none⟩)), (0, .pointer (some ⟨q, 0, none⟩)), (1, .pointer none)] (by kernel_rfl) rfl ak0 ?_
  refine GoR.done (GoQ.thn (GoC.ret (GoQ.blkR (GoQ.skipCR ?_))))
  refine GoQ.done (.inl rfl) (v := .tuple #[.agg #[.int .i64 2, .string (⟨#[]⟩ : ByteArray)], .bool false]) (fun a hf => resultsAV rfl (by kernel_rfl) (by kernel_rfl) (ti := Tryz.t40) (by kernel_rfl) (by kernel_rfl) (vs := #[.int .i64 2, .string (⟨#[]⟩ : ByteArray)]) (by kernel_rfl) (hs8.cells 0 0 rfl (by kernel_rfl)) a hf) ?_
  exact ⟨rfl, hs8.drop 2⟩
def dReq : ReqV := ⟨0, 0, ⟨0, ⟨#[]⟩, ⟨#[]⟩, ⟨#[]⟩, ⟨#[]⟩, 0⟩, #v[0, 0, 0, 0, 0, 0, 0, 0, 0, 0, 0, 0, 0, 0, 0, 0, 0, 0, 0, 0, 0, 0, 0, 0, 0, 0, 0, 0, 0, 0, 0, 0]⟩
theorem reqF : CellF ReqV.cells 40 := ⟨fun _ => rfl, fun _ => rfl⟩
theorem opsOK : ElemOK Tryz.prog 51 44 6 80 := ⟨by kernel_rfl, ⟨Tryz.t44, .agg #[.int .u8 0, .string ⟨#[]⟩, .string ⟨#[]⟩, .string ⟨#[]⟩, .string ⟨#[]⟩, .int .u64 0], by kernel_rfl, by kernel_rfl, by kernel_rfl, by kernel_rfl, by kernel_rfl⟩, by decide⟩
structure FG where
  k : Nat
  l : List OpV
  ad : Option Addr
  c : Nat
theorem take_op {l : List ReqV} {k : Nat} {d : ReqV} (hk : k < l.length) : (l.take (k + 1)).map (fun r => r.op) = (l.take k).map (fun r => r.op) ++ [(l.getD k d).op] := by
  rw [List.take_succ_eq_append_getElem hk, List.map_append, List.getD_eq_getElem?_getD, List.getElem?_eq_getElem hk]
  rfl
theorem few10_spec {w0 w : World} {L : List Asn} {ad : Option Addr} {c : Nat} (l : List ReqV) (hb : ∀ r ∈ l, Small r.op) (hln : l.length ≤ 1100000000000) (hr : ∀ w, St w0 L w → RowsAt w ad l.length 40 (fun k => ReqV.cells (l.getD k dReq))) (hs : St w0 L w) : Calls Tryz.prog 5 #[.slice ad l.length c] w (Ret fun rv w' => rv = .bool (few (l.map fun r => r.op)) ∧ St w0 L w') := by
  refine enter (args := [.slice ad l.length c]) Tryz.func5 rfl Tryz.ntmps5 (Nat.le_of_ble_eq_true (by kernel_rfl)) ?_
  refine GoC.slots (S' := [(0, .slice ad l.length c)]) rfl ?_
  refine GoC.seq ?_
  refine GoC.regT [1] (.rd 0 .done) (by kernel_rfl) (by kernel_rfl) ?_
  refine GoR.phaseK [(0, .gen [])] [2, 0] [] [(2, .bool false), (0, .slice ad l.length c)] (by kernel_rfl) rfl ak0 ?_
  refine GoR.done (GoQ.thn (GoC.seq ?_))
  refine GoC.regT [1] (.rd 0 .done) (by kernel_rfl) (by kernel_rfl) ?_
  refine GoR.phaseK [(0, .gen [])] [3, 2, 0] [] [(3, .slice none 0 0), (2, .bool false), (0, .slice ad l.length c)] (by kernel_rfl) rfl ak0 ?_
  refine GoR.done (GoQ.thn (GoC.seq (GoC.seq ?_)))
  refine GoC.regT [1] (.rd 0 .done) (by kernel_rfl) (by kernel_rfl) ?_
  refine GoR.phaseK [(0, .gen [])] [4, 3, 2, 0] [] [(4, .int .i64 0), (3, .slice none 0 0), (2, .bool false), (0, .slice ad l.length c)] (by kernel_rfl) rfl ak0 ?_
  refine GoR.done (GoQ.thn (GoC.block ?_))
  refine GoC.loop (T := FG) (fun x => [(0, .slice ad l.length c), (2, .bool false), (3, .slice x.ad x.l.length x.c), (4, .int .i64 (x.k : Nat))]) (fun x w => (x.k ≤ l.length ∧ x.l = (l.take x.k).map (fun r => r.op)) ∧ St w0 ((Sl x.ad x.c 44 6 OpV.cells x.l) :: L) w) (fun x => l.length - x.k) (⟨0, [], none, 0⟩) [0, 2, 3, 4] (by kernel_rfl) ⟨⟨Nat.zero_le _, rfl⟩, (hs.slNil 44 6 OpV.cells)⟩ ?_
  rintro x w1 ⟨hp, hs2⟩
  refine GoC.slots (S' := [(0, .slice ad l.length c), (2, .bool false), (3, .slice x.ad x.l.length x.c), (4, .int .i64 (x.k : Nat))]) rfl ?_
  refine GoC.seq (GoC.seq ?_)
  refine GoC.regT [15, 15, 15, 15] (.rd 0 (.rd 1 (.rd 2 (.rd 3 .done)))) (by kernel_rfl) (by kernel_rfl) ?_
  refine GoR.phaseK [(0, .gen []), (1, .gen []), (2, .gen []), (3, .gen [])] [8, 0, 2, 3, 4] [] [(8, .bool (decide (((x.k : Nat) : Int) < (l.length : Nat)))), (0, .slice ad l.length c), (2, .bool false), (3, .slice x.ad x.l.length x.c), (4, .int .i64 (x.k : Nat))] (by kernel_rfl) rfl ak0 ?_
  refine GoR.done (GoQ.thn ?_)
  refine GoC.cond (t := decide (((x.k : Nat) : Int) < (l.length : Nat))) (by kernel_rfl) (fun h3 => ?_) (fun h3 => ?_)
  · have h3' : ((x.k : Nat) : Int) < (l.length : Nat) := of_decide_eq_true h3
    have hk : x.k < l.length := by omega
    obtain ⟨ab, ao, rfl⟩ := RowsAt.isSome (hr _ (hs2.drop 1)) (by omega)
    refine GoC.skip (GoQ.thn (GoC.seq (GoC.block ?_)))
    refine GoC.regT [511, 511, 511, 511, 511, 511, 511, 511, 511] (.rd 0 (.rd 1 (.rd 2 (.rd 3 (.rd 4 (.rd 5 (.ef 6 (.ef 7 (.rd 8 .done))))))))) (by kernel_rfl) (by kernel_rfl) ?_
    refine GoR.phaseK [(0, .gen []), (1, .gen []), (2, .gen []), (3, .as_ (.pointer (some ⟨ab, ao + (x.k * 40), none⟩)) .at_), (4, .gen []), (5, .agg (OpV.cells ((l.getD x.k dReq).op)))] [16, 11, 0, 2, 3, 4] [(3, [.prop (0 ≤ ((x.k : Nat) : Int) ∧ ((x.k : Nat) : Int) < ((l.length : Nat) : Int)), .prop (Value.pointer (some (Addr.add ⟨ab, ao, none⟩ (Int.toNat (x.k : Nat) * 40))) = Value.pointer (some ⟨ab, ao + (x.k * 40), none⟩))]), (5, [.prop (Array.size (OpV.cells ((l.getD x.k dReq).op)) = 6), .cells ⟨ab, ao + (x.k * 40) + 2, none⟩ (OpV.cells ((l.getD x.k dReq).op))])] [(16, .agg (OpV.cells ((l.getD x.k dReq).op))), (11, .slice x.ad x.l.length x.c), (0, .slice (some ⟨ab, ao, none⟩) l.length c), (2, .bool false), (3, .slice x.ad x.l.length x.c), (4, .int .i64 (x.k : Nat))] (by kernel_rfl) rfl (ak (okp (by omega) (okp (ptrAdd _ _ _) ok0)) (ak (okp (by kernel_rfl) (oka (RowsAt.all (hr _ (hs2.drop 1)) (by first | omega | (simp only [List.length_set]; omega) | (simp only [List.length_set, List.length_append, List.length_cons, List.length_nil]; omega)) (Nat.le_of_ble_eq_true (by kernel_rfl)) (by kernel_rfl)) ok0)) ak0)) ?_
    refine GoR.sliceLit rfl (by kernel_rfl) (t := 51) (e := 44) (n := 1) (ps := [(0, .agg (OpV.cells ((l.getD x.k dReq).op)))]) (by kernel_rfl) (by kernel_rfl) (ti := Tryz.t44) (z := .agg #[.int .u8 0, .string (⟨#[]⟩ : ByteArray), .string (⟨#[]⟩ : ByteArray), .string (⟨#[]⟩ : ByteArray), .string (⟨#[]⟩ : ByteArray), .int .u64 0]) (by kernel_rfl) (by kernel_rfl) (by decide) (by decide) (cs := #[.int .u8 (((l.getD x.k dReq).op).kind), .string (((l.getD x.k dReq).op).key), .string (((l.getD x.k dReq).op).value), .string (((l.getD x.k dReq).op).old), .string (((l.getD x.k dReq).op).dest), .int .u64 (((l.getD x.k dReq).op).amount)]) (by kernel_rfl) hs2 ?_
    intro b4 w5 hs6 hz7
    have hs8 : St w0 ((Sl (some ⟨b4, 0, none⟩) 1 44 6 OpV.cells ([(((l.getD x.k dReq).op) : OpV)])) :: (Sl x.ad x.c 44 6 OpV.cells x.l) :: L) w5 := St.slOf (l := [(((l.getD x.k dReq).op) : OpV)]) (f := OpV.cells) hs6 hz7 (opF).size (by simp only [List.length_cons, List.length_nil, maxLen]; omega) (by kernel_rfl)
    refine ⟨(opn (by kernel_rfl)), ?_⟩
    have hs11 : St w0 ((Sl x.ad x.c 44 6 OpV.cells x.l) :: (Sl (some ⟨b4, 0, none⟩) 1 44 6 OpV.cells ([(((l.getD x.k dReq).op) : OpV)])) :: L) w5 := (hs8.pull 1 rfl)
    refine GoR.append rfl (by kernel_rfl) opsOK opF (ad := x.ad) (c := x.c) (xs := x.l) (ys := [(((l.getD x.k dReq).op) : OpV)]) (adx := some ⟨b4, 0, none⟩) (cx := 1) dOp (by kernel_rfl) hs11 (hs11.rows 1 rfl (opF).size dOp) (fun h => nomatch h) (by have hh : x.l.length ≤ x.k := (by rw [hp.2, List.length_map, List.length_take]; omega); simp only [List.length_cons, List.length_nil]; omega) (by have hh : x.l.length ≤ x.k := (by rw [hp.2, List.length_map, List.length_take]; omega); simp only [List.length_cons, List.length_nil]; omega) ?_
    intro ad12 c13 w9 hs10
    refine ⟨(opn (by kernel_rfl)), ?_⟩
    refine GoR.phaseK [(8, .gen [])] [3, 0, 2, 4] [] [(3, .slice ad12 ((x.l ++ ([(((l.getD x.k dReq).op) : OpV)])).length) c13), (0, .slice (some ⟨ab, ao, none⟩) l.length c), (2, .bool false), (4, .int .i64 (x.k : Nat))] (by kernel_rfl) rfl ak0 ?_
    refine GoR.done (GoQ.blkN (GoQ.thn ?_))
    refine GoC.regT [7, 7, 7] (.rd 0 (.rd 1 (.rd 2 .done))) (by kernel_rfl) (by kernel_rfl) ?_
    refine GoR.phaseK [(0, .gen []), (1, .as_ (.int .i64 ((x.k : Nat) + 1)) (.gen [])), (2, .gen [])] [4, 3, 0, 2] [(1, [.prop (Value.int .i64 (IntKind.i64.wrap ((x.k : Nat) + 1)) = Value.int .i64 ((x.k : Nat) + 1))])] [(4, .int .i64 ((x.k : Nat) + 1)), (3, .slice ad12 ((x.l ++ ([(((l.getD x.k dReq).op) : OpV)])).length) c13), (0, .slice (some ⟨ab, ao, none⟩) l.length c), (2, .bool false)] (by kernel_rfl) rfl (ak (okp (i64ok (by omega) (by omega)) ok0) ak0) ?_
    refine GoR.done ?_
    have hs14 : St w0 ((Sl (some ⟨b4, 0, none⟩) 1 44 6 OpV.cells ([(((l.getD x.k dReq).op) : OpV)])) :: (Sl ad12 c13 44 6 OpV.cells (x.l ++ ([(((l.getD x.k dReq).op) : OpV)]))) :: L) w9 := ((hs10.pull 0 rfl).pull 1 rfl)
    have hs15 : St w0 ((Sl ad12 c13 44 6 OpV.cells (x.l ++ ([(((l.getD x.k dReq).op) : OpV)]))) :: L) w9 := hs14.drop 1
    exact GoQ.back (⟨x.k + 1, x.l ++ ([(((l.getD x.k dReq).op) : OpV)]), ad12, c13⟩) [0, 2, 3, 4] (by kernel_rfl) (by simp only; omega) ⟨(by refine ⟨by simp only; omega, ?_⟩; simp only [hp.2]; exact (take_op hk).symm), hs15⟩
  · have h3' : ¬ (((x.k : Nat) : Int) < (l.length : Nat)) := of_decide_eq_false h3
    have hxl : x.l = l.map (fun r => r.op) := by rw [hp.2, List.take_of_length_le (by omega)]
    refine GoC.exit (GoQ.skipC (GoQ.skipL (GoQ.hit (GoQ.thn (GoC.seq ?_)))))
    refine GoC.regT [7, 7, 7] (.rd 0 (.ef 1 (.rd 2 .done))) (by kernel_rfl) (by kernel_rfl) ?_
    refine GoR.phaseK [(0, .gen [])] [19, 2] [] [(19, .slice x.ad x.l.length x.c), (2, .bool false)] (by kernel_rfl) rfl ak0 ?_
    refine GoR.call rfl rfl (by kernel_rfl) (f := 16) (args := #[.slice x.ad x.l.length x.c]) (by kernel_rfl) Tryz.call16 (few_spec x.l (by rw [hxl]; intro q hq; obtain ⟨r, hr1, rfl⟩ := List.mem_map.1 hq; exact hb r hr1) (by rw [hxl, List.length_map]; omega) (fun w h => h.rows 0 rfl opF.size _) hs2) ?_
    rintro v17 w18 ⟨rfl, hs16⟩
    refine ⟨(opn (by kernel_rfl)), ?_⟩
    refine GoR.phaseK [(2, .gen [])] [2] [] [(2, .bool (few x.l))] (by kernel_rfl) rfl ak0 ?_
    refine GoR.done (GoQ.thn (GoC.ret ?_))
    refine GoQ.done (.inl rfl) (v := .bool (few x.l)) (fun a hf => results1 rfl (by kernel_rfl) a hf) ?_
    exact ⟨by rw [hxl], hs16.drop 1⟩
end Go.Proofs.YtkiaagddmlddpaaGreatDoor
