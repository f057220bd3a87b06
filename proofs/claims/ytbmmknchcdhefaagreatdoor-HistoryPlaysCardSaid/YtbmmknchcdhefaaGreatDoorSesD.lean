/-
  Package session: nil roads; law10: Few.
-/
import Derived.Test.YtbmmknchcdhefaaGreatDoorSxT
import Derived.Test.YtbmmknchcdhefaaGreatDoorProg
import Derived.Test.YtbmmknchcdhefaaGreatDoorSesC
import Derived.Test.YtbmmknchcdhefaaGreatDoorLedG
namespace Go.Proofs.YtbmmknchcdhefaaGreatDoor
open Go.RowKit Go.Sx
set_option linter.unusedVariables false
set_option linter.unusedSimpArgs false
set_option linter.unnecessarySimpa false
set_option maxRecDepth 100000
def dReq : ReqV := ⟨0, 0, ⟨0, ⟨#[]⟩, ⟨#[]⟩, ⟨#[]⟩, ⟨#[]⟩, 0⟩, #v[0, 0, 0, 0, 0, 0, 0, 0, 0, 0, 0, 0, 0, 0, 0, 0, 0, 0, 0, 0, 0, 0, 0, 0, 0, 0, 0, 0, 0, 0, 0, 0]⟩
theorem reqF : CellF ReqV.cells 40 := ⟨fun _ => rfl, fun _ => rfl⟩
theorem opsOK : ElemOK Tryz.prog 60 44 6 80 := ⟨by kernel_rfl, ⟨Tryz.t44, .agg #[.int .u8 0, .string ⟨#[]⟩, .string ⟨#[]⟩, .string ⟨#[]⟩, .string ⟨#[]⟩, .int .u64 0], by kernel_rfl, by kernel_rfl, by kernel_rfl, by kernel_rfl, by kernel_rfl⟩, by decide⟩
structure FG where
  k : Nat
  l : List OpV
  ad : Option Addr
  c : Nat
theorem take_op {l : List ReqV} {k : Nat} {d : ReqV} (hk : k < l.length) : (l.take (k + 1)).map (fun r => r.op) = (l.take k).map (fun r => r.op) ++ [(l.getD k d).op] := by
  rw [List.take_succ_eq_append_getElem hk, List.map_append, List.getD_eq_getElem?_getD, List.getElem?_eq_getElem hk]
  rfl
theorem few10_spec {w0 w : World} {L : List Asn} {ad : Option Addr} {c : Nat} (l : List ReqV) (hb : ∀ r ∈ l, Small r.op) (hln : l.length ≤ 1100000000000) (hr : ∀ w, St w0 L w → RowsAt w ad l.length 40 (fun k => ReqV.cells (l.getD k dReq))) (hs : St w0 L w) : Calls Tryz.prog 7 #[.slice ad l.length c] w (Ret fun rv w' => rv = .bool (few (l.map fun r => r.op)) ∧ St w0 L w') := by
  refine enter (args := [.slice ad l.length c]) Tryz.func7 rfl Tryz.ntmps7 (Nat.le_of_ble_eq_true (by kernel_rfl)) ?_
  refine GoC.slots (S' := [(0, .slice ad l.length c)]) rfl ?_
  refine GoC.seq ?_
  refine Xt (.rd 0 .done) ?_
  refine Xk [(0, .gen [])] [] [(2, .bool false), (0, .slice ad l.length c)] ak0 ?_
  refine GoR.done (GoQ.thn (GoC.seq ?_))
  refine Xt (.rd 0 .done) ?_
  refine Xk [(0, .gen [])] [] [(3, .slice none 0 0), (2, .bool false), (0, .slice ad l.length c)] ak0 ?_
  refine GoR.done (GoQ.thn (GoC.seq (GoC.seq ?_)))
  refine Xt (.rd 0 .done) ?_
  refine Xk [(0, .gen [])] [] [(4, .int .i64 0), (3, .slice none 0 0), (2, .bool false), (0, .slice ad l.length c)] ak0 ?_
  refine GoR.done (GoQ.thn (GoC.block ?_))
  refine GoC.loop (T := FG) (fun x => [(0, .slice ad l.length c), (2, .bool false), (3, .slice x.ad x.l.length x.c), (4, .int .i64 (x.k : Nat))]) (fun x w => (x.k ≤ l.length ∧ x.l = (l.take x.k).map (fun r => r.op)) ∧ St w0 ((Sl x.ad x.c 44 6 OpV.cells x.l) :: L) w) (fun x => l.length - x.k) (⟨0, [], none, 0⟩) [0, 2, 3, 4] (by kernel_rfl) ⟨⟨Nat.zero_le _, rfl⟩, (hs.slNil 44 6 OpV.cells)⟩ ?_
  rintro x w1 ⟨hp, hs2⟩
  refine GoC.slots (S' := [(0, .slice ad l.length c), (2, .bool false), (3, .slice x.ad x.l.length x.c), (4, .int .i64 (x.k : Nat))]) rfl ?_
  refine GoC.seq (GoC.seq ?_)
  refine Xt (.rd 0 (.rd 1 (.rd 2 (.rd 3 .done)))) ?_
  refine Xk [(0, .gen []), (1, .gen []), (2, .gen []), (3, .gen [])] [] [(8, .bool (decide (((x.k : Nat) : Int) < (l.length : Nat)))), (0, .slice ad l.length c), (2, .bool false), (3, .slice x.ad x.l.length x.c), (4, .int .i64 (x.k : Nat))] ak0 ?_
  refine GoR.done (GoQ.thn ?_)
  refine Xc (t := decide (((x.k : Nat) : Int) < (l.length : Nat))) (fun h3 => ?_) (fun h3 => ?_)
  · have h3' : ((x.k : Nat) : Int) < (l.length : Nat) := of_decide_eq_true h3
    have hk : x.k < l.length := by omega
    obtain ⟨ab, ao, rfl⟩ := RowsAt.isSome (hr _ (hs2.drop 1)) (by omega)
    refine GoC.skip (GoQ.thn (GoC.seq (GoC.block ?_)))
    refine Xt (.rd 0 (.rd 1 (.rd 2 (.rd 3 (.rd 4 (.rd 5 (.ef 6 (.ef 7 (.rd 8 .done))))))))) ?_
    refine Xk [(0, .gen []), (1, .gen []), (2, .gen []), (3, .as_ (vp ab (ao + (x.k * 40))) .at_), (4, .gen []), (5, .agg (OpV.cells ((l.getD x.k dReq).op)))] [(3, [.prop (0 ≤ ((x.k : Nat) : Int) ∧ ((x.k : Nat) : Int) < ((l.length : Nat) : Int)), .prop (Value.pointer (some (Addr.add ⟨ab, ao, none⟩ (Int.toNat (x.k : Nat) * 40))) = Value.pointer (some ⟨ab, ao + (x.k * 40), none⟩))]), (5, [.prop (Array.size (OpV.cells ((l.getD x.k dReq).op)) = 6), .cells ⟨ab, ao + (x.k * 40) + 2, none⟩ (OpV.cells ((l.getD x.k dReq).op))])] [(16, .agg (OpV.cells ((l.getD x.k dReq).op))), (11, .slice x.ad x.l.length x.c), (0, vl ab ao l.length c), (2, .bool false), (3, .slice x.ad x.l.length x.c), (4, .int .i64 (x.k : Nat))] (ak (okp (by omega) (okp (ptrAdd _ _ _) ok0)) (ak (okp (by kernel_rfl) (oka (RowsAt.all (hr _ (hs2.drop 1)) (by first | omega | (simp only [List.length_set]; omega) | (simp only [List.length_set, List.length_append, List.length_cons, List.length_nil]; omega)) (Nat.le_of_ble_eq_true (by kernel_rfl)) (by kernel_rfl)) ok0)) ak0)) ?_
    refine GoR.sliceLit rfl (by kernel_rfl) (t := 60) (e := 44) (n := 1) (ps := [(0, .agg (OpV.cells ((l.getD x.k dReq).op)))]) (by kernel_rfl) (by kernel_rfl) (ti := Tryz.t44) (z := .agg #[.int .u8 0, .string (⟨#[]⟩ : ByteArray), .string (⟨#[]⟩ : ByteArray), .string (⟨#[]⟩ : ByteArray), .string (⟨#[]⟩ : ByteArray), .int .u64 0]) (by kernel_rfl) (by kernel_rfl) (by decide) (by decide) (cs := #[.int .u8 (((l.getD x.k dReq).op).kind), .string (((l.getD x.k dReq).op).key), .string (((l.getD x.k dReq).op).value), .string (((l.getD x.k dReq).op).old), .string (((l.getD x.k dReq).op).dest), .int .u64 (((l.getD x.k dReq).op).amount)]) (by kernel_rfl) hs2 ?_
    intro b4 w5 hs6 hz7
    have hs8 : St w0 ((Sl (some ⟨b4, 0, none⟩) 1 44 6 OpV.cells ([(((l.getD x.k dReq).op) : OpV)])) :: (Sl x.ad x.c 44 6 OpV.cells x.l) :: L) w5 := St.slOf (l := [(((l.getD x.k dReq).op) : OpV)]) (f := OpV.cells) hs6 hz7 (opF).size (by simp only [List.length_cons, List.length_nil, maxLen]; omega) (by kernel_rfl)
    refine ⟨Xo, ?_⟩
    have hs11 : St w0 ((Sl x.ad x.c 44 6 OpV.cells x.l) :: (Sl (some ⟨b4, 0, none⟩) 1 44 6 OpV.cells ([(((l.getD x.k dReq).op) : OpV)])) :: L) w5 := (hs8.pull 1 rfl)
    refine GoR.append rfl (by kernel_rfl) opsOK opF (ad := x.ad) (c := x.c) (xs := x.l) (ys := [(((l.getD x.k dReq).op) : OpV)]) (adx := some ⟨b4, 0, none⟩) (cx := 1) dOp (by kernel_rfl) hs11 (hs11.rows 1 rfl (opF).size dOp) (fun h => nomatch h) (by have hh : x.l.length ≤ x.k := (by rw [hp.2, List.length_map, List.length_take]; omega); simp only [List.length_cons, List.length_nil]; omega) (by have hh : x.l.length ≤ x.k := (by rw [hp.2, List.length_map, List.length_take]; omega); simp only [List.length_cons, List.length_nil]; omega) ?_
    intro ad12 c13 w9 hs10
    refine ⟨Xo, ?_⟩
    refine Xk [(8, .gen [])] [] [(3, .slice ad12 ((x.l ++ ([(((l.getD x.k dReq).op) : OpV)])).length) c13), (0, vl ab ao l.length c), (2, .bool false), (4, .int .i64 (x.k : Nat))] ak0 ?_
    refine GoR.done (GoQ.blkN (GoQ.thn ?_))
    refine Xt (.rd 0 (.rd 1 (.rd 2 .done))) ?_
    refine Xk [(0, .gen []), (1, .as_ (.int .i64 ((x.k : Nat) + 1)) (.gen [])), (2, .gen [])] [(1, [.prop (Value.int .i64 (IntKind.i64.wrap ((x.k : Nat) + 1)) = Value.int .i64 ((x.k : Nat) + 1))])] [(4, .int .i64 ((x.k : Nat) + 1)), (3, .slice ad12 ((x.l ++ ([(((l.getD x.k dReq).op) : OpV)])).length) c13), (0, vl ab ao l.length c), (2, .bool false)] (ak (okp (i64ok (by omega) (by omega)) ok0) ak0) ?_
    refine GoR.done ?_
    have hs14 : St w0 ((Sl (some ⟨b4, 0, none⟩) 1 44 6 OpV.cells ([(((l.getD x.k dReq).op) : OpV)])) :: (Sl ad12 c13 44 6 OpV.cells (x.l ++ ([(((l.getD x.k dReq).op) : OpV)]))) :: L) w9 := ((hs10.pull 0 rfl).pull 1 rfl)
    have hs15 : St w0 ((Sl ad12 c13 44 6 OpV.cells (x.l ++ ([(((l.getD x.k dReq).op) : OpV)]))) :: L) w9 := hs14.drop 1
    exact GoQ.back (⟨x.k + 1, x.l ++ ([(((l.getD x.k dReq).op) : OpV)]), ad12, c13⟩) [0, 2, 3, 4] (by kernel_rfl) (by simp only; omega) ⟨(by refine ⟨by simp only; omega, ?_⟩; simp only [hp.2]; exact (take_op hk).symm), hs15⟩
  · have h3' : ¬ (((x.k : Nat) : Int) < (l.length : Nat)) := of_decide_eq_false h3
    have hxl : x.l = l.map (fun r => r.op) := by rw [hp.2, List.take_of_length_le (by omega)]
    refine GoC.exit (GoQ.skipC (GoQ.skipL (GoQ.hit (GoQ.thn (GoC.seq ?_)))))
    refine Xt (.rd 0 (.ef 1 (.rd 2 .done))) ?_
    refine Xk [(0, .gen [])] [] [(19, .slice x.ad x.l.length x.c), (2, .bool false)] ak0 ?_
    refine Xa (f := 18) (args := #[.slice x.ad x.l.length x.c]) Tryz.call18 (few_spec x.l (by rw [hxl]; intro q hq; obtain ⟨r, hr1, rfl⟩ := List.mem_map.1 hq; exact hb r hr1) (by rw [hxl, List.length_map]; omega) (fun w h => h.rows 0 rfl opF.size _) hs2) ?_
    rintro v17 w18 ⟨rfl, hs16⟩
    refine ⟨Xo, ?_⟩
    refine Xk [(2, .gen [])] [] [(2, .bool (few x.l))] ak0 ?_
    refine GoR.done (GoQ.thn (GoC.ret ?_))
    refine X1 (v := .bool (few x.l)) ?_
    exact ⟨by rw [hxl], hs16.drop 1⟩
end Go.Proofs.YtbmmknchcdhefaaGreatDoor
