/-
  Rows of requests; calls as the document's. Conditions: none beside each theorem's own.
-/
import Derived.Test.YtbmmknchcdhefaaGreatDoorSxT
import Derived.Test.YtbmmknchcdhefaaGreatDoorHisG
import Derived.Test.YtbmmknchcdhefaaGreatDoorHiR
namespace Go.Proofs.YtbmmknchcdhefaaGreatDoor
open Go.RowKit Go.Sx
set_option linter.unusedVariables false
set_option linter.unusedSimpArgs false
set_option linter.unnecessarySimpa false
set_option maxRecDepth 100000
theorem row_take {l : List CallV} {o : List Nat} {k : Nat} (hk : k < o.length) : rowL l (o.take (k + 1)) = rowL l (o.take k) ++ [reqOf (l.getD (o.getD k 0) dCall)] := by
  rw [take_succ_getD (d := 0) hk, rowL_snoc]
theorem rrow_spec {w0 w : World} {L : List Asn} {al : Option Addr} {cl : Nat} {oa : Option Addr} {oc : Nat} (l : List CallV) (o : List Nat) (hll : l.length ≤ 1000000) (ho : ∀ i ∈ o, i < l.length) (hol : o.length ≤ 1000000) (hr1 : ∀ w, St w0 L w → RowsAt w al l.length 13 (fun k => CallV.cells (l.getD k dCall))) (hr2 : ∀ w, St w0 L w → RowsAt w oa o.length 1 (fun k => natC (o.getD k (0 : Nat)))) (hs : St w0 (L) w) : Calls Tryz.prog 39 #[.slice al l.length cl, .slice oa o.length oc] w (Ret fun rv w' => ∃ (ra2 : Option Addr) (rc2 : Nat), rv = .slice ra2 ((rowL l o).length) rc2 ∧ St w0 ((Sl ra2 rc2 56 40 ReqV.cells (rowL l o)) :: L) w') := by
  refine enter (args := [.slice al l.length cl, .slice oa o.length oc]) Tryz.func39 rfl Tryz.ntmps39 (Nat.le_of_ble_eq_true (by kernel_rfl)) ?_
  refine GoC.slots (S' := [(0, .slice al l.length cl), (1, .slice oa o.length oc)]) rfl ?_
  refine GoC.seq ?_
  refine Xt (.rd 0 .done) ?_
  refine Xk [(0, .gen [])] [] [(4, .slice none 0 0), (0, .slice al l.length cl), (1, .slice oa o.length oc)] ak0 ?_
  refine GoR.done (GoQ.thn (GoC.seq ?_))
  refine Xt (.rd 0 .done) ?_
  refine Xk [(0, .gen [])] [] [(5, .slice none 0 0), (4, .slice none 0 0), (0, .slice al l.length cl), (1, .slice oa o.length oc)] ak0 ?_
  refine GoR.done (GoQ.thn (GoC.seq (GoC.seq ?_)))
  refine Xt (.rd 0 .done) ?_
  refine Xk [(0, .gen [])] [] [(6, .int .i64 0), (5, .slice none 0 0), (4, .slice none 0 0), (0, .slice al l.length cl), (1, .slice oa o.length oc)] ak0 ?_
  refine GoR.done (GoQ.thn (GoC.block ?_))
  have hs1 : St w0 ((Sl none 0 56 40 ReqV.cells ([] : List ReqV)) :: L) w := St.slNil hs 56 40 ReqV.cells
  refine GoC.loop (T := Nat × (Option Addr) × Nat) (fun gg => [(0, .slice al l.length cl), (1, .slice oa o.length oc), (4, .slice none 0 0), (5, .slice gg.2.1 ((rowL l (o.take gg.1)).length) gg.2.2), (6, .int .i64 (gg.1 : Nat))]) (fun gg w => (gg.1 ≤ o.length) ∧ St w0 ((Sl gg.2.1 gg.2.2 56 40 ReqV.cells (rowL l (o.take gg.1))) :: L) w) (fun gg => o.length - gg.1) (0, none, 0) [0, 1, 4, 5, 6] (by kernel_rfl) ⟨Nat.zero_le _, hs1⟩ ?_
  rintro ⟨k, ra, rc⟩ w2 ⟨hp0, hs3⟩
  have hp : k ≤ o.length := hp0
  have hs4 : St w0 ((Sl ra rc 56 40 ReqV.cells (rowL l (o.take k))) :: L) w2 := hs3
  refine GoC.slots (S' := [(0, .slice al l.length cl), (1, .slice oa o.length oc), (4, .slice none 0 0), (5, .slice ra ((rowL l (o.take k)).length) rc), (6, .int .i64 (k : Nat))]) rfl ?_
  refine GoC.seq (GoC.seq ?_)
  refine Xt (.rd 0 (.rd 1 (.rd 2 (.rd 3 .done)))) ?_
  refine Xk [(0, .gen []), (1, .gen []), (2, .gen []), (3, .gen [])] [] [(11, .bool (decide (((k : Nat) : Int) < (o.length : Nat)))), (0, .slice al l.length cl), (1, .slice oa o.length oc), (4, .slice none 0 0), (5, .slice ra ((rowL l (o.take k)).length) rc), (6, .int .i64 (k : Nat))] ak0 ?_
  refine GoR.done (GoQ.thn ?_)
  refine Xc (t := decide (((k : Nat) : Int) < (o.length : Nat))) (fun h5 => ?_) (fun h5 => ?_)
  · have h5' : ((k : Nat) : Int) < (o.length : Nat) := of_decide_eq_true h5
    have hk : k < o.length := by omega
    have hx := ho _ (getD_mem (d := 0) hk)
    have hrl : (rowL l (o.take k)).length = k := by rw [rowL_length, List.length_take]; omega
    obtain ⟨ab6, ao7, rfl⟩ := RowsAt.isSome (hr1 _ (hs4.drop 1)) (by omega)
    obtain ⟨ab8, ao9, rfl⟩ := RowsAt.isSome (hr2 _ (hs4.drop 1)) (by omega)
    refine GoC.skip (GoQ.thn (GoC.seq (GoC.block (GoC.seq ?_))))
    refine Xt (.rd 0 (.rd 1 (.rd 2 (.rd 3 (.rd 4 (.rd 5 (.rd 6 (.ef 7 (.ef 8 .done))))))))) ?_
    refine Xk [(0, .gen []), (1, .gen []), (2, .gen []), (3, .as_ (vp ab8 (ao9 + (k * 1))) .at_), (4, .gen [.int .i64 ((o.getD k (0 : Nat)) : Nat)]), (5, .as_ (vp ab6 (ao7 + ((o.getD k (0 : Nat)) * 13))) .at_), (6, .agg (CallV.cells (l.getD (o.getD k (0 : Nat)) dCall)))] [(3, [.prop (0 ≤ ((k : Nat) : Int) ∧ ((k : Nat) : Int) < ((o.length : Nat) : Int)), .prop (Value.pointer (some (Addr.add ⟨ab8, ao9, none⟩ (Int.toNat (k : Nat) * 1))) = Value.pointer (some ⟨ab8, ao9 + (k * 1), none⟩))]), (4, [.cell ⟨ab8, ao9 + (k * 1), none⟩ (.int .i64 ((o.getD k (0 : Nat)) : Nat))]), (5, [.prop (0 ≤ (((o.getD k (0 : Nat)) : Nat) : Int) ∧ (((o.getD k (0 : Nat)) : Nat) : Int) < ((l.length : Nat) : Int)), .prop (Value.pointer (some (Addr.add ⟨ab6, ao7, none⟩ (Int.toNat ((o.getD k (0 : Nat)) : Nat) * 13))) = Value.pointer (some ⟨ab6, ao7 + ((o.getD k (0 : Nat)) * 13), none⟩))]), (6, [.prop (Array.size (CallV.cells (l.getD (o.getD k (0 : Nat)) dCall)) = 13), .cells ⟨ab6, ao7 + ((o.getD k (0 : Nat)) * 13), none⟩ (CallV.cells (l.getD (o.getD k (0 : Nat)) dCall))])] [(20, .agg (CallV.cells (l.getD (o.getD k (0 : Nat)) dCall))), (0, vl ab6 ao7 l.length cl), (1, vl ab8 ao9 o.length oc), (4, .slice none 0 0), (5, .slice ra ((rowL l (o.take k)).length) rc), (6, .int .i64 (k : Nat))] (ak (okp (by omega) (okp (ptrAdd _ _ _) ok0)) (ak (okc (RowsAt.at0 (hr2 _ (hs4.drop 1)) (k := k) (by first | omega | (simp only [List.length_set]; omega) | (simp only [List.length_set, List.length_append, List.length_cons, List.length_nil]; omega)) (j := 0) (by decide) (by kernel_rfl)) ok0) (ak (okp (by omega) (okp (ptrAdd _ _ _) ok0)) (ak (okp (by kernel_rfl) (oka (RowsAt.all0 (hr1 _ (hs4.drop 1)) (by first | omega | (simp only [List.length_set]; omega) | (simp only [List.length_set, List.length_append, List.length_cons, List.length_nil]; omega)) (Nat.le_of_ble_eq_true (by kernel_rfl)) (by kernel_rfl)) ok0)) ak0)))) ?_
    refine GoR.alloc rfl rfl (by kernel_rfl) (z := .agg (CallV.cells dCall)) (by kernel_rfl) hs4 (cs := CallV.cells dCall) (by kernel_rfl) ?_
    intro b10 w11 hs12
    refine ⟨Xo, ?_⟩
    refine GoR.store rfl rfl (by kernel_rfl) (b := b10) (off := 0) (v := .agg (CallV.cells (l.getD (o.getD k (0 : Nat)) dCall))) (by kernel_rfl) (by kernel_rfl) (ti := Tryz.t78) (by kernel_rfl) hs12 0 rfl (by kernel_rfl) (by kernel_rfl) (Nat.le_of_ble_eq_true (by kernel_rfl)) (cs' := CallV.cells (l.getD (o.getD k (0 : Nat)) dCall)) (L' := (Cel b10 (CallV.cells (l.getD (o.getD k (0 : Nat)) dCall)) 78) :: (Sl ra rc 56 40 ReqV.cells (rowL l (o.take k))) :: L) (by kernel_rfl) rfl ?_
    intro w13 hs14
    refine ⟨Xo, ?_⟩
    refine GoR.done (GoQ.thn ?_)
    refine Xt (.rd 0 (.rd 1 (.rd 2 (.rd 3 (.rd 4 (.rd 5 (.rd 6 (.rd 7 (.ef 8 (.ef 9 (.rd 10 .done))))))))))) ?_
    refine Xk [(0, .gen []), (1, .gen []), (2, .gen [.int .i64 ((l.getD (o.getD k (0 : Nat)) dCall).client)]), (3, .gen []), (4, .gen [.int .u64 ((l.getD (o.getD k (0 : Nat)) dCall).time)]), (5, .gen []), (6, .agg (OpV.cells ((l.getD (o.getD k (0 : Nat)) dCall).op))), (7, .gen [])] [(2, [.cell ⟨b10, 0, none⟩ (.int .i64 ((l.getD (o.getD k (0 : Nat)) dCall).client))]), (4, [.cell ⟨b10, 1, none⟩ (.int .u64 ((l.getD (o.getD k (0 : Nat)) dCall).time))]), (6, [.prop (Array.size (OpV.cells ((l.getD (o.getD k (0 : Nat)) dCall).op)) = 6), .cells ⟨b10, 2, none⟩ (OpV.cells ((l.getD (o.getD k (0 : Nat)) dCall).op))])] [(28, .agg #[.int .i64 ((l.getD (o.getD k (0 : Nat)) dCall).client), .int .u64 ((l.getD (o.getD k (0 : Nat)) dCall).time), .int .u8 (((l.getD (o.getD k (0 : Nat)) dCall).op).kind), .string (((l.getD (o.getD k (0 : Nat)) dCall).op).key), .string (((l.getD (o.getD k (0 : Nat)) dCall).op).value), .string (((l.getD (o.getD k (0 : Nat)) dCall).op).old), .string (((l.getD (o.getD k (0 : Nat)) dCall).op).dest), .int .u64 (((l.getD (o.getD k (0 : Nat)) dCall).op).amount), .int .u8 0, .int .u8 0, .int .u8 0, .int .u8 0, .int .u8 0, .int .u8 0, .int .u8 0, .int .u8 0, .int .u8 0, .int .u8 0, .int .u8 0, .int .u8 0, .int .u8 0, .int .u8 0, .int .u8 0, .int .u8 0, .int .u8 0, .int .u8 0, .int .u8 0, .int .u8 0, .int .u8 0, .int .u8 0, .int .u8 0, .int .u8 0, .int .u8 0, .int .u8 0, .int .u8 0, .int .u8 0, .int .u8 0, .int .u8 0, .int .u8 0, .int .u8 0]), (21, .slice ra ((rowL l (o.take k)).length) rc), (0, vl ab6 ao7 l.length cl), (1, vl ab8 ao9 o.length oc), (4, .slice none 0 0), (5, .slice ra ((rowL l (o.take k)).length) rc), (6, .int .i64 (k : Nat))] (ak (okc (hs14.cell 0 rfl (by kernel_rfl)) ok0) (ak (okc (hs14.cell 0 rfl (by kernel_rfl)) ok0) (ak (okp (by kernel_rfl) (oka (hs14.cells 0 2 rfl (by kernel_rfl)) ok0)) ak0))) ?_
    refine GoR.sliceLit rfl (by kernel_rfl) (t := 23) (e := 56) (n := 1) (ps := [(0, .agg #[.int .i64 ((l.getD (o.getD k (0 : Nat)) dCall).client), .int .u64 ((l.getD (o.getD k (0 : Nat)) dCall).time), .int .u8 (((l.getD (o.getD k (0 : Nat)) dCall).op).kind), .string (((l.getD (o.getD k (0 : Nat)) dCall).op).key), .string (((l.getD (o.getD k (0 : Nat)) dCall).op).value), .string (((l.getD (o.getD k (0 : Nat)) dCall).op).old), .string (((l.getD (o.getD k (0 : Nat)) dCall).op).dest), .int .u64 (((l.getD (o.getD k (0 : Nat)) dCall).op).amount), .int .u8 0, .int .u8 0, .int .u8 0, .int .u8 0, .int .u8 0, .int .u8 0, .int .u8 0, .int .u8 0, .int .u8 0, .int .u8 0, .int .u8 0, .int .u8 0, .int .u8 0, .int .u8 0, .int .u8 0, .int .u8 0, .int .u8 0, .int .u8 0, .int .u8 0, .int .u8 0, .int .u8 0, .int .u8 0, .int .u8 0, .int .u8 0, .int .u8 0, .int .u8 0, .int .u8 0, .int .u8 0, .int .u8 0, .int .u8 0, .int .u8 0, .int .u8 0])]) (by kernel_rfl) (by kernel_rfl) (ti := Tryz.t56) (z := .agg (ReqV.cells dReq)) (by kernel_rfl) (by kernel_rfl) (by decide) (by decide) (cs := #[.int .i64 ((l.getD (o.getD k (0 : Nat)) dCall).client), .int .u64 ((l.getD (o.getD k (0 : Nat)) dCall).time), .int .u8 (((l.getD (o.getD k (0 : Nat)) dCall).op).kind), .string (((l.getD (o.getD k (0 : Nat)) dCall).op).key), .string (((l.getD (o.getD k (0 : Nat)) dCall).op).value), .string (((l.getD (o.getD k (0 : Nat)) dCall).op).old), .string (((l.getD (o.getD k (0 : Nat)) dCall).op).dest), .int .u64 (((l.getD (o.getD k (0 : Nat)) dCall).op).amount), .int .u8 0, .int .u8 0, .int .u8 0, .int .u8 0, .int .u8 0, .int .u8 0, .int .u8 0, .int .u8 0, .int .u8 0, .int .u8 0, .int .u8 0, .int .u8 0, .int .u8 0, .int .u8 0, .int .u8 0, .int .u8 0, .int .u8 0, .int .u8 0, .int .u8 0, .int .u8 0, .int .u8 0, .int .u8 0, .int .u8 0, .int .u8 0, .int .u8 0, .int .u8 0, .int .u8 0, .int .u8 0, .int .u8 0, .int .u8 0, .int .u8 0, .int .u8 0]) (by kernel_rfl) hs14 ?_
    intro b15 w16 hs17 hz18
    have hs19 : St w0 ((Sl (some ⟨b15, 0, none⟩) 1 56 40 ReqV.cells ([(⟨(l.getD (o.getD k (0 : Nat)) dCall).client, (l.getD (o.getD k (0 : Nat)) dCall).time, ⟨((l.getD (o.getD k (0 : Nat)) dCall).op).kind, ((l.getD (o.getD k (0 : Nat)) dCall).op).key, ((l.getD (o.getD k (0 : Nat)) dCall).op).value, ((l.getD (o.getD k (0 : Nat)) dCall).op).old, ((l.getD (o.getD k (0 : Nat)) dCall).op).dest, ((l.getD (o.getD k (0 : Nat)) dCall).op).amount⟩, #v[0, 0, 0, 0, 0, 0, 0, 0, 0, 0, 0, 0, 0, 0, 0, 0, 0, 0, 0, 0, 0, 0, 0, 0, 0, 0, 0, 0, 0, 0, 0, 0]⟩ : ReqV)])) :: (Cel b10 (CallV.cells (l.getD (o.getD k (0 : Nat)) dCall)) 78) :: (Sl ra rc 56 40 ReqV.cells (rowL l (o.take k))) :: L) w16 := St.slOf (l := [(⟨(l.getD (o.getD k (0 : Nat)) dCall).client, (l.getD (o.getD k (0 : Nat)) dCall).time, ⟨((l.getD (o.getD k (0 : Nat)) dCall).op).kind, ((l.getD (o.getD k (0 : Nat)) dCall).op).key, ((l.getD (o.getD k (0 : Nat)) dCall).op).value, ((l.getD (o.getD k (0 : Nat)) dCall).op).old, ((l.getD (o.getD k (0 : Nat)) dCall).op).dest, ((l.getD (o.getD k (0 : Nat)) dCall).op).amount⟩, #v[0, 0, 0, 0, 0, 0, 0, 0, 0, 0, 0, 0, 0, 0, 0, 0, 0, 0, 0, 0, 0, 0, 0, 0, 0, 0, 0, 0, 0, 0, 0, 0]⟩ : ReqV)]) (f := ReqV.cells) hs17 hz18 (reqF).size (by simp only [List.length_cons, List.length_nil, maxLen]; omega) (by kernel_rfl)
    refine ⟨Xo, ?_⟩
    have hs22 : St w0 ((Sl ra rc 56 40 ReqV.cells (rowL l (o.take k))) :: (Sl (some ⟨b15, 0, none⟩) 1 56 40 ReqV.cells ([(⟨(l.getD (o.getD k (0 : Nat)) dCall).client, (l.getD (o.getD k (0 : Nat)) dCall).time, ⟨((l.getD (o.getD k (0 : Nat)) dCall).op).kind, ((l.getD (o.getD k (0 : Nat)) dCall).op).key, ((l.getD (o.getD k (0 : Nat)) dCall).op).value, ((l.getD (o.getD k (0 : Nat)) dCall).op).old, ((l.getD (o.getD k (0 : Nat)) dCall).op).dest, ((l.getD (o.getD k (0 : Nat)) dCall).op).amount⟩, #v[0, 0, 0, 0, 0, 0, 0, 0, 0, 0, 0, 0, 0, 0, 0, 0, 0, 0, 0, 0, 0, 0, 0, 0, 0, 0, 0, 0, 0, 0, 0, 0]⟩ : ReqV)])) :: (Cel b10 (CallV.cells (l.getD (o.getD k (0 : Nat)) dCall)) 78) :: L) w16 := (hs19.pull 2 rfl)
    refine GoR.append rfl (by kernel_rfl) reqsOK reqF (ad := ra) (c := rc) (xs := rowL l (o.take k)) (ys := [(⟨(l.getD (o.getD k (0 : Nat)) dCall).client, (l.getD (o.getD k (0 : Nat)) dCall).time, ⟨((l.getD (o.getD k (0 : Nat)) dCall).op).kind, ((l.getD (o.getD k (0 : Nat)) dCall).op).key, ((l.getD (o.getD k (0 : Nat)) dCall).op).value, ((l.getD (o.getD k (0 : Nat)) dCall).op).old, ((l.getD (o.getD k (0 : Nat)) dCall).op).dest, ((l.getD (o.getD k (0 : Nat)) dCall).op).amount⟩, #v[0, 0, 0, 0, 0, 0, 0, 0, 0, 0, 0, 0, 0, 0, 0, 0, 0, 0, 0, 0, 0, 0, 0, 0, 0, 0, 0, 0, 0, 0, 0, 0]⟩ : ReqV)]) (adx := some ⟨b15, 0, none⟩) (cx := 1) dReq (by kernel_rfl) hs22 (hs22.rows 1 rfl (reqF).size dReq) (fun h => nomatch h) (by simp only [List.length_append, List.length_cons, List.length_nil, List.length_map] at *; omega) (by simp only [List.length_append, List.length_cons, List.length_nil, List.length_map] at *; omega) ?_
    intro ad23 c24 w20 hs21
    refine ⟨Xo, ?_⟩
    refine Xk [(10, .gen [])] [] [(5, .slice ad23 (((rowL l (o.take k)) ++ ([(⟨(l.getD (o.getD k (0 : Nat)) dCall).client, (l.getD (o.getD k (0 : Nat)) dCall).time, ⟨((l.getD (o.getD k (0 : Nat)) dCall).op).kind, ((l.getD (o.getD k (0 : Nat)) dCall).op).key, ((l.getD (o.getD k (0 : Nat)) dCall).op).value, ((l.getD (o.getD k (0 : Nat)) dCall).op).old, ((l.getD (o.getD k (0 : Nat)) dCall).op).dest, ((l.getD (o.getD k (0 : Nat)) dCall).op).amount⟩, #v[0, 0, 0, 0, 0, 0, 0, 0, 0, 0, 0, 0, 0, 0, 0, 0, 0, 0, 0, 0, 0, 0, 0, 0, 0, 0, 0, 0, 0, 0, 0, 0]⟩ : ReqV)])).length) c24), (0, vl ab6 ao7 l.length cl), (1, vl ab8 ao9 o.length oc), (4, .slice none 0 0), (6, .int .i64 (k : Nat))] ak0 ?_
    refine GoR.done (GoQ.blkN (GoQ.thn ?_))
    refine Xt (.rd 0 (.rd 1 (.rd 2 .done))) ?_
    refine Xk [(0, .gen []), (1, .as_ (.int .i64 ((k : Nat) + 1)) (.gen [])), (2, .gen [])] [(1, [.prop (Value.int .i64 (IntKind.i64.wrap ((k : Nat) + 1)) = Value.int .i64 ((k : Nat) + 1))])] [(6, .int .i64 ((k : Nat) + 1)), (5, .slice ad23 (((rowL l (o.take k)) ++ ([(⟨(l.getD (o.getD k (0 : Nat)) dCall).client, (l.getD (o.getD k (0 : Nat)) dCall).time, ⟨((l.getD (o.getD k (0 : Nat)) dCall).op).kind, ((l.getD (o.getD k (0 : Nat)) dCall).op).key, ((l.getD (o.getD k (0 : Nat)) dCall).op).value, ((l.getD (o.getD k (0 : Nat)) dCall).op).old, ((l.getD (o.getD k (0 : Nat)) dCall).op).dest, ((l.getD (o.getD k (0 : Nat)) dCall).op).amount⟩, #v[0, 0, 0, 0, 0, 0, 0, 0, 0, 0, 0, 0, 0, 0, 0, 0, 0, 0, 0, 0, 0, 0, 0, 0, 0, 0, 0, 0, 0, 0, 0, 0]⟩ : ReqV)])).length) c24), (0, vl ab6 ao7 l.length cl), (1, vl ab8 ao9 o.length oc), (4, .slice none 0 0)] (ak (okp (i64ok (by omega) (by omega)) ok0) ak0) ?_
    refine GoR.done ?_
    have hs25 : St w0 ((Sl (some ⟨b15, 0, none⟩) 1 56 40 ReqV.cells ([(⟨(l.getD (o.getD k (0 : Nat)) dCall).client, (l.getD (o.getD k (0 : Nat)) dCall).time, ⟨((l.getD (o.getD k (0 : Nat)) dCall).op).kind, ((l.getD (o.getD k (0 : Nat)) dCall).op).key, ((l.getD (o.getD k (0 : Nat)) dCall).op).value, ((l.getD (o.getD k (0 : Nat)) dCall).op).old, ((l.getD (o.getD k (0 : Nat)) dCall).op).dest, ((l.getD (o.getD k (0 : Nat)) dCall).op).amount⟩, #v[0, 0, 0, 0, 0, 0, 0, 0, 0, 0, 0, 0, 0, 0, 0, 0, 0, 0, 0, 0, 0, 0, 0, 0, 0, 0, 0, 0, 0, 0, 0, 0]⟩ : ReqV)])) :: (Cel b10 (CallV.cells (l.getD (o.getD k (0 : Nat)) dCall)) 78) :: (Sl ad23 c24 56 40 ReqV.cells ((rowL l (o.take k)) ++ ([(⟨(l.getD (o.getD k (0 : Nat)) dCall).client, (l.getD (o.getD k (0 : Nat)) dCall).time, ⟨((l.getD (o.getD k (0 : Nat)) dCall).op).kind, ((l.getD (o.getD k (0 : Nat)) dCall).op).key, ((l.getD (o.getD k (0 : Nat)) dCall).op).value, ((l.getD (o.getD k (0 : Nat)) dCall).op).old, ((l.getD (o.getD k (0 : Nat)) dCall).op).dest, ((l.getD (o.getD k (0 : Nat)) dCall).op).amount⟩, #v[0, 0, 0, 0, 0, 0, 0, 0, 0, 0, 0, 0, 0, 0, 0, 0, 0, 0, 0, 0, 0, 0, 0, 0, 0, 0, 0, 0, 0, 0, 0, 0]⟩ : ReqV)]))) :: L) w20 := (((hs21.pull 0 rfl).pull 2 rfl).pull 2 rfl)
    have hs26 : St w0 ((Sl ad23 c24 56 40 ReqV.cells ((rowL l (o.take k)) ++ ([(⟨(l.getD (o.getD k (0 : Nat)) dCall).client, (l.getD (o.getD k (0 : Nat)) dCall).time, ⟨((l.getD (o.getD k (0 : Nat)) dCall).op).kind, ((l.getD (o.getD k (0 : Nat)) dCall).op).key, ((l.getD (o.getD k (0 : Nat)) dCall).op).value, ((l.getD (o.getD k (0 : Nat)) dCall).op).old, ((l.getD (o.getD k (0 : Nat)) dCall).op).dest, ((l.getD (o.getD k (0 : Nat)) dCall).op).amount⟩, #v[0, 0, 0, 0, 0, 0, 0, 0, 0, 0, 0, 0, 0, 0, 0, 0, 0, 0, 0, 0, 0, 0, 0, 0, 0, 0, 0, 0, 0, 0, 0, 0]⟩ : ReqV)]))) :: L) w20 := hs25.drop 2
    have hr27 : rowL l (o.take (k + 1)) = (rowL l (o.take k)) ++ ([(⟨(l.getD (o.getD k (0 : Nat)) dCall).client, (l.getD (o.getD k (0 : Nat)) dCall).time, ⟨((l.getD (o.getD k (0 : Nat)) dCall).op).kind, ((l.getD (o.getD k (0 : Nat)) dCall).op).key, ((l.getD (o.getD k (0 : Nat)) dCall).op).value, ((l.getD (o.getD k (0 : Nat)) dCall).op).old, ((l.getD (o.getD k (0 : Nat)) dCall).op).dest, ((l.getD (o.getD k (0 : Nat)) dCall).op).amount⟩, #v[0, 0, 0, 0, 0, 0, 0, 0, 0, 0, 0, 0, 0, 0, 0, 0, 0, 0, 0, 0, 0, 0, 0, 0, 0, 0, 0, 0, 0, 0, 0, 0]⟩ : ReqV)]) := row_take hk
    have hs28 : St w0 ((Sl ad23 c24 56 40 ReqV.cells (rowL l (o.take (k + 1)))) :: L) w20 := by rw [hr27]; exact hs26
    refine GoQ.slots (S' := [(6, .int .i64 ((k : Nat) + 1)), (5, .slice ad23 ((rowL l (o.take (k + 1))).length) c24), (0, vl ab6 ao7 l.length cl), (1, vl ab8 ao9 o.length oc), (4, .slice none 0 0)]) (by rw [hr27]) ?_
    exact GoQ.back (k + 1, ad23, c24) [0, 1, 4, 5, 6] (by kernel_rfl) (by show o.length - (k + 1) < o.length - k; omega) ⟨(by omega), hs28⟩
  · have h5' : ¬ (((k : Nat) : Int) < (o.length : Nat)) := of_decide_eq_false h5
    have hke : k = o.length := by omega
    have htk : o.take k = o := by rw [hke]; exact List.take_length
    refine GoC.exit (GoQ.skipC (GoQ.skipL (GoQ.hit (GoQ.thn (GoC.seq ?_)))))
    refine Xt (.rd 0 (.rd 1 .done)) ?_
    refine Xk [(0, .gen []), (1, .gen [])] [] [(4, .slice ra ((rowL l (o.take k)).length) rc)] ak0 ?_
    refine GoR.done (GoQ.thn (GoC.ret ?_))
    refine X1 (v := .slice ra ((rowL l (o.take k)).length) rc) ?_
    exact ⟨ra, rc, (by rw [htk]), (by rw [← htk]; exact hs4)⟩
theorem refs_spec {w0 w : World} {L : List Asn} {al : Option Addr} {cl : Nat} (l : List CallV) (hll : l.length ≤ 1000000) (hr : ∀ w, St w0 L w → RowsAt w al l.length 13 (fun k => CallV.cells (l.getD k dCall))) (hs : St w0 (L) w) : Calls Tryz.prog 11 #[.slice al l.length cl] w (Ret fun rv w' => ∃ (ra2 : Option Addr) (rc2 : Nat), rv = .slice ra2 l.length rc2 ∧ St w0 ((Sl ra2 rc2 78 13 CallV.cells l) :: L) w') := by
  refine enter (args := [.slice al l.length cl]) Tryz.func11 rfl Tryz.ntmps11 (Nat.le_of_ble_eq_true (by kernel_rfl)) ?_
  refine GoC.slots (S' := [(0, .slice al l.length cl)]) rfl ?_
  refine GoC.seq ?_
  refine Xt (.rd 0 .done) ?_
  refine Xk [(0, .gen [])] [] [(2, .slice none 0 0), (0, .slice al l.length cl)] ak0 ?_
  refine GoR.done (GoQ.thn (GoC.seq ?_))
  refine Xt (.rd 0 .done) ?_
  refine Xk [(0, .gen [])] [] [(3, .slice none 0 0), (2, .slice none 0 0), (0, .slice al l.length cl)] ak0 ?_
  refine GoR.done (GoQ.thn (GoC.seq (GoC.seq ?_)))
  refine Xt (.rd 0 .done) ?_
  refine Xk [(0, .gen [])] [] [(4, .int .i64 0), (3, .slice none 0 0), (2, .slice none 0 0), (0, .slice al l.length cl)] ak0 ?_
  refine GoR.done (GoQ.thn (GoC.block ?_))
  have hs1 : St w0 ((Sl none 0 78 13 CallV.cells ([] : List CallV)) :: L) w := St.slNil hs 78 13 CallV.cells
  refine GoC.loop (T := Nat × (Option Addr) × Nat) (fun gg => [(0, .slice al l.length cl), (2, .slice none 0 0), (3, .slice gg.2.1 ((l.take gg.1).length) gg.2.2), (4, .int .i64 (gg.1 : Nat))]) (fun gg w => (gg.1 ≤ l.length) ∧ St w0 ((Sl gg.2.1 gg.2.2 78 13 CallV.cells (l.take gg.1)) :: L) w) (fun gg => l.length - gg.1) (0, none, 0) [0, 2, 3, 4] (by kernel_rfl) ⟨Nat.zero_le _, hs1⟩ ?_
  rintro ⟨k, ra, rc⟩ w2 ⟨hp0, hs3⟩
  have hp : k ≤ l.length := hp0
  have hs4 : St w0 ((Sl ra rc 78 13 CallV.cells (l.take k)) :: L) w2 := hs3
  refine GoC.slots (S' := [(0, .slice al l.length cl), (2, .slice none 0 0), (3, .slice ra ((l.take k).length) rc), (4, .int .i64 (k : Nat))]) rfl ?_
  refine GoC.seq (GoC.seq ?_)
  refine Xt (.rd 0 (.rd 1 (.rd 2 (.rd 3 .done)))) ?_
  refine Xk [(0, .gen []), (1, .gen []), (2, .gen []), (3, .gen [])] [] [(8, .bool (decide (((k : Nat) : Int) < (l.length : Nat)))), (0, .slice al l.length cl), (2, .slice none 0 0), (3, .slice ra ((l.take k).length) rc), (4, .int .i64 (k : Nat))] ak0 ?_
  refine GoR.done (GoQ.thn ?_)
  refine Xc (t := decide (((k : Nat) : Int) < (l.length : Nat))) (fun h5 => ?_) (fun h5 => ?_)
  · have h5' : ((k : Nat) : Int) < (l.length : Nat) := of_decide_eq_true h5
    have hk : k < l.length := by omega
    have hrl : (l.take k).length = k := by rw [List.length_take]; omega
    obtain ⟨ab6, ao7, rfl⟩ := RowsAt.isSome (hr _ (hs4.drop 1)) (by omega)
    refine GoC.skip (GoQ.thn (GoC.seq (GoC.block ?_)))
    refine Xt (.rd 0 (.rd 1 (.rd 2 (.rd 3 (.rd 4 (.ef 5 (.ef 6 (.rd 7 .done)))))))) ?_
    refine Xk [(0, .gen []), (1, .gen []), (2, .gen []), (3, .as_ (vp ab6 (ao7 + (k * 13))) .at_), (4, .agg (CallV.cells (l.getD k dCall)))] [(3, [.prop (0 ≤ ((k : Nat) : Int) ∧ ((k : Nat) : Int) < ((l.length : Nat) : Int)), .prop (Value.pointer (some (Addr.add ⟨ab6, ao7, none⟩ (Int.toNat (k : Nat) * 13))) = Value.pointer (some ⟨ab6, ao7 + (k * 13), none⟩))]), (4, [.prop (Array.size (CallV.cells (l.getD k dCall)) = 13), .cells ⟨ab6, ao7 + (k * 13), none⟩ (CallV.cells (l.getD k dCall))])] [(15, .agg (CallV.cells (l.getD k dCall))), (11, .slice ra ((l.take k).length) rc), (0, vl ab6 ao7 l.length cl), (2, .slice none 0 0), (3, .slice ra ((l.take k).length) rc), (4, .int .i64 (k : Nat))] (ak (okp (by omega) (okp (ptrAdd _ _ _) ok0)) (ak (okp (by kernel_rfl) (oka (RowsAt.all0 (hr _ (hs4.drop 1)) (by first | omega | (simp only [List.length_set]; omega) | (simp only [List.length_set, List.length_append, List.length_cons, List.length_nil]; omega)) (Nat.le_of_ble_eq_true (by kernel_rfl)) (by kernel_rfl)) ok0)) ak0)) ?_
    refine GoR.sliceLit rfl (by kernel_rfl) (t := 32) (e := 78) (n := 1) (ps := [(0, .agg (CallV.cells (l.getD k dCall)))]) (by kernel_rfl) (by kernel_rfl) (ti := Tryz.t78) (z := .agg (CallV.cells dCall)) (by kernel_rfl) (by kernel_rfl) (by decide) (by decide) (cs := CallV.cells (l.getD k dCall)) (by kernel_rfl) hs4 ?_
    intro b8 w9 hs10 hz11
    have hs12 : St w0 ((Sl (some ⟨b8, 0, none⟩) 1 78 13 CallV.cells ([((l.getD k dCall) : CallV)])) :: (Sl ra rc 78 13 CallV.cells (l.take k)) :: L) w9 := St.slOf (l := [((l.getD k dCall) : CallV)]) (f := CallV.cells) hs10 hz11 (callF).size (by simp only [List.length_cons, List.length_nil, maxLen]; omega) (by kernel_rfl)
    refine ⟨Xo, ?_⟩
    have hs15 : St w0 ((Sl ra rc 78 13 CallV.cells (l.take k)) :: (Sl (some ⟨b8, 0, none⟩) 1 78 13 CallV.cells ([((l.getD k dCall) : CallV)])) :: L) w9 := (hs12.pull 1 rfl)
    refine GoR.append rfl (by kernel_rfl) rcallsOK callF (ad := ra) (c := rc) (xs := l.take k) (ys := [((l.getD k dCall) : CallV)]) (adx := some ⟨b8, 0, none⟩) (cx := 1) dCall (by kernel_rfl) hs15 (hs15.rows 1 rfl (callF).size dCall) (fun h => nomatch h) (by simp only [List.length_append, List.length_cons, List.length_nil, List.length_map] at *; omega) (by simp only [List.length_append, List.length_cons, List.length_nil, List.length_map] at *; omega) ?_
    intro ad16 c17 w13 hs14
    refine ⟨Xo, ?_⟩
    refine Xk [(7, .gen [])] [] [(3, .slice ad16 (((l.take k) ++ ([((l.getD k dCall) : CallV)])).length) c17), (0, vl ab6 ao7 l.length cl), (2, .slice none 0 0), (4, .int .i64 (k : Nat))] ak0 ?_
    refine GoR.done (GoQ.blkN (GoQ.thn ?_))
    refine Xt (.rd 0 (.rd 1 (.rd 2 .done))) ?_
    refine Xk [(0, .gen []), (1, .as_ (.int .i64 ((k : Nat) + 1)) (.gen [])), (2, .gen [])] [(1, [.prop (Value.int .i64 (IntKind.i64.wrap ((k : Nat) + 1)) = Value.int .i64 ((k : Nat) + 1))])] [(4, .int .i64 ((k : Nat) + 1)), (3, .slice ad16 (((l.take k) ++ ([((l.getD k dCall) : CallV)])).length) c17), (0, vl ab6 ao7 l.length cl), (2, .slice none 0 0)] (ak (okp (i64ok (by omega) (by omega)) ok0) ak0) ?_
    refine GoR.done ?_
    have hs18 : St w0 ((Sl (some ⟨b8, 0, none⟩) 1 78 13 CallV.cells ([((l.getD k dCall) : CallV)])) :: (Sl ad16 c17 78 13 CallV.cells ((l.take k) ++ ([((l.getD k dCall) : CallV)]))) :: L) w13 := ((hs14.pull 0 rfl).pull 1 rfl)
    have hs19 : St w0 ((Sl ad16 c17 78 13 CallV.cells ((l.take k) ++ ([((l.getD k dCall) : CallV)]))) :: L) w13 := hs18.drop 1
    have hr20 : l.take (k + 1) = (l.take k) ++ ([((l.getD k dCall) : CallV)]) := take_succ_getD (d := dCall) hk
    have hs21 : St w0 ((Sl ad16 c17 78 13 CallV.cells (l.take (k + 1))) :: L) w13 := by rw [hr20]; exact hs19
    refine GoQ.slots (S' := [(4, .int .i64 ((k : Nat) + 1)), (3, .slice ad16 ((l.take (k + 1)).length) c17), (0, vl ab6 ao7 l.length cl), (2, .slice none 0 0)]) (by rw [hr20]) ?_
    exact GoQ.back (k + 1, ad16, c17) [0, 2, 3, 4] (by kernel_rfl) (by show l.length - (k + 1) < l.length - k; omega) ⟨(by omega), hs21⟩
  · have h5' : ¬ (((k : Nat) : Int) < (l.length : Nat)) := of_decide_eq_false h5
    have hke : k = l.length := by omega
    have htk : l.take k = l := by rw [hke]; exact List.take_length
    refine GoC.exit (GoQ.skipC (GoQ.skipL (GoQ.hit (GoQ.thn (GoC.seq ?_)))))
    refine Xt (.rd 0 (.rd 1 .done)) ?_
    refine Xk [(0, .gen []), (1, .gen [])] [] [(2, .slice ra ((l.take k).length) rc)] ak0 ?_
    refine GoR.done (GoQ.thn (GoC.ret ?_))
    refine X1 (v := .slice ra ((l.take k).length) rc) ?_
    exact ⟨ra, rc, (by rw [htk]), (by rw [← htk]; exact hs4)⟩
end Go.Proofs.YtbmmknchcdhefaaGreatDoor
