/-
  Requests of no call; calls that are missing; calls that stand too early. Conditions: none beside each theorem's own.
-/
import Derived.Test.YtbmmknchcdhefaaGreatDoorSxT
import Derived.Test.YtbmmknchcdhefaaGreatDoorHisB
namespace Go.Proofs.YtbmmknchcdhefaaGreatDoor
open Go.RowKit Go.Sx
set_option linter.unusedVariables false
set_option linter.unusedSimpArgs false
set_option linter.unnecessarySimpa false
set_option maxRecDepth 100000
def forB (l : List CallV) (q : ReqV) : Bool := !(idx dCall l (fun c => ofB c q)).isSome
theorem for1_spec {w0 w : World} {L : List Asn} {bx : Nat} {x : Nat} {bi : Nat} {al : Option Addr} {cl : Nat} {ar : Option Addr} {cr : Nat} (l : List CallV) (row : List ReqV) (c : CallV) (i : Nat) (hll : l.length ≤ 1000000) (hrr : row.length ≤ 1000000) (hi : i < row.length) (hr1 : ∀ w, St w0 L w → RowsAt w al l.length 13 (fun k => CallV.cells (l.getD k dCall))) (hr2 : ∀ w, St w0 L w → RowsAt w ar row.length 40 (fun k => ReqV.cells (row.getD k dReq))) (hs : St w0 ((Cel bx #[vp x 0] 62) :: (Cel x #[.slice al l.length cl, .slice ar row.length cr] 64) :: (Cel bi #[.int .i64 (i : Nat)] 3) :: L) w) : Calls Tryz.prog 48 #[.agg (CallV.cells c), vp bx 0, vp bi 0] w (Ret fun rv w' => rv = .bool (ofB c (row.getD i dReq)) ∧ St w0 ((Cel bx #[vp x 0] 62) :: (Cel x #[.slice al l.length cl, .slice ar row.length cr] 64) :: (Cel bi #[.int .i64 (i : Nat)] 3) :: L) w') := by
  refine enter (args := [.agg (CallV.cells c), vp bx 0, vp bi 0]) Tryz.func48 rfl Tryz.ntmps48 (Nat.le_of_ble_eq_true (by kernel_rfl)) ?_
  refine GoC.slots (S' := [(0, .agg (CallV.cells c)), (1, vp bx 0), (2, vp bi 0)]) rfl ?_
  refine GoC.seq ?_
  refine Xt (.ef 0 (.rd 1 .done)) ?_
  refine GoR.box rfl rfl (by kernel_rfl) (v := .agg (CallV.cells c)) (by kernel_rfl) hs (cs := CallV.cells c) (by kernel_rfl) ?_
  intro b1 w2 hs3
  refine ⟨Xo, ?_⟩
  refine Xk [(1, .gen [])] [] [(4, .bool false), (3, vp b1 0), (1, vp bx 0), (2, vp bi 0)] ak0 ?_
  refine GoR.done (GoQ.thn (GoC.seq ?_))
  obtain ⟨ab4, ao5, rfl⟩ := RowsAt.isSome (hr2 _ (hs3.drop 4)) (by omega)
  refine GoC.regD [0, 0, 2, 6, 14, 0, 62, 126, 255, 511] (.rd 0 (.rd 1 (.rd 2 (.rd 3 (.rd 4 (.rd 5 (.rd 6 (.rd 7 (.ef 8 (.rd 9 .done)))))))))) (by kernel_rfl) (by kernel_rfl) noPan_body (by kernel_rfl) hs3 ?_
  intro w6 hs7 hw8
  refine Xk [(0, .agg (CallV.cells c)), (1, .gen [vp x 0]), (2, .gen []), (3, .gen []), (4, .gen [vl ab4 ao5 row.length cr]), (5, .gen [.int .i64 (i : Nat)]), (6, .as_ (vp ab4 (ao5 + (i * 40))) .at_), (7, .agg (ReqV.cells (row.getD i dReq)))] [(0, [.prop (Array.size (CallV.cells c) = 13), .cells ⟨b1, 0, none⟩ (CallV.cells c)]), (1, [.cell ⟨bx, 0, none⟩ (vp x 0)]), (4, [.cell ⟨x, 1, none⟩ (vl ab4 ao5 row.length cr)]), (5, [.cell ⟨bi, 0, none⟩ (.int .i64 (i : Nat))]), (6, [.prop (0 ≤ ((i : Nat) : Int) ∧ ((i : Nat) : Int) < ((row.length : Nat) : Int)), .prop (Value.pointer (some (Addr.add ⟨ab4, ao5, none⟩ (Int.toNat (i : Nat) * 40))) = Value.pointer (some ⟨ab4, ao5 + (i * 40), none⟩))]), (7, [.prop (Array.size (ReqV.cells (row.getD i dReq)) = 40), .cells ⟨ab4, ao5 + (i * 40), none⟩ (ReqV.cells (row.getD i dReq))])] [(12, .agg (ReqV.cells (row.getD i dReq))), (5, .agg (CallV.cells c)), (4, .bool false)] (ak (okp (by kernel_rfl) (oka (hs7.cells 0 0 rfl (by kernel_rfl)) ok0)) (ak (okc (hs7.cell 1 rfl (by kernel_rfl)) ok0) (ak (okc (hs7.cell 2 rfl (by kernel_rfl)) ok0) (ak (okc (hs7.cell 3 rfl (by kernel_rfl)) ok0) (ak (okp (by omega) (okp (ptrAdd _ _ _) ok0)) (ak (okp (by kernel_rfl) (oka (RowsAt.all0 (hr2 _ (hs7.drop 4)) (by first | omega | (simp only [List.length_set]; omega) | (simp only [List.length_set, List.length_append, List.length_cons, List.length_nil]; omega)) (Nat.le_of_ble_eq_true (by kernel_rfl)) (by kernel_rfl)) ok0)) ak0)))))) ?_
  refine Xa (f := 49) (args := #[.agg (CallV.cells c), .agg (ReqV.cells (row.getD i dReq))]) Tryz.call49 (of_spec c (row.getD i dReq) hs7) ?_
  rintro v10 w11 ⟨rfl, hs9⟩
  refine ⟨Xo, ?_⟩
  refine Xk [(9, .gen [])] [] [(4, .bool (ofB c (row.getD i dReq)))] ak0 ?_
  refine GoR.done (GoQ.thn (GoC.ret ?_))
  refine X1 (v := .bool (ofB c (row.getD i dReq))) ?_
  have hs12 : St w0 ((Cel bx #[vp x 0] 62) :: (Cel x #[.slice al l.length cl, vl ab4 ao5 row.length cr] 64) :: (Cel bi #[.int .i64 (i : Nat)] 3) :: L) w11 := hs9.drop 1
  exact ⟨rfl, hs12⟩
theorem foIx_spec {w0 w : World} {L : List Asn} {al : Option Addr} {cl : Nat} {bx : Nat} {x : Nat} {bi : Nat} {ar : Option Addr} {cr : Nat} (l : List CallV) (row : List ReqV) (i : Nat) (hlen : l.length ≤ 1000000) (hrr : row.length ≤ 1000000) (hi : i < row.length) (hr1 : ∀ w, St w0 L w → RowsAt w al l.length 13 (fun k => CallV.cells (l.getD k dCall))) (hr2 : ∀ w, St w0 L w → RowsAt w ar row.length 40 (fun k => ReqV.cells (row.getD k dReq))) (hs : St w0 ((Cel bx #[vp x 0] 62) :: (Cel x #[.slice al l.length cl, .slice ar row.length cr] 64) :: (Cel bi #[.int .i64 (i : Nat)] 3) :: L) w) : Calls Tryz.prog 61 #[.slice al l.length cl, .func (.func 48) #[] #[vp bx 0, vp bi 0]] w (Ret fun rv w' => rv = .int .i64 (ixI (idx dCall l (fun c => ofB c (row.getD i dReq)))) ∧ St w0 ((Cel bx #[vp x 0] 62) :: (Cel x #[.slice al l.length cl, .slice ar row.length cr] 64) :: (Cel bi #[.int .i64 (i : Nat)] 3) :: L) w') := by
  refine enter (args := [.slice al l.length cl, .func (.func 48) #[] #[vp bx 0, vp bi 0]]) Tryz.func61 rfl Tryz.ntmps61 (Nat.le_of_ble_eq_true (by kernel_rfl)) ?_
  refine GoC.slots (S' := [(0, .slice al l.length cl), (1, .func (.func 48) #[] #[vp bx 0, vp bi 0])]) rfl ?_
  refine GoC.seq ?_
  refine Xt (.rd 0 .done) ?_
  refine Xk [(0, .gen [])] [] [(4, .int .i64 0), (0, .slice al l.length cl), (1, .func (.func 48) #[] #[vp bx 0, vp bi 0])] ak0 ?_
  refine GoR.done (GoQ.thn (GoC.seq (GoC.seq ?_)))
  refine Xt (.rd 0 (.rd 1 (.rd 2 .done))) ?_
  refine Xk [(0, .gen []), (1, .gen []), (2, .gen [])] [] [(8, .int .i64 0), (7, .int .i64 (l.length : Nat)), (4, .int .i64 0), (0, .slice al l.length cl), (1, .func (.func 48) #[] #[vp bx 0, vp bi 0])] ak0 ?_
  refine GoR.done (GoQ.thn (GoC.block ?_))
  refine GoC.loop (T := Nat) (fun gg => [(0, .slice al l.length cl), (1, .func (.func 48) #[] #[vp bx 0, vp bi 0]), (7, .int .i64 (l.length : Nat)), (8, .int .i64 (gg : Nat))]) (fun gg w => (gg ≤ l.length ∧ ∀ z, z < gg → (fun c => ofB c (row.getD i dReq)) (l.getD z dCall) = false) ∧ St w0 ((Cel bx #[vp x 0] 62) :: (Cel x #[.slice al l.length cl, .slice ar row.length cr] 64) :: (Cel bi #[.int .i64 (i : Nat)] 3) :: L) w) (fun gg => l.length - gg) 0 [0, 1, 7, 8] (by kernel_rfl) ⟨⟨Nat.zero_le _, fun i hi => absurd hi (Nat.not_lt_zero _)⟩, hs⟩ ?_
  rintro k w1 ⟨hp0, hs2⟩
  have hp : k ≤ l.length ∧ ∀ z, z < k → (fun c => ofB c (row.getD i dReq)) (l.getD z dCall) = false := hp0
  have hs3 : St w0 ((Cel bx #[vp x 0] 62) :: (Cel x #[.slice al l.length cl, .slice ar row.length cr] 64) :: (Cel bi #[.int .i64 (i : Nat)] 3) :: L) w1 := hs2
  refine GoC.slots (S' := [(0, .slice al l.length cl), (1, .func (.func 48) #[] #[vp bx 0, vp bi 0]), (7, .int .i64 (l.length : Nat)), (8, .int .i64 (k : Nat))]) rfl ?_
  refine GoC.seq ?_
  refine Xt (.rd 0 .done) ?_
  refine Xk [(0, .gen [])] [] [(9, .bool (decide (((k : Nat) : Int) < (l.length : Nat)))), (0, .slice al l.length cl), (1, .func (.func 48) #[] #[vp bx 0, vp bi 0]), (7, .int .i64 (l.length : Nat)), (8, .int .i64 (k : Nat))] ak0 ?_
  refine GoR.done (GoQ.thn (GoC.seq ?_))
  refine Xc (t := decide (((k : Nat) : Int) < (l.length : Nat))) (fun h4 => ?_) (fun h4 => ?_)
  · have h4' : ((k : Nat) : Int) < (l.length : Nat) := of_decide_eq_true h4
    have hk : k < l.length := by omega
    obtain ⟨ab5, ao6, rfl⟩ := RowsAt.isSome (hr1 _ (hs3.drop 3)) (by omega)
    refine GoC.skip (GoQ.thn (GoC.seq (GoC.block (GoC.seq ?_))))
    refine Xt (.rd 0 (.rd 1 .done)) ?_
    refine Xk [(0, .gen []), (1, .gen [])] [] [(5, .int .i64 (k : Nat)), (0, vl ab5 ao6 l.length cl), (1, .func (.func 48) #[] #[vp bx 0, vp bi 0]), (7, .int .i64 (l.length : Nat)), (8, .int .i64 (k : Nat))] ak0 ?_
    refine GoR.done (GoQ.thn (GoC.seq ?_))
    refine Xt (.rd 0 (.rd 1 (.rd 2 (.rd 3 (.rd 4 (.ef 5 .done)))))) ?_
    refine Xk [(0, .gen []), (1, .gen []), (2, .gen []), (3, .as_ (vp ab5 (ao6 + (k * 13))) .at_), (4, .agg (CallV.cells (l.getD k dCall)))] [(3, [.prop (0 ≤ ((k : Nat) : Int) ∧ ((k : Nat) : Int) < ((l.length : Nat) : Int)), .prop (Value.pointer (some (Addr.add ⟨ab5, ao6, none⟩ (Int.toNat (k : Nat) * 13))) = Value.pointer (some ⟨ab5, ao6 + (k * 13), none⟩))]), (4, [.prop (Array.size (CallV.cells (l.getD k dCall)) = 13), .cells ⟨ab5, ao6 + (k * 13), none⟩ (CallV.cells (l.getD k dCall))])] [(15, .agg (CallV.cells (l.getD k dCall))), (11, .func (.func 48) #[] #[vp bx 0, vp bi 0]), (5, .int .i64 (k : Nat)), (0, vl ab5 ao6 l.length cl), (1, .func (.func 48) #[] #[vp bx 0, vp bi 0]), (7, .int .i64 (l.length : Nat)), (8, .int .i64 (k : Nat))] (ak (okp (by omega) (okp (ptrAdd _ _ _) ok0)) (ak (okp (by kernel_rfl) (oka (RowsAt.all0 (hr1 _ (hs3.drop 3)) (by first | omega | (simp only [List.length_set]; omega) | (simp only [List.length_set, List.length_append, List.length_cons, List.length_nil]; omega)) (Nat.le_of_ble_eq_true (by kernel_rfl)) (by kernel_rfl)) ok0)) ak0)) ?_
    refine Xa (f := 48) (args := #[.agg (CallV.cells (l.getD k dCall)), vp bx 0, vp bi 0]) Tryz.call48 (for1_spec l row (l.getD k dCall) i (by omega) (by omega) (by first | assumption | omega) (fun w h => hr1 _ (h.drop 0)) (fun w h => hr2 _ (h.drop 0)) hs3) ?_
    rintro v8 w9 ⟨rfl, hs7⟩
    refine ⟨Xo, ?_⟩
    refine GoR.done (GoQ.thn ?_)
    refine Xc (t := ofB (l.getD k dCall) (row.getD i dReq)) (fun h10 => ?_) (fun h10 => ?_)
    · refine GoC.seq ?_
      refine Xt (.rd 0 (.rd 1 .done)) ?_
      refine Xk [(0, .gen []), (1, .gen [])] [] [(4, .int .i64 (k : Nat)), (0, vl ab5 ao6 l.length cl), (1, .func (.func 48) #[] #[vp bx 0, vp bi 0]), (7, .int .i64 (l.length : Nat)), (8, .int .i64 (k : Nat))] ak0 ?_
      refine GoR.done (GoQ.thn (GoC.ret (GoQ.blkR (GoQ.skipCR (GoQ.skipLR (GoQ.blkR (GoQ.skipCR ?_)))))))
      refine X1 (v := .int .i64 (k : Nat)) ?_
      exact ⟨(by rw [idx_at (d := dCall) (p := fun c => ofB c (row.getD i dReq)) hk (show (fun c => ofB c (row.getD i dReq)) (l.getD k dCall) = true from h10) hp.2]; rfl), hs7⟩
    · refine GoC.skip (GoQ.blkN (GoQ.thn ?_))
      refine Xt (.rd 0 (.rd 1 .done)) ?_
      refine Xk [(0, .as_ (.int .i64 ((k : Nat) + 1)) (.gen [])), (1, .gen [])] [(0, [.prop (Value.int .i64 (IntKind.i64.wrap ((k : Nat) + 1)) = Value.int .i64 ((k : Nat) + 1))])] [(8, .int .i64 ((k : Nat) + 1)), (0, vl ab5 ao6 l.length cl), (1, .func (.func 48) #[] #[vp bx 0, vp bi 0]), (7, .int .i64 (l.length : Nat))] (ak (okp (i64ok (by omega) (by omega)) ok0) ak0) ?_
      refine GoR.done ?_
      exact GoQ.back (k + 1) [0, 1, 7, 8] (by kernel_rfl) (by show l.length - (k + 1) < l.length - k; omega) ⟨⟨by omega, none_step (p := fun z => (fun c => ofB c (row.getD i dReq)) (l.getD z dCall)) hp.2 (show (fun c => ofB c (row.getD i dReq)) (l.getD k dCall) = false from h10)⟩, hs7⟩
  · have h4' : ¬ (((k : Nat) : Int) < (l.length : Nat)) := of_decide_eq_false h4
    refine GoC.exit (GoQ.skipC (GoQ.skipL (GoQ.hit (GoQ.thn (GoC.seq ?_)))))
    refine Xt (.rd 0 .done) ?_
    refine Xk [(0, .gen [])] [] [(4, .int .i64 (-1))] ak0 ?_
    refine GoR.done (GoQ.thn (GoC.ret ?_))
    refine X1 (v := .int .i64 (-1)) ?_
    exact ⟨(by rw [idx_none (d := dCall) (l := l) (p := fun c => ofB c (row.getD i dReq)) (fun i hi => hp.2 i (by omega))]; rfl), hs3⟩
theorem foCf_spec {w0 w : World} {L : List Asn} {al : Option Addr} {cl : Nat} {bx : Nat} {x : Nat} {bi : Nat} {ar : Option Addr} {cr : Nat} (l : List CallV) (row : List ReqV) (i : Nat) (hlen : l.length ≤ 1000000) (hrr : row.length ≤ 1000000) (hi : i < row.length) (hr1 : ∀ w, St w0 L w → RowsAt w al l.length 13 (fun k => CallV.cells (l.getD k dCall))) (hr2 : ∀ w, St w0 L w → RowsAt w ar row.length 40 (fun k => ReqV.cells (row.getD k dReq))) (hs : St w0 ((Cel bx #[vp x 0] 62) :: (Cel x #[.slice al l.length cl, .slice ar row.length cr] 64) :: (Cel bi #[.int .i64 (i : Nat)] 3) :: L) w) : Calls Tryz.prog 44 #[.slice al l.length cl, .func (.func 48) #[] #[vp bx 0, vp bi 0]] w (Ret fun rv w' => rv = .bool ((idx dCall l (fun c => ofB c (row.getD i dReq))).isSome) ∧ St w0 ((Cel bx #[vp x 0] 62) :: (Cel x #[.slice al l.length cl, .slice ar row.length cr] 64) :: (Cel bi #[.int .i64 (i : Nat)] 3) :: L) w') := by
  refine enter (args := [.slice al l.length cl, .func (.func 48) #[] #[vp bx 0, vp bi 0]]) Tryz.func44 rfl Tryz.ntmps44 (Nat.le_of_ble_eq_true (by kernel_rfl)) ?_
  refine GoC.slots (S' := [(0, .slice al l.length cl), (1, .func (.func 48) #[] #[vp bx 0, vp bi 0])]) rfl ?_
  refine GoC.seq ?_
  refine Xt (.rd 0 .done) ?_
  refine Xk [(0, .gen [])] [] [(4, .bool false), (0, .slice al l.length cl), (1, .func (.func 48) #[] #[vp bx 0, vp bi 0])] ak0 ?_
  refine GoR.done (GoQ.thn (GoC.seq ?_))
  refine Xt (.rd 0 (.rd 1 (.ef 2 (.rd 3 (.rd 4 .done))))) ?_
  refine Xk [(0, .gen []), (1, .gen [])] [] [(6, .func (.func 48) #[] #[vp bx 0, vp bi 0]), (5, .slice al l.length cl), (4, .bool false)] ak0 ?_
  refine Xa (f := 61) (args := #[.slice al l.length cl, .func (.func 48) #[] #[vp bx 0, vp bi 0]]) Tryz.call61 (foIx_spec l row i (by omega) (by omega) (by first | assumption | omega) (fun w h => hr1 _ (h.drop 0)) (fun w h => hr2 _ (h.drop 0)) hs) ?_
  rintro v2 w3 ⟨rfl, hs1⟩
  refine ⟨Xo, ?_⟩
  refine Xk [(3, .gen []), (4, .gen [])] [] [(4, .bool (decide ((ixI (idx dCall l (fun c => ofB c (row.getD i dReq))) : Int) ≥ 0)))] ak0 ?_
  refine GoR.done (GoQ.thn (GoC.ret ?_))
  refine X1 (v := .bool (decide ((ixI (idx dCall l (fun c => ofB c (row.getD i dReq))) : Int) ≥ 0))) ?_
  exact ⟨(congrArg Value.bool (ixI_some _)), hs1⟩
theorem forB_spec {w0 w : World} {L : List Asn} {bx : Nat} {x : Nat} {al : Option Addr} {cl : Nat} {ar : Option Addr} {cr : Nat} (l : List CallV) (row : List ReqV) (i : Nat) (hll : l.length ≤ 1000000) (hrr : row.length ≤ 1000000) (hi : i < row.length) (hr1 : ∀ w, St w0 L w → RowsAt w al l.length 13 (fun k => CallV.cells (l.getD k dCall))) (hr2 : ∀ w, St w0 L w → RowsAt w ar row.length 40 (fun k => ReqV.cells (row.getD k dReq))) (hs : St w0 ((Cel bx #[vp x 0] 62) :: (Cel x #[.slice al l.length cl, .slice ar row.length cr] 64) :: L) w) : Calls Tryz.prog 47 #[.int .i64 (i : Nat), vp bx 0] w (Ret fun rv w' => rv = .bool (forB l (row.getD i dReq)) ∧ St w0 ((Cel bx #[vp x 0] 62) :: (Cel x #[.slice al l.length cl, .slice ar row.length cr] 64) :: L) w') := by
  refine enter (args := [.int .i64 (i : Nat), vp bx 0]) Tryz.func47 rfl Tryz.ntmps47 (Nat.le_of_ble_eq_true (by kernel_rfl)) ?_
  refine GoC.slots (S' := [(0, .int .i64 (i : Nat)), (1, vp bx 0)]) rfl ?_
  refine GoC.seq ?_
  refine Xt (.ef 0 (.rd 1 .done)) ?_
  refine GoR.box rfl rfl (by kernel_rfl) (v := .int .i64 (i : Nat)) (by kernel_rfl) hs (cs := #[.int .i64 (i : Nat)]) (by kernel_rfl) ?_
  intro b1 w2 hs3
  refine ⟨Xo, ?_⟩
  refine Xk [(1, .gen [])] [] [(3, .bool false), (2, vp b1 0), (1, vp bx 0)] ak0 ?_
  refine GoR.done (GoQ.thn (GoC.seq ?_))
  refine Xt (.rd 0 (.rd 1 (.rd 2 (.rd 3 (.rd 4 (.ef 5 (.rd 6 (.rd 7 .done)))))))) ?_
  refine Xk [(0, .gen [vp x 0]), (1, .gen []), (2, .gen []), (3, .gen [.slice al l.length cl]), (4, .gen [])] [(0, [.cell ⟨bx, 0, none⟩ (vp x 0)]), (3, [.cell ⟨x, 0, none⟩ (.slice al l.length cl)])] [(8, .func (.func 48) #[] #[vp bx 0, vp b1 0]), (7, .slice al l.length cl), (3, .bool false)] (ak (okc (hs3.cell 1 rfl (by kernel_rfl)) ok0) (ak (okc (hs3.cell 2 rfl (by kernel_rfl)) ok0) ak0)) ?_
  have hs4 : St w0 ((Cel bx #[vp x 0] 62) :: (Cel x #[.slice al l.length cl, .slice ar row.length cr] 64) :: (Cel b1 #[.int .i64 (i : Nat)] 3) :: L) w2 := (((hs3.pull 0 rfl).pull 2 rfl).pull 2 rfl)
  refine Xa (f := 44) (args := #[.slice al l.length cl, .func (.func 48) #[] #[vp bx 0, vp b1 0]]) Tryz.call44 (foCf_spec l row i (by omega) (by omega) (by first | assumption | omega) (fun w h => hr1 _ (h.drop 0)) (fun w h => hr2 _ (h.drop 0)) hs4) ?_
  rintro v6 w7 ⟨rfl, hs5⟩
  refine ⟨Xo, ?_⟩
  refine Xk [(6, .gen []), (7, .gen [])] [] [(3, .bool (!((idx dCall l (fun c => ofB c (row.getD i dReq))).isSome)))] ak0 ?_
  refine GoR.done (GoQ.thn (GoC.ret ?_))
  refine X1 (v := .bool (!((idx dCall l (fun c => ofB c (row.getD i dReq))).isSome))) ?_
  have hs8 : St w0 ((Cel b1 #[.int .i64 (i : Nat)] 3) :: (Cel bx #[vp x 0] 62) :: (Cel x #[.slice al l.length cl, .slice ar row.length cr] 64) :: L) w7 := (((hs5.pull 1 rfl).pull 1 rfl).pull 2 rfl)
  have hs9 : St w0 ((Cel bx #[vp x 0] 62) :: (Cel x #[.slice al l.length cl, .slice ar row.length cr] 64) :: L) w7 := hs8.drop 1
  exact ⟨rfl, hs9⟩
theorem foFi_spec {w0 w : World} {L : List Asn} {bx : Nat} {x : Nat} {al : Option Addr} {cl : Nat} {ar : Option Addr} {cr : Nat} (l : List CallV) (row : List ReqV) (hll : l.length ≤ 1000000) (hrr : row.length ≤ 1000000) (hr1 : ∀ w, St w0 L w → RowsAt w al l.length 13 (fun k => CallV.cells (l.getD k dCall))) (hr2 : ∀ w, St w0 L w → RowsAt w ar row.length 40 (fun k => ReqV.cells (row.getD k dReq))) (hs : St w0 ((Cel bx #[vp x 0] 62) :: (Cel x #[.slice al l.length cl, .slice ar row.length cr] 64) :: L) w) : Calls Tryz.prog 40 #[.int .i64 (row.length : Nat), .func (.func 47) #[] #[vp bx 0]] w (Ret fun rv w' => rv = .tuple #[.int .i64 ((idx dReq row (forB l)).getD 0 : Nat), .bool ((idx dReq row (forB l)).isSome)] ∧ St w0 ((Cel bx #[vp x 0] 62) :: (Cel x #[.slice al l.length cl, .slice ar row.length cr] 64) :: L) w') := by
  refine enter (args := [.int .i64 (row.length : Nat), .func (.func 47) #[] #[vp bx 0]]) Tryz.func40 rfl Tryz.ntmps40 (Nat.le_of_ble_eq_true (by kernel_rfl)) ?_
  refine GoC.slots (S' := [(0, .int .i64 (row.length : Nat)), (1, .func (.func 47) #[] #[vp bx 0])]) rfl ?_
  refine GoC.seq ?_
  refine Xt (.rd 0 (.rd 1 .done)) ?_
  refine Xk [(0, .gen []), (1, .gen [])] [] [(5, .bool false), (4, .int .i64 0), (0, .int .i64 (row.length : Nat)), (1, .func (.func 47) #[] #[vp bx 0])] ak0 ?_
  refine GoR.done (GoQ.thn (GoC.seq (GoC.seq ?_)))
  refine Xt (.rd 0 (.rd 1 .done)) ?_
  refine Xk [(0, .gen []), (1, .gen [])] [] [(8, .int .i64 0), (7, .int .i64 (row.length : Nat)), (5, .bool false), (4, .int .i64 0), (1, .func (.func 47) #[] #[vp bx 0])] ak0 ?_
  refine GoR.done (GoQ.thn (GoC.block ?_))
  refine GoC.loop (T := Nat) (fun gg => [(1, .func (.func 47) #[] #[vp bx 0]), (7, .int .i64 (row.length : Nat)), (8, .int .i64 (gg : Nat))]) (fun gg w => (gg ≤ row.length ∧ ∀ z, z < gg → (forB l) (row.getD z dReq) = false) ∧ St w0 ((Cel bx #[vp x 0] 62) :: (Cel x #[.slice al l.length cl, .slice ar row.length cr] 64) :: L) w) (fun gg => row.length - gg) 0 [1, 7, 8] (by kernel_rfl) ⟨⟨Nat.zero_le _, fun i hi => absurd hi (Nat.not_lt_zero _)⟩, hs⟩ ?_
  rintro k w1 ⟨hp0, hs2⟩
  have hp : k ≤ row.length ∧ ∀ z, z < k → (forB l) (row.getD z dReq) = false := hp0
  have hs3 : St w0 ((Cel bx #[vp x 0] 62) :: (Cel x #[.slice al l.length cl, .slice ar row.length cr] 64) :: L) w1 := hs2
  refine GoC.slots (S' := [(1, .func (.func 47) #[] #[vp bx 0]), (7, .int .i64 (row.length : Nat)), (8, .int .i64 (k : Nat))]) rfl ?_
  refine GoC.seq ?_
  refine Xt (.rd 0 .done) ?_
  refine Xk [(0, .gen [])] [] [(9, .bool (decide (((k : Nat) : Int) < (row.length : Nat)))), (1, .func (.func 47) #[] #[vp bx 0]), (7, .int .i64 (row.length : Nat)), (8, .int .i64 (k : Nat))] ak0 ?_
  refine GoR.done (GoQ.thn (GoC.seq ?_))
  refine Xc (t := decide (((k : Nat) : Int) < (row.length : Nat))) (fun h4 => ?_) (fun h4 => ?_)
  · have h4' : ((k : Nat) : Int) < (row.length : Nat) := of_decide_eq_true h4
    have hk : k < row.length := by omega
    refine GoC.skip (GoQ.thn (GoC.seq (GoC.block (GoC.seq ?_))))
    refine Xt (.rd 0 (.rd 1 .done)) ?_
    refine Xk [(0, .gen []), (1, .gen [])] [] [(6, .int .i64 (k : Nat)), (1, .func (.func 47) #[] #[vp bx 0]), (7, .int .i64 (row.length : Nat)), (8, .int .i64 (k : Nat))] ak0 ?_
    refine GoR.done (GoQ.thn (GoC.seq ?_))
    refine Xt (.rd 0 (.rd 1 (.ef 2 .done))) ?_
    refine Xk [(0, .gen []), (1, .gen [])] [] [(12, .int .i64 (k : Nat)), (11, .func (.func 47) #[] #[vp bx 0]), (6, .int .i64 (k : Nat)), (1, .func (.func 47) #[] #[vp bx 0]), (7, .int .i64 (row.length : Nat)), (8, .int .i64 (k : Nat))] ak0 ?_
    refine Xa (f := 47) (args := #[.int .i64 (k : Nat), vp bx 0]) Tryz.call47 (forB_spec l row k (by omega) (by omega) (by first | assumption | omega) (fun w h => hr1 _ (h.drop 0)) (fun w h => hr2 _ (h.drop 0)) hs3) ?_
    rintro v6 w7 ⟨rfl, hs5⟩
    refine ⟨Xo, ?_⟩
    refine GoR.done (GoQ.thn ?_)
    refine Xc (t := forB l (row.getD k dReq)) (fun h8 => ?_) (fun h8 => ?_)
    · refine GoC.seq ?_
      refine Xt (.rd 0 (.rd 1 (.rd 2 .done))) ?_
      refine Xk [(0, .gen []), (1, .gen []), (2, .gen [])] [] [(5, .bool true), (4, .int .i64 (k : Nat)), (1, .func (.func 47) #[] #[vp bx 0]), (7, .int .i64 (row.length : Nat)), (8, .int .i64 (k : Nat))] ak0 ?_
      refine GoR.done (GoQ.thn (GoC.ret (GoQ.blkR (GoQ.skipCR (GoQ.skipLR (GoQ.blkR (GoQ.skipCR ?_)))))))
      refine X2 (v := .int .i64 (k : Nat)) (v' := .bool true) ?_
      exact ⟨(by rw [idx_at (d := dReq) (p := forB l) hk (show (forB l) (row.getD k dReq) = true from h8) hp.2]; rfl), hs5⟩
    · refine GoC.skip (GoQ.blkN (GoQ.thn ?_))
      refine Xt (.rd 0 (.rd 1 .done)) ?_
      refine Xk [(0, .as_ (.int .i64 ((k : Nat) + 1)) (.gen [])), (1, .gen [])] [(0, [.prop (Value.int .i64 (IntKind.i64.wrap ((k : Nat) + 1)) = Value.int .i64 ((k : Nat) + 1))])] [(8, .int .i64 ((k : Nat) + 1)), (1, .func (.func 47) #[] #[vp bx 0]), (7, .int .i64 (row.length : Nat))] (ak (okp (i64ok (by omega) (by omega)) ok0) ak0) ?_
      refine GoR.done ?_
      exact GoQ.back (k + 1) [1, 7, 8] (by kernel_rfl) (by show row.length - (k + 1) < row.length - k; omega) ⟨⟨by omega, none_step (p := fun z => (forB l) (row.getD z dReq)) hp.2 (show (forB l) (row.getD k dReq) = false from h8)⟩, hs5⟩
  · have h4' : ¬ (((k : Nat) : Int) < (row.length : Nat)) := of_decide_eq_false h4
    refine GoC.exit (GoQ.skipC (GoQ.skipL (GoQ.hit (GoQ.thn (GoC.seq ?_)))))
    refine Xt (.rd 0 (.rd 1 .done)) ?_
    refine Xk [(0, .gen []), (1, .gen [])] [] [(5, .bool false), (4, .int .i64 0)] ak0 ?_
    refine GoR.done (GoQ.thn (GoC.ret ?_))
    refine X2 (v := .int .i64 0) (v' := .bool false) ?_
    exact ⟨(by rw [idx_none (d := dReq) (l := row) (p := forB l) (fun i hi => hp.2 i (by omega))]; rfl), hs3⟩
theorem foreign_spec {w0 w : World} {L : List Asn} {x : Nat} {al : Option Addr} {cl : Nat} {ar : Option Addr} {cr : Nat} (l : List CallV) (row : List ReqV) (hll : l.length ≤ 1000000) (hrr : row.length ≤ 1000000) (hr1 : ∀ w, St w0 L w → RowsAt w al l.length 13 (fun k => CallV.cells (l.getD k dCall))) (hr2 : ∀ w, St w0 L w → RowsAt w ar row.length 40 (fun k => ReqV.cells (row.getD k dReq))) (hs : St w0 ((Cel x #[.slice al l.length cl, .slice ar row.length cr] 64) :: L) w) : Calls Tryz.prog 23 #[vp x 0] w (Ret fun rv w' => rv = .tuple #[.int .i64 ((idx dReq row (forB l)).getD 0 : Nat), .bool ((idx dReq row (forB l)).isSome)] ∧ St w0 ((Cel x #[.slice al l.length cl, .slice ar row.length cr] 64) :: L) w') := by
  refine enter (args := [vp x 0]) Tryz.func23 rfl Tryz.ntmps23 (Nat.le_of_ble_eq_true (by kernel_rfl)) ?_
  refine GoC.slots (S' := [(0, vp x 0)]) rfl ?_
  refine GoC.seq ?_
  refine Xt (.ef 0 (.rd 1 (.rd 2 .done))) ?_
  refine GoR.box rfl rfl (by kernel_rfl) (v := vp x 0) (by kernel_rfl) hs (cs := #[vp x 0]) (by kernel_rfl) ?_
  intro b1 w2 hs3
  refine ⟨Xo, ?_⟩
  refine Xk [(1, .gen []), (2, .gen [])] [] [(3, .bool false), (2, .int .i64 0), (1, vp b1 0)] ak0 ?_
  refine GoR.done (GoQ.thn (GoC.seq ?_))
  refine Xt (.rd 0 (.rd 1 (.rd 2 (.rd 3 (.rd 4 (.rd 5 (.ef 6 (.rd 7 (.rd 8 (.rd 9 (.rd 10 .done))))))))))) ?_
  refine Xk [(0, .gen [vp x 0]), (1, .gen []), (2, .gen []), (3, .gen [.slice ar row.length cr]), (4, .gen []), (5, .gen [])] [(0, [.cell ⟨b1, 0, none⟩ (vp x 0)]), (3, [.cell ⟨x, 1, none⟩ (.slice ar row.length cr)])] [(9, .func (.func 47) #[] #[vp b1 0]), (8, .int .i64 (row.length : Nat)), (3, .bool false), (2, .int .i64 0)] (ak (okc (hs3.cell 0 rfl (by kernel_rfl)) ok0) (ak (okc (hs3.cell 1 rfl (by kernel_rfl)) ok0) ak0)) ?_
  refine Xa (f := 40) (args := #[.int .i64 (row.length : Nat), .func (.func 47) #[] #[vp b1 0]]) Tryz.call40 (foFi_spec l row (by omega) (by omega) (fun w h => hr1 _ (h.drop 0)) (fun w h => hr2 _ (h.drop 0)) hs3) ?_
  rintro v5 w6 ⟨rfl, hs4⟩
  refine ⟨Xo, ?_⟩
  refine Xk [(7, .gen []), (8, .gen []), (9, .gen []), (10, .gen [])] [] [(3, .bool ((idx dReq row (forB l)).isSome)), (2, .int .i64 ((idx dReq row (forB l)).getD 0 : Nat))] ak0 ?_
  refine GoR.done (GoQ.thn (GoC.ret ?_))
  refine X2 (v := .int .i64 ((idx dReq row (forB l)).getD 0 : Nat)) (v' := .bool ((idx dReq row (forB l)).isSome)) ?_
  have hs7 : St w0 ((Cel x #[.slice al l.length cl, .slice ar row.length cr] 64) :: L) w6 := hs4.drop 1
  exact ⟨rfl, hs7⟩
def missB (row : List ReqV) (c : CallV) : Bool :=
  if c.done = true then
    decide ((placeI c row : Int) < 0)
  else
    false
theorem missB_spec {w0 w : World} {L : List Asn} {bx : Nat} {x : Nat} {al : Option Addr} {cl : Nat} {ar : Option Addr} {cr : Nat} (l : List CallV) (row : List ReqV) (c : CallV) (hll : l.length ≤ 1000000) (hrr : row.length ≤ 1000000) (hr1 : ∀ w, St w0 L w → RowsAt w al l.length 13 (fun k => CallV.cells (l.getD k dCall))) (hr2 : ∀ w, St w0 L w → RowsAt w ar row.length 40 (fun k => ReqV.cells (row.getD k dReq))) (hs : St w0 ((Cel bx #[vp x 0] 62) :: (Cel x #[.slice al l.length cl, .slice ar row.length cr] 64) :: L) w) : Calls Tryz.prog 51 #[.agg (CallV.cells c), vp bx 0] w (Ret fun rv w' => rv = .bool (missB row c) ∧ St w0 ((Cel bx #[vp x 0] 62) :: (Cel x #[.slice al l.length cl, .slice ar row.length cr] 64) :: L) w') := by
  refine enter (args := [.agg (CallV.cells c), vp bx 0]) Tryz.func51 rfl Tryz.ntmps51 (Nat.le_of_ble_eq_true (by kernel_rfl)) ?_
  refine GoC.slots (S' := [(0, .agg (CallV.cells c)), (1, vp bx 0)]) rfl ?_
  refine GoC.seq ?_
  refine Xt (.ef 0 (.rd 1 .done)) ?_
  refine GoR.box rfl rfl (by kernel_rfl) (v := .agg (CallV.cells c)) (by kernel_rfl) hs (cs := CallV.cells c) (by kernel_rfl) ?_
  intro b1 w2 hs3
  refine ⟨Xo, ?_⟩
  refine Xk [(1, .gen [])] [] [(3, .bool false), (2, vp b1 0), (1, vp bx 0)] ak0 ?_
  refine GoR.done (GoQ.thn (GoC.seq ?_))
  refine Xt (.rd 0 (.rd 1 (.rd 2 (.rd 3 (.rd 4 (.ef 5 (.rd 6 (.rd 7 (.rd 8 .done))))))))) ?_
  refine Xk [(0, .gen []), (1, .gen [.bool c.done]), (2, .gen [])] [(1, [.cell ⟨b1, 10, none⟩ (.bool c.done)])] [(6, .bool c.done), (3, .bool false), (2, vp b1 0), (1, vp bx 0)] (ak (okc (hs3.cell 0 rfl (by kernel_rfl)) ok0) ak0) ?_
  rcases Bool.eq_false_or_eq_true c.done with h4 | h4
  · refine Xs 6 true h4 ?_
    refine Xk [(3, .gen [vp x 0]), (4, .agg (CallV.cells c))] [(3, [.cell ⟨bx, 0, none⟩ (vp x 0)]), (4, [.prop (Array.size (CallV.cells c) = 13), .cells ⟨b1, 0, none⟩ (CallV.cells c)])] [(8, .agg (CallV.cells c)), (7, vp x 0), (6, .bool true), (3, .bool false)] (ak (okc (hs3.cell 1 rfl (by kernel_rfl)) ok0) (ak (okp (by kernel_rfl) (oka (hs3.cells 0 0 rfl (by kernel_rfl)) ok0)) ak0)) ?_
    have hs5 : St w0 ((Cel x #[.slice al l.length cl, .slice ar row.length cr] 64) :: (Cel b1 (CallV.cells c) 53) :: (Cel bx #[vp x 0] 62) :: L) w2 := (hs3.pull 2 rfl)
    refine Xa (f := 52) (args := #[vp x 0, .agg (CallV.cells c)]) Tryz.call52 (place_spec l row c (by omega) (by omega) (fun w h => hr1 _ (h.drop 2)) (fun w h => hr2 _ (h.drop 2)) hs5) ?_
    rintro v7 w8 ⟨rfl, hs6⟩
    refine ⟨Xo, ?_⟩
    refine Xk [(6, .gen []), (7, .gen []), (8, .gen [])] [] [(3, .bool (decide ((placeI c row : Int) < 0)))] ak0 ?_
    refine GoR.done (GoQ.thn (GoC.ret ?_))
    refine X1 (v := .bool (decide ((placeI c row : Int) < 0))) ?_
    have hr : missB row c = decide ((placeI c row : Int) < 0) := by rw [missB, if_pos h4]
    have hs9 : St w0 ((Cel b1 (CallV.cells c) 53) :: (Cel bx #[vp x 0] 62) :: (Cel x #[.slice al l.length cl, .slice ar row.length cr] 64) :: L) w8 := (((hs6.pull 0 rfl).pull 2 rfl).pull 2 rfl)
    have hs10 : St w0 ((Cel bx #[vp x 0] 62) :: (Cel x #[.slice al l.length cl, .slice ar row.length cr] 64) :: L) w8 := hs9.drop 1
    exact ⟨(by first | rfl | (rw [hr]; done) | (rw [hr]; rfl)), (by first | exact hs10 | (rw [hr]; exact hs10))⟩
  · refine Xs 6 false h4 ?_
    refine Xk [(3, .gen []), (4, .gen [])] [] [(8, undef), (7, undef), (6, .bool false), (3, .bool false)] ak0 ?_
    refine GoR.skip rfl (by kernel_rfl) Xo ?_
    refine Xk [(6, .gen []), (7, .gen []), (8, .gen [])] [] [(3, .bool false)] ak0 ?_
    refine GoR.done (GoQ.thn (GoC.ret ?_))
    refine X1 (v := .bool false) ?_
    have hr : missB row c = false := by rw [missB, if_neg (ne_true_of_eq_false h4)]
    have hs11 : St w0 ((Cel bx #[vp x 0] 62) :: (Cel x #[.slice al l.length cl, .slice ar row.length cr] 64) :: L) w2 := hs3.drop 1
    exact ⟨(by first | rfl | (rw [hr]; done) | (rw [hr]; rfl)), (by first | exact hs11 | (rw [hr]; exact hs11))⟩
theorem miC1_spec {w0 w : World} {L : List Asn} {bf : Nat} {bz : Nat} {x : Nat} {al : Option Addr} {cl : Nat} {ar : Option Addr} {cr : Nat} {bx : Nat} (l : List CallV) (row : List ReqV) (i : Nat) (hll : l.length ≤ 1000000) (hrr : row.length ≤ 1000000) (hi : i < l.length) (hr1 : ∀ w, St w0 L w → RowsAt w al l.length 13 (fun k => CallV.cells (l.getD k dCall))) (hr2 : ∀ w, St w0 L w → RowsAt w ar row.length 40 (fun k => ReqV.cells (row.getD k dReq))) (hs : St w0 ((Cel bf #[.func (.func 51) #[] #[vp bx 0]] 96) :: (Cel bz #[vp x 0] 62) :: (Cel x #[.slice al l.length cl, .slice ar row.length cr] 64) :: (Cel bx #[vp x 0] 62) :: L) w) : Calls Tryz.prog 60 #[.int .i64 (i : Nat), vp bf 0, vp bz 0] w (Ret fun rv w' => rv = .bool ((missB row) (l.getD i dCall)) ∧ St w0 ((Cel bf #[.func (.func 51) #[] #[vp bx 0]] 96) :: (Cel bz #[vp x 0] 62) :: (Cel x #[.slice al l.length cl, .slice ar row.length cr] 64) :: (Cel bx #[vp x 0] 62) :: L) w') := by
  refine enter (args := [.int .i64 (i : Nat), vp bf 0, vp bz 0]) Tryz.func60 rfl Tryz.ntmps60 (Nat.le_of_ble_eq_true (by kernel_rfl)) ?_
  refine GoC.slots (S' := [(0, .int .i64 (i : Nat)), (1, vp bf 0), (2, vp bz 0)]) rfl ?_
  refine GoC.seq ?_
  refine Xt (.rd 0 .done) ?_
  refine Xk [(0, .gen [])] [] [(4, .bool false), (0, .int .i64 (i : Nat)), (1, vp bf 0), (2, vp bz 0)] ak0 ?_
  refine GoR.done (GoQ.thn (GoC.seq ?_))
  obtain ⟨ab1, ao2, rfl⟩ := RowsAt.isSome (hr1 _ (hs.drop 4)) (by omega)
  refine GoC.regD [0, 0, 2, 6, 14, 0, 62, 126, 255, 511] (.rd 0 (.rd 1 (.rd 2 (.rd 3 (.rd 4 (.rd 5 (.rd 6 (.rd 7 (.ef 8 (.rd 9 .done)))))))))) (by kernel_rfl) (by kernel_rfl) noPan_body (by kernel_rfl) hs ?_
  intro w3 hs4 hw5
  refine Xk [(0, .gen [.func (.func 51) #[] #[vp bx 0]]), (1, .gen [vp x 0]), (2, .gen []), (3, .gen []), (4, .gen [vl ab1 ao2 l.length cl]), (5, .gen []), (6, .as_ (vp ab1 (ao2 + (i * 13))) .at_), (7, .agg (CallV.cells (l.getD i dCall)))] [(0, [.cell ⟨bf, 0, none⟩ (.func (.func 51) #[] #[vp bx 0])]), (1, [.cell ⟨bz, 0, none⟩ (vp x 0)]), (4, [.cell ⟨x, 0, none⟩ (vl ab1 ao2 l.length cl)]), (6, [.prop (0 ≤ ((i : Nat) : Int) ∧ ((i : Nat) : Int) < ((l.length : Nat) : Int)), .prop (Value.pointer (some (Addr.add ⟨ab1, ao2, none⟩ (Int.toNat (i : Nat) * 13))) = Value.pointer (some ⟨ab1, ao2 + (i * 13), none⟩))]), (7, [.prop (Array.size (CallV.cells (l.getD i dCall)) = 13), .cells ⟨ab1, ao2 + (i * 13), none⟩ (CallV.cells (l.getD i dCall))])] [(12, .agg (CallV.cells (l.getD i dCall))), (5, .func (.func 51) #[] #[vp bx 0]), (4, .bool false)] (ak (okc (hs4.cell 0 rfl (by kernel_rfl)) ok0) (ak (okc (hs4.cell 1 rfl (by kernel_rfl)) ok0) (ak (okc (hs4.cell 2 rfl (by kernel_rfl)) ok0) (ak (okp (by omega) (okp (ptrAdd _ _ _) ok0)) (ak (okp (by kernel_rfl) (oka (RowsAt.all0 (hr1 _ (hs4.drop 4)) (by first | omega | (simp only [List.length_set]; omega) | (simp only [List.length_set, List.length_append, List.length_cons, List.length_nil]; omega)) (Nat.le_of_ble_eq_true (by kernel_rfl)) (by kernel_rfl)) ok0)) ak0))))) ?_
  have hs6 : St w0 ((Cel bx #[vp x 0] 62) :: (Cel x #[vl ab1 ao2 l.length cl, .slice ar row.length cr] 64) :: (Cel bf #[.func (.func 51) #[] #[vp bx 0]] 96) :: (Cel bz #[vp x 0] 62) :: L) w3 := ((hs4.pull 2 rfl).pull 3 rfl)
  refine Xa (f := 51) (args := #[.agg (CallV.cells (l.getD i dCall)), vp bx 0]) Tryz.call51 (missB_spec l row (l.getD i dCall) (by omega) (by omega) (fun w h => hr1 _ (h.drop 2)) (fun w h => hr2 _ (h.drop 2)) hs6) ?_
  rintro v8 w9 ⟨rfl, hs7⟩
  refine ⟨Xo, ?_⟩
  refine Xk [(9, .gen [])] [] [(4, .bool (missB row (l.getD i dCall)))] ak0 ?_
  refine GoR.done (GoQ.thn (GoC.ret ?_))
  refine X1 (v := .bool (missB row (l.getD i dCall))) ?_
  have hs10 : St w0 ((Cel bf #[.func (.func 51) #[] #[vp bx 0]] 96) :: (Cel bz #[vp x 0] 62) :: (Cel x #[vl ab1 ao2 l.length cl, .slice ar row.length cr] 64) :: (Cel bx #[vp x 0] 62) :: L) w9 := ((((hs7.pull 0 rfl).pull 1 rfl).pull 3 rfl).pull 3 rfl)
  exact ⟨rfl, hs10⟩
theorem miFi_spec {w0 w : World} {L : List Asn} {bf : Nat} {bz : Nat} {x : Nat} {al : Option Addr} {cl : Nat} {ar : Option Addr} {cr : Nat} {bx : Nat} (l : List CallV) (row : List ReqV) (hll : l.length ≤ 1000000) (hrr : row.length ≤ 1000000) (hr1 : ∀ w, St w0 L w → RowsAt w al l.length 13 (fun k => CallV.cells (l.getD k dCall))) (hr2 : ∀ w, St w0 L w → RowsAt w ar row.length 40 (fun k => ReqV.cells (row.getD k dReq))) (hs : St w0 ((Cel bf #[.func (.func 51) #[] #[vp bx 0]] 96) :: (Cel bz #[vp x 0] 62) :: (Cel x #[.slice al l.length cl, .slice ar row.length cr] 64) :: (Cel bx #[vp x 0] 62) :: L) w) : Calls Tryz.prog 40 #[.int .i64 (l.length : Nat), .func (.func 60) #[] #[vp bf 0, vp bz 0]] w (Ret fun rv w' => rv = .tuple #[.int .i64 ((idx dCall l (missB row)).getD 0 : Nat), .bool ((idx dCall l (missB row)).isSome)] ∧ St w0 ((Cel bf #[.func (.func 51) #[] #[vp bx 0]] 96) :: (Cel bz #[vp x 0] 62) :: (Cel x #[.slice al l.length cl, .slice ar row.length cr] 64) :: (Cel bx #[vp x 0] 62) :: L) w') := by
  refine enter (args := [.int .i64 (l.length : Nat), .func (.func 60) #[] #[vp bf 0, vp bz 0]]) Tryz.func40 rfl Tryz.ntmps40 (Nat.le_of_ble_eq_true (by kernel_rfl)) ?_
  refine GoC.slots (S' := [(0, .int .i64 (l.length : Nat)), (1, .func (.func 60) #[] #[vp bf 0, vp bz 0])]) rfl ?_
  refine GoC.seq ?_
  refine Xt (.rd 0 (.rd 1 .done)) ?_
  refine Xk [(0, .gen []), (1, .gen [])] [] [(5, .bool false), (4, .int .i64 0), (0, .int .i64 (l.length : Nat)), (1, .func (.func 60) #[] #[vp bf 0, vp bz 0])] ak0 ?_
  refine GoR.done (GoQ.thn (GoC.seq (GoC.seq ?_)))
  refine Xt (.rd 0 (.rd 1 .done)) ?_
  refine Xk [(0, .gen []), (1, .gen [])] [] [(8, .int .i64 0), (7, .int .i64 (l.length : Nat)), (5, .bool false), (4, .int .i64 0), (1, .func (.func 60) #[] #[vp bf 0, vp bz 0])] ak0 ?_
  refine GoR.done (GoQ.thn (GoC.block ?_))
  refine GoC.loop (T := Nat) (fun gg => [(1, .func (.func 60) #[] #[vp bf 0, vp bz 0]), (7, .int .i64 (l.length : Nat)), (8, .int .i64 (gg : Nat))]) (fun gg w => (gg ≤ l.length ∧ ∀ z, z < gg → (missB row) (l.getD z dCall) = false) ∧ St w0 ((Cel bf #[.func (.func 51) #[] #[vp bx 0]] 96) :: (Cel bz #[vp x 0] 62) :: (Cel x #[.slice al l.length cl, .slice ar row.length cr] 64) :: (Cel bx #[vp x 0] 62) :: L) w) (fun gg => l.length - gg) 0 [1, 7, 8] (by kernel_rfl) ⟨⟨Nat.zero_le _, fun i hi => absurd hi (Nat.not_lt_zero _)⟩, hs⟩ ?_
  rintro k w1 ⟨hp0, hs2⟩
  have hp : k ≤ l.length ∧ ∀ z, z < k → (missB row) (l.getD z dCall) = false := hp0
  have hs3 : St w0 ((Cel bf #[.func (.func 51) #[] #[vp bx 0]] 96) :: (Cel bz #[vp x 0] 62) :: (Cel x #[.slice al l.length cl, .slice ar row.length cr] 64) :: (Cel bx #[vp x 0] 62) :: L) w1 := hs2
  refine GoC.slots (S' := [(1, .func (.func 60) #[] #[vp bf 0, vp bz 0]), (7, .int .i64 (l.length : Nat)), (8, .int .i64 (k : Nat))]) rfl ?_
  refine GoC.seq ?_
  refine Xt (.rd 0 .done) ?_
  refine Xk [(0, .gen [])] [] [(9, .bool (decide (((k : Nat) : Int) < (l.length : Nat)))), (1, .func (.func 60) #[] #[vp bf 0, vp bz 0]), (7, .int .i64 (l.length : Nat)), (8, .int .i64 (k : Nat))] ak0 ?_
  refine GoR.done (GoQ.thn (GoC.seq ?_))
  refine Xc (t := decide (((k : Nat) : Int) < (l.length : Nat))) (fun h4 => ?_) (fun h4 => ?_)
  · have h4' : ((k : Nat) : Int) < (l.length : Nat) := of_decide_eq_true h4
    have hk : k < l.length := by omega
    refine GoC.skip (GoQ.thn (GoC.seq (GoC.block (GoC.seq ?_))))
    refine Xt (.rd 0 (.rd 1 .done)) ?_
    refine Xk [(0, .gen []), (1, .gen [])] [] [(6, .int .i64 (k : Nat)), (1, .func (.func 60) #[] #[vp bf 0, vp bz 0]), (7, .int .i64 (l.length : Nat)), (8, .int .i64 (k : Nat))] ak0 ?_
    refine GoR.done (GoQ.thn (GoC.seq ?_))
    refine Xt (.rd 0 (.rd 1 (.ef 2 .done))) ?_
    refine Xk [(0, .gen []), (1, .gen [])] [] [(12, .int .i64 (k : Nat)), (11, .func (.func 60) #[] #[vp bf 0, vp bz 0]), (6, .int .i64 (k : Nat)), (1, .func (.func 60) #[] #[vp bf 0, vp bz 0]), (7, .int .i64 (l.length : Nat)), (8, .int .i64 (k : Nat))] ak0 ?_
    refine Xa (f := 60) (args := #[.int .i64 (k : Nat), vp bf 0, vp bz 0]) Tryz.call60 (miC1_spec l row k (by omega) (by omega) hk (fun w h => hr1 _ (h.drop 0)) (fun w h => hr2 _ (h.drop 0)) hs3) ?_
    rintro v6 w7 ⟨rfl, hs5⟩
    refine ⟨Xo, ?_⟩
    refine GoR.done (GoQ.thn ?_)
    refine Xc (t := (missB row) (l.getD k dCall)) (fun h8 => ?_) (fun h8 => ?_)
    · refine GoC.seq ?_
      refine Xt (.rd 0 (.rd 1 (.rd 2 .done))) ?_
      refine Xk [(0, .gen []), (1, .gen []), (2, .gen [])] [] [(5, .bool true), (4, .int .i64 (k : Nat)), (1, .func (.func 60) #[] #[vp bf 0, vp bz 0]), (7, .int .i64 (l.length : Nat)), (8, .int .i64 (k : Nat))] ak0 ?_
      refine GoR.done (GoQ.thn (GoC.ret (GoQ.blkR (GoQ.skipCR (GoQ.skipLR (GoQ.blkR (GoQ.skipCR ?_)))))))
      refine X2 (v := .int .i64 (k : Nat)) (v' := .bool true) ?_
      exact ⟨(by rw [idx_at (d := dCall) (p := missB row) hk (show (missB row) (l.getD k dCall) = true from h8) hp.2]; rfl), hs5⟩
    · refine GoC.skip (GoQ.blkN (GoQ.thn ?_))
      refine Xt (.rd 0 (.rd 1 .done)) ?_
      refine Xk [(0, .as_ (.int .i64 ((k : Nat) + 1)) (.gen [])), (1, .gen [])] [(0, [.prop (Value.int .i64 (IntKind.i64.wrap ((k : Nat) + 1)) = Value.int .i64 ((k : Nat) + 1))])] [(8, .int .i64 ((k : Nat) + 1)), (1, .func (.func 60) #[] #[vp bf 0, vp bz 0]), (7, .int .i64 (l.length : Nat))] (ak (okp (i64ok (by omega) (by omega)) ok0) ak0) ?_
      refine GoR.done ?_
      exact GoQ.back (k + 1) [1, 7, 8] (by kernel_rfl) (by show l.length - (k + 1) < l.length - k; omega) ⟨⟨by omega, none_step (p := fun z => (missB row) (l.getD z dCall)) hp.2 (show (missB row) (l.getD k dCall) = false from h8)⟩, hs5⟩
  · have h4' : ¬ (((k : Nat) : Int) < (l.length : Nat)) := of_decide_eq_false h4
    refine GoC.exit (GoQ.skipC (GoQ.skipL (GoQ.hit (GoQ.thn (GoC.seq ?_)))))
    refine Xt (.rd 0 (.rd 1 .done)) ?_
    refine Xk [(0, .gen []), (1, .gen [])] [] [(5, .bool false), (4, .int .i64 0)] ak0 ?_
    refine GoR.done (GoQ.thn (GoC.ret ?_))
    refine X2 (v := .int .i64 0) (v' := .bool false) ?_
    exact ⟨(by rw [idx_none (d := dCall) (l := l) (p := missB row) (fun i hi => hp.2 i (by omega))]; rfl), hs3⟩
theorem miCa_spec {w0 w : World} {L : List Asn} {x : Nat} {al : Option Addr} {cl : Nat} {ar : Option Addr} {cr : Nat} {bx : Nat} (l : List CallV) (row : List ReqV) (hll : l.length ≤ 1000000) (hrr : row.length ≤ 1000000) (hr1 : ∀ w, St w0 L w → RowsAt w al l.length 13 (fun k => CallV.cells (l.getD k dCall))) (hr2 : ∀ w, St w0 L w → RowsAt w ar row.length 40 (fun k => ReqV.cells (row.getD k dReq))) (hs : St w0 ((Cel x #[.slice al l.length cl, .slice ar row.length cr] 64) :: (Cel bx #[vp x 0] 62) :: L) w) : Calls Tryz.prog 42 #[vp x 0, .func (.func 51) #[] #[vp bx 0]] w (Ret fun rv w' => rv = .tuple #[.int .i64 ((idx dCall l (missB row)).getD 0 : Nat), .bool ((idx dCall l (missB row)).isSome)] ∧ St w0 ((Cel x #[.slice al l.length cl, .slice ar row.length cr] 64) :: (Cel bx #[vp x 0] 62) :: L) w') := by
  refine enter (args := [vp x 0, .func (.func 51) #[] #[vp bx 0]]) Tryz.func42 rfl Tryz.ntmps42 (Nat.le_of_ble_eq_true (by kernel_rfl)) ?_
  refine GoC.slots (S' := [(0, vp x 0), (1, .func (.func 51) #[] #[vp bx 0])]) rfl ?_
  refine GoC.seq ?_
  refine Xt (.ef 0 (.ef 1 (.rd 2 (.rd 3 .done)))) ?_
  refine GoR.box rfl rfl (by kernel_rfl) (v := vp x 0) (by kernel_rfl) hs (cs := #[vp x 0]) (by kernel_rfl) ?_
  intro b1 w2 hs3
  refine ⟨Xo, ?_⟩
  refine GoR.box rfl rfl (by kernel_rfl) (v := .func (.func 51) #[] #[vp bx 0]) (by kernel_rfl) hs3 (cs := #[.func (.func 51) #[] #[vp bx 0]]) (by kernel_rfl) ?_
  intro b4 w5 hs6
  refine ⟨Xo, ?_⟩
  refine Xk [(2, .gen []), (3, .gen [])] [] [(5, .bool false), (4, .int .i64 0), (3, vp b4 0), (2, vp b1 0)] ak0 ?_
  refine GoR.done (GoQ.thn (GoC.seq ?_))
  refine Xt (.rd 0 (.rd 1 (.rd 2 (.rd 3 (.rd 4 (.rd 5 (.ef 6 (.rd 7 (.rd 8 (.rd 9 (.rd 10 .done))))))))))) ?_
  refine Xk [(0, .gen [vp x 0]), (1, .gen []), (2, .gen []), (3, .gen [.slice al l.length cl]), (4, .gen []), (5, .gen [])] [(0, [.cell ⟨b1, 0, none⟩ (vp x 0)]), (3, [.cell ⟨x, 0, none⟩ (.slice al l.length cl)])] [(11, .func (.func 60) #[] #[vp b4 0, vp b1 0]), (10, .int .i64 (l.length : Nat)), (5, .bool false), (4, .int .i64 0)] (ak (okc (hs6.cell 1 rfl (by kernel_rfl)) ok0) (ak (okc (hs6.cell 2 rfl (by kernel_rfl)) ok0) ak0)) ?_
  refine Xa (f := 40) (args := #[.int .i64 (l.length : Nat), .func (.func 60) #[] #[vp b4 0, vp b1 0]]) Tryz.call40 (miFi_spec l row (by omega) (by omega) (fun w h => hr1 _ (h.drop 0)) (fun w h => hr2 _ (h.drop 0)) hs6) ?_
  rintro v8 w9 ⟨rfl, hs7⟩
  refine ⟨Xo, ?_⟩
  refine Xk [(7, .gen []), (8, .gen []), (9, .gen []), (10, .gen [])] [] [(5, .bool ((idx dCall l (missB row)).isSome)), (4, .int .i64 ((idx dCall l (missB row)).getD 0 : Nat))] ak0 ?_
  refine GoR.done (GoQ.thn (GoC.ret ?_))
  refine X2 (v := .int .i64 ((idx dCall l (missB row)).getD 0 : Nat)) (v' := .bool ((idx dCall l (missB row)).isSome)) ?_
  have hs10 : St w0 ((Cel x #[.slice al l.length cl, .slice ar row.length cr] 64) :: (Cel bx #[vp x 0] 62) :: L) w9 := hs7.drop 2
  exact ⟨rfl, hs10⟩
theorem missing_spec {w0 w : World} {L : List Asn} {x : Nat} {al : Option Addr} {cl : Nat} {ar : Option Addr} {cr : Nat} (l : List CallV) (row : List ReqV) (hll : l.length ≤ 1000000) (hrr : row.length ≤ 1000000) (hr1 : ∀ w, St w0 L w → RowsAt w al l.length 13 (fun k => CallV.cells (l.getD k dCall))) (hr2 : ∀ w, St w0 L w → RowsAt w ar row.length 40 (fun k => ReqV.cells (row.getD k dReq))) (hs : St w0 ((Cel x #[.slice al l.length cl, .slice ar row.length cr] 64) :: L) w) : Calls Tryz.prog 27 #[vp x 0] w (Ret fun rv w' => rv = .tuple #[.int .i64 ((idx dCall l (missB row)).getD 0 : Nat), .bool ((idx dCall l (missB row)).isSome)] ∧ St w0 ((Cel x #[.slice al l.length cl, .slice ar row.length cr] 64) :: L) w') := by
  refine enter (args := [vp x 0]) Tryz.func27 rfl Tryz.ntmps27 (Nat.le_of_ble_eq_true (by kernel_rfl)) ?_
  refine GoC.slots (S' := [(0, vp x 0)]) rfl ?_
  refine GoC.seq ?_
  refine Xt (.ef 0 (.rd 1 (.rd 2 .done))) ?_
  refine GoR.box rfl rfl (by kernel_rfl) (v := vp x 0) (by kernel_rfl) hs (cs := #[vp x 0]) (by kernel_rfl) ?_
  intro b1 w2 hs3
  refine ⟨Xo, ?_⟩
  refine Xk [(1, .gen []), (2, .gen [])] [] [(3, .bool false), (2, .int .i64 0), (1, vp b1 0)] ak0 ?_
  refine GoR.done (GoQ.thn (GoC.seq ?_))
  refine Xt (.rd 0 (.rd 1 (.ef 2 (.rd 3 (.rd 4 (.rd 5 (.rd 6 .done))))))) ?_
  refine Xk [(0, .gen [vp x 0]), (1, .gen [])] [(0, [.cell ⟨b1, 0, none⟩ (vp x 0)])] [(5, .func (.func 51) #[] #[vp b1 0]), (4, vp x 0), (3, .bool false), (2, .int .i64 0)] (ak (okc (hs3.cell 0 rfl (by kernel_rfl)) ok0) ak0) ?_
  have hs4 : St w0 ((Cel x #[.slice al l.length cl, .slice ar row.length cr] 64) :: (Cel b1 #[vp x 0] 62) :: L) w2 := ((hs3.pull 0 rfl).pull 1 rfl)
  refine Xa (f := 42) (args := #[vp x 0, .func (.func 51) #[] #[vp b1 0]]) Tryz.call42 (miCa_spec l row (by omega) (by omega) (fun w h => hr1 _ (h.drop 0)) (fun w h => hr2 _ (h.drop 0)) hs4) ?_
  rintro v6 w7 ⟨rfl, hs5⟩
  refine ⟨Xo, ?_⟩
  refine Xk [(3, .gen []), (4, .gen []), (5, .gen []), (6, .gen [])] [] [(3, .bool ((idx dCall l (missB row)).isSome)), (2, .int .i64 ((idx dCall l (missB row)).getD 0 : Nat))] ak0 ?_
  refine GoR.done (GoQ.thn (GoC.ret ?_))
  refine X2 (v := .int .i64 ((idx dCall l (missB row)).getD 0 : Nat)) (v' := .bool ((idx dCall l (missB row)).isSome)) ?_
  have hs8 : St w0 ((Cel b1 #[vp x 0] 62) :: (Cel x #[.slice al l.length cl, .slice ar row.length cr] 64) :: L) w7 := ((hs5.pull 0 rfl).pull 1 rfl)
  have hs9 : St w0 ((Cel x #[.slice al l.length cl, .slice ar row.length cr] 64) :: L) w7 := hs8.drop 1
  exact ⟨rfl, hs9⟩
def ear1 (row : List ReqV) (c : CallV) (p : Int) (d : CallV) : Bool :=
  if (aheadB d c) = true then
    decide ((placeI d row : Int) > p)
  else
    false
theorem ear1_spec {w0 w : World} {L : List Asn} {bc : Nat} {bx : Nat} {x : Nat} {bp : Nat} {al : Option Addr} {cl : Nat} {ar : Option Addr} {cr : Nat} (l : List CallV) (row : List ReqV) (c : CallV) (d : CallV) (p : Int) (hll : l.length ≤ 1000000) (hrr : row.length ≤ 1000000) (hr1 : ∀ w, St w0 L w → RowsAt w al l.length 13 (fun k => CallV.cells (l.getD k dCall))) (hr2 : ∀ w, St w0 L w → RowsAt w ar row.length 40 (fun k => ReqV.cells (row.getD k dReq))) (hs : St w0 ((Cel bc (CallV.cells c) 53) :: (Cel bx #[vp x 0] 62) :: (Cel x #[.slice al l.length cl, .slice ar row.length cr] 64) :: (Cel bp #[.int .i64 p] 3) :: L) w) : Calls Tryz.prog 57 #[.agg (CallV.cells d), vp bc 0, vp bx 0, vp bp 0] w (Ret fun rv w' => rv = .bool (ear1 row c p d) ∧ St w0 ((Cel bc (CallV.cells c) 53) :: (Cel bx #[vp x 0] 62) :: (Cel x #[.slice al l.length cl, .slice ar row.length cr] 64) :: (Cel bp #[.int .i64 p] 3) :: L) w') := by
  refine enter (args := [.agg (CallV.cells d), vp bc 0, vp bx 0, vp bp 0]) Tryz.func57 rfl Tryz.ntmps57 (Nat.le_of_ble_eq_true (by kernel_rfl)) ?_
  refine GoC.slots (S' := [(0, .agg (CallV.cells d)), (1, vp bc 0), (2, vp bx 0), (3, vp bp 0)]) rfl ?_
  refine GoC.seq ?_
  refine Xt (.ef 0 (.rd 1 .done)) ?_
  refine GoR.box rfl rfl (by kernel_rfl) (v := .agg (CallV.cells d)) (by kernel_rfl) hs (cs := CallV.cells d) (by kernel_rfl) ?_
  intro b1 w2 hs3
  refine ⟨Xo, ?_⟩
  refine Xk [(1, .gen [])] [] [(5, .bool false), (4, vp b1 0), (1, vp bc 0), (2, vp bx 0), (3, vp bp 0)] ak0 ?_
  refine GoR.done (GoQ.thn (GoC.seq ?_))
  refine GoC.regD [0, 0, 3, 7, 15, 15, 63, 15, 255, 511, 1023] (.rd 0 (.rd 1 (.ef 2 (.rd 3 (.rd 4 (.rd 5 (.rd 7 (.ef 6 (.rd 8 (.rd 9 (.rd 10 .done))))))))))) (by kernel_rfl) (by kernel_rfl) noPan_body (by kernel_rfl) hs3 ?_
  intro w4 hs5 hw6
  refine Xk [(0, .agg (CallV.cells d)), (1, .agg (CallV.cells c))] [(0, [.prop (Array.size (CallV.cells d) = 13), .cells ⟨b1, 0, none⟩ (CallV.cells d)]), (1, [.prop (Array.size (CallV.cells c) = 13), .cells ⟨bc, 0, none⟩ (CallV.cells c)])] [(7, .agg (CallV.cells c)), (6, .agg (CallV.cells d)), (5, .bool false), (4, vp b1 0), (2, vp bx 0), (3, vp bp 0)] (ak (okp (by kernel_rfl) (oka (hs5.cells 0 0 rfl (by kernel_rfl)) ok0)) (ak (okp (by kernel_rfl) (oka (hs5.cells 1 0 rfl (by kernel_rfl)) ok0)) ak0)) ?_
  refine Xa (f := 46) (args := #[.agg (CallV.cells d), .agg (CallV.cells c)]) Tryz.call46 (aheadB_spec d c  hs5) ?_
  rintro v8 w9 ⟨rfl, hs7⟩
  refine ⟨Xo, ?_⟩
  refine Xk [(3, .gen [])] [] [(9, .bool (aheadB d c)), (5, .bool false), (4, vp b1 0), (2, vp bx 0), (3, vp bp 0)] ak0 ?_
  rcases Bool.eq_false_or_eq_true (aheadB d c) with h10 | h10
  · refine Xs 9 true h10 ?_
    refine Xk [(4, .gen [vp x 0]), (5, .agg (CallV.cells d)), (7, .gen [.int .i64 p])] [(4, [.cell ⟨bx, 0, none⟩ (vp x 0)]), (5, [.prop (Array.size (CallV.cells d) = 13), .cells ⟨b1, 0, none⟩ (CallV.cells d)]), (7, [.cell ⟨bp, 0, none⟩ (.int .i64 p)])] [(13, .int .i64 p), (11, .agg (CallV.cells d)), (10, vp x 0), (9, .bool true), (5, .bool false)] (ak (okc (hs7.cell 2 rfl (by kernel_rfl)) ok0) (ak (okp (by kernel_rfl) (oka (hs7.cells 0 0 rfl (by kernel_rfl)) ok0)) (ak (okc (hs7.cell 4 rfl (by kernel_rfl)) ok0) ak0))) ?_
    have hs11 : St w0 ((Cel x #[.slice al l.length cl, .slice ar row.length cr] 64) :: (Cel b1 (CallV.cells d) 53) :: (Cel bc (CallV.cells c) 53) :: (Cel bx #[vp x 0] 62) :: (Cel bp #[.int .i64 p] 3) :: L) w9 := (hs7.pull 3 rfl)
    refine Xa (f := 52) (args := #[vp x 0, .agg (CallV.cells d)]) Tryz.call52 (place_spec l row d (by omega) (by omega) (fun w h => hr1 _ (h.drop 4)) (fun w h => hr2 _ (h.drop 4)) hs11) ?_
    rintro v13 w14 ⟨rfl, hs12⟩
    refine ⟨(opl (n := [.cell ⟨bp, 0, none⟩ (.int .i64 p)]) (by kernel_rfl) (okc (hs12.cell 4 rfl (by kernel_rfl)) ok0)), ?_⟩
    refine Xk [(8, .gen []), (9, .gen []), (10, .gen [])] [] [(5, .bool (decide ((placeI d row : Int) > p)))] ak0 ?_
    refine GoR.done (GoQ.thn (GoC.ret ?_))
    refine X1 (v := .bool (decide ((placeI d row : Int) > p))) ?_
    have hr : ear1 row c p d = decide ((placeI d row : Int) > p) := by rw [ear1, if_pos h10]
    have hs15 : St w0 ((Cel b1 (CallV.cells d) 53) :: (Cel bc (CallV.cells c) 53) :: (Cel bx #[vp x 0] 62) :: (Cel x #[.slice al l.length cl, .slice ar row.length cr] 64) :: (Cel bp #[.int .i64 p] 3) :: L) w14 := (((((hs12.pull 4 rfl).pull 1 rfl).pull 4 rfl).pull 4 rfl).pull 4 rfl)
    have hs16 : St w0 ((Cel bc (CallV.cells c) 53) :: (Cel bx #[vp x 0] 62) :: (Cel x #[.slice al l.length cl, .slice ar row.length cr] 64) :: (Cel bp #[.int .i64 p] 3) :: L) w14 := hs15.drop 1
    exact ⟨(by first | rfl | (rw [hr]; done) | (rw [hr]; rfl)), (by first | exact hs16 | (rw [hr]; exact hs16))⟩
  · refine Xs 9 false h10 ?_
    refine Xk [(4, .gen []), (5, .gen []), (7, .gen [])] [] [(13, undef), (11, undef), (10, undef), (9, .bool false), (5, .bool false)] ak0 ?_
    refine GoR.skip rfl (by kernel_rfl) Xo ?_
    refine Xk [(8, .gen []), (9, .gen []), (10, .gen [])] [] [(5, .bool false)] ak0 ?_
    refine GoR.done (GoQ.thn (GoC.ret ?_))
    refine X1 (v := .bool false) ?_
    have hr : ear1 row c p d = false := by rw [ear1, if_neg (ne_true_of_eq_false h10)]
    have hs17 : St w0 ((Cel bc (CallV.cells c) 53) :: (Cel bx #[vp x 0] 62) :: (Cel x #[.slice al l.length cl, .slice ar row.length cr] 64) :: (Cel bp #[.int .i64 p] 3) :: L) w9 := hs7.drop 1
    exact ⟨(by first | rfl | (rw [hr]; done) | (rw [hr]; rfl)), (by first | exact hs17 | (rw [hr]; exact hs17))⟩
theorem eaIx_spec {w0 w : World} {L : List Asn} {al : Option Addr} {cl : Nat} {bc : Nat} {bx : Nat} {x : Nat} {bp : Nat} {ar : Option Addr} {cr : Nat} (l : List CallV) (row : List ReqV) (c : CallV) (p : Int) (hlen : l.length ≤ 1000000) (hrr : row.length ≤ 1000000) (hr1 : ∀ w, St w0 L w → RowsAt w al l.length 13 (fun k => CallV.cells (l.getD k dCall))) (hr2 : ∀ w, St w0 L w → RowsAt w ar row.length 40 (fun k => ReqV.cells (row.getD k dReq))) (hs : St w0 ((Cel bc (CallV.cells c) 53) :: (Cel bx #[vp x 0] 62) :: (Cel x #[.slice al l.length cl, .slice ar row.length cr] 64) :: (Cel bp #[.int .i64 p] 3) :: L) w) : Calls Tryz.prog 61 #[.slice al l.length cl, .func (.func 57) #[] #[vp bc 0, vp bx 0, vp bp 0]] w (Ret fun rv w' => rv = .int .i64 (ixI (idx dCall l (ear1 row c p))) ∧ St w0 ((Cel bc (CallV.cells c) 53) :: (Cel bx #[vp x 0] 62) :: (Cel x #[.slice al l.length cl, .slice ar row.length cr] 64) :: (Cel bp #[.int .i64 p] 3) :: L) w') := by
  refine enter (args := [.slice al l.length cl, .func (.func 57) #[] #[vp bc 0, vp bx 0, vp bp 0]]) Tryz.func61 rfl Tryz.ntmps61 (Nat.le_of_ble_eq_true (by kernel_rfl)) ?_
  refine GoC.slots (S' := [(0, .slice al l.length cl), (1, .func (.func 57) #[] #[vp bc 0, vp bx 0, vp bp 0])]) rfl ?_
  refine GoC.seq ?_
  refine Xt (.rd 0 .done) ?_
  refine Xk [(0, .gen [])] [] [(4, .int .i64 0), (0, .slice al l.length cl), (1, .func (.func 57) #[] #[vp bc 0, vp bx 0, vp bp 0])] ak0 ?_
  refine GoR.done (GoQ.thn (GoC.seq (GoC.seq ?_)))
  refine Xt (.rd 0 (.rd 1 (.rd 2 .done))) ?_
  refine Xk [(0, .gen []), (1, .gen []), (2, .gen [])] [] [(8, .int .i64 0), (7, .int .i64 (l.length : Nat)), (4, .int .i64 0), (0, .slice al l.length cl), (1, .func (.func 57) #[] #[vp bc 0, vp bx 0, vp bp 0])] ak0 ?_
  refine GoR.done (GoQ.thn (GoC.block ?_))
  refine GoC.loop (T := Nat) (fun gg => [(0, .slice al l.length cl), (1, .func (.func 57) #[] #[vp bc 0, vp bx 0, vp bp 0]), (7, .int .i64 (l.length : Nat)), (8, .int .i64 (gg : Nat))]) (fun gg w => (gg ≤ l.length ∧ ∀ z, z < gg → (ear1 row c p) (l.getD z dCall) = false) ∧ St w0 ((Cel bc (CallV.cells c) 53) :: (Cel bx #[vp x 0] 62) :: (Cel x #[.slice al l.length cl, .slice ar row.length cr] 64) :: (Cel bp #[.int .i64 p] 3) :: L) w) (fun gg => l.length - gg) 0 [0, 1, 7, 8] (by kernel_rfl) ⟨⟨Nat.zero_le _, fun i hi => absurd hi (Nat.not_lt_zero _)⟩, hs⟩ ?_
  rintro k w1 ⟨hp0, hs2⟩
  have hp : k ≤ l.length ∧ ∀ z, z < k → (ear1 row c p) (l.getD z dCall) = false := hp0
  have hs3 : St w0 ((Cel bc (CallV.cells c) 53) :: (Cel bx #[vp x 0] 62) :: (Cel x #[.slice al l.length cl, .slice ar row.length cr] 64) :: (Cel bp #[.int .i64 p] 3) :: L) w1 := hs2
  refine GoC.slots (S' := [(0, .slice al l.length cl), (1, .func (.func 57) #[] #[vp bc 0, vp bx 0, vp bp 0]), (7, .int .i64 (l.length : Nat)), (8, .int .i64 (k : Nat))]) rfl ?_
  refine GoC.seq ?_
  refine Xt (.rd 0 .done) ?_
  refine Xk [(0, .gen [])] [] [(9, .bool (decide (((k : Nat) : Int) < (l.length : Nat)))), (0, .slice al l.length cl), (1, .func (.func 57) #[] #[vp bc 0, vp bx 0, vp bp 0]), (7, .int .i64 (l.length : Nat)), (8, .int .i64 (k : Nat))] ak0 ?_
  refine GoR.done (GoQ.thn (GoC.seq ?_))
  refine Xc (t := decide (((k : Nat) : Int) < (l.length : Nat))) (fun h4 => ?_) (fun h4 => ?_)
  · have h4' : ((k : Nat) : Int) < (l.length : Nat) := of_decide_eq_true h4
    have hk : k < l.length := by omega
    obtain ⟨ab5, ao6, rfl⟩ := RowsAt.isSome (hr1 _ (hs3.drop 4)) (by omega)
    refine GoC.skip (GoQ.thn (GoC.seq (GoC.block (GoC.seq ?_))))
    refine Xt (.rd 0 (.rd 1 .done)) ?_
    refine Xk [(0, .gen []), (1, .gen [])] [] [(5, .int .i64 (k : Nat)), (0, vl ab5 ao6 l.length cl), (1, .func (.func 57) #[] #[vp bc 0, vp bx 0, vp bp 0]), (7, .int .i64 (l.length : Nat)), (8, .int .i64 (k : Nat))] ak0 ?_
    refine GoR.done (GoQ.thn (GoC.seq ?_))
    refine Xt (.rd 0 (.rd 1 (.rd 2 (.rd 3 (.rd 4 (.ef 5 .done)))))) ?_
    refine Xk [(0, .gen []), (1, .gen []), (2, .gen []), (3, .as_ (vp ab5 (ao6 + (k * 13))) .at_), (4, .agg (CallV.cells (l.getD k dCall)))] [(3, [.prop (0 ≤ ((k : Nat) : Int) ∧ ((k : Nat) : Int) < ((l.length : Nat) : Int)), .prop (Value.pointer (some (Addr.add ⟨ab5, ao6, none⟩ (Int.toNat (k : Nat) * 13))) = Value.pointer (some ⟨ab5, ao6 + (k * 13), none⟩))]), (4, [.prop (Array.size (CallV.cells (l.getD k dCall)) = 13), .cells ⟨ab5, ao6 + (k * 13), none⟩ (CallV.cells (l.getD k dCall))])] [(15, .agg (CallV.cells (l.getD k dCall))), (11, .func (.func 57) #[] #[vp bc 0, vp bx 0, vp bp 0]), (5, .int .i64 (k : Nat)), (0, vl ab5 ao6 l.length cl), (1, .func (.func 57) #[] #[vp bc 0, vp bx 0, vp bp 0]), (7, .int .i64 (l.length : Nat)), (8, .int .i64 (k : Nat))] (ak (okp (by omega) (okp (ptrAdd _ _ _) ok0)) (ak (okp (by kernel_rfl) (oka (RowsAt.all0 (hr1 _ (hs3.drop 4)) (by first | omega | (simp only [List.length_set]; omega) | (simp only [List.length_set, List.length_append, List.length_cons, List.length_nil]; omega)) (Nat.le_of_ble_eq_true (by kernel_rfl)) (by kernel_rfl)) ok0)) ak0)) ?_
    refine Xa (f := 57) (args := #[.agg (CallV.cells (l.getD k dCall)), vp bc 0, vp bx 0, vp bp 0]) Tryz.call57 (ear1_spec l row c (l.getD k dCall) p (by omega) (by omega) (fun w h => hr1 _ (h.drop 0)) (fun w h => hr2 _ (h.drop 0)) hs3) ?_
    rintro v8 w9 ⟨rfl, hs7⟩
    refine ⟨Xo, ?_⟩
    refine GoR.done (GoQ.thn ?_)
    refine Xc (t := ear1 row c p (l.getD k dCall)) (fun h10 => ?_) (fun h10 => ?_)
    · refine GoC.seq ?_
      refine Xt (.rd 0 (.rd 1 .done)) ?_
      refine Xk [(0, .gen []), (1, .gen [])] [] [(4, .int .i64 (k : Nat)), (0, vl ab5 ao6 l.length cl), (1, .func (.func 57) #[] #[vp bc 0, vp bx 0, vp bp 0]), (7, .int .i64 (l.length : Nat)), (8, .int .i64 (k : Nat))] ak0 ?_
      refine GoR.done (GoQ.thn (GoC.ret (GoQ.blkR (GoQ.skipCR (GoQ.skipLR (GoQ.blkR (GoQ.skipCR ?_)))))))
      refine X1 (v := .int .i64 (k : Nat)) ?_
      exact ⟨(by rw [idx_at (d := dCall) (p := ear1 row c p) hk (show (ear1 row c p) (l.getD k dCall) = true from h10) hp.2]; rfl), hs7⟩
    · refine GoC.skip (GoQ.blkN (GoQ.thn ?_))
      refine Xt (.rd 0 (.rd 1 .done)) ?_
      refine Xk [(0, .as_ (.int .i64 ((k : Nat) + 1)) (.gen [])), (1, .gen [])] [(0, [.prop (Value.int .i64 (IntKind.i64.wrap ((k : Nat) + 1)) = Value.int .i64 ((k : Nat) + 1))])] [(8, .int .i64 ((k : Nat) + 1)), (0, vl ab5 ao6 l.length cl), (1, .func (.func 57) #[] #[vp bc 0, vp bx 0, vp bp 0]), (7, .int .i64 (l.length : Nat))] (ak (okp (i64ok (by omega) (by omega)) ok0) ak0) ?_
      refine GoR.done ?_
      exact GoQ.back (k + 1) [0, 1, 7, 8] (by kernel_rfl) (by show l.length - (k + 1) < l.length - k; omega) ⟨⟨by omega, none_step (p := fun z => (ear1 row c p) (l.getD z dCall)) hp.2 (show (ear1 row c p) (l.getD k dCall) = false from h10)⟩, hs7⟩
  · have h4' : ¬ (((k : Nat) : Int) < (l.length : Nat)) := of_decide_eq_false h4
    refine GoC.exit (GoQ.skipC (GoQ.skipL (GoQ.hit (GoQ.thn (GoC.seq ?_)))))
    refine Xt (.rd 0 .done) ?_
    refine Xk [(0, .gen [])] [] [(4, .int .i64 (-1))] ak0 ?_
    refine GoR.done (GoQ.thn (GoC.ret ?_))
    refine X1 (v := .int .i64 (-1)) ?_
    exact ⟨(by rw [idx_none (d := dCall) (l := l) (p := ear1 row c p) (fun i hi => hp.2 i (by omega))]; rfl), hs3⟩
theorem eaCf_spec {w0 w : World} {L : List Asn} {al : Option Addr} {cl : Nat} {bc : Nat} {bx : Nat} {x : Nat} {bp : Nat} {ar : Option Addr} {cr : Nat} (l : List CallV) (row : List ReqV) (c : CallV) (p : Int) (hlen : l.length ≤ 1000000) (hrr : row.length ≤ 1000000) (hr1 : ∀ w, St w0 L w → RowsAt w al l.length 13 (fun k => CallV.cells (l.getD k dCall))) (hr2 : ∀ w, St w0 L w → RowsAt w ar row.length 40 (fun k => ReqV.cells (row.getD k dReq))) (hs : St w0 ((Cel bc (CallV.cells c) 53) :: (Cel bx #[vp x 0] 62) :: (Cel x #[.slice al l.length cl, .slice ar row.length cr] 64) :: (Cel bp #[.int .i64 p] 3) :: L) w) : Calls Tryz.prog 44 #[.slice al l.length cl, .func (.func 57) #[] #[vp bc 0, vp bx 0, vp bp 0]] w (Ret fun rv w' => rv = .bool ((idx dCall l (ear1 row c p)).isSome) ∧ St w0 ((Cel bc (CallV.cells c) 53) :: (Cel bx #[vp x 0] 62) :: (Cel x #[.slice al l.length cl, .slice ar row.length cr] 64) :: (Cel bp #[.int .i64 p] 3) :: L) w') := by
  refine enter (args := [.slice al l.length cl, .func (.func 57) #[] #[vp bc 0, vp bx 0, vp bp 0]]) Tryz.func44 rfl Tryz.ntmps44 (Nat.le_of_ble_eq_true (by kernel_rfl)) ?_
  refine GoC.slots (S' := [(0, .slice al l.length cl), (1, .func (.func 57) #[] #[vp bc 0, vp bx 0, vp bp 0])]) rfl ?_
  refine GoC.seq ?_
  refine Xt (.rd 0 .done) ?_
  refine Xk [(0, .gen [])] [] [(4, .bool false), (0, .slice al l.length cl), (1, .func (.func 57) #[] #[vp bc 0, vp bx 0, vp bp 0])] ak0 ?_
  refine GoR.done (GoQ.thn (GoC.seq ?_))
  refine Xt (.rd 0 (.rd 1 (.ef 2 (.rd 3 (.rd 4 .done))))) ?_
  refine Xk [(0, .gen []), (1, .gen [])] [] [(6, .func (.func 57) #[] #[vp bc 0, vp bx 0, vp bp 0]), (5, .slice al l.length cl), (4, .bool false)] ak0 ?_
  refine Xa (f := 61) (args := #[.slice al l.length cl, .func (.func 57) #[] #[vp bc 0, vp bx 0, vp bp 0]]) Tryz.call61 (eaIx_spec l row c p (by omega) (by omega) (fun w h => hr1 _ (h.drop 0)) (fun w h => hr2 _ (h.drop 0)) hs) ?_
  rintro v2 w3 ⟨rfl, hs1⟩
  refine ⟨Xo, ?_⟩
  refine Xk [(3, .gen []), (4, .gen [])] [] [(4, .bool (decide ((ixI (idx dCall l (ear1 row c p)) : Int) ≥ 0)))] ak0 ?_
  refine GoR.done (GoQ.thn (GoC.ret ?_))
  refine X1 (v := .bool (decide ((ixI (idx dCall l (ear1 row c p)) : Int) ≥ 0))) ?_
  exact ⟨(congrArg Value.bool (ixI_some _)), hs1⟩
def earB (l : List CallV) (row : List ReqV) (c : CallV) : Bool :=
  if (decide ((placeI c row : Int) ≥ 0)) = true then
    (idx dCall l (ear1 row c (placeI c row))).isSome
  else
    false
theorem earB_spec {w0 w : World} {L : List Asn} {bx : Nat} {x : Nat} {al : Option Addr} {cl : Nat} {ar : Option Addr} {cr : Nat} (l : List CallV) (row : List ReqV) (c : CallV) (hll : l.length ≤ 1000000) (hrr : row.length ≤ 1000000) (hr1 : ∀ w, St w0 L w → RowsAt w al l.length 13 (fun k => CallV.cells (l.getD k dCall))) (hr2 : ∀ w, St w0 L w → RowsAt w ar row.length 40 (fun k => ReqV.cells (row.getD k dReq))) (hs : St w0 ((Cel bx #[vp x 0] 62) :: (Cel x #[.slice al l.length cl, .slice ar row.length cr] 64) :: L) w) : Calls Tryz.prog 56 #[.agg (CallV.cells c), vp bx 0] w (Ret fun rv w' => rv = .bool (earB l row c) ∧ St w0 ((Cel bx #[vp x 0] 62) :: (Cel x #[.slice al l.length cl, .slice ar row.length cr] 64) :: L) w') := by
  refine enter (args := [.agg (CallV.cells c), vp bx 0]) Tryz.func56 rfl Tryz.ntmps56 (Nat.le_of_ble_eq_true (by kernel_rfl)) ?_
  refine GoC.slots (S' := [(0, .agg (CallV.cells c)), (1, vp bx 0)]) rfl ?_
  refine GoC.seq ?_
  refine Xt (.ef 0 (.rd 1 .done)) ?_
  refine GoR.box rfl rfl (by kernel_rfl) (v := .agg (CallV.cells c)) (by kernel_rfl) hs (cs := CallV.cells c) (by kernel_rfl) ?_
  intro b1 w2 hs3
  refine ⟨Xo, ?_⟩
  refine Xk [(1, .gen [])] [] [(3, .bool false), (2, vp b1 0), (1, vp bx 0)] ak0 ?_
  refine GoR.done (GoQ.thn (GoC.seq ?_))
  refine Xt (.rd 0 (.rd 1 (.ef 2 (.ef 3 (.ef 4 .done))))) ?_
  refine Xk [(0, .gen [vp x 0]), (1, .agg (CallV.cells c))] [(0, [.cell ⟨bx, 0, none⟩ (vp x 0)]), (1, [.prop (Array.size (CallV.cells c) = 13), .cells ⟨b1, 0, none⟩ (CallV.cells c)])] [(6, .agg (CallV.cells c)), (5, vp x 0), (3, .bool false), (2, vp b1 0), (1, vp bx 0)] (ak (okc (hs3.cell 1 rfl (by kernel_rfl)) ok0) (ak (okp (by kernel_rfl) (oka (hs3.cells 0 0 rfl (by kernel_rfl)) ok0)) ak0)) ?_
  have hs4 : St w0 ((Cel x #[.slice al l.length cl, .slice ar row.length cr] 64) :: (Cel b1 (CallV.cells c) 53) :: (Cel bx #[vp x 0] 62) :: L) w2 := (hs3.pull 2 rfl)
  refine Xa (f := 52) (args := #[vp x 0, .agg (CallV.cells c)]) Tryz.call52 (place_spec l row c (by omega) (by omega) (fun w h => hr1 _ (h.drop 2)) (fun w h => hr2 _ (h.drop 2)) hs4) ?_
  rintro v6 w7 ⟨rfl, hs5⟩
  refine ⟨Xo, ?_⟩
  refine GoR.alloc rfl rfl (by kernel_rfl) (z := .int .i64 0) (by kernel_rfl) hs5 (cs := #[.int .i64 0]) (by kernel_rfl) ?_
  intro b8 w9 hs10
  refine ⟨Xo, ?_⟩
  refine GoR.store rfl rfl (by kernel_rfl) (b := b8) (off := 0) (v := .int .i64 (placeI c row)) (by kernel_rfl) (by kernel_rfl) (ti := Tryz.t3) (by kernel_rfl) hs10 0 rfl (by kernel_rfl) (by kernel_rfl) (Nat.le_of_ble_eq_true (by kernel_rfl)) (cs' := #[.int .i64 (placeI c row)]) (L' := (Cel b8 #[.int .i64 (placeI c row)] 3) :: (Cel x #[.slice al l.length cl, .slice ar row.length cr] 64) :: (Cel b1 (CallV.cells c) 53) :: (Cel bx #[vp x 0] 62) :: L) (by kernel_rfl) rfl ?_
  intro w11 hs12
  refine ⟨Xo, ?_⟩
  refine GoR.done (GoQ.thn (GoC.seq ?_))
  refine Xt (.rd 0 (.rd 1 (.rd 2 (.rd 3 (.rd 4 (.rd 5 (.rd 6 (.rd 7 (.ef 8 (.rd 9 (.rd 10 .done))))))))))) ?_
  refine Xk [(0, .gen [.int .i64 (placeI c row)]), (1, .gen []), (2, .gen [])] [(0, [.cell ⟨b8, 0, none⟩ (.int .i64 (placeI c row))])] [(10, .bool (decide ((placeI c row : Int) ≥ 0))), (4, vp b8 0), (3, .bool false), (2, vp b1 0), (1, vp bx 0)] (ak (okc (hs12.cell 0 rfl (by kernel_rfl)) ok0) ak0) ?_
  rcases Bool.eq_false_or_eq_true (decide ((placeI c row : Int) ≥ 0)) with h13 | h13
  · refine Xs 10 true h13 ?_
    have h13' : (placeI c row : Int) ≥ 0 := of_decide_eq_true h13
    refine Xk [(3, .gen [vp x 0]), (4, .gen []), (5, .gen []), (6, .gen [.slice al l.length cl]), (7, .gen [])] [(3, [.cell ⟨bx, 0, none⟩ (vp x 0)]), (6, [.cell ⟨x, 0, none⟩ (.slice al l.length cl)])] [(15, .func (.func 57) #[] #[vp b1 0, vp bx 0, vp b8 0]), (14, .slice al l.length cl), (10, .bool true), (3, .bool false)] (ak (okc (hs12.cell 3 rfl (by kernel_rfl)) ok0) (ak (okc (hs12.cell 1 rfl (by kernel_rfl)) ok0) ak0)) ?_
    have hs14 : St w0 ((Cel b1 (CallV.cells c) 53) :: (Cel bx #[vp x 0] 62) :: (Cel x #[.slice al l.length cl, .slice ar row.length cr] 64) :: (Cel b8 #[.int .i64 (placeI c row)] 3) :: L) w11 := ((((hs12.pull 0 rfl).pull 1 rfl).pull 3 rfl).pull 3 rfl)
    refine Xa (f := 44) (args := #[.slice al l.length cl, .func (.func 57) #[] #[vp b1 0, vp bx 0, vp b8 0]]) Tryz.call44 (eaCf_spec l row c (placeI c row) (by omega) (by omega) (fun w h => hr1 _ (h.drop 0)) (fun w h => hr2 _ (h.drop 0)) hs14) ?_
    rintro v16 w17 ⟨rfl, hs15⟩
    refine ⟨Xo, ?_⟩
    refine Xk [(9, .gen []), (10, .gen [])] [] [(3, .bool ((idx dCall l (ear1 row c (placeI c row))).isSome))] ak0 ?_
    refine GoR.done (GoQ.thn (GoC.ret ?_))
    refine X1 (v := .bool ((idx dCall l (ear1 row c (placeI c row))).isSome)) ?_
    have hr : earB l row c = (idx dCall l (ear1 row c (placeI c row))).isSome := by rw [earB, if_pos h13]
    have hs18 : St w0 ((Cel b1 (CallV.cells c) 53) :: (Cel b8 #[.int .i64 (placeI c row)] 3) :: (Cel bx #[vp x 0] 62) :: (Cel x #[.slice al l.length cl, .slice ar row.length cr] 64) :: L) w17 := ((((hs15.pull 2 rfl).pull 2 rfl).pull 3 rfl).pull 3 rfl)
    have hs19 : St w0 ((Cel bx #[vp x 0] 62) :: (Cel x #[.slice al l.length cl, .slice ar row.length cr] 64) :: L) w17 := hs18.drop 2
    exact ⟨(by first | rfl | (rw [hr]; done) | (rw [hr]; rfl)), (by first | exact hs19 | (rw [hr]; exact hs19))⟩
  · refine Xs 10 false h13 ?_
    have h13' : ¬ ((placeI c row : Int) ≥ 0) := of_decide_eq_false h13
    refine Xk [(3, .gen []), (4, .gen []), (5, .gen []), (6, .gen []), (7, .gen [])] [] [(15, undef), (14, undef), (10, .bool false), (3, .bool false)] ak0 ?_
    refine GoR.skip rfl (by kernel_rfl) Xo ?_
    refine Xk [(9, .gen []), (10, .gen [])] [] [(3, .bool false)] ak0 ?_
    refine GoR.done (GoQ.thn (GoC.ret ?_))
    refine X1 (v := .bool false) ?_
    have hr : earB l row c = false := by rw [earB, if_neg (ne_true_of_eq_false h13)]
    have hs20 : St w0 ((Cel b8 #[.int .i64 (placeI c row)] 3) :: (Cel b1 (CallV.cells c) 53) :: (Cel bx #[vp x 0] 62) :: (Cel x #[.slice al l.length cl, .slice ar row.length cr] 64) :: L) w11 := ((((hs12.pull 1 rfl).pull 3 rfl).pull 3 rfl).pull 3 rfl)
    have hs21 : St w0 ((Cel bx #[vp x 0] 62) :: (Cel x #[.slice al l.length cl, .slice ar row.length cr] 64) :: L) w11 := hs20.drop 2
    exact ⟨(by first | rfl | (rw [hr]; done) | (rw [hr]; rfl)), (by first | exact hs21 | (rw [hr]; exact hs21))⟩
theorem eaC1_spec {w0 w : World} {L : List Asn} {bf : Nat} {bz : Nat} {x : Nat} {al : Option Addr} {cl : Nat} {ar : Option Addr} {cr : Nat} {bx : Nat} (l : List CallV) (row : List ReqV) (i : Nat) (hll : l.length ≤ 1000000) (hrr : row.length ≤ 1000000) (hi : i < l.length) (hr1 : ∀ w, St w0 L w → RowsAt w al l.length 13 (fun k => CallV.cells (l.getD k dCall))) (hr2 : ∀ w, St w0 L w → RowsAt w ar row.length 40 (fun k => ReqV.cells (row.getD k dReq))) (hs : St w0 ((Cel bf #[.func (.func 56) #[] #[vp bx 0]] 96) :: (Cel bz #[vp x 0] 62) :: (Cel x #[.slice al l.length cl, .slice ar row.length cr] 64) :: (Cel bx #[vp x 0] 62) :: L) w) : Calls Tryz.prog 60 #[.int .i64 (i : Nat), vp bf 0, vp bz 0] w (Ret fun rv w' => rv = .bool ((earB l row) (l.getD i dCall)) ∧ St w0 ((Cel bf #[.func (.func 56) #[] #[vp bx 0]] 96) :: (Cel bz #[vp x 0] 62) :: (Cel x #[.slice al l.length cl, .slice ar row.length cr] 64) :: (Cel bx #[vp x 0] 62) :: L) w') := by
  refine enter (args := [.int .i64 (i : Nat), vp bf 0, vp bz 0]) Tryz.func60 rfl Tryz.ntmps60 (Nat.le_of_ble_eq_true (by kernel_rfl)) ?_
  refine GoC.slots (S' := [(0, .int .i64 (i : Nat)), (1, vp bf 0), (2, vp bz 0)]) rfl ?_
  refine GoC.seq ?_
  refine Xt (.rd 0 .done) ?_
  refine Xk [(0, .gen [])] [] [(4, .bool false), (0, .int .i64 (i : Nat)), (1, vp bf 0), (2, vp bz 0)] ak0 ?_
  refine GoR.done (GoQ.thn (GoC.seq ?_))
  obtain ⟨ab1, ao2, rfl⟩ := RowsAt.isSome (hr1 _ (hs.drop 4)) (by omega)
  refine GoC.regD [0, 0, 2, 6, 14, 0, 62, 126, 255, 511] (.rd 0 (.rd 1 (.rd 2 (.rd 3 (.rd 4 (.rd 5 (.rd 6 (.rd 7 (.ef 8 (.rd 9 .done)))))))))) (by kernel_rfl) (by kernel_rfl) noPan_body (by kernel_rfl) hs ?_
  intro w3 hs4 hw5
  refine Xk [(0, .gen [.func (.func 56) #[] #[vp bx 0]]), (1, .gen [vp x 0]), (2, .gen []), (3, .gen []), (4, .gen [vl ab1 ao2 l.length cl]), (5, .gen []), (6, .as_ (vp ab1 (ao2 + (i * 13))) .at_), (7, .agg (CallV.cells (l.getD i dCall)))] [(0, [.cell ⟨bf, 0, none⟩ (.func (.func 56) #[] #[vp bx 0])]), (1, [.cell ⟨bz, 0, none⟩ (vp x 0)]), (4, [.cell ⟨x, 0, none⟩ (vl ab1 ao2 l.length cl)]), (6, [.prop (0 ≤ ((i : Nat) : Int) ∧ ((i : Nat) : Int) < ((l.length : Nat) : Int)), .prop (Value.pointer (some (Addr.add ⟨ab1, ao2, none⟩ (Int.toNat (i : Nat) * 13))) = Value.pointer (some ⟨ab1, ao2 + (i * 13), none⟩))]), (7, [.prop (Array.size (CallV.cells (l.getD i dCall)) = 13), .cells ⟨ab1, ao2 + (i * 13), none⟩ (CallV.cells (l.getD i dCall))])] [(12, .agg (CallV.cells (l.getD i dCall))), (5, .func (.func 56) #[] #[vp bx 0]), (4, .bool false)] (ak (okc (hs4.cell 0 rfl (by kernel_rfl)) ok0) (ak (okc (hs4.cell 1 rfl (by kernel_rfl)) ok0) (ak (okc (hs4.cell 2 rfl (by kernel_rfl)) ok0) (ak (okp (by omega) (okp (ptrAdd _ _ _) ok0)) (ak (okp (by kernel_rfl) (oka (RowsAt.all0 (hr1 _ (hs4.drop 4)) (by first | omega | (simp only [List.length_set]; omega) | (simp only [List.length_set, List.length_append, List.length_cons, List.length_nil]; omega)) (Nat.le_of_ble_eq_true (by kernel_rfl)) (by kernel_rfl)) ok0)) ak0))))) ?_
  have hs6 : St w0 ((Cel bx #[vp x 0] 62) :: (Cel x #[vl ab1 ao2 l.length cl, .slice ar row.length cr] 64) :: (Cel bf #[.func (.func 56) #[] #[vp bx 0]] 96) :: (Cel bz #[vp x 0] 62) :: L) w3 := ((hs4.pull 2 rfl).pull 3 rfl)
  refine Xa (f := 56) (args := #[.agg (CallV.cells (l.getD i dCall)), vp bx 0]) Tryz.call56 (earB_spec l row (l.getD i dCall) (by omega) (by omega) (fun w h => hr1 _ (h.drop 2)) (fun w h => hr2 _ (h.drop 2)) hs6) ?_
  rintro v8 w9 ⟨rfl, hs7⟩
  refine ⟨Xo, ?_⟩
  refine Xk [(9, .gen [])] [] [(4, .bool (earB l row (l.getD i dCall)))] ak0 ?_
  refine GoR.done (GoQ.thn (GoC.ret ?_))
  refine X1 (v := .bool (earB l row (l.getD i dCall))) ?_
  have hs10 : St w0 ((Cel bf #[.func (.func 56) #[] #[vp bx 0]] 96) :: (Cel bz #[vp x 0] 62) :: (Cel x #[vl ab1 ao2 l.length cl, .slice ar row.length cr] 64) :: (Cel bx #[vp x 0] 62) :: L) w9 := ((((hs7.pull 0 rfl).pull 1 rfl).pull 3 rfl).pull 3 rfl)
  exact ⟨rfl, hs10⟩
theorem eaFi_spec {w0 w : World} {L : List Asn} {bf : Nat} {bz : Nat} {x : Nat} {al : Option Addr} {cl : Nat} {ar : Option Addr} {cr : Nat} {bx : Nat} (l : List CallV) (row : List ReqV) (hll : l.length ≤ 1000000) (hrr : row.length ≤ 1000000) (hr1 : ∀ w, St w0 L w → RowsAt w al l.length 13 (fun k => CallV.cells (l.getD k dCall))) (hr2 : ∀ w, St w0 L w → RowsAt w ar row.length 40 (fun k => ReqV.cells (row.getD k dReq))) (hs : St w0 ((Cel bf #[.func (.func 56) #[] #[vp bx 0]] 96) :: (Cel bz #[vp x 0] 62) :: (Cel x #[.slice al l.length cl, .slice ar row.length cr] 64) :: (Cel bx #[vp x 0] 62) :: L) w) : Calls Tryz.prog 40 #[.int .i64 (l.length : Nat), .func (.func 60) #[] #[vp bf 0, vp bz 0]] w (Ret fun rv w' => rv = .tuple #[.int .i64 ((idx dCall l (earB l row)).getD 0 : Nat), .bool ((idx dCall l (earB l row)).isSome)] ∧ St w0 ((Cel bf #[.func (.func 56) #[] #[vp bx 0]] 96) :: (Cel bz #[vp x 0] 62) :: (Cel x #[.slice al l.length cl, .slice ar row.length cr] 64) :: (Cel bx #[vp x 0] 62) :: L) w') := by
  refine enter (args := [.int .i64 (l.length : Nat), .func (.func 60) #[] #[vp bf 0, vp bz 0]]) Tryz.func40 rfl Tryz.ntmps40 (Nat.le_of_ble_eq_true (by kernel_rfl)) ?_
  refine GoC.slots (S' := [(0, .int .i64 (l.length : Nat)), (1, .func (.func 60) #[] #[vp bf 0, vp bz 0])]) rfl ?_
  refine GoC.seq ?_
  refine Xt (.rd 0 (.rd 1 .done)) ?_
  refine Xk [(0, .gen []), (1, .gen [])] [] [(5, .bool false), (4, .int .i64 0), (0, .int .i64 (l.length : Nat)), (1, .func (.func 60) #[] #[vp bf 0, vp bz 0])] ak0 ?_
  refine GoR.done (GoQ.thn (GoC.seq (GoC.seq ?_)))
  refine Xt (.rd 0 (.rd 1 .done)) ?_
  refine Xk [(0, .gen []), (1, .gen [])] [] [(8, .int .i64 0), (7, .int .i64 (l.length : Nat)), (5, .bool false), (4, .int .i64 0), (1, .func (.func 60) #[] #[vp bf 0, vp bz 0])] ak0 ?_
  refine GoR.done (GoQ.thn (GoC.block ?_))
  refine GoC.loop (T := Nat) (fun gg => [(1, .func (.func 60) #[] #[vp bf 0, vp bz 0]), (7, .int .i64 (l.length : Nat)), (8, .int .i64 (gg : Nat))]) (fun gg w => (gg ≤ l.length ∧ ∀ z, z < gg → (earB l row) (l.getD z dCall) = false) ∧ St w0 ((Cel bf #[.func (.func 56) #[] #[vp bx 0]] 96) :: (Cel bz #[vp x 0] 62) :: (Cel x #[.slice al l.length cl, .slice ar row.length cr] 64) :: (Cel bx #[vp x 0] 62) :: L) w) (fun gg => l.length - gg) 0 [1, 7, 8] (by kernel_rfl) ⟨⟨Nat.zero_le _, fun i hi => absurd hi (Nat.not_lt_zero _)⟩, hs⟩ ?_
  rintro k w1 ⟨hp0, hs2⟩
  have hp : k ≤ l.length ∧ ∀ z, z < k → (earB l row) (l.getD z dCall) = false := hp0
  have hs3 : St w0 ((Cel bf #[.func (.func 56) #[] #[vp bx 0]] 96) :: (Cel bz #[vp x 0] 62) :: (Cel x #[.slice al l.length cl, .slice ar row.length cr] 64) :: (Cel bx #[vp x 0] 62) :: L) w1 := hs2
  refine GoC.slots (S' := [(1, .func (.func 60) #[] #[vp bf 0, vp bz 0]), (7, .int .i64 (l.length : Nat)), (8, .int .i64 (k : Nat))]) rfl ?_
  refine GoC.seq ?_
  refine Xt (.rd 0 .done) ?_
  refine Xk [(0, .gen [])] [] [(9, .bool (decide (((k : Nat) : Int) < (l.length : Nat)))), (1, .func (.func 60) #[] #[vp bf 0, vp bz 0]), (7, .int .i64 (l.length : Nat)), (8, .int .i64 (k : Nat))] ak0 ?_
  refine GoR.done (GoQ.thn (GoC.seq ?_))
  refine Xc (t := decide (((k : Nat) : Int) < (l.length : Nat))) (fun h4 => ?_) (fun h4 => ?_)
  · have h4' : ((k : Nat) : Int) < (l.length : Nat) := of_decide_eq_true h4
    have hk : k < l.length := by omega
    refine GoC.skip (GoQ.thn (GoC.seq (GoC.block (GoC.seq ?_))))
    refine Xt (.rd 0 (.rd 1 .done)) ?_
    refine Xk [(0, .gen []), (1, .gen [])] [] [(6, .int .i64 (k : Nat)), (1, .func (.func 60) #[] #[vp bf 0, vp bz 0]), (7, .int .i64 (l.length : Nat)), (8, .int .i64 (k : Nat))] ak0 ?_
    refine GoR.done (GoQ.thn (GoC.seq ?_))
    refine Xt (.rd 0 (.rd 1 (.ef 2 .done))) ?_
    refine Xk [(0, .gen []), (1, .gen [])] [] [(12, .int .i64 (k : Nat)), (11, .func (.func 60) #[] #[vp bf 0, vp bz 0]), (6, .int .i64 (k : Nat)), (1, .func (.func 60) #[] #[vp bf 0, vp bz 0]), (7, .int .i64 (l.length : Nat)), (8, .int .i64 (k : Nat))] ak0 ?_
    refine Xa (f := 60) (args := #[.int .i64 (k : Nat), vp bf 0, vp bz 0]) Tryz.call60 (eaC1_spec l row k (by omega) (by omega) hk (fun w h => hr1 _ (h.drop 0)) (fun w h => hr2 _ (h.drop 0)) hs3) ?_
    rintro v6 w7 ⟨rfl, hs5⟩
    refine ⟨Xo, ?_⟩
    refine GoR.done (GoQ.thn ?_)
    refine Xc (t := (earB l row) (l.getD k dCall)) (fun h8 => ?_) (fun h8 => ?_)
    · refine GoC.seq ?_
      refine Xt (.rd 0 (.rd 1 (.rd 2 .done))) ?_
      refine Xk [(0, .gen []), (1, .gen []), (2, .gen [])] [] [(5, .bool true), (4, .int .i64 (k : Nat)), (1, .func (.func 60) #[] #[vp bf 0, vp bz 0]), (7, .int .i64 (l.length : Nat)), (8, .int .i64 (k : Nat))] ak0 ?_
      refine GoR.done (GoQ.thn (GoC.ret (GoQ.blkR (GoQ.skipCR (GoQ.skipLR (GoQ.blkR (GoQ.skipCR ?_)))))))
      refine X2 (v := .int .i64 (k : Nat)) (v' := .bool true) ?_
      exact ⟨(by rw [idx_at (d := dCall) (p := earB l row) hk (show (earB l row) (l.getD k dCall) = true from h8) hp.2]; rfl), hs5⟩
    · refine GoC.skip (GoQ.blkN (GoQ.thn ?_))
      refine Xt (.rd 0 (.rd 1 .done)) ?_
      refine Xk [(0, .as_ (.int .i64 ((k : Nat) + 1)) (.gen [])), (1, .gen [])] [(0, [.prop (Value.int .i64 (IntKind.i64.wrap ((k : Nat) + 1)) = Value.int .i64 ((k : Nat) + 1))])] [(8, .int .i64 ((k : Nat) + 1)), (1, .func (.func 60) #[] #[vp bf 0, vp bz 0]), (7, .int .i64 (l.length : Nat))] (ak (okp (i64ok (by omega) (by omega)) ok0) ak0) ?_
      refine GoR.done ?_
      exact GoQ.back (k + 1) [1, 7, 8] (by kernel_rfl) (by show l.length - (k + 1) < l.length - k; omega) ⟨⟨by omega, none_step (p := fun z => (earB l row) (l.getD z dCall)) hp.2 (show (earB l row) (l.getD k dCall) = false from h8)⟩, hs5⟩
  · have h4' : ¬ (((k : Nat) : Int) < (l.length : Nat)) := of_decide_eq_false h4
    refine GoC.exit (GoQ.skipC (GoQ.skipL (GoQ.hit (GoQ.thn (GoC.seq ?_)))))
    refine Xt (.rd 0 (.rd 1 .done)) ?_
    refine Xk [(0, .gen []), (1, .gen [])] [] [(5, .bool false), (4, .int .i64 0)] ak0 ?_
    refine GoR.done (GoQ.thn (GoC.ret ?_))
    refine X2 (v := .int .i64 0) (v' := .bool false) ?_
    exact ⟨(by rw [idx_none (d := dCall) (l := l) (p := earB l row) (fun i hi => hp.2 i (by omega))]; rfl), hs3⟩
theorem eaCa_spec {w0 w : World} {L : List Asn} {x : Nat} {al : Option Addr} {cl : Nat} {ar : Option Addr} {cr : Nat} {bx : Nat} (l : List CallV) (row : List ReqV) (hll : l.length ≤ 1000000) (hrr : row.length ≤ 1000000) (hr1 : ∀ w, St w0 L w → RowsAt w al l.length 13 (fun k => CallV.cells (l.getD k dCall))) (hr2 : ∀ w, St w0 L w → RowsAt w ar row.length 40 (fun k => ReqV.cells (row.getD k dReq))) (hs : St w0 ((Cel x #[.slice al l.length cl, .slice ar row.length cr] 64) :: (Cel bx #[vp x 0] 62) :: L) w) : Calls Tryz.prog 42 #[vp x 0, .func (.func 56) #[] #[vp bx 0]] w (Ret fun rv w' => rv = .tuple #[.int .i64 ((idx dCall l (earB l row)).getD 0 : Nat), .bool ((idx dCall l (earB l row)).isSome)] ∧ St w0 ((Cel x #[.slice al l.length cl, .slice ar row.length cr] 64) :: (Cel bx #[vp x 0] 62) :: L) w') := by
  refine enter (args := [vp x 0, .func (.func 56) #[] #[vp bx 0]]) Tryz.func42 rfl Tryz.ntmps42 (Nat.le_of_ble_eq_true (by kernel_rfl)) ?_
  refine GoC.slots (S' := [(0, vp x 0), (1, .func (.func 56) #[] #[vp bx 0])]) rfl ?_
  refine GoC.seq ?_
  refine Xt (.ef 0 (.ef 1 (.rd 2 (.rd 3 .done)))) ?_
  refine GoR.box rfl rfl (by kernel_rfl) (v := vp x 0) (by kernel_rfl) hs (cs := #[vp x 0]) (by kernel_rfl) ?_
  intro b1 w2 hs3
  refine ⟨Xo, ?_⟩
  refine GoR.box rfl rfl (by kernel_rfl) (v := .func (.func 56) #[] #[vp bx 0]) (by kernel_rfl) hs3 (cs := #[.func (.func 56) #[] #[vp bx 0]]) (by kernel_rfl) ?_
  intro b4 w5 hs6
  refine ⟨Xo, ?_⟩
  refine Xk [(2, .gen []), (3, .gen [])] [] [(5, .bool false), (4, .int .i64 0), (3, vp b4 0), (2, vp b1 0)] ak0 ?_
  refine GoR.done (GoQ.thn (GoC.seq ?_))
  refine Xt (.rd 0 (.rd 1 (.rd 2 (.rd 3 (.rd 4 (.rd 5 (.ef 6 (.rd 7 (.rd 8 (.rd 9 (.rd 10 .done))))))))))) ?_
  refine Xk [(0, .gen [vp x 0]), (1, .gen []), (2, .gen []), (3, .gen [.slice al l.length cl]), (4, .gen []), (5, .gen [])] [(0, [.cell ⟨b1, 0, none⟩ (vp x 0)]), (3, [.cell ⟨x, 0, none⟩ (.slice al l.length cl)])] [(11, .func (.func 60) #[] #[vp b4 0, vp b1 0]), (10, .int .i64 (l.length : Nat)), (5, .bool false), (4, .int .i64 0)] (ak (okc (hs6.cell 1 rfl (by kernel_rfl)) ok0) (ak (okc (hs6.cell 2 rfl (by kernel_rfl)) ok0) ak0)) ?_
  refine Xa (f := 40) (args := #[.int .i64 (l.length : Nat), .func (.func 60) #[] #[vp b4 0, vp b1 0]]) Tryz.call40 (eaFi_spec l row (by omega) (by omega) (fun w h => hr1 _ (h.drop 0)) (fun w h => hr2 _ (h.drop 0)) hs6) ?_
  rintro v8 w9 ⟨rfl, hs7⟩
  refine ⟨Xo, ?_⟩
  refine Xk [(7, .gen []), (8, .gen []), (9, .gen []), (10, .gen [])] [] [(5, .bool ((idx dCall l (earB l row)).isSome)), (4, .int .i64 ((idx dCall l (earB l row)).getD 0 : Nat))] ak0 ?_
  refine GoR.done (GoQ.thn (GoC.ret ?_))
  refine X2 (v := .int .i64 ((idx dCall l (earB l row)).getD 0 : Nat)) (v' := .bool ((idx dCall l (earB l row)).isSome)) ?_
  have hs10 : St w0 ((Cel x #[.slice al l.length cl, .slice ar row.length cr] 64) :: (Cel bx #[vp x 0] 62) :: L) w9 := hs7.drop 2
  exact ⟨rfl, hs10⟩
theorem early_spec {w0 w : World} {L : List Asn} {x : Nat} {al : Option Addr} {cl : Nat} {ar : Option Addr} {cr : Nat} (l : List CallV) (row : List ReqV) (hll : l.length ≤ 1000000) (hrr : row.length ≤ 1000000) (hr1 : ∀ w, St w0 L w → RowsAt w al l.length 13 (fun k => CallV.cells (l.getD k dCall))) (hr2 : ∀ w, St w0 L w → RowsAt w ar row.length 40 (fun k => ReqV.cells (row.getD k dReq))) (hs : St w0 ((Cel x #[.slice al l.length cl, .slice ar row.length cr] 64) :: L) w) : Calls Tryz.prog 29 #[vp x 0] w (Ret fun rv w' => rv = .tuple #[.int .i64 ((idx dCall l (earB l row)).getD 0 : Nat), .bool ((idx dCall l (earB l row)).isSome)] ∧ St w0 ((Cel x #[.slice al l.length cl, .slice ar row.length cr] 64) :: L) w') := by
  refine enter (args := [vp x 0]) Tryz.func29 rfl Tryz.ntmps29 (Nat.le_of_ble_eq_true (by kernel_rfl)) ?_
  refine GoC.slots (S' := [(0, vp x 0)]) rfl ?_
  refine GoC.seq ?_
  refine Xt (.ef 0 (.rd 1 (.rd 2 .done))) ?_
  refine GoR.box rfl rfl (by kernel_rfl) (v := vp x 0) (by kernel_rfl) hs (cs := #[vp x 0]) (by kernel_rfl) ?_
  intro b1 w2 hs3
  refine ⟨Xo, ?_⟩
  refine Xk [(1, .gen []), (2, .gen [])] [] [(3, .bool false), (2, .int .i64 0), (1, vp b1 0)] ak0 ?_
  refine GoR.done (GoQ.thn (GoC.seq ?_))
  refine Xt (.rd 0 (.rd 1 (.ef 2 (.rd 3 (.rd 4 (.rd 5 (.rd 6 .done))))))) ?_
  refine Xk [(0, .gen [vp x 0]), (1, .gen [])] [(0, [.cell ⟨b1, 0, none⟩ (vp x 0)])] [(5, .func (.func 56) #[] #[vp b1 0]), (4, vp x 0), (3, .bool false), (2, .int .i64 0)] (ak (okc (hs3.cell 0 rfl (by kernel_rfl)) ok0) ak0) ?_
  have hs4 : St w0 ((Cel x #[.slice al l.length cl, .slice ar row.length cr] 64) :: (Cel b1 #[vp x 0] 62) :: L) w2 := ((hs3.pull 0 rfl).pull 1 rfl)
  refine Xa (f := 42) (args := #[vp x 0, .func (.func 56) #[] #[vp b1 0]]) Tryz.call42 (eaCa_spec l row (by omega) (by omega) (fun w h => hr1 _ (h.drop 0)) (fun w h => hr2 _ (h.drop 0)) hs4) ?_
  rintro v6 w7 ⟨rfl, hs5⟩
  refine ⟨Xo, ?_⟩
  refine Xk [(3, .gen []), (4, .gen []), (5, .gen []), (6, .gen [])] [] [(3, .bool ((idx dCall l (earB l row)).isSome)), (2, .int .i64 ((idx dCall l (earB l row)).getD 0 : Nat))] ak0 ?_
  refine GoR.done (GoQ.thn (GoC.ret ?_))
  refine X2 (v := .int .i64 ((idx dCall l (earB l row)).getD 0 : Nat)) (v' := .bool ((idx dCall l (earB l row)).isSome)) ?_
  have hs8 : St w0 ((Cel b1 #[vp x 0] 62) :: (Cel x #[.slice al l.length cl, .slice ar row.length cr] 64) :: L) w7 := ((hs5.pull 0 rfl).pull 1 rfl)
  have hs9 : St w0 ((Cel x #[.slice al l.length cl, .slice ar row.length cr] 64) :: L) w7 := hs8.drop 1
  exact ⟨rfl, hs9⟩
end Go.Proofs.YtbmmknchcdhefaaGreatDoor
