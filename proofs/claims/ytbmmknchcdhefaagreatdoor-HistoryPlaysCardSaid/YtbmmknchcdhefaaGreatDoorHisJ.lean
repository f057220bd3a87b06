/-
  The document's Check. Conditions: none beside each theorem's own.
-/
import Derived.Test.YtbmmknchcdhefaaGreatDoorSxT
import Derived.Test.YtbmmknchcdhefaaGreatDoorHisI
import Derived.Test.YtbmmknchcdhefaaGreatDoorHisO
namespace Go.Proofs.YtbmmknchcdhefaaGreatDoor
open Go.RowKit Go.Sx
set_option linter.unusedVariables false
set_option linter.unusedSimpArgs false
set_option linter.unnecessarySimpa false
set_option maxRecDepth 100000
def repL (row : List ReqV) (n : Nat) : List RepV := (List.range n).map fun k => (stepS row k).1.1
def donL (row : List ReqV) (n : Nat) : List Bool := (List.range n).map fun k => (stepS row k).1.2
theorem repL_succ (row : List ReqV) (n : Nat) : repL row (n + 1) = repL row n ++ [(stepS row n).1.1] := by simp [repL, List.range_succ]
theorem donL_succ (row : List ReqV) (n : Nat) : donL row (n + 1) = donL row n ++ [(stepS row n).1.2] := by simp [donL, List.range_succ]
theorem repL_length (row : List ReqV) (n : Nat) : (repL row n).length = n := by simp [repL]
theorem donL_length (row : List ReqV) (n : Nat) : (donL row n).length = n := by simp [donL]
theorem repL_get (row : List ReqV) {n k : Nat} (h : k < n) (d : RepV) : (repL row n).getD k d = (stepS row k).1.1 := by
  rw [List.getD_eq_getElem?_getD, List.getElem?_eq_getElem (by rw [repL_length]; exact h)]
  simp [repL]
theorem donL_get (row : List ReqV) {n k : Nat} (h : k < n) (d : Bool) : (donL row n).getD k d = (stepS row k).1.2 := by
  rw [List.getD_eq_getElem?_getD, List.getElem?_eq_getElem (by rw [donL_length]; exact h)]
  simp [donL]
theorem oth_eq {row : List ReqV} {c : CallV} (hd : c.done = true) (hp : 0 ≤ placeI c row) : othB (repM row row.length) row c = (!(donL row row.length).getD (placeI c row).toNat false || !(decide ((repL row row.length).getD (placeI c row).toNat (⟨0, ⟨#[]⟩⟩ : RepV) = c.reply))) := by
  have hlt := place_lt c row
  obtain ⟨k, hk⟩ := Int.eq_ofNat_of_zero_le hp
  rw [othB, if_pos hd, hk]
  rw [hk] at hlt
  have hk2 : k < row.length := by omega
  rw [Int.toNat_natCast, donL_get row hk2, repL_get row hk2, repM_get row _ hk2]
  cases (stepS row k).1.2 with
  | true => simp
  | false => simp
set_option maxHeartbeats 8000000 in
theorem rcheck_spec {w0 w : World} {L : List Asn} {al : Option Addr} {cl : Nat} {ar : Option Addr} {cr : Nat} (l : List CallV) (row : List ReqV) (hll : l.length ≤ 1000000) (hrr : row.length ≤ 1000000) (hok : ∀ q ∈ row, 0 ≤ q.op.amount) (hr1 : ∀ w, St w0 L w → RowsAt w al l.length 13 (fun k => CallV.cells (l.getD k dCall))) (hr2 : ∀ w, St w0 L w → RowsAt w ar row.length 40 (fun k => ReqV.cells (row.getD k dReq))) (hs : St w0 (L) w) : Calls Tryz.prog 10 #[.slice al l.length cl, .slice ar row.length cr] w (Ret fun rv w' => rv = .tuple #[.int .i64 ((chkV l row).1), .int .i64 ((chkV l row).2)] ∧ St w0 (L) w') := by
  refine enter (args := [.slice al l.length cl, .slice ar row.length cr]) Tryz.func10 rfl Tryz.ntmps10 (Nat.le_of_ble_eq_true (by kernel_rfl)) ?_
  refine GoC.slots (S' := [(0, .slice al l.length cl), (1, .slice ar row.length cr)]) rfl ?_
  refine GoC.seq ?_
  refine Xt (.rd 0 (.rd 1 .done)) ?_
  refine Xk [(0, .gen []), (1, .gen [])] [] [(5, .int .i64 0), (4, .int .i64 0), (0, .slice al l.length cl), (1, .slice ar row.length cr)] ak0 ?_
  refine GoR.done (GoQ.thn (GoC.seq ?_))
  refine Xt (.rd 0 (.ef 1 (.rd 2 (.rd 3 (.rd 4 (.rd 5 (.rd 6 .done))))))) ?_
  refine Xk [(0, .gen [])] [] [(26, .slice al l.length cl), (5, .int .i64 0), (4, .int .i64 0), (0, .slice al l.length cl), (1, .slice ar row.length cr)] ak0 ?_
  refine Xa (f := 30) (args := #[.slice al l.length cl]) Tryz.call30 (rcalls_spec l (by omega) (fun w h => hr1 _ (h.drop 0)) hs) ?_
  rintro v2 w3 ⟨rfl, hs1⟩
  refine ⟨Xo, ?_⟩
  refine Xk [(2, .gen []), (3, .gen []), (4, .gen []), (5, .gen []), (6, .gen [])] [] [(7, .int .i64 ((callsV l).2)), (6, .int .i64 ((callsV l).1)), (5, .int .i64 0), (4, .int .i64 0), (0, .slice al l.length cl), (1, .slice ar row.length cr)] ak0 ?_
  refine GoR.done (GoQ.thn (GoC.seq (GoC.seq ?_)))
  refine Xt (.rd 0 (.rd 1 .done)) ?_
  refine Xk [(0, .gen []), (1, .gen [])] [] [(31, .bool ((((callsV l).1) : Int) != 0)), (7, .int .i64 ((callsV l).2)), (6, .int .i64 ((callsV l).1)), (5, .int .i64 0), (4, .int .i64 0), (0, .slice al l.length cl), (1, .slice ar row.length cr)] ak0 ?_
  refine GoR.done (GoQ.thn ?_)
  refine Xc (t := (((callsV l).1) : Int) != 0) (fun h4 => ?_) (fun h4 => ?_)
  · have h4' : ¬ (((callsV l).1 : Int) = 0) := ineT h4
    have hcz : ¬ (callsV l).1 = 0 := h4'
    refine GoC.seq ?_
    refine Xt (.rd 0 (.rd 1 (.rd 2 (.rd 3 .done)))) ?_
    refine Xk [(0, .gen []), (1, .gen []), (2, .gen []), (3, .gen [])] [] [(5, .int .i64 ((callsV l).2)), (4, .int .i64 ((callsV l).1)), (0, .slice al l.length cl), (1, .slice ar row.length cr)] ak0 ?_
    refine GoR.done (GoQ.thn (GoC.ret (GoQ.skipCR ?_)))
    refine X2 (v := .int .i64 ((callsV l).1)) (v' := .int .i64 ((callsV l).2)) ?_
    exact ⟨(by rw [chk_calls hcz]), hs1⟩
  · have h4' : ((callsV l).1 : Int) = 0 := ineF h4
    have hcz : (callsV l).1 = 0 := by omega
    have hch2 : chkV l row = chkF l row (7 - 2) := chk_from2 hcz
    refine GoC.skip (GoQ.thn (GoC.seq (GoC.seq ?_)))
    refine Xt (.rd 0 .done) ?_
    refine Xk [(0, .gen [])] [] [(8, .int .i64 0), (5, .int .i64 0), (4, .int .i64 0), (0, .slice al l.length cl), (1, .slice ar row.length cr)] ak0 ?_
    refine GoR.done (GoQ.thn (GoC.block ?_))
    refine GoC.loop (T := Nat) (fun gg => [(0, .slice al l.length cl), (1, .slice ar row.length cr), (8, .int .i64 (gg : Nat))]) (fun gg w => (gg ≤ row.length ∧ ∀ i, i < gg → forB l (row.getD i dReq) = false) ∧ St w0 (L) w) (fun gg => row.length - gg) 0 [0, 1, 8] (by kernel_rfl) ⟨⟨Nat.zero_le _, fun i hi => absurd hi (Nat.not_lt_zero _)⟩, hs1⟩ ?_
    rintro i3 w5 ⟨hp30, hs6⟩
    have hp3 : i3 ≤ row.length ∧ ∀ i, i < i3 → forB l (row.getD i dReq) = false := hp30
    have hs7 : St w0 (L) w5 := hs6
    refine GoC.slots (S' := [(0, .slice al l.length cl), (1, .slice ar row.length cr), (8, .int .i64 (i3 : Nat))]) rfl ?_
    refine GoC.seq (GoC.seq ?_)
    refine Xt (.rd 0 (.rd 1 (.rd 2 (.rd 3 .done)))) ?_
    refine Xk [(0, .gen []), (1, .gen []), (2, .gen []), (3, .gen [])] [] [(37, .bool (decide (((i3 : Nat) : Int) < (row.length : Nat)))), (0, .slice al l.length cl), (1, .slice ar row.length cr), (8, .int .i64 (i3 : Nat))] ak0 ?_
    refine GoR.done (GoQ.thn ?_)
    refine Xc (t := decide (((i3 : Nat) : Int) < (row.length : Nat))) (fun h8 => ?_) (fun h8 => ?_)
    · have h8' : ((i3 : Nat) : Int) < (row.length : Nat) := of_decide_eq_true h8
      have hi3 : i3 < row.length := by omega
      obtain ⟨ab9, ao10, rfl⟩ := RowsAt.isSome (hr2 _ (hs7.drop 0)) (by omega)
      refine GoC.skip (GoQ.thn (GoC.seq (GoC.block (GoC.seq ?_))))
      refine Xt (.rd 0 .done) ?_
      refine Xk [(0, .gen [])] [] [(9, .bool false), (0, .slice al l.length cl), (1, vl ab9 ao10 row.length cr), (8, .int .i64 (i3 : Nat))] ak0 ?_
      refine GoR.done (GoQ.thn (GoC.seq (GoC.seq ?_)))
      refine Xt (.rd 0 .done) ?_
      refine Xk [(0, .gen [])] [] [(10, .int .i64 0), (9, .bool false), (0, .slice al l.length cl), (1, vl ab9 ao10 row.length cr), (8, .int .i64 (i3 : Nat))] ak0 ?_
      refine GoR.done (GoQ.thn (GoC.block ?_))
      refine GoC.loop (T := Nat × Bool) (fun gg => [(0, .slice al l.length cl), (1, vl ab9 ao10 row.length cr), (8, .int .i64 (i3 : Nat)), (9, .bool gg.2), (10, .int .i64 (gg.1 : Nat))]) (fun gg w => (gg.1 ≤ l.length ∧ (gg.2 = true → (idx dCall l (fun c => ofB c (row.getD i3 dReq))).isSome = true) ∧ (gg.2 = false → ∀ i, i < gg.1 → ofB (l.getD i dCall) (row.getD i3 dReq) = false)) ∧ St w0 (L) w) (fun gg => l.length - gg.1) (0, false) [0, 1, 8, 9, 10] (by kernel_rfl) ⟨⟨Nat.zero_le _, (fun h => nomatch h), fun _ i hi => absurd hi (Nat.not_lt_zero _)⟩, hs7⟩ ?_
      rintro ⟨k3, isb⟩ w11 ⟨hq03, hs12⟩
      have hq3 : k3 ≤ l.length ∧ (isb = true → (idx dCall l (fun c => ofB c (row.getD i3 dReq))).isSome = true) ∧ (isb = false → ∀ i, i < k3 → ofB (l.getD i dCall) (row.getD i3 dReq) = false) := hq03
      have hs13 : St w0 (L) w11 := hs12
      refine GoC.slots (S' := [(0, .slice al l.length cl), (1, vl ab9 ao10 row.length cr), (8, .int .i64 (i3 : Nat)), (9, .bool isb), (10, .int .i64 (k3 : Nat))]) rfl ?_
      refine GoC.seq (GoC.seq ?_)
      refine Xt (.rd 0 (.rd 1 (.rd 2 (.rd 3 .done)))) ?_
      refine Xk [(0, .gen []), (1, .gen []), (2, .gen []), (3, .gen [])] [] [(43, .bool (decide (((k3 : Nat) : Int) < (l.length : Nat)))), (0, .slice al l.length cl), (1, vl ab9 ao10 row.length cr), (8, .int .i64 (i3 : Nat)), (9, .bool isb), (10, .int .i64 (k3 : Nat))] ak0 ?_
      refine GoR.done (GoQ.thn ?_)
      refine Xc (t := decide (((k3 : Nat) : Int) < (l.length : Nat))) (fun h14 => ?_) (fun h14 => ?_)
      · have h14' : ((k3 : Nat) : Int) < (l.length : Nat) := of_decide_eq_true h14
        have hk3 : k3 < l.length := by omega
        obtain ⟨ab15, ao16, rfl⟩ := RowsAt.isSome (hr1 _ (hs13.drop 0)) (by omega)
        refine GoC.skip (GoQ.thn (GoC.seq (GoC.block ?_)))
        refine GoC.regD [0, 1, 3, 3, 15, 31, 3, 3, 195, 451, 1023, 2047, 4095] (.rd 0 (.rd 1 (.rd 2 (.rd 3 (.rd 4 (.rd 5 (.rd 6 (.rd 7 (.rd 8 (.rd 9 (.ef 10 (.rd 11 (.rd 12 .done))))))))))))) (by kernel_rfl) (by kernel_rfl) noPan_body (by kernel_rfl) hs13 ?_
        intro w17 hs18 hw19
        refine Xk [(0, .gen []), (1, .gen [])] [] [(47, .bool isb), (0, vl ab15 ao16 l.length cl), (1, vl ab9 ao10 row.length cr), (8, .int .i64 (i3 : Nat)), (9, .bool isb), (10, .int .i64 (k3 : Nat))] ak0 ?_
        rcases Bool.eq_false_or_eq_true isb with h20 | h20
        · refine Xs 47 true h20 ?_
          refine Xk [(2, .gen []), (3, .gen []), (4, .gen []), (5, .gen []), (6, .gen []), (7, .gen []), (8, .gen []), (9, .gen [])] [] [(55, undef), (51, undef), (47, .bool true), (0, vl ab15 ao16 l.length cl), (1, vl ab9 ao10 row.length cr), (8, .int .i64 (i3 : Nat)), (9, .bool isb), (10, .int .i64 (k3 : Nat))] ak0 ?_
          refine GoR.skip rfl (by kernel_rfl) Xo ?_
          refine Xk [(11, .gen []), (12, .gen [])] [] [(9, .bool true), (0, vl ab15 ao16 l.length cl), (1, vl ab9 ao10 row.length cr), (8, .int .i64 (i3 : Nat)), (10, .int .i64 (k3 : Nat))] ak0 ?_
          refine GoR.done (GoQ.blkN (GoQ.thn ?_))
          refine Xt (.rd 0 (.rd 1 (.rd 2 .done))) ?_
          refine Xk [(0, .gen []), (1, .as_ (.int .i64 ((k3 : Nat) + 1)) (.gen [])), (2, .gen [])] [(1, [.prop (Value.int .i64 (IntKind.i64.wrap ((k3 : Nat) + 1)) = Value.int .i64 ((k3 : Nat) + 1))])] [(10, .int .i64 ((k3 : Nat) + 1)), (9, .bool true), (0, vl ab15 ao16 l.length cl), (1, vl ab9 ao10 row.length cr), (8, .int .i64 (i3 : Nat))] (ak (okp (i64ok (by omega) (by omega)) ok0) ak0) ?_
          refine GoR.done ?_
          exact GoQ.back (k3 + 1, true) [0, 1, 8, 9, 10] (by kernel_rfl) (by show l.length - (k3 + 1) < l.length - k3; omega) ⟨⟨by omega, ⟨fun _ => hq3.2.1 h20, (fun h => nomatch h)⟩⟩, hs18⟩
        · refine Xs 47 false h20 ?_
          refine Xk [(2, .gen []), (3, .gen []), (4, .as_ (vp ab15 (ao16 + (k3 * 13))) .at_), (5, .agg (CallV.cells (l.getD k3 dCall))), (6, .gen []), (7, .gen []), (8, .as_ (vp ab9 (ao10 + (i3 * 40))) .at_), (9, .agg (ReqV.cells (row.getD i3 dReq)))] [(4, [.prop (0 ≤ ((k3 : Nat) : Int) ∧ ((k3 : Nat) : Int) < ((l.length : Nat) : Int)), .prop (Value.pointer (some (Addr.add ⟨ab15, ao16, none⟩ (Int.toNat (k3 : Nat) * 13))) = Value.pointer (some ⟨ab15, ao16 + (k3 * 13), none⟩))]), (5, [.prop (Array.size (CallV.cells (l.getD k3 dCall)) = 13), .cells ⟨ab15, ao16 + (k3 * 13), none⟩ (CallV.cells (l.getD k3 dCall))]), (8, [.prop (0 ≤ ((i3 : Nat) : Int) ∧ ((i3 : Nat) : Int) < ((row.length : Nat) : Int)), .prop (Value.pointer (some (Addr.add ⟨ab9, ao10, none⟩ (Int.toNat (i3 : Nat) * 40))) = Value.pointer (some ⟨ab9, ao10 + (i3 * 40), none⟩))]), (9, [.prop (Array.size (ReqV.cells (row.getD i3 dReq)) = 40), .cells ⟨ab9, ao10 + (i3 * 40), none⟩ (ReqV.cells (row.getD i3 dReq))])] [(55, .agg (ReqV.cells (row.getD i3 dReq))), (51, .agg (CallV.cells (l.getD k3 dCall))), (47, .bool false), (0, vl ab15 ao16 l.length cl), (1, vl ab9 ao10 row.length cr), (8, .int .i64 (i3 : Nat)), (9, .bool isb), (10, .int .i64 (k3 : Nat))] (ak (okp (by omega) (okp (ptrAdd _ _ _) ok0)) (ak (okp (by kernel_rfl) (oka (RowsAt.all0 (hr1 _ (hs18.drop 0)) (by first | omega | (simp only [List.length_set]; omega) | (simp only [List.length_set, List.length_append, List.length_cons, List.length_nil]; omega)) (Nat.le_of_ble_eq_true (by kernel_rfl)) (by kernel_rfl)) ok0)) (ak (okp (by omega) (okp (ptrAdd _ _ _) ok0)) (ak (okp (by kernel_rfl) (oka (RowsAt.all0 (hr2 _ (hs18.drop 0)) (by first | omega | (simp only [List.length_set]; omega) | (simp only [List.length_set, List.length_append, List.length_cons, List.length_nil]; omega)) (Nat.le_of_ble_eq_true (by kernel_rfl)) (by kernel_rfl)) ok0)) ak0)))) ?_
          refine Xa (f := 31) (args := #[.agg (CallV.cells (l.getD k3 dCall)), .agg (ReqV.cells (row.getD i3 dReq))]) Tryz.call31 (rof_spec (l.getD k3 dCall) (row.getD i3 dReq) hs18) ?_
          rintro v22 w23 ⟨rfl, hs21⟩
          refine ⟨Xo, ?_⟩
          refine Xk [(11, .gen []), (12, .gen [])] [] [(9, .bool (ofB (l.getD k3 dCall) (row.getD i3 dReq))), (0, vl ab15 ao16 l.length cl), (1, vl ab9 ao10 row.length cr), (8, .int .i64 (i3 : Nat)), (10, .int .i64 (k3 : Nat))] ak0 ?_
          refine GoR.done (GoQ.blkN (GoQ.thn ?_))
          refine Xt (.rd 0 (.rd 1 (.rd 2 .done))) ?_
          refine Xk [(0, .gen []), (1, .as_ (.int .i64 ((k3 : Nat) + 1)) (.gen [])), (2, .gen [])] [(1, [.prop (Value.int .i64 (IntKind.i64.wrap ((k3 : Nat) + 1)) = Value.int .i64 ((k3 : Nat) + 1))])] [(10, .int .i64 ((k3 : Nat) + 1)), (9, .bool (ofB (l.getD k3 dCall) (row.getD i3 dReq))), (0, vl ab15 ao16 l.length cl), (1, vl ab9 ao10 row.length cr), (8, .int .i64 (i3 : Nat))] (ak (okp (i64ok (by omega) (by omega)) ok0) ak0) ?_
          refine GoR.done ?_
          exact GoQ.back (k3 + 1, ofB (l.getD k3 dCall) (row.getD i3 dReq)) [0, 1, 8, 9, 10] (by kernel_rfl) (by show l.length - (k3 + 1) < l.length - k3; omega) ⟨⟨by omega, ⟨fun h => idx_is (p := fun c => ofB c (row.getD i3 dReq)) hk3 h, fun h => none_step (p := fun i => ofB (l.getD i dCall) (row.getD i3 dReq)) (hq3.2.2 h20) h⟩⟩, hs21⟩
      · have h14' : ¬ (((k3 : Nat) : Int) < (l.length : Nat)) := of_decide_eq_false h14
        refine GoC.exit (GoQ.skipC (GoQ.skipL (GoQ.hit (GoQ.thn (GoC.seq ?_)))))
        refine Xt (.rd 0 (.rd 1 .done)) ?_
        refine Xk [(0, .gen []), (1, .gen [])] [] [(59, .bool (!isb)), (0, .slice al l.length cl), (1, vl ab9 ao10 row.length cr), (8, .int .i64 (i3 : Nat))] ak0 ?_
        refine GoR.done (GoQ.thn ?_)
        refine Xc (t := !isb) (fun h24 => ?_) (fun h24 => ?_)
        · have h24n : isb = false := notT h24
          refine GoC.seq ?_
          refine Xt (.rd 0 (.rd 1 (.rd 2 .done))) ?_
          refine Xk [(0, .gen []), (1, .gen []), (2, .gen [])] [] [(5, .int .i64 (i3 : Nat)), (4, .int .i64 3), (0, .slice al l.length cl), (1, vl ab9 ao10 row.length cr), (8, .int .i64 (i3 : Nat))] ak0 ?_
          refine GoR.done (GoQ.thn (GoC.ret (GoQ.blkR (GoQ.skipCR (GoQ.skipLR (GoQ.blkR (GoQ.skipCR ?_)))))))
          refine X2 (v := .int .i64 3) (v' := .int .i64 (i3 : Nat)) ?_
          exact ⟨(by rw [chk_at (j := 2) (i := i3) (by decide) hch2 (show look l row 2 = some i3 from idx_at hi3 (by rw [forB, idx_no (p := fun c => ofB c (row.getD i3 dReq)) (fun i hi => hq3.2.2 h24n i (by omega))]; rfl) hp3.2)]; rfl), hs13⟩
        · have h24n : isb = true := notF h24
          refine GoC.skip (GoQ.blkN (GoQ.thn ?_))
          refine Xt (.rd 0 (.rd 1 (.rd 2 .done))) ?_
          refine Xk [(0, .gen []), (1, .as_ (.int .i64 ((i3 : Nat) + 1)) (.gen [])), (2, .gen [])] [(1, [.prop (Value.int .i64 (IntKind.i64.wrap ((i3 : Nat) + 1)) = Value.int .i64 ((i3 : Nat) + 1))])] [(8, .int .i64 ((i3 : Nat) + 1)), (0, .slice al l.length cl), (1, vl ab9 ao10 row.length cr)] (ak (okp (i64ok (by omega) (by omega)) ok0) ak0) ?_
          refine GoR.done ?_
          exact GoQ.back (i3 + 1) [0, 1, 8] (by kernel_rfl) (by show row.length - (i3 + 1) < row.length - i3; omega) ⟨⟨by omega, none_step (p := fun i => forB l (row.getD i dReq)) hp3.2 (by rw [forB, hq3.2.1 h24n]; rfl)⟩, hs13⟩
    · have h8' : ¬ (((i3 : Nat) : Int) < (row.length : Nat)) := of_decide_eq_false h8
      have hch3 : chkV l row = chkF l row (7 - 3) := chk_miss (j := 2) (by decide) hch2 (show (look l row 2).isSome = false from (by show (idx dReq row (forB l)).isSome = false; exact idx_no (fun i hi => hp3.2 i (by omega))))
      refine GoC.exit (GoQ.skipC (GoQ.skipL (GoQ.hit (GoQ.thn (GoC.seq (GoC.seq ?_))))))
      refine Xt (.rd 0 .done) ?_
      refine Xk [(0, .gen [])] [] [(11, .int .i64 0), (0, .slice al l.length cl), (1, .slice ar row.length cr)] ak0 ?_
      refine GoR.done (GoQ.thn (GoC.block ?_))
      refine GoC.loop (T := Nat) (fun gg => [(0, .slice al l.length cl), (1, .slice ar row.length cr), (11, .int .i64 (gg : Nat))]) (fun gg w => (gg ≤ row.length ∧ ∀ i, i < gg → twP nameQ dReq row i = false) ∧ St w0 (L) w) (fun gg => row.length - gg) 0 [0, 1, 11] (by kernel_rfl) ⟨⟨Nat.zero_le _, fun i hi => absurd hi (Nat.not_lt_zero _)⟩, hs7⟩ ?_
      rintro i4 w25 ⟨hp40, hs26⟩
      have hp4 : i4 ≤ row.length ∧ ∀ i, i < i4 → twP nameQ dReq row i = false := hp40
      have hs27 : St w0 (L) w25 := hs26
      refine GoC.slots (S' := [(0, .slice al l.length cl), (1, .slice ar row.length cr), (11, .int .i64 (i4 : Nat))]) rfl ?_
      refine GoC.seq (GoC.seq ?_)
      refine Xt (.rd 0 (.rd 1 (.rd 2 (.rd 3 .done)))) ?_
      refine Xk [(0, .gen []), (1, .gen []), (2, .gen []), (3, .gen [])] [] [(64, .bool (decide (((i4 : Nat) : Int) < (row.length : Nat)))), (0, .slice al l.length cl), (1, .slice ar row.length cr), (11, .int .i64 (i4 : Nat))] ak0 ?_
      refine GoR.done (GoQ.thn ?_)
      refine Xc (t := decide (((i4 : Nat) : Int) < (row.length : Nat))) (fun h28 => ?_) (fun h28 => ?_)
      · have h28' : ((i4 : Nat) : Int) < (row.length : Nat) := of_decide_eq_true h28
        have hi4 : i4 < row.length := by omega
        obtain ⟨ab29, ao30, rfl⟩ := RowsAt.isSome (hr2 _ (hs27.drop 0)) (by omega)
        refine GoC.skip (GoQ.thn (GoC.seq (GoC.block (GoC.seq ?_))))
        refine Xt (.rd 0 .done) ?_
        refine Xk [(0, .gen [])] [] [(12, .int .i64 0), (0, .slice al l.length cl), (1, vl ab29 ao30 row.length cr), (11, .int .i64 (i4 : Nat))] ak0 ?_
        refine GoR.done (GoQ.thn (GoC.block ?_))
        refine GoC.loop (T := Nat) (fun gg => [(0, .slice al l.length cl), (1, vl ab29 ao30 row.length cr), (11, .int .i64 (i4 : Nat)), (12, .int .i64 (gg : Nat))]) (fun gg w => (gg ≤ i4 ∧ ∀ i, i < gg → ¬ nameQ (row.getD i dReq) = nameQ (row.getD i4 dReq)) ∧ St w0 (L) w) (fun gg => i4 - gg) 0 [0, 1, 11, 12] (by kernel_rfl) ⟨⟨Nat.zero_le _, fun i hi => absurd hi (Nat.not_lt_zero _)⟩, hs27⟩ ?_
        rintro k4 w31 ⟨hq04, hs32⟩
        have hq4 : k4 ≤ i4 ∧ ∀ i, i < k4 → ¬ nameQ (row.getD i dReq) = nameQ (row.getD i4 dReq) := hq04
        have hs33 : St w0 (L) w31 := hs32
        refine GoC.slots (S' := [(0, .slice al l.length cl), (1, vl ab29 ao30 row.length cr), (11, .int .i64 (i4 : Nat)), (12, .int .i64 (k4 : Nat))]) rfl ?_
        refine GoC.seq (GoC.seq ?_)
        refine Xt (.rd 0 (.rd 1 (.rd 2 .done))) ?_
        refine Xk [(0, .gen []), (1, .gen []), (2, .gen [])] [] [(69, .bool (decide (((k4 : Nat) : Int) < (i4 : Nat)))), (0, .slice al l.length cl), (1, vl ab29 ao30 row.length cr), (11, .int .i64 (i4 : Nat)), (12, .int .i64 (k4 : Nat))] ak0 ?_
        refine GoR.done (GoQ.thn ?_)
        refine Xc (t := decide (((k4 : Nat) : Int) < (i4 : Nat))) (fun h34 => ?_) (fun h34 => ?_)
        · have h34' : ((k4 : Nat) : Int) < (i4 : Nat) := of_decide_eq_true h34
          have hk4 : k4 < row.length := by omega
          refine GoC.skip (GoQ.thn (GoC.seq (GoC.block (GoC.seq ?_))))
          refine GoC.join (T := Unit) (E := fun _ => [(95, .bool (((((row.getD k4 dReq).client) : Int) == ((row.getD i4 dReq).client)) && ((((row.getD k4 dReq).time) : Int) == ((row.getD i4 dReq).time)))), (0, .slice al l.length cl), (1, vl ab29 ao30 row.length cr), (11, .int .i64 (i4 : Nat)), (12, .int .i64 (k4 : Nat))]) (F := fun _ w => St w0 (L) w) ?_ ?_
          · refine GoC.regD [0, 0, 3, 7, 15, 0, 0, 96, 224, 480, 1023, 2047, 4095, 4095, 16383, 32767, 65535, 4095, 4095, 397311, 921599, 1970175, 4194303, 8388607] (.rd 0 (.rd 1 (.rd 2 (.rd 3 (.rd 4 (.rd 5 (.rd 6 (.rd 7 (.rd 8 (.rd 9 (.rd 10 (.rd 11 (.rd 12 (.rd 13 (.rd 14 (.rd 15 (.rd 16 (.rd 17 (.rd 18 (.rd 19 (.rd 20 (.rd 21 (.rd 22 (.rd 23 .done)))))))))))))))))))))))) (by kernel_rfl) (by kernel_rfl) noPan_body (by kernel_rfl) hs33 ?_
            intro w35 hs36 hw37
            refine Xk [(0, .gen []), (1, .gen []), (2, .as_ (vp ab29 (ao30 + (k4 * 40))) .at_), (3, .gen []), (4, .gen [.int .i64 ((row.getD k4 dReq).client)]), (5, .gen []), (6, .gen []), (7, .as_ (vp ab29 (ao30 + (i4 * 40))) .at_), (8, .gen []), (9, .gen [.int .i64 ((row.getD i4 dReq).client)]), (10, .gen []), (11, .gen [])] [(2, [.prop (0 ≤ ((k4 : Nat) : Int) ∧ ((k4 : Nat) : Int) < ((row.length : Nat) : Int)), .prop (Value.pointer (some (Addr.add ⟨ab29, ao30, none⟩ (Int.toNat (k4 : Nat) * 40))) = Value.pointer (some ⟨ab29, ao30 + (k4 * 40), none⟩))]), (4, [.cell ⟨ab29, ao30 + (k4 * 40), none⟩ (.int .i64 ((row.getD k4 dReq).client))]), (7, [.prop (0 ≤ ((i4 : Nat) : Int) ∧ ((i4 : Nat) : Int) < ((row.length : Nat) : Int)), .prop (Value.pointer (some (Addr.add ⟨ab29, ao30, none⟩ (Int.toNat (i4 : Nat) * 40))) = Value.pointer (some ⟨ab29, ao30 + (i4 * 40), none⟩))]), (9, [.cell ⟨ab29, ao30 + (i4 * 40), none⟩ (.int .i64 ((row.getD i4 dReq).client))])] [(83, .bool ((((row.getD k4 dReq).client) : Int) == ((row.getD i4 dReq).client))), (0, .slice al l.length cl), (1, vl ab29 ao30 row.length cr), (11, .int .i64 (i4 : Nat)), (12, .int .i64 (k4 : Nat))] (ak (okp (by omega) (okp (ptrAdd _ _ _) ok0)) (ak (okc (RowsAt.at0 (hr2 _ (hs36.drop 0)) (k := k4) (by first | omega | (simp only [List.length_set]; omega) | (simp only [List.length_set, List.length_append, List.length_cons, List.length_nil]; omega)) (j := 0) (by decide) (by kernel_rfl)) ok0) (ak (okp (by omega) (okp (ptrAdd _ _ _) ok0)) (ak (okc (RowsAt.at0 (hr2 _ (hs36.drop 0)) (k := i4) (by first | omega | (simp only [List.length_set]; omega) | (simp only [List.length_set, List.length_append, List.length_cons, List.length_nil]; omega)) (j := 0) (by decide) (by kernel_rfl)) ok0) ak0)))) ?_
            rcases Bool.eq_false_or_eq_true ((((row.getD k4 dReq).client) : Int) == ((row.getD i4 dReq).client)) with h38 | h38
            · refine Xs 83 true h38 ?_
              have h38' : ((row.getD k4 dReq).client : Int) = ((row.getD i4 dReq).client) := ieqT h38
              refine Xk [(12, .gen []), (13, .gen []), (14, .as_ (vp ab29 (ao30 + (k4 * 40))) .at_), (15, .gen []), (16, .gen [.int .u64 ((row.getD k4 dReq).time)]), (17, .gen []), (18, .gen []), (19, .as_ (vp ab29 (ao30 + (i4 * 40))) .at_), (20, .gen []), (21, .gen [.int .u64 ((row.getD i4 dReq).time)]), (22, .gen []), (23, .gen [])] [(14, [.prop (0 ≤ ((k4 : Nat) : Int) ∧ ((k4 : Nat) : Int) < ((row.length : Nat) : Int)), .prop (Value.pointer (some (Addr.add ⟨ab29, ao30, none⟩ (Int.toNat (k4 : Nat) * 40))) = Value.pointer (some ⟨ab29, ao30 + (k4 * 40), none⟩))]), (16, [.cell ⟨ab29, ao30 + (k4 * 40) + 1, none⟩ (.int .u64 ((row.getD k4 dReq).time))]), (19, [.prop (0 ≤ ((i4 : Nat) : Int) ∧ ((i4 : Nat) : Int) < ((row.length : Nat) : Int)), .prop (Value.pointer (some (Addr.add ⟨ab29, ao30, none⟩ (Int.toNat (i4 : Nat) * 40))) = Value.pointer (some ⟨ab29, ao30 + (i4 * 40), none⟩))]), (21, [.cell ⟨ab29, ao30 + (i4 * 40) + 1, none⟩ (.int .u64 ((row.getD i4 dReq).time))])] [(95, .bool ((((row.getD k4 dReq).time) : Int) == ((row.getD i4 dReq).time))), (0, .slice al l.length cl), (1, vl ab29 ao30 row.length cr), (11, .int .i64 (i4 : Nat)), (12, .int .i64 (k4 : Nat))] (ak (okp (by omega) (okp (ptrAdd _ _ _) ok0)) (ak (okc (RowsAt.at0 (hr2 _ (hs36.drop 0)) (k := k4) (by first | omega | (simp only [List.length_set]; omega) | (simp only [List.length_set, List.length_append, List.length_cons, List.length_nil]; omega)) (j := 1) (by decide) (by kernel_rfl)) ok0) (ak (okp (by omega) (okp (ptrAdd _ _ _) ok0)) (ak (okc (RowsAt.at0 (hr2 _ (hs36.drop 0)) (k := i4) (by first | omega | (simp only [List.length_set]; omega) | (simp only [List.length_set, List.length_append, List.length_cons, List.length_nil]; omega)) (j := 1) (by decide) (by kernel_rfl)) ok0) ak0)))) ?_
              refine GoR.done ?_
              refine GoQ.pick [95, 0, 1, 11, 12] (S' := [(95, .bool ((((row.getD k4 dReq).time) : Int) == ((row.getD i4 dReq).time))), (0, .slice al l.length cl), (1, vl ab29 ao30 row.length cr), (11, .int .i64 (i4 : Nat)), (12, .int .i64 (k4 : Nat))]) (by kernel_rfl) ?_
              exact GoQ.meet1 () (by first | rfl | (simp only [h38, Bool.not_true, Bool.not_false, Bool.true_or, Bool.false_or, Bool.true_and, Bool.false_and, Bool.or_true, Bool.or_false, Bool.and_true, Bool.and_false]; done) | (simp [h38]; done)) hs36
            · refine Xs 83 false h38 ?_
              have h38' : ¬ (((row.getD k4 dReq).client : Int) = ((row.getD i4 dReq).client)) := ieqF h38
              refine Xk [(12, .gen []), (13, .gen []), (14, .gen []), (15, .gen []), (16, .gen []), (17, .gen []), (18, .gen []), (19, .gen []), (20, .gen []), (21, .gen []), (22, .gen []), (23, .gen [])] [] [(95, .bool false), (0, .slice al l.length cl), (1, vl ab29 ao30 row.length cr), (11, .int .i64 (i4 : Nat)), (12, .int .i64 (k4 : Nat))] ak0 ?_
              refine GoR.done ?_
              refine GoQ.pick [95, 0, 1, 11, 12] (S' := [(95, .bool false), (0, .slice al l.length cl), (1, vl ab29 ao30 row.length cr), (11, .int .i64 (i4 : Nat)), (12, .int .i64 (k4 : Nat))]) (by kernel_rfl) ?_
              exact GoQ.meet1 () (by first | rfl | (simp only [h38, Bool.not_true, Bool.not_false, Bool.true_or, Bool.false_or, Bool.true_and, Bool.false_and, Bool.or_true, Bool.or_false, Bool.and_true, Bool.and_false]; done) | (simp [h38]; done)) hs36
          intro _ w39 hs40
          refine GoQ.thn ?_
          refine Xc (t := ((((row.getD k4 dReq).client) : Int) == ((row.getD i4 dReq).client)) && ((((row.getD k4 dReq).time) : Int) == ((row.getD i4 dReq).time))) (fun h41 => ?_) (fun h41 => ?_)
          · have h41a : ((((row.getD k4 dReq).client) : Int) == ((row.getD i4 dReq).client)) = true := (Bool.and_eq_true_iff.1 h41).1
            have h41a' : ((row.getD k4 dReq).client : Int) = ((row.getD i4 dReq).client) := ieqT h41a
            have h41b : ((((row.getD k4 dReq).time) : Int) == ((row.getD i4 dReq).time)) = true := (Bool.and_eq_true_iff.1 h41).2
            have h41b' : ((row.getD k4 dReq).time : Int) = ((row.getD i4 dReq).time) := ieqT h41b
            refine GoC.seq ?_
            refine Xt (.rd 0 (.rd 1 (.rd 2 .done))) ?_
            refine Xk [(0, .gen []), (1, .gen []), (2, .gen [])] [] [(5, .int .i64 (i4 : Nat)), (4, .int .i64 4), (0, .slice al l.length cl), (1, vl ab29 ao30 row.length cr), (11, .int .i64 (i4 : Nat)), (12, .int .i64 (k4 : Nat))] ak0 ?_
            refine GoR.done (GoQ.thn (GoC.ret (GoQ.blkR (GoQ.skipCR (GoQ.skipLR (GoQ.blkR (GoQ.blkR (GoQ.skipCR (GoQ.skipLR (GoQ.blkR (GoQ.skipCR ?_)))))))))))
            refine X2 (v := .int .i64 4) (v' := .int .i64 (i4 : Nat)) ?_
            exact ⟨(by rw [chk_at (j := 3) (i := i4) (by decide) hch3 (show look l row 3 = some i4 from firstO_some hi4 ((twP_iff hi4).2 ⟨k4, by omega, of_decide_eq_true ((nameQ_eq _ _).symm.trans h41)⟩) hp4.2)]; rfl), hs40⟩
          · refine GoC.skip (GoQ.blkN (GoQ.thn ?_))
            refine Xt (.rd 0 (.rd 1 (.rd 2 .done))) ?_
            refine Xk [(0, .gen []), (1, .as_ (.int .i64 ((k4 : Nat) + 1)) (.gen [])), (2, .gen [])] [(1, [.prop (Value.int .i64 (IntKind.i64.wrap ((k4 : Nat) + 1)) = Value.int .i64 ((k4 : Nat) + 1))])] [(12, .int .i64 ((k4 : Nat) + 1)), (0, .slice al l.length cl), (1, vl ab29 ao30 row.length cr), (11, .int .i64 (i4 : Nat))] (ak (okp (i64ok (by omega) (by omega)) ok0) ak0) ?_
            refine GoR.done ?_
            exact GoQ.back (k4 + 1) [0, 1, 11, 12] (by kernel_rfl) (by show i4 - (k4 + 1) < i4 - k4; omega) ⟨⟨by omega, fun i hi => (Nat.lt_succ_iff_lt_or_eq.1 hi).elim (hq4.2 i) (fun e => by rw [e]; exact of_decide_eq_false ((nameQ_eq _ _).symm.trans h41))⟩, hs40⟩
        · have h34' : ¬ (((k4 : Nat) : Int) < (i4 : Nat)) := of_decide_eq_false h34
          refine GoC.exit (GoQ.skipC (GoQ.skipL (GoQ.hit (GoQ.blkN (GoQ.thn ?_)))))
          refine Xt (.rd 0 (.rd 1 (.rd 2 .done))) ?_
          refine Xk [(0, .gen []), (1, .as_ (.int .i64 ((i4 : Nat) + 1)) (.gen [])), (2, .gen [])] [(1, [.prop (Value.int .i64 (IntKind.i64.wrap ((i4 : Nat) + 1)) = Value.int .i64 ((i4 : Nat) + 1))])] [(11, .int .i64 ((i4 : Nat) + 1)), (0, .slice al l.length cl), (1, vl ab29 ao30 row.length cr)] (ak (okp (i64ok (by omega) (by omega)) ok0) ak0) ?_
          refine GoR.done ?_
          exact GoQ.back (i4 + 1) [0, 1, 11] (by kernel_rfl) (by show row.length - (i4 + 1) < row.length - i4; omega) ⟨⟨by omega, none_step (p := fun i => twP nameQ dReq row i) hp4.2 (twP_no hi4 (fun k hk => hq4.2 k (by omega)))⟩, hs33⟩
      · have h28' : ¬ (((i4 : Nat) : Int) < (row.length : Nat)) := of_decide_eq_false h28
        have hch4 : chkV l row = chkF l row (7 - 4) := chk_miss (j := 3) (by decide) hch3 (show (look l row 3).isSome = false from (by show (twO nameQ dReq row).isSome = false; rw [show twO nameQ dReq row = none from firstO_none (fun i hi => hp4.2 i (by omega))]; rfl))
        refine GoC.exit (GoQ.skipC (GoQ.skipL (GoQ.hit (GoQ.thn (GoC.seq (GoC.seq ?_))))))
        refine Xt (.rd 0 .done) ?_
        refine Xk [(0, .gen [])] [] [(13, .int .i64 0), (0, .slice al l.length cl), (1, .slice ar row.length cr)] ak0 ?_
        refine GoR.done (GoQ.thn (GoC.block ?_))
        refine GoC.loop (T := Nat) (fun gg => [(0, .slice al l.length cl), (1, .slice ar row.length cr), (13, .int .i64 (gg : Nat))]) (fun gg w => (gg ≤ l.length ∧ ∀ i, i < gg → missB row (l.getD i dCall) = false) ∧ St w0 (L) w) (fun gg => l.length - gg) 0 [0, 1, 13] (by kernel_rfl) ⟨⟨Nat.zero_le _, fun i hi => absurd hi (Nat.not_lt_zero _)⟩, hs27⟩ ?_
        rintro i5 w42 ⟨hp50, hs43⟩
        have hp5 : i5 ≤ l.length ∧ ∀ i, i < i5 → missB row (l.getD i dCall) = false := hp50
        have hs44 : St w0 (L) w42 := hs43
        refine GoC.slots (S' := [(0, .slice al l.length cl), (1, .slice ar row.length cr), (13, .int .i64 (i5 : Nat))]) rfl ?_
        refine GoC.seq (GoC.seq ?_)
        refine Xt (.rd 0 (.rd 1 (.rd 2 (.rd 3 .done)))) ?_
        refine Xk [(0, .gen []), (1, .gen []), (2, .gen []), (3, .gen [])] [] [(100, .bool (decide (((i5 : Nat) : Int) < (l.length : Nat)))), (0, .slice al l.length cl), (1, .slice ar row.length cr), (13, .int .i64 (i5 : Nat))] ak0 ?_
        refine GoR.done (GoQ.thn ?_)
        refine Xc (t := decide (((i5 : Nat) : Int) < (l.length : Nat))) (fun h45 => ?_) (fun h45 => ?_)
        · have h45' : ((i5 : Nat) : Int) < (l.length : Nat) := of_decide_eq_true h45
          have hi5 : i5 < l.length := by omega
          obtain ⟨ab46, ao47, rfl⟩ := RowsAt.isSome (hr1 _ (hs44.drop 0)) (by omega)
          refine GoC.skip (GoQ.thn (GoC.seq (GoC.block (GoC.seq ?_))))
          refine Xt (.rd 0 (.rd 1 (.rd 2 (.rd 3 (.rd 4 (.rd 5 (.rd 6 (.rd 7 (.rd 8 (.rd 9 (.rd 10 (.ef 11 (.rd 12 (.rd 13 .done)))))))))))))) ?_
          refine Xk [(0, .gen []), (1, .gen []), (2, .as_ (vp ab46 (ao47 + (i5 * 13))) .at_), (3, .gen []), (4, .gen [.bool ((l.getD i5 dCall).done)]), (5, .gen [])] [(2, [.prop (0 ≤ ((i5 : Nat) : Int) ∧ ((i5 : Nat) : Int) < ((l.length : Nat) : Int)), .prop (Value.pointer (some (Addr.add ⟨ab46, ao47, none⟩ (Int.toNat (i5 : Nat) * 13))) = Value.pointer (some ⟨ab46, ao47 + (i5 * 13), none⟩))]), (4, [.cell ⟨ab46, ao47 + (i5 * 13) + 10, none⟩ (.bool ((l.getD i5 dCall).done))])] [(108, .bool ((l.getD i5 dCall).done)), (0, vl ab46 ao47 l.length cl), (1, .slice ar row.length cr), (13, .int .i64 (i5 : Nat))] (ak (okp (by omega) (okp (ptrAdd _ _ _) ok0)) (ak (okc (RowsAt.at0 (hr1 _ (hs44.drop 0)) (k := i5) (by first | omega | (simp only [List.length_set]; omega) | (simp only [List.length_set, List.length_append, List.length_cons, List.length_nil]; omega)) (j := 10) (by decide) (by kernel_rfl)) ok0) ak0)) ?_
          rcases Bool.eq_false_or_eq_true ((l.getD i5 dCall).done) with h48 | h48
          · refine Xs 108 true h48 ?_
            refine Xk [(6, .gen []), (7, .gen []), (8, .as_ (vp ab46 (ao47 + (i5 * 13))) .at_), (9, .agg (CallV.cells (l.getD i5 dCall))), (10, .gen [])] [(8, [.prop (0 ≤ ((i5 : Nat) : Int) ∧ ((i5 : Nat) : Int) < ((l.length : Nat) : Int)), .prop (Value.pointer (some (Addr.add ⟨ab46, ao47, none⟩ (Int.toNat (i5 : Nat) * 13))) = Value.pointer (some ⟨ab46, ao47 + (i5 * 13), none⟩))]), (9, [.prop (Array.size (CallV.cells (l.getD i5 dCall)) = 13), .cells ⟨ab46, ao47 + (i5 * 13), none⟩ (CallV.cells (l.getD i5 dCall))])] [(113, .slice ar row.length cr), (112, .agg (CallV.cells (l.getD i5 dCall))), (108, .bool true), (0, vl ab46 ao47 l.length cl), (1, .slice ar row.length cr), (13, .int .i64 (i5 : Nat))] (ak (okp (by omega) (okp (ptrAdd _ _ _) ok0)) (ak (okp (by kernel_rfl) (oka (RowsAt.all0 (hr1 _ (hs44.drop 0)) (by first | omega | (simp only [List.length_set]; omega) | (simp only [List.length_set, List.length_append, List.length_cons, List.length_nil]; omega)) (Nat.le_of_ble_eq_true (by kernel_rfl)) (by kernel_rfl)) ok0)) ak0)) ?_
            refine Xa (f := 32) (args := #[.agg (CallV.cells (l.getD i5 dCall)), .slice ar row.length cr]) Tryz.call32 (rplace_spec row (l.getD i5 dCall) (by omega) (fun w h => hr2 _ (h.drop 0)) hs44) ?_
            rintro v50 w51 ⟨rfl, hs49⟩
            refine ⟨Xo, ?_⟩
            refine Xk [(12, .gen []), (13, .gen [])] [] [(116, .bool (decide ((placeI (l.getD i5 dCall) row : Int) < 0))), (0, vl ab46 ao47 l.length cl), (1, .slice ar row.length cr), (13, .int .i64 (i5 : Nat))] ak0 ?_
            refine GoR.done (GoQ.thn ?_)
            refine Xc (t := decide ((placeI (l.getD i5 dCall) row : Int) < 0)) (fun h52 => ?_) (fun h52 => ?_)
            · have h52' : (placeI (l.getD i5 dCall) row : Int) < 0 := of_decide_eq_true h52
              refine GoC.seq ?_
              refine Xt (.rd 0 (.rd 1 (.rd 2 .done))) ?_
              refine Xk [(0, .gen []), (1, .gen []), (2, .gen [])] [] [(5, .int .i64 (i5 : Nat)), (4, .int .i64 5), (0, vl ab46 ao47 l.length cl), (1, .slice ar row.length cr), (13, .int .i64 (i5 : Nat))] ak0 ?_
              refine GoR.done (GoQ.thn (GoC.ret (GoQ.blkR (GoQ.skipCR (GoQ.skipLR (GoQ.blkR (GoQ.skipCR ?_)))))))
              refine X2 (v := .int .i64 5) (v' := .int .i64 (i5 : Nat)) ?_
              exact ⟨(by rw [chk_at (j := 4) (i := i5) (by decide) hch4 (show look l row 4 = some i5 from idx_at hi5 (by rw [missB, if_pos h48]; exact h52) hp5.2)]; rfl), hs49⟩
            · have h52' : ¬ ((placeI (l.getD i5 dCall) row : Int) < 0) := of_decide_eq_false h52
              refine GoC.skip (GoQ.blkN (GoQ.thn ?_))
              refine Xt (.rd 0 (.rd 1 (.rd 2 .done))) ?_
              refine Xk [(0, .gen []), (1, .as_ (.int .i64 ((i5 : Nat) + 1)) (.gen [])), (2, .gen [])] [(1, [.prop (Value.int .i64 (IntKind.i64.wrap ((i5 : Nat) + 1)) = Value.int .i64 ((i5 : Nat) + 1))])] [(13, .int .i64 ((i5 : Nat) + 1)), (0, vl ab46 ao47 l.length cl), (1, .slice ar row.length cr)] (ak (okp (i64ok (by omega) (by omega)) ok0) ak0) ?_
              refine GoR.done ?_
              exact GoQ.back (i5 + 1) [0, 1, 13] (by kernel_rfl) (by show l.length - (i5 + 1) < l.length - i5; omega) ⟨⟨by omega, none_step (p := fun i => missB row (l.getD i dCall)) hp5.2 (by rw [missB, if_pos h48]; exact h52)⟩, hs49⟩
          · refine Xs 108 false h48 ?_
            refine Xk [(6, .gen []), (7, .gen []), (8, .gen []), (9, .gen []), (10, .gen [])] [] [(113, undef), (112, undef), (108, .bool false), (0, vl ab46 ao47 l.length cl), (1, .slice ar row.length cr), (13, .int .i64 (i5 : Nat))] ak0 ?_
            refine GoR.skip rfl (by kernel_rfl) Xo ?_
            refine Xk [(12, .gen []), (13, .gen [])] [] [(116, .bool false), (0, vl ab46 ao47 l.length cl), (1, .slice ar row.length cr), (13, .int .i64 (i5 : Nat))] ak0 ?_
            refine GoR.done (GoQ.thn (XF (GoC.skip (GoQ.blkN (GoQ.thn ?_)))))
            refine Xt (.rd 0 (.rd 1 (.rd 2 .done))) ?_
            refine Xk [(0, .gen []), (1, .as_ (.int .i64 ((i5 : Nat) + 1)) (.gen [])), (2, .gen [])] [(1, [.prop (Value.int .i64 (IntKind.i64.wrap ((i5 : Nat) + 1)) = Value.int .i64 ((i5 : Nat) + 1))])] [(13, .int .i64 ((i5 : Nat) + 1)), (0, vl ab46 ao47 l.length cl), (1, .slice ar row.length cr)] (ak (okp (i64ok (by omega) (by omega)) ok0) ak0) ?_
            refine GoR.done ?_
            exact GoQ.back (i5 + 1) [0, 1, 13] (by kernel_rfl) (by show l.length - (i5 + 1) < l.length - i5; omega) ⟨⟨by omega, none_step (p := fun i => missB row (l.getD i dCall)) hp5.2 (by rw [missB, if_neg (ne_true_of_eq_false h48)])⟩, hs44⟩
        · have h45' : ¬ (((i5 : Nat) : Int) < (l.length : Nat)) := of_decide_eq_false h45
          have hch5 : chkV l row = chkF l row (7 - 5) := chk_miss (j := 4) (by decide) hch4 (show (look l row 4).isSome = false from (idx_no (fun i hi => hp5.2 i (by omega))))
          have hms : ∀ i, i < l.length → missB row (l.getD i dCall) = false := fun i hi => hp5.2 i (by omega)
          refine GoC.exit (GoQ.skipC (GoQ.skipL (GoQ.hit (GoQ.thn (GoC.seq ?_)))))
          refine Xt (.ef 0 (.rd 1 .done)) ?_
          refine Xa (f := 33) (args := #[]) Tryz.call33 (r11New_spec hs44) ?_
          rintro v58 w59 ⟨p53, q54, ad55, c56, rfl, hs57⟩
          refine ⟨Xo, ?_⟩
          refine Xk [(1, .gen [])] [] [(14, vp p53 0), (0, .slice al l.length cl), (1, .slice ar row.length cr)] ak0 ?_
          refine GoR.done (GoQ.thn (GoC.seq ?_))
          refine Xt (.rd 0 .done) ?_
          refine Xk [(0, .gen [])] [] [(15, .slice none 0 0), (14, vp p53 0), (0, .slice al l.length cl), (1, .slice ar row.length cr)] ak0 ?_
          refine GoR.done (GoQ.thn (GoC.seq ?_))
          refine Xt (.rd 0 .done) ?_
          refine Xk [(0, .gen [])] [] [(16, .slice none 0 0), (15, .slice none 0 0), (14, vp p53 0), (0, .slice al l.length cl), (1, .slice ar row.length cr)] ak0 ?_
          refine GoR.done (GoQ.thn (GoC.seq (GoC.seq ?_)))
          refine Xt (.rd 0 .done) ?_
          refine Xk [(0, .gen [])] [] [(17, .int .i64 0), (16, .slice none 0 0), (15, .slice none 0 0), (14, vp p53 0), (0, .slice al l.length cl), (1, .slice ar row.length cr)] ak0 ?_
          refine GoR.done (GoQ.thn (GoC.block ?_))
          have hs60 : St w0 ((Sl none 0 51 2 RepV.cells ([] : List RepV)) :: (Cel p53 (arrP #[vp q54 0] LastV.cells (List.replicate 8 dLast) #[.int .u64 0]) 111) :: (Cel q54 #[.slice ad55 (([] : List ItemV).length) c56] 105) :: (Sl ad55 c56 142 2 ItemV.cells ([] : List ItemV)) :: L) w59 := St.slNil hs57 51 2 RepV.cells
          have hs61 : St w0 ((Sl none 0 4 1 boolC ([] : List Bool)) :: (Sl none 0 51 2 RepV.cells ([] : List RepV)) :: (Cel p53 (arrP #[vp q54 0] LastV.cells (List.replicate 8 dLast) #[.int .u64 0]) 111) :: (Cel q54 #[.slice ad55 (([] : List ItemV).length) c56] 105) :: (Sl ad55 c56 142 2 ItemV.cells ([] : List ItemV)) :: L) w59 := St.slNil hs60 4 1 boolC
          have hs62 : St w0 ((Cel p53 (arrP #[vp q54 0] LastV.cells (List.replicate 8 dLast) #[.int .u64 0]) 111) :: (Cel q54 #[.slice ad55 (([] : List ItemV).length) c56] 105) :: (Sl ad55 c56 142 2 ItemV.cells ([] : List ItemV)) :: (Sl none 0 51 2 RepV.cells ([] : List RepV)) :: (Sl none 0 4 1 boolC ([] : List Bool)) :: L) w59 := (((((hs61.pull 0 rfl).pull 1 rfl).pull 4 rfl).pull 4 rfl).pull 4 rfl)
          refine GoC.loop (T := Nat × (Option Addr) × Nat × (Option Addr) × Nat × (Option Addr) × Nat) (fun gg => [(0, .slice al l.length cl), (1, .slice ar row.length cr), (14, vp p53 0), (15, .slice gg.2.2.2.1 ((repL row gg.1).length) gg.2.2.2.2.1), (16, .slice gg.2.2.2.2.2.1 ((donL row gg.1).length) gg.2.2.2.2.2.2), (17, .int .i64 (gg.1 : Nat))]) (fun gg w => (gg.1 ≤ row.length) ∧ St w0 ((Cel p53 (arrP #[vp q54 0] LastV.cells ((trun (row.take gg.1)).1) #[.int .u64 (gg.1 : Nat)]) 111) :: (Cel q54 #[.slice gg.2.1 ((lst (trun (row.take gg.1)).2).length) gg.2.2.1] 105) :: (Sl gg.2.1 gg.2.2.1 142 2 ItemV.cells (lst (trun (row.take gg.1)).2)) :: (Sl gg.2.2.2.1 gg.2.2.2.2.1 51 2 RepV.cells (repL row gg.1)) :: (Sl gg.2.2.2.2.2.1 gg.2.2.2.2.2.2 4 1 boolC (donL row gg.1)) :: L) w) (fun gg => row.length - gg.1) (0, ad55, c56, none, 0, none, 0) [0, 1, 14, 15, 16, 17] (by kernel_rfl) ⟨Nat.zero_le _, (by rw [show lst (trun (row.take 0)).2 = [] from lst_nil10]; exact hs62)⟩ ?_
          rintro ⟨k, arr, crr, ra, rc, da, dc⟩ w63 ⟨hpk0, hs64⟩
          have hpk : k ≤ row.length := hpk0
          have hs65 : St w0 ((Cel p53 (arrP #[vp q54 0] LastV.cells ((trun (row.take k)).1) #[.int .u64 (k : Nat)]) 111) :: (Cel q54 #[.slice arr ((lst (trun (row.take k)).2).length) crr] 105) :: (Sl arr crr 142 2 ItemV.cells (lst (trun (row.take k)).2)) :: (Sl ra rc 51 2 RepV.cells (repL row k)) :: (Sl da dc 4 1 boolC (donL row k)) :: L) w63 := hs64
          refine GoC.slots (S' := [(0, .slice al l.length cl), (1, .slice ar row.length cr), (14, vp p53 0), (15, .slice ra ((repL row k).length) rc), (16, .slice da ((donL row k).length) dc), (17, .int .i64 (k : Nat))]) rfl ?_
          refine GoC.seq (GoC.seq ?_)
          refine Xt (.rd 0 (.rd 1 (.rd 2 (.rd 3 .done)))) ?_
          refine Xk [(0, .gen []), (1, .gen []), (2, .gen []), (3, .gen [])] [] [(122, .bool (decide (((k : Nat) : Int) < (row.length : Nat)))), (0, .slice al l.length cl), (1, .slice ar row.length cr), (14, vp p53 0), (15, .slice ra ((repL row k).length) rc), (16, .slice da ((donL row k).length) dc), (17, .int .i64 (k : Nat))] ak0 ?_
          refine GoR.done (GoQ.thn ?_)
          refine Xc (t := decide (((k : Nat) : Int) < (row.length : Nat))) (fun h66 => ?_) (fun h66 => ?_)
          · have h66' : ((k : Nat) : Int) < (row.length : Nat) := of_decide_eq_true h66
            have hk : k < row.length := by omega
            have hti := trun_inv (row.take k)
            have hln1 := repL_length row k
            have hln2 := donL_length row k
            obtain ⟨ab67, ao68, rfl⟩ := RowsAt.isSome (hr2 _ (hs65.drop 5)) (by omega)
            refine GoC.skip (GoQ.thn (GoC.seq (GoC.block (GoC.seq ?_))))
            refine Xt (.rd 0 (.rd 1 (.rd 2 (.rd 3 (.rd 4 (.ef 5 (.rd 6 (.rd 7 (.rd 8 (.ef 9 (.ef 10 (.rd 11 .done)))))))))))) ?_
            refine Xk [(0, .gen []), (1, .gen []), (2, .gen []), (3, .as_ (vp ab67 (ao68 + (k * 40))) .at_), (4, .agg (ReqV.cells (row.getD k dReq)))] [(3, [.prop (0 ≤ ((k : Nat) : Int) ∧ ((k : Nat) : Int) < ((row.length : Nat) : Int)), .prop (Value.pointer (some (Addr.add ⟨ab67, ao68, none⟩ (Int.toNat (k : Nat) * 40))) = Value.pointer (some ⟨ab67, ao68 + (k * 40), none⟩))]), (4, [.prop (Array.size (ReqV.cells (row.getD k dReq)) = 40), .cells ⟨ab67, ao68 + (k * 40), none⟩ (ReqV.cells (row.getD k dReq))])] [(130, .agg (ReqV.cells (row.getD k dReq))), (126, vp p53 0), (0, .slice al l.length cl), (1, vl ab67 ao68 row.length cr), (14, vp p53 0), (15, .slice ra ((repL row k).length) rc), (16, .slice da ((donL row k).length) dc), (17, .int .i64 (k : Nat))] (ak (okp (by omega) (okp (ptrAdd _ _ _) ok0)) (ak (okp (by kernel_rfl) (oka (RowsAt.all0 (hr2 _ (hs65.drop 5)) (by first | omega | (simp only [List.length_set]; omega) | (simp only [List.length_set, List.length_append, List.length_cons, List.length_nil]; omega)) (Nat.le_of_ble_eq_true (by kernel_rfl)) (by kernel_rfl)) ok0)) ak0)) ?_
            refine Xa (f := 34) (args := #[vp p53 0, .agg (ReqV.cells (row.getD k dReq))]) Tryz.call34 (r11Do_spec ((trun (row.take k)).1) (lst (trun (row.take k)).2) (row.getD k dReq) (k : Nat) hti.len (by rw [lst_length]; exact Nat.le_trans hti.inv.len (by decide)) (fun x hx => Nat.le_trans (hti.inv.val _ (lst_mem.1 hx)) (by decide)) (hok _ (getD_mem hk)) (by omega) hs65) ?_
            rintro v72 w73 ⟨ad69, c70, rfl, hs71⟩
            refine ⟨Xo, ?_⟩
            refine Xk [(6, .gen []), (7, .gen []), (8, .gen [])] [] [(133, .bool ((rsdo ((trun (row.take k)).1) (lst (trun (row.take k)).2) (row.getD k dReq)).1.2)), (132, .agg (RepV.cells ((rsdo ((trun (row.take k)).1) (lst (trun (row.take k)).2) (row.getD k dReq)).1.1))), (0, .slice al l.length cl), (1, vl ab67 ao68 row.length cr), (14, vp p53 0), (15, .slice ra ((repL row k).length) rc), (16, .slice da ((donL row k).length) dc), (17, .int .i64 (k : Nat))] ak0 ?_
            refine GoR.alloc rfl rfl (by kernel_rfl) (z := .agg (RepV.cells ⟨0, ⟨#[]⟩⟩)) (by kernel_rfl) hs71 (cs := RepV.cells (⟨0, ⟨#[]⟩⟩ : RepV)) (by kernel_rfl) ?_
            intro b74 w75 hs76
            refine ⟨Xo, ?_⟩
            refine GoR.store rfl rfl (by kernel_rfl) (b := b74) (off := 0) (v := .agg (RepV.cells ((rsdo ((trun (row.take k)).1) (lst (trun (row.take k)).2) (row.getD k dReq)).1.1))) (by kernel_rfl) (by kernel_rfl) (ti := Tryz.t51) (by kernel_rfl) hs76 0 rfl (by kernel_rfl) (by kernel_rfl) (Nat.le_of_ble_eq_true (by kernel_rfl)) (cs' := RepV.cells ((rsdo ((trun (row.take k)).1) (lst (trun (row.take k)).2) (row.getD k dReq)).1.1)) (L' := (Cel b74 (RepV.cells ((rsdo ((trun (row.take k)).1) (lst (trun (row.take k)).2) (row.getD k dReq)).1.1)) 51) :: (Cel p53 (arrP #[vp q54 0] LastV.cells ((rsdo ((trun (row.take k)).1) (lst (trun (row.take k)).2) (row.getD k dReq)).2.1) #[.int .u64 ((k : Nat) + 1)]) 111) :: (Cel q54 #[.slice ad69 (((rsdo ((trun (row.take k)).1) (lst (trun (row.take k)).2) (row.getD k dReq)).2.2).length) c70] 105) :: (Sl ad69 c70 142 2 ItemV.cells ((rsdo ((trun (row.take k)).1) (lst (trun (row.take k)).2) (row.getD k dReq)).2.2)) :: (Sl ra rc 51 2 RepV.cells (repL row k)) :: (Sl da dc 4 1 boolC (donL row k)) :: L) (by kernel_rfl) rfl ?_
            intro w77 hs78
            refine ⟨Xo, ?_⟩
            refine Xk [(11, .gen [])] [] [(19, .bool ((rsdo ((trun (row.take k)).1) (lst (trun (row.take k)).2) (row.getD k dReq)).1.2)), (18, vp b74 0), (0, .slice al l.length cl), (1, vl ab67 ao68 row.length cr), (14, vp p53 0), (15, .slice ra ((repL row k).length) rc), (16, .slice da ((donL row k).length) dc), (17, .int .i64 (k : Nat))] ak0 ?_
            refine GoR.done (GoQ.thn (GoC.seq ?_))
            refine Xt (.rd 0 (.rd 1 (.ef 2 (.ef 3 (.rd 4 .done))))) ?_
            refine Xk [(0, .gen []), (1, .agg (RepV.cells ((rsdo ((trun (row.take k)).1) (lst (trun (row.take k)).2) (row.getD k dReq)).1.1)))] [(1, [.prop (Array.size (RepV.cells ((rsdo ((trun (row.take k)).1) (lst (trun (row.take k)).2) (row.getD k dReq)).1.1)) = 2), .cells ⟨b74, 0, none⟩ (RepV.cells ((rsdo ((trun (row.take k)).1) (lst (trun (row.take k)).2) (row.getD k dReq)).1.1))])] [(135, .agg (RepV.cells ((rsdo ((trun (row.take k)).1) (lst (trun (row.take k)).2) (row.getD k dReq)).1.1))), (134, .slice ra ((repL row k).length) rc), (19, .bool ((rsdo ((trun (row.take k)).1) (lst (trun (row.take k)).2) (row.getD k dReq)).1.2)), (0, .slice al l.length cl), (1, vl ab67 ao68 row.length cr), (14, vp p53 0), (15, .slice ra ((repL row k).length) rc), (16, .slice da ((donL row k).length) dc), (17, .int .i64 (k : Nat))] (ak (okp (by kernel_rfl) (oka (hs78.cells 0 0 rfl (by kernel_rfl)) ok0)) ak0) ?_
            refine GoR.sliceLit rfl (by kernel_rfl) (t := 82) (e := 51) (n := 1) (ps := [(0, .agg (RepV.cells ((rsdo ((trun (row.take k)).1) (lst (trun (row.take k)).2) (row.getD k dReq)).1.1)))]) (by kernel_rfl) (by kernel_rfl) (ti := Tryz.t51) (z := .agg (RepV.cells ⟨0, ⟨#[]⟩⟩)) (by kernel_rfl) (by kernel_rfl) (by decide) (by decide) (cs := RepV.cells ((rsdo ((trun (row.take k)).1) (lst (trun (row.take k)).2) (row.getD k dReq)).1.1)) (by kernel_rfl) hs78 ?_
            intro b79 w80 hs81 hz82
            have hs83 : St w0 ((Sl (some ⟨b79, 0, none⟩) 1 51 2 RepV.cells ([(((rsdo ((trun (row.take k)).1) (lst (trun (row.take k)).2) (row.getD k dReq)).1.1) : RepV)])) :: (Cel b74 (RepV.cells ((rsdo ((trun (row.take k)).1) (lst (trun (row.take k)).2) (row.getD k dReq)).1.1)) 51) :: (Cel p53 (arrP #[vp q54 0] LastV.cells ((rsdo ((trun (row.take k)).1) (lst (trun (row.take k)).2) (row.getD k dReq)).2.1) #[.int .u64 ((k : Nat) + 1)]) 111) :: (Cel q54 #[.slice ad69 (((rsdo ((trun (row.take k)).1) (lst (trun (row.take k)).2) (row.getD k dReq)).2.2).length) c70] 105) :: (Sl ad69 c70 142 2 ItemV.cells ((rsdo ((trun (row.take k)).1) (lst (trun (row.take k)).2) (row.getD k dReq)).2.2)) :: (Sl ra rc 51 2 RepV.cells (repL row k)) :: (Sl da dc 4 1 boolC (donL row k)) :: L) w80 := St.slOf (l := [(((rsdo ((trun (row.take k)).1) (lst (trun (row.take k)).2) (row.getD k dReq)).1.1) : RepV)]) (f := RepV.cells) hs81 hz82 (repF).size (by simp only [List.length_cons, List.length_nil, maxLen]; omega) (by kernel_rfl)
            refine ⟨Xo, ?_⟩
            have hs86 : St w0 ((Sl ra rc 51 2 RepV.cells (repL row k)) :: (Sl (some ⟨b79, 0, none⟩) 1 51 2 RepV.cells ([(((rsdo ((trun (row.take k)).1) (lst (trun (row.take k)).2) (row.getD k dReq)).1.1) : RepV)])) :: (Cel b74 (RepV.cells ((rsdo ((trun (row.take k)).1) (lst (trun (row.take k)).2) (row.getD k dReq)).1.1)) 51) :: (Cel p53 (arrP #[vp q54 0] LastV.cells ((rsdo ((trun (row.take k)).1) (lst (trun (row.take k)).2) (row.getD k dReq)).2.1) #[.int .u64 ((k : Nat) + 1)]) 111) :: (Cel q54 #[.slice ad69 (((rsdo ((trun (row.take k)).1) (lst (trun (row.take k)).2) (row.getD k dReq)).2.2).length) c70] 105) :: (Sl ad69 c70 142 2 ItemV.cells ((rsdo ((trun (row.take k)).1) (lst (trun (row.take k)).2) (row.getD k dReq)).2.2)) :: (Sl da dc 4 1 boolC (donL row k)) :: L) w80 := (hs83.pull 5 rfl)
            refine GoR.append rfl (by kernel_rfl) repsOK repF (ad := ra) (c := rc) (xs := repL row k) (ys := [(((rsdo ((trun (row.take k)).1) (lst (trun (row.take k)).2) (row.getD k dReq)).1.1) : RepV)]) (adx := some ⟨b79, 0, none⟩) (cx := 1) (⟨0, ⟨#[]⟩⟩ : RepV) (by kernel_rfl) hs86 (hs86.rows 1 rfl (repF).size (⟨0, ⟨#[]⟩⟩ : RepV)) (fun h => nomatch h) (by simp only [List.length_append, List.length_cons, List.length_nil, List.length_map] at *; omega) (by simp only [List.length_append, List.length_cons, List.length_nil, List.length_map] at *; omega) ?_
            intro ad87 c88 w84 hs85
            refine ⟨Xo, ?_⟩
            refine Xk [(4, .gen [])] [] [(15, .slice ad87 (((repL row k) ++ ([(((rsdo ((trun (row.take k)).1) (lst (trun (row.take k)).2) (row.getD k dReq)).1.1) : RepV)])).length) c88), (19, .bool ((rsdo ((trun (row.take k)).1) (lst (trun (row.take k)).2) (row.getD k dReq)).1.2)), (0, .slice al l.length cl), (1, vl ab67 ao68 row.length cr), (14, vp p53 0), (16, .slice da ((donL row k).length) dc), (17, .int .i64 (k : Nat))] ak0 ?_
            refine GoR.done (GoQ.thn ?_)
            refine Xt (.rd 0 (.rd 1 (.ef 2 (.ef 3 (.rd 4 .done))))) ?_
            refine Xk [(0, .gen []), (1, .gen [])] [] [(139, .bool ((rsdo ((trun (row.take k)).1) (lst (trun (row.take k)).2) (row.getD k dReq)).1.2)), (138, .slice da ((donL row k).length) dc), (15, .slice ad87 (((repL row k) ++ ([(((rsdo ((trun (row.take k)).1) (lst (trun (row.take k)).2) (row.getD k dReq)).1.1) : RepV)])).length) c88), (0, .slice al l.length cl), (1, vl ab67 ao68 row.length cr), (14, vp p53 0), (16, .slice da ((donL row k).length) dc), (17, .int .i64 (k : Nat))] ak0 ?_
            refine GoR.sliceLit rfl (by kernel_rfl) (t := 83) (e := 4) (n := 1) (ps := [(0, .bool ((rsdo ((trun (row.take k)).1) (lst (trun (row.take k)).2) (row.getD k dReq)).1.2))]) (by kernel_rfl) (by kernel_rfl) (ti := Tryz.t4) (z := .bool false) (by kernel_rfl) (by kernel_rfl) (by decide) (by decide) (cs := #[.bool ((rsdo ((trun (row.take k)).1) (lst (trun (row.take k)).2) (row.getD k dReq)).1.2)]) (by kernel_rfl) hs85 ?_
            intro b89 w90 hs91 hz92
            have hs93 : St w0 ((Sl (some ⟨b89, 0, none⟩) 1 4 1 boolC ([((rsdo ((trun (row.take k)).1) (lst (trun (row.take k)).2) (row.getD k dReq)).1.2 : Bool)])) :: (Sl ad87 c88 51 2 RepV.cells ((repL row k) ++ ([(((rsdo ((trun (row.take k)).1) (lst (trun (row.take k)).2) (row.getD k dReq)).1.1) : RepV)]))) :: (Sl (some ⟨b79, 0, none⟩) 1 51 2 RepV.cells ([(((rsdo ((trun (row.take k)).1) (lst (trun (row.take k)).2) (row.getD k dReq)).1.1) : RepV)])) :: (Cel b74 (RepV.cells ((rsdo ((trun (row.take k)).1) (lst (trun (row.take k)).2) (row.getD k dReq)).1.1)) 51) :: (Cel p53 (arrP #[vp q54 0] LastV.cells ((rsdo ((trun (row.take k)).1) (lst (trun (row.take k)).2) (row.getD k dReq)).2.1) #[.int .u64 ((k : Nat) + 1)]) 111) :: (Cel q54 #[.slice ad69 (((rsdo ((trun (row.take k)).1) (lst (trun (row.take k)).2) (row.getD k dReq)).2.2).length) c70] 105) :: (Sl ad69 c70 142 2 ItemV.cells ((rsdo ((trun (row.take k)).1) (lst (trun (row.take k)).2) (row.getD k dReq)).2.2)) :: (Sl da dc 4 1 boolC (donL row k)) :: L) w90 := St.slOf (l := [((rsdo ((trun (row.take k)).1) (lst (trun (row.take k)).2) (row.getD k dReq)).1.2 : Bool)]) (f := boolC) hs91 hz92 (boolF).size (by simp only [List.length_cons, List.length_nil, maxLen]; omega) (by kernel_rfl)
            refine ⟨Xo, ?_⟩
            have hs96 : St w0 ((Sl da dc 4 1 boolC (donL row k)) :: (Sl (some ⟨b89, 0, none⟩) 1 4 1 boolC ([((rsdo ((trun (row.take k)).1) (lst (trun (row.take k)).2) (row.getD k dReq)).1.2 : Bool)])) :: (Sl ad87 c88 51 2 RepV.cells ((repL row k) ++ ([(((rsdo ((trun (row.take k)).1) (lst (trun (row.take k)).2) (row.getD k dReq)).1.1) : RepV)]))) :: (Sl (some ⟨b79, 0, none⟩) 1 51 2 RepV.cells ([(((rsdo ((trun (row.take k)).1) (lst (trun (row.take k)).2) (row.getD k dReq)).1.1) : RepV)])) :: (Cel b74 (RepV.cells ((rsdo ((trun (row.take k)).1) (lst (trun (row.take k)).2) (row.getD k dReq)).1.1)) 51) :: (Cel p53 (arrP #[vp q54 0] LastV.cells ((rsdo ((trun (row.take k)).1) (lst (trun (row.take k)).2) (row.getD k dReq)).2.1) #[.int .u64 ((k : Nat) + 1)]) 111) :: (Cel q54 #[.slice ad69 (((rsdo ((trun (row.take k)).1) (lst (trun (row.take k)).2) (row.getD k dReq)).2.2).length) c70] 105) :: (Sl ad69 c70 142 2 ItemV.cells ((rsdo ((trun (row.take k)).1) (lst (trun (row.take k)).2) (row.getD k dReq)).2.2)) :: L) w90 := (hs93.pull 7 rfl)
            refine GoR.append rfl (by kernel_rfl) boolsOK boolF (ad := da) (c := dc) (xs := donL row k) (ys := [((rsdo ((trun (row.take k)).1) (lst (trun (row.take k)).2) (row.getD k dReq)).1.2 : Bool)]) (adx := some ⟨b89, 0, none⟩) (cx := 1) false (by kernel_rfl) hs96 (hs96.rows 1 rfl (boolF).size false) (fun h => nomatch h) (by simp only [List.length_append, List.length_cons, List.length_nil, List.length_map] at *; omega) (by simp only [List.length_append, List.length_cons, List.length_nil, List.length_map] at *; omega) ?_
            intro ad97 c98 w94 hs95
            refine ⟨Xo, ?_⟩
            refine Xk [(4, .gen [])] [] [(16, .slice ad97 (((donL row k) ++ ([((rsdo ((trun (row.take k)).1) (lst (trun (row.take k)).2) (row.getD k dReq)).1.2 : Bool)])).length) c98), (15, .slice ad87 (((repL row k) ++ ([(((rsdo ((trun (row.take k)).1) (lst (trun (row.take k)).2) (row.getD k dReq)).1.1) : RepV)])).length) c88), (0, .slice al l.length cl), (1, vl ab67 ao68 row.length cr), (14, vp p53 0), (17, .int .i64 (k : Nat))] ak0 ?_
            refine GoR.done (GoQ.blkN (GoQ.thn ?_))
            refine Xt (.rd 0 (.rd 1 (.rd 2 .done))) ?_
            refine Xk [(0, .gen []), (1, .as_ (.int .i64 ((k : Nat) + 1)) (.gen [])), (2, .gen [])] [(1, [.prop (Value.int .i64 (IntKind.i64.wrap ((k : Nat) + 1)) = Value.int .i64 ((k : Nat) + 1))])] [(17, .int .i64 ((k : Nat) + 1)), (16, .slice ad97 (((donL row k) ++ ([((rsdo ((trun (row.take k)).1) (lst (trun (row.take k)).2) (row.getD k dReq)).1.2 : Bool)])).length) c98), (15, .slice ad87 (((repL row k) ++ ([(((rsdo ((trun (row.take k)).1) (lst (trun (row.take k)).2) (row.getD k dReq)).1.1) : RepV)])).length) c88), (0, .slice al l.length cl), (1, vl ab67 ao68 row.length cr), (14, vp p53 0)] (ak (okp (i64ok (by omega) (by omega)) ok0) ak0) ?_
            refine GoR.done ?_
            have hs99 : St w0 ((Sl (some ⟨b89, 0, none⟩) 1 4 1 boolC ([((rsdo ((trun (row.take k)).1) (lst (trun (row.take k)).2) (row.getD k dReq)).1.2 : Bool)])) :: (Sl (some ⟨b79, 0, none⟩) 1 51 2 RepV.cells ([(((rsdo ((trun (row.take k)).1) (lst (trun (row.take k)).2) (row.getD k dReq)).1.1) : RepV)])) :: (Cel b74 (RepV.cells ((rsdo ((trun (row.take k)).1) (lst (trun (row.take k)).2) (row.getD k dReq)).1.1)) 51) :: (Cel p53 (arrP #[vp q54 0] LastV.cells ((rsdo ((trun (row.take k)).1) (lst (trun (row.take k)).2) (row.getD k dReq)).2.1) #[.int .u64 ((k : Nat) + 1)]) 111) :: (Cel q54 #[.slice ad69 (((rsdo ((trun (row.take k)).1) (lst (trun (row.take k)).2) (row.getD k dReq)).2.2).length) c70] 105) :: (Sl ad69 c70 142 2 ItemV.cells ((rsdo ((trun (row.take k)).1) (lst (trun (row.take k)).2) (row.getD k dReq)).2.2)) :: (Sl ad87 c88 51 2 RepV.cells ((repL row k) ++ ([(((rsdo ((trun (row.take k)).1) (lst (trun (row.take k)).2) (row.getD k dReq)).1.1) : RepV)]))) :: (Sl ad97 c98 4 1 boolC ((donL row k) ++ ([((rsdo ((trun (row.take k)).1) (lst (trun (row.take k)).2) (row.getD k dReq)).1.2 : Bool)]))) :: L) w94 := ((((((((hs95.pull 0 rfl).pull 2 rfl).pull 7 rfl).pull 7 rfl).pull 7 rfl).pull 7 rfl).pull 7 rfl).pull 7 rfl)
            have hs100 : St w0 ((Cel p53 (arrP #[vp q54 0] LastV.cells ((rsdo ((trun (row.take k)).1) (lst (trun (row.take k)).2) (row.getD k dReq)).2.1) #[.int .u64 ((k : Nat) + 1)]) 111) :: (Cel q54 #[.slice ad69 (((rsdo ((trun (row.take k)).1) (lst (trun (row.take k)).2) (row.getD k dReq)).2.2).length) c70] 105) :: (Sl ad69 c70 142 2 ItemV.cells ((rsdo ((trun (row.take k)).1) (lst (trun (row.take k)).2) (row.getD k dReq)).2.2)) :: (Sl ad87 c88 51 2 RepV.cells ((repL row k) ++ ([(((rsdo ((trun (row.take k)).1) (lst (trun (row.take k)).2) (row.getD k dReq)).1.1) : RepV)]))) :: (Sl ad97 c98 4 1 boolC ((donL row k) ++ ([((rsdo ((trun (row.take k)).1) (lst (trun (row.take k)).2) (row.getD k dReq)).1.2 : Bool)]))) :: L) w94 := hs99.drop 3
            rw [rsdo_lst (t := (trun (row.take k)).1) (m := (trun (row.take k)).2) hti] at hs100
            rw [← trun_fst (d := dReq) hk, ← trun_snd (d := dReq) hk] at hs100
            have hs101 : St w0 ((Cel p53 (arrP #[vp q54 0] LastV.cells ((trun (row.take (k + 1))).1) #[.int .u64 ((k + 1) : Nat)]) 111) :: (Cel q54 #[.slice ad69 ((lst (trun (row.take (k + 1))).2).length) c70] 105) :: (Sl ad69 c70 142 2 ItemV.cells (lst (trun (row.take (k + 1))).2)) :: (Sl ad87 c88 51 2 RepV.cells (repL row (k + 1))) :: (Sl ad97 c98 4 1 boolC (donL row (k + 1))) :: L) w94 := by rw [repL_succ, donL_succ]; exact hs100
            refine GoQ.slots (S' := [(17, .int .i64 ((k : Nat) + 1)), (16, .slice ad97 ((donL row (k + 1)).length) c98), (15, .slice ad87 ((repL row (k + 1)).length) c88), (0, .slice al l.length cl), (1, vl ab67 ao68 row.length cr), (14, vp p53 0)]) (by simp only [List.length_append, repL_length, donL_length, List.length_cons, List.length_nil, Nat.zero_add]) ?_
            exact GoQ.back (k + 1, ad69, c70, ad87, c88, ad97, c98) [0, 1, 14, 15, 16, 17] (by kernel_rfl) (by show row.length - (k + 1) < row.length - k; omega) ⟨(by omega), hs101⟩
          · have h66' : ¬ (((k : Nat) : Int) < (row.length : Nat)) := of_decide_eq_false h66
            have hke : k = row.length := by omega
            subst hke
            have hln1 := repL_length row row.length
            have hln2 := donL_length row row.length
            refine GoC.exit (GoQ.skipC (GoQ.skipL (GoQ.hit (GoQ.thn (GoC.seq (GoC.seq ?_))))))
            refine Xt (.rd 0 .done) ?_
            refine Xk [(0, .gen [])] [] [(20, .int .i64 0), (0, .slice al l.length cl), (1, .slice ar row.length cr), (15, .slice ra ((repL row row.length).length) rc), (16, .slice da ((donL row row.length).length) dc)] ak0 ?_
            refine GoR.done (GoQ.thn (GoC.block ?_))
            refine GoC.loop (T := Nat) (fun gg => [(0, .slice al l.length cl), (1, .slice ar row.length cr), (15, .slice ra ((repL row row.length).length) rc), (16, .slice da ((donL row row.length).length) dc), (20, .int .i64 (gg : Nat))]) (fun gg w => (gg ≤ l.length ∧ ∀ i, i < gg → othB (repM row row.length) row (l.getD i dCall) = false) ∧ St w0 ((Cel p53 (arrP #[vp q54 0] LastV.cells ((trun (row.take row.length)).1) #[.int .u64 (row.length : Nat)]) 111) :: (Cel q54 #[.slice arr ((lst (trun (row.take row.length)).2).length) crr] 105) :: (Sl arr crr 142 2 ItemV.cells (lst (trun (row.take row.length)).2)) :: (Sl ra rc 51 2 RepV.cells (repL row row.length)) :: (Sl da dc 4 1 boolC (donL row row.length)) :: L) w) (fun gg => l.length - gg) 0 [0, 1, 15, 16, 20] (by kernel_rfl) ⟨⟨Nat.zero_le _, fun i hi => absurd hi (Nat.not_lt_zero _)⟩, hs65⟩ ?_
            rintro i6 w102 ⟨hp60, hs103⟩
            have hp6 : i6 ≤ l.length ∧ ∀ i, i < i6 → othB (repM row row.length) row (l.getD i dCall) = false := hp60
            have hs104 : St w0 ((Cel p53 (arrP #[vp q54 0] LastV.cells ((trun (row.take row.length)).1) #[.int .u64 (row.length : Nat)]) 111) :: (Cel q54 #[.slice arr ((lst (trun (row.take row.length)).2).length) crr] 105) :: (Sl arr crr 142 2 ItemV.cells (lst (trun (row.take row.length)).2)) :: (Sl ra rc 51 2 RepV.cells (repL row row.length)) :: (Sl da dc 4 1 boolC (donL row row.length)) :: L) w102 := hs103
            refine GoC.slots (S' := [(0, .slice al l.length cl), (1, .slice ar row.length cr), (15, .slice ra ((repL row row.length).length) rc), (16, .slice da ((donL row row.length).length) dc), (20, .int .i64 (i6 : Nat))]) rfl ?_
            refine GoC.seq (GoC.seq ?_)
            refine Xt (.rd 0 (.rd 1 (.rd 2 (.rd 3 .done)))) ?_
            refine Xk [(0, .gen []), (1, .gen []), (2, .gen []), (3, .gen [])] [] [(145, .bool (decide (((i6 : Nat) : Int) < (l.length : Nat)))), (0, .slice al l.length cl), (1, .slice ar row.length cr), (15, .slice ra ((repL row row.length).length) rc), (16, .slice da ((donL row row.length).length) dc), (20, .int .i64 (i6 : Nat))] ak0 ?_
            refine GoR.done (GoQ.thn ?_)
            refine Xc (t := decide (((i6 : Nat) : Int) < (l.length : Nat))) (fun h105 => ?_) (fun h105 => ?_)
            · have h105' : ((i6 : Nat) : Int) < (l.length : Nat) := of_decide_eq_true h105
              have hi6 : i6 < l.length := by omega
              obtain ⟨ab106, ao107, rfl⟩ := RowsAt.isSome (hr1 _ (hs104.drop 5)) (by omega)
              refine GoC.skip (GoQ.thn (GoC.seq (GoC.block (GoC.seq ?_))))
              refine Xt (.rd 0 (.rd 1 (.rd 2 (.rd 3 (.rd 4 (.ef 5 (.rd 6 .done))))))) ?_
              refine Xk [(0, .gen []), (1, .gen []), (2, .as_ (vp ab106 (ao107 + (i6 * 13))) .at_), (3, .agg (CallV.cells (l.getD i6 dCall))), (4, .gen [])] [(2, [.prop (0 ≤ ((i6 : Nat) : Int) ∧ ((i6 : Nat) : Int) < ((l.length : Nat) : Int)), .prop (Value.pointer (some (Addr.add ⟨ab106, ao107, none⟩ (Int.toNat (i6 : Nat) * 13))) = Value.pointer (some ⟨ab106, ao107 + (i6 * 13), none⟩))]), (3, [.prop (Array.size (CallV.cells (l.getD i6 dCall)) = 13), .cells ⟨ab106, ao107 + (i6 * 13), none⟩ (CallV.cells (l.getD i6 dCall))])] [(152, .slice ar row.length cr), (151, .agg (CallV.cells (l.getD i6 dCall))), (0, vl ab106 ao107 l.length cl), (1, .slice ar row.length cr), (15, .slice ra ((repL row row.length).length) rc), (16, .slice da ((donL row row.length).length) dc), (20, .int .i64 (i6 : Nat))] (ak (okp (by omega) (okp (ptrAdd _ _ _) ok0)) (ak (okp (by kernel_rfl) (oka (RowsAt.all0 (hr1 _ (hs104.drop 5)) (by first | omega | (simp only [List.length_set]; omega) | (simp only [List.length_set, List.length_append, List.length_cons, List.length_nil]; omega)) (Nat.le_of_ble_eq_true (by kernel_rfl)) (by kernel_rfl)) ok0)) ak0)) ?_
              refine Xa (f := 32) (args := #[.agg (CallV.cells (l.getD i6 dCall)), .slice ar row.length cr]) Tryz.call32 (rplace_spec row (l.getD i6 dCall) (by omega) (fun w h => hr2 _ (h.drop 5)) hs104) ?_
              rintro v109 w110 ⟨rfl, hs108⟩
              refine ⟨Xo, ?_⟩
              refine Xk [(6, .gen [])] [] [(21, .int .i64 (placeI (l.getD i6 dCall) row)), (0, vl ab106 ao107 l.length cl), (1, .slice ar row.length cr), (15, .slice ra ((repL row row.length).length) rc), (16, .slice da ((donL row row.length).length) dc), (20, .int .i64 (i6 : Nat))] ak0 ?_
              refine GoR.done (GoQ.thn (GoC.seq ?_))
              refine GoC.regD [0, 0, 3, 7, 15, 31, 63, 63, 255, 511, 1023, 2047, 4095, 4095, 16383, 32767, 4095, 4095, 200703, 462847, 987135, 2097151, 4194303, 8388607] (.rd 0 (.rd 1 (.rd 2 (.rd 3 (.rd 4 (.rd 5 (.rd 6 (.rd 7 (.rd 8 (.rd 9 (.rd 10 (.rd 11 (.rd 12 (.rd 13 (.rd 14 (.rd 15 (.rd 16 (.rd 17 (.rd 18 (.rd 19 (.rd 20 (.rd 21 (.rd 22 (.rd 23 .done)))))))))))))))))))))))) (by kernel_rfl) (by kernel_rfl) noPan_body (by kernel_rfl) hs108 ?_
              intro w111 hs112 hw113
              refine Xk [(0, .gen []), (1, .gen []), (2, .as_ (vp ab106 (ao107 + (i6 * 13))) .at_), (3, .gen []), (4, .gen [.bool ((l.getD i6 dCall).done)]), (5, .gen [])] [(2, [.prop (0 ≤ ((i6 : Nat) : Int) ∧ ((i6 : Nat) : Int) < ((l.length : Nat) : Int)), .prop (Value.pointer (some (Addr.add ⟨ab106, ao107, none⟩ (Int.toNat (i6 : Nat) * 13))) = Value.pointer (some ⟨ab106, ao107 + (i6 * 13), none⟩))]), (4, [.cell ⟨ab106, ao107 + (i6 * 13) + 10, none⟩ (.bool ((l.getD i6 dCall).done))])] [(159, .bool ((l.getD i6 dCall).done)), (21, .int .i64 (placeI (l.getD i6 dCall) row)), (0, vl ab106 ao107 l.length cl), (1, .slice ar row.length cr), (15, .slice ra ((repL row row.length).length) rc), (16, .slice da ((donL row row.length).length) dc), (20, .int .i64 (i6 : Nat))] (ak (okp (by omega) (okp (ptrAdd _ _ _) ok0)) (ak (okc (RowsAt.at0 (hr1 _ (hs112.drop 5)) (k := i6) (by first | omega | (simp only [List.length_set]; omega) | (simp only [List.length_set, List.length_append, List.length_cons, List.length_nil]; omega)) (j := 10) (by decide) (by kernel_rfl)) ok0) ak0)) ?_
              rcases Bool.eq_false_or_eq_true ((l.getD i6 dCall).done) with h114 | h114
              · refine Xs 159 true h114 ?_
                have hp0 := miss_place (hms i6 hi6) h114
                have hpl := place_lt (l.getD i6 dCall) row
                obtain ⟨ab115, rfl⟩ := Sl.isSome (hs112.at_ 3 rfl) (by omega)
                obtain ⟨ab117, rfl⟩ := Sl.isSome (hs112.at_ 4 rfl) (by omega)
                refine Xk [(6, .gen []), (7, .gen []), (8, .as_ (vp ab117 (0 + ((Int.toNat (placeI (l.getD i6 dCall) row)) * 1))) .at_), (9, .gen [.bool ((donL row row.length).getD (Int.toNat (placeI (l.getD i6 dCall) row)) false)]), (10, .gen []), (11, .gen [])] [(8, [.prop (0 ≤ ((placeI (l.getD i6 dCall) row) : Int) ∧ ((placeI (l.getD i6 dCall) row) : Int) < (((donL row row.length).length : Nat) : Int)), .prop (Value.pointer (some (Addr.add ⟨ab117, 0, none⟩ (Int.toNat (placeI (l.getD i6 dCall) row) * 1))) = Value.pointer (some ⟨ab117, 0 + ((Int.toNat (placeI (l.getD i6 dCall) row)) * 1), none⟩))]), (9, [.cell ⟨ab117, 0 + ((Int.toNat (placeI (l.getD i6 dCall) row)) * 1), none⟩ (.bool ((donL row row.length).getD (Int.toNat (placeI (l.getD i6 dCall) row)) false))])] [(165, .bool (!((donL row row.length).getD (Int.toNat (placeI (l.getD i6 dCall) row)) false))), (159, .bool true), (21, .int .i64 (placeI (l.getD i6 dCall) row)), (0, vl ab106 ao107 l.length cl), (1, .slice ar row.length cr), (15, vl ab115 0 ((repL row row.length).length) rc), (16, vl ab117 0 ((donL row row.length).length) dc), (20, .int .i64 (i6 : Nat))] (ak (okp (by omega) (okp (ptrAdd _ _ _) ok0)) (ak (okc (RowsAt.at0 (hs112.rows 4 rfl (boolF).size false) (k := (Int.toNat (placeI (l.getD i6 dCall) row))) (by first | omega | (simp only [List.length_set]; omega) | (simp only [List.length_set, List.length_append, List.length_cons, List.length_nil]; omega)) (j := 0) (by decide) (by kernel_rfl)) ok0) ak0)) ?_
                rcases Bool.eq_false_or_eq_true (!((donL row row.length).getD (Int.toNat (placeI (l.getD i6 dCall) row)) false)) with h119 | h119
                · refine Xs 165 true h119 ?_
                  have h119n : ((donL row row.length).getD (Int.toNat (placeI (l.getD i6 dCall) row)) false) = false := notT h119
                  refine Xk [(12, .gen []), (13, .gen []), (14, .gen []), (15, .gen []), (16, .gen []), (17, .gen []), (18, .gen []), (19, .gen []), (20, .gen []), (21, .gen []), (22, .gen []), (23, .gen [])] [] [(177, .bool true), (0, vl ab106 ao107 l.length cl), (1, .slice ar row.length cr), (15, vl ab115 0 ((repL row row.length).length) rc), (16, vl ab117 0 ((donL row row.length).length) dc), (20, .int .i64 (i6 : Nat))] ak0 ?_
                  refine GoR.done (GoQ.thn (XT (GoC.seq ?_)))
                  refine Xt (.rd 0 (.rd 1 (.rd 2 .done))) ?_
                  refine Xk [(0, .gen []), (1, .gen []), (2, .gen [])] [] [(5, .int .i64 (i6 : Nat)), (4, .int .i64 6), (0, vl ab106 ao107 l.length cl), (1, .slice ar row.length cr), (15, vl ab115 0 ((repL row row.length).length) rc), (16, vl ab117 0 ((donL row row.length).length) dc), (20, .int .i64 (i6 : Nat))] ak0 ?_
                  refine GoR.done (GoQ.thn (GoC.ret (GoQ.blkR (GoQ.skipCR (GoQ.skipLR (GoQ.blkR (GoQ.skipCR ?_)))))))
                  refine X2 (v := .int .i64 6) (v' := .int .i64 (i6 : Nat)) ?_
                  have hs120 : St w0 (L) w111 := hs112.drop 5
                  exact ⟨(by rw [chk_at (j := 5) (i := i6) (by decide) hch5 (show look l row 5 = some i6 from idx_at hi6 (by rw [oth_eq h114 hp0, h119]; rfl) hp6.2)]; rfl), hs120⟩
                · refine Xs 165 false h119 ?_
                  have h119n : ((donL row row.length).getD (Int.toNat (placeI (l.getD i6 dCall) row)) false) = true := notF h119
                  refine Xk [(12, .gen []), (13, .gen []), (14, .as_ (vp ab115 (0 + ((Int.toNat (placeI (l.getD i6 dCall) row)) * 2))) .at_), (15, .agg (RepV.cells ((repL row row.length).getD (Int.toNat (placeI (l.getD i6 dCall) row)) (⟨0, ⟨#[]⟩⟩ : RepV)))), (16, .gen []), (17, .gen []), (18, .as_ (vp ab106 (ao107 + (i6 * 13))) .at_), (19, .gen []), (20, .agg (RepV.cells ((l.getD i6 dCall).reply)))] [(14, [.prop (0 ≤ ((placeI (l.getD i6 dCall) row) : Int) ∧ ((placeI (l.getD i6 dCall) row) : Int) < (((repL row row.length).length : Nat) : Int)), .prop (Value.pointer (some (Addr.add ⟨ab115, 0, none⟩ (Int.toNat (placeI (l.getD i6 dCall) row) * 2))) = Value.pointer (some ⟨ab115, 0 + ((Int.toNat (placeI (l.getD i6 dCall) row)) * 2), none⟩))]), (15, [.prop (Array.size (RepV.cells ((repL row row.length).getD (Int.toNat (placeI (l.getD i6 dCall) row)) (⟨0, ⟨#[]⟩⟩ : RepV))) = 2), .cells ⟨ab115, 0 + ((Int.toNat (placeI (l.getD i6 dCall) row)) * 2), none⟩ (RepV.cells ((repL row row.length).getD (Int.toNat (placeI (l.getD i6 dCall) row)) (⟨0, ⟨#[]⟩⟩ : RepV)))]), (18, [.prop (0 ≤ ((i6 : Nat) : Int) ∧ ((i6 : Nat) : Int) < ((l.length : Nat) : Int)), .prop (Value.pointer (some (Addr.add ⟨ab106, ao107, none⟩ (Int.toNat (i6 : Nat) * 13))) = Value.pointer (some ⟨ab106, ao107 + (i6 * 13), none⟩))]), (20, [.prop (Array.size (RepV.cells ((l.getD i6 dCall).reply)) = 2), .cells ⟨ab106, ao107 + (i6 * 13) + 11, none⟩ (RepV.cells ((l.getD i6 dCall).reply))])] [(174, .agg (RepV.cells ((l.getD i6 dCall).reply))), (169, .agg (RepV.cells ((repL row row.length).getD (Int.toNat (placeI (l.getD i6 dCall) row)) (⟨0, ⟨#[]⟩⟩ : RepV)))), (165, .bool false), (159, .bool true), (0, vl ab106 ao107 l.length cl), (1, .slice ar row.length cr), (15, vl ab115 0 ((repL row row.length).length) rc), (16, vl ab117 0 ((donL row row.length).length) dc), (20, .int .i64 (i6 : Nat))] (ak (okp (by omega) (okp (ptrAdd _ _ _) ok0)) (ak (okp (by kernel_rfl) (oka (RowsAt.all0 (hs112.rows 3 rfl (repF).size (⟨0, ⟨#[]⟩⟩ : RepV)) (by first | omega | (simp only [List.length_set]; omega) | (simp only [List.length_set, List.length_append, List.length_cons, List.length_nil]; omega)) (Nat.le_of_ble_eq_true (by kernel_rfl)) (by kernel_rfl)) ok0)) (ak (okp (by omega) (okp (ptrAdd _ _ _) ok0)) (ak (okp (by kernel_rfl) (oka (RowsAt.all (hr1 _ (hs112.drop 5)) (by first | omega | (simp only [List.length_set]; omega) | (simp only [List.length_set, List.length_append, List.length_cons, List.length_nil]; omega)) (Nat.le_of_ble_eq_true (by kernel_rfl)) (by kernel_rfl)) ok0)) ak0)))) ?_
                  refine GoR.eqAgg rfl (by kernel_rfl) (b := false) (t := 51) (xs := RepV.cells ((repL row row.length).getD (Int.toNat (placeI (l.getD i6 dCall) row)) (⟨0, ⟨#[]⟩⟩ : RepV))) (ys := RepV.cells ((l.getD i6 dCall).reply)) (m := 2) (by kernel_rfl) (by kernel_rfl) (by decide) (by kernel_rfl) (r := !(decide (((repL row row.length).getD (Int.toNat (placeI (l.getD i6 dCall) row)) (⟨0, ⟨#[]⟩⟩ : RepV)) = (l.getD i6 dCall).reply))) (aggNe  (repEq ((repL row row.length).getD (Int.toNat (placeI (l.getD i6 dCall) row)) (⟨0, ⟨#[]⟩⟩ : RepV)) ((l.getD i6 dCall).reply))) ?_
                  refine Xk [(22, .gen []), (23, .gen [])] [] [(177, .bool (!(decide (((repL row row.length).getD (Int.toNat (placeI (l.getD i6 dCall) row)) (⟨0, ⟨#[]⟩⟩ : RepV)) = (l.getD i6 dCall).reply)))), (0, vl ab106 ao107 l.length cl), (1, .slice ar row.length cr), (15, vl ab115 0 ((repL row row.length).length) rc), (16, vl ab117 0 ((donL row row.length).length) dc), (20, .int .i64 (i6 : Nat))] ak0 ?_
                  refine GoR.done (GoQ.thn ?_)
                  refine Xc (t := !(decide (((repL row row.length).getD (Int.toNat (placeI (l.getD i6 dCall) row)) (⟨0, ⟨#[]⟩⟩ : RepV)) = (l.getD i6 dCall).reply))) (fun h121 => ?_) (fun h121 => ?_)
                  · have h121n : (decide (((repL row row.length).getD (Int.toNat (placeI (l.getD i6 dCall) row)) (⟨0, ⟨#[]⟩⟩ : RepV)) = (l.getD i6 dCall).reply)) = false := notT h121
                    have h121n' : ¬ (((repL row row.length).getD (Int.toNat (placeI (l.getD i6 dCall) row)) (⟨0, ⟨#[]⟩⟩ : RepV)) = (l.getD i6 dCall).reply) := of_decide_eq_false h121n
                    refine GoC.seq ?_
                    refine Xt (.rd 0 (.rd 1 (.rd 2 .done))) ?_
                    refine Xk [(0, .gen []), (1, .gen []), (2, .gen [])] [] [(5, .int .i64 (i6 : Nat)), (4, .int .i64 6), (0, vl ab106 ao107 l.length cl), (1, .slice ar row.length cr), (15, vl ab115 0 ((repL row row.length).length) rc), (16, vl ab117 0 ((donL row row.length).length) dc), (20, .int .i64 (i6 : Nat))] ak0 ?_
                    refine GoR.done (GoQ.thn (GoC.ret (GoQ.blkR (GoQ.skipCR (GoQ.skipLR (GoQ.blkR (GoQ.skipCR ?_)))))))
                    refine X2 (v := .int .i64 6) (v' := .int .i64 (i6 : Nat)) ?_
                    have hs122 : St w0 (L) w111 := hs112.drop 5
                    exact ⟨(by rw [chk_at (j := 5) (i := i6) (by decide) hch5 (show look l row 5 = some i6 from idx_at hi6 (by rw [oth_eq h114 hp0, h119, h121]; rfl) hp6.2)]; rfl), hs122⟩
                  · have h121n : (decide (((repL row row.length).getD (Int.toNat (placeI (l.getD i6 dCall) row)) (⟨0, ⟨#[]⟩⟩ : RepV)) = (l.getD i6 dCall).reply)) = true := notF h121
                    have h121n' : ((repL row row.length).getD (Int.toNat (placeI (l.getD i6 dCall) row)) (⟨0, ⟨#[]⟩⟩ : RepV)) = (l.getD i6 dCall).reply := of_decide_eq_true h121n
                    refine GoC.skip (GoQ.blkN (GoQ.thn ?_))
                    refine Xt (.rd 0 (.rd 1 (.rd 2 .done))) ?_
                    refine Xk [(0, .gen []), (1, .as_ (.int .i64 ((i6 : Nat) + 1)) (.gen [])), (2, .gen [])] [(1, [.prop (Value.int .i64 (IntKind.i64.wrap ((i6 : Nat) + 1)) = Value.int .i64 ((i6 : Nat) + 1))])] [(20, .int .i64 ((i6 : Nat) + 1)), (0, vl ab106 ao107 l.length cl), (1, .slice ar row.length cr), (15, vl ab115 0 ((repL row row.length).length) rc), (16, vl ab117 0 ((donL row row.length).length) dc)] (ak (okp (i64ok (by omega) (by omega)) ok0) ak0) ?_
                    refine GoR.done ?_
                    exact GoQ.back (i6 + 1) [0, 1, 15, 16, 20] (by kernel_rfl) (by show l.length - (i6 + 1) < l.length - i6; omega) ⟨⟨by omega, none_step (p := fun i => othB (repM row row.length) row (l.getD i dCall)) hp6.2 (by rw [oth_eq h114 hp0, h119, h121]; rfl)⟩, hs112⟩
              · refine Xs 159 false h114 ?_
                refine Xk [(6, .gen []), (7, .gen []), (8, .gen []), (9, .gen []), (10, .gen []), (11, .gen []), (12, .gen []), (13, .gen []), (14, .gen []), (15, .gen []), (16, .gen []), (17, .gen []), (18, .gen []), (19, .gen []), (20, .gen []), (21, .gen []), (22, .gen []), (23, .gen [])] [] [(177, .bool false), (0, vl ab106 ao107 l.length cl), (1, .slice ar row.length cr), (15, .slice ra ((repL row row.length).length) rc), (16, .slice da ((donL row row.length).length) dc), (20, .int .i64 (i6 : Nat))] ak0 ?_
                refine GoR.done (GoQ.thn (XF (GoC.skip (GoQ.blkN (GoQ.thn ?_)))))
                refine Xt (.rd 0 (.rd 1 (.rd 2 .done))) ?_
                refine Xk [(0, .gen []), (1, .as_ (.int .i64 ((i6 : Nat) + 1)) (.gen [])), (2, .gen [])] [(1, [.prop (Value.int .i64 (IntKind.i64.wrap ((i6 : Nat) + 1)) = Value.int .i64 ((i6 : Nat) + 1))])] [(20, .int .i64 ((i6 : Nat) + 1)), (0, vl ab106 ao107 l.length cl), (1, .slice ar row.length cr), (15, .slice ra ((repL row row.length).length) rc), (16, .slice da ((donL row row.length).length) dc)] (ak (okp (i64ok (by omega) (by omega)) ok0) ak0) ?_
                refine GoR.done ?_
                exact GoQ.back (i6 + 1) [0, 1, 15, 16, 20] (by kernel_rfl) (by show l.length - (i6 + 1) < l.length - i6; omega) ⟨⟨by omega, none_step (p := fun i => othB (repM row row.length) row (l.getD i dCall)) hp6.2 (oth_no h114)⟩, hs112⟩
            · have h105' : ¬ (((i6 : Nat) : Int) < (l.length : Nat)) := of_decide_eq_false h105
              have hch6 : chkV l row = chkF l row (7 - 6) := chk_miss (j := 5) (by decide) hch5 (show (look l row 5).isSome = false from (idx_no (fun i hi => hp6.2 i (by omega))))
              refine GoC.exit (GoQ.skipC (GoQ.skipL (GoQ.hit (GoQ.thn (GoC.seq (GoC.seq ?_))))))
              refine Xt (.rd 0 .done) ?_
              refine Xk [(0, .gen [])] [] [(22, .int .i64 0), (0, .slice al l.length cl), (1, .slice ar row.length cr)] ak0 ?_
              refine GoR.done (GoQ.thn (GoC.block ?_))
              refine GoC.loop (T := Nat) (fun gg => [(0, .slice al l.length cl), (1, .slice ar row.length cr), (22, .int .i64 (gg : Nat))]) (fun gg w => (gg ≤ l.length ∧ ∀ i, i < gg → earB l row (l.getD i dCall) = false) ∧ St w0 ((Cel p53 (arrP #[vp q54 0] LastV.cells ((trun (row.take row.length)).1) #[.int .u64 (row.length : Nat)]) 111) :: (Cel q54 #[.slice arr ((lst (trun (row.take row.length)).2).length) crr] 105) :: (Sl arr crr 142 2 ItemV.cells (lst (trun (row.take row.length)).2)) :: (Sl ra rc 51 2 RepV.cells (repL row row.length)) :: (Sl da dc 4 1 boolC (donL row row.length)) :: L) w) (fun gg => l.length - gg) 0 [0, 1, 22] (by kernel_rfl) ⟨⟨Nat.zero_le _, fun i hi => absurd hi (Nat.not_lt_zero _)⟩, hs104⟩ ?_
              rintro i7 w123 ⟨hp70, hs124⟩
              have hp7 : i7 ≤ l.length ∧ ∀ i, i < i7 → earB l row (l.getD i dCall) = false := hp70
              have hs125 : St w0 ((Cel p53 (arrP #[vp q54 0] LastV.cells ((trun (row.take row.length)).1) #[.int .u64 (row.length : Nat)]) 111) :: (Cel q54 #[.slice arr ((lst (trun (row.take row.length)).2).length) crr] 105) :: (Sl arr crr 142 2 ItemV.cells (lst (trun (row.take row.length)).2)) :: (Sl ra rc 51 2 RepV.cells (repL row row.length)) :: (Sl da dc 4 1 boolC (donL row row.length)) :: L) w123 := hs124
              refine GoC.slots (S' := [(0, .slice al l.length cl), (1, .slice ar row.length cr), (22, .int .i64 (i7 : Nat))]) rfl ?_
              refine GoC.seq (GoC.seq ?_)
              refine Xt (.rd 0 (.rd 1 (.rd 2 (.rd 3 .done)))) ?_
              refine Xk [(0, .gen []), (1, .gen []), (2, .gen []), (3, .gen [])] [] [(182, .bool (decide (((i7 : Nat) : Int) < (l.length : Nat)))), (0, .slice al l.length cl), (1, .slice ar row.length cr), (22, .int .i64 (i7 : Nat))] ak0 ?_
              refine GoR.done (GoQ.thn ?_)
              refine Xc (t := decide (((i7 : Nat) : Int) < (l.length : Nat))) (fun h126 => ?_) (fun h126 => ?_)
              · have h126' : ((i7 : Nat) : Int) < (l.length : Nat) := of_decide_eq_true h126
                have hi7 : i7 < l.length := by omega
                obtain ⟨ab127, ao128, rfl⟩ := RowsAt.isSome (hr1 _ (hs125.drop 5)) (by omega)
                refine GoC.skip (GoQ.thn (GoC.seq (GoC.block (GoC.seq ?_))))
                refine Xt (.rd 0 (.rd 1 (.rd 2 (.rd 3 (.rd 4 (.ef 5 (.rd 6 .done))))))) ?_
                refine Xk [(0, .gen []), (1, .gen []), (2, .as_ (vp ab127 (ao128 + (i7 * 13))) .at_), (3, .agg (CallV.cells (l.getD i7 dCall))), (4, .gen [])] [(2, [.prop (0 ≤ ((i7 : Nat) : Int) ∧ ((i7 : Nat) : Int) < ((l.length : Nat) : Int)), .prop (Value.pointer (some (Addr.add ⟨ab127, ao128, none⟩ (Int.toNat (i7 : Nat) * 13))) = Value.pointer (some ⟨ab127, ao128 + (i7 * 13), none⟩))]), (3, [.prop (Array.size (CallV.cells (l.getD i7 dCall)) = 13), .cells ⟨ab127, ao128 + (i7 * 13), none⟩ (CallV.cells (l.getD i7 dCall))])] [(189, .slice ar row.length cr), (188, .agg (CallV.cells (l.getD i7 dCall))), (0, vl ab127 ao128 l.length cl), (1, .slice ar row.length cr), (22, .int .i64 (i7 : Nat))] (ak (okp (by omega) (okp (ptrAdd _ _ _) ok0)) (ak (okp (by kernel_rfl) (oka (RowsAt.all0 (hr1 _ (hs125.drop 5)) (by first | omega | (simp only [List.length_set]; omega) | (simp only [List.length_set, List.length_append, List.length_cons, List.length_nil]; omega)) (Nat.le_of_ble_eq_true (by kernel_rfl)) (by kernel_rfl)) ok0)) ak0)) ?_
                refine Xa (f := 32) (args := #[.agg (CallV.cells (l.getD i7 dCall)), .slice ar row.length cr]) Tryz.call32 (rplace_spec row (l.getD i7 dCall) (by omega) (fun w h => hr2 _ (h.drop 5)) hs125) ?_
                rintro v130 w131 ⟨rfl, hs129⟩
                refine ⟨Xo, ?_⟩
                refine Xk [(6, .gen [])] [] [(23, .int .i64 (placeI (l.getD i7 dCall) row)), (0, vl ab127 ao128 l.length cl), (1, .slice ar row.length cr), (22, .int .i64 (i7 : Nat))] ak0 ?_
                refine GoR.done (GoQ.thn (GoC.seq ?_))
                refine Xt (.rd 0 .done) ?_
                refine Xk [(0, .gen [])] [] [(24, .int .i64 0), (23, .int .i64 (placeI (l.getD i7 dCall) row)), (0, vl ab127 ao128 l.length cl), (1, .slice ar row.length cr), (22, .int .i64 (i7 : Nat))] ak0 ?_
                refine GoR.done (GoQ.thn (GoC.block ?_))
                refine GoC.loop (T := Nat) (fun gg => [(0, vl ab127 ao128 l.length cl), (1, .slice ar row.length cr), (22, .int .i64 (i7 : Nat)), (23, .int .i64 (placeI (l.getD i7 dCall) row)), (24, .int .i64 (gg : Nat))]) (fun gg w => (gg ≤ l.length ∧ ∀ i, i < gg → ear1 row (l.getD i7 dCall) (placeI (l.getD i7 dCall) row) (l.getD i dCall) = false) ∧ St w0 ((Cel p53 (arrP #[vp q54 0] LastV.cells ((trun (row.take row.length)).1) #[.int .u64 (row.length : Nat)]) 111) :: (Cel q54 #[.slice arr ((lst (trun (row.take row.length)).2).length) crr] 105) :: (Sl arr crr 142 2 ItemV.cells (lst (trun (row.take row.length)).2)) :: (Sl ra rc 51 2 RepV.cells (repL row row.length)) :: (Sl da dc 4 1 boolC (donL row row.length)) :: L) w) (fun gg => l.length - gg) 0 [0, 1, 22, 23, 24] (by kernel_rfl) ⟨⟨Nat.zero_le _, fun i hi => absurd hi (Nat.not_lt_zero _)⟩, hs129⟩ ?_
                rintro k7 w132 ⟨hq70, hs133⟩
                have hq7 : k7 ≤ l.length ∧ ∀ i, i < k7 → ear1 row (l.getD i7 dCall) (placeI (l.getD i7 dCall) row) (l.getD i dCall) = false := hq70
                have hs134 : St w0 ((Cel p53 (arrP #[vp q54 0] LastV.cells ((trun (row.take row.length)).1) #[.int .u64 (row.length : Nat)]) 111) :: (Cel q54 #[.slice arr ((lst (trun (row.take row.length)).2).length) crr] 105) :: (Sl arr crr 142 2 ItemV.cells (lst (trun (row.take row.length)).2)) :: (Sl ra rc 51 2 RepV.cells (repL row row.length)) :: (Sl da dc 4 1 boolC (donL row row.length)) :: L) w132 := hs133
                refine GoC.slots (S' := [(0, vl ab127 ao128 l.length cl), (1, .slice ar row.length cr), (22, .int .i64 (i7 : Nat)), (23, .int .i64 (placeI (l.getD i7 dCall) row)), (24, .int .i64 (k7 : Nat))]) rfl ?_
                refine GoC.seq (GoC.seq ?_)
                refine GoC.join (T := Unit) (E := fun _ => [(198, .bool ((decide (((k7 : Nat) : Int) < (l.length : Nat))) && (decide ((placeI (l.getD i7 dCall) row : Int) ≥ 0)))), (0, vl ab127 ao128 l.length cl), (1, .slice ar row.length cr), (22, .int .i64 (i7 : Nat)), (23, .int .i64 (placeI (l.getD i7 dCall) row)), (24, .int .i64 (k7 : Nat))]) (F := fun _ w => St w0 ((Cel p53 (arrP #[vp q54 0] LastV.cells ((trun (row.take row.length)).1) #[.int .u64 (row.length : Nat)]) 111) :: (Cel q54 #[.slice arr ((lst (trun (row.take row.length)).2).length) crr] 105) :: (Sl arr crr 142 2 ItemV.cells (lst (trun (row.take row.length)).2)) :: (Sl ra rc 51 2 RepV.cells (repL row row.length)) :: (Sl da dc 4 1 boolC (donL row row.length)) :: L) w) ?_ ?_
                · refine Xt (.rd 0 (.rd 1 (.rd 2 (.rd 3 (.rd 4 (.rd 5 (.rd 6 (.rd 7 .done)))))))) ?_
                  refine Xk [(0, .gen []), (1, .gen []), (2, .gen []), (3, .gen []), (4, .gen [])] [] [(195, .bool (decide (((k7 : Nat) : Int) < (l.length : Nat)))), (0, vl ab127 ao128 l.length cl), (1, .slice ar row.length cr), (22, .int .i64 (i7 : Nat)), (23, .int .i64 (placeI (l.getD i7 dCall) row)), (24, .int .i64 (k7 : Nat))] ak0 ?_
                  rcases Bool.eq_false_or_eq_true (decide (((k7 : Nat) : Int) < (l.length : Nat))) with h135 | h135
                  · refine Xs 195 true h135 ?_
                    have h135' : ((k7 : Nat) : Int) < (l.length : Nat) := of_decide_eq_true h135
                    refine Xk [(5, .gen []), (6, .gen []), (7, .gen [])] [] [(198, .bool (decide ((placeI (l.getD i7 dCall) row : Int) ≥ 0))), (0, vl ab127 ao128 l.length cl), (1, .slice ar row.length cr), (22, .int .i64 (i7 : Nat)), (23, .int .i64 (placeI (l.getD i7 dCall) row)), (24, .int .i64 (k7 : Nat))] ak0 ?_
                    refine GoR.done ?_
                    refine GoQ.pick [198, 0, 1, 22, 23, 24] (S' := [(198, .bool (decide ((placeI (l.getD i7 dCall) row : Int) ≥ 0))), (0, vl ab127 ao128 l.length cl), (1, .slice ar row.length cr), (22, .int .i64 (i7 : Nat)), (23, .int .i64 (placeI (l.getD i7 dCall) row)), (24, .int .i64 (k7 : Nat))]) (by kernel_rfl) ?_
                    exact GoQ.meet1 () (by first | rfl | (simp only [h135, Bool.not_true, Bool.not_false, Bool.true_or, Bool.false_or, Bool.true_and, Bool.false_and, Bool.or_true, Bool.or_false, Bool.and_true, Bool.and_false]; done) | (simp [h135]; done)) hs134
                  · refine Xs 195 false h135 ?_
                    have h135' : ¬ (((k7 : Nat) : Int) < (l.length : Nat)) := of_decide_eq_false h135
                    refine Xk [(5, .gen []), (6, .gen []), (7, .gen [])] [] [(198, .bool false), (0, vl ab127 ao128 l.length cl), (1, .slice ar row.length cr), (22, .int .i64 (i7 : Nat)), (23, .int .i64 (placeI (l.getD i7 dCall) row)), (24, .int .i64 (k7 : Nat))] ak0 ?_
                    refine GoR.done ?_
                    refine GoQ.pick [198, 0, 1, 22, 23, 24] (S' := [(198, .bool false), (0, vl ab127 ao128 l.length cl), (1, .slice ar row.length cr), (22, .int .i64 (i7 : Nat)), (23, .int .i64 (placeI (l.getD i7 dCall) row)), (24, .int .i64 (k7 : Nat))]) (by kernel_rfl) ?_
                    exact GoQ.meet1 () (by first | rfl | (simp only [h135, Bool.not_true, Bool.not_false, Bool.true_or, Bool.false_or, Bool.true_and, Bool.false_and, Bool.or_true, Bool.or_false, Bool.and_true, Bool.and_false]; done) | (simp [h135]; done)) hs134
                intro _ w136 hs137
                refine GoQ.thn ?_
                refine Xc (t := (decide (((k7 : Nat) : Int) < (l.length : Nat))) && (decide ((placeI (l.getD i7 dCall) row : Int) ≥ 0))) (fun h138 => ?_) (fun h138 => ?_)
                · have h138a : (decide (((k7 : Nat) : Int) < (l.length : Nat))) = true := (Bool.and_eq_true_iff.1 h138).1
                  have h138a' : ((k7 : Nat) : Int) < (l.length : Nat) := of_decide_eq_true h138a
                  have h138b : (decide ((placeI (l.getD i7 dCall) row : Int) ≥ 0)) = true := (Bool.and_eq_true_iff.1 h138).2
                  have h138b' : (placeI (l.getD i7 dCall) row : Int) ≥ 0 := of_decide_eq_true h138b
                  have hk7 : k7 < l.length := by have hz := (Bool.and_eq_true_iff.1 h138).1; have hz2 := of_decide_eq_true hz; omega
                  have hpp : 0 ≤ placeI (l.getD i7 dCall) row := of_decide_eq_true (Bool.and_eq_true_iff.1 h138).2
                  refine GoC.skip (GoQ.thn (GoC.seq (GoC.block (GoC.seq ?_))))
                  refine GoC.regD [0, 0, 3, 7, 15, 31, 63, 63, 255, 511, 1023, 63, 63, 6207, 14399, 30783, 65535, 131071, 262143, 524287, 524287, 2097151, 4194303, 524287, 16777215, 524287, 67108863, 134217727] (.rd 0 (.rd 1 (.rd 2 (.rd 3 (.rd 4 (.rd 5 (.rd 6 (.rd 7 (.rd 8 (.rd 9 (.rd 10 (.rd 11 (.rd 12 (.rd 13 (.rd 14 (.rd 15 (.rd 16 (.rd 17 (.rd 18 (.rd 19 (.rd 20 (.rd 21 (.rd 22 (.rd 23 (.rd 25 (.ef 24 (.rd 26 (.rd 27 .done)))))))))))))))))))))))))))) (by kernel_rfl) (by kernel_rfl) noPan_body (by kernel_rfl) hs137 ?_
                  intro w139 hs140 hw141
                  refine Xk [(0, .gen []), (1, .gen []), (2, .as_ (vp ab127 (ao128 + (k7 * 13))) .at_), (3, .gen []), (4, .gen [.bool ((l.getD k7 dCall).done)]), (5, .gen [])] [(2, [.prop (0 ≤ ((k7 : Nat) : Int) ∧ ((k7 : Nat) : Int) < ((l.length : Nat) : Int)), .prop (Value.pointer (some (Addr.add ⟨ab127, ao128, none⟩ (Int.toNat (k7 : Nat) * 13))) = Value.pointer (some ⟨ab127, ao128 + (k7 * 13), none⟩))]), (4, [.cell ⟨ab127, ao128 + (k7 * 13) + 10, none⟩ (.bool ((l.getD k7 dCall).done))])] [(206, .bool ((l.getD k7 dCall).done)), (0, vl ab127 ao128 l.length cl), (1, .slice ar row.length cr), (22, .int .i64 (i7 : Nat)), (23, .int .i64 (placeI (l.getD i7 dCall) row)), (24, .int .i64 (k7 : Nat))] (ak (okp (by omega) (okp (ptrAdd _ _ _) ok0)) (ak (okc (RowsAt.at0 (hr1 _ (hs140.drop 5)) (k := k7) (by first | omega | (simp only [List.length_set]; omega) | (simp only [List.length_set, List.length_append, List.length_cons, List.length_nil]; omega)) (j := 10) (by decide) (by kernel_rfl)) ok0) ak0)) ?_
                  rcases Bool.eq_false_or_eq_true ((l.getD k7 dCall).done) with h142 | h142
                  · refine Xs 206 true h142 ?_
                    refine Xk [(6, .gen []), (7, .gen []), (8, .as_ (vp ab127 (ao128 + (k7 * 13))) .at_), (9, .gen []), (10, .gen [.int .u64 ((l.getD k7 dCall).to_)]), (11, .gen []), (12, .gen []), (13, .as_ (vp ab127 (ao128 + (i7 * 13))) .at_), (14, .gen []), (15, .gen [.int .u64 ((l.getD i7 dCall).from_)]), (16, .gen []), (17, .gen []), (18, .gen [])] [(8, [.prop (0 ≤ ((k7 : Nat) : Int) ∧ ((k7 : Nat) : Int) < ((l.length : Nat) : Int)), .prop (Value.pointer (some (Addr.add ⟨ab127, ao128, none⟩ (Int.toNat (k7 : Nat) * 13))) = Value.pointer (some ⟨ab127, ao128 + (k7 * 13), none⟩))]), (10, [.cell ⟨ab127, ao128 + (k7 * 13) + 9, none⟩ (.int .u64 ((l.getD k7 dCall).to_))]), (13, [.prop (0 ≤ ((i7 : Nat) : Int) ∧ ((i7 : Nat) : Int) < ((l.length : Nat) : Int)), .prop (Value.pointer (some (Addr.add ⟨ab127, ao128, none⟩ (Int.toNat (i7 : Nat) * 13))) = Value.pointer (some ⟨ab127, ao128 + (i7 * 13), none⟩))]), (15, [.cell ⟨ab127, ao128 + (i7 * 13) + 8, none⟩ (.int .u64 ((l.getD i7 dCall).from_))])] [(219, .bool (decide (((l.getD k7 dCall).to_ : Int) < ((l.getD i7 dCall).from_)))), (0, vl ab127 ao128 l.length cl), (1, .slice ar row.length cr), (22, .int .i64 (i7 : Nat)), (23, .int .i64 (placeI (l.getD i7 dCall) row)), (24, .int .i64 (k7 : Nat))] (ak (okp (by omega) (okp (ptrAdd _ _ _) ok0)) (ak (okc (RowsAt.at0 (hr1 _ (hs140.drop 5)) (k := k7) (by first | omega | (simp only [List.length_set]; omega) | (simp only [List.length_set, List.length_append, List.length_cons, List.length_nil]; omega)) (j := 9) (by decide) (by kernel_rfl)) ok0) (ak (okp (by omega) (okp (ptrAdd _ _ _) ok0)) (ak (okc (RowsAt.at0 (hr1 _ (hs140.drop 5)) (k := i7) (by first | omega | (simp only [List.length_set]; omega) | (simp only [List.length_set, List.length_append, List.length_cons, List.length_nil]; omega)) (j := 8) (by decide) (by kernel_rfl)) ok0) ak0)))) ?_
                    rcases Bool.eq_false_or_eq_true (decide (((l.getD k7 dCall).to_ : Int) < ((l.getD i7 dCall).from_))) with h143 | h143
                    · refine Xs 219 true h143 ?_
                      have h143' : ((l.getD k7 dCall).to_ : Int) < ((l.getD i7 dCall).from_) := of_decide_eq_true h143
                      refine Xk [(19, .gen []), (20, .gen []), (21, .as_ (vp ab127 (ao128 + (k7 * 13))) .at_), (22, .agg (CallV.cells (l.getD k7 dCall))), (23, .gen []), (25, .gen [])] [(21, [.prop (0 ≤ ((k7 : Nat) : Int) ∧ ((k7 : Nat) : Int) < ((l.length : Nat) : Int)), .prop (Value.pointer (some (Addr.add ⟨ab127, ao128, none⟩ (Int.toNat (k7 : Nat) * 13))) = Value.pointer (some ⟨ab127, ao128 + (k7 * 13), none⟩))]), (22, [.prop (Array.size (CallV.cells (l.getD k7 dCall)) = 13), .cells ⟨ab127, ao128 + (k7 * 13), none⟩ (CallV.cells (l.getD k7 dCall))])] [(226, .int .i64 (placeI (l.getD i7 dCall) row)), (224, .slice ar row.length cr), (223, .agg (CallV.cells (l.getD k7 dCall))), (219, .bool true), (0, vl ab127 ao128 l.length cl), (1, .slice ar row.length cr), (22, .int .i64 (i7 : Nat)), (23, .int .i64 (placeI (l.getD i7 dCall) row)), (24, .int .i64 (k7 : Nat))] (ak (okp (by omega) (okp (ptrAdd _ _ _) ok0)) (ak (okp (by kernel_rfl) (oka (RowsAt.all0 (hr1 _ (hs140.drop 5)) (by first | omega | (simp only [List.length_set]; omega) | (simp only [List.length_set, List.length_append, List.length_cons, List.length_nil]; omega)) (Nat.le_of_ble_eq_true (by kernel_rfl)) (by kernel_rfl)) ok0)) ak0)) ?_
                      refine Xa (f := 32) (args := #[.agg (CallV.cells (l.getD k7 dCall)), .slice ar row.length cr]) Tryz.call32 (rplace_spec row (l.getD k7 dCall) (by omega) (fun w h => hr2 _ (h.drop 5)) hs140) ?_
                      rintro v145 w146 ⟨rfl, hs144⟩
                      refine ⟨Xo, ?_⟩
                      refine Xk [(26, .gen []), (27, .gen [])] [] [(228, .bool (decide ((placeI (l.getD k7 dCall) row : Int) > (placeI (l.getD i7 dCall) row)))), (0, vl ab127 ao128 l.length cl), (1, .slice ar row.length cr), (22, .int .i64 (i7 : Nat)), (23, .int .i64 (placeI (l.getD i7 dCall) row)), (24, .int .i64 (k7 : Nat))] ak0 ?_
                      refine GoR.done (GoQ.thn ?_)
                      refine Xc (t := decide ((placeI (l.getD k7 dCall) row : Int) > (placeI (l.getD i7 dCall) row))) (fun h147 => ?_) (fun h147 => ?_)
                      · have h147' : (placeI (l.getD k7 dCall) row : Int) > (placeI (l.getD i7 dCall) row) := of_decide_eq_true h147
                        refine GoC.seq ?_
                        refine Xt (.rd 0 (.rd 1 (.rd 2 .done))) ?_
                        refine Xk [(0, .gen []), (1, .gen []), (2, .gen [])] [] [(5, .int .i64 (i7 : Nat)), (4, .int .i64 7), (0, vl ab127 ao128 l.length cl), (1, .slice ar row.length cr), (22, .int .i64 (i7 : Nat)), (23, .int .i64 (placeI (l.getD i7 dCall) row)), (24, .int .i64 (k7 : Nat))] ak0 ?_
                        refine GoR.done (GoQ.thn (GoC.ret (GoQ.blkR (GoQ.skipCR (GoQ.skipLR (GoQ.blkR (GoQ.blkR (GoQ.skipCR (GoQ.skipLR (GoQ.blkR (GoQ.skipCR ?_)))))))))))
                        refine X2 (v := .int .i64 7) (v' := .int .i64 (i7 : Nat)) ?_
                        have hs148 : St w0 (L) w146 := hs144.drop 5
                        exact ⟨(by rw [chk_at (j := 6) (i := i7) (by decide) hch6 (show look l row 6 = some i7 from idx_at hi7 (by rw [ear_eq hpp]; exact idx_is hk7 (by rw [ear1, aheadB, h142, h143]; exact h147)) hp7.2)]; rfl), hs148⟩
                      · have h147' : ¬ ((placeI (l.getD k7 dCall) row : Int) > (placeI (l.getD i7 dCall) row)) := of_decide_eq_false h147
                        refine GoC.skip (GoQ.blkN (GoQ.thn ?_))
                        refine Xt (.rd 0 (.rd 1 (.rd 2 .done))) ?_
                        refine Xk [(0, .gen []), (1, .as_ (.int .i64 ((k7 : Nat) + 1)) (.gen [])), (2, .gen [])] [(1, [.prop (Value.int .i64 (IntKind.i64.wrap ((k7 : Nat) + 1)) = Value.int .i64 ((k7 : Nat) + 1))])] [(24, .int .i64 ((k7 : Nat) + 1)), (0, vl ab127 ao128 l.length cl), (1, .slice ar row.length cr), (22, .int .i64 (i7 : Nat)), (23, .int .i64 (placeI (l.getD i7 dCall) row))] (ak (okp (i64ok (by omega) (by omega)) ok0) ak0) ?_
                        refine GoR.done ?_
                        exact GoQ.back (k7 + 1) [0, 1, 22, 23, 24] (by kernel_rfl) (by show l.length - (k7 + 1) < l.length - k7; omega) ⟨⟨by omega, none_step (p := fun i => ear1 row (l.getD i7 dCall) (placeI (l.getD i7 dCall) row) (l.getD i dCall)) hq7.2 (by rw [ear1, aheadB, h142, h143]; exact h147)⟩, hs144⟩
                    · refine Xs 219 false h143 ?_
                      have h143' : ¬ (((l.getD k7 dCall).to_ : Int) < ((l.getD i7 dCall).from_)) := of_decide_eq_false h143
                      refine Xk [(19, .gen []), (20, .gen []), (21, .gen []), (22, .gen []), (23, .gen []), (25, .gen [])] [] [(226, undef), (224, undef), (223, undef), (219, .bool false), (0, vl ab127 ao128 l.length cl), (1, .slice ar row.length cr), (22, .int .i64 (i7 : Nat)), (23, .int .i64 (placeI (l.getD i7 dCall) row)), (24, .int .i64 (k7 : Nat))] ak0 ?_
                      refine GoR.skip rfl (by kernel_rfl) Xo ?_
                      refine Xk [(26, .gen []), (27, .gen [])] [] [(228, .bool false), (0, vl ab127 ao128 l.length cl), (1, .slice ar row.length cr), (22, .int .i64 (i7 : Nat)), (23, .int .i64 (placeI (l.getD i7 dCall) row)), (24, .int .i64 (k7 : Nat))] ak0 ?_
                      refine GoR.done (GoQ.thn (XF (GoC.skip (GoQ.blkN (GoQ.thn ?_)))))
                      refine Xt (.rd 0 (.rd 1 (.rd 2 .done))) ?_
                      refine Xk [(0, .gen []), (1, .as_ (.int .i64 ((k7 : Nat) + 1)) (.gen [])), (2, .gen [])] [(1, [.prop (Value.int .i64 (IntKind.i64.wrap ((k7 : Nat) + 1)) = Value.int .i64 ((k7 : Nat) + 1))])] [(24, .int .i64 ((k7 : Nat) + 1)), (0, vl ab127 ao128 l.length cl), (1, .slice ar row.length cr), (22, .int .i64 (i7 : Nat)), (23, .int .i64 (placeI (l.getD i7 dCall) row))] (ak (okp (i64ok (by omega) (by omega)) ok0) ak0) ?_
                      refine GoR.done ?_
                      exact GoQ.back (k7 + 1) [0, 1, 22, 23, 24] (by kernel_rfl) (by show l.length - (k7 + 1) < l.length - k7; omega) ⟨⟨by omega, none_step (p := fun i => ear1 row (l.getD i7 dCall) (placeI (l.getD i7 dCall) row) (l.getD i dCall)) hq7.2 (by rw [ear1, aheadB, h142, h143]; rfl)⟩, hs140⟩
                  · refine Xs 206 false h142 ?_
                    refine Xk [(6, .gen []), (7, .gen []), (8, .gen []), (9, .gen []), (10, .gen []), (11, .gen []), (12, .gen []), (13, .gen []), (14, .gen []), (15, .gen []), (16, .gen []), (17, .gen []), (18, .gen []), (19, .gen []), (20, .gen []), (21, .gen []), (22, .gen []), (23, .gen []), (25, .gen [])] [] [(226, undef), (224, undef), (223, undef), (219, .bool false), (0, vl ab127 ao128 l.length cl), (1, .slice ar row.length cr), (22, .int .i64 (i7 : Nat)), (23, .int .i64 (placeI (l.getD i7 dCall) row)), (24, .int .i64 (k7 : Nat))] ak0 ?_
                    refine GoR.skip rfl (by kernel_rfl) Xo ?_
                    refine Xk [(26, .gen []), (27, .gen [])] [] [(228, .bool false), (0, vl ab127 ao128 l.length cl), (1, .slice ar row.length cr), (22, .int .i64 (i7 : Nat)), (23, .int .i64 (placeI (l.getD i7 dCall) row)), (24, .int .i64 (k7 : Nat))] ak0 ?_
                    refine GoR.done (GoQ.thn (XF (GoC.skip (GoQ.blkN (GoQ.thn ?_)))))
                    refine Xt (.rd 0 (.rd 1 (.rd 2 .done))) ?_
                    refine Xk [(0, .gen []), (1, .as_ (.int .i64 ((k7 : Nat) + 1)) (.gen [])), (2, .gen [])] [(1, [.prop (Value.int .i64 (IntKind.i64.wrap ((k7 : Nat) + 1)) = Value.int .i64 ((k7 : Nat) + 1))])] [(24, .int .i64 ((k7 : Nat) + 1)), (0, vl ab127 ao128 l.length cl), (1, .slice ar row.length cr), (22, .int .i64 (i7 : Nat)), (23, .int .i64 (placeI (l.getD i7 dCall) row))] (ak (okp (i64ok (by omega) (by omega)) ok0) ak0) ?_
                    refine GoR.done ?_
                    exact GoQ.back (k7 + 1) [0, 1, 22, 23, 24] (by kernel_rfl) (by show l.length - (k7 + 1) < l.length - k7; omega) ⟨⟨by omega, none_step (p := fun i => ear1 row (l.getD i7 dCall) (placeI (l.getD i7 dCall) row) (l.getD i dCall)) hq7.2 (by rw [ear1, aheadB, h142]; rfl)⟩, hs140⟩
                · refine GoC.exit (GoQ.skipC (GoQ.skipL (GoQ.hit (GoQ.blkN (GoQ.thn ?_)))))
                  refine Xt (.rd 0 (.rd 1 (.rd 2 .done))) ?_
                  refine Xk [(0, .gen []), (1, .as_ (.int .i64 ((i7 : Nat) + 1)) (.gen [])), (2, .gen [])] [(1, [.prop (Value.int .i64 (IntKind.i64.wrap ((i7 : Nat) + 1)) = Value.int .i64 ((i7 : Nat) + 1))])] [(22, .int .i64 ((i7 : Nat) + 1)), (0, vl ab127 ao128 l.length cl), (1, .slice ar row.length cr)] (ak (okp (i64ok (by omega) (by omega)) ok0) ak0) ?_
                  refine GoR.done ?_
                  exact GoQ.back (i7 + 1) [0, 1, 22] (by kernel_rfl) (by show l.length - (i7 + 1) < l.length - i7; omega) ⟨⟨by omega, none_step (p := fun i => earB l row (l.getD i dCall)) hp7.2 (by
                        by_cases hpp : 0 ≤ placeI (l.getD i7 dCall) row
                        · have hz := h138
                          rw [decide_eq_true (show placeI (l.getD i7 dCall) row ≥ 0 from hpp), Bool.and_true] at hz
                          have hz2 := of_decide_eq_false hz
                          rw [ear_eq hpp]
                          exact idx_no (fun i hi => hq7.2 i (by omega))
                        · exact ear_no hpp)⟩, hs137⟩
              · have h126' : ¬ (((i7 : Nat) : Int) < (l.length : Nat)) := of_decide_eq_false h126
                have hend : chkV l row = (0, 0) := chk_miss (j := 6) (by decide) hch6 (show (look l row 6).isSome = false from idx_no (fun i hi => hp7.2 i (by omega)))
                refine GoC.exit (GoQ.skipC (GoQ.skipL (GoQ.hit (GoQ.thn (GoC.seq ?_)))))
                refine Xt (.rd 0 (.rd 1 .done)) ?_
                refine Xk [(0, .gen []), (1, .gen [])] [] [(5, .int .i64 0), (4, .int .i64 0)] ak0 ?_
                refine GoR.done (GoQ.thn (GoC.ret ?_))
                refine X2 (v := .int .i64 0) (v' := .int .i64 0) ?_
                have hs149 : St w0 (L) w123 := hs125.drop 5
                exact ⟨(by rw [hend]), hs149⟩
end Go.Proofs.YtbmmknchcdhefaaGreatDoor
