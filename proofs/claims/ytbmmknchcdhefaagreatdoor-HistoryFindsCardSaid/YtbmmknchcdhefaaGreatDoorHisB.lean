/-
  Where a call stands in a row; the calls that overlap. Conditions: none beside each theorem's own.
-/
import Derived.Test.YtbmmknchcdhefaaGreatDoorSxT
import Derived.Test.YtbmmknchcdhefaaGreatDoorHisA
namespace Go.Proofs.YtbmmknchcdhefaaGreatDoor
open Go.RowKit Go.Sx
set_option linter.unusedVariables false
set_option linter.unusedSimpArgs false
set_option linter.unnecessarySimpa false
set_option maxRecDepth 100000
def placeI (c : CallV) (row : List ReqV) : Int := ixI (idx dReq row (ofB c))
theorem plIx_spec {w0 w : World} {L : List Asn} {ar : Option Addr} {cr : Nat} (row : List ReqV) (c : CallV) (hlen : row.length ≤ 1000000) (hr : ∀ w, St w0 L w → RowsAt w ar row.length 40 (fun k => ReqV.cells (row.getD k dReq))) (hs : St w0 (L) w) : Calls Tryz.prog 62 #[.slice ar row.length cr, .func (.func 49) #[.agg (CallV.cells c)] #[]] w (Ret fun rv w' => rv = .int .i64 (ixI (idx dReq row (ofB c))) ∧ St w0 (L) w') := by
  refine enter (args := [.slice ar row.length cr, .func (.func 49) #[.agg (CallV.cells c)] #[]]) Tryz.func62 rfl Tryz.ntmps62 (Nat.le_of_ble_eq_true (by kernel_rfl)) ?_
  refine GoC.slots (S' := [(0, .slice ar row.length cr), (1, .func (.func 49) #[.agg (CallV.cells c)] #[])]) rfl ?_
  refine GoC.seq ?_
  refine Xt (.rd 0 .done) ?_
  refine Xk [(0, .gen [])] [] [(4, .int .i64 0), (0, .slice ar row.length cr), (1, .func (.func 49) #[.agg (CallV.cells c)] #[])] ak0 ?_
  refine GoR.done (GoQ.thn (GoC.seq (GoC.seq ?_)))
  refine Xt (.rd 0 (.rd 1 (.rd 2 .done))) ?_
  refine Xk [(0, .gen []), (1, .gen []), (2, .gen [])] [] [(8, .int .i64 0), (7, .int .i64 (row.length : Nat)), (4, .int .i64 0), (0, .slice ar row.length cr), (1, .func (.func 49) #[.agg (CallV.cells c)] #[])] ak0 ?_
  refine GoR.done (GoQ.thn (GoC.block ?_))
  refine GoC.loop (T := Nat) (fun gg => [(0, .slice ar row.length cr), (1, .func (.func 49) #[.agg (CallV.cells c)] #[]), (7, .int .i64 (row.length : Nat)), (8, .int .i64 (gg : Nat))]) (fun gg w => (gg ≤ row.length ∧ ∀ z, z < gg → (ofB c) (row.getD z dReq) = false) ∧ St w0 (L) w) (fun gg => row.length - gg) 0 [0, 1, 7, 8] (by kernel_rfl) ⟨⟨Nat.zero_le _, fun i hi => absurd hi (Nat.not_lt_zero _)⟩, hs⟩ ?_
  rintro k w1 ⟨hp0, hs2⟩
  have hp : k ≤ row.length ∧ ∀ z, z < k → (ofB c) (row.getD z dReq) = false := hp0
  have hs3 : St w0 (L) w1 := hs2
  refine GoC.slots (S' := [(0, .slice ar row.length cr), (1, .func (.func 49) #[.agg (CallV.cells c)] #[]), (7, .int .i64 (row.length : Nat)), (8, .int .i64 (k : Nat))]) rfl ?_
  refine GoC.seq ?_
  refine Xt (.rd 0 .done) ?_
  refine Xk [(0, .gen [])] [] [(9, .bool (decide (((k : Nat) : Int) < (row.length : Nat)))), (0, .slice ar row.length cr), (1, .func (.func 49) #[.agg (CallV.cells c)] #[]), (7, .int .i64 (row.length : Nat)), (8, .int .i64 (k : Nat))] ak0 ?_
  refine GoR.done (GoQ.thn (GoC.seq ?_))
  refine Xc (t := decide (((k : Nat) : Int) < (row.length : Nat))) (fun h4 => ?_) (fun h4 => ?_)
  · have h4' : ((k : Nat) : Int) < (row.length : Nat) := of_decide_eq_true h4
    have hk : k < row.length := by omega
    obtain ⟨ab5, ao6, rfl⟩ := RowsAt.isSome (hr _ (hs3.drop 0)) (by omega)
    refine GoC.skip (GoQ.thn (GoC.seq (GoC.block (GoC.seq ?_))))
    refine Xt (.rd 0 (.rd 1 .done)) ?_
    refine Xk [(0, .gen []), (1, .gen [])] [] [(5, .int .i64 (k : Nat)), (0, vl ab5 ao6 row.length cr), (1, .func (.func 49) #[.agg (CallV.cells c)] #[]), (7, .int .i64 (row.length : Nat)), (8, .int .i64 (k : Nat))] ak0 ?_
    refine GoR.done (GoQ.thn (GoC.seq ?_))
    refine Xt (.rd 0 (.rd 1 (.rd 2 (.rd 3 (.rd 4 (.ef 5 .done)))))) ?_
    refine Xk [(0, .gen []), (1, .gen []), (2, .gen []), (3, .as_ (vp ab5 (ao6 + (k * 40))) .at_), (4, .agg (ReqV.cells (row.getD k dReq)))] [(3, [.prop (0 ≤ ((k : Nat) : Int) ∧ ((k : Nat) : Int) < ((row.length : Nat) : Int)), .prop (Value.pointer (some (Addr.add ⟨ab5, ao6, none⟩ (Int.toNat (k : Nat) * 40))) = Value.pointer (some ⟨ab5, ao6 + (k * 40), none⟩))]), (4, [.prop (Array.size (ReqV.cells (row.getD k dReq)) = 40), .cells ⟨ab5, ao6 + (k * 40), none⟩ (ReqV.cells (row.getD k dReq))])] [(15, .agg (ReqV.cells (row.getD k dReq))), (11, .func (.func 49) #[.agg (CallV.cells c)] #[]), (5, .int .i64 (k : Nat)), (0, vl ab5 ao6 row.length cr), (1, .func (.func 49) #[.agg (CallV.cells c)] #[]), (7, .int .i64 (row.length : Nat)), (8, .int .i64 (k : Nat))] (ak (okp (by omega) (okp (ptrAdd _ _ _) ok0)) (ak (okp (by kernel_rfl) (oka (RowsAt.all0 (hr _ (hs3.drop 0)) (by first | omega | (simp only [List.length_set]; omega) | (simp only [List.length_set, List.length_append, List.length_cons, List.length_nil]; omega)) (Nat.le_of_ble_eq_true (by kernel_rfl)) (by kernel_rfl)) ok0)) ak0)) ?_
    refine Xa (f := 49) (args := #[.agg (CallV.cells c), .agg (ReqV.cells (row.getD k dReq))]) Tryz.call49 (of_spec c (row.getD k dReq) hs3) ?_
    rintro v8 w9 ⟨rfl, hs7⟩
    refine ⟨Xo, ?_⟩
    refine GoR.done (GoQ.thn ?_)
    refine Xc (t := ofB c (row.getD k dReq)) (fun h10 => ?_) (fun h10 => ?_)
    · refine GoC.seq ?_
      refine Xt (.rd 0 (.rd 1 .done)) ?_
      refine Xk [(0, .gen []), (1, .gen [])] [] [(4, .int .i64 (k : Nat)), (0, vl ab5 ao6 row.length cr), (1, .func (.func 49) #[.agg (CallV.cells c)] #[]), (7, .int .i64 (row.length : Nat)), (8, .int .i64 (k : Nat))] ak0 ?_
      refine GoR.done (GoQ.thn (GoC.ret (GoQ.blkR (GoQ.skipCR (GoQ.skipLR (GoQ.blkR (GoQ.skipCR ?_)))))))
      refine X1 (v := .int .i64 (k : Nat)) ?_
      exact ⟨(by rw [idx_at (d := dReq) (p := ofB c) hk (show (ofB c) (row.getD k dReq) = true from h10) hp.2]; rfl), hs7⟩
    · refine GoC.skip (GoQ.blkN (GoQ.thn ?_))
      refine Xt (.rd 0 (.rd 1 .done)) ?_
      refine Xk [(0, .as_ (.int .i64 ((k : Nat) + 1)) (.gen [])), (1, .gen [])] [(0, [.prop (Value.int .i64 (IntKind.i64.wrap ((k : Nat) + 1)) = Value.int .i64 ((k : Nat) + 1))])] [(8, .int .i64 ((k : Nat) + 1)), (0, vl ab5 ao6 row.length cr), (1, .func (.func 49) #[.agg (CallV.cells c)] #[]), (7, .int .i64 (row.length : Nat))] (ak (okp (i64ok (by omega) (by omega)) ok0) ak0) ?_
      refine GoR.done ?_
      exact GoQ.back (k + 1) [0, 1, 7, 8] (by kernel_rfl) (by show row.length - (k + 1) < row.length - k; omega) ⟨⟨by omega, none_step (p := fun z => (ofB c) (row.getD z dReq)) hp.2 (show (ofB c) (row.getD k dReq) = false from h10)⟩, hs7⟩
  · have h4' : ¬ (((k : Nat) : Int) < (row.length : Nat)) := of_decide_eq_false h4
    refine GoC.exit (GoQ.skipC (GoQ.skipL (GoQ.hit (GoQ.thn (GoC.seq ?_)))))
    refine Xt (.rd 0 .done) ?_
    refine Xk [(0, .gen [])] [] [(4, .int .i64 (-1))] ak0 ?_
    refine GoR.done (GoQ.thn (GoC.ret ?_))
    refine X1 (v := .int .i64 (-1)) ?_
    exact ⟨(by rw [idx_none (d := dReq) (l := row) (p := ofB c) (fun i hi => hp.2 i (by omega))]; rfl), hs3⟩
theorem place_spec {w0 w : World} {L : List Asn} {x : Nat} {al : Option Addr} {cl : Nat} {ar : Option Addr} {cr : Nat} (l : List CallV) (row : List ReqV) (c : CallV) (hll : l.length ≤ 1000000) (hrr : row.length ≤ 1000000) (hr1 : ∀ w, St w0 L w → RowsAt w al l.length 13 (fun k => CallV.cells (l.getD k dCall))) (hr2 : ∀ w, St w0 L w → RowsAt w ar row.length 40 (fun k => ReqV.cells (row.getD k dReq))) (hs : St w0 ((Cel x #[.slice al l.length cl, .slice ar row.length cr] 64) :: L) w) : Calls Tryz.prog 52 #[vp x 0, .agg (CallV.cells c)] w (Ret fun rv w' => rv = .int .i64 (placeI c row) ∧ St w0 ((Cel x #[.slice al l.length cl, .slice ar row.length cr] 64) :: L) w') := by
  refine enter (args := [vp x 0, .agg (CallV.cells c)]) Tryz.func52 rfl Tryz.ntmps52 (Nat.le_of_ble_eq_true (by kernel_rfl)) ?_
  refine GoC.slots (S' := [(0, vp x 0), (1, .agg (CallV.cells c))]) rfl ?_
  refine GoC.seq ?_
  refine Xt (.ef 0 (.rd 1 .done)) ?_
  refine GoR.box rfl rfl (by kernel_rfl) (v := .agg (CallV.cells c)) (by kernel_rfl) hs (cs := CallV.cells c) (by kernel_rfl) ?_
  intro b1 w2 hs3
  refine ⟨Xo, ?_⟩
  refine Xk [(1, .gen [])] [] [(4, .int .i64 0), (3, vp b1 0), (0, vp x 0)] ak0 ?_
  refine GoR.done (GoQ.thn (GoC.seq ?_))
  refine GoC.regD [0, 1, 3, 7, 0, 16, 63, 127] (.rd 0 (.rd 1 (.rd 2 (.rd 3 (.rd 4 (.rd 5 (.ef 6 (.rd 7 .done)))))))) (by kernel_rfl) (by kernel_rfl) noPan_body (by kernel_rfl) hs3 ?_
  intro w4 hs5 hw6
  refine Xk [(0, .gen []), (1, .gen []), (2, .gen []), (3, .gen [.slice ar row.length cr]), (4, .agg (CallV.cells c)), (5, .gen [])] [(3, [.cell ⟨x, 1, none⟩ (.slice ar row.length cr)]), (4, [.prop (Array.size (CallV.cells c) = 13), .cells ⟨b1, 0, none⟩ (CallV.cells c)])] [(10, .func (.func 49) #[.agg (CallV.cells c)] #[]), (8, .slice ar row.length cr), (4, .int .i64 0)] (ak (okc (hs5.cell 1 rfl (by kernel_rfl)) ok0) (ak (okp (by kernel_rfl) (oka (hs5.cells 0 0 rfl (by kernel_rfl)) ok0)) ak0)) ?_
  refine Xa (f := 62) (args := #[.slice ar row.length cr, .func (.func 49) #[.agg (CallV.cells c)] #[]]) Tryz.call62 (plIx_spec row c (by omega) (fun w h => hr2 _ (h.drop 2)) hs5) ?_
  rintro v8 w9 ⟨rfl, hs7⟩
  refine ⟨Xo, ?_⟩
  refine Xk [(7, .gen [])] [] [(4, .int .i64 (ixI (idx dReq row (ofB c))))] ak0 ?_
  refine GoR.done (GoQ.thn (GoC.ret ?_))
  refine X1 (v := .int .i64 (ixI (idx dReq row (ofB c)))) ?_
  have hs10 : St w0 ((Cel x #[.slice al l.length cl, .slice ar row.length cr] 64) :: L) w9 := hs7.drop 1
  exact ⟨rfl, hs10⟩
def over1 (c : CallV) (d : CallV) : Bool :=
  if ((d.client : Int) == c.client) = true then
    if (decide ((d.time : Int) < c.time)) = true then
      !(aheadB d c)
    else
      false
  else
    false
theorem over1_spec {w0 w : World} {L : List Asn} {bc : Nat} (c : CallV) (d : CallV) (hs : St w0 ((Cel bc (CallV.cells c) 53) :: L) w) : Calls Tryz.prog 45 #[.agg (CallV.cells d), vp bc 0] w (Ret fun rv w' => rv = .bool (over1 c d) ∧ St w0 ((Cel bc (CallV.cells c) 53) :: L) w') := by
  refine enter (args := [.agg (CallV.cells d), vp bc 0]) Tryz.func45 rfl Tryz.ntmps45 (Nat.le_of_ble_eq_true (by kernel_rfl)) ?_
  refine GoC.slots (S' := [(0, .agg (CallV.cells d)), (1, vp bc 0)]) rfl ?_
  refine GoC.seq ?_
  refine Xt (.ef 0 (.rd 1 .done)) ?_
  refine GoR.box rfl rfl (by kernel_rfl) (v := .agg (CallV.cells d)) (by kernel_rfl) hs (cs := CallV.cells d) (by kernel_rfl) ?_
  intro b1 w2 hs3
  refine ⟨Xo, ?_⟩
  refine Xk [(1, .gen [])] [] [(3, .bool false), (2, vp b1 0), (1, vp bc 0)] ak0 ?_
  refine GoR.done (GoQ.thn (GoC.seq ?_))
  refine Xt (.rd 0 (.rd 1 (.rd 2 (.rd 3 (.rd 4 (.rd 5 (.rd 6 (.rd 7 (.rd 8 (.rd 9 (.rd 10 (.rd 11 (.rd 12 (.rd 13 (.rd 14 (.ef 15 (.rd 16 (.rd 17 (.rd 18 .done))))))))))))))))))) ?_
  refine Xk [(0, .gen []), (1, .gen [.int .i64 d.client]), (2, .gen []), (3, .gen [.int .i64 c.client]), (4, .gen []), (5, .gen [])] [(1, [.cell ⟨b1, 0, none⟩ (.int .i64 d.client)]), (3, [.cell ⟨bc, 0, none⟩ (.int .i64 c.client)])] [(9, .bool ((d.client : Int) == c.client)), (3, .bool false), (2, vp b1 0), (1, vp bc 0)] (ak (okc (hs3.cell 0 rfl (by kernel_rfl)) ok0) (ak (okc (hs3.cell 1 rfl (by kernel_rfl)) ok0) ak0)) ?_
  rcases Bool.eq_false_or_eq_true ((d.client : Int) == c.client) with h4 | h4
  · refine Xs 9 true h4 ?_
    have h4' : (d.client : Int) = c.client := ieqT h4
    refine Xk [(6, .gen []), (7, .gen [.int .u64 d.time]), (8, .gen []), (9, .gen [.int .u64 c.time]), (10, .gen []), (11, .gen []), (12, .gen [])] [(7, [.cell ⟨b1, 1, none⟩ (.int .u64 d.time)]), (9, [.cell ⟨bc, 1, none⟩ (.int .u64 c.time)])] [(16, .bool (decide ((d.time : Int) < c.time))), (3, .bool false), (2, vp b1 0), (1, vp bc 0)] (ak (okc (hs3.cell 0 rfl (by kernel_rfl)) ok0) (ak (okc (hs3.cell 1 rfl (by kernel_rfl)) ok0) ak0)) ?_
    rcases Bool.eq_false_or_eq_true (decide ((d.time : Int) < c.time)) with h5 | h5
    · refine Xs 16 true h5 ?_
      have h5' : (d.time : Int) < c.time := of_decide_eq_true h5
      refine Xk [(13, .agg (CallV.cells d)), (14, .agg (CallV.cells c))] [(13, [.prop (Array.size (CallV.cells d) = 13), .cells ⟨b1, 0, none⟩ (CallV.cells d)]), (14, [.prop (Array.size (CallV.cells c) = 13), .cells ⟨bc, 0, none⟩ (CallV.cells c)])] [(18, .agg (CallV.cells c)), (17, .agg (CallV.cells d)), (16, .bool true), (3, .bool false)] (ak (okp (by kernel_rfl) (oka (hs3.cells 0 0 rfl (by kernel_rfl)) ok0)) (ak (okp (by kernel_rfl) (oka (hs3.cells 1 0 rfl (by kernel_rfl)) ok0)) ak0)) ?_
      refine Xa (f := 46) (args := #[.agg (CallV.cells d), .agg (CallV.cells c)]) Tryz.call46 (aheadB_spec d c  hs3) ?_
      rintro v7 w8 ⟨rfl, hs6⟩
      refine ⟨Xo, ?_⟩
      refine Xk [(16, .gen []), (17, .gen []), (18, .gen [])] [] [(3, .bool (!(aheadB d c)))] ak0 ?_
      refine GoR.done (GoQ.thn (GoC.ret ?_))
      refine X1 (v := .bool (!(aheadB d c))) ?_
      have hr : over1 c d = !(aheadB d c) := by rw [over1, if_pos h4, if_pos h5]
      have hs9 : St w0 ((Cel bc (CallV.cells c) 53) :: L) w8 := hs6.drop 1
      exact ⟨(by first | rfl | (rw [hr]; done) | (rw [hr]; rfl)), (by first | exact hs9 | (rw [hr]; exact hs9))⟩
    · refine Xs 16 false h5 ?_
      have h5' : ¬ ((d.time : Int) < c.time) := of_decide_eq_false h5
      refine Xk [(13, .gen []), (14, .gen [])] [] [(18, undef), (17, undef), (16, .bool false), (3, .bool false)] ak0 ?_
      refine GoR.skip rfl (by kernel_rfl) Xo ?_
      refine Xk [(16, .gen []), (17, .gen []), (18, .gen [])] [] [(3, .bool false)] ak0 ?_
      refine GoR.done (GoQ.thn (GoC.ret ?_))
      refine X1 (v := .bool false) ?_
      have hr : over1 c d = false := by rw [over1, if_pos h4, if_neg (ne_true_of_eq_false h5)]
      have hs10 : St w0 ((Cel bc (CallV.cells c) 53) :: L) w2 := hs3.drop 1
      exact ⟨(by first | rfl | (rw [hr]; done) | (rw [hr]; rfl)), (by first | exact hs10 | (rw [hr]; exact hs10))⟩
  · refine Xs 9 false h4 ?_
    have h4' : ¬ ((d.client : Int) = c.client) := ieqF h4
    refine Xk [(6, .gen []), (7, .gen []), (8, .gen []), (9, .gen []), (10, .gen []), (11, .gen []), (12, .gen []), (13, .gen []), (14, .gen [])] [] [(18, undef), (17, undef), (16, .bool false), (3, .bool false)] ak0 ?_
    refine GoR.skip rfl (by kernel_rfl) Xo ?_
    refine Xk [(16, .gen []), (17, .gen []), (18, .gen [])] [] [(3, .bool false)] ak0 ?_
    refine GoR.done (GoQ.thn (GoC.ret ?_))
    refine X1 (v := .bool false) ?_
    have hr : over1 c d = false := by rw [over1, if_neg (ne_true_of_eq_false h4)]
    have hs11 : St w0 ((Cel bc (CallV.cells c) 53) :: L) w2 := hs3.drop 1
    exact ⟨(by first | rfl | (rw [hr]; done) | (rw [hr]; rfl)), (by first | exact hs11 | (rw [hr]; exact hs11))⟩
theorem ovIx_spec {w0 w : World} {L : List Asn} {al : Option Addr} {cl : Nat} {bc : Nat} (l : List CallV) (c : CallV) (hlen : l.length ≤ 1000000) (hr : ∀ w, St w0 L w → RowsAt w al l.length 13 (fun k => CallV.cells (l.getD k dCall))) (hs : St w0 ((Cel bc (CallV.cells c) 53) :: L) w) : Calls Tryz.prog 61 #[.slice al l.length cl, .func (.func 45) #[] #[vp bc 0]] w (Ret fun rv w' => rv = .int .i64 (ixI (idx dCall l (over1 c))) ∧ St w0 ((Cel bc (CallV.cells c) 53) :: L) w') := by
  refine enter (args := [.slice al l.length cl, .func (.func 45) #[] #[vp bc 0]]) Tryz.func61 rfl Tryz.ntmps61 (Nat.le_of_ble_eq_true (by kernel_rfl)) ?_
  refine GoC.slots (S' := [(0, .slice al l.length cl), (1, .func (.func 45) #[] #[vp bc 0])]) rfl ?_
  refine GoC.seq ?_
  refine Xt (.rd 0 .done) ?_
  refine Xk [(0, .gen [])] [] [(4, .int .i64 0), (0, .slice al l.length cl), (1, .func (.func 45) #[] #[vp bc 0])] ak0 ?_
  refine GoR.done (GoQ.thn (GoC.seq (GoC.seq ?_)))
  refine Xt (.rd 0 (.rd 1 (.rd 2 .done))) ?_
  refine Xk [(0, .gen []), (1, .gen []), (2, .gen [])] [] [(8, .int .i64 0), (7, .int .i64 (l.length : Nat)), (4, .int .i64 0), (0, .slice al l.length cl), (1, .func (.func 45) #[] #[vp bc 0])] ak0 ?_
  refine GoR.done (GoQ.thn (GoC.block ?_))
  refine GoC.loop (T := Nat) (fun gg => [(0, .slice al l.length cl), (1, .func (.func 45) #[] #[vp bc 0]), (7, .int .i64 (l.length : Nat)), (8, .int .i64 (gg : Nat))]) (fun gg w => (gg ≤ l.length ∧ ∀ z, z < gg → (over1 c) (l.getD z dCall) = false) ∧ St w0 ((Cel bc (CallV.cells c) 53) :: L) w) (fun gg => l.length - gg) 0 [0, 1, 7, 8] (by kernel_rfl) ⟨⟨Nat.zero_le _, fun i hi => absurd hi (Nat.not_lt_zero _)⟩, hs⟩ ?_
  rintro k w1 ⟨hp0, hs2⟩
  have hp : k ≤ l.length ∧ ∀ z, z < k → (over1 c) (l.getD z dCall) = false := hp0
  have hs3 : St w0 ((Cel bc (CallV.cells c) 53) :: L) w1 := hs2
  refine GoC.slots (S' := [(0, .slice al l.length cl), (1, .func (.func 45) #[] #[vp bc 0]), (7, .int .i64 (l.length : Nat)), (8, .int .i64 (k : Nat))]) rfl ?_
  refine GoC.seq ?_
  refine Xt (.rd 0 .done) ?_
  refine Xk [(0, .gen [])] [] [(9, .bool (decide (((k : Nat) : Int) < (l.length : Nat)))), (0, .slice al l.length cl), (1, .func (.func 45) #[] #[vp bc 0]), (7, .int .i64 (l.length : Nat)), (8, .int .i64 (k : Nat))] ak0 ?_
  refine GoR.done (GoQ.thn (GoC.seq ?_))
  refine Xc (t := decide (((k : Nat) : Int) < (l.length : Nat))) (fun h4 => ?_) (fun h4 => ?_)
  · have h4' : ((k : Nat) : Int) < (l.length : Nat) := of_decide_eq_true h4
    have hk : k < l.length := by omega
    obtain ⟨ab5, ao6, rfl⟩ := RowsAt.isSome (hr _ (hs3.drop 1)) (by omega)
    refine GoC.skip (GoQ.thn (GoC.seq (GoC.block (GoC.seq ?_))))
    refine Xt (.rd 0 (.rd 1 .done)) ?_
    refine Xk [(0, .gen []), (1, .gen [])] [] [(5, .int .i64 (k : Nat)), (0, vl ab5 ao6 l.length cl), (1, .func (.func 45) #[] #[vp bc 0]), (7, .int .i64 (l.length : Nat)), (8, .int .i64 (k : Nat))] ak0 ?_
    refine GoR.done (GoQ.thn (GoC.seq ?_))
    refine Xt (.rd 0 (.rd 1 (.rd 2 (.rd 3 (.rd 4 (.ef 5 .done)))))) ?_
    refine Xk [(0, .gen []), (1, .gen []), (2, .gen []), (3, .as_ (vp ab5 (ao6 + (k * 13))) .at_), (4, .agg (CallV.cells (l.getD k dCall)))] [(3, [.prop (0 ≤ ((k : Nat) : Int) ∧ ((k : Nat) : Int) < ((l.length : Nat) : Int)), .prop (Value.pointer (some (Addr.add ⟨ab5, ao6, none⟩ (Int.toNat (k : Nat) * 13))) = Value.pointer (some ⟨ab5, ao6 + (k * 13), none⟩))]), (4, [.prop (Array.size (CallV.cells (l.getD k dCall)) = 13), .cells ⟨ab5, ao6 + (k * 13), none⟩ (CallV.cells (l.getD k dCall))])] [(15, .agg (CallV.cells (l.getD k dCall))), (11, .func (.func 45) #[] #[vp bc 0]), (5, .int .i64 (k : Nat)), (0, vl ab5 ao6 l.length cl), (1, .func (.func 45) #[] #[vp bc 0]), (7, .int .i64 (l.length : Nat)), (8, .int .i64 (k : Nat))] (ak (okp (by omega) (okp (ptrAdd _ _ _) ok0)) (ak (okp (by kernel_rfl) (oka (RowsAt.all0 (hr _ (hs3.drop 1)) (by first | omega | (simp only [List.length_set]; omega) | (simp only [List.length_set, List.length_append, List.length_cons, List.length_nil]; omega)) (Nat.le_of_ble_eq_true (by kernel_rfl)) (by kernel_rfl)) ok0)) ak0)) ?_
    refine Xa (f := 45) (args := #[.agg (CallV.cells (l.getD k dCall)), vp bc 0]) Tryz.call45 (over1_spec c (l.getD k dCall) hs3) ?_
    rintro v8 w9 ⟨rfl, hs7⟩
    refine ⟨Xo, ?_⟩
    refine GoR.done (GoQ.thn ?_)
    refine Xc (t := over1 c (l.getD k dCall)) (fun h10 => ?_) (fun h10 => ?_)
    · refine GoC.seq ?_
      refine Xt (.rd 0 (.rd 1 .done)) ?_
      refine Xk [(0, .gen []), (1, .gen [])] [] [(4, .int .i64 (k : Nat)), (0, vl ab5 ao6 l.length cl), (1, .func (.func 45) #[] #[vp bc 0]), (7, .int .i64 (l.length : Nat)), (8, .int .i64 (k : Nat))] ak0 ?_
      refine GoR.done (GoQ.thn (GoC.ret (GoQ.blkR (GoQ.skipCR (GoQ.skipLR (GoQ.blkR (GoQ.skipCR ?_)))))))
      refine X1 (v := .int .i64 (k : Nat)) ?_
      exact ⟨(by rw [idx_at (d := dCall) (p := over1 c) hk (show (over1 c) (l.getD k dCall) = true from h10) hp.2]; rfl), hs7⟩
    · refine GoC.skip (GoQ.blkN (GoQ.thn ?_))
      refine Xt (.rd 0 (.rd 1 .done)) ?_
      refine Xk [(0, .as_ (.int .i64 ((k : Nat) + 1)) (.gen [])), (1, .gen [])] [(0, [.prop (Value.int .i64 (IntKind.i64.wrap ((k : Nat) + 1)) = Value.int .i64 ((k : Nat) + 1))])] [(8, .int .i64 ((k : Nat) + 1)), (0, vl ab5 ao6 l.length cl), (1, .func (.func 45) #[] #[vp bc 0]), (7, .int .i64 (l.length : Nat))] (ak (okp (i64ok (by omega) (by omega)) ok0) ak0) ?_
      refine GoR.done ?_
      exact GoQ.back (k + 1) [0, 1, 7, 8] (by kernel_rfl) (by show l.length - (k + 1) < l.length - k; omega) ⟨⟨by omega, none_step (p := fun z => (over1 c) (l.getD z dCall)) hp.2 (show (over1 c) (l.getD k dCall) = false from h10)⟩, hs7⟩
  · have h4' : ¬ (((k : Nat) : Int) < (l.length : Nat)) := of_decide_eq_false h4
    refine GoC.exit (GoQ.skipC (GoQ.skipL (GoQ.hit (GoQ.thn (GoC.seq ?_)))))
    refine Xt (.rd 0 .done) ?_
    refine Xk [(0, .gen [])] [] [(4, .int .i64 (-1))] ak0 ?_
    refine GoR.done (GoQ.thn (GoC.ret ?_))
    refine X1 (v := .int .i64 (-1)) ?_
    exact ⟨(by rw [idx_none (d := dCall) (l := l) (p := over1 c) (fun i hi => hp.2 i (by omega))]; rfl), hs3⟩
theorem ovCf_spec {w0 w : World} {L : List Asn} {al : Option Addr} {cl : Nat} {bc : Nat} (l : List CallV) (c : CallV) (hlen : l.length ≤ 1000000) (hr : ∀ w, St w0 L w → RowsAt w al l.length 13 (fun k => CallV.cells (l.getD k dCall))) (hs : St w0 ((Cel bc (CallV.cells c) 53) :: L) w) : Calls Tryz.prog 44 #[.slice al l.length cl, .func (.func 45) #[] #[vp bc 0]] w (Ret fun rv w' => rv = .bool ((idx dCall l (over1 c)).isSome) ∧ St w0 ((Cel bc (CallV.cells c) 53) :: L) w') := by
  refine enter (args := [.slice al l.length cl, .func (.func 45) #[] #[vp bc 0]]) Tryz.func44 rfl Tryz.ntmps44 (Nat.le_of_ble_eq_true (by kernel_rfl)) ?_
  refine GoC.slots (S' := [(0, .slice al l.length cl), (1, .func (.func 45) #[] #[vp bc 0])]) rfl ?_
  refine GoC.seq ?_
  refine Xt (.rd 0 .done) ?_
  refine Xk [(0, .gen [])] [] [(4, .bool false), (0, .slice al l.length cl), (1, .func (.func 45) #[] #[vp bc 0])] ak0 ?_
  refine GoR.done (GoQ.thn (GoC.seq ?_))
  refine Xt (.rd 0 (.rd 1 (.ef 2 (.rd 3 (.rd 4 .done))))) ?_
  refine Xk [(0, .gen []), (1, .gen [])] [] [(6, .func (.func 45) #[] #[vp bc 0]), (5, .slice al l.length cl), (4, .bool false)] ak0 ?_
  refine Xa (f := 61) (args := #[.slice al l.length cl, .func (.func 45) #[] #[vp bc 0]]) Tryz.call61 (ovIx_spec l c (by omega) (fun w h => hr _ (h.drop 0)) hs) ?_
  rintro v2 w3 ⟨rfl, hs1⟩
  refine ⟨Xo, ?_⟩
  refine Xk [(3, .gen []), (4, .gen [])] [] [(4, .bool (decide ((ixI (idx dCall l (over1 c)) : Int) ≥ 0)))] ak0 ?_
  refine GoR.done (GoQ.thn (GoC.ret ?_))
  refine X1 (v := .bool (decide ((ixI (idx dCall l (over1 c)) : Int) ≥ 0))) ?_
  exact ⟨(congrArg Value.bool (ixI_some _)), hs1⟩
def overB (l : List CallV) (c : CallV) : Bool := (idx dCall l (over1 c)).isSome
theorem overB_spec {w0 w : World} {L : List Asn} {bx : Nat} {x : Nat} {al : Option Addr} {cl : Nat} {ar : Option Addr} {cr : Nat} (l : List CallV) (row : List ReqV) (c : CallV) (hll : l.length ≤ 1000000) (hrr : row.length ≤ 1000000) (hr1 : ∀ w, St w0 L w → RowsAt w al l.length 13 (fun k => CallV.cells (l.getD k dCall))) (hr2 : ∀ w, St w0 L w → RowsAt w ar row.length 40 (fun k => ReqV.cells (row.getD k dReq))) (hs : St w0 ((Cel bx #[vp x 0] 62) :: (Cel x #[.slice al l.length cl, .slice ar row.length cr] 64) :: L) w) : Calls Tryz.prog 43 #[.agg (CallV.cells c), vp bx 0] w (Ret fun rv w' => rv = .bool (overB l c) ∧ St w0 ((Cel bx #[vp x 0] 62) :: (Cel x #[.slice al l.length cl, .slice ar row.length cr] 64) :: L) w') := by
  refine enter (args := [.agg (CallV.cells c), vp bx 0]) Tryz.func43 rfl Tryz.ntmps43 (Nat.le_of_ble_eq_true (by kernel_rfl)) ?_
  refine GoC.slots (S' := [(0, .agg (CallV.cells c)), (1, vp bx 0)]) rfl ?_
  refine GoC.seq ?_
  refine Xt (.ef 0 (.rd 1 .done)) ?_
  refine GoR.box rfl rfl (by kernel_rfl) (v := .agg (CallV.cells c)) (by kernel_rfl) hs (cs := CallV.cells c) (by kernel_rfl) ?_
  intro b1 w2 hs3
  refine ⟨Xo, ?_⟩
  refine Xk [(1, .gen [])] [] [(3, .bool false), (2, vp b1 0), (1, vp bx 0)] ak0 ?_
  refine GoR.done (GoQ.thn (GoC.seq ?_))
  refine Xt (.rd 0 (.rd 1 (.rd 2 (.rd 3 (.rd 4 (.ef 5 (.rd 6 .done))))))) ?_
  refine Xk [(0, .gen [vp x 0]), (1, .gen []), (2, .gen []), (3, .gen [.slice al l.length cl]), (4, .gen [])] [(0, [.cell ⟨bx, 0, none⟩ (vp x 0)]), (3, [.cell ⟨x, 0, none⟩ (.slice al l.length cl)])] [(8, .func (.func 45) #[] #[vp b1 0]), (7, .slice al l.length cl), (3, .bool false)] (ak (okc (hs3.cell 1 rfl (by kernel_rfl)) ok0) (ak (okc (hs3.cell 2 rfl (by kernel_rfl)) ok0) ak0)) ?_
  refine Xa (f := 44) (args := #[.slice al l.length cl, .func (.func 45) #[] #[vp b1 0]]) Tryz.call44 (ovCf_spec l c (by omega) (fun w h => hr1 _ (h.drop 2)) hs3) ?_
  rintro v5 w6 ⟨rfl, hs4⟩
  refine ⟨Xo, ?_⟩
  refine Xk [(6, .gen [])] [] [(3, .bool ((idx dCall l (over1 c)).isSome))] ak0 ?_
  refine GoR.done (GoQ.thn (GoC.ret ?_))
  refine X1 (v := .bool ((idx dCall l (over1 c)).isSome)) ?_
  have hs7 : St w0 ((Cel bx #[vp x 0] 62) :: (Cel x #[.slice al l.length cl, .slice ar row.length cr] 64) :: L) w6 := hs4.drop 1
  exact ⟨rfl, hs7⟩
theorem ovC1_spec {w0 w : World} {L : List Asn} {bf : Nat} {bz : Nat} {x : Nat} {al : Option Addr} {cl : Nat} {ar : Option Addr} {cr : Nat} {bx : Nat} (l : List CallV) (row : List ReqV) (i : Nat) (hll : l.length ≤ 1000000) (hrr : row.length ≤ 1000000) (hi : i < l.length) (hr1 : ∀ w, St w0 L w → RowsAt w al l.length 13 (fun k => CallV.cells (l.getD k dCall))) (hr2 : ∀ w, St w0 L w → RowsAt w ar row.length 40 (fun k => ReqV.cells (row.getD k dReq))) (hs : St w0 ((Cel bf #[.func (.func 43) #[] #[vp bx 0]] 96) :: (Cel bz #[vp x 0] 62) :: (Cel x #[.slice al l.length cl, .slice ar row.length cr] 64) :: (Cel bx #[vp x 0] 62) :: L) w) : Calls Tryz.prog 60 #[.int .i64 (i : Nat), vp bf 0, vp bz 0] w (Ret fun rv w' => rv = .bool ((overB l) (l.getD i dCall)) ∧ St w0 ((Cel bf #[.func (.func 43) #[] #[vp bx 0]] 96) :: (Cel bz #[vp x 0] 62) :: (Cel x #[.slice al l.length cl, .slice ar row.length cr] 64) :: (Cel bx #[vp x 0] 62) :: L) w') := by
  refine enter (args := [.int .i64 (i : Nat), vp bf 0, vp bz 0]) Tryz.func60 rfl Tryz.ntmps60 (Nat.le_of_ble_eq_true (by kernel_rfl)) ?_
  refine GoC.slots (S' := [(0, .int .i64 (i : Nat)), (1, vp bf 0), (2, vp bz 0)]) rfl ?_
  refine GoC.seq ?_
  refine Xt (.rd 0 .done) ?_
  refine Xk [(0, .gen [])] [] [(4, .bool false), (0, .int .i64 (i : Nat)), (1, vp bf 0), (2, vp bz 0)] ak0 ?_
  refine GoR.done (GoQ.thn (GoC.seq ?_))
  obtain ⟨ab1, ao2, rfl⟩ := RowsAt.isSome (hr1 _ (hs.drop 4)) (by omega)
  refine GoC.regD [0, 0, 2, 6, 14, 0, 62, 126, 255, 511] (.rd 0 (.rd 1 (.rd 2 (.rd 3 (.rd 4 (.rd 5 (.rd 6 (.rd 7 (.ef 8 (.rd 9 .done)))))))))) (by kernel_rfl) (by kernel_rfl) noPan_body (by kernel_rfl) hs ?_
  intro w3 hs4 hw5
  refine Xk [(0, .gen [.func (.func 43) #[] #[vp bx 0]]), (1, .gen [vp x 0]), (2, .gen []), (3, .gen []), (4, .gen [vl ab1 ao2 l.length cl]), (5, .gen []), (6, .as_ (vp ab1 (ao2 + (i * 13))) .at_), (7, .agg (CallV.cells (l.getD i dCall)))] [(0, [.cell ⟨bf, 0, none⟩ (.func (.func 43) #[] #[vp bx 0])]), (1, [.cell ⟨bz, 0, none⟩ (vp x 0)]), (4, [.cell ⟨x, 0, none⟩ (vl ab1 ao2 l.length cl)]), (6, [.prop (0 ≤ ((i : Nat) : Int) ∧ ((i : Nat) : Int) < ((l.length : Nat) : Int)), .prop (Value.pointer (some (Addr.add ⟨ab1, ao2, none⟩ (Int.toNat (i : Nat) * 13))) = Value.pointer (some ⟨ab1, ao2 + (i * 13), none⟩))]), (7, [.prop (Array.size (CallV.cells (l.getD i dCall)) = 13), .cells ⟨ab1, ao2 + (i * 13), none⟩ (CallV.cells (l.getD i dCall))])] [(12, .agg (CallV.cells (l.getD i dCall))), (5, .func (.func 43) #[] #[vp bx 0]), (4, .bool false)] (ak (okc (hs4.cell 0 rfl (by kernel_rfl)) ok0) (ak (okc (hs4.cell 1 rfl (by kernel_rfl)) ok0) (ak (okc (hs4.cell 2 rfl (by kernel_rfl)) ok0) (ak (okp (by omega) (okp (ptrAdd _ _ _) ok0)) (ak (okp (by kernel_rfl) (oka (RowsAt.all0 (hr1 _ (hs4.drop 4)) (by first | omega | (simp only [List.length_set]; omega) | (simp only [List.length_set, List.length_append, List.length_cons, List.length_nil]; omega)) (Nat.le_of_ble_eq_true (by kernel_rfl)) (by kernel_rfl)) ok0)) ak0))))) ?_
  have hs6 : St w0 ((Cel bx #[vp x 0] 62) :: (Cel x #[vl ab1 ao2 l.length cl, .slice ar row.length cr] 64) :: (Cel bf #[.func (.func 43) #[] #[vp bx 0]] 96) :: (Cel bz #[vp x 0] 62) :: L) w3 := ((hs4.pull 2 rfl).pull 3 rfl)
  refine Xa (f := 43) (args := #[.agg (CallV.cells (l.getD i dCall)), vp bx 0]) Tryz.call43 (overB_spec l row (l.getD i dCall) (by omega) (by omega) (fun w h => hr1 _ (h.drop 2)) (fun w h => hr2 _ (h.drop 2)) hs6) ?_
  rintro v8 w9 ⟨rfl, hs7⟩
  refine ⟨Xo, ?_⟩
  refine Xk [(9, .gen [])] [] [(4, .bool (overB l (l.getD i dCall)))] ak0 ?_
  refine GoR.done (GoQ.thn (GoC.ret ?_))
  refine X1 (v := .bool (overB l (l.getD i dCall))) ?_
  have hs10 : St w0 ((Cel bf #[.func (.func 43) #[] #[vp bx 0]] 96) :: (Cel bz #[vp x 0] 62) :: (Cel x #[vl ab1 ao2 l.length cl, .slice ar row.length cr] 64) :: (Cel bx #[vp x 0] 62) :: L) w9 := ((((hs7.pull 0 rfl).pull 1 rfl).pull 3 rfl).pull 3 rfl)
  exact ⟨rfl, hs10⟩
theorem ovFi_spec {w0 w : World} {L : List Asn} {bf : Nat} {bz : Nat} {x : Nat} {al : Option Addr} {cl : Nat} {ar : Option Addr} {cr : Nat} {bx : Nat} (l : List CallV) (row : List ReqV) (hll : l.length ≤ 1000000) (hrr : row.length ≤ 1000000) (hr1 : ∀ w, St w0 L w → RowsAt w al l.length 13 (fun k => CallV.cells (l.getD k dCall))) (hr2 : ∀ w, St w0 L w → RowsAt w ar row.length 40 (fun k => ReqV.cells (row.getD k dReq))) (hs : St w0 ((Cel bf #[.func (.func 43) #[] #[vp bx 0]] 96) :: (Cel bz #[vp x 0] 62) :: (Cel x #[.slice al l.length cl, .slice ar row.length cr] 64) :: (Cel bx #[vp x 0] 62) :: L) w) : Calls Tryz.prog 40 #[.int .i64 (l.length : Nat), .func (.func 60) #[] #[vp bf 0, vp bz 0]] w (Ret fun rv w' => rv = .tuple #[.int .i64 ((idx dCall l (overB l)).getD 0 : Nat), .bool ((idx dCall l (overB l)).isSome)] ∧ St w0 ((Cel bf #[.func (.func 43) #[] #[vp bx 0]] 96) :: (Cel bz #[vp x 0] 62) :: (Cel x #[.slice al l.length cl, .slice ar row.length cr] 64) :: (Cel bx #[vp x 0] 62) :: L) w') := by
  refine enter (args := [.int .i64 (l.length : Nat), .func (.func 60) #[] #[vp bf 0, vp bz 0]]) Tryz.func40 rfl Tryz.ntmps40 (Nat.le_of_ble_eq_true (by kernel_rfl)) ?_
  refine GoC.slots (S' := [(0, .int .i64 (l.length : Nat)), (1, .func (.func 60) #[] #[vp bf 0, vp bz 0])]) rfl ?_
  refine GoC.seq ?_
  refine Xt (.rd 0 (.rd 1 .done)) ?_
  refine Xk [(0, .gen []), (1, .gen [])] [] [(5, .bool false), (4, .int .i64 0), (0, .int .i64 (l.length : Nat)), (1, .func (.func 60) #[] #[vp bf 0, vp bz 0])] ak0 ?_
  refine GoR.done (GoQ.thn (GoC.seq (GoC.seq ?_)))
  refine Xt (.rd 0 (.rd 1 .done)) ?_
  refine Xk [(0, .gen []), (1, .gen [])] [] [(8, .int .i64 0), (7, .int .i64 (l.length : Nat)), (5, .bool false), (4, .int .i64 0), (1, .func (.func 60) #[] #[vp bf 0, vp bz 0])] ak0 ?_
  refine GoR.done (GoQ.thn (GoC.block ?_))
  refine GoC.loop (T := Nat) (fun gg => [(1, .func (.func 60) #[] #[vp bf 0, vp bz 0]), (7, .int .i64 (l.length : Nat)), (8, .int .i64 (gg : Nat))]) (fun gg w => (gg ≤ l.length ∧ ∀ z, z < gg → (overB l) (l.getD z dCall) = false) ∧ St w0 ((Cel bf #[.func (.func 43) #[] #[vp bx 0]] 96) :: (Cel bz #[vp x 0] 62) :: (Cel x #[.slice al l.length cl, .slice ar row.length cr] 64) :: (Cel bx #[vp x 0] 62) :: L) w) (fun gg => l.length - gg) 0 [1, 7, 8] (by kernel_rfl) ⟨⟨Nat.zero_le _, fun i hi => absurd hi (Nat.not_lt_zero _)⟩, hs⟩ ?_
  rintro k w1 ⟨hp0, hs2⟩
  have hp : k ≤ l.length ∧ ∀ z, z < k → (overB l) (l.getD z dCall) = false := hp0
  have hs3 : St w0 ((Cel bf #[.func (.func 43) #[] #[vp bx 0]] 96) :: (Cel bz #[vp x 0] 62) :: (Cel x #[.slice al l.length cl, .slice ar row.length cr] 64) :: (Cel bx #[vp x 0] 62) :: L) w1 := hs2
  refine GoC.slots (S' := [(1, .func (.func 60) #[] #[vp bf 0, vp bz 0]), (7, .int .i64 (l.length : Nat)), (8, .int .i64 (k : Nat))]) rfl ?_
  refine GoC.seq ?_
  refine Xt (.rd 0 .done) ?_
  refine Xk [(0, .gen [])] [] [(9, .bool (decide (((k : Nat) : Int) < (l.length : Nat)))), (1, .func (.func 60) #[] #[vp bf 0, vp bz 0]), (7, .int .i64 (l.length : Nat)), (8, .int .i64 (k : Nat))] ak0 ?_
  refine GoR.done (GoQ.thn (GoC.seq ?_))
  refine Xc (t := decide (((k : Nat) : Int) < (l.length : Nat))) (fun h4 => ?_) (fun h4 => ?_)
  · have h4' : ((k : Nat) : Int) < (l.length : Nat) := of_decide_eq_true h4
    have hk : k < l.length := by omega
    refine GoC.skip (GoQ.thn (GoC.seq (GoC.block (GoC.seq ?_))))
    refine Xt (.rd 0 (.rd 1 .done)) ?_
    refine Xk [(0, .gen []), (1, .gen [])] [] [(6, .int .i64 (k : Nat)), (1, .func (.func 60) #[] #[vp bf 0, vp bz 0]), (7, .int .i64 (l.length : Nat)), (8, .int .i64 (k : Nat))] ak0 ?_
    refine GoR.done (GoQ.thn (GoC.seq ?_))
    refine Xt (.rd 0 (.rd 1 (.ef 2 .done))) ?_
    refine Xk [(0, .gen []), (1, .gen [])] [] [(12, .int .i64 (k : Nat)), (11, .func (.func 60) #[] #[vp bf 0, vp bz 0]), (6, .int .i64 (k : Nat)), (1, .func (.func 60) #[] #[vp bf 0, vp bz 0]), (7, .int .i64 (l.length : Nat)), (8, .int .i64 (k : Nat))] ak0 ?_
    refine Xa (f := 60) (args := #[.int .i64 (k : Nat), vp bf 0, vp bz 0]) Tryz.call60 (ovC1_spec l row k (by omega) (by omega) hk (fun w h => hr1 _ (h.drop 0)) (fun w h => hr2 _ (h.drop 0)) hs3) ?_
    rintro v6 w7 ⟨rfl, hs5⟩
    refine ⟨Xo, ?_⟩
    refine GoR.done (GoQ.thn ?_)
    refine Xc (t := (overB l) (l.getD k dCall)) (fun h8 => ?_) (fun h8 => ?_)
    · refine GoC.seq ?_
      refine Xt (.rd 0 (.rd 1 (.rd 2 .done))) ?_
      refine Xk [(0, .gen []), (1, .gen []), (2, .gen [])] [] [(5, .bool true), (4, .int .i64 (k : Nat)), (1, .func (.func 60) #[] #[vp bf 0, vp bz 0]), (7, .int .i64 (l.length : Nat)), (8, .int .i64 (k : Nat))] ak0 ?_
      refine GoR.done (GoQ.thn (GoC.ret (GoQ.blkR (GoQ.skipCR (GoQ.skipLR (GoQ.blkR (GoQ.skipCR ?_)))))))
      refine X2 (v := .int .i64 (k : Nat)) (v' := .bool true) ?_
      exact ⟨(by rw [idx_at (d := dCall) (p := overB l) hk (show (overB l) (l.getD k dCall) = true from h8) hp.2]; rfl), hs5⟩
    · refine GoC.skip (GoQ.blkN (GoQ.thn ?_))
      refine Xt (.rd 0 (.rd 1 .done)) ?_
      refine Xk [(0, .as_ (.int .i64 ((k : Nat) + 1)) (.gen [])), (1, .gen [])] [(0, [.prop (Value.int .i64 (IntKind.i64.wrap ((k : Nat) + 1)) = Value.int .i64 ((k : Nat) + 1))])] [(8, .int .i64 ((k : Nat) + 1)), (1, .func (.func 60) #[] #[vp bf 0, vp bz 0]), (7, .int .i64 (l.length : Nat))] (ak (okp (i64ok (by omega) (by omega)) ok0) ak0) ?_
      refine GoR.done ?_
      exact GoQ.back (k + 1) [1, 7, 8] (by kernel_rfl) (by show l.length - (k + 1) < l.length - k; omega) ⟨⟨by omega, none_step (p := fun z => (overB l) (l.getD z dCall)) hp.2 (show (overB l) (l.getD k dCall) = false from h8)⟩, hs5⟩
  · have h4' : ¬ (((k : Nat) : Int) < (l.length : Nat)) := of_decide_eq_false h4
    refine GoC.exit (GoQ.skipC (GoQ.skipL (GoQ.hit (GoQ.thn (GoC.seq ?_)))))
    refine Xt (.rd 0 (.rd 1 .done)) ?_
    refine Xk [(0, .gen []), (1, .gen [])] [] [(5, .bool false), (4, .int .i64 0)] ak0 ?_
    refine GoR.done (GoQ.thn (GoC.ret ?_))
    refine X2 (v := .int .i64 0) (v' := .bool false) ?_
    exact ⟨(by rw [idx_none (d := dCall) (l := l) (p := overB l) (fun i hi => hp.2 i (by omega))]; rfl), hs3⟩
theorem ovCa_spec {w0 w : World} {L : List Asn} {x : Nat} {al : Option Addr} {cl : Nat} {ar : Option Addr} {cr : Nat} {bx : Nat} (l : List CallV) (row : List ReqV) (hll : l.length ≤ 1000000) (hrr : row.length ≤ 1000000) (hr1 : ∀ w, St w0 L w → RowsAt w al l.length 13 (fun k => CallV.cells (l.getD k dCall))) (hr2 : ∀ w, St w0 L w → RowsAt w ar row.length 40 (fun k => ReqV.cells (row.getD k dReq))) (hs : St w0 ((Cel x #[.slice al l.length cl, .slice ar row.length cr] 64) :: (Cel bx #[vp x 0] 62) :: L) w) : Calls Tryz.prog 42 #[vp x 0, .func (.func 43) #[] #[vp bx 0]] w (Ret fun rv w' => rv = .tuple #[.int .i64 ((idx dCall l (overB l)).getD 0 : Nat), .bool ((idx dCall l (overB l)).isSome)] ∧ St w0 ((Cel x #[.slice al l.length cl, .slice ar row.length cr] 64) :: (Cel bx #[vp x 0] 62) :: L) w') := by
  refine enter (args := [vp x 0, .func (.func 43) #[] #[vp bx 0]]) Tryz.func42 rfl Tryz.ntmps42 (Nat.le_of_ble_eq_true (by kernel_rfl)) ?_
  refine GoC.slots (S' := [(0, vp x 0), (1, .func (.func 43) #[] #[vp bx 0])]) rfl ?_
  refine GoC.seq ?_
  refine Xt (.ef 0 (.ef 1 (.rd 2 (.rd 3 .done)))) ?_
  refine GoR.box rfl rfl (by kernel_rfl) (v := vp x 0) (by kernel_rfl) hs (cs := #[vp x 0]) (by kernel_rfl) ?_
  intro b1 w2 hs3
  refine ⟨Xo, ?_⟩
  refine GoR.box rfl rfl (by kernel_rfl) (v := .func (.func 43) #[] #[vp bx 0]) (by kernel_rfl) hs3 (cs := #[.func (.func 43) #[] #[vp bx 0]]) (by kernel_rfl) ?_
  intro b4 w5 hs6
  refine ⟨Xo, ?_⟩
  refine Xk [(2, .gen []), (3, .gen [])] [] [(5, .bool false), (4, .int .i64 0), (3, vp b4 0), (2, vp b1 0)] ak0 ?_
  refine GoR.done (GoQ.thn (GoC.seq ?_))
  refine Xt (.rd 0 (.rd 1 (.rd 2 (.rd 3 (.rd 4 (.rd 5 (.ef 6 (.rd 7 (.rd 8 (.rd 9 (.rd 10 .done))))))))))) ?_
  refine Xk [(0, .gen [vp x 0]), (1, .gen []), (2, .gen []), (3, .gen [.slice al l.length cl]), (4, .gen []), (5, .gen [])] [(0, [.cell ⟨b1, 0, none⟩ (vp x 0)]), (3, [.cell ⟨x, 0, none⟩ (.slice al l.length cl)])] [(11, .func (.func 60) #[] #[vp b4 0, vp b1 0]), (10, .int .i64 (l.length : Nat)), (5, .bool false), (4, .int .i64 0)] (ak (okc (hs6.cell 1 rfl (by kernel_rfl)) ok0) (ak (okc (hs6.cell 2 rfl (by kernel_rfl)) ok0) ak0)) ?_
  refine Xa (f := 40) (args := #[.int .i64 (l.length : Nat), .func (.func 60) #[] #[vp b4 0, vp b1 0]]) Tryz.call40 (ovFi_spec l row (by omega) (by omega) (fun w h => hr1 _ (h.drop 0)) (fun w h => hr2 _ (h.drop 0)) hs6) ?_
  rintro v8 w9 ⟨rfl, hs7⟩
  refine ⟨Xo, ?_⟩
  refine Xk [(7, .gen []), (8, .gen []), (9, .gen []), (10, .gen [])] [] [(5, .bool ((idx dCall l (overB l)).isSome)), (4, .int .i64 ((idx dCall l (overB l)).getD 0 : Nat))] ak0 ?_
  refine GoR.done (GoQ.thn (GoC.ret ?_))
  refine X2 (v := .int .i64 ((idx dCall l (overB l)).getD 0 : Nat)) (v' := .bool ((idx dCall l (overB l)).isSome)) ?_
  have hs10 : St w0 ((Cel x #[.slice al l.length cl, .slice ar row.length cr] 64) :: (Cel bx #[vp x 0] 62) :: L) w9 := hs7.drop 2
  exact ⟨rfl, hs10⟩
theorem overlap_spec {w0 w : World} {L : List Asn} {x : Nat} {al : Option Addr} {cl : Nat} {ar : Option Addr} {cr : Nat} (l : List CallV) (row : List ReqV) (hll : l.length ≤ 1000000) (hrr : row.length ≤ 1000000) (hr1 : ∀ w, St w0 L w → RowsAt w al l.length 13 (fun k => CallV.cells (l.getD k dCall))) (hr2 : ∀ w, St w0 L w → RowsAt w ar row.length 40 (fun k => ReqV.cells (row.getD k dReq))) (hs : St w0 ((Cel x #[.slice al l.length cl, .slice ar row.length cr] 64) :: L) w) : Calls Tryz.prog 22 #[vp x 0] w (Ret fun rv w' => rv = .tuple #[.int .i64 ((idx dCall l (overB l)).getD 0 : Nat), .bool ((idx dCall l (overB l)).isSome)] ∧ St w0 ((Cel x #[.slice al l.length cl, .slice ar row.length cr] 64) :: L) w') := by
  refine enter (args := [vp x 0]) Tryz.func22 rfl Tryz.ntmps22 (Nat.le_of_ble_eq_true (by kernel_rfl)) ?_
  refine GoC.slots (S' := [(0, vp x 0)]) rfl ?_
  refine GoC.seq ?_
  refine Xt (.ef 0 (.rd 1 (.rd 2 .done))) ?_
  refine GoR.box rfl rfl (by kernel_rfl) (v := vp x 0) (by kernel_rfl) hs (cs := #[vp x 0]) (by kernel_rfl) ?_
  intro b1 w2 hs3
  refine ⟨Xo, ?_⟩
  refine Xk [(1, .gen []), (2, .gen [])] [] [(3, .bool false), (2, .int .i64 0), (1, vp b1 0)] ak0 ?_
  refine GoR.done (GoQ.thn (GoC.seq ?_))
  refine Xt (.rd 0 (.rd 1 (.ef 2 (.rd 3 (.rd 4 (.rd 5 (.rd 6 .done))))))) ?_
  refine Xk [(0, .gen [vp x 0]), (1, .gen [])] [(0, [.cell ⟨b1, 0, none⟩ (vp x 0)])] [(5, .func (.func 43) #[] #[vp b1 0]), (4, vp x 0), (3, .bool false), (2, .int .i64 0)] (ak (okc (hs3.cell 0 rfl (by kernel_rfl)) ok0) ak0) ?_
  have hs4 : St w0 ((Cel x #[.slice al l.length cl, .slice ar row.length cr] 64) :: (Cel b1 #[vp x 0] 62) :: L) w2 := ((hs3.pull 0 rfl).pull 1 rfl)
  refine Xa (f := 42) (args := #[vp x 0, .func (.func 43) #[] #[vp b1 0]]) Tryz.call42 (ovCa_spec l row (by omega) (by omega) (fun w h => hr1 _ (h.drop 0)) (fun w h => hr2 _ (h.drop 0)) hs4) ?_
  rintro v6 w7 ⟨rfl, hs5⟩
  refine ⟨Xo, ?_⟩
  refine Xk [(3, .gen []), (4, .gen []), (5, .gen []), (6, .gen [])] [] [(3, .bool ((idx dCall l (overB l)).isSome)), (2, .int .i64 ((idx dCall l (overB l)).getD 0 : Nat))] ak0 ?_
  refine GoR.done (GoQ.thn (GoC.ret ?_))
  refine X2 (v := .int .i64 ((idx dCall l (overB l)).getD 0 : Nat)) (v' := .bool ((idx dCall l (overB l)).isSome)) ?_
  have hs8 : St w0 ((Cel b1 #[vp x 0] 62) :: (Cel x #[.slice al l.length cl, .slice ar row.length cr] 64) :: L) w7 := ((hs5.pull 0 rfl).pull 1 rfl)
  have hs9 : St w0 ((Cel x #[.slice al l.length cl, .slice ar row.length cr] 64) :: L) w7 := hs8.drop 1
  exact ⟨rfl, hs9⟩
end Go.Proofs.YtbmmknchcdhefaaGreatDoor
