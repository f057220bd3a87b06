/-
  The document's words: of, place, calls. Conditions: none beside each theorem's own.
-/
import Derived.Test.YtbmmknchcdhefaaGreatDoorSxT
import Derived.Test.YtbmmknchcdhefaaGreatDoorHisS
import Derived.Test.YtbmmknchcdhefaaGreatDoorHiR
namespace Go.Proofs.YtbmmknchcdhefaaGreatDoor
open Go.RowKit Go.Sx
set_option linter.unusedVariables false
set_option linter.unusedSimpArgs false
set_option linter.unnecessarySimpa false
set_option maxRecDepth 100000
theorem rof_eq (c : CallV) (q : ReqV) : ((((c.client : Int) == q.client) && ((c.time : Int) == q.time)) && decide (c.op = q.op)) = ofB c q := by
  unfold ofB
  rw [int_beq, int_beq, Bool.decide_and, Bool.decide_and, Bool.and_assoc]
theorem name_eq (a b : CallV) : (((a.client : Int) == b.client) && ((a.time : Int) == b.time)) = decide (nameOf a = nameOf b) := by
  rw [int_beq, int_beq, ← Bool.decide_and, decide_eq_decide]
  unfold nameOf
  simp
theorem nameQ_eq (a b : ReqV) : (((a.client : Int) == b.client) && ((a.time : Int) == b.time)) = decide (nameQ a = nameQ b) := by
  rw [int_beq, int_beq, ← Bool.decide_and, decide_eq_decide]
  unfold nameQ
  simp
theorem over_eq (c d : CallV) : ((((d.client : Int) == c.client) && decide ((d.time : Int) < c.time)) && ((!d.done) || decide ((d.to_ : Int) ≥ c.from_))) = over1 c d := by
  unfold over1 aheadB
  by_cases h1 : ((d.client : Int) == c.client) = true
  · rw [if_pos h1, h1]
    by_cases h2 : decide ((d.time : Int) < c.time) = true
    · rw [if_pos h2, h2]
      cases d.done with
      | false => rfl
      | true =>
        show (true && true && (false || decide (d.to_ ≥ c.from_))) = !(true && decide (d.to_ < c.from_))
        by_cases h3 : d.to_ < c.from_
        · rw [decide_eq_true h3, decide_eq_false (show ¬ d.to_ ≥ c.from_ by omega)]; rfl
        · rw [decide_eq_false h3, decide_eq_true (show d.to_ ≥ c.from_ by omega)]; rfl
    · rw [if_neg h2, Bool.eq_false_iff.2 h2]; rfl
  · rw [if_neg h1, Bool.eq_false_iff.2 h1]; rfl
def callsV (l : List CallV) : Int × Int := if (twO nameOf dCall l).isSome = true then (1, (((twO nameOf dCall l).getD 0 : Nat) : Int)) else if (idx dCall l (overB l)).isSome = true then (2, (((idx dCall l (overB l)).getD 0 : Nat) : Int)) else (0, 0)
theorem callsV_1 {l : List CallV} {i : Nat} (h : twO nameOf dCall l = some i) : callsV l = (1, (i : Int)) := by
  rw [callsV, h]; rfl
theorem callsV_2 {l : List CallV} {i : Nat} (h : twO nameOf dCall l = none) (h2 : idx dCall l (overB l) = some i) : callsV l = (2, (i : Int)) := by
  rw [callsV, h, h2]; rfl
theorem callsV_0 {l : List CallV} (h : twO nameOf dCall l = none) (h2 : idx dCall l (overB l) = none) : callsV l = (0, 0) := by
  rw [callsV, h, h2]; rfl
theorem chk_calls {l : List CallV} {row : List ReqV} (h : ¬ (callsV l).1 = 0) : chkV l row = callsV l := by
  unfold callsV at h ⊢
  unfold chkV
  by_cases h1 : (twO nameOf dCall l).isSome = true
  · rw [if_pos h1]
    exact if_pos h1
  · rw [if_neg h1] at h ⊢
    by_cases h2 : (idx dCall l (overB l)).isSome = true
    · rw [if_pos h2]
      exact (if_neg h1).trans (if_pos h2)
    · rw [if_neg h2] at h
      exact absurd rfl h
theorem chk_from2 {l : List CallV} {row : List ReqV} (h : (callsV l).1 = 0) : chkV l row = chkF l row (7 - 2) := by
  unfold callsV at h
  by_cases h1 : (twO nameOf dCall l).isSome = true
  · rw [if_pos h1] at h; cases h
  · rw [if_neg h1] at h
    by_cases h2 : (idx dCall l (overB l)).isSome = true
    · rw [if_pos h2] at h; cases h
    · exact (if_neg h1).trans (if_neg h2)
theorem rof_spec {w0 w : World} {L : List Asn} (c : CallV) (q : ReqV) (hs : St w0 (L) w) : Calls Tryz.prog 31 #[.agg (CallV.cells c), .agg (ReqV.cells q)] w (Ret fun rv w' => rv = .bool (ofB c q) ∧ St w0 (L) w') := by
  refine enter (args := [.agg (CallV.cells c), .agg (ReqV.cells q)]) Tryz.func31 rfl Tryz.ntmps31 (Nat.le_of_ble_eq_true (by kernel_rfl)) ?_
  refine GoC.slots (S' := [(0, .agg (CallV.cells c)), (1, .agg (ReqV.cells q))]) rfl ?_
  refine GoC.seq ?_
  refine Xt (.ef 0 (.ef 1 (.rd 2 .done))) ?_
  refine GoR.box rfl rfl (by kernel_rfl) (v := .agg (CallV.cells c)) (by kernel_rfl) hs (cs := CallV.cells c) (by kernel_rfl) ?_
  intro b1 w2 hs3
  refine ⟨Xo, ?_⟩
  refine GoR.box rfl rfl (by kernel_rfl) (v := .agg (ReqV.cells q)) (by kernel_rfl) hs3 (cs := ReqV.cells q) (by kernel_rfl) ?_
  intro b4 w5 hs6
  refine ⟨Xo, ?_⟩
  refine Xk [(2, .gen [])] [] [(4, .bool false), (3, vp b4 0), (2, vp b1 0)] ak0 ?_
  refine GoR.done (GoQ.thn (GoC.seq ?_))
  refine Xt (.rd 0 (.rd 1 (.rd 2 (.rd 3 (.rd 4 (.rd 5 (.rd 6 (.rd 7 (.rd 8 (.rd 9 (.rd 10 (.rd 11 (.rd 12 (.rd 13 (.rd 14 (.rd 15 (.rd 16 (.rd 17 (.rd 18 (.rd 19 .done)))))))))))))))))))) ?_
  refine Xk [(0, .gen []), (1, .gen [.int .i64 c.client]), (2, .gen []), (3, .gen [.int .i64 q.client]), (4, .gen []), (5, .gen [])] [(1, [.cell ⟨b1, 0, none⟩ (.int .i64 c.client)]), (3, [.cell ⟨b4, 0, none⟩ (.int .i64 q.client)])] [(10, .bool ((c.client : Int) == q.client)), (4, .bool false), (3, vp b4 0), (2, vp b1 0)] (ak (okc (hs6.cell 1 rfl (by kernel_rfl)) ok0) (ak (okc (hs6.cell 0 rfl (by kernel_rfl)) ok0) ak0)) ?_
  rcases Bool.eq_false_or_eq_true ((c.client : Int) == q.client) with h7 | h7
  · refine Xs 10 true h7 ?_
    have h7' : (c.client : Int) = q.client := ieqT h7
    refine Xk [(6, .gen []), (7, .gen [.int .u64 c.time]), (8, .gen []), (9, .gen [.int .u64 q.time]), (10, .gen []), (11, .gen []), (12, .gen [])] [(7, [.cell ⟨b1, 1, none⟩ (.int .u64 c.time)]), (9, [.cell ⟨b4, 1, none⟩ (.int .u64 q.time)])] [(17, .bool ((c.time : Int) == q.time)), (4, .bool false), (3, vp b4 0), (2, vp b1 0)] (ak (okc (hs6.cell 1 rfl (by kernel_rfl)) ok0) (ak (okc (hs6.cell 0 rfl (by kernel_rfl)) ok0) ak0)) ?_
    rcases Bool.eq_false_or_eq_true ((c.time : Int) == q.time) with h8 | h8
    · refine Xs 17 true h8 ?_
      have h8' : (c.time : Int) = q.time := ieqT h8
      refine Xk [(13, .gen []), (14, .agg (OpV.cells c.op)), (15, .gen []), (16, .agg (OpV.cells q.op))] [(14, [.prop (Array.size (OpV.cells c.op) = 6), .cells ⟨b1, 2, none⟩ (OpV.cells c.op)]), (16, [.prop (Array.size (OpV.cells q.op) = 6), .cells ⟨b4, 2, none⟩ (OpV.cells q.op)])] [(21, .agg (OpV.cells q.op)), (19, .agg (OpV.cells c.op)), (17, .bool true), (4, .bool false)] (ak (okp (by kernel_rfl) (oka (hs6.cells 1 2 rfl (by kernel_rfl)) ok0)) (ak (okp (by kernel_rfl) (oka (hs6.cells 0 2 rfl (by kernel_rfl)) ok0)) ak0)) ?_
      refine GoR.eqAgg rfl (by kernel_rfl) (b := true) (t := 44) (xs := OpV.cells c.op) (ys := OpV.cells q.op) (m := 2) (by kernel_rfl) (by kernel_rfl) (by decide) (by kernel_rfl) (r := decide (c.op = q.op)) (aggEq  (opEq c.op q.op)) ?_
      refine Xk [(18, .gen []), (19, .gen [])] [] [(4, .bool (decide (c.op = q.op)))] ak0 ?_
      refine GoR.done (GoQ.thn (GoC.ret ?_))
      refine X1 (v := .bool (decide (c.op = q.op))) ?_
      have hs9 : St w0 (L) w5 := hs6.drop 2
      exact ⟨(congrArg Value.bool (by first | exact rof_eq c q | (rw [← rof_eq]; simp_all))), hs9⟩
    · refine Xs 17 false h8 ?_
      have h8' : ¬ ((c.time : Int) = q.time) := ieqF h8
      refine Xk [(13, .gen []), (14, .gen []), (15, .gen []), (16, .gen []), (17, .gen []), (18, .gen []), (19, .gen [])] [] [(4, .bool false)] ak0 ?_
      refine GoR.done (GoQ.thn (GoC.ret ?_))
      refine X1 (v := .bool false) ?_
      have hs10 : St w0 (L) w5 := hs6.drop 2
      exact ⟨(congrArg Value.bool (by first | exact rof_eq c q | (rw [← rof_eq]; simp_all))), hs10⟩
  · refine Xs 10 false h7 ?_
    have h7' : ¬ ((c.client : Int) = q.client) := ieqF h7
    refine Xk [(6, .gen []), (7, .gen []), (8, .gen []), (9, .gen []), (10, .gen []), (11, .gen []), (12, .gen []), (13, .gen []), (14, .gen []), (15, .gen []), (16, .gen []), (17, .gen []), (18, .gen []), (19, .gen [])] [] [(4, .bool false)] ak0 ?_
    refine GoR.done (GoQ.thn (GoC.ret ?_))
    refine X1 (v := .bool false) ?_
    have hs11 : St w0 (L) w5 := hs6.drop 2
    exact ⟨(congrArg Value.bool (by first | exact rof_eq c q | (rw [← rof_eq]; simp_all))), hs11⟩
theorem rplace_spec {w0 w : World} {L : List Asn} {ar : Option Addr} {cr : Nat} (row : List ReqV) (c : CallV) (hrr : row.length ≤ 1000000) (hr : ∀ w, St w0 L w → RowsAt w ar row.length 40 (fun k => ReqV.cells (row.getD k dReq))) (hs : St w0 (L) w) : Calls Tryz.prog 32 #[.agg (CallV.cells c), .slice ar row.length cr] w (Ret fun rv w' => rv = .int .i64 (placeI c row) ∧ St w0 (L) w') := by
  refine enter (args := [.agg (CallV.cells c), .slice ar row.length cr]) Tryz.func32 rfl Tryz.ntmps32 (Nat.le_of_ble_eq_true (by kernel_rfl)) ?_
  refine GoC.slots (S' := [(0, .agg (CallV.cells c)), (1, .slice ar row.length cr)]) rfl ?_
  refine GoC.seq ?_
  refine Xt (.ef 0 (.rd 1 .done)) ?_
  refine GoR.box rfl rfl (by kernel_rfl) (v := .agg (CallV.cells c)) (by kernel_rfl) hs (cs := CallV.cells c) (by kernel_rfl) ?_
  intro b1 w2 hs3
  refine ⟨Xo, ?_⟩
  refine Xk [(1, .gen [])] [] [(4, .int .i64 0), (2, vp b1 0), (1, .slice ar row.length cr)] ak0 ?_
  refine GoR.done (GoQ.thn (GoC.seq (GoC.seq ?_)))
  refine Xt (.rd 0 .done) ?_
  refine Xk [(0, .gen [])] [] [(5, .int .i64 0), (4, .int .i64 0), (2, vp b1 0), (1, .slice ar row.length cr)] ak0 ?_
  refine GoR.done (GoQ.thn (GoC.block ?_))
  refine GoC.loop (T := Nat) (fun gg => [(1, .slice ar row.length cr), (2, vp b1 0), (5, .int .i64 (gg : Nat))]) (fun gg w => (gg ≤ row.length ∧ ∀ z, z < gg → (ofB c) (row.getD z dReq) = false) ∧ St w0 ((Cel b1 (CallV.cells c) 78) :: L) w) (fun gg => row.length - gg) 0 [1, 2, 5] (by kernel_rfl) ⟨⟨Nat.zero_le _, fun i hi => absurd hi (Nat.not_lt_zero _)⟩, hs3⟩ ?_
  rintro k w4 ⟨hp0, hs5⟩
  have hp : k ≤ row.length ∧ ∀ z, z < k → (ofB c) (row.getD z dReq) = false := hp0
  have hs6 : St w0 ((Cel b1 (CallV.cells c) 78) :: L) w4 := hs5
  refine GoC.slots (S' := [(1, .slice ar row.length cr), (2, vp b1 0), (5, .int .i64 (k : Nat))]) rfl ?_
  refine GoC.seq (GoC.seq ?_)
  refine Xt (.rd 0 (.rd 1 (.rd 2 (.rd 3 .done)))) ?_
  refine Xk [(0, .gen []), (1, .gen []), (2, .gen []), (3, .gen [])] [] [(9, .bool (decide (((k : Nat) : Int) < (row.length : Nat)))), (1, .slice ar row.length cr), (2, vp b1 0), (5, .int .i64 (k : Nat))] ak0 ?_
  refine GoR.done (GoQ.thn ?_)
  refine Xc (t := decide (((k : Nat) : Int) < (row.length : Nat))) (fun h7 => ?_) (fun h7 => ?_)
  · have h7' : ((k : Nat) : Int) < (row.length : Nat) := of_decide_eq_true h7
    have hk : k < row.length := by omega
    obtain ⟨ab8, ao9, rfl⟩ := RowsAt.isSome (hr _ (hs6.drop 1)) (by omega)
    refine GoC.skip (GoQ.thn (GoC.seq (GoC.block (GoC.seq ?_))))
    refine GoC.regD [0, 0, 0, 6, 14, 31] (.rd 0 (.rd 1 (.rd 2 (.rd 3 (.rd 4 (.ef 5 .done)))))) (by kernel_rfl) (by kernel_rfl) noPan_body (by kernel_rfl) hs6 ?_
    intro w10 hs11 hw12
    refine Xk [(0, .agg (CallV.cells c)), (1, .gen []), (2, .gen []), (3, .as_ (vp ab8 (ao9 + (k * 40))) .at_), (4, .agg (ReqV.cells (row.getD k dReq)))] [(0, [.prop (Array.size (CallV.cells c) = 13), .cells ⟨b1, 0, none⟩ (CallV.cells c)]), (3, [.prop (0 ≤ ((k : Nat) : Int) ∧ ((k : Nat) : Int) < ((row.length : Nat) : Int)), .prop (Value.pointer (some (Addr.add ⟨ab8, ao9, none⟩ (Int.toNat (k : Nat) * 40))) = Value.pointer (some ⟨ab8, ao9 + (k * 40), none⟩))]), (4, [.prop (Array.size (ReqV.cells (row.getD k dReq)) = 40), .cells ⟨ab8, ao9 + (k * 40), none⟩ (ReqV.cells (row.getD k dReq))])] [(16, .agg (ReqV.cells (row.getD k dReq))), (12, .agg (CallV.cells c)), (1, vl ab8 ao9 row.length cr), (2, vp b1 0), (5, .int .i64 (k : Nat))] (ak (okp (by kernel_rfl) (oka (hs11.cells 0 0 rfl (by kernel_rfl)) ok0)) (ak (okp (by omega) (okp (ptrAdd _ _ _) ok0)) (ak (okp (by kernel_rfl) (oka (RowsAt.all0 (hr _ (hs11.drop 1)) (by first | omega | (simp only [List.length_set]; omega) | (simp only [List.length_set, List.length_append, List.length_cons, List.length_nil]; omega)) (Nat.le_of_ble_eq_true (by kernel_rfl)) (by kernel_rfl)) ok0)) ak0))) ?_
    refine Xa (f := 31) (args := #[.agg (CallV.cells c), .agg (ReqV.cells (row.getD k dReq))]) Tryz.call31 (rof_spec c (row.getD k dReq) hs11) ?_
    rintro v14 w15 ⟨rfl, hs13⟩
    refine ⟨Xo, ?_⟩
    refine GoR.done (GoQ.thn ?_)
    refine Xc (t := ofB c (row.getD k dReq)) (fun h16 => ?_) (fun h16 => ?_)
    · refine GoC.seq ?_
      refine Xt (.rd 0 (.rd 1 .done)) ?_
      refine Xk [(0, .gen []), (1, .gen [])] [] [(4, .int .i64 (k : Nat)), (1, vl ab8 ao9 row.length cr), (2, vp b1 0), (5, .int .i64 (k : Nat))] ak0 ?_
      refine GoR.done (GoQ.thn (GoC.ret (GoQ.blkR (GoQ.skipCR (GoQ.skipLR (GoQ.blkR (GoQ.skipCR ?_)))))))
      refine X1 (v := .int .i64 (k : Nat)) ?_
      have hs17 : St w0 (L) w15 := hs13.drop 1
      exact ⟨(by rw [placeI, idx_at (d := dReq) (p := ofB c) hk (show (ofB c) (row.getD k dReq) = true from h16) hp.2]; rfl), hs17⟩
    · refine GoC.skip (GoQ.blkN (GoQ.thn ?_))
      refine Xt (.rd 0 (.rd 1 (.rd 2 .done))) ?_
      refine Xk [(0, .gen []), (1, .as_ (.int .i64 ((k : Nat) + 1)) (.gen [])), (2, .gen [])] [(1, [.prop (Value.int .i64 (IntKind.i64.wrap ((k : Nat) + 1)) = Value.int .i64 ((k : Nat) + 1))])] [(5, .int .i64 ((k : Nat) + 1)), (1, vl ab8 ao9 row.length cr), (2, vp b1 0)] (ak (okp (i64ok (by omega) (by omega)) ok0) ak0) ?_
      refine GoR.done ?_
      exact GoQ.back (k + 1) [1, 2, 5] (by kernel_rfl) (by show row.length - (k + 1) < row.length - k; omega) ⟨⟨by omega, none_step (p := fun z => (ofB c) (row.getD z dReq)) hp.2 (show (ofB c) (row.getD k dReq) = false from h16)⟩, hs13⟩
  · have h7' : ¬ (((k : Nat) : Int) < (row.length : Nat)) := of_decide_eq_false h7
    refine GoC.exit (GoQ.skipC (GoQ.skipL (GoQ.hit (GoQ.thn (GoC.seq ?_)))))
    refine Xt (.rd 0 .done) ?_
    refine Xk [(0, .gen [])] [] [(4, .int .i64 (-1))] ak0 ?_
    refine GoR.done (GoQ.thn (GoC.ret ?_))
    refine X1 (v := .int .i64 (-1)) ?_
    have hs18 : St w0 (L) w4 := hs6.drop 1
    exact ⟨(by rw [placeI, idx_none (d := dReq) (l := row) (p := ofB c) (fun i hi => hp.2 i (by omega))]; rfl), hs18⟩
set_option maxHeartbeats 4000000 in
theorem rcalls_spec {w0 w : World} {L : List Asn} {al : Option Addr} {cl : Nat} (l : List CallV) (hll : l.length ≤ 1000000) (hr : ∀ w, St w0 L w → RowsAt w al l.length 13 (fun k => CallV.cells (l.getD k dCall))) (hs : St w0 (L) w) : Calls Tryz.prog 30 #[.slice al l.length cl] w (Ret fun rv w' => rv = .tuple #[.int .i64 ((callsV l).1), .int .i64 ((callsV l).2)] ∧ St w0 (L) w') := by
  refine enter (args := [.slice al l.length cl]) Tryz.func30 rfl Tryz.ntmps30 (Nat.le_of_ble_eq_true (by kernel_rfl)) ?_
  refine GoC.slots (S' := [(0, .slice al l.length cl)]) rfl ?_
  refine GoC.seq ?_
  refine Xt (.rd 0 (.rd 1 .done)) ?_
  refine Xk [(0, .gen []), (1, .gen [])] [] [(3, .int .i64 0), (2, .int .i64 0), (0, .slice al l.length cl)] ak0 ?_
  refine GoR.done (GoQ.thn (GoC.seq (GoC.seq ?_)))
  refine Xt (.rd 0 .done) ?_
  refine Xk [(0, .gen [])] [] [(4, .int .i64 0), (3, .int .i64 0), (2, .int .i64 0), (0, .slice al l.length cl)] ak0 ?_
  refine GoR.done (GoQ.thn (GoC.block ?_))
  refine GoC.loop (T := Nat) (fun gg => [(0, .slice al l.length cl), (4, .int .i64 (gg : Nat))]) (fun gg w => (gg ≤ l.length ∧ ∀ i, i < gg → twP nameOf dCall l i = false) ∧ St w0 (L) w) (fun gg => l.length - gg) 0 [0, 4] (by kernel_rfl) ⟨⟨Nat.zero_le _, fun i hi => absurd hi (Nat.not_lt_zero _)⟩, hs⟩ ?_
  rintro i1 w1 ⟨hp01, hs2⟩
  have hp1 : i1 ≤ l.length ∧ ∀ i, i < i1 → twP nameOf dCall l i = false := hp01
  have hs3 : St w0 (L) w1 := hs2
  refine GoC.slots (S' := [(0, .slice al l.length cl), (4, .int .i64 (i1 : Nat))]) rfl ?_
  refine GoC.seq (GoC.seq ?_)
  refine Xt (.rd 0 (.rd 1 (.rd 2 (.rd 3 .done)))) ?_
  refine Xk [(0, .gen []), (1, .gen []), (2, .gen []), (3, .gen [])] [] [(11, .bool (decide (((i1 : Nat) : Int) < (l.length : Nat)))), (0, .slice al l.length cl), (4, .int .i64 (i1 : Nat))] ak0 ?_
  refine GoR.done (GoQ.thn ?_)
  refine Xc (t := decide (((i1 : Nat) : Int) < (l.length : Nat))) (fun h4 => ?_) (fun h4 => ?_)
  · have h4' : ((i1 : Nat) : Int) < (l.length : Nat) := of_decide_eq_true h4
    have hi1 : i1 < l.length := by omega
    obtain ⟨ab5, ao6, rfl⟩ := RowsAt.isSome (hr _ (hs3.drop 0)) (by omega)
    refine GoC.skip (GoQ.thn (GoC.seq (GoC.block (GoC.seq ?_))))
    refine Xt (.rd 0 .done) ?_
    refine Xk [(0, .gen [])] [] [(5, .int .i64 0), (0, vl ab5 ao6 l.length cl), (4, .int .i64 (i1 : Nat))] ak0 ?_
    refine GoR.done (GoQ.thn (GoC.block ?_))
    refine GoC.loop (T := Nat) (fun gg => [(0, vl ab5 ao6 l.length cl), (4, .int .i64 (i1 : Nat)), (5, .int .i64 (gg : Nat))]) (fun gg w => (gg ≤ i1 ∧ ∀ i, i < gg → ¬ nameOf (l.getD i dCall) = nameOf (l.getD i1 dCall)) ∧ St w0 (L) w) (fun gg => i1 - gg) 0 [0, 4, 5] (by kernel_rfl) ⟨⟨Nat.zero_le _, fun i hi => absurd hi (Nat.not_lt_zero _)⟩, hs3⟩ ?_
    rintro k1 w7 ⟨hq01, hs8⟩
    have hq1 : k1 ≤ i1 ∧ ∀ i, i < k1 → ¬ nameOf (l.getD i dCall) = nameOf (l.getD i1 dCall) := hq01
    have hs9 : St w0 (L) w7 := hs8
    refine GoC.slots (S' := [(0, vl ab5 ao6 l.length cl), (4, .int .i64 (i1 : Nat)), (5, .int .i64 (k1 : Nat))]) rfl ?_
    refine GoC.seq (GoC.seq ?_)
    refine Xt (.rd 0 (.rd 1 (.rd 2 .done))) ?_
    refine Xk [(0, .gen []), (1, .gen []), (2, .gen [])] [] [(16, .bool (decide (((k1 : Nat) : Int) < (i1 : Nat)))), (0, vl ab5 ao6 l.length cl), (4, .int .i64 (i1 : Nat)), (5, .int .i64 (k1 : Nat))] ak0 ?_
    refine GoR.done (GoQ.thn ?_)
    refine Xc (t := decide (((k1 : Nat) : Int) < (i1 : Nat))) (fun h10 => ?_) (fun h10 => ?_)
    · have h10' : ((k1 : Nat) : Int) < (i1 : Nat) := of_decide_eq_true h10
      have hk1 : k1 < l.length := by omega
      refine GoC.skip (GoQ.thn (GoC.seq (GoC.block (GoC.seq ?_))))
      refine GoC.join (T := Unit) (E := fun _ => [(42, .bool (((((l.getD k1 dCall).client) : Int) == ((l.getD i1 dCall).client)) && ((((l.getD k1 dCall).time) : Int) == ((l.getD i1 dCall).time)))), (0, vl ab5 ao6 l.length cl), (4, .int .i64 (i1 : Nat)), (5, .int .i64 (k1 : Nat))]) (F := fun _ w => St w0 (L) w) ?_ ?_
      · refine GoC.regD [0, 0, 3, 7, 15, 0, 0, 96, 224, 480, 1023, 2047, 4095, 4095, 16383, 32767, 65535, 4095, 4095, 397311, 921599, 1970175, 4194303, 8388607] (.rd 0 (.rd 1 (.rd 2 (.rd 3 (.rd 4 (.rd 5 (.rd 6 (.rd 7 (.rd 8 (.rd 9 (.rd 10 (.rd 11 (.rd 12 (.rd 13 (.rd 14 (.rd 15 (.rd 16 (.rd 17 (.rd 18 (.rd 19 (.rd 20 (.rd 21 (.rd 22 (.rd 23 .done)))))))))))))))))))))))) (by kernel_rfl) (by kernel_rfl) noPan_body (by kernel_rfl) hs9 ?_
        intro w11 hs12 hw13
        refine Xk [(0, .gen []), (1, .gen []), (2, .as_ (vp ab5 (ao6 + (k1 * 13))) .at_), (3, .gen []), (4, .gen [.int .i64 ((l.getD k1 dCall).client)]), (5, .gen []), (6, .gen []), (7, .as_ (vp ab5 (ao6 + (i1 * 13))) .at_), (8, .gen []), (9, .gen [.int .i64 ((l.getD i1 dCall).client)]), (10, .gen []), (11, .gen [])] [(2, [.prop (0 ≤ ((k1 : Nat) : Int) ∧ ((k1 : Nat) : Int) < ((l.length : Nat) : Int)), .prop (Value.pointer (some (Addr.add ⟨ab5, ao6, none⟩ (Int.toNat (k1 : Nat) * 13))) = Value.pointer (some ⟨ab5, ao6 + (k1 * 13), none⟩))]), (4, [.cell ⟨ab5, ao6 + (k1 * 13), none⟩ (.int .i64 ((l.getD k1 dCall).client))]), (7, [.prop (0 ≤ ((i1 : Nat) : Int) ∧ ((i1 : Nat) : Int) < ((l.length : Nat) : Int)), .prop (Value.pointer (some (Addr.add ⟨ab5, ao6, none⟩ (Int.toNat (i1 : Nat) * 13))) = Value.pointer (some ⟨ab5, ao6 + (i1 * 13), none⟩))]), (9, [.cell ⟨ab5, ao6 + (i1 * 13), none⟩ (.int .i64 ((l.getD i1 dCall).client))])] [(30, .bool ((((l.getD k1 dCall).client) : Int) == ((l.getD i1 dCall).client))), (0, vl ab5 ao6 l.length cl), (4, .int .i64 (i1 : Nat)), (5, .int .i64 (k1 : Nat))] (ak (okp (by omega) (okp (ptrAdd _ _ _) ok0)) (ak (okc (RowsAt.at0 (hr _ (hs12.drop 0)) (k := k1) (by first | omega | (simp only [List.length_set]; omega) | (simp only [List.length_set, List.length_append, List.length_cons, List.length_nil]; omega)) (j := 0) (by decide) (by kernel_rfl)) ok0) (ak (okp (by omega) (okp (ptrAdd _ _ _) ok0)) (ak (okc (RowsAt.at0 (hr _ (hs12.drop 0)) (k := i1) (by first | omega | (simp only [List.length_set]; omega) | (simp only [List.length_set, List.length_append, List.length_cons, List.length_nil]; omega)) (j := 0) (by decide) (by kernel_rfl)) ok0) ak0)))) ?_
        rcases Bool.eq_false_or_eq_true ((((l.getD k1 dCall).client) : Int) == ((l.getD i1 dCall).client)) with h14 | h14
        · refine Xs 30 true h14 ?_
          have h14' : ((l.getD k1 dCall).client : Int) = ((l.getD i1 dCall).client) := ieqT h14
          refine Xk [(12, .gen []), (13, .gen []), (14, .as_ (vp ab5 (ao6 + (k1 * 13))) .at_), (15, .gen []), (16, .gen [.int .u64 ((l.getD k1 dCall).time)]), (17, .gen []), (18, .gen []), (19, .as_ (vp ab5 (ao6 + (i1 * 13))) .at_), (20, .gen []), (21, .gen [.int .u64 ((l.getD i1 dCall).time)]), (22, .gen []), (23, .gen [])] [(14, [.prop (0 ≤ ((k1 : Nat) : Int) ∧ ((k1 : Nat) : Int) < ((l.length : Nat) : Int)), .prop (Value.pointer (some (Addr.add ⟨ab5, ao6, none⟩ (Int.toNat (k1 : Nat) * 13))) = Value.pointer (some ⟨ab5, ao6 + (k1 * 13), none⟩))]), (16, [.cell ⟨ab5, ao6 + (k1 * 13) + 1, none⟩ (.int .u64 ((l.getD k1 dCall).time))]), (19, [.prop (0 ≤ ((i1 : Nat) : Int) ∧ ((i1 : Nat) : Int) < ((l.length : Nat) : Int)), .prop (Value.pointer (some (Addr.add ⟨ab5, ao6, none⟩ (Int.toNat (i1 : Nat) * 13))) = Value.pointer (some ⟨ab5, ao6 + (i1 * 13), none⟩))]), (21, [.cell ⟨ab5, ao6 + (i1 * 13) + 1, none⟩ (.int .u64 ((l.getD i1 dCall).time))])] [(42, .bool ((((l.getD k1 dCall).time) : Int) == ((l.getD i1 dCall).time))), (0, vl ab5 ao6 l.length cl), (4, .int .i64 (i1 : Nat)), (5, .int .i64 (k1 : Nat))] (ak (okp (by omega) (okp (ptrAdd _ _ _) ok0)) (ak (okc (RowsAt.at0 (hr _ (hs12.drop 0)) (k := k1) (by first | omega | (simp only [List.length_set]; omega) | (simp only [List.length_set, List.length_append, List.length_cons, List.length_nil]; omega)) (j := 1) (by decide) (by kernel_rfl)) ok0) (ak (okp (by omega) (okp (ptrAdd _ _ _) ok0)) (ak (okc (RowsAt.at0 (hr _ (hs12.drop 0)) (k := i1) (by first | omega | (simp only [List.length_set]; omega) | (simp only [List.length_set, List.length_append, List.length_cons, List.length_nil]; omega)) (j := 1) (by decide) (by kernel_rfl)) ok0) ak0)))) ?_
          refine GoR.done ?_
          refine GoQ.pick [42, 0, 4, 5] (S' := [(42, .bool ((((l.getD k1 dCall).time) : Int) == ((l.getD i1 dCall).time))), (0, vl ab5 ao6 l.length cl), (4, .int .i64 (i1 : Nat)), (5, .int .i64 (k1 : Nat))]) (by kernel_rfl) ?_
          exact GoQ.meet1 () (by first | rfl | (simp only [h14, Bool.not_true, Bool.not_false, Bool.true_or, Bool.false_or, Bool.true_and, Bool.false_and, Bool.or_true, Bool.or_false, Bool.and_true, Bool.and_false]; done) | (simp [h14]; done)) hs12
        · refine Xs 30 false h14 ?_
          have h14' : ¬ (((l.getD k1 dCall).client : Int) = ((l.getD i1 dCall).client)) := ieqF h14
          refine Xk [(12, .gen []), (13, .gen []), (14, .gen []), (15, .gen []), (16, .gen []), (17, .gen []), (18, .gen []), (19, .gen []), (20, .gen []), (21, .gen []), (22, .gen []), (23, .gen [])] [] [(42, .bool false), (0, vl ab5 ao6 l.length cl), (4, .int .i64 (i1 : Nat)), (5, .int .i64 (k1 : Nat))] ak0 ?_
          refine GoR.done ?_
          refine GoQ.pick [42, 0, 4, 5] (S' := [(42, .bool false), (0, vl ab5 ao6 l.length cl), (4, .int .i64 (i1 : Nat)), (5, .int .i64 (k1 : Nat))]) (by kernel_rfl) ?_
          exact GoQ.meet1 () (by first | rfl | (simp only [h14, Bool.not_true, Bool.not_false, Bool.true_or, Bool.false_or, Bool.true_and, Bool.false_and, Bool.or_true, Bool.or_false, Bool.and_true, Bool.and_false]; done) | (simp [h14]; done)) hs12
      intro _ w15 hs16
      refine GoQ.thn ?_
      refine Xc (t := ((((l.getD k1 dCall).client) : Int) == ((l.getD i1 dCall).client)) && ((((l.getD k1 dCall).time) : Int) == ((l.getD i1 dCall).time))) (fun h17 => ?_) (fun h17 => ?_)
      · have h17a : ((((l.getD k1 dCall).client) : Int) == ((l.getD i1 dCall).client)) = true := (Bool.and_eq_true_iff.1 h17).1
        have h17a' : ((l.getD k1 dCall).client : Int) = ((l.getD i1 dCall).client) := ieqT h17a
        have h17b : ((((l.getD k1 dCall).time) : Int) == ((l.getD i1 dCall).time)) = true := (Bool.and_eq_true_iff.1 h17).2
        have h17b' : ((l.getD k1 dCall).time : Int) = ((l.getD i1 dCall).time) := ieqT h17b
        refine GoC.seq ?_
        refine Xt (.rd 0 (.rd 1 (.rd 2 .done))) ?_
        refine Xk [(0, .gen []), (1, .gen []), (2, .gen [])] [] [(3, .int .i64 (i1 : Nat)), (2, .int .i64 1), (0, vl ab5 ao6 l.length cl), (4, .int .i64 (i1 : Nat)), (5, .int .i64 (k1 : Nat))] ak0 ?_
        refine GoR.done (GoQ.thn (GoC.ret (GoQ.blkR (GoQ.skipCR (GoQ.skipLR (GoQ.blkR (GoQ.blkR (GoQ.skipCR (GoQ.skipLR (GoQ.blkR (GoQ.skipCR ?_)))))))))))
        refine X2 (v := .int .i64 1) (v' := .int .i64 (i1 : Nat)) ?_
        exact ⟨(by rw [callsV_1 (show twO nameOf dCall l = some i1 from firstO_some hi1 ((twP_iff hi1).2 ⟨k1, by omega, of_decide_eq_true ((name_eq _ _).symm.trans h17)⟩) hp1.2)]), hs16⟩
      · refine GoC.skip (GoQ.blkN (GoQ.thn ?_))
        refine Xt (.rd 0 (.rd 1 (.rd 2 .done))) ?_
        refine Xk [(0, .gen []), (1, .as_ (.int .i64 ((k1 : Nat) + 1)) (.gen [])), (2, .gen [])] [(1, [.prop (Value.int .i64 (IntKind.i64.wrap ((k1 : Nat) + 1)) = Value.int .i64 ((k1 : Nat) + 1))])] [(5, .int .i64 ((k1 : Nat) + 1)), (0, vl ab5 ao6 l.length cl), (4, .int .i64 (i1 : Nat))] (ak (okp (i64ok (by omega) (by omega)) ok0) ak0) ?_
        refine GoR.done ?_
        exact GoQ.back (k1 + 1) [0, 4, 5] (by kernel_rfl) (by show i1 - (k1 + 1) < i1 - k1; omega) ⟨⟨by omega, fun i hi => (Nat.lt_succ_iff_lt_or_eq.1 hi).elim (hq1.2 i) (fun e => by rw [e]; exact of_decide_eq_false ((name_eq _ _).symm.trans h17))⟩, hs16⟩
    · have h10' : ¬ (((k1 : Nat) : Int) < (i1 : Nat)) := of_decide_eq_false h10
      refine GoC.exit (GoQ.skipC (GoQ.skipL (GoQ.hit (GoQ.blkN (GoQ.thn ?_)))))
      refine Xt (.rd 0 (.rd 1 (.rd 2 .done))) ?_
      refine Xk [(0, .gen []), (1, .as_ (.int .i64 ((i1 : Nat) + 1)) (.gen [])), (2, .gen [])] [(1, [.prop (Value.int .i64 (IntKind.i64.wrap ((i1 : Nat) + 1)) = Value.int .i64 ((i1 : Nat) + 1))])] [(4, .int .i64 ((i1 : Nat) + 1)), (0, vl ab5 ao6 l.length cl)] (ak (okp (i64ok (by omega) (by omega)) ok0) ak0) ?_
      refine GoR.done ?_
      exact GoQ.back (i1 + 1) [0, 4] (by kernel_rfl) (by show l.length - (i1 + 1) < l.length - i1; omega) ⟨⟨by omega, none_step (p := fun i => twP nameOf dCall l i) hp1.2 (twP_no hi1 (fun k hk => hq1.2 k (by omega)))⟩, hs9⟩
  · have h4' : ¬ (((i1 : Nat) : Int) < (l.length : Nat)) := of_decide_eq_false h4
    have htw : twO nameOf dCall l = none := firstO_none (fun i hi => hp1.2 i (by omega))
    refine GoC.exit (GoQ.skipC (GoQ.skipL (GoQ.hit (GoQ.thn (GoC.seq (GoC.seq ?_))))))
    refine Xt (.rd 0 .done) ?_
    refine Xk [(0, .gen [])] [] [(6, .int .i64 0), (0, .slice al l.length cl)] ak0 ?_
    refine GoR.done (GoQ.thn (GoC.block ?_))
    refine GoC.loop (T := Nat) (fun gg => [(0, .slice al l.length cl), (6, .int .i64 (gg : Nat))]) (fun gg w => (gg ≤ l.length ∧ ∀ i, i < gg → overB l (l.getD i dCall) = false) ∧ St w0 (L) w) (fun gg => l.length - gg) 0 [0, 6] (by kernel_rfl) ⟨⟨Nat.zero_le _, fun i hi => absurd hi (Nat.not_lt_zero _)⟩, hs3⟩ ?_
    rintro i2 w18 ⟨hp02, hs19⟩
    have hp2 : i2 ≤ l.length ∧ ∀ i, i < i2 → overB l (l.getD i dCall) = false := hp02
    have hs20 : St w0 (L) w18 := hs19
    refine GoC.slots (S' := [(0, .slice al l.length cl), (6, .int .i64 (i2 : Nat))]) rfl ?_
    refine GoC.seq (GoC.seq ?_)
    refine Xt (.rd 0 (.rd 1 (.rd 2 (.rd 3 .done)))) ?_
    refine Xk [(0, .gen []), (1, .gen []), (2, .gen []), (3, .gen [])] [] [(47, .bool (decide (((i2 : Nat) : Int) < (l.length : Nat)))), (0, .slice al l.length cl), (6, .int .i64 (i2 : Nat))] ak0 ?_
    refine GoR.done (GoQ.thn ?_)
    refine Xc (t := decide (((i2 : Nat) : Int) < (l.length : Nat))) (fun h21 => ?_) (fun h21 => ?_)
    · have h21' : ((i2 : Nat) : Int) < (l.length : Nat) := of_decide_eq_true h21
      have hi2 : i2 < l.length := by omega
      obtain ⟨ab22, ao23, rfl⟩ := RowsAt.isSome (hr _ (hs20.drop 0)) (by omega)
      refine GoC.skip (GoQ.thn (GoC.seq (GoC.block (GoC.seq ?_))))
      refine Xt (.rd 0 .done) ?_
      refine Xk [(0, .gen [])] [] [(7, .int .i64 0), (0, vl ab22 ao23 l.length cl), (6, .int .i64 (i2 : Nat))] ak0 ?_
      refine GoR.done (GoQ.thn (GoC.block ?_))
      refine GoC.loop (T := Nat) (fun gg => [(0, vl ab22 ao23 l.length cl), (6, .int .i64 (i2 : Nat)), (7, .int .i64 (gg : Nat))]) (fun gg w => (gg ≤ l.length ∧ ∀ i, i < gg → over1 (l.getD i2 dCall) (l.getD i dCall) = false) ∧ St w0 (L) w) (fun gg => l.length - gg) 0 [0, 6, 7] (by kernel_rfl) ⟨⟨Nat.zero_le _, fun i hi => absurd hi (Nat.not_lt_zero _)⟩, hs20⟩ ?_
      rintro k2 w24 ⟨hq02, hs25⟩
      have hq2 : k2 ≤ l.length ∧ ∀ i, i < k2 → over1 (l.getD i2 dCall) (l.getD i dCall) = false := hq02
      have hs26 : St w0 (L) w24 := hs25
      refine GoC.slots (S' := [(0, vl ab22 ao23 l.length cl), (6, .int .i64 (i2 : Nat)), (7, .int .i64 (k2 : Nat))]) rfl ?_
      refine GoC.seq (GoC.seq ?_)
      refine Xt (.rd 0 (.rd 1 (.rd 2 (.rd 3 .done)))) ?_
      refine Xk [(0, .gen []), (1, .gen []), (2, .gen []), (3, .gen [])] [] [(53, .bool (decide (((k2 : Nat) : Int) < (l.length : Nat)))), (0, vl ab22 ao23 l.length cl), (6, .int .i64 (i2 : Nat)), (7, .int .i64 (k2 : Nat))] ak0 ?_
      refine GoR.done (GoQ.thn ?_)
      refine Xc (t := decide (((k2 : Nat) : Int) < (l.length : Nat))) (fun h27 => ?_) (fun h27 => ?_)
      · have h27' : ((k2 : Nat) : Int) < (l.length : Nat) := of_decide_eq_true h27
        have hk2 : k2 < l.length := by omega
        refine GoC.skip (GoQ.thn (GoC.seq (GoC.block (GoC.seq ?_))))
        refine GoC.join (T := Unit) (E := fun _ => [(100, .bool ((((((l.getD k2 dCall).client) : Int) == ((l.getD i2 dCall).client)) && (decide (((l.getD k2 dCall).time : Int) < ((l.getD i2 dCall).time)))) && ((!((l.getD k2 dCall).done)) || (decide (((l.getD k2 dCall).to_ : Int) ≥ ((l.getD i2 dCall).from_)))))), (0, vl ab22 ao23 l.length cl), (6, .int .i64 (i2 : Nat)), (7, .int .i64 (k2 : Nat))]) (F := fun _ w => St w0 (L) w) ?_ ?_
        · refine GoC.regD [0, 0, 3, 7, 15, 0, 0, 96, 224, 480, 1023, 2047, 4095, 4095, 16383, 32767, 65535, 4095, 4095, 397311, 921599, 1970175, 4194303, 8388607, 16777215, 33554431, 33554431, 134217727, 268435455, 536870911, 1073741823, 2147483647, 4294967295, 4294967295, 17179869183, 34359738367, 68719476735, 4294967295, 4294967295, 416611827711, 966367641599, 2065879269375, 4398046511103, 8796093022207, 17592186044415] (.rd 0 (.rd 1 (.rd 2 (.rd 3 (.rd 4 (.rd 5 (.rd 6 (.rd 7 (.rd 8 (.rd 9 (.rd 10 (.rd 11 (.rd 12 (.rd 13 (.rd 14 (.rd 15 (.rd 16 (.rd 17 (.rd 18 (.rd 19 (.rd 20 (.rd 21 (.rd 22 (.rd 23 (.rd 24 (.rd 25 (.rd 26 (.rd 27 (.rd 28 (.rd 29 (.rd 30 (.rd 31 (.rd 32 (.rd 33 (.rd 34 (.rd 35 (.rd 36 (.rd 37 (.rd 38 (.rd 39 (.rd 40 (.rd 41 (.rd 42 (.rd 43 (.rd 44 .done))))))))))))))))))))))))))))))))))))))))))))) (by kernel_rfl) (by kernel_rfl) noPan_body (by kernel_rfl) hs26 ?_
          intro w28 hs29 hw30
          refine Xk [(0, .gen []), (1, .gen []), (2, .as_ (vp ab22 (ao23 + (k2 * 13))) .at_), (3, .gen []), (4, .gen [.int .i64 ((l.getD k2 dCall).client)]), (5, .gen []), (6, .gen []), (7, .as_ (vp ab22 (ao23 + (i2 * 13))) .at_), (8, .gen []), (9, .gen [.int .i64 ((l.getD i2 dCall).client)]), (10, .gen []), (11, .gen [])] [(2, [.prop (0 ≤ ((k2 : Nat) : Int) ∧ ((k2 : Nat) : Int) < ((l.length : Nat) : Int)), .prop (Value.pointer (some (Addr.add ⟨ab22, ao23, none⟩ (Int.toNat (k2 : Nat) * 13))) = Value.pointer (some ⟨ab22, ao23 + (k2 * 13), none⟩))]), (4, [.cell ⟨ab22, ao23 + (k2 * 13), none⟩ (.int .i64 ((l.getD k2 dCall).client))]), (7, [.prop (0 ≤ ((i2 : Nat) : Int) ∧ ((i2 : Nat) : Int) < ((l.length : Nat) : Int)), .prop (Value.pointer (some (Addr.add ⟨ab22, ao23, none⟩ (Int.toNat (i2 : Nat) * 13))) = Value.pointer (some ⟨ab22, ao23 + (i2 * 13), none⟩))]), (9, [.cell ⟨ab22, ao23 + (i2 * 13), none⟩ (.int .i64 ((l.getD i2 dCall).client))])] [(67, .bool ((((l.getD k2 dCall).client) : Int) == ((l.getD i2 dCall).client))), (0, vl ab22 ao23 l.length cl), (6, .int .i64 (i2 : Nat)), (7, .int .i64 (k2 : Nat))] (ak (okp (by omega) (okp (ptrAdd _ _ _) ok0)) (ak (okc (RowsAt.at0 (hr _ (hs29.drop 0)) (k := k2) (by first | omega | (simp only [List.length_set]; omega) | (simp only [List.length_set, List.length_append, List.length_cons, List.length_nil]; omega)) (j := 0) (by decide) (by kernel_rfl)) ok0) (ak (okp (by omega) (okp (ptrAdd _ _ _) ok0)) (ak (okc (RowsAt.at0 (hr _ (hs29.drop 0)) (k := i2) (by first | omega | (simp only [List.length_set]; omega) | (simp only [List.length_set, List.length_append, List.length_cons, List.length_nil]; omega)) (j := 0) (by decide) (by kernel_rfl)) ok0) ak0)))) ?_
          rcases Bool.eq_false_or_eq_true ((((l.getD k2 dCall).client) : Int) == ((l.getD i2 dCall).client)) with h31 | h31
          · refine Xs 67 true h31 ?_
            have h31' : ((l.getD k2 dCall).client : Int) = ((l.getD i2 dCall).client) := ieqT h31
            refine Xk [(12, .gen []), (13, .gen []), (14, .as_ (vp ab22 (ao23 + (k2 * 13))) .at_), (15, .gen []), (16, .gen [.int .u64 ((l.getD k2 dCall).time)]), (17, .gen []), (18, .gen []), (19, .as_ (vp ab22 (ao23 + (i2 * 13))) .at_), (20, .gen []), (21, .gen [.int .u64 ((l.getD i2 dCall).time)]), (22, .gen []), (23, .gen []), (24, .gen [])] [(14, [.prop (0 ≤ ((k2 : Nat) : Int) ∧ ((k2 : Nat) : Int) < ((l.length : Nat) : Int)), .prop (Value.pointer (some (Addr.add ⟨ab22, ao23, none⟩ (Int.toNat (k2 : Nat) * 13))) = Value.pointer (some ⟨ab22, ao23 + (k2 * 13), none⟩))]), (16, [.cell ⟨ab22, ao23 + (k2 * 13) + 1, none⟩ (.int .u64 ((l.getD k2 dCall).time))]), (19, [.prop (0 ≤ ((i2 : Nat) : Int) ∧ ((i2 : Nat) : Int) < ((l.length : Nat) : Int)), .prop (Value.pointer (some (Addr.add ⟨ab22, ao23, none⟩ (Int.toNat (i2 : Nat) * 13))) = Value.pointer (some ⟨ab22, ao23 + (i2 * 13), none⟩))]), (21, [.cell ⟨ab22, ao23 + (i2 * 13) + 1, none⟩ (.int .u64 ((l.getD i2 dCall).time))])] [(80, .bool (decide (((l.getD k2 dCall).time : Int) < ((l.getD i2 dCall).time)))), (0, vl ab22 ao23 l.length cl), (6, .int .i64 (i2 : Nat)), (7, .int .i64 (k2 : Nat))] (ak (okp (by omega) (okp (ptrAdd _ _ _) ok0)) (ak (okc (RowsAt.at0 (hr _ (hs29.drop 0)) (k := k2) (by first | omega | (simp only [List.length_set]; omega) | (simp only [List.length_set, List.length_append, List.length_cons, List.length_nil]; omega)) (j := 1) (by decide) (by kernel_rfl)) ok0) (ak (okp (by omega) (okp (ptrAdd _ _ _) ok0)) (ak (okc (RowsAt.at0 (hr _ (hs29.drop 0)) (k := i2) (by first | omega | (simp only [List.length_set]; omega) | (simp only [List.length_set, List.length_append, List.length_cons, List.length_nil]; omega)) (j := 1) (by decide) (by kernel_rfl)) ok0) ak0)))) ?_
            rcases Bool.eq_false_or_eq_true (decide (((l.getD k2 dCall).time : Int) < ((l.getD i2 dCall).time))) with h32 | h32
            · refine Xs 80 true h32 ?_
              have h32' : ((l.getD k2 dCall).time : Int) < ((l.getD i2 dCall).time) := of_decide_eq_true h32
              refine Xk [(25, .gen []), (26, .gen []), (27, .as_ (vp ab22 (ao23 + (k2 * 13))) .at_), (28, .gen []), (29, .gen [.bool ((l.getD k2 dCall).done)]), (30, .gen []), (31, .gen [])] [(27, [.prop (0 ≤ ((k2 : Nat) : Int) ∧ ((k2 : Nat) : Int) < ((l.length : Nat) : Int)), .prop (Value.pointer (some (Addr.add ⟨ab22, ao23, none⟩ (Int.toNat (k2 : Nat) * 13))) = Value.pointer (some ⟨ab22, ao23 + (k2 * 13), none⟩))]), (29, [.cell ⟨ab22, ao23 + (k2 * 13) + 10, none⟩ (.bool ((l.getD k2 dCall).done))])] [(87, .bool (!((l.getD k2 dCall).done))), (80, .bool true), (0, vl ab22 ao23 l.length cl), (6, .int .i64 (i2 : Nat)), (7, .int .i64 (k2 : Nat))] (ak (okp (by omega) (okp (ptrAdd _ _ _) ok0)) (ak (okc (RowsAt.at0 (hr _ (hs29.drop 0)) (k := k2) (by first | omega | (simp only [List.length_set]; omega) | (simp only [List.length_set, List.length_append, List.length_cons, List.length_nil]; omega)) (j := 10) (by decide) (by kernel_rfl)) ok0) ak0)) ?_
              rcases Bool.eq_false_or_eq_true (!((l.getD k2 dCall).done)) with h33 | h33
              · refine Xs 87 true h33 ?_
                have h33n : ((l.getD k2 dCall).done) = false := notT h33
                refine Xk [(32, .gen []), (33, .gen []), (34, .gen []), (35, .gen []), (36, .gen []), (37, .gen []), (38, .gen []), (39, .gen []), (40, .gen []), (41, .gen []), (42, .gen []), (43, .gen []), (44, .gen [])] [] [(100, .bool true), (0, vl ab22 ao23 l.length cl), (6, .int .i64 (i2 : Nat)), (7, .int .i64 (k2 : Nat))] ak0 ?_
                refine GoR.done ?_
                refine GoQ.pick [100, 0, 6, 7] (S' := [(100, .bool true), (0, vl ab22 ao23 l.length cl), (6, .int .i64 (i2 : Nat)), (7, .int .i64 (k2 : Nat))]) (by kernel_rfl) ?_
                exact GoQ.meet1 () (by first | rfl | (simp only [h31, h32, h33, h33n, Bool.not_true, Bool.not_false, Bool.true_or, Bool.false_or, Bool.true_and, Bool.false_and, Bool.or_true, Bool.or_false, Bool.and_true, Bool.and_false]; done) | (simp [h31, h32, h33, h33n]; done)) hs29
              · refine Xs 87 false h33 ?_
                have h33n : ((l.getD k2 dCall).done) = true := notF h33
                refine Xk [(32, .gen []), (33, .gen []), (34, .as_ (vp ab22 (ao23 + (k2 * 13))) .at_), (35, .gen []), (36, .gen [.int .u64 ((l.getD k2 dCall).to_)]), (37, .gen []), (38, .gen []), (39, .as_ (vp ab22 (ao23 + (i2 * 13))) .at_), (40, .gen []), (41, .gen [.int .u64 ((l.getD i2 dCall).from_)]), (42, .gen []), (43, .gen []), (44, .gen [])] [(34, [.prop (0 ≤ ((k2 : Nat) : Int) ∧ ((k2 : Nat) : Int) < ((l.length : Nat) : Int)), .prop (Value.pointer (some (Addr.add ⟨ab22, ao23, none⟩ (Int.toNat (k2 : Nat) * 13))) = Value.pointer (some ⟨ab22, ao23 + (k2 * 13), none⟩))]), (36, [.cell ⟨ab22, ao23 + (k2 * 13) + 9, none⟩ (.int .u64 ((l.getD k2 dCall).to_))]), (39, [.prop (0 ≤ ((i2 : Nat) : Int) ∧ ((i2 : Nat) : Int) < ((l.length : Nat) : Int)), .prop (Value.pointer (some (Addr.add ⟨ab22, ao23, none⟩ (Int.toNat (i2 : Nat) * 13))) = Value.pointer (some ⟨ab22, ao23 + (i2 * 13), none⟩))]), (41, [.cell ⟨ab22, ao23 + (i2 * 13) + 8, none⟩ (.int .u64 ((l.getD i2 dCall).from_))])] [(100, .bool (decide (((l.getD k2 dCall).to_ : Int) ≥ ((l.getD i2 dCall).from_)))), (0, vl ab22 ao23 l.length cl), (6, .int .i64 (i2 : Nat)), (7, .int .i64 (k2 : Nat))] (ak (okp (by omega) (okp (ptrAdd _ _ _) ok0)) (ak (okc (RowsAt.at0 (hr _ (hs29.drop 0)) (k := k2) (by first | omega | (simp only [List.length_set]; omega) | (simp only [List.length_set, List.length_append, List.length_cons, List.length_nil]; omega)) (j := 9) (by decide) (by kernel_rfl)) ok0) (ak (okp (by omega) (okp (ptrAdd _ _ _) ok0)) (ak (okc (RowsAt.at0 (hr _ (hs29.drop 0)) (k := i2) (by first | omega | (simp only [List.length_set]; omega) | (simp only [List.length_set, List.length_append, List.length_cons, List.length_nil]; omega)) (j := 8) (by decide) (by kernel_rfl)) ok0) ak0)))) ?_
                refine GoR.done ?_
                refine GoQ.pick [100, 0, 6, 7] (S' := [(100, .bool (decide (((l.getD k2 dCall).to_ : Int) ≥ ((l.getD i2 dCall).from_)))), (0, vl ab22 ao23 l.length cl), (6, .int .i64 (i2 : Nat)), (7, .int .i64 (k2 : Nat))]) (by kernel_rfl) ?_
                exact GoQ.meet1 () (by first | rfl | (simp only [h31, h32, h33, h33n, Bool.not_true, Bool.not_false, Bool.true_or, Bool.false_or, Bool.true_and, Bool.false_and, Bool.or_true, Bool.or_false, Bool.and_true, Bool.and_false]; done) | (simp [h31, h32, h33, h33n]; done)) hs29
            · refine Xs 80 false h32 ?_
              have h32' : ¬ (((l.getD k2 dCall).time : Int) < ((l.getD i2 dCall).time)) := of_decide_eq_false h32
              refine Xk [(25, .gen []), (26, .gen []), (27, .gen []), (28, .gen []), (29, .gen []), (30, .gen []), (31, .gen []), (32, .gen []), (33, .gen []), (34, .gen []), (35, .gen []), (36, .gen []), (37, .gen []), (38, .gen []), (39, .gen []), (40, .gen []), (41, .gen []), (42, .gen []), (43, .gen []), (44, .gen [])] [] [(100, .bool false), (0, vl ab22 ao23 l.length cl), (6, .int .i64 (i2 : Nat)), (7, .int .i64 (k2 : Nat))] ak0 ?_
              refine GoR.done ?_
              refine GoQ.pick [100, 0, 6, 7] (S' := [(100, .bool false), (0, vl ab22 ao23 l.length cl), (6, .int .i64 (i2 : Nat)), (7, .int .i64 (k2 : Nat))]) (by kernel_rfl) ?_
              exact GoQ.meet1 () (by first | rfl | (simp only [h31, h32, Bool.not_true, Bool.not_false, Bool.true_or, Bool.false_or, Bool.true_and, Bool.false_and, Bool.or_true, Bool.or_false, Bool.and_true, Bool.and_false]; done) | (simp [h31, h32]; done)) hs29
          · refine Xs 67 false h31 ?_
            have h31' : ¬ (((l.getD k2 dCall).client : Int) = ((l.getD i2 dCall).client)) := ieqF h31
            refine Xk [(12, .gen []), (13, .gen []), (14, .gen []), (15, .gen []), (16, .gen []), (17, .gen []), (18, .gen []), (19, .gen []), (20, .gen []), (21, .gen []), (22, .gen []), (23, .gen []), (24, .gen []), (25, .gen []), (26, .gen []), (27, .gen []), (28, .gen []), (29, .gen []), (30, .gen []), (31, .gen []), (32, .gen []), (33, .gen []), (34, .gen []), (35, .gen []), (36, .gen []), (37, .gen []), (38, .gen []), (39, .gen []), (40, .gen []), (41, .gen []), (42, .gen []), (43, .gen []), (44, .gen [])] [] [(100, .bool false), (0, vl ab22 ao23 l.length cl), (6, .int .i64 (i2 : Nat)), (7, .int .i64 (k2 : Nat))] ak0 ?_
            refine GoR.done ?_
            refine GoQ.pick [100, 0, 6, 7] (S' := [(100, .bool false), (0, vl ab22 ao23 l.length cl), (6, .int .i64 (i2 : Nat)), (7, .int .i64 (k2 : Nat))]) (by kernel_rfl) ?_
            exact GoQ.meet1 () (by first | rfl | (simp only [h31, Bool.not_true, Bool.not_false, Bool.true_or, Bool.false_or, Bool.true_and, Bool.false_and, Bool.or_true, Bool.or_false, Bool.and_true, Bool.and_false]; done) | (simp [h31]; done)) hs29
        intro _ w34 hs35
        refine GoQ.thn ?_
        refine Xc (t := (((((l.getD k2 dCall).client) : Int) == ((l.getD i2 dCall).client)) && (decide (((l.getD k2 dCall).time : Int) < ((l.getD i2 dCall).time)))) && ((!((l.getD k2 dCall).done)) || (decide (((l.getD k2 dCall).to_ : Int) ≥ ((l.getD i2 dCall).from_))))) (fun h36 => ?_) (fun h36 => ?_)
        · have h36a : (((((l.getD k2 dCall).client) : Int) == ((l.getD i2 dCall).client)) && (decide (((l.getD k2 dCall).time : Int) < ((l.getD i2 dCall).time)))) = true := (Bool.and_eq_true_iff.1 h36).1
          have h36aa : ((((l.getD k2 dCall).client) : Int) == ((l.getD i2 dCall).client)) = true := (Bool.and_eq_true_iff.1 h36a).1
          have h36aa' : ((l.getD k2 dCall).client : Int) = ((l.getD i2 dCall).client) := ieqT h36aa
          have h36ab : (decide (((l.getD k2 dCall).time : Int) < ((l.getD i2 dCall).time))) = true := (Bool.and_eq_true_iff.1 h36a).2
          have h36ab' : ((l.getD k2 dCall).time : Int) < ((l.getD i2 dCall).time) := of_decide_eq_true h36ab
          have h36b : ((!((l.getD k2 dCall).done)) || (decide (((l.getD k2 dCall).to_ : Int) ≥ ((l.getD i2 dCall).from_)))) = true := (Bool.and_eq_true_iff.1 h36).2
          refine GoC.seq ?_
          refine Xt (.rd 0 (.rd 1 (.rd 2 .done))) ?_
          refine Xk [(0, .gen []), (1, .gen []), (2, .gen [])] [] [(3, .int .i64 (i2 : Nat)), (2, .int .i64 2), (0, vl ab22 ao23 l.length cl), (6, .int .i64 (i2 : Nat)), (7, .int .i64 (k2 : Nat))] ak0 ?_
          refine GoR.done (GoQ.thn (GoC.ret (GoQ.blkR (GoQ.skipCR (GoQ.skipLR (GoQ.blkR (GoQ.blkR (GoQ.skipCR (GoQ.skipLR (GoQ.blkR (GoQ.skipCR ?_)))))))))))
          refine X2 (v := .int .i64 2) (v' := .int .i64 (i2 : Nat)) ?_
          exact ⟨(by rw [callsV_2 htw (idx_at hi2 (by rw [overB, Option.isSome_iff_exists]; cases hx : idx dCall l (over1 (l.getD i2 dCall)) with | some q => exact ⟨q, rfl⟩ | none => exact absurd ((over_eq _ _).symm.trans h36) (by rw [firstO_none_iff.1 hx k2 hk2]; decide)) hp2.2)]), hs35⟩
        · refine GoC.skip (GoQ.blkN (GoQ.thn ?_))
          refine Xt (.rd 0 (.rd 1 (.rd 2 .done))) ?_
          refine Xk [(0, .gen []), (1, .as_ (.int .i64 ((k2 : Nat) + 1)) (.gen [])), (2, .gen [])] [(1, [.prop (Value.int .i64 (IntKind.i64.wrap ((k2 : Nat) + 1)) = Value.int .i64 ((k2 : Nat) + 1))])] [(7, .int .i64 ((k2 : Nat) + 1)), (0, vl ab22 ao23 l.length cl), (6, .int .i64 (i2 : Nat))] (ak (okp (i64ok (by omega) (by omega)) ok0) ak0) ?_
          refine GoR.done ?_
          exact GoQ.back (k2 + 1) [0, 6, 7] (by kernel_rfl) (by show l.length - (k2 + 1) < l.length - k2; omega) ⟨⟨by omega, none_step (p := fun i => over1 (l.getD i2 dCall) (l.getD i dCall)) hq2.2 ((over_eq _ _).symm.trans h36)⟩, hs35⟩
      · have h27' : ¬ (((k2 : Nat) : Int) < (l.length : Nat)) := of_decide_eq_false h27
        refine GoC.exit (GoQ.skipC (GoQ.skipL (GoQ.hit (GoQ.blkN (GoQ.thn ?_)))))
        refine Xt (.rd 0 (.rd 1 (.rd 2 .done))) ?_
        refine Xk [(0, .gen []), (1, .as_ (.int .i64 ((i2 : Nat) + 1)) (.gen [])), (2, .gen [])] [(1, [.prop (Value.int .i64 (IntKind.i64.wrap ((i2 : Nat) + 1)) = Value.int .i64 ((i2 : Nat) + 1))])] [(6, .int .i64 ((i2 : Nat) + 1)), (0, vl ab22 ao23 l.length cl)] (ak (okp (i64ok (by omega) (by omega)) ok0) ak0) ?_
        refine GoR.done ?_
        exact GoQ.back (i2 + 1) [0, 6] (by kernel_rfl) (by show l.length - (i2 + 1) < l.length - i2; omega) ⟨⟨by omega, none_step (p := fun i => overB l (l.getD i dCall)) hp2.2 (by rw [overB, idx_none (fun i hi => hq2.2 i (by omega))]; rfl)⟩, hs26⟩
    · have h21' : ¬ (((i2 : Nat) : Int) < (l.length : Nat)) := of_decide_eq_false h21
      refine GoC.exit (GoQ.skipC (GoQ.skipL (GoQ.hit (GoQ.thn (GoC.seq ?_)))))
      refine Xt (.rd 0 (.rd 1 .done)) ?_
      refine Xk [(0, .gen []), (1, .gen [])] [] [(3, .int .i64 0), (2, .int .i64 0)] ak0 ?_
      refine GoR.done (GoQ.thn (GoC.ret ?_))
      refine X2 (v := .int .i64 0) (v' := .int .i64 0) ?_
      exact ⟨(by rw [callsV_0 htw (idx_none (fun i hi => hp2.2 i (by omega)))]), hs20⟩
end Go.Proofs.YtbmmknchcdhefaaGreatDoor
