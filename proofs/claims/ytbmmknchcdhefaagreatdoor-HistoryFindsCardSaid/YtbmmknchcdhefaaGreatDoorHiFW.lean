/-
  The walk of HistoryFinds. Conditions: none beside each theorem's own.
-/
import Derived.Test.YtbmmknchcdhefaaGreatDoorSxT
import Derived.Test.YtbmmknchcdhefaaGreatDoorHisK
import Derived.Test.YtbmmknchcdhefaaGreatDoorHisP
import Derived.Test.YtbmmknchcdhefaaGreatDoorHisV
import Derived.Test.YtbmmknchcdhefaaGreatDoorHisY
import Derived.Test.YtbmmknchcdhefaaGreatDoorHisW
namespace Go.Proofs.YtbmmknchcdhefaaGreatDoor
open Go.RowKit Go.Sx
set_option linter.unusedVariables false
set_option linter.unusedSimpArgs false
set_option linter.unnecessarySimpa false
set_option maxRecDepth 100000
theorem rowL_range (l : List CallV) : rowL l (List.range l.length) = l.map reqOf := by
  unfold rowL
  refine List.ext_getElem (by simp) fun i h1 h2 => ?_
  have hi : i < l.length := by simpa using h2
  simp only [List.getElem_map, List.getElem_range]
  rw [List.getD_eq_getElem?_getD, List.getElem?_eq_getElem hi]
  rfl
theorem made_found {l : List AskV} {k : Nat} (h : MI (mrun l k) k) (h7 : (mrun l k).calls.length ≤ 7) : (findF (mrun l k).calls).isSome = true := by
  refine findF_complete h7 (x := List.range (mrun l k).calls.length) ⟨List.nodup_range, fun i hi => List.mem_range.1 hi⟩ ?_
  unfold okO
  rw [rowL_range, ← mrun_calls, made_right h]
  rfl
theorem findF_ok {l : List CallV} (h : (findF l).isSome = true) : okO l ((findF l).getD []) = true := by
  obtain ⟨x, hx⟩ := Option.isSome_iff_exists.1 h
  rw [hx]
  exact (findF_sound hx).2
theorem findF_lt (l : List CallV) : ∀ i ∈ (findF l).getD [], i < l.length := by
  cases h : findF l with
  | none => exact fun i hi => by cases hi
  | some x => exact (findF_sound h).1.2
theorem set_amount {l : List CallV} {k : Nat} {x : CallV} (h : ∀ c ∈ l, 0 ≤ c.op.amount) (hx : 0 ≤ x.op.amount) : ∀ c ∈ l.set k x, 0 ≤ c.op.amount := fun c hc => by
  rcases List.mem_or_eq_of_mem_set hc with h1 | rfl
  · exact h c h1
  · exact hx
theorem right_spec {w0 w : World} {L : List Asn} {al : Option Addr} {cl : Nat} {oa : Option Addr} {oc : Nat} (l : List CallV) (o : List Nat) (hll : l.length ≤ 1000000) (hol : o.length ≤ 1000000) (ho : ∀ i ∈ o, i < l.length) (hokc : ∀ c ∈ l, 0 ≤ c.op.amount) (hL : ∀ w, St w0 L w → Laid w) (hr1 : ∀ w, St w0 L w → RowsAt w al l.length 13 (fun k => CallV.cells (l.getD k dCall))) (hr2 : ∀ w, St w0 L w → RowsAt w oa o.length 1 (fun k => natC (o.getD k (0 : Nat)))) (hs : St w0 (L) w) : Calls Tryz.prog 17 #[.slice al l.length cl, .slice oa o.length oc] w (Ret fun rv w' => rv = .bool (okO l o) ∧ St w0 (L) w') := by
  refine enter (args := [.slice al l.length cl, .slice oa o.length oc]) Tryz.func17 rfl Tryz.ntmps17 (Nat.le_of_ble_eq_true (by kernel_rfl)) ?_
  refine GoC.slots (S' := [(0, .slice al l.length cl), (1, .slice oa o.length oc)]) rfl ?_
  refine GoC.seq ?_
  refine Xt (.rd 0 .done) ?_
  refine Xk [(0, .gen [])] [] [(4, .bool false), (0, .slice al l.length cl), (1, .slice oa o.length oc)] ak0 ?_
  refine GoR.done (GoQ.thn (GoC.seq (GoC.seq ?_)))
  refine Xt (.rd 0 .done) ?_
  refine Xk [(0, .gen [])] [] [(5, .int .i64 0), (4, .bool false), (0, .slice al l.length cl), (1, .slice oa o.length oc)] ak0 ?_
  refine GoR.done (GoQ.thn (GoC.block ?_))
  refine GoC.loop (T := Nat) (fun gg => [(0, .slice al l.length cl), (1, .slice oa o.length oc), (5, .int .i64 (gg : Nat))]) (fun gg w => (gg ≤ o.length) ∧ St w0 (L) w) (fun gg => o.length - gg) 0 [0, 1, 5] (by kernel_rfl) ⟨Nat.zero_le _, hs⟩ ?_
  rintro k w1 ⟨hp0, hs2⟩
  have hp : k ≤ o.length := hp0
  have hs3 : St w0 (L) w1 := hs2
  refine GoC.slots (S' := [(0, .slice al l.length cl), (1, .slice oa o.length oc), (5, .int .i64 (k : Nat))]) rfl ?_
  refine GoC.seq (GoC.seq ?_)
  refine Xt (.rd 0 (.rd 1 (.rd 2 (.rd 3 .done)))) ?_
  refine Xk [(0, .gen []), (1, .gen []), (2, .gen []), (3, .gen [])] [] [(11, .bool (decide (((k : Nat) : Int) < (o.length : Nat)))), (0, .slice al l.length cl), (1, .slice oa o.length oc), (5, .int .i64 (k : Nat))] ak0 ?_
  refine GoR.done (GoQ.thn ?_)
  refine Xc (t := decide (((k : Nat) : Int) < (o.length : Nat))) (fun h4 => ?_) (fun h4 => ?_)
  · have h4' : ((k : Nat) : Int) < (o.length : Nat) := of_decide_eq_true h4
    have hk : k < o.length := by omega
    have hx := ho _ (getD_mem (d := 0) hk)
    obtain ⟨ab5, ao6, rfl⟩ := RowsAt.isSome (hr2 _ (hs3.drop 0)) (by omega)
    refine GoC.skip (GoQ.thn (GoC.seq (GoC.block (GoC.seq ?_))))
    refine GoC.join (T := Unit) (E := fun _ => [(27, .bool ((decide ((((o.getD k (0 : Nat)) : Nat) : Int) < 0)) || (decide ((((o.getD k (0 : Nat)) : Nat) : Int) ≥ (l.length : Nat))))), (0, .slice al l.length cl), (1, vl ab5 ao6 o.length oc), (5, .int .i64 (k : Nat))]) (F := fun _ w => St w0 (L) w) ?_ ?_
    · refine Xt (.rd 0 (.rd 1 (.rd 2 (.rd 3 (.rd 4 (.rd 5 (.rd 6 (.rd 7 (.rd 8 (.rd 9 (.rd 10 (.rd 11 (.rd 12 (.rd 13 .done)))))))))))))) ?_
      refine Xk [(0, .gen []), (1, .gen []), (2, .as_ (vp ab5 (ao6 + (k * 1))) .at_), (3, .gen [.int .i64 ((o.getD k (0 : Nat)) : Nat)]), (4, .gen []), (5, .gen [])] [(2, [.prop (0 ≤ ((k : Nat) : Int) ∧ ((k : Nat) : Int) < ((o.length : Nat) : Int)), .prop (Value.pointer (some (Addr.add ⟨ab5, ao6, none⟩ (Int.toNat (k : Nat) * 1))) = Value.pointer (some ⟨ab5, ao6 + (k * 1), none⟩))]), (3, [.cell ⟨ab5, ao6 + (k * 1), none⟩ (.int .i64 ((o.getD k (0 : Nat)) : Nat))])] [(19, .bool (decide ((((o.getD k (0 : Nat)) : Nat) : Int) < 0))), (0, .slice al l.length cl), (1, vl ab5 ao6 o.length oc), (5, .int .i64 (k : Nat))] (ak (okp (by omega) (okp (ptrAdd _ _ _) ok0)) (ak (okc (RowsAt.at0 (hr2 _ (hs3.drop 0)) (k := k) (by first | omega | (simp only [List.length_set]; omega) | (simp only [List.length_set, List.length_append, List.length_cons, List.length_nil]; omega)) (j := 0) (by decide) (by kernel_rfl)) ok0) ak0)) ?_
      rcases Bool.eq_false_or_eq_true (decide ((((o.getD k (0 : Nat)) : Nat) : Int) < 0)) with h7 | h7
      · refine Xs 19 true h7 ?_
        have h7' : (((o.getD k (0 : Nat)) : Nat) : Int) < 0 := of_decide_eq_true h7
        refine Xk [(6, .gen []), (7, .gen []), (8, .gen []), (9, .gen []), (10, .gen []), (11, .gen []), (12, .gen []), (13, .gen [])] [] [(27, .bool true), (0, .slice al l.length cl), (1, vl ab5 ao6 o.length oc), (5, .int .i64 (k : Nat))] ak0 ?_
        refine GoR.done ?_
        refine GoQ.pick [27, 0, 1, 5] (S' := [(27, .bool true), (0, .slice al l.length cl), (1, vl ab5 ao6 o.length oc), (5, .int .i64 (k : Nat))]) (by kernel_rfl) ?_
        exact GoQ.meet1 () (by first | rfl | (simp only [h7, Bool.not_true, Bool.not_false, Bool.true_or, Bool.false_or, Bool.true_and, Bool.false_and, Bool.or_true, Bool.or_false, Bool.and_true, Bool.and_false]; done) | (simp [h7]; done)) hs3
      · refine Xs 19 false h7 ?_
        have h7' : ¬ ((((o.getD k (0 : Nat)) : Nat) : Int) < 0) := of_decide_eq_false h7
        refine Xk [(6, .gen []), (7, .gen []), (8, .as_ (vp ab5 (ao6 + (k * 1))) .at_), (9, .gen [.int .i64 ((o.getD k (0 : Nat)) : Nat)]), (10, .gen []), (11, .gen []), (12, .gen []), (13, .gen [])] [(8, [.prop (0 ≤ ((k : Nat) : Int) ∧ ((k : Nat) : Int) < ((o.length : Nat) : Int)), .prop (Value.pointer (some (Addr.add ⟨ab5, ao6, none⟩ (Int.toNat (k : Nat) * 1))) = Value.pointer (some ⟨ab5, ao6 + (k * 1), none⟩))]), (9, [.cell ⟨ab5, ao6 + (k * 1), none⟩ (.int .i64 ((o.getD k (0 : Nat)) : Nat))])] [(27, .bool (decide ((((o.getD k (0 : Nat)) : Nat) : Int) ≥ (l.length : Nat)))), (0, .slice al l.length cl), (1, vl ab5 ao6 o.length oc), (5, .int .i64 (k : Nat))] (ak (okp (by omega) (okp (ptrAdd _ _ _) ok0)) (ak (okc (RowsAt.at0 (hr2 _ (hs3.drop 0)) (k := k) (by first | omega | (simp only [List.length_set]; omega) | (simp only [List.length_set, List.length_append, List.length_cons, List.length_nil]; omega)) (j := 0) (by decide) (by kernel_rfl)) ok0) ak0)) ?_
        refine GoR.done ?_
        refine GoQ.pick [27, 0, 1, 5] (S' := [(27, .bool (decide ((((o.getD k (0 : Nat)) : Nat) : Int) ≥ (l.length : Nat)))), (0, .slice al l.length cl), (1, vl ab5 ao6 o.length oc), (5, .int .i64 (k : Nat))]) (by kernel_rfl) ?_
        exact GoQ.meet1 () (by first | rfl | (simp only [h7, Bool.not_true, Bool.not_false, Bool.true_or, Bool.false_or, Bool.true_and, Bool.false_and, Bool.or_true, Bool.or_false, Bool.and_true, Bool.and_false]; done) | (simp [h7]; done)) hs3
    intro _ w8 hs9
    refine GoQ.thn ?_
    refine Xc (t := (decide ((((o.getD k (0 : Nat)) : Nat) : Int) < 0)) || (decide ((((o.getD k (0 : Nat)) : Nat) : Int) ≥ (l.length : Nat)))) (fun h10 => ?_) (fun h10 => ?_)
    · exfalso; rcases Bool.or_eq_true_iff.1 h10 with h9 | h9
      · have := of_decide_eq_true h9; omega
      · have := of_decide_eq_true h9; omega
    · have h10a : (decide ((((o.getD k (0 : Nat)) : Nat) : Int) < 0)) = false := (Bool.or_eq_false_iff.1 h10).1
      have h10a' : ¬ ((((o.getD k (0 : Nat)) : Nat) : Int) < 0) := of_decide_eq_false h10a
      have h10b : (decide ((((o.getD k (0 : Nat)) : Nat) : Int) ≥ (l.length : Nat))) = false := (Bool.or_eq_false_iff.1 h10).2
      have h10b' : ¬ ((((o.getD k (0 : Nat)) : Nat) : Int) ≥ (l.length : Nat)) := of_decide_eq_false h10b
      refine GoC.skip (GoQ.blkN (GoQ.thn ?_))
      refine Xt (.rd 0 (.rd 1 (.rd 2 .done))) ?_
      refine Xk [(0, .gen []), (1, .as_ (.int .i64 ((k : Nat) + 1)) (.gen [])), (2, .gen [])] [(1, [.prop (Value.int .i64 (IntKind.i64.wrap ((k : Nat) + 1)) = Value.int .i64 ((k : Nat) + 1))])] [(5, .int .i64 ((k : Nat) + 1)), (0, .slice al l.length cl), (1, vl ab5 ao6 o.length oc)] (ak (okp (i64ok (by omega) (by omega)) ok0) ak0) ?_
      refine GoR.done ?_
      exact GoQ.back (k + 1) [0, 1, 5] (by kernel_rfl) (by show o.length - (k + 1) < o.length - k; omega) ⟨(by omega), hs9⟩
  · have h4' : ¬ (((k : Nat) : Int) < (o.length : Nat)) := of_decide_eq_false h4
    refine GoC.exit (GoQ.skipC (GoQ.skipL (GoQ.hit (GoQ.thn (GoC.seq ?_)))))
    refine Xt (.rd 0 (.rd 1 (.ef 2 (.rd 3 (.ef 4 (.ef 5 (.rd 6 (.rd 7 (.rd 8 (.rd 9 (.rd 10 .done))))))))))) ?_
    refine Xk [(0, .gen []), (1, .gen [])] [] [(30, .slice al l.length cl), (29, .slice al l.length cl), (1, .slice oa o.length oc)] ak0 ?_
    refine Xa (f := 11) (args := #[.slice al l.length cl]) Tryz.call11 (refs_spec l (by omega) (fun w h => hr1 _ (h.drop 0)) hs3) ?_
    rintro v14 w15 ⟨ra11, rc12, rfl, hs13⟩
    refine ⟨Xo, ?_⟩
    refine Xk [(3, .gen [])] [] [(32, .slice oa o.length oc), (31, .slice ra11 l.length rc12), (29, .slice al l.length cl)] ak0 ?_
    refine Xa (f := 39) (args := #[.slice ra11 l.length rc12, .slice oa o.length oc]) Tryz.call39 (rrow_spec l o (by omega) ho (by first | assumption | omega) (fun w h => h.rows 0 rfl (callF).size _) (fun w h => hr2 _ (h.drop 1)) hs13) ?_
    rintro v19 w20 ⟨ra16, rc17, rfl, hs18⟩
    refine ⟨Xo, ?_⟩
    refine Xa (f := 9) (args := #[.slice al l.length cl, .slice ra16 ((rowL l o).length) rc17]) Tryz.call9 (check_spec l (rowL l o) (by omega) (by rw [rowL_length]; omega) (row_amount hokc _) (fun w h => hL w (h.drop 2)) (fun w h => hr1 _ (h.drop 2)) (fun w h => h.rows 0 rfl (reqF).size _) hs18) ?_
    rintro v22 w23 ⟨rfl, hs21⟩
    refine ⟨Xo, ?_⟩
    refine Xk [(6, .gen []), (7, .gen []), (8, .gen []), (9, .gen []), (10, .gen [])] [] [(6, .int .u8 ((chkV l (rowL l o)).1))] ak0 ?_
    refine GoR.done (GoQ.thn (GoC.seq ?_))
    refine Xt (.rd 0 (.rd 1 (.rd 2 .done))) ?_
    refine Xk [(0, .gen []), (1, .gen []), (2, .gen [])] [] [(4, .bool ((((chkV l (rowL l o)).1) : Int) == 0))] ak0 ?_
    refine GoR.done (GoQ.thn (GoC.ret ?_))
    refine X1 (v := .bool ((((chkV l (rowL l o)).1) : Int) == 0)) ?_
    have hs24 : St w0 (L) w23 := hs21.drop 2
    exact ⟨rfl, hs24⟩
set_option maxHeartbeats 8000000 in
theorem hfinds_walk (W : World) (hLW : Laid W) (aa : Option Addr) (ca : Nat) (l : List AskV) (al : Option Addr) (cl : Nat) (raw : List CallV) (tu : Int) (hal : ∀ a ∈ l, AskV.OK a) (hokl : ∀ c ∈ raw, CallV.OK c) (hwh : 0 ≤ tu ∧ tu ≤ 255) (hll : l.length ≤ 2000000000000) (hlr : raw.length ≤ 2000000000000) (rw1 : RowsAt W aa l.length 9 (fun k => AskV.cells (l.getD k dAsk))) (rw2 : RowsAt W al raw.length 13 (fun k => CallV.cells (raw.getD k dCall))) : Calls Tryz.prog 5 #[.slice aa l.length ca, .slice al raw.length cl, .int .u8 tu] W (Ret fun rv w' => rv = .bool true ∧ Below W.heap.size W w') := by
  refine enter (args := [.slice aa l.length ca, .slice al raw.length cl, .int .u8 tu]) Tryz.func5 rfl Tryz.ntmps5 (Nat.le_of_ble_eq_true (by kernel_rfl)) ?_
  refine GoC.slots (S' := [(0, .slice aa l.length ca), (1, .slice al raw.length cl), (2, .int .u8 tu)]) rfl ?_
  refine GoC.seq ?_
  refine Xt (.rd 0 .done) ?_
  refine Xk [(0, .gen [])] [] [(6, .bool false), (0, .slice aa l.length ca), (1, .slice al raw.length cl), (2, .int .u8 tu)] ak0 ?_
  refine GoR.done (GoQ.thn (GoC.seq (GoC.seq ?_)))
  refine Xt (.rd 0 (.rd 1 (.rd 2 (.rd 3 (.rd 4 (.ef 5 (.rd 6 (.rd 7 .done)))))))) ?_
  refine Xk [(0, .gen []), (1, .gen []), (2, .gen []), (3, .gen [])] [] [(19, .bool (decide (((l.length : Nat) : Int) > 6))), (6, .bool false), (0, .slice aa l.length ca), (1, .slice al raw.length cl), (2, .int .u8 tu)] ak0 ?_
  rcases Bool.eq_false_or_eq_true (decide (((l.length : Nat) : Int) > 6)) with h1 | h1
  · refine Xs 19 true h1 ?_
    have h1' : ((l.length : Nat) : Int) > 6 := of_decide_eq_true h1
    refine Xk [(4, .gen [])] [] [(20, undef), (19, .bool true), (6, .bool false), (0, .slice aa l.length ca), (1, .slice al raw.length cl), (2, .int .u8 tu)] ak0 ?_
    refine GoR.skip rfl (by kernel_rfl) Xo ?_
    refine Xk [(6, .gen []), (7, .gen [])] [] [(23, .bool true), (6, .bool false), (0, .slice aa l.length ca), (1, .slice al raw.length cl), (2, .int .u8 tu)] ak0 ?_
    refine GoR.done (GoQ.thn (XT (GoC.seq ?_)))
    refine Xt (.ef 0 (.rd 1 .done)) ?_
    refine Xa (f := 8) (args := #[]) Tryz.call8 (works_spec (fun w h => hLW.base h 0 rfl) (St.start W)) ?_
    rintro v3 w4 ⟨rfl, hs2⟩
    refine ⟨Xo, ?_⟩
    refine Xk [(1, .gen [])] [] [(6, .bool true), (0, .slice aa l.length ca), (1, .slice al raw.length cl), (2, .int .u8 tu)] ak0 ?_
    refine GoR.done (GoQ.thn (GoC.ret (GoQ.skipCR ?_)))
    refine X1 (v := .bool true) ?_
    exact ⟨rfl, hs2.below 0 rfl⟩
  · refine Xs 19 false h1 ?_
    have h1' : ¬ (((l.length : Nat) : Int) > 6) := of_decide_eq_false h1
    refine Xk [(4, .gen [])] [] [(20, .slice al raw.length cl), (19, .bool false), (6, .bool false), (0, .slice aa l.length ca), (1, .slice al raw.length cl), (2, .int .u8 tu)] ak0 ?_
    refine Xa (f := 6) (args := #[.slice al raw.length cl, .int .i64 (5 : Nat)]) Tryz.call6 (few31_spec raw 5 (by first | assumption | omega) hokl (fun w h => rw2.base (fun k _ => (callF).size _) h 0 rfl) (St.start W)) ?_
    rintro v8 w9 ⟨b5, rfl, hb6, hs7⟩
    refine ⟨Xo, ?_⟩
    refine Xk [(6, .gen []), (7, .gen [])] [] [(23, .bool (!b5)), (6, .bool false), (0, .slice aa l.length ca), (1, .slice al raw.length cl), (2, .int .u8 tu)] ak0 ?_
    refine GoR.done (GoQ.thn ?_)
    refine Xc (t := !b5) (fun h10 => ?_) (fun h10 => ?_)
    · have h10n : b5 = false := notT h10
      refine GoC.seq ?_
      refine Xt (.ef 0 (.rd 1 .done)) ?_
      refine Xa (f := 8) (args := #[]) Tryz.call8 (works_spec (fun w h => hLW.base h 0 rfl) hs7) ?_
      rintro v12 w13 ⟨rfl, hs11⟩
      refine ⟨Xo, ?_⟩
      refine Xk [(1, .gen [])] [] [(6, .bool true), (0, .slice aa l.length ca), (1, .slice al raw.length cl), (2, .int .u8 tu)] ak0 ?_
      refine GoR.done (GoQ.thn (GoC.ret (GoQ.skipCR ?_)))
      refine X1 (v := .bool true) ?_
      exact ⟨rfl, hs11.below 0 rfl⟩
    · have h10n : b5 = true := notF h10
      have hr5 : raw.length ≤ 5 := hb6 h10n
      have hokw : ∀ c ∈ raw, 0 ≤ c.op.amount := fun c hc => (hokl c hc).op.amount.1
      have hflw := findF_len raw
      refine GoC.skip (GoQ.thn (GoC.seq (GoC.seq ?_)))
      refine Xt (.rd 0 .done) ?_
      refine Xk [(0, .gen [])] [] [(7, .int .i64 0), (6, .bool false), (0, .slice aa l.length ca), (1, .slice al raw.length cl), (2, .int .u8 tu)] ak0 ?_
      refine GoR.done (GoQ.thn (GoC.block ?_))
      refine GoC.loop (T := Nat) (fun gg => [(0, .slice aa l.length ca), (1, .slice al raw.length cl), (2, .int .u8 tu), (7, .int .i64 (gg : Nat))]) (fun gg w => (gg ≤ l.length) ∧ St W ((Base W) :: []) w) (fun gg => l.length - gg) 0 [0, 1, 2, 7] (by kernel_rfl) ⟨Nat.zero_le _, hs7⟩ ?_
      rintro k w14 ⟨hp0, hs15⟩
      have hp : k ≤ l.length := hp0
      have hs16 : St W ((Base W) :: []) w14 := hs15
      refine GoC.slots (S' := [(0, .slice aa l.length ca), (1, .slice al raw.length cl), (2, .int .u8 tu), (7, .int .i64 (k : Nat))]) rfl ?_
      refine GoC.seq (GoC.seq ?_)
      refine Xt (.rd 0 (.rd 1 (.rd 2 (.rd 3 .done)))) ?_
      refine Xk [(0, .gen []), (1, .gen []), (2, .gen []), (3, .gen [])] [] [(28, .bool (decide (((k : Nat) : Int) < (l.length : Nat)))), (0, .slice aa l.length ca), (1, .slice al raw.length cl), (2, .int .u8 tu), (7, .int .i64 (k : Nat))] ak0 ?_
      refine GoR.done (GoQ.thn ?_)
      refine Xc (t := decide (((k : Nat) : Int) < (l.length : Nat))) (fun h17 => ?_) (fun h17 => ?_)
      · have h17' : ((k : Nat) : Int) < (l.length : Nat) := of_decide_eq_true h17
        have hk : k < l.length := by omega
        have hq := hal _ (getD_mem (d := dAsk) hk)
        have hq1 := hq.op.key
        have hq2 := hq.op.value
        have hq3 := hq.op.old
        have hq4 := hq.op.dest
        obtain ⟨ab18, ao19, rfl⟩ := RowsAt.isSome rw1 (by omega)
        refine GoC.skip (GoQ.thn (GoC.seq (GoC.block (GoC.seq ?_))))
        refine Xt (.rd 0 (.rd 1 (.rd 2 (.rd 3 (.rd 4 (.ef 5 (.ef 6 .done))))))) ?_
        refine Xk [(0, .gen []), (1, .gen []), (2, .as_ (vp ab18 (ao19 + (k * 9))) .at_), (3, .gen []), (4, .agg (OpV.cells ((l.getD k dAsk).op)))] [(2, [.prop (0 ≤ ((k : Nat) : Int) ∧ ((k : Nat) : Int) < ((l.length : Nat) : Int)), .prop (Value.pointer (some (Addr.add ⟨ab18, ao19, none⟩ (Int.toNat (k : Nat) * 9))) = Value.pointer (some ⟨ab18, ao19 + (k * 9), none⟩))]), (4, [.prop (Array.size (OpV.cells ((l.getD k dAsk).op)) = 6), .cells ⟨ab18, ao19 + (k * 9) + 1, none⟩ (OpV.cells ((l.getD k dAsk).op))])] [(35, .agg (OpV.cells ((l.getD k dAsk).op))), (0, vl ab18 ao19 l.length ca), (1, .slice al raw.length cl), (2, .int .u8 tu), (7, .int .i64 (k : Nat))] (ak (okp (by omega) (okp (ptrAdd _ _ _) ok0)) (ak (okp (by kernel_rfl) (oka (RowsAt.all (rw1.base (fun k _ => (askF).size _) hs16 0 rfl) (by first | omega | (simp only [List.length_set]; omega) | (simp only [List.length_set, List.length_append, List.length_cons, List.length_nil]; omega)) (Nat.le_of_ble_eq_true (by kernel_rfl)) (by kernel_rfl)) ok0)) ak0)) ?_
        refine GoR.alloc rfl rfl (by kernel_rfl) (z := .agg (OpV.cells dOp)) (by kernel_rfl) hs16 (cs := OpV.cells dOp) (by kernel_rfl) ?_
        intro b20 w21 hs22
        refine ⟨Xo, ?_⟩
        refine GoR.store rfl rfl (by kernel_rfl) (b := b20) (off := 0) (v := .agg (OpV.cells ((l.getD k dAsk).op))) (by kernel_rfl) (by kernel_rfl) (ti := Tryz.t44) (by kernel_rfl) hs22 0 rfl (by kernel_rfl) (by kernel_rfl) (Nat.le_of_ble_eq_true (by kernel_rfl)) (cs' := OpV.cells ((l.getD k dAsk).op)) (L' := (Cel b20 (OpV.cells ((l.getD k dAsk).op)) 44) :: (Base W) :: []) (by kernel_rfl) rfl ?_
        intro w23 hs24
        refine ⟨Xo, ?_⟩
        refine GoR.done (GoQ.thn (GoC.seq ?_))
        refine Xt (.rd 0 (.rd 1 (.rd 2 (.rd 3 (.rd 4 (.rd 5 (.rd 6 (.rd 7 (.rd 8 (.rd 9 (.rd 10 (.rd 11 (.rd 12 (.rd 13 (.rd 14 (.rd 15 .done)))))))))))))))) ?_
        refine Xk [(0, .gen []), (1, .gen [.string (((l.getD k dAsk).op).key)]), (2, .gen []), (3, .gen []), (4, .gen [.string (((l.getD k dAsk).op).value)]), (5, .gen []), (6, .as_ (.int .i64 (((((l.getD k dAsk).op).key).size : Nat) + ((((l.getD k dAsk).op).value).size : Nat))) (.gen [])), (7, .gen []), (8, .gen [.string (((l.getD k dAsk).op).old)]), (9, .gen []), (10, .as_ (.int .i64 ((((((l.getD k dAsk).op).key).size : Nat) + ((((l.getD k dAsk).op).value).size : Nat)) + ((((l.getD k dAsk).op).old).size : Nat))) (.gen [])), (11, .gen []), (12, .gen [.string (((l.getD k dAsk).op).dest)]), (13, .gen []), (14, .as_ (.int .i64 (((((((l.getD k dAsk).op).key).size : Nat) + ((((l.getD k dAsk).op).value).size : Nat)) + ((((l.getD k dAsk).op).old).size : Nat)) + ((((l.getD k dAsk).op).dest).size : Nat))) (.gen [])), (15, .gen [])] [(1, [.cell ⟨b20, 1, none⟩ (.string (((l.getD k dAsk).op).key))]), (4, [.cell ⟨b20, 2, none⟩ (.string (((l.getD k dAsk).op).value))]), (6, [.prop (Value.int .i64 (IntKind.i64.wrap (((((l.getD k dAsk).op).key).size : Nat) + ((((l.getD k dAsk).op).value).size : Nat))) = Value.int .i64 (((((l.getD k dAsk).op).key).size : Nat) + ((((l.getD k dAsk).op).value).size : Nat)))]), (8, [.cell ⟨b20, 3, none⟩ (.string (((l.getD k dAsk).op).old))]), (10, [.prop (Value.int .i64 (IntKind.i64.wrap ((((((l.getD k dAsk).op).key).size : Nat) + ((((l.getD k dAsk).op).value).size : Nat)) + ((((l.getD k dAsk).op).old).size : Nat))) = Value.int .i64 ((((((l.getD k dAsk).op).key).size : Nat) + ((((l.getD k dAsk).op).value).size : Nat)) + ((((l.getD k dAsk).op).old).size : Nat)))]), (12, [.cell ⟨b20, 4, none⟩ (.string (((l.getD k dAsk).op).dest))]), (14, [.prop (Value.int .i64 (IntKind.i64.wrap (((((((l.getD k dAsk).op).key).size : Nat) + ((((l.getD k dAsk).op).value).size : Nat)) + ((((l.getD k dAsk).op).old).size : Nat)) + ((((l.getD k dAsk).op).dest).size : Nat))) = Value.int .i64 (((((((l.getD k dAsk).op).key).size : Nat) + ((((l.getD k dAsk).op).value).size : Nat)) + ((((l.getD k dAsk).op).old).size : Nat)) + ((((l.getD k dAsk).op).dest).size : Nat)))])] [(51, .bool (decide ((((((((l.getD k dAsk).op).key).size : Nat) + ((((l.getD k dAsk).op).value).size : Nat)) + ((((l.getD k dAsk).op).old).size : Nat)) + ((((l.getD k dAsk).op).dest).size : Nat) : Int) > 500))), (0, vl ab18 ao19 l.length ca), (1, .slice al raw.length cl), (2, .int .u8 tu), (7, .int .i64 (k : Nat))] (ak (okc (hs24.cell 0 rfl (by kernel_rfl)) ok0) (ak (okc (hs24.cell 0 rfl (by kernel_rfl)) ok0) (ak (okp (i64ok (by omega) (by omega)) ok0) (ak (okc (hs24.cell 0 rfl (by kernel_rfl)) ok0) (ak (okp (i64ok (by omega) (by omega)) ok0) (ak (okc (hs24.cell 0 rfl (by kernel_rfl)) ok0) (ak (okp (i64ok (by omega) (by omega)) ok0) ak0))))))) ?_
        refine GoR.done (GoQ.thn ?_)
        refine Xc (t := decide ((((((((l.getD k dAsk).op).key).size : Nat) + ((((l.getD k dAsk).op).value).size : Nat)) + ((((l.getD k dAsk).op).old).size : Nat)) + ((((l.getD k dAsk).op).dest).size : Nat) : Int) > 500)) (fun h25 => ?_) (fun h25 => ?_)
        · have h25' : (((((((l.getD k dAsk).op).key).size : Nat) + ((((l.getD k dAsk).op).value).size : Nat)) + ((((l.getD k dAsk).op).old).size : Nat)) + ((((l.getD k dAsk).op).dest).size : Nat) : Int) > 500 := of_decide_eq_true h25
          refine GoC.seq ?_
          refine Xt (.ef 0 (.rd 1 .done)) ?_
          refine Xa (f := 8) (args := #[]) Tryz.call8 (works_spec (fun w h => hLW.base h 1 rfl) hs24) ?_
          rintro v27 w28 ⟨rfl, hs26⟩
          refine ⟨Xo, ?_⟩
          refine Xk [(1, .gen [])] [] [(6, .bool true), (0, vl ab18 ao19 l.length ca), (1, .slice al raw.length cl), (2, .int .u8 tu), (7, .int .i64 (k : Nat))] ak0 ?_
          refine GoR.done (GoQ.thn (GoC.ret (GoQ.blkR (GoQ.skipCR (GoQ.skipLR (GoQ.blkR (GoQ.skipCR ?_)))))))
          refine X1 (v := .bool true) ?_
          exact ⟨rfl, hs26.below 1 rfl⟩
        · have h25' : ¬ ((((((((l.getD k dAsk).op).key).size : Nat) + ((((l.getD k dAsk).op).value).size : Nat)) + ((((l.getD k dAsk).op).old).size : Nat)) + ((((l.getD k dAsk).op).dest).size : Nat) : Int) > 500) := of_decide_eq_false h25
          refine GoC.skip (GoQ.blkN (GoQ.thn ?_))
          refine Xt (.rd 0 (.rd 1 (.rd 2 .done))) ?_
          refine Xk [(0, .gen []), (1, .as_ (.int .i64 ((k : Nat) + 1)) (.gen [])), (2, .gen [])] [(1, [.prop (Value.int .i64 (IntKind.i64.wrap ((k : Nat) + 1)) = Value.int .i64 ((k : Nat) + 1))])] [(7, .int .i64 ((k : Nat) + 1)), (0, vl ab18 ao19 l.length ca), (1, .slice al raw.length cl), (2, .int .u8 tu)] (ak (okp (i64ok (by omega) (by omega)) ok0) ak0) ?_
          refine GoR.done ?_
          have hs29 : St W ((Base W) :: []) w23 := hs24.drop 1
          exact GoQ.back (k + 1) [0, 1, 2, 7] (by kernel_rfl) (by show l.length - (k + 1) < l.length - k; omega) ⟨(by omega), hs29⟩
      · have h17' : ¬ (((k : Nat) : Int) < (l.length : Nat)) := of_decide_eq_false h17
        have hmi := mrun_inv (l := l) (fun a ha => ⟨(hal a ha).client.1, (hal a ha).late.1⟩) (Nat.le_refl _)
        have hm1 := hmi.lk
        have hm2 := hmi.len
        have hokc : ∀ c ∈ (mrun l l.length).calls, 0 ≤ c.op.amount := fun c hc => by obtain ⟨a, ha, he⟩ := mrun_row (l := l) (Nat.le_refl _) (reqOf c) (by rw [mrun_calls]; exact List.mem_map_of_mem hc); have h9 := (hal a ha).op.amount.1; rw [← he] at h9; exact h9
        have hfl := findF_len (mrun l l.length).calls
        refine GoC.exit (GoQ.skipC (GoQ.skipL (GoQ.hit (GoQ.thn (GoC.seq ?_)))))
        refine Xt (.rd 0 (.ef 1 (.rd 2 (.rd 3 (.rd 4 (.rd 5 (.rd 6 .done))))))) ?_
        refine Xk [(0, .gen [])] [] [(54, .slice aa l.length ca), (1, .slice al raw.length cl), (2, .int .u8 tu)] ak0 ?_
        refine Xa (f := 16) (args := #[.slice aa l.length ca]) Tryz.call16 (made_spec l (by first | assumption | omega) hal (fun w h => rw1.base (fun k _ => (askF).size _) h 0 rfl) hs16) ?_
        rintro v35 w36 ⟨oa30, oc31, ra32, rc33, rfl, hs34⟩
        refine ⟨Xo, ?_⟩
        refine Xk [(2, .gen []), (3, .gen []), (4, .gen []), (5, .gen []), (6, .gen [])] [] [(9, .slice oa30 ((mrun l l.length).calls.length) oc31), (1, .slice al raw.length cl), (2, .int .u8 tu)] ak0 ?_
        refine GoR.done (GoQ.thn (GoC.seq (GoC.seq ?_)))
        refine Xt (.rd 0 (.rd 1 (.rd 2 .done))) ?_
        refine Xk [(0, .gen []), (1, .gen []), (2, .gen [])] [] [(60, .bool (decide ((((mrun l l.length).calls.length : Nat) : Int) ≤ 7))), (9, .slice oa30 ((mrun l l.length).calls.length) oc31), (1, .slice al raw.length cl), (2, .int .u8 tu)] ak0 ?_
        refine GoR.done (GoQ.thn ?_)
        refine Xc (t := decide ((((mrun l l.length).calls.length : Nat) : Int) ≤ 7)) (fun h37 => ?_) (fun h37 => ?_)
        · have h37' : (((mrun l l.length).calls.length : Nat) : Int) ≤ 7 := of_decide_eq_true h37
          have hfd := made_found hmi (by omega)
          refine GoC.seq ?_
          refine Xt (.rd 0 (.ef 1 (.rd 2 (.rd 3 (.rd 4 (.rd 5 (.rd 6 .done))))))) ?_
          refine Xk [(0, .gen [])] [] [(62, .slice oa30 ((mrun l l.length).calls.length) oc31), (9, .slice oa30 ((mrun l l.length).calls.length) oc31), (1, .slice al raw.length cl), (2, .int .u8 tu)] ak0 ?_
          refine Xa (f := 12) (args := #[.slice oa30 (((mrun l l.length).calls).length) oc31]) Tryz.call12 (find_spec_ ((mrun l l.length).calls) (by first | omega | (simp only [List.length_set]; omega)) hokc (fun w h => hLW.base h 2 rfl) (fun w h => h.rows 0 rfl (callF).size _) hs34) ?_
          rintro v44 w45 (⟨oa38, oc39, rfl, h40, hs41⟩ | ⟨rfl, h42, hs43⟩)
          · refine ⟨Xo, ?_⟩
            refine Xk [(2, .gen []), (3, .gen []), (4, .gen []), (5, .gen []), (6, .gen [])] [] [(12, .bool true), (11, .slice oa38 (((findF ((mrun l l.length).calls)).getD []).length) oc39), (9, .slice oa30 ((mrun l l.length).calls.length) oc31), (1, .slice al raw.length cl), (2, .int .u8 tu)] ak0 ?_
            refine GoR.done (GoQ.thn (GoC.seq (GoC.seq ?_)))
            refine Xt (.rd 0 (.rd 1 (.rd 2 (.rd 3 (.rd 4 (.ef 5 (.rd 6 (.rd 7 .done)))))))) ?_
            refine Xk [(0, .gen []), (1, .gen []), (2, .gen []), (3, .gen []), (4, .gen [])] [] [(70, .slice oa38 (((findF ((mrun l l.length).calls)).getD []).length) oc39), (69, .slice oa30 ((mrun l l.length).calls.length) oc31), (68, .bool false), (12, .bool true), (11, .slice oa38 (((findF ((mrun l l.length).calls)).getD []).length) oc39), (9, .slice oa30 ((mrun l l.length).calls.length) oc31), (1, .slice al raw.length cl), (2, .int .u8 tu)] ak0 ?_
            refine Xa (f := 17) (args := #[.slice oa30 (((mrun l l.length).calls).length) oc31, .slice oa38 (((findF ((mrun l l.length).calls)).getD []).length) oc39]) Tryz.call17 (right_spec ((mrun l l.length).calls) ((findF ((mrun l l.length).calls)).getD []) (by first | omega | (simp only [List.length_set]; omega)) (Nat.le_trans hfl (by decide)) (findF_lt _) hokc (fun w h => hLW.base h 3 rfl) (fun w h => h.rows 1 rfl (callF).size _) (fun w h => h.rows 0 rfl (natF).size _) hs41) ?_
            rintro v47 w48 ⟨rfl, hs46⟩
            refine ⟨Xo, ?_⟩
            refine Xk [(6, .gen []), (7, .gen [])] [] [(73, .bool (!(okO ((mrun l l.length).calls) ((findF ((mrun l l.length).calls)).getD [])))), (12, .bool true), (11, .slice oa38 (((findF ((mrun l l.length).calls)).getD []).length) oc39), (9, .slice oa30 ((mrun l l.length).calls.length) oc31), (1, .slice al raw.length cl), (2, .int .u8 tu)] ak0 ?_
            refine GoR.done (GoQ.thn ?_)
            refine Xc (t := !(okO ((mrun l l.length).calls) ((findF ((mrun l l.length).calls)).getD []))) (fun h49 => ?_) (fun h49 => ?_)
            · have h49n : (okO ((mrun l l.length).calls) ((findF ((mrun l l.length).calls)).getD [])) = false := notT h49
              exact absurd (h49n.symm.trans (findF_ok h40)) (by decide)
            · have h49n : (okO ((mrun l l.length).calls) ((findF ((mrun l l.length).calls)).getD [])) = true := notF h49
              refine GoC.skip (GoQ.thn (GoC.seq ?_))
              refine Xt (.rd 0 (.rd 1 (.rd 2 .done))) ?_
              refine Xk [(0, .gen []), (1, .gen []), (2, .gen [])] [] [(76, .bool (decide ((((mrun l l.length).calls.length : Nat) : Int) > 0))), (12, .bool true), (11, .slice oa38 (((findF ((mrun l l.length).calls)).getD []).length) oc39), (9, .slice oa30 ((mrun l l.length).calls.length) oc31), (1, .slice al raw.length cl), (2, .int .u8 tu)] ak0 ?_
              refine GoR.done (GoQ.thn ?_)
              refine Xc (t := decide ((((mrun l l.length).calls.length : Nat) : Int) > 0)) (fun h50 => ?_) (fun h50 => ?_)
              · have h50' : (((mrun l l.length).calls.length : Nat) : Int) > 0 := of_decide_eq_true h50
                refine GoC.seq ?_
                refine Xt (.rd 0 (.rd 1 (.rd 2 (.rd 3 (.rd 4 (.rd 5 .done)))))) ?_
                obtain ⟨at51, hat52⟩ : ∃ n : Nat, (tu : Int) % ((mrun l l.length).calls.length : Nat) = (n : Int) ∧ (n : Int) < ((mrun l l.length).calls.length : Nat) := remNat (by omega) (by omega)
                refine Xk [(0, .gen []), (1, .as_ (.int .i64 tu) (.gen [])), (2, .gen []), (3, .gen []), (4, .div (at51 : Nat)), (5, .gen [])] [(1, [.prop (Value.int .i64 (IntKind.i64.wrap tu) = Value.int .i64 tu)]), (4, [.prop (IntKind.i64 = IntKind.i64 ∧ (((mrun l l.length).calls.length : Nat) : Int) ≠ 0 ∧ Int.tmod tu ((mrun l l.length).calls.length : Nat) = (at51 : Nat))])] [(13, .int .i64 (at51 : Nat)), (12, .bool true), (11, .slice oa38 (((findF ((mrun l l.length).calls)).getD []).length) oc39), (9, .slice oa30 ((mrun l l.length).calls.length) oc31), (1, .slice al raw.length cl)] (ak (okp (i64ok (by omega) (by omega)) ok0) (ak (okp ⟨rfl, by omega, by rw [Int.tmod_eq_emod_of_nonneg (by omega)]; exact hat52.1⟩ ok0) ak0)) ?_
                refine GoR.done (GoQ.thn (GoC.seq ?_))
                obtain ⟨ab53, rfl⟩ := Sl.isSome (hs46.at_ 1 rfl) (by omega)
                refine Xt (.rd 0 (.rd 1 (.rd 2 (.rd 3 (.rd 4 (.ef 5 .done)))))) ?_
                refine Xk [(0, .gen []), (1, .gen []), (2, .as_ (vp ab53 (0 + (at51 * 13))) .at_), (3, .gen []), (4, .gen [])] [(2, [.prop (0 ≤ ((at51 : Nat) : Int) ∧ ((at51 : Nat) : Int) < (((mrun l l.length).calls.length : Nat) : Int)), .prop (Value.pointer (some (Addr.add ⟨ab53, 0, none⟩ (Int.toNat (at51 : Nat) * 13))) = Value.pointer (some ⟨ab53, 0 + (at51 * 13), none⟩))])] [(86, vp ab53 (0 + (at51 * 13) + 11 + 1)), (12, .bool true), (11, .slice oa38 (((findF ((mrun l l.length).calls)).getD []).length) oc39), (9, vl ab53 0 ((mrun l l.length).calls.length) oc31), (1, .slice al raw.length cl)] (ak (okp (by omega) (okp (ptrAdd _ _ _) ok0)) ak0) ?_
                refine GoR.storeSl rfl rfl (by kernel_rfl) (b := ab53) (off := 0 + (at51 * 13) + 11 + 1) (v := .string (⟨#[111, 116, 104, 101, 114]⟩ : ByteArray)) (by kernel_rfl) (by kernel_rfl) (ti := Tryz.t9) (by kernel_rfl) hs46 1 (callF).size rfl (by kernel_rfl) (by kernel_rfl) (by rw [Nat.zero_add]; exact field_room (f := CallV.cells) (size := 13) (l := (mrun l l.length).calls) (k := at51) (o := 12) (n := 1) (callF).size (by first | omega | (simp only [List.length_set]; omega) | (simp only [List.length_set, List.length_append, List.length_cons, List.length_nil]; omega)) (by decide)) (List.length_set ..) (xs' := ((mrun l l.length).calls).set at51 (⟨(((mrun l l.length).calls).getD at51 dCall).client, (((mrun l l.length).calls).getD at51 dCall).time, ⟨((((mrun l l.length).calls).getD at51 dCall).op).kind, ((((mrun l l.length).calls).getD at51 dCall).op).key, ((((mrun l l.length).calls).getD at51 dCall).op).value, ((((mrun l l.length).calls).getD at51 dCall).op).old, ((((mrun l l.length).calls).getD at51 dCall).op).dest, ((((mrun l l.length).calls).getD at51 dCall).op).amount⟩, (((mrun l l.length).calls).getD at51 dCall).from_, (((mrun l l.length).calls).getD at51 dCall).to_, (((mrun l l.length).calls).getD at51 dCall).done, ⟨((((mrun l l.length).calls).getD at51 dCall).reply).err, (⟨#[111, 116, 104, 101, 114]⟩ : ByteArray)⟩⟩ : CallV)) (by rw [Nat.zero_add]; exact splice_field (f := CallV.cells) (size := 13) (l := (mrun l l.length).calls) (k := at51) (o := 12) (callF).size (by first | omega | (simp only [List.length_set]; omega) | (simp only [List.length_set, List.length_append, List.length_cons, List.length_nil]; omega)) dCall (⟨(((mrun l l.length).calls).getD at51 dCall).client, (((mrun l l.length).calls).getD at51 dCall).time, ⟨((((mrun l l.length).calls).getD at51 dCall).op).kind, ((((mrun l l.length).calls).getD at51 dCall).op).key, ((((mrun l l.length).calls).getD at51 dCall).op).value, ((((mrun l l.length).calls).getD at51 dCall).op).old, ((((mrun l l.length).calls).getD at51 dCall).op).dest, ((((mrun l l.length).calls).getD at51 dCall).op).amount⟩, (((mrun l l.length).calls).getD at51 dCall).from_, (((mrun l l.length).calls).getD at51 dCall).to_, (((mrun l l.length).calls).getD at51 dCall).done, ⟨((((mrun l l.length).calls).getD at51 dCall).reply).err, (⟨#[111, 116, 104, 101, 114]⟩ : ByteArray)⟩⟩ : CallV) (Nat.le_of_ble_eq_true rfl) (by kernel_rfl)) (L' := (Sl oa38 oc39 3 1 natC ((findF ((mrun l l.length).calls)).getD [])) :: (Sl (some ⟨ab53, 0, none⟩) oc31 53 13 CallV.cells (((mrun l l.length).calls).set at51 (⟨(((mrun l l.length).calls).getD at51 dCall).client, (((mrun l l.length).calls).getD at51 dCall).time, ⟨((((mrun l l.length).calls).getD at51 dCall).op).kind, ((((mrun l l.length).calls).getD at51 dCall).op).key, ((((mrun l l.length).calls).getD at51 dCall).op).value, ((((mrun l l.length).calls).getD at51 dCall).op).old, ((((mrun l l.length).calls).getD at51 dCall).op).dest, ((((mrun l l.length).calls).getD at51 dCall).op).amount⟩, (((mrun l l.length).calls).getD at51 dCall).from_, (((mrun l l.length).calls).getD at51 dCall).to_, (((mrun l l.length).calls).getD at51 dCall).done, ⟨((((mrun l l.length).calls).getD at51 dCall).reply).err, (⟨#[111, 116, 104, 101, 114]⟩ : ByteArray)⟩⟩ : CallV))) :: (Sl ra32 rc33 56 40 ReqV.cells ((mrun l l.length).row)) :: (Base W) :: []) rfl ?_
                intro w55 hs56
                refine ⟨Xo, ?_⟩
                refine GoR.done (GoQ.thn (GoC.seq ?_))
                have hfl2 := findF_len (((mrun l l.length).calls).set at51 (⟨(((mrun l l.length).calls).getD at51 dCall).client, (((mrun l l.length).calls).getD at51 dCall).time, ⟨((((mrun l l.length).calls).getD at51 dCall).op).kind, ((((mrun l l.length).calls).getD at51 dCall).op).key, ((((mrun l l.length).calls).getD at51 dCall).op).value, ((((mrun l l.length).calls).getD at51 dCall).op).old, ((((mrun l l.length).calls).getD at51 dCall).op).dest, ((((mrun l l.length).calls).getD at51 dCall).op).amount⟩, (((mrun l l.length).calls).getD at51 dCall).from_, (((mrun l l.length).calls).getD at51 dCall).to_, (((mrun l l.length).calls).getD at51 dCall).done, ⟨((((mrun l l.length).calls).getD at51 dCall).reply).err, (⟨#[111, 116, 104, 101, 114]⟩ : ByteArray)⟩⟩ : CallV))
                have hokc2 : ∀ c ∈ (((mrun l l.length).calls).set at51 (⟨(((mrun l l.length).calls).getD at51 dCall).client, (((mrun l l.length).calls).getD at51 dCall).time, ⟨((((mrun l l.length).calls).getD at51 dCall).op).kind, ((((mrun l l.length).calls).getD at51 dCall).op).key, ((((mrun l l.length).calls).getD at51 dCall).op).value, ((((mrun l l.length).calls).getD at51 dCall).op).old, ((((mrun l l.length).calls).getD at51 dCall).op).dest, ((((mrun l l.length).calls).getD at51 dCall).op).amount⟩, (((mrun l l.length).calls).getD at51 dCall).from_, (((mrun l l.length).calls).getD at51 dCall).to_, (((mrun l l.length).calls).getD at51 dCall).done, ⟨((((mrun l l.length).calls).getD at51 dCall).reply).err, (⟨#[111, 116, 104, 101, 114]⟩ : ByteArray)⟩⟩ : CallV)), 0 ≤ c.op.amount := set_amount hokc (show 0 ≤ ((mrun l l.length).calls.getD at51 dCall).op.amount from hokc _ (getD_mem (d := dCall) (show at51 < (mrun l l.length).calls.length by omega)))
                refine GoC.slots (S' := [(86, vp ab53 (0 + (at51 * 13) + 11 + 1)), (12, .bool true), (11, .slice oa38 (((findF ((mrun l l.length).calls)).getD []).length) oc39), (9, vl ab53 0 ((((mrun l l.length).calls).set at51 (⟨(((mrun l l.length).calls).getD at51 dCall).client, (((mrun l l.length).calls).getD at51 dCall).time, ⟨((((mrun l l.length).calls).getD at51 dCall).op).kind, ((((mrun l l.length).calls).getD at51 dCall).op).key, ((((mrun l l.length).calls).getD at51 dCall).op).value, ((((mrun l l.length).calls).getD at51 dCall).op).old, ((((mrun l l.length).calls).getD at51 dCall).op).dest, ((((mrun l l.length).calls).getD at51 dCall).op).amount⟩, (((mrun l l.length).calls).getD at51 dCall).from_, (((mrun l l.length).calls).getD at51 dCall).to_, (((mrun l l.length).calls).getD at51 dCall).done, ⟨((((mrun l l.length).calls).getD at51 dCall).reply).err, (⟨#[111, 116, 104, 101, 114]⟩ : ByteArray)⟩⟩ : CallV)).length) oc31), (1, .slice al raw.length cl)]) (by rw [List.length_set] <;> rfl) ?_
                refine Xt (.rd 0 (.ef 1 (.rd 2 (.rd 3 (.rd 4 (.rd 5 (.rd 6 .done))))))) ?_
                refine Xk [(0, .gen [])] [] [(88, vl ab53 0 ((((mrun l l.length).calls).set at51 (⟨(((mrun l l.length).calls).getD at51 dCall).client, (((mrun l l.length).calls).getD at51 dCall).time, ⟨((((mrun l l.length).calls).getD at51 dCall).op).kind, ((((mrun l l.length).calls).getD at51 dCall).op).key, ((((mrun l l.length).calls).getD at51 dCall).op).value, ((((mrun l l.length).calls).getD at51 dCall).op).old, ((((mrun l l.length).calls).getD at51 dCall).op).dest, ((((mrun l l.length).calls).getD at51 dCall).op).amount⟩, (((mrun l l.length).calls).getD at51 dCall).from_, (((mrun l l.length).calls).getD at51 dCall).to_, (((mrun l l.length).calls).getD at51 dCall).done, ⟨((((mrun l l.length).calls).getD at51 dCall).reply).err, (⟨#[111, 116, 104, 101, 114]⟩ : ByteArray)⟩⟩ : CallV)).length) oc31), (12, .bool true), (11, .slice oa38 (((findF ((mrun l l.length).calls)).getD []).length) oc39), (9, vl ab53 0 ((((mrun l l.length).calls).set at51 (⟨(((mrun l l.length).calls).getD at51 dCall).client, (((mrun l l.length).calls).getD at51 dCall).time, ⟨((((mrun l l.length).calls).getD at51 dCall).op).kind, ((((mrun l l.length).calls).getD at51 dCall).op).key, ((((mrun l l.length).calls).getD at51 dCall).op).value, ((((mrun l l.length).calls).getD at51 dCall).op).old, ((((mrun l l.length).calls).getD at51 dCall).op).dest, ((((mrun l l.length).calls).getD at51 dCall).op).amount⟩, (((mrun l l.length).calls).getD at51 dCall).from_, (((mrun l l.length).calls).getD at51 dCall).to_, (((mrun l l.length).calls).getD at51 dCall).done, ⟨((((mrun l l.length).calls).getD at51 dCall).reply).err, (⟨#[111, 116, 104, 101, 114]⟩ : ByteArray)⟩⟩ : CallV)).length) oc31), (1, .slice al raw.length cl)] ak0 ?_
                refine Xa (f := 12) (args := #[vl ab53 0 ((((mrun l l.length).calls).set at51 (⟨(((mrun l l.length).calls).getD at51 dCall).client, (((mrun l l.length).calls).getD at51 dCall).time, ⟨((((mrun l l.length).calls).getD at51 dCall).op).kind, ((((mrun l l.length).calls).getD at51 dCall).op).key, ((((mrun l l.length).calls).getD at51 dCall).op).value, ((((mrun l l.length).calls).getD at51 dCall).op).old, ((((mrun l l.length).calls).getD at51 dCall).op).dest, ((((mrun l l.length).calls).getD at51 dCall).op).amount⟩, (((mrun l l.length).calls).getD at51 dCall).from_, (((mrun l l.length).calls).getD at51 dCall).to_, (((mrun l l.length).calls).getD at51 dCall).done, ⟨((((mrun l l.length).calls).getD at51 dCall).reply).err, (⟨#[111, 116, 104, 101, 114]⟩ : ByteArray)⟩⟩ : CallV)).length) oc31]) Tryz.call12 (find_spec_ (((mrun l l.length).calls).set at51 (⟨(((mrun l l.length).calls).getD at51 dCall).client, (((mrun l l.length).calls).getD at51 dCall).time, ⟨((((mrun l l.length).calls).getD at51 dCall).op).kind, ((((mrun l l.length).calls).getD at51 dCall).op).key, ((((mrun l l.length).calls).getD at51 dCall).op).value, ((((mrun l l.length).calls).getD at51 dCall).op).old, ((((mrun l l.length).calls).getD at51 dCall).op).dest, ((((mrun l l.length).calls).getD at51 dCall).op).amount⟩, (((mrun l l.length).calls).getD at51 dCall).from_, (((mrun l l.length).calls).getD at51 dCall).to_, (((mrun l l.length).calls).getD at51 dCall).done, ⟨((((mrun l l.length).calls).getD at51 dCall).reply).err, (⟨#[111, 116, 104, 101, 114]⟩ : ByteArray)⟩⟩ : CallV)) (by first | omega | (simp only [List.length_set]; omega)) hokc2 (fun w h => hLW.base h 3 rfl) (fun w h => h.rows 1 rfl (callF).size _) hs56) ?_
                rintro v63 w64 (⟨oa57, oc58, rfl, h59, hs60⟩ | ⟨rfl, h61, hs62⟩)
                · refine ⟨Xo, ?_⟩
                  refine Xk [(2, .gen []), (3, .gen []), (4, .gen []), (5, .gen []), (6, .gen [])] [] [(12, .bool true), (11, .slice oa57 (((findF (((mrun l l.length).calls).set at51 (⟨(((mrun l l.length).calls).getD at51 dCall).client, (((mrun l l.length).calls).getD at51 dCall).time, ⟨((((mrun l l.length).calls).getD at51 dCall).op).kind, ((((mrun l l.length).calls).getD at51 dCall).op).key, ((((mrun l l.length).calls).getD at51 dCall).op).value, ((((mrun l l.length).calls).getD at51 dCall).op).old, ((((mrun l l.length).calls).getD at51 dCall).op).dest, ((((mrun l l.length).calls).getD at51 dCall).op).amount⟩, (((mrun l l.length).calls).getD at51 dCall).from_, (((mrun l l.length).calls).getD at51 dCall).to_, (((mrun l l.length).calls).getD at51 dCall).done, ⟨((((mrun l l.length).calls).getD at51 dCall).reply).err, (⟨#[111, 116, 104, 101, 114]⟩ : ByteArray)⟩⟩ : CallV))).getD []).length) oc58), (9, vl ab53 0 ((((mrun l l.length).calls).set at51 (⟨(((mrun l l.length).calls).getD at51 dCall).client, (((mrun l l.length).calls).getD at51 dCall).time, ⟨((((mrun l l.length).calls).getD at51 dCall).op).kind, ((((mrun l l.length).calls).getD at51 dCall).op).key, ((((mrun l l.length).calls).getD at51 dCall).op).value, ((((mrun l l.length).calls).getD at51 dCall).op).old, ((((mrun l l.length).calls).getD at51 dCall).op).dest, ((((mrun l l.length).calls).getD at51 dCall).op).amount⟩, (((mrun l l.length).calls).getD at51 dCall).from_, (((mrun l l.length).calls).getD at51 dCall).to_, (((mrun l l.length).calls).getD at51 dCall).done, ⟨((((mrun l l.length).calls).getD at51 dCall).reply).err, (⟨#[111, 116, 104, 101, 114]⟩ : ByteArray)⟩⟩ : CallV)).length) oc31), (1, .slice al raw.length cl)] ak0 ?_
                  refine GoR.done (GoQ.thn (GoC.seq ?_))
                  refine Xt (.rd 0 (.rd 1 (.rd 2 (.rd 3 (.ef 4 (.rd 5 (.rd 6 .done))))))) ?_
                  refine Xk [(0, .gen []), (1, .gen []), (2, .gen []), (3, .gen [])] [] [(95, .slice oa57 (((findF (((mrun l l.length).calls).set at51 (⟨(((mrun l l.length).calls).getD at51 dCall).client, (((mrun l l.length).calls).getD at51 dCall).time, ⟨((((mrun l l.length).calls).getD at51 dCall).op).kind, ((((mrun l l.length).calls).getD at51 dCall).op).key, ((((mrun l l.length).calls).getD at51 dCall).op).value, ((((mrun l l.length).calls).getD at51 dCall).op).old, ((((mrun l l.length).calls).getD at51 dCall).op).dest, ((((mrun l l.length).calls).getD at51 dCall).op).amount⟩, (((mrun l l.length).calls).getD at51 dCall).from_, (((mrun l l.length).calls).getD at51 dCall).to_, (((mrun l l.length).calls).getD at51 dCall).done, ⟨((((mrun l l.length).calls).getD at51 dCall).reply).err, (⟨#[111, 116, 104, 101, 114]⟩ : ByteArray)⟩⟩ : CallV))).getD []).length) oc58), (94, vl ab53 0 ((((mrun l l.length).calls).set at51 (⟨(((mrun l l.length).calls).getD at51 dCall).client, (((mrun l l.length).calls).getD at51 dCall).time, ⟨((((mrun l l.length).calls).getD at51 dCall).op).kind, ((((mrun l l.length).calls).getD at51 dCall).op).key, ((((mrun l l.length).calls).getD at51 dCall).op).value, ((((mrun l l.length).calls).getD at51 dCall).op).old, ((((mrun l l.length).calls).getD at51 dCall).op).dest, ((((mrun l l.length).calls).getD at51 dCall).op).amount⟩, (((mrun l l.length).calls).getD at51 dCall).from_, (((mrun l l.length).calls).getD at51 dCall).to_, (((mrun l l.length).calls).getD at51 dCall).done, ⟨((((mrun l l.length).calls).getD at51 dCall).reply).err, (⟨#[111, 116, 104, 101, 114]⟩ : ByteArray)⟩⟩ : CallV)).length) oc31), (93, .bool true), (1, .slice al raw.length cl)] ak0 ?_
                  refine Xa (f := 17) (args := #[vl ab53 0 ((((mrun l l.length).calls).set at51 (⟨(((mrun l l.length).calls).getD at51 dCall).client, (((mrun l l.length).calls).getD at51 dCall).time, ⟨((((mrun l l.length).calls).getD at51 dCall).op).kind, ((((mrun l l.length).calls).getD at51 dCall).op).key, ((((mrun l l.length).calls).getD at51 dCall).op).value, ((((mrun l l.length).calls).getD at51 dCall).op).old, ((((mrun l l.length).calls).getD at51 dCall).op).dest, ((((mrun l l.length).calls).getD at51 dCall).op).amount⟩, (((mrun l l.length).calls).getD at51 dCall).from_, (((mrun l l.length).calls).getD at51 dCall).to_, (((mrun l l.length).calls).getD at51 dCall).done, ⟨((((mrun l l.length).calls).getD at51 dCall).reply).err, (⟨#[111, 116, 104, 101, 114]⟩ : ByteArray)⟩⟩ : CallV)).length) oc31, .slice oa57 (((findF (((mrun l l.length).calls).set at51 (⟨(((mrun l l.length).calls).getD at51 dCall).client, (((mrun l l.length).calls).getD at51 dCall).time, ⟨((((mrun l l.length).calls).getD at51 dCall).op).kind, ((((mrun l l.length).calls).getD at51 dCall).op).key, ((((mrun l l.length).calls).getD at51 dCall).op).value, ((((mrun l l.length).calls).getD at51 dCall).op).old, ((((mrun l l.length).calls).getD at51 dCall).op).dest, ((((mrun l l.length).calls).getD at51 dCall).op).amount⟩, (((mrun l l.length).calls).getD at51 dCall).from_, (((mrun l l.length).calls).getD at51 dCall).to_, (((mrun l l.length).calls).getD at51 dCall).done, ⟨((((mrun l l.length).calls).getD at51 dCall).reply).err, (⟨#[111, 116, 104, 101, 114]⟩ : ByteArray)⟩⟩ : CallV))).getD []).length) oc58]) Tryz.call17 (right_spec (((mrun l l.length).calls).set at51 (⟨(((mrun l l.length).calls).getD at51 dCall).client, (((mrun l l.length).calls).getD at51 dCall).time, ⟨((((mrun l l.length).calls).getD at51 dCall).op).kind, ((((mrun l l.length).calls).getD at51 dCall).op).key, ((((mrun l l.length).calls).getD at51 dCall).op).value, ((((mrun l l.length).calls).getD at51 dCall).op).old, ((((mrun l l.length).calls).getD at51 dCall).op).dest, ((((mrun l l.length).calls).getD at51 dCall).op).amount⟩, (((mrun l l.length).calls).getD at51 dCall).from_, (((mrun l l.length).calls).getD at51 dCall).to_, (((mrun l l.length).calls).getD at51 dCall).done, ⟨((((mrun l l.length).calls).getD at51 dCall).reply).err, (⟨#[111, 116, 104, 101, 114]⟩ : ByteArray)⟩⟩ : CallV)) ((findF (((mrun l l.length).calls).set at51 (⟨(((mrun l l.length).calls).getD at51 dCall).client, (((mrun l l.length).calls).getD at51 dCall).time, ⟨((((mrun l l.length).calls).getD at51 dCall).op).kind, ((((mrun l l.length).calls).getD at51 dCall).op).key, ((((mrun l l.length).calls).getD at51 dCall).op).value, ((((mrun l l.length).calls).getD at51 dCall).op).old, ((((mrun l l.length).calls).getD at51 dCall).op).dest, ((((mrun l l.length).calls).getD at51 dCall).op).amount⟩, (((mrun l l.length).calls).getD at51 dCall).from_, (((mrun l l.length).calls).getD at51 dCall).to_, (((mrun l l.length).calls).getD at51 dCall).done, ⟨((((mrun l l.length).calls).getD at51 dCall).reply).err, (⟨#[111, 116, 104, 101, 114]⟩ : ByteArray)⟩⟩ : CallV))).getD []) (by first | omega | (simp only [List.length_set]; omega)) (Nat.le_trans hfl2 (by decide)) (findF_lt _) hokc2 (fun w h => hLW.base h 4 rfl) (fun w h => h.rows 2 rfl (callF).size _) (fun w h => h.rows 0 rfl (natF).size _) hs60) ?_
                  rintro v66 w67 ⟨rfl, hs65⟩
                  refine ⟨Xo, ?_⟩
                  refine Xk [(5, .gen []), (6, .gen [])] [] [(98, .bool (!(okO (((mrun l l.length).calls).set at51 (⟨(((mrun l l.length).calls).getD at51 dCall).client, (((mrun l l.length).calls).getD at51 dCall).time, ⟨((((mrun l l.length).calls).getD at51 dCall).op).kind, ((((mrun l l.length).calls).getD at51 dCall).op).key, ((((mrun l l.length).calls).getD at51 dCall).op).value, ((((mrun l l.length).calls).getD at51 dCall).op).old, ((((mrun l l.length).calls).getD at51 dCall).op).dest, ((((mrun l l.length).calls).getD at51 dCall).op).amount⟩, (((mrun l l.length).calls).getD at51 dCall).from_, (((mrun l l.length).calls).getD at51 dCall).to_, (((mrun l l.length).calls).getD at51 dCall).done, ⟨((((mrun l l.length).calls).getD at51 dCall).reply).err, (⟨#[111, 116, 104, 101, 114]⟩ : ByteArray)⟩⟩ : CallV)) ((findF (((mrun l l.length).calls).set at51 (⟨(((mrun l l.length).calls).getD at51 dCall).client, (((mrun l l.length).calls).getD at51 dCall).time, ⟨((((mrun l l.length).calls).getD at51 dCall).op).kind, ((((mrun l l.length).calls).getD at51 dCall).op).key, ((((mrun l l.length).calls).getD at51 dCall).op).value, ((((mrun l l.length).calls).getD at51 dCall).op).old, ((((mrun l l.length).calls).getD at51 dCall).op).dest, ((((mrun l l.length).calls).getD at51 dCall).op).amount⟩, (((mrun l l.length).calls).getD at51 dCall).from_, (((mrun l l.length).calls).getD at51 dCall).to_, (((mrun l l.length).calls).getD at51 dCall).done, ⟨((((mrun l l.length).calls).getD at51 dCall).reply).err, (⟨#[111, 116, 104, 101, 114]⟩ : ByteArray)⟩⟩ : CallV))).getD [])))), (1, .slice al raw.length cl)] ak0 ?_
                  refine GoR.done (GoQ.thn ?_)
                  refine Xc (t := !(okO (((mrun l l.length).calls).set at51 (⟨(((mrun l l.length).calls).getD at51 dCall).client, (((mrun l l.length).calls).getD at51 dCall).time, ⟨((((mrun l l.length).calls).getD at51 dCall).op).kind, ((((mrun l l.length).calls).getD at51 dCall).op).key, ((((mrun l l.length).calls).getD at51 dCall).op).value, ((((mrun l l.length).calls).getD at51 dCall).op).old, ((((mrun l l.length).calls).getD at51 dCall).op).dest, ((((mrun l l.length).calls).getD at51 dCall).op).amount⟩, (((mrun l l.length).calls).getD at51 dCall).from_, (((mrun l l.length).calls).getD at51 dCall).to_, (((mrun l l.length).calls).getD at51 dCall).done, ⟨((((mrun l l.length).calls).getD at51 dCall).reply).err, (⟨#[111, 116, 104, 101, 114]⟩ : ByteArray)⟩⟩ : CallV)) ((findF (((mrun l l.length).calls).set at51 (⟨(((mrun l l.length).calls).getD at51 dCall).client, (((mrun l l.length).calls).getD at51 dCall).time, ⟨((((mrun l l.length).calls).getD at51 dCall).op).kind, ((((mrun l l.length).calls).getD at51 dCall).op).key, ((((mrun l l.length).calls).getD at51 dCall).op).value, ((((mrun l l.length).calls).getD at51 dCall).op).old, ((((mrun l l.length).calls).getD at51 dCall).op).dest, ((((mrun l l.length).calls).getD at51 dCall).op).amount⟩, (((mrun l l.length).calls).getD at51 dCall).from_, (((mrun l l.length).calls).getD at51 dCall).to_, (((mrun l l.length).calls).getD at51 dCall).done, ⟨((((mrun l l.length).calls).getD at51 dCall).reply).err, (⟨#[111, 116, 104, 101, 114]⟩ : ByteArray)⟩⟩ : CallV))).getD []))) (fun h68 => ?_) (fun h68 => ?_)
                  · have h68n : (okO (((mrun l l.length).calls).set at51 (⟨(((mrun l l.length).calls).getD at51 dCall).client, (((mrun l l.length).calls).getD at51 dCall).time, ⟨((((mrun l l.length).calls).getD at51 dCall).op).kind, ((((mrun l l.length).calls).getD at51 dCall).op).key, ((((mrun l l.length).calls).getD at51 dCall).op).value, ((((mrun l l.length).calls).getD at51 dCall).op).old, ((((mrun l l.length).calls).getD at51 dCall).op).dest, ((((mrun l l.length).calls).getD at51 dCall).op).amount⟩, (((mrun l l.length).calls).getD at51 dCall).from_, (((mrun l l.length).calls).getD at51 dCall).to_, (((mrun l l.length).calls).getD at51 dCall).done, ⟨((((mrun l l.length).calls).getD at51 dCall).reply).err, (⟨#[111, 116, 104, 101, 114]⟩ : ByteArray)⟩⟩ : CallV)) ((findF (((mrun l l.length).calls).set at51 (⟨(((mrun l l.length).calls).getD at51 dCall).client, (((mrun l l.length).calls).getD at51 dCall).time, ⟨((((mrun l l.length).calls).getD at51 dCall).op).kind, ((((mrun l l.length).calls).getD at51 dCall).op).key, ((((mrun l l.length).calls).getD at51 dCall).op).value, ((((mrun l l.length).calls).getD at51 dCall).op).old, ((((mrun l l.length).calls).getD at51 dCall).op).dest, ((((mrun l l.length).calls).getD at51 dCall).op).amount⟩, (((mrun l l.length).calls).getD at51 dCall).from_, (((mrun l l.length).calls).getD at51 dCall).to_, (((mrun l l.length).calls).getD at51 dCall).done, ⟨((((mrun l l.length).calls).getD at51 dCall).reply).err, (⟨#[111, 116, 104, 101, 114]⟩ : ByteArray)⟩⟩ : CallV))).getD [])) = false := notT h68
                    exact absurd (h68n.symm.trans (findF_ok h59)) (by decide)
                  · have h68n : (okO (((mrun l l.length).calls).set at51 (⟨(((mrun l l.length).calls).getD at51 dCall).client, (((mrun l l.length).calls).getD at51 dCall).time, ⟨((((mrun l l.length).calls).getD at51 dCall).op).kind, ((((mrun l l.length).calls).getD at51 dCall).op).key, ((((mrun l l.length).calls).getD at51 dCall).op).value, ((((mrun l l.length).calls).getD at51 dCall).op).old, ((((mrun l l.length).calls).getD at51 dCall).op).dest, ((((mrun l l.length).calls).getD at51 dCall).op).amount⟩, (((mrun l l.length).calls).getD at51 dCall).from_, (((mrun l l.length).calls).getD at51 dCall).to_, (((mrun l l.length).calls).getD at51 dCall).done, ⟨((((mrun l l.length).calls).getD at51 dCall).reply).err, (⟨#[111, 116, 104, 101, 114]⟩ : ByteArray)⟩⟩ : CallV)) ((findF (((mrun l l.length).calls).set at51 (⟨(((mrun l l.length).calls).getD at51 dCall).client, (((mrun l l.length).calls).getD at51 dCall).time, ⟨((((mrun l l.length).calls).getD at51 dCall).op).kind, ((((mrun l l.length).calls).getD at51 dCall).op).key, ((((mrun l l.length).calls).getD at51 dCall).op).value, ((((mrun l l.length).calls).getD at51 dCall).op).old, ((((mrun l l.length).calls).getD at51 dCall).op).dest, ((((mrun l l.length).calls).getD at51 dCall).op).amount⟩, (((mrun l l.length).calls).getD at51 dCall).from_, (((mrun l l.length).calls).getD at51 dCall).to_, (((mrun l l.length).calls).getD at51 dCall).done, ⟨((((mrun l l.length).calls).getD at51 dCall).reply).err, (⟨#[111, 116, 104, 101, 114]⟩ : ByteArray)⟩⟩ : CallV))).getD [])) = true := notF h68
                    refine GoC.skip (GoQ.thn (GoC.seq ?_))
                    refine Xt (.rd 0 (.ef 1 (.rd 2 (.rd 3 (.rd 4 (.rd 5 (.rd 6 .done))))))) ?_
                    refine Xk [(0, .gen [])] [] [(100, .slice al raw.length cl), (1, .slice al raw.length cl)] ak0 ?_
                    refine Xa (f := 12) (args := #[.slice al raw.length cl]) Tryz.call12 (find_spec_ raw (by first | omega | (simp only [List.length_set]; omega)) hokw (fun w h => hLW.base h 4 rfl) (fun w h => rw2.base (fun k _ => (callF).size _) h 4 rfl) hs65) ?_
                    rintro v75 w76 (⟨oa69, oc70, rfl, h71, hs72⟩ | ⟨rfl, h73, hs74⟩)
                    · refine ⟨Xo, ?_⟩
                      refine Xk [(2, .gen []), (3, .gen []), (4, .gen []), (5, .gen []), (6, .gen [])] [] [(15, .bool true), (14, .slice oa69 (((findF raw).getD []).length) oc70), (1, .slice al raw.length cl)] ak0 ?_
                      refine GoR.done (GoQ.thn (GoC.seq ?_))
                      refine Xt (.rd 0 (.rd 1 (.rd 2 (.rd 3 (.rd 4 (.ef 5 (.rd 6 (.rd 7 (.ef 8 (.rd 9 (.rd 10 .done))))))))))) ?_
                      refine Xk [(0, .gen []), (1, .gen []), (2, .gen []), (3, .gen []), (4, .gen [])] [] [(108, .slice oa69 (((findF raw).getD []).length) oc70), (107, .slice al raw.length cl), (106, .bool false)] ak0 ?_
                      refine Xa (f := 17) (args := #[.slice al raw.length cl, .slice oa69 (((findF raw).getD []).length) oc70]) Tryz.call17 (right_spec raw ((findF raw).getD []) (by first | omega | (simp only [List.length_set]; omega)) (Nat.le_trans hflw (by decide)) (findF_lt _) hokw (fun w h => hLW.base h 5 rfl) (fun w h => rw2.base (fun k _ => (callF).size _) h 5 rfl) (fun w h => h.rows 0 rfl (natF).size _) hs72) ?_
                      rintro v78 w79 ⟨rfl, hs77⟩
                      refine ⟨Xo, ?_⟩
                      refine Xk [(6, .gen []), (7, .gen [])] [] [(111, .bool (okO raw ((findF raw).getD [])))] ak0 ?_
                      rcases Bool.eq_false_or_eq_true (okO raw ((findF raw).getD [])) with h80 | h80
                      · refine Xs 111 true h80 ?_
                        refine Xa (f := 8) (args := #[]) Tryz.call8 (works_spec (fun w h => hLW.base h 5 rfl) hs77) ?_
                        rintro v82 w83 ⟨rfl, hs81⟩
                        refine ⟨Xo, ?_⟩
                        refine Xk [(9, .gen []), (10, .gen [])] [] [(6, .bool true)] ak0 ?_
                        refine GoR.done (GoQ.thn (GoC.ret ?_))
                        refine X1 (v := .bool true) ?_
                        exact ⟨rfl, hs81.below 5 rfl⟩
                      · refine Xs 111 false h80 ?_
                        exact absurd (h80.symm.trans (findF_ok h71)) (by decide)
                    · refine ⟨Xo, ?_⟩
                      refine Xk [(2, .gen []), (3, .gen []), (4, .gen []), (5, .gen []), (6, .gen [])] [] [(15, .bool false), (14, .slice none 0 0), (1, .slice al raw.length cl)] ak0 ?_
                      refine GoR.done (GoQ.thn (GoC.seq ?_))
                      refine Xt (.rd 0 (.rd 1 (.rd 2 (.rd 3 (.rd 4 (.ef 5 (.rd 6 (.rd 7 (.ef 8 (.rd 9 (.rd 10 .done))))))))))) ?_
                      refine Xk [(0, .gen []), (1, .gen []), (2, .gen []), (3, .gen []), (4, .gen [])] [] [(108, undef), (107, undef), (106, .bool true)] ak0 ?_
                      refine GoR.skip rfl (by kernel_rfl) Xo ?_
                      refine Xk [(6, .gen []), (7, .gen [])] [] [(111, .bool true)] ak0 ?_
                      refine Xa (f := 8) (args := #[]) Tryz.call8 (works_spec (fun w h => hLW.base h 4 rfl) hs74) ?_
                      rintro v85 w86 ⟨rfl, hs84⟩
                      refine ⟨Xo, ?_⟩
                      refine Xk [(9, .gen []), (10, .gen [])] [] [(6, .bool true)] ak0 ?_
                      refine GoR.done (GoQ.thn (GoC.ret ?_))
                      refine X1 (v := .bool true) ?_
                      exact ⟨rfl, hs84.below 4 rfl⟩
                · refine ⟨Xo, ?_⟩
                  refine Xk [(2, .gen []), (3, .gen []), (4, .gen []), (5, .gen []), (6, .gen [])] [] [(12, .bool false), (11, .slice none 0 0), (9, vl ab53 0 ((((mrun l l.length).calls).set at51 (⟨(((mrun l l.length).calls).getD at51 dCall).client, (((mrun l l.length).calls).getD at51 dCall).time, ⟨((((mrun l l.length).calls).getD at51 dCall).op).kind, ((((mrun l l.length).calls).getD at51 dCall).op).key, ((((mrun l l.length).calls).getD at51 dCall).op).value, ((((mrun l l.length).calls).getD at51 dCall).op).old, ((((mrun l l.length).calls).getD at51 dCall).op).dest, ((((mrun l l.length).calls).getD at51 dCall).op).amount⟩, (((mrun l l.length).calls).getD at51 dCall).from_, (((mrun l l.length).calls).getD at51 dCall).to_, (((mrun l l.length).calls).getD at51 dCall).done, ⟨((((mrun l l.length).calls).getD at51 dCall).reply).err, (⟨#[111, 116, 104, 101, 114]⟩ : ByteArray)⟩⟩ : CallV)).length) oc31), (1, .slice al raw.length cl)] ak0 ?_
                  refine GoR.done (GoQ.thn (GoC.seq ?_))
                  refine Xt (.rd 0 (.rd 1 (.rd 2 (.rd 3 (.ef 4 (.rd 5 (.rd 6 .done))))))) ?_
                  refine Xk [(0, .gen []), (1, .gen []), (2, .gen []), (3, .gen [])] [] [(95, undef), (94, undef), (93, .bool false), (1, .slice al raw.length cl)] ak0 ?_
                  refine GoR.skip rfl (by kernel_rfl) Xo ?_
                  refine Xk [(5, .gen []), (6, .gen [])] [] [(98, .bool false), (1, .slice al raw.length cl)] ak0 ?_
                  refine GoR.done (GoQ.thn (XF (GoC.skip (GoQ.thn (GoC.seq ?_)))))
                  refine Xt (.rd 0 (.ef 1 (.rd 2 (.rd 3 (.rd 4 (.rd 5 (.rd 6 .done))))))) ?_
                  refine Xk [(0, .gen [])] [] [(100, .slice al raw.length cl), (1, .slice al raw.length cl)] ak0 ?_
                  refine Xa (f := 12) (args := #[.slice al raw.length cl]) Tryz.call12 (find_spec_ raw (by first | omega | (simp only [List.length_set]; omega)) hokw (fun w h => hLW.base h 3 rfl) (fun w h => rw2.base (fun k _ => (callF).size _) h 3 rfl) hs62) ?_
                  rintro v93 w94 (⟨oa87, oc88, rfl, h89, hs90⟩ | ⟨rfl, h91, hs92⟩)
                  · refine ⟨Xo, ?_⟩
                    refine Xk [(2, .gen []), (3, .gen []), (4, .gen []), (5, .gen []), (6, .gen [])] [] [(15, .bool true), (14, .slice oa87 (((findF raw).getD []).length) oc88), (1, .slice al raw.length cl)] ak0 ?_
                    refine GoR.done (GoQ.thn (GoC.seq ?_))
                    refine Xt (.rd 0 (.rd 1 (.rd 2 (.rd 3 (.rd 4 (.ef 5 (.rd 6 (.rd 7 (.ef 8 (.rd 9 (.rd 10 .done))))))))))) ?_
                    refine Xk [(0, .gen []), (1, .gen []), (2, .gen []), (3, .gen []), (4, .gen [])] [] [(108, .slice oa87 (((findF raw).getD []).length) oc88), (107, .slice al raw.length cl), (106, .bool false)] ak0 ?_
                    refine Xa (f := 17) (args := #[.slice al raw.length cl, .slice oa87 (((findF raw).getD []).length) oc88]) Tryz.call17 (right_spec raw ((findF raw).getD []) (by first | omega | (simp only [List.length_set]; omega)) (Nat.le_trans hflw (by decide)) (findF_lt _) hokw (fun w h => hLW.base h 4 rfl) (fun w h => rw2.base (fun k _ => (callF).size _) h 4 rfl) (fun w h => h.rows 0 rfl (natF).size _) hs90) ?_
                    rintro v96 w97 ⟨rfl, hs95⟩
                    refine ⟨Xo, ?_⟩
                    refine Xk [(6, .gen []), (7, .gen [])] [] [(111, .bool (okO raw ((findF raw).getD [])))] ak0 ?_
                    rcases Bool.eq_false_or_eq_true (okO raw ((findF raw).getD [])) with h98 | h98
                    · refine Xs 111 true h98 ?_
                      refine Xa (f := 8) (args := #[]) Tryz.call8 (works_spec (fun w h => hLW.base h 4 rfl) hs95) ?_
                      rintro v100 w101 ⟨rfl, hs99⟩
                      refine ⟨Xo, ?_⟩
                      refine Xk [(9, .gen []), (10, .gen [])] [] [(6, .bool true)] ak0 ?_
                      refine GoR.done (GoQ.thn (GoC.ret ?_))
                      refine X1 (v := .bool true) ?_
                      exact ⟨rfl, hs99.below 4 rfl⟩
                    · refine Xs 111 false h98 ?_
                      exact absurd (h98.symm.trans (findF_ok h89)) (by decide)
                  · refine ⟨Xo, ?_⟩
                    refine Xk [(2, .gen []), (3, .gen []), (4, .gen []), (5, .gen []), (6, .gen [])] [] [(15, .bool false), (14, .slice none 0 0), (1, .slice al raw.length cl)] ak0 ?_
                    refine GoR.done (GoQ.thn (GoC.seq ?_))
                    refine Xt (.rd 0 (.rd 1 (.rd 2 (.rd 3 (.rd 4 (.ef 5 (.rd 6 (.rd 7 (.ef 8 (.rd 9 (.rd 10 .done))))))))))) ?_
                    refine Xk [(0, .gen []), (1, .gen []), (2, .gen []), (3, .gen []), (4, .gen [])] [] [(108, undef), (107, undef), (106, .bool true)] ak0 ?_
                    refine GoR.skip rfl (by kernel_rfl) Xo ?_
                    refine Xk [(6, .gen []), (7, .gen [])] [] [(111, .bool true)] ak0 ?_
                    refine Xa (f := 8) (args := #[]) Tryz.call8 (works_spec (fun w h => hLW.base h 3 rfl) hs92) ?_
                    rintro v103 w104 ⟨rfl, hs102⟩
                    refine ⟨Xo, ?_⟩
                    refine Xk [(9, .gen []), (10, .gen [])] [] [(6, .bool true)] ak0 ?_
                    refine GoR.done (GoQ.thn (GoC.ret ?_))
                    refine X1 (v := .bool true) ?_
                    exact ⟨rfl, hs102.below 3 rfl⟩
              · have h50' : ¬ ((((mrun l l.length).calls.length : Nat) : Int) > 0) := of_decide_eq_false h50
                refine GoC.skip (GoQ.thn (GoC.seq ?_))
                refine Xt (.rd 0 (.ef 1 (.rd 2 (.rd 3 (.rd 4 (.rd 5 (.rd 6 .done))))))) ?_
                refine Xk [(0, .gen [])] [] [(100, .slice al raw.length cl), (1, .slice al raw.length cl)] ak0 ?_
                refine Xa (f := 12) (args := #[.slice al raw.length cl]) Tryz.call12 (find_spec_ raw (by first | omega | (simp only [List.length_set]; omega)) hokw (fun w h => hLW.base h 3 rfl) (fun w h => rw2.base (fun k _ => (callF).size _) h 3 rfl) hs46) ?_
                rintro v111 w112 (⟨oa105, oc106, rfl, h107, hs108⟩ | ⟨rfl, h109, hs110⟩)
                · refine ⟨Xo, ?_⟩
                  refine Xk [(2, .gen []), (3, .gen []), (4, .gen []), (5, .gen []), (6, .gen [])] [] [(15, .bool true), (14, .slice oa105 (((findF raw).getD []).length) oc106), (1, .slice al raw.length cl)] ak0 ?_
                  refine GoR.done (GoQ.thn (GoC.seq ?_))
                  refine Xt (.rd 0 (.rd 1 (.rd 2 (.rd 3 (.rd 4 (.ef 5 (.rd 6 (.rd 7 (.ef 8 (.rd 9 (.rd 10 .done))))))))))) ?_
                  refine Xk [(0, .gen []), (1, .gen []), (2, .gen []), (3, .gen []), (4, .gen [])] [] [(108, .slice oa105 (((findF raw).getD []).length) oc106), (107, .slice al raw.length cl), (106, .bool false)] ak0 ?_
                  refine Xa (f := 17) (args := #[.slice al raw.length cl, .slice oa105 (((findF raw).getD []).length) oc106]) Tryz.call17 (right_spec raw ((findF raw).getD []) (by first | omega | (simp only [List.length_set]; omega)) (Nat.le_trans hflw (by decide)) (findF_lt _) hokw (fun w h => hLW.base h 4 rfl) (fun w h => rw2.base (fun k _ => (callF).size _) h 4 rfl) (fun w h => h.rows 0 rfl (natF).size _) hs108) ?_
                  rintro v114 w115 ⟨rfl, hs113⟩
                  refine ⟨Xo, ?_⟩
                  refine Xk [(6, .gen []), (7, .gen [])] [] [(111, .bool (okO raw ((findF raw).getD [])))] ak0 ?_
                  rcases Bool.eq_false_or_eq_true (okO raw ((findF raw).getD [])) with h116 | h116
                  · refine Xs 111 true h116 ?_
                    refine Xa (f := 8) (args := #[]) Tryz.call8 (works_spec (fun w h => hLW.base h 4 rfl) hs113) ?_
                    rintro v118 w119 ⟨rfl, hs117⟩
                    refine ⟨Xo, ?_⟩
                    refine Xk [(9, .gen []), (10, .gen [])] [] [(6, .bool true)] ak0 ?_
                    refine GoR.done (GoQ.thn (GoC.ret ?_))
                    refine X1 (v := .bool true) ?_
                    exact ⟨rfl, hs117.below 4 rfl⟩
                  · refine Xs 111 false h116 ?_
                    exact absurd (h116.symm.trans (findF_ok h107)) (by decide)
                · refine ⟨Xo, ?_⟩
                  refine Xk [(2, .gen []), (3, .gen []), (4, .gen []), (5, .gen []), (6, .gen [])] [] [(15, .bool false), (14, .slice none 0 0), (1, .slice al raw.length cl)] ak0 ?_
                  refine GoR.done (GoQ.thn (GoC.seq ?_))
                  refine Xt (.rd 0 (.rd 1 (.rd 2 (.rd 3 (.rd 4 (.ef 5 (.rd 6 (.rd 7 (.ef 8 (.rd 9 (.rd 10 .done))))))))))) ?_
                  refine Xk [(0, .gen []), (1, .gen []), (2, .gen []), (3, .gen []), (4, .gen [])] [] [(108, undef), (107, undef), (106, .bool true)] ak0 ?_
                  refine GoR.skip rfl (by kernel_rfl) Xo ?_
                  refine Xk [(6, .gen []), (7, .gen [])] [] [(111, .bool true)] ak0 ?_
                  refine Xa (f := 8) (args := #[]) Tryz.call8 (works_spec (fun w h => hLW.base h 3 rfl) hs110) ?_
                  rintro v121 w122 ⟨rfl, hs120⟩
                  refine ⟨Xo, ?_⟩
                  refine Xk [(9, .gen []), (10, .gen [])] [] [(6, .bool true)] ak0 ?_
                  refine GoR.done (GoQ.thn (GoC.ret ?_))
                  refine X1 (v := .bool true) ?_
                  exact ⟨rfl, hs120.below 3 rfl⟩
          · exact absurd (h42.symm.trans hfd) (by decide)
        · have h37' : ¬ ((((mrun l l.length).calls.length : Nat) : Int) ≤ 7) := of_decide_eq_false h37
          exfalso; omega
end Go.Proofs.YtbmmknchcdhefaaGreatDoor
