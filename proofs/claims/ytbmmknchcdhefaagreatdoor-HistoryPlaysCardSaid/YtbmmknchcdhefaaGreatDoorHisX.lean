/-
  The walk of HistoryPlays. Conditions: none beside each theorem's own.
-/
import Derived.Test.YtbmmknchcdhefaaGreatDoorSxT
import Derived.Test.YtbmmknchcdhefaaGreatDoorHisM
import Derived.Test.YtbmmknchcdhefaaGreatDoorHisN
import Derived.Test.YtbmmknchcdhefaaGreatDoorHisW
import Derived.Test.YtbmmknchcdhefaaGreatDoorHisP
namespace Go.Proofs.YtbmmknchcdhefaaGreatDoor
open Go.RowKit Go.Sx
set_option linter.unusedVariables false
set_option linter.unusedSimpArgs false
set_option linter.unnecessarySimpa false
set_option maxRecDepth 100000
set_option maxHeartbeats 8000000 in
theorem hplays_walk (W : World) (hLW : Laid W) (al : Option Addr) (cl : Nat) (l : List CallV) (ar : Option Addr) (cr : Nat) (row : List ReqV) (hokl : ∀ c ∈ l, CallV.OK c) (hokr : ∀ q ∈ row, ReqV.OK q) (hll : l.length ≤ 2000000000000) (hlr : row.length ≤ 1100000000000) (hnl : al = none → cl = 0) (rw1 : RowsAt W al l.length 13 (fun k => CallV.cells (l.getD k dCall))) (rw2 : RowsAt W ar row.length 40 (fun k => ReqV.cells (row.getD k dReq))) : Calls Tryz.prog 3 #[.slice al l.length cl, .slice ar row.length cr] W (Ret fun rv w' => rv = .bool true ∧ Below W.heap.size W w') := by
  refine enter (args := [.slice al l.length cl, .slice ar row.length cr]) Tryz.func3 rfl Tryz.ntmps3 (Nat.le_of_ble_eq_true (by kernel_rfl)) ?_
  refine GoC.slots (S' := [(0, .slice al l.length cl), (1, .slice ar row.length cr)]) rfl ?_
  refine GoC.seq ?_
  refine Xt (.rd 0 .done) ?_
  refine Xk [(0, .gen [])] [] [(4, .bool false), (0, .slice al l.length cl), (1, .slice ar row.length cr)] ak0 ?_
  refine GoR.done (GoQ.thn (GoC.seq (GoC.seq ?_)))
  refine Xt (.rd 0 (.ef 1 (.rd 2 (.rd 3 (.rd 4 (.ef 5 (.rd 6 (.rd 7 (.rd 8 (.rd 9 (.rd 10 (.rd 11 (.rd 12 .done))))))))))))) ?_
  refine Xk [(0, .gen [])] [] [(14, .slice al l.length cl), (4, .bool false), (0, .slice al l.length cl), (1, .slice ar row.length cr)] ak0 ?_
  refine Xa (f := 6) (args := #[.slice al l.length cl, .int .i64 (20 : Nat)]) Tryz.call6 (few31_spec l 20 (by first | assumption | omega) hokl (fun w h => rw1.base (fun k _ => (callF).size _) h 0 rfl) (St.start W)) ?_
  rintro v4 w5 ⟨b1, rfl, hb2, hs3⟩
  refine ⟨Xo, ?_⟩
  refine Xk [(2, .gen []), (3, .gen [])] [] [(17, .bool (!b1)), (4, .bool false), (0, .slice al l.length cl), (1, .slice ar row.length cr)] ak0 ?_
  rcases Bool.eq_false_or_eq_true (!b1) with h6 | h6
  · refine Xs 17 true h6 ?_
    have h6n : b1 = false := notT h6
    refine Xk [(4, .gen [])] [] [(18, undef), (17, .bool true), (4, .bool false), (0, .slice al l.length cl), (1, .slice ar row.length cr)] ak0 ?_
    refine GoR.skip rfl (by kernel_rfl) Xo ?_
    refine Xk [(6, .gen []), (7, .gen []), (8, .gen []), (9, .gen []), (10, .gen []), (11, .gen []), (12, .gen [])] [] [(26, .bool true), (4, .bool false), (0, .slice al l.length cl), (1, .slice ar row.length cr)] ak0 ?_
    refine GoR.done (GoQ.thn (XT (GoC.seq ?_)))
    refine Xt (.ef 0 (.rd 1 .done)) ?_
    refine Xa (f := 8) (args := #[]) Tryz.call8 (works_spec (fun w h => hLW.base h 0 rfl) hs3) ?_
    rintro v8 w9 ⟨rfl, hs7⟩
    refine ⟨Xo, ?_⟩
    refine Xk [(1, .gen [])] [] [(4, .bool true), (0, .slice al l.length cl), (1, .slice ar row.length cr)] ak0 ?_
    refine GoR.done (GoQ.thn (GoC.ret (GoQ.skipCR ?_)))
    refine X1 (v := .bool true) ?_
    exact ⟨rfl, hs7.below 0 rfl⟩
  · refine Xs 17 false h6 ?_
    have h6n : b1 = true := notF h6
    have hl20 : l.length ≤ 20 := hb2 h6n
    refine Xk [(4, .gen [])] [] [(18, .slice ar row.length cr), (17, .bool false), (4, .bool false), (0, .slice al l.length cl), (1, .slice ar row.length cr)] ak0 ?_
    refine Xa (f := 7) (args := #[.slice ar row.length cr]) Tryz.call7 (few10_spec row (fun q hq => (hokr q hq).op.small) (by first | assumption | omega) (fun w h => rw2.base (fun k _ => (reqF).size _) h 0 rfl) hs3) ?_
    rintro v11 w12 ⟨rfl, hs10⟩
    refine ⟨Xo, ?_⟩
    refine Xk [(6, .gen []), (7, .gen []), (8, .gen [])] [] [(22, .bool (!(few (row.map fun r => r.op)))), (4, .bool false), (0, .slice al l.length cl), (1, .slice ar row.length cr)] ak0 ?_
    rcases Bool.eq_false_or_eq_true (!(few (row.map fun r => r.op))) with h13 | h13
    · refine Xs 22 true h13 ?_
      have h13n : (few (row.map fun r => r.op)) = false := notT h13
      refine Xk [(9, .gen []), (10, .gen []), (11, .gen []), (12, .gen [])] [] [(26, .bool true), (4, .bool false), (0, .slice al l.length cl), (1, .slice ar row.length cr)] ak0 ?_
      refine GoR.done (GoQ.thn (XT (GoC.seq ?_)))
      refine Xt (.ef 0 (.rd 1 .done)) ?_
      refine Xa (f := 8) (args := #[]) Tryz.call8 (works_spec (fun w h => hLW.base h 0 rfl) hs10) ?_
      rintro v15 w16 ⟨rfl, hs14⟩
      refine ⟨Xo, ?_⟩
      refine Xk [(1, .gen [])] [] [(4, .bool true), (0, .slice al l.length cl), (1, .slice ar row.length cr)] ak0 ?_
      refine GoR.done (GoQ.thn (GoC.ret (GoQ.skipCR ?_)))
      refine X1 (v := .bool true) ?_
      exact ⟨rfl, hs14.below 0 rfl⟩
    · refine Xs 22 false h13 ?_
      have h13n : (few (row.map fun r => r.op)) = true := notF h13
      refine Xk [(9, .gen []), (10, .gen []), (11, .gen []), (12, .gen [])] [] [(26, .bool (decide (((row.length : Nat) : Int) > 30))), (4, .bool false), (0, .slice al l.length cl), (1, .slice ar row.length cr)] ak0 ?_
      refine GoR.done (GoQ.thn ?_)
      refine Xc (t := decide (((row.length : Nat) : Int) > 30)) (fun h17 => ?_) (fun h17 => ?_)
      · have h17' : ((row.length : Nat) : Int) > 30 := of_decide_eq_true h17
        refine GoC.seq ?_
        refine Xt (.ef 0 (.rd 1 .done)) ?_
        refine Xa (f := 8) (args := #[]) Tryz.call8 (works_spec (fun w h => hLW.base h 0 rfl) hs10) ?_
        rintro v19 w20 ⟨rfl, hs18⟩
        refine ⟨Xo, ?_⟩
        refine Xk [(1, .gen [])] [] [(4, .bool true), (0, .slice al l.length cl), (1, .slice ar row.length cr)] ak0 ?_
        refine GoR.done (GoQ.thn (GoC.ret (GoQ.skipCR ?_)))
        refine X1 (v := .bool true) ?_
        exact ⟨rfl, hs18.below 0 rfl⟩
      · have h17' : ¬ (((row.length : Nat) : Int) > 30) := of_decide_eq_false h17
        have hlr6 : row.length ≤ 1000000 := by omega
        have hrg := chkV_range l row
        have hokc : ∀ c ∈ l, 0 ≤ c.op.amount := fun c hc => (hokl c hc).op.amount.1
        have hok : ∀ q ∈ row, 0 ≤ q.op.amount := fun q hq => (hokr q hq).op.amount.1
        have hfl := findF_len l
        refine GoC.skip (GoQ.thn (GoC.seq ?_))
        refine Xt (.ef 0 (.rd 1 (.ef 2 (.rd 3 .done)))) ?_
        refine GoR.sliceLit0 rfl (by kernel_rfl) (t := 22) (e := 53) (by kernel_rfl) (by kernel_rfl) (ti := Tryz.t53) (by kernel_rfl) hs10 ?_
        intro b21 w22 hs23 hz24
        have hs25 : St W ((Sl (some ⟨b21, 0, none⟩) 0 53 13 CallV.cells ([] : List CallV)) :: (Base W) :: []) w22 := St.slOf (l := ([] : List CallV)) (f := CallV.cells) hs23 hz24 (callF).size (by simp only [List.length_cons, List.length_nil, maxLen]; omega) (by kernel_rfl)
        refine ⟨Xo, ?_⟩
        refine Xk [(1, .gen [])] [] [(29, .slice al l.length cl), (28, vl b21 0 0 0), (4, .bool false), (0, .slice al l.length cl), (1, .slice ar row.length cr)] ak0 ?_
        refine GoR.append rfl (by kernel_rfl) callsOK callF (ad := some ⟨b21, 0, none⟩) (c := 0) (xs := ([] : List CallV)) (ys := l) (adx := al) (cx := cl) dCall (by kernel_rfl) hs25 (rw1.base (fun k _ => (callF).size _) hs25 1 rfl) hnl (by simp only [List.length_append, List.length_cons, List.length_nil, List.length_map] at *; omega) (by simp only [List.length_append, List.length_cons, List.length_nil, List.length_map] at *; omega) ?_
        intro ad28 c29 w26 hs27
        refine ⟨Xo, ?_⟩
        refine Xk [(3, .gen [])] [] [(5, .slice ad28 ((l).length) c29), (4, .bool false), (0, .slice al l.length cl), (1, .slice ar row.length cr)] ak0 ?_
        refine GoR.done (GoQ.thn (GoC.seq ?_))
        refine Xt (.rd 0 (.rd 1 (.ef 2 (.rd 3 (.rd 4 (.rd 5 (.rd 6 (.rd 7 .done)))))))) ?_
        refine Xk [(0, .gen []), (1, .gen [])] [] [(33, .slice ar row.length cr), (32, .slice ad28 ((l).length) c29), (5, .slice ad28 ((l).length) c29), (4, .bool false), (0, .slice al l.length cl), (1, .slice ar row.length cr)] ak0 ?_
        refine Xa (f := 9) (args := #[.slice ad28 l.length c29, .slice ar row.length cr]) Tryz.call9 (check_spec l row (by omega) (by omega) hok (fun w h => hLW.base h 1 rfl) (fun w h => h.rows 0 rfl (callF).size _) (fun w h => rw2.base (fun k _ => (reqF).size _) h 1 rfl) hs27) ?_
        rintro v31 w32 ⟨rfl, hs30⟩
        refine ⟨Xo, ?_⟩
        refine Xk [(3, .gen []), (4, .gen []), (5, .gen []), (6, .gen []), (7, .gen [])] [] [(7, .int .i64 ((chkV l row).2)), (6, .int .u8 ((chkV l row).1)), (5, .slice ad28 ((l).length) c29), (4, .bool false), (0, .slice al l.length cl), (1, .slice ar row.length cr)] ak0 ?_
        refine GoR.done (GoQ.thn (GoC.seq ?_))
        refine Xt (.rd 0 (.ef 1 (.rd 2 (.ef 3 (.rd 4 (.rd 5 (.rd 6 (.rd 7 (.rd 8 .done))))))))) ?_
        refine Xk [(0, .gen [])] [] [(38, .slice al l.length cl), (7, .int .i64 ((chkV l row).2)), (6, .int .u8 ((chkV l row).1)), (5, .slice ad28 ((l).length) c29), (4, .bool false), (0, .slice al l.length cl), (1, .slice ar row.length cr)] ak0 ?_
        refine Xa (f := 11) (args := #[.slice al l.length cl]) Tryz.call11 (refs_spec l (by omega) (fun w h => rw1.base (fun k _ => (callF).size _) h 1 rfl) hs30) ?_
        rintro v36 w37 ⟨ra33, rc34, rfl, hs35⟩
        refine ⟨Xo, ?_⟩
        refine Xk [(2, .gen [])] [] [(40, .slice ar row.length cr), (39, .slice ra33 l.length rc34), (7, .int .i64 ((chkV l row).2)), (6, .int .u8 ((chkV l row).1)), (5, .slice ad28 ((l).length) c29), (4, .bool false), (0, .slice al l.length cl)] ak0 ?_
        refine Xa (f := 10) (args := #[.slice ra33 l.length rc34, .slice ar row.length cr]) Tryz.call10 (rcheck_spec l row (by omega) (by omega) hok (fun w h => h.rows 0 rfl (callF).size _) (fun w h => rw2.base (fun k _ => (reqF).size _) h 2 rfl) hs35) ?_
        rintro v39 w40 ⟨rfl, hs38⟩
        refine ⟨Xo, ?_⟩
        refine Xk [(4, .gen []), (5, .gen []), (6, .gen []), (7, .gen []), (8, .gen [])] [] [(9, .int .i64 ((chkV l row).2)), (8, .int .i64 ((chkV l row).1)), (7, .int .i64 ((chkV l row).2)), (6, .int .u8 ((chkV l row).1)), (5, .slice ad28 ((l).length) c29), (4, .bool false), (0, .slice al l.length cl)] ak0 ?_
        refine GoR.done (GoQ.thn (GoC.seq (GoC.seq ?_)))
        refine Xt (.rd 0 (.rd 1 (.rd 2 (.rd 3 (.rd 4 (.rd 5 (.rd 6 (.rd 7 (.rd 8 .done))))))))) ?_
        refine Xk [(0, .gen []), (1, .as_ (.int .i64 ((chkV l row).1)) (.gen [])), (2, .gen []), (3, .as_ (.bool false) (.gen [])), (4, .gen []), (5, .gen []), (6, .gen []), (7, .as_ (.bool false) (.gen [])), (8, .gen [])] [(1, [.prop (Value.int .i64 (IntKind.i64.wrap ((chkV l row).1)) = Value.int .i64 ((chkV l row).1))]), (3, [.prop (Value.bool ((((chkV l row).1) : Int) != ((chkV l row).1)) = Value.bool false)]), (7, [.prop (Value.bool ((((chkV l row).2) : Int) != ((chkV l row).2)) = Value.bool false)])] [(52, .bool false), (5, .slice ad28 ((l).length) c29), (4, .bool false), (0, .slice al l.length cl)] (ak (okp (i64ok (by omega) (by omega)) ok0) (ak (okp (by simp) ok0) (ak (okp (by simp) ok0) ak0))) ?_
        refine GoR.done (GoQ.thn (XF (GoC.skip (GoQ.thn (GoC.seq (GoC.seq ?_))))))
        refine GoC.join (T := Unit) (E := fun _ => [(60, .bool ((decide (((l.length : Nat) : Int) ≤ 4)) || (decide (((l.length : Nat) : Int) > 7)))), (5, .slice ad28 ((l).length) c29), (4, .bool false), (0, .slice al l.length cl)]) (F := fun _ w => St W ((Sl ra33 rc34 78 13 CallV.cells l) :: (Sl ad28 c29 53 13 CallV.cells l) :: (Base W) :: []) w) ?_ ?_
        · refine Xt (.rd 0 (.rd 1 (.rd 2 (.rd 3 (.rd 4 (.rd 5 (.rd 6 (.rd 7 .done)))))))) ?_
          refine Xk [(0, .gen []), (1, .gen []), (2, .gen []), (3, .gen [])] [] [(56, .bool (decide (((l.length : Nat) : Int) ≤ 4))), (5, .slice ad28 ((l).length) c29), (4, .bool false), (0, .slice al l.length cl)] ak0 ?_
          rcases Bool.eq_false_or_eq_true (decide (((l.length : Nat) : Int) ≤ 4)) with h41 | h41
          · refine Xs 56 true h41 ?_
            have h41' : ((l.length : Nat) : Int) ≤ 4 := of_decide_eq_true h41
            refine Xk [(4, .gen []), (5, .gen []), (6, .gen []), (7, .gen [])] [] [(60, .bool true), (5, .slice ad28 ((l).length) c29), (4, .bool false), (0, .slice al l.length cl)] ak0 ?_
            refine GoR.done ?_
            refine GoQ.pick [60, 5, 4, 0] (S' := [(60, .bool true), (5, .slice ad28 ((l).length) c29), (4, .bool false), (0, .slice al l.length cl)]) (by kernel_rfl) ?_
            exact GoQ.meet1 () (by first | rfl | (simp only [h6, h6n, h13, h13n, h41, Bool.not_true, Bool.not_false, Bool.true_or, Bool.false_or, Bool.true_and, Bool.false_and, Bool.or_true, Bool.or_false, Bool.and_true, Bool.and_false]; done) | (simp [h6, h6n, h13, h13n, h41]; done)) hs38
          · refine Xs 56 false h41 ?_
            have h41' : ¬ (((l.length : Nat) : Int) ≤ 4) := of_decide_eq_false h41
            refine Xk [(4, .gen []), (5, .gen []), (6, .gen []), (7, .gen [])] [] [(60, .bool (decide (((l.length : Nat) : Int) > 7))), (5, .slice ad28 ((l).length) c29), (4, .bool false), (0, .slice al l.length cl)] ak0 ?_
            refine GoR.done ?_
            refine GoQ.pick [60, 5, 4, 0] (S' := [(60, .bool (decide (((l.length : Nat) : Int) > 7))), (5, .slice ad28 ((l).length) c29), (4, .bool false), (0, .slice al l.length cl)]) (by kernel_rfl) ?_
            exact GoQ.meet1 () (by first | rfl | (simp only [h6, h6n, h13, h13n, h41, Bool.not_true, Bool.not_false, Bool.true_or, Bool.false_or, Bool.true_and, Bool.false_and, Bool.or_true, Bool.or_false, Bool.and_true, Bool.and_false]; done) | (simp [h6, h6n, h13, h13n, h41]; done)) hs38
        intro _ w42 hs43
        refine GoQ.thn ?_
        refine Xc (t := (decide (((l.length : Nat) : Int) ≤ 4)) || (decide (((l.length : Nat) : Int) > 7))) (fun h44 => ?_) (fun h44 => ?_)
        · refine GoC.seq ?_
          refine Xt (.rd 0 (.ef 1 (.rd 2 (.rd 3 (.rd 4 (.rd 5 (.rd 6 .done))))))) ?_
          refine Xk [(0, .gen [])] [] [(62, .slice ad28 ((l).length) c29), (5, .slice ad28 ((l).length) c29), (4, .bool false), (0, .slice al l.length cl)] ak0 ?_
          refine Xa (f := 12) (args := #[.slice ad28 l.length c29]) Tryz.call12 (find_spec_ l (by omega) hokc (fun w h => hLW.base h 2 rfl) (fun w h => h.rows 1 rfl (callF).size _) hs43) ?_
          rintro v51 w52 (⟨oa45, oc46, rfl, h47, hs48⟩ | ⟨rfl, h49, hs50⟩)
          · refine ⟨Xo, ?_⟩
            refine Xk [(2, .gen []), (3, .gen []), (4, .gen []), (5, .gen []), (6, .gen [])] [] [(11, .bool true), (10, .slice oa45 (((findF l).getD []).length) oc46), (5, .slice ad28 ((l).length) c29), (4, .bool false), (0, .slice al l.length cl)] ak0 ?_
            refine GoR.done (GoQ.thn (GoC.seq ?_))
            refine Xt (.rd 0 (.ef 1 (.ef 2 (.rd 3 (.rd 4 (.rd 5 (.rd 6 (.rd 7 .done)))))))) ?_
            refine Xk [(0, .gen [])] [] [(67, .slice al l.length cl), (11, .bool true), (10, .slice oa45 (((findF l).getD []).length) oc46), (5, .slice ad28 ((l).length) c29), (4, .bool false), (0, .slice al l.length cl)] ak0 ?_
            refine Xa (f := 11) (args := #[.slice al l.length cl]) Tryz.call11 (refs_spec l (by omega) (fun w h => rw1.base (fun k _ => (callF).size _) h 3 rfl) hs48) ?_
            rintro v56 w57 ⟨ra53, rc54, rfl, hs55⟩
            refine ⟨Xo, ?_⟩
            refine Xa (f := 13) (args := #[.slice ra53 l.length rc54]) Tryz.call13 (rfind_spec l (by omega) hokc (fun w h => h.rows 0 rfl (callF).size _) hs55) ?_
            rintro v64 w65 (⟨oa58, oc59, rfl, h60, hs61⟩ | ⟨rfl, h62, hs63⟩)
            · refine ⟨Xo, ?_⟩
              refine Xk [(3, .gen []), (4, .gen []), (5, .gen []), (6, .gen []), (7, .gen [])] [] [(13, .bool true), (12, .slice oa58 (((findF l).getD []).length) oc59), (11, .bool true), (10, .slice oa45 (((findF l).getD []).length) oc46), (5, .slice ad28 ((l).length) c29), (4, .bool false), (0, .slice al l.length cl)] ak0 ?_
              refine GoR.done (GoQ.thn (GoC.seq ?_))
              refine Xt (.rd 0 (.rd 1 (.rd 2 (.rd 3 (.rd 4 (.rd 5 (.ef 6 (.rd 7 (.rd 8 .done))))))))) ?_
              refine Xk [(0, .gen []), (1, .gen []), (2, .gen []), (3, .gen []), (4, .gen []), (5, .gen [])] [] [(77, .slice oa58 (((findF l).getD []).length) oc59), (76, .slice oa45 (((findF l).getD []).length) oc46), (75, .bool false), (5, .slice ad28 ((l).length) c29), (4, .bool false), (0, .slice al l.length cl)] ak0 ?_
              refine Xa (f := 14) (args := #[.slice oa45 (((findF l).getD []).length) oc46, .slice oa58 (((findF l).getD []).length) oc59]) Tryz.call14 (numbers_spec ((findF l).getD []) (Nat.le_trans hfl (by decide)) (fun w h => h.rows 2 rfl (natF).size _) (fun w h => h.rows 0 rfl (natF).size _) hs61) ?_
              rintro v67 w68 ⟨rfl, hs66⟩
              refine ⟨Xo, ?_⟩
              refine Xk [(7, .gen []), (8, .gen [])] [] [(80, .bool false), (5, .slice ad28 ((l).length) c29), (4, .bool false), (0, .slice al l.length cl)] ak0 ?_
              refine GoR.done (GoQ.thn (XF (GoC.skip (GoQ.thn (GoC.seq ?_)))))
              refine Xt (.rd 0 (.ef 1 (.rd 2 (.ef 3 (.ef 4 (.rd 5 (.ef 6 (.rd 7 (.rd 8 .done))))))))) ?_
              refine Xk [(0, .gen [])] [] [(81, .slice ad28 ((l).length) c29), (4, .bool false), (0, .slice al l.length cl)] ak0 ?_
              refine Xa (f := 11) (args := #[.slice ad28 l.length c29]) Tryz.call11 (refs_spec l (by omega) (fun w h => h.rows 4 rfl (callF).size _) hs66) ?_
              rintro v72 w73 ⟨ra69, rc70, rfl, hs71⟩
              refine ⟨Xo, ?_⟩
              refine Xk [(2, .gen [])] [] [(83, .slice al l.length cl), (82, .slice ra69 l.length rc70), (4, .bool false)] ak0 ?_
              refine Xa (f := 11) (args := #[.slice al l.length cl]) Tryz.call11 (refs_spec l (by omega) (fun w h => rw1.base (fun k _ => (callF).size _) h 6 rfl) hs71) ?_
              rintro v77 w78 ⟨ra74, rc75, rfl, hs76⟩
              refine ⟨Xo, ?_⟩
              refine Xa (f := 15) (args := #[.slice ra69 l.length rc70, .slice ra74 l.length rc75]) Tryz.call15 (same_spec l (by omega) (fun w h => h.rows 1 rfl (callF).size _) (fun w h => h.rows 0 rfl (callF).size _) hs76) ?_
              rintro v80 w81 ⟨rfl, hs79⟩
              refine ⟨Xo, ?_⟩
              refine Xk [(5, .gen [])] [] [(86, .bool true), (4, .bool false)] ak0 ?_
              refine Xa (f := 8) (args := #[]) Tryz.call8 (works_spec (fun w h => hLW.base h 7 rfl) hs79) ?_
              rintro v83 w84 ⟨rfl, hs82⟩
              refine ⟨Xo, ?_⟩
              refine Xk [(7, .gen []), (8, .gen [])] [] [(4, .bool true)] ak0 ?_
              refine GoR.done (GoQ.thn (GoC.ret ?_))
              refine X1 (v := .bool true) ?_
              exact ⟨rfl, hs82.below 7 rfl⟩
            · exact absurd (h47.symm.trans h62) (by decide)
          · refine ⟨Xo, ?_⟩
            refine Xk [(2, .gen []), (3, .gen []), (4, .gen []), (5, .gen []), (6, .gen [])] [] [(11, .bool false), (10, .slice none 0 0), (5, .slice ad28 ((l).length) c29), (4, .bool false), (0, .slice al l.length cl)] ak0 ?_
            refine GoR.done (GoQ.thn (GoC.seq ?_))
            refine Xt (.rd 0 (.ef 1 (.ef 2 (.rd 3 (.rd 4 (.rd 5 (.rd 6 (.rd 7 .done)))))))) ?_
            refine Xk [(0, .gen [])] [] [(67, .slice al l.length cl), (11, .bool false), (10, .slice none 0 0), (5, .slice ad28 ((l).length) c29), (4, .bool false), (0, .slice al l.length cl)] ak0 ?_
            refine Xa (f := 11) (args := #[.slice al l.length cl]) Tryz.call11 (refs_spec l (by omega) (fun w h => rw1.base (fun k _ => (callF).size _) h 2 rfl) hs50) ?_
            rintro v88 w89 ⟨ra85, rc86, rfl, hs87⟩
            refine ⟨Xo, ?_⟩
            refine Xa (f := 13) (args := #[.slice ra85 l.length rc86]) Tryz.call13 (rfind_spec l (by omega) hokc (fun w h => h.rows 0 rfl (callF).size _) hs87) ?_
            rintro v96 w97 (⟨oa90, oc91, rfl, h92, hs93⟩ | ⟨rfl, h94, hs95⟩)
            · exact absurd (h49.symm.trans h92) (by decide)
            · refine ⟨Xo, ?_⟩
              refine Xk [(3, .gen []), (4, .gen []), (5, .gen []), (6, .gen []), (7, .gen [])] [] [(13, .bool false), (12, .slice none 0 0), (11, .bool false), (10, .slice none 0 0), (5, .slice ad28 ((l).length) c29), (4, .bool false), (0, .slice al l.length cl)] ak0 ?_
              refine GoR.done (GoQ.thn (GoC.seq ?_))
              refine Xt (.rd 0 (.rd 1 (.rd 2 (.rd 3 (.rd 4 (.rd 5 (.ef 6 (.rd 7 (.rd 8 .done))))))))) ?_
              refine Xk [(0, .gen []), (1, .gen []), (2, .gen []), (3, .gen []), (4, .gen []), (5, .gen [])] [] [(77, .slice none 0 0), (76, .slice none 0 0), (75, .bool false), (5, .slice ad28 ((l).length) c29), (4, .bool false), (0, .slice al l.length cl)] ak0 ?_
              refine Xa (f := 14) (args := #[.slice none (([] : List Nat).length) 0, .slice none (([] : List Nat).length) 0]) Tryz.call14 (numbers_spec ([] : List Nat) (Nat.zero_le _) (fun _ _ => RowsAt.nil _ _ _) (fun _ _ => RowsAt.nil _ _ _) hs95) ?_
              rintro v99 w100 ⟨rfl, hs98⟩
              refine ⟨Xo, ?_⟩
              refine Xk [(7, .gen []), (8, .gen [])] [] [(80, .bool false), (5, .slice ad28 ((l).length) c29), (4, .bool false), (0, .slice al l.length cl)] ak0 ?_
              refine GoR.done (GoQ.thn (XF (GoC.skip (GoQ.thn (GoC.seq ?_)))))
              refine Xt (.rd 0 (.ef 1 (.rd 2 (.ef 3 (.ef 4 (.rd 5 (.ef 6 (.rd 7 (.rd 8 .done))))))))) ?_
              refine Xk [(0, .gen [])] [] [(81, .slice ad28 ((l).length) c29), (4, .bool false), (0, .slice al l.length cl)] ak0 ?_
              refine Xa (f := 11) (args := #[.slice ad28 l.length c29]) Tryz.call11 (refs_spec l (by omega) (fun w h => h.rows 2 rfl (callF).size _) hs98) ?_
              rintro v104 w105 ⟨ra101, rc102, rfl, hs103⟩
              refine ⟨Xo, ?_⟩
              refine Xk [(2, .gen [])] [] [(83, .slice al l.length cl), (82, .slice ra101 l.length rc102), (4, .bool false)] ak0 ?_
              refine Xa (f := 11) (args := #[.slice al l.length cl]) Tryz.call11 (refs_spec l (by omega) (fun w h => rw1.base (fun k _ => (callF).size _) h 4 rfl) hs103) ?_
              rintro v109 w110 ⟨ra106, rc107, rfl, hs108⟩
              refine ⟨Xo, ?_⟩
              refine Xa (f := 15) (args := #[.slice ra101 l.length rc102, .slice ra106 l.length rc107]) Tryz.call15 (same_spec l (by omega) (fun w h => h.rows 1 rfl (callF).size _) (fun w h => h.rows 0 rfl (callF).size _) hs108) ?_
              rintro v112 w113 ⟨rfl, hs111⟩
              refine ⟨Xo, ?_⟩
              refine Xk [(5, .gen [])] [] [(86, .bool true), (4, .bool false)] ak0 ?_
              refine Xa (f := 8) (args := #[]) Tryz.call8 (works_spec (fun w h => hLW.base h 5 rfl) hs111) ?_
              rintro v115 w116 ⟨rfl, hs114⟩
              refine ⟨Xo, ?_⟩
              refine Xk [(7, .gen []), (8, .gen [])] [] [(4, .bool true)] ak0 ?_
              refine GoR.done (GoQ.thn (GoC.ret ?_))
              refine X1 (v := .bool true) ?_
              exact ⟨rfl, hs114.below 5 rfl⟩
        · have h44a : (decide (((l.length : Nat) : Int) ≤ 4)) = false := (Bool.or_eq_false_iff.1 h44).1
          have h44a' : ¬ (((l.length : Nat) : Int) ≤ 4) := of_decide_eq_false h44a
          have h44b : (decide (((l.length : Nat) : Int) > 7)) = false := (Bool.or_eq_false_iff.1 h44).2
          have h44b' : ¬ (((l.length : Nat) : Int) > 7) := of_decide_eq_false h44b
          refine GoC.skip (GoQ.thn (GoC.seq ?_))
          refine Xt (.rd 0 (.ef 1 (.rd 2 (.ef 3 (.ef 4 (.rd 5 (.ef 6 (.rd 7 (.rd 8 .done))))))))) ?_
          refine Xk [(0, .gen [])] [] [(81, .slice ad28 ((l).length) c29), (4, .bool false), (0, .slice al l.length cl)] ak0 ?_
          refine Xa (f := 11) (args := #[.slice ad28 l.length c29]) Tryz.call11 (refs_spec l (by omega) (fun w h => h.rows 1 rfl (callF).size _) hs43) ?_
          rintro v120 w121 ⟨ra117, rc118, rfl, hs119⟩
          refine ⟨Xo, ?_⟩
          refine Xk [(2, .gen [])] [] [(83, .slice al l.length cl), (82, .slice ra117 l.length rc118), (4, .bool false)] ak0 ?_
          refine Xa (f := 11) (args := #[.slice al l.length cl]) Tryz.call11 (refs_spec l (by omega) (fun w h => rw1.base (fun k _ => (callF).size _) h 3 rfl) hs119) ?_
          rintro v125 w126 ⟨ra122, rc123, rfl, hs124⟩
          refine ⟨Xo, ?_⟩
          refine Xa (f := 15) (args := #[.slice ra117 l.length rc118, .slice ra122 l.length rc123]) Tryz.call15 (same_spec l (by omega) (fun w h => h.rows 1 rfl (callF).size _) (fun w h => h.rows 0 rfl (callF).size _) hs124) ?_
          rintro v128 w129 ⟨rfl, hs127⟩
          refine ⟨Xo, ?_⟩
          refine Xk [(5, .gen [])] [] [(86, .bool true), (4, .bool false)] ak0 ?_
          refine Xa (f := 8) (args := #[]) Tryz.call8 (works_spec (fun w h => hLW.base h 4 rfl) hs127) ?_
          rintro v131 w132 ⟨rfl, hs130⟩
          refine ⟨Xo, ?_⟩
          refine Xk [(7, .gen []), (8, .gen [])] [] [(4, .bool true)] ak0 ?_
          refine GoR.done (GoQ.thn (GoC.ret ?_))
          refine X1 (v := .bool true) ?_
          exact ⟨rfl, hs130.below 4 rfl⟩
end Go.Proofs.YtbmmknchcdhefaaGreatDoor
