/-
  Package ledger: move, by, Do.
-/
import Derived.Test.YtbmmknchcdhefaaGreatDoorSxT
import Derived.Test.YtbmmknchcdhefaaGreatDoorProg
import Derived.Test.YtbmmknchcdhefaaGreatDoorLedB
import Derived.Test.YtbmmknchcdhefaaGreatDoorLedC
namespace Go.Proofs.YtbmmknchcdhefaaGreatDoor
open Go.RowKit Go.Sx
set_option linter.unusedVariables false
set_option linter.unusedSimpArgs false
set_option linter.unnecessarySimpa false
set_option maxRecDepth 100000
theorem number_range (s : ByteArray) : 0 ≤ (number s).1 ∧ (number s).1 < 18446744073709551616 := by
  have h : (number s).1 = (pu s).1 := by
    unfold number
    split
    · split
      · split <;> rfl
      · rfl
    · rfl
  rw [h]; exact pu_range s
theorem u64wrap_b (n : Int) : 0 ≤ IntKind.u64.wrap n ∧ IntKind.u64.wrap n < 18446744073709551616 := by rw [IntKind.wrap_u64]; omega
def Short (m : List (ByteArray × ByteArray)) : Prop := ∀ x ∈ m, x.2.size ≤ 281474976710656
theorem Short.get {m : List (ByteArray × ByteArray)} (h : Short m) (k : ByteArray) : ((aget m k).getD (⟨#[]⟩ : ByteArray)).size ≤ 281474976710656 := by
  unfold aget
  cases hf : m.find? fun x => decide (x.1 = k) with
  | none => decide
  | some x => exact h x (List.mem_of_find?_eq_some hf)
def lmove (m : List (ByteArray × ByteArray)) (o : OpV) (was : ByteArray) : (RepV) × List (ByteArray × ByteArray) :=
  if (!((number was).2)) = true then
    ((failed 5 (⟨#[]⟩ : ByteArray)), m)
  else
    if (((aget m o.dest).isSome) && (!((number ((aget m o.dest).getD (⟨#[]⟩ : ByteArray))).2))) = true then
      ((failed 5 (⟨#[]⟩ : ByteArray)), m)
    else
      if (decide (((number was).1 : Int) < o.amount)) = true then
        ((failed 14 was), m)
      else
        if (decide ((IntKind.u64.wrap (((number ((aget m o.dest).getD (⟨#[]⟩ : ByteArray))).1) + o.amount) : Int) > 1125899906842624)) = true then
          ((failed 6 (⟨#[]⟩ : ByteArray)), m)
        else
          if (full m o.dest) = true then
            ((failed 7 (⟨#[]⟩ : ByteArray)), m)
          else
            ((⟨0, dec (((number was).1) - o.amount)⟩ : RepV), aset (aset m o.key (dec (((number was).1) - o.amount))) o.dest (dec (IntKind.u64.wrap (((number ((aget m o.dest).getD (⟨#[]⟩ : ByteArray))).1) + o.amount))))
theorem lmove_spec {w0 w : World} {L : List Asn} {p r : Nat} (m : List (ByteArray × ByteArray)) (o : OpV) (was : ByteArray) (hm : Short m) (hL : ∀ w, St w0 L w → Laid w) (hwas : was.size ≤ 281474976710656) (ha : 0 ≤ o.amount) (hs : St w0 ((Cel p #[.map (some r)] 127) :: (MapA Value.string Value.string r m) :: L) w) : Calls Tryz.prog 87 #[vp p 0, .agg (OpV.cells o), .string was] w (Ret fun rv w' => rv = .agg (RepV.cells ((lmove m o was).1)) ∧ St w0 ((Cel p #[.map (some r)] 127) :: (MapA Value.string Value.string r ((lmove m o was).2)) :: L) w') := by
  refine enter (args := [vp p 0, .agg (OpV.cells o), .string was]) Tryz.func87 rfl Tryz.ntmps87 (Nat.le_of_ble_eq_true (by kernel_rfl)) ?_
  refine GoC.slots (S' := [(0, vp p 0), (1, .agg (OpV.cells o)), (2, .string was)]) rfl ?_
  refine GoC.seq ?_
  refine Xt (.ef 0 (.ef 1 .done)) ?_
  refine GoR.box rfl rfl (by kernel_rfl) (v := .agg (OpV.cells o)) (by kernel_rfl) hs (cs := OpV.cells o) (by kernel_rfl) ?_
  intro b1 w2 hs3
  refine ⟨Xo, ?_⟩
  refine GoR.alloc rfl rfl (by kernel_rfl) (z := .agg #[.int .i64 0, .string (⟨#[]⟩ : ByteArray)]) (by kernel_rfl) hs3 (cs := #[.int .i64 0, .string (⟨#[]⟩ : ByteArray)]) (by kernel_rfl) ?_
  intro b4 w5 hs6
  refine ⟨Xo, ?_⟩
  refine GoR.done (GoQ.thn (GoC.seq ?_))
  refine Xt (.rd 0 (.ef 1 (.rd 2 (.rd 3 (.rd 4 (.rd 5 (.rd 6 .done))))))) ?_
  refine Xk [(0, .gen [])] [] [(15, .string was), (6, vp b4 0), (4, vp b1 0), (0, vp p 0), (2, .string was)] ak0 ?_
  refine Xa (f := 89) (args := #[.string was]) Tryz.call89 (number_spec was hwas (fun w h => hL w (h.drop 4)) hs6) ?_
  rintro v8 w9 ⟨rfl, hs7⟩
  refine ⟨Xo, ?_⟩
  refine Xk [(2, .gen []), (3, .gen []), (4, .gen []), (5, .gen []), (6, .gen [])] [] [(8, .bool ((number was).2)), (7, .int .u64 ((number was).1)), (6, vp b4 0), (4, vp b1 0), (0, vp p 0), (2, .string was)] ak0 ?_
  refine GoR.done (GoQ.thn (GoC.seq ?_))
  refine GoC.regD [0, 1, 3, 7, 0, 16, 63, 127, 255, 255, 511, 2047] (.rd 0 (.rd 1 (.rd 2 (.rd 3 (.rd 4 (.rd 5 (.rd 6 (.rd 7 (.rd 8 (.rd 9 (.rd 10 (.rd 11 .done)))))))))))) (by kernel_rfl) (by kernel_rfl) noPan_body (by kernel_rfl) hs7 ?_
  intro w10 hs11 hw12
  refine Xk [(0, .gen []), (1, .gen []), (2, .gen []), (3, .gen [.map (some r)]), (4, .gen []), (5, .gen [.string o.dest])] [(3, [.cell ⟨p, 0, none⟩ (.map (some r))]), (5, [.cell ⟨b1, 4, none⟩ (.string o.dest)])] [(25, .string o.dest), (23, .map (some r)), (8, .bool ((number was).2)), (7, .int .u64 ((number was).1)), (6, vp b4 0), (4, vp b1 0), (0, vp p 0), (2, .string was)] (ak (okc (hs11.cell 2 rfl (by kernel_rfl)) ok0) (ak (okc (hs11.cell 1 rfl (by kernel_rfl)) ok0) ak0)) ?_
  refine GoR.lookup rfl (by kernel_rfl) mapLaw (r := r) (k := o.dest) (ok := true) (by kernel_rfl) hs11 3 rfl (z := Value.string (⟨#[]⟩ : ByteArray)) (by kernel_rfl) (v := .tuple #[.string ((aget m o.dest).getD (⟨#[]⟩ : ByteArray)), .bool ((aget m o.dest).isSome)]) (lookOk _ _ _) ?_
  refine Xk [(7, .gen []), (8, .gen []), (9, .gen []), (10, .gen []), (11, .gen [])] [] [(10, .bool ((aget m o.dest).isSome)), (9, .string ((aget m o.dest).getD (⟨#[]⟩ : ByteArray))), (8, .bool ((number was).2)), (7, .int .u64 ((number was).1)), (6, vp b4 0), (4, vp b1 0), (0, vp p 0), (2, .string was)] ak0 ?_
  refine GoR.done (GoQ.thn (GoC.seq ?_))
  refine Xt (.rd 0 (.ef 1 (.rd 2 (.rd 3 (.rd 4 (.rd 5 (.rd 6 .done))))))) ?_
  refine Xk [(0, .gen [])] [] [(30, .string ((aget m o.dest).getD (⟨#[]⟩ : ByteArray))), (10, .bool ((aget m o.dest).isSome)), (8, .bool ((number was).2)), (7, .int .u64 ((number was).1)), (6, vp b4 0), (4, vp b1 0), (0, vp p 0), (2, .string was)] ak0 ?_
  refine Xa (f := 89) (args := #[.string ((aget m o.dest).getD (⟨#[]⟩ : ByteArray))]) Tryz.call89 (number_spec ((aget m o.dest).getD (⟨#[]⟩ : ByteArray)) (hm.get _) (fun w h => hL w (h.drop 4)) hs11) ?_
  rintro v14 w15 ⟨rfl, hs13⟩
  refine ⟨Xo, ?_⟩
  refine Xk [(2, .gen []), (3, .gen []), (4, .gen []), (5, .gen []), (6, .gen [])] [] [(12, .bool ((number ((aget m o.dest).getD (⟨#[]⟩ : ByteArray))).2)), (11, .int .u64 ((number ((aget m o.dest).getD (⟨#[]⟩ : ByteArray))).1)), (10, .bool ((aget m o.dest).isSome)), (8, .bool ((number was).2)), (7, .int .u64 ((number was).1)), (6, vp b4 0), (4, vp b1 0), (0, vp p 0), (2, .string was)] ak0 ?_
  refine GoR.done (GoQ.thn (GoC.seq (GoC.block (GoC.seq (GoC.seq ?_)))))
  refine Xt (.rd 0 (.rd 1 (.rd 2 .done))) ?_
  refine Xk [(0, .gen []), (1, .gen []), (2, .gen [])] [] [(34, .bool (!((number was).2))), (12, .bool ((number ((aget m o.dest).getD (⟨#[]⟩ : ByteArray))).2)), (11, .int .u64 ((number ((aget m o.dest).getD (⟨#[]⟩ : ByteArray))).1)), (10, .bool ((aget m o.dest).isSome)), (7, .int .u64 ((number was).1)), (6, vp b4 0), (4, vp b1 0), (0, vp p 0), (2, .string was)] ak0 ?_
  refine GoR.done (GoQ.thn ?_)
  refine Xc (t := !((number was).2)) (fun h16 => ?_) (fun h16 => ?_)
  · have h16n : ((number was).2) = false := notT h16
    refine GoC.skip (GoQ.thn ?_)
    refine Xc (t := !((number was).2)) (fun _ => ?_) (fun hc => absurd (h16.symm.trans hc) (by decide))
    refine GoC.seq ?_
    refine Xt (.ef 0 (.ef 1 .done)) ?_
    refine Xa (f := 74) (args := #[.int .i64 5, .string (⟨#[]⟩ : ByteArray)]) Tryz.call74 (failed_spec 5 (⟨#[]⟩ : ByteArray)  hs13) ?_
    rintro v18 w19 ⟨rfl, hs17⟩
    refine ⟨Xo, ?_⟩
    refine GoR.store rfl rfl (by kernel_rfl) (b := b4) (off := 0) (v := .agg (RepV.cells (failed 5 (⟨#[]⟩ : ByteArray)))) (by kernel_rfl) (by kernel_rfl) (ti := Tryz.t51) (by kernel_rfl) hs17 0 rfl (by kernel_rfl) (by kernel_rfl) (Nat.le_of_ble_eq_true (by kernel_rfl)) (cs' := RepV.cells (failed 5 (⟨#[]⟩ : ByteArray))) (L' := (Cel b4 (RepV.cells (failed 5 (⟨#[]⟩ : ByteArray))) 51) :: (Cel b1 (OpV.cells o) 44) :: (Cel p #[.map (some r)] 127) :: (MapA Value.string Value.string r m) :: L) (by kernel_rfl) rfl ?_
    intro w20 hs21
    refine ⟨Xo, ?_⟩
    refine GoR.done (GoQ.thn (GoC.ret (GoQ.blkR (GoQ.skipCR ?_))))
    refine GoQ.done (.inl rfl) (v := .agg (RepV.cells (failed 5 (⟨#[]⟩ : ByteArray)))) (fun a hf => resultsA rfl (by kernel_rfl) (ti := Tryz.t51) (by kernel_rfl) (by kernel_rfl) (vs := (RepV.cells (failed 5 (⟨#[]⟩ : ByteArray)))) (by kernel_rfl) (hs21.cells 0 0 rfl (by kernel_rfl)) a hf) ?_
    have hs22 : St w0 ((Cel p #[.map (some r)] 127) :: (MapA Value.string Value.string r m) :: (Cel b4 (RepV.cells (failed 5 (⟨#[]⟩ : ByteArray))) 51) :: (Cel b1 (OpV.cells o) 44) :: L) w20 := ((hs21.pull 3 rfl).pull 3 rfl)
    have hr : lmove m o was = ((failed 5 (⟨#[]⟩ : ByteArray)), m) := by rw [lmove, if_pos h16]
    exact ⟨by first | (rw [hr]; done) | (rw [hr]; rfl), by first | exact hs22.drop2 2 | (rw [hr]; exact hs22.drop2 2)⟩
  · have h16n : ((number was).2) = true := notF h16
    refine GoC.join (T := Unit) (E := fun _ => [(34, .bool (((aget m o.dest).isSome) && (!((number ((aget m o.dest).getD (⟨#[]⟩ : ByteArray))).2)))), (11, .int .u64 ((number ((aget m o.dest).getD (⟨#[]⟩ : ByteArray))).1)), (7, .int .u64 ((number was).1)), (6, vp b4 0), (4, vp b1 0), (0, vp p 0), (2, .string was)]) (F := fun _ w => St w0 ((Cel b4 #[.int .i64 0, .string (⟨#[]⟩ : ByteArray)] 51) :: (Cel b1 (OpV.cells o) 44) :: (Cel p #[.map (some r)] 127) :: (MapA Value.string Value.string r m) :: L) w) ?_ ?_
    · refine Xt (.rd 0 (.rd 1 (.rd 2 (.rd 3 (.rd 4 (.rd 5 .done)))))) ?_
      refine Xk [(0, .gen []), (1, .gen [])] [] [(38, .bool ((aget m o.dest).isSome)), (34, .bool (!((number was).2))), (12, .bool ((number ((aget m o.dest).getD (⟨#[]⟩ : ByteArray))).2)), (11, .int .u64 ((number ((aget m o.dest).getD (⟨#[]⟩ : ByteArray))).1)), (7, .int .u64 ((number was).1)), (6, vp b4 0), (4, vp b1 0), (0, vp p 0), (2, .string was)] ak0 ?_
      rcases Bool.eq_false_or_eq_true ((aget m o.dest).isSome) with h23 | h23
      · refine Xs 38 true h23 ?_
        refine Xk [(2, .gen []), (3, .gen []), (4, .gen []), (5, .gen [])] [] [(34, .bool (!((number ((aget m o.dest).getD (⟨#[]⟩ : ByteArray))).2))), (11, .int .u64 ((number ((aget m o.dest).getD (⟨#[]⟩ : ByteArray))).1)), (7, .int .u64 ((number was).1)), (6, vp b4 0), (4, vp b1 0), (0, vp p 0), (2, .string was)] ak0 ?_
        refine GoR.done ?_
        refine GoQ.pick [34, 11, 7, 6, 4, 0, 2] (S' := [(34, .bool (!((number ((aget m o.dest).getD (⟨#[]⟩ : ByteArray))).2))), (11, .int .u64 ((number ((aget m o.dest).getD (⟨#[]⟩ : ByteArray))).1)), (7, .int .u64 ((number was).1)), (6, vp b4 0), (4, vp b1 0), (0, vp p 0), (2, .string was)]) (by kernel_rfl) ?_
        exact GoQ.meet1 () (by first | rfl | (simp only [h23, Bool.not_true, Bool.not_false, Bool.true_or, Bool.false_or, Bool.true_and, Bool.false_and, Bool.or_true, Bool.or_false, Bool.and_true, Bool.and_false]; done) | (simp [h23]; done)) hs13
      · refine Xs 38 false h23 ?_
        refine Xk [(2, .gen []), (3, .gen []), (4, .gen []), (5, .gen [])] [] [(34, .bool false), (11, .int .u64 ((number ((aget m o.dest).getD (⟨#[]⟩ : ByteArray))).1)), (7, .int .u64 ((number was).1)), (6, vp b4 0), (4, vp b1 0), (0, vp p 0), (2, .string was)] ak0 ?_
        refine GoR.done ?_
        refine GoQ.pick [34, 11, 7, 6, 4, 0, 2] (S' := [(34, .bool false), (11, .int .u64 ((number ((aget m o.dest).getD (⟨#[]⟩ : ByteArray))).1)), (7, .int .u64 ((number was).1)), (6, vp b4 0), (4, vp b1 0), (0, vp p 0), (2, .string was)]) (by kernel_rfl) ?_
        exact GoQ.meet1 () (by first | rfl | (simp only [h23, Bool.not_true, Bool.not_false, Bool.true_or, Bool.false_or, Bool.true_and, Bool.false_and, Bool.or_true, Bool.or_false, Bool.and_true, Bool.and_false]; done) | (simp [h23]; done)) hs13
    intro _ w24 hs25
    refine GoQ.thn ?_
    refine Xc (t := ((aget m o.dest).isSome) && (!((number ((aget m o.dest).getD (⟨#[]⟩ : ByteArray))).2))) (fun h26 => ?_) (fun h26 => ?_)
    · have h26a : ((aget m o.dest).isSome) = true := (Bool.and_eq_true_iff.1 h26).1
      have h26b : (!((number ((aget m o.dest).getD (⟨#[]⟩ : ByteArray))).2)) = true := (Bool.and_eq_true_iff.1 h26).2
      have h26bn : ((number ((aget m o.dest).getD (⟨#[]⟩ : ByteArray))).2) = false := notT h26b
      refine GoC.seq ?_
      refine Xt (.ef 0 (.ef 1 .done)) ?_
      refine Xa (f := 74) (args := #[.int .i64 5, .string (⟨#[]⟩ : ByteArray)]) Tryz.call74 (failed_spec 5 (⟨#[]⟩ : ByteArray)  hs25) ?_
      rintro v28 w29 ⟨rfl, hs27⟩
      refine ⟨Xo, ?_⟩
      refine GoR.store rfl rfl (by kernel_rfl) (b := b4) (off := 0) (v := .agg (RepV.cells (failed 5 (⟨#[]⟩ : ByteArray)))) (by kernel_rfl) (by kernel_rfl) (ti := Tryz.t51) (by kernel_rfl) hs27 0 rfl (by kernel_rfl) (by kernel_rfl) (Nat.le_of_ble_eq_true (by kernel_rfl)) (cs' := RepV.cells (failed 5 (⟨#[]⟩ : ByteArray))) (L' := (Cel b4 (RepV.cells (failed 5 (⟨#[]⟩ : ByteArray))) 51) :: (Cel b1 (OpV.cells o) 44) :: (Cel p #[.map (some r)] 127) :: (MapA Value.string Value.string r m) :: L) (by kernel_rfl) rfl ?_
      intro w30 hs31
      refine ⟨Xo, ?_⟩
      refine GoR.done (GoQ.thn (GoC.ret (GoQ.blkR (GoQ.skipCR ?_))))
      refine GoQ.done (.inl rfl) (v := .agg (RepV.cells (failed 5 (⟨#[]⟩ : ByteArray)))) (fun a hf => resultsA rfl (by kernel_rfl) (ti := Tryz.t51) (by kernel_rfl) (by kernel_rfl) (vs := (RepV.cells (failed 5 (⟨#[]⟩ : ByteArray)))) (by kernel_rfl) (hs31.cells 0 0 rfl (by kernel_rfl)) a hf) ?_
      have hs32 : St w0 ((Cel p #[.map (some r)] 127) :: (MapA Value.string Value.string r m) :: (Cel b4 (RepV.cells (failed 5 (⟨#[]⟩ : ByteArray))) 51) :: (Cel b1 (OpV.cells o) 44) :: L) w30 := ((hs31.pull 3 rfl).pull 3 rfl)
      have hr : lmove m o was = ((failed 5 (⟨#[]⟩ : ByteArray)), m) := by rw [lmove, if_neg (ne_true_of_eq_false h16), if_pos h26]
      exact ⟨by first | (rw [hr]; done) | (rw [hr]; rfl), by first | exact hs32.drop2 2 | (rw [hr]; exact hs32.drop2 2)⟩
    · refine GoC.seq ?_
      refine Xt (.rd 0 (.rd 1 (.rd 2 (.rd 3 (.rd 4 .done))))) ?_
      refine Xk [(0, .gen []), (1, .gen []), (2, .gen [.int .u64 o.amount]), (3, .gen []), (4, .gen [])] [(2, [.cell ⟨b1, 5, none⟩ (.int .u64 o.amount)])] [(43, .bool (decide (((number was).1 : Int) < o.amount))), (11, .int .u64 ((number ((aget m o.dest).getD (⟨#[]⟩ : ByteArray))).1)), (7, .int .u64 ((number was).1)), (6, vp b4 0), (4, vp b1 0), (0, vp p 0), (2, .string was)] (ak (okc (hs25.cell 1 rfl (by kernel_rfl)) ok0) ak0) ?_
      refine GoR.done (GoQ.thn ?_)
      refine Xc (t := decide (((number was).1 : Int) < o.amount)) (fun h33 => ?_) (fun h33 => ?_)
      · have h33' : ((number was).1 : Int) < o.amount := of_decide_eq_true h33
        refine GoC.seq ?_
        refine Xt (.rd 0 (.ef 1 (.ef 2 .done))) ?_
        refine Xk [(0, .gen [])] [] [(48, .string was), (11, .int .u64 ((number ((aget m o.dest).getD (⟨#[]⟩ : ByteArray))).1)), (7, .int .u64 ((number was).1)), (6, vp b4 0), (4, vp b1 0), (0, vp p 0)] ak0 ?_
        refine Xa (f := 74) (args := #[.int .i64 14, .string was]) Tryz.call74 (failed_spec 14 was  hs25) ?_
        rintro v35 w36 ⟨rfl, hs34⟩
        refine ⟨Xo, ?_⟩
        refine GoR.store rfl rfl (by kernel_rfl) (b := b4) (off := 0) (v := .agg (RepV.cells (failed 14 was))) (by kernel_rfl) (by kernel_rfl) (ti := Tryz.t51) (by kernel_rfl) hs34 0 rfl (by kernel_rfl) (by kernel_rfl) (Nat.le_of_ble_eq_true (by kernel_rfl)) (cs' := RepV.cells (failed 14 was)) (L' := (Cel b4 (RepV.cells (failed 14 was)) 51) :: (Cel b1 (OpV.cells o) 44) :: (Cel p #[.map (some r)] 127) :: (MapA Value.string Value.string r m) :: L) (by kernel_rfl) rfl ?_
        intro w37 hs38
        refine ⟨Xo, ?_⟩
        refine GoR.done (GoQ.thn (GoC.ret (GoQ.blkR (GoQ.skipCR ?_))))
        refine GoQ.done (.inl rfl) (v := .agg (RepV.cells (failed 14 was))) (fun a hf => resultsA rfl (by kernel_rfl) (ti := Tryz.t51) (by kernel_rfl) (by kernel_rfl) (vs := (RepV.cells (failed 14 was))) (by kernel_rfl) (hs38.cells 0 0 rfl (by kernel_rfl)) a hf) ?_
        have hs39 : St w0 ((Cel p #[.map (some r)] 127) :: (MapA Value.string Value.string r m) :: (Cel b4 (RepV.cells (failed 14 was)) 51) :: (Cel b1 (OpV.cells o) 44) :: L) w37 := ((hs38.pull 3 rfl).pull 3 rfl)
        have hr : lmove m o was = ((failed 14 was), m) := by rw [lmove, if_neg (ne_true_of_eq_false h16), if_neg (ne_true_of_eq_false h26), if_pos h33]
        exact ⟨by first | (rw [hr]; done) | (rw [hr]; rfl), by first | exact hs39.drop2 2 | (rw [hr]; exact hs39.drop2 2)⟩
      · have h33' : ¬ (((number was).1 : Int) < o.amount) := of_decide_eq_false h33
        refine GoC.seq ?_
        refine Xt (.rd 0 (.rd 1 (.rd 2 (.rd 3 (.rd 4 (.rd 5 .done)))))) ?_
        refine Xk [(0, .gen []), (1, .gen []), (2, .gen [.int .u64 o.amount]), (3, .gen []), (4, .gen []), (5, .gen [])] [(2, [.cell ⟨b1, 5, none⟩ (.int .u64 o.amount)])] [(50, .bool (decide ((IntKind.u64.wrap (((number ((aget m o.dest).getD (⟨#[]⟩ : ByteArray))).1) + o.amount) : Int) > 1125899906842624))), (11, .int .u64 ((number ((aget m o.dest).getD (⟨#[]⟩ : ByteArray))).1)), (7, .int .u64 ((number was).1)), (6, vp b4 0), (4, vp b1 0), (0, vp p 0)] (ak (okc (hs25.cell 1 rfl (by kernel_rfl)) ok0) ak0) ?_
        refine GoR.done (GoQ.thn ?_)
        refine Xc (t := decide ((IntKind.u64.wrap (((number ((aget m o.dest).getD (⟨#[]⟩ : ByteArray))).1) + o.amount) : Int) > 1125899906842624)) (fun h40 => ?_) (fun h40 => ?_)
        · have h40' : (IntKind.u64.wrap (((number ((aget m o.dest).getD (⟨#[]⟩ : ByteArray))).1) + o.amount) : Int) > 1125899906842624 := of_decide_eq_true h40
          refine GoC.seq ?_
          refine Xt (.ef 0 (.ef 1 .done)) ?_
          refine Xa (f := 74) (args := #[.int .i64 6, .string (⟨#[]⟩ : ByteArray)]) Tryz.call74 (failed_spec 6 (⟨#[]⟩ : ByteArray)  hs25) ?_
          rintro v42 w43 ⟨rfl, hs41⟩
          refine ⟨Xo, ?_⟩
          refine GoR.store rfl rfl (by kernel_rfl) (b := b4) (off := 0) (v := .agg (RepV.cells (failed 6 (⟨#[]⟩ : ByteArray)))) (by kernel_rfl) (by kernel_rfl) (ti := Tryz.t51) (by kernel_rfl) hs41 0 rfl (by kernel_rfl) (by kernel_rfl) (Nat.le_of_ble_eq_true (by kernel_rfl)) (cs' := RepV.cells (failed 6 (⟨#[]⟩ : ByteArray))) (L' := (Cel b4 (RepV.cells (failed 6 (⟨#[]⟩ : ByteArray))) 51) :: (Cel b1 (OpV.cells o) 44) :: (Cel p #[.map (some r)] 127) :: (MapA Value.string Value.string r m) :: L) (by kernel_rfl) rfl ?_
          intro w44 hs45
          refine ⟨Xo, ?_⟩
          refine GoR.done (GoQ.thn (GoC.ret (GoQ.blkR (GoQ.skipCR ?_))))
          refine GoQ.done (.inl rfl) (v := .agg (RepV.cells (failed 6 (⟨#[]⟩ : ByteArray)))) (fun a hf => resultsA rfl (by kernel_rfl) (ti := Tryz.t51) (by kernel_rfl) (by kernel_rfl) (vs := (RepV.cells (failed 6 (⟨#[]⟩ : ByteArray)))) (by kernel_rfl) (hs45.cells 0 0 rfl (by kernel_rfl)) a hf) ?_
          have hs46 : St w0 ((Cel p #[.map (some r)] 127) :: (MapA Value.string Value.string r m) :: (Cel b4 (RepV.cells (failed 6 (⟨#[]⟩ : ByteArray))) 51) :: (Cel b1 (OpV.cells o) 44) :: L) w44 := ((hs45.pull 3 rfl).pull 3 rfl)
          have hr : lmove m o was = ((failed 6 (⟨#[]⟩ : ByteArray)), m) := by rw [lmove, if_neg (ne_true_of_eq_false h16), if_neg (ne_true_of_eq_false h26), if_neg (ne_true_of_eq_false h33), if_pos h40]
          exact ⟨by first | (rw [hr]; done) | (rw [hr]; rfl), by first | exact hs46.drop2 2 | (rw [hr]; exact hs46.drop2 2)⟩
        · have h40' : ¬ ((IntKind.u64.wrap (((number ((aget m o.dest).getD (⟨#[]⟩ : ByteArray))).1) + o.amount) : Int) > 1125899906842624) := of_decide_eq_false h40
          refine GoC.seq ?_
          refine Xt (.rd 0 (.rd 1 (.rd 2 (.ef 3 (.rd 4 .done))))) ?_
          refine Xk [(0, .gen []), (1, .gen []), (2, .gen [.string o.dest])] [(2, [.cell ⟨b1, 4, none⟩ (.string o.dest)])] [(60, .string o.dest), (58, vp p 0), (11, .int .u64 ((number ((aget m o.dest).getD (⟨#[]⟩ : ByteArray))).1)), (7, .int .u64 ((number was).1)), (6, vp b4 0), (4, vp b1 0), (0, vp p 0)] (ak (okc (hs25.cell 1 rfl (by kernel_rfl)) ok0) ak0) ?_
          have hs47 : St w0 ((Cel p #[.map (some r)] 127) :: (MapA Value.string Value.string r m) :: (Cel b4 #[.int .i64 0, .string (⟨#[]⟩ : ByteArray)] 51) :: (Cel b1 (OpV.cells o) 44) :: L) w24 := ((hs25.pull 3 rfl).pull 3 rfl)
          refine Xa (f := 88) (args := #[vp p 0, .string o.dest]) Tryz.call88 (full_spec m o.dest  hs47) ?_
          rintro v49 w50 ⟨rfl, hs48⟩
          refine ⟨Xo, ?_⟩
          refine Xk [(4, .gen [])] [] [(57, .bool (full m o.dest)), (11, .int .u64 ((number ((aget m o.dest).getD (⟨#[]⟩ : ByteArray))).1)), (7, .int .u64 ((number was).1)), (6, vp b4 0), (4, vp b1 0), (0, vp p 0)] ak0 ?_
          refine GoR.done (GoQ.thn ?_)
          refine Xc (t := full m o.dest) (fun h51 => ?_) (fun h51 => ?_)
          · refine GoC.seq ?_
            refine Xt (.ef 0 (.ef 1 .done)) ?_
            refine Xa (f := 74) (args := #[.int .i64 7, .string (⟨#[]⟩ : ByteArray)]) Tryz.call74 (failed_spec 7 (⟨#[]⟩ : ByteArray)  hs48) ?_
            rintro v53 w54 ⟨rfl, hs52⟩
            refine ⟨Xo, ?_⟩
            refine GoR.store rfl rfl (by kernel_rfl) (b := b4) (off := 0) (v := .agg (RepV.cells (failed 7 (⟨#[]⟩ : ByteArray)))) (by kernel_rfl) (by kernel_rfl) (ti := Tryz.t51) (by kernel_rfl) hs52 2 rfl (by kernel_rfl) (by kernel_rfl) (Nat.le_of_ble_eq_true (by kernel_rfl)) (cs' := RepV.cells (failed 7 (⟨#[]⟩ : ByteArray))) (L' := (Cel p #[.map (some r)] 127) :: (MapA Value.string Value.string r m) :: (Cel b4 (RepV.cells (failed 7 (⟨#[]⟩ : ByteArray))) 51) :: (Cel b1 (OpV.cells o) 44) :: L) (by kernel_rfl) rfl ?_
            intro w55 hs56
            refine ⟨Xo, ?_⟩
            refine GoR.done (GoQ.thn (GoC.ret (GoQ.blkR (GoQ.skipCR ?_))))
            refine GoQ.done (.inl rfl) (v := .agg (RepV.cells (failed 7 (⟨#[]⟩ : ByteArray)))) (fun a hf => resultsA rfl (by kernel_rfl) (ti := Tryz.t51) (by kernel_rfl) (by kernel_rfl) (vs := (RepV.cells (failed 7 (⟨#[]⟩ : ByteArray)))) (by kernel_rfl) (hs56.cells 2 0 rfl (by kernel_rfl)) a hf) ?_
            have hr : lmove m o was = ((failed 7 (⟨#[]⟩ : ByteArray)), m) := by rw [lmove, if_neg (ne_true_of_eq_false h16), if_neg (ne_true_of_eq_false h26), if_neg (ne_true_of_eq_false h33), if_neg (ne_true_of_eq_false h40), if_pos h51]
            exact ⟨by first | (rw [hr]; done) | (rw [hr]; rfl), by first | exact hs56.drop2 2 | (rw [hr]; exact hs56.drop2 2)⟩
          · refine GoC.skip (GoQ.blkN (GoQ.thn (GoC.seq ?_)))
            have hnr := number_range was
            refine Xt (.rd 0 (.rd 1 (.rd 2 (.rd 3 (.ef 4 (.rd 5 .done)))))) ?_
            refine Xk [(0, .gen []), (1, .gen []), (2, .gen [.int .u64 o.amount]), (3, .as_ (.int .u64 (((number was).1) - o.amount)) (.gen []))] [(2, [.cell ⟨b1, 5, none⟩ (.int .u64 o.amount)]), (3, [.prop (Value.int .u64 (IntKind.u64.wrap (((number was).1) - o.amount)) = Value.int .u64 (((number was).1) - o.amount))])] [(66, .int .u64 (((number was).1) - o.amount)), (11, .int .u64 ((number ((aget m o.dest).getD (⟨#[]⟩ : ByteArray))).1)), (6, vp b4 0), (4, vp b1 0), (0, vp p 0)] (ak (okc (hs48.cell 3 rfl (by kernel_rfl)) ok0) (ak (okp (u64ok (by omega) (by omega)) ok0) ak0)) ?_
            refine Xa (f := 90) (args := #[.int .u64 (((number was).1) - o.amount), .int .i64 10]) Tryz.call90 (fmtu_spec (((number was).1) - o.amount) (by first | omega | exact (u64wrap_b _).1) (by first | omega | exact (u64wrap_b _).2) (fun w h => hL w (h.drop 4)) hs48) ?_
            rintro v58 w59 ⟨rfl, hs57⟩
            refine ⟨Xo, ?_⟩
            refine Xk [(5, .gen [])] [] [(13, .string (dec (((number was).1) - o.amount))), (11, .int .u64 ((number ((aget m o.dest).getD (⟨#[]⟩ : ByteArray))).1)), (6, vp b4 0), (4, vp b1 0), (0, vp p 0)] ak0 ?_
            refine GoR.done (GoQ.thn (GoC.seq ?_))
            refine GoC.regD [0, 1, 3, 7, 0, 16, 0, 64, 192, 448, 0, 1024, 0, 0, 0, 16384, 57344, 122880, 254975, 517119, 1045503, 2097151, 4194303, 8388607] (.rd 0 (.rd 1 (.rd 2 (.rd 3 (.rd 4 (.rd 5 (.rd 6 (.rd 7 (.rd 8 (.rd 9 (.rd 10 (.rd 11 (.rd 12 (.rd 13 (.rd 14 (.rd 15 (.rd 16 (.ef 17 (.ef 18 (.rd 19 (.ef 20 (.ef 21 (.rd 22 (.ef 23 .done)))))))))))))))))))))))) (by kernel_rfl) (by kernel_rfl) noPan_body (by kernel_rfl) hs57 ?_
            intro w60 hs61 hw62
            refine Xk [(0, .gen []), (1, .gen []), (2, .gen []), (3, .gen [.map (some r)]), (4, .gen []), (5, .gen [.string o.key]), (6, .gen []), (7, .gen []), (8, .gen []), (9, .gen [.map (some r)]), (10, .gen []), (11, .gen [.string o.dest]), (12, .gen []), (13, .gen []), (14, .gen []), (15, .gen [.int .u64 o.amount]), (16, .gen [])] [(3, [.cell ⟨p, 0, none⟩ (.map (some r))]), (5, [.cell ⟨b1, 1, none⟩ (.string o.key)]), (9, [.cell ⟨p, 0, none⟩ (.map (some r))]), (11, [.cell ⟨b1, 4, none⟩ (.string o.dest)]), (15, [.cell ⟨b1, 5, none⟩ (.int .u64 o.amount)])] [(84, .int .u64 (IntKind.u64.wrap (((number ((aget m o.dest).getD (⟨#[]⟩ : ByteArray))).1) + o.amount))), (80, .string (dec (((number was).1) - o.amount))), (79, .string o.dest), (77, .map (some r)), (73, .string o.key), (71, .map (some r)), (13, .string (dec (((number was).1) - o.amount))), (6, vp b4 0)] (ak (okc (hs61.cell 0 rfl (by kernel_rfl)) ok0) (ak (okc (hs61.cell 3 rfl (by kernel_rfl)) ok0) (ak (okc (hs61.cell 0 rfl (by kernel_rfl)) ok0) (ak (okc (hs61.cell 3 rfl (by kernel_rfl)) ok0) (ak (okc (hs61.cell 3 rfl (by kernel_rfl)) ok0) ak0))))) ?_
            refine Xa (f := 90) (args := #[.int .u64 (IntKind.u64.wrap (((number ((aget m o.dest).getD (⟨#[]⟩ : ByteArray))).1) + o.amount)), .int .i64 10]) Tryz.call90 (fmtu_spec (IntKind.u64.wrap (((number ((aget m o.dest).getD (⟨#[]⟩ : ByteArray))).1) + o.amount)) (by first | omega | exact (u64wrap_b _).1) (by first | omega | exact (u64wrap_b _).2) (fun w h => hL w (h.drop 4)) hs61) ?_
            rintro v64 w65 ⟨rfl, hs63⟩
            refine ⟨(opl (n := [.cell ⟨b1, 4, none⟩ (.string o.dest), .cell ⟨p, 0, none⟩ (.map (some r)), .cell ⟨b1, 1, none⟩ (.string o.key), .cell ⟨p, 0, none⟩ (.map (some r))]) (by kernel_rfl) (okc (hs63.cell 3 rfl (by kernel_rfl)) (okc (hs63.cell 0 rfl (by kernel_rfl)) (okc (hs63.cell 3 rfl (by kernel_rfl)) (okc (hs63.cell 0 rfl (by kernel_rfl)) ok0))))), ?_⟩
            refine GoR.mapEntry rfl (by kernel_rfl) mapLaw (z := (⟨#[]⟩ : ByteArray)) (by kernel_rfl) (r := r) (k := o.key) (by kernel_rfl) hs63 1 rfl ?_
            intro s68 w66 hs67
            refine ⟨(opl (n := [.cell ⟨b1, 4, none⟩ (.string o.dest)]) (by kernel_rfl) (okc (hs67.cell 3 rfl (by kernel_rfl)) ok0)), ?_⟩
            refine Xk [(19, .gen [])] [] [(87, .int .i64 (s68 : Nat)), (85, .string (dec (IntKind.u64.wrap (((number ((aget m o.dest).getD (⟨#[]⟩ : ByteArray))).1) + o.amount)))), (80, .string (dec (((number was).1) - o.amount))), (79, .string o.dest), (77, .map (some r)), (71, .map (some r)), (13, .string (dec (((number was).1) - o.amount))), (6, vp b4 0)] ak0 ?_
            refine GoR.entryStore (ek := Value.string) (ev := Value.string) rfl (by kernel_rfl) (r := r) (s := s68) (k := o.key) (v := dec (((number was).1) - o.amount)) (by kernel_rfl) hs67 0 rfl ?_
            intro w69 hs70
            rw [aset_same] at hs70
            refine ⟨(opl (n := [.cell ⟨b1, 4, none⟩ (.string o.dest)]) (by kernel_rfl) (okc (hs70.cell 3 rfl (by kernel_rfl)) ok0)), ?_⟩
            refine GoR.mapEntry rfl (by kernel_rfl) mapLaw (z := (⟨#[]⟩ : ByteArray)) (by kernel_rfl) (r := r) (k := o.dest) (by kernel_rfl) hs70 0 rfl ?_
            intro s73 w71 hs72
            refine ⟨Xo, ?_⟩
            refine Xk [(22, .gen [])] [] [(89, .int .i64 (s73 : Nat)), (85, .string (dec (IntKind.u64.wrap (((number ((aget m o.dest).getD (⟨#[]⟩ : ByteArray))).1) + o.amount)))), (77, .map (some r)), (13, .string (dec (((number was).1) - o.amount))), (6, vp b4 0)] ak0 ?_
            refine GoR.entryStore (ek := Value.string) (ev := Value.string) rfl (by kernel_rfl) (r := r) (s := s73) (k := o.dest) (v := dec (IntKind.u64.wrap (((number ((aget m o.dest).getD (⟨#[]⟩ : ByteArray))).1) + o.amount))) (by kernel_rfl) hs72 0 rfl ?_
            intro w74 hs75
            rw [aset_same] at hs75
            refine ⟨Xo, ?_⟩
            refine GoR.done (GoQ.thn (GoC.seq ?_))
            refine Xt (.rd 0 (.rd 1 (.ef 2 .done))) ?_
            refine Xk [(0, .gen []), (1, .gen [])] [] [(91, .agg #[.int .i64 0, .string (dec (((number was).1) - o.amount))]), (6, vp b4 0)] ak0 ?_
            refine GoR.store rfl rfl (by kernel_rfl) (b := b4) (off := 0) (v := .agg #[.int .i64 0, .string (dec (((number was).1) - o.amount))]) (by kernel_rfl) (by kernel_rfl) (ti := Tryz.t51) (by kernel_rfl) hs75 2 rfl (by kernel_rfl) (by kernel_rfl) (Nat.le_of_ble_eq_true (by kernel_rfl)) (cs' := #[.int .i64 0, .string (dec (((number was).1) - o.amount))]) (L' := (MapA Value.string Value.string r (aset (aset m o.key (dec (((number was).1) - o.amount))) o.dest (dec (IntKind.u64.wrap (((number ((aget m o.dest).getD (⟨#[]⟩ : ByteArray))).1) + o.amount))))) :: (Cel p #[.map (some r)] 127) :: (Cel b4 #[.int .i64 0, .string (dec (((number was).1) - o.amount))] 51) :: (Cel b1 (OpV.cells o) 44) :: L) (by kernel_rfl) rfl ?_
            intro w76 hs77
            refine ⟨Xo, ?_⟩
            refine GoR.done (GoQ.thn (GoC.ret ?_))
            refine GoQ.done (.inl rfl) (v := .agg #[.int .i64 0, .string (dec (((number was).1) - o.amount))]) (fun a hf => resultsA rfl (by kernel_rfl) (ti := Tryz.t51) (by kernel_rfl) (by kernel_rfl) (vs := #[.int .i64 0, .string (dec (((number was).1) - o.amount))]) (by kernel_rfl) (hs77.cells 2 0 rfl (by kernel_rfl)) a hf) ?_
            have hs78 : St w0 ((Cel p #[.map (some r)] 127) :: (MapA Value.string Value.string r (aset (aset m o.key (dec (((number was).1) - o.amount))) o.dest (dec (IntKind.u64.wrap (((number ((aget m o.dest).getD (⟨#[]⟩ : ByteArray))).1) + o.amount))))) :: (Cel b4 #[.int .i64 0, .string (dec (((number was).1) - o.amount))] 51) :: (Cel b1 (OpV.cells o) 44) :: L) w76 := ((hs77.pull 0 rfl).pull 1 rfl)
            have hr : lmove m o was = ((⟨0, dec (((number was).1) - o.amount)⟩ : RepV), aset (aset m o.key (dec (((number was).1) - o.amount))) o.dest (dec (IntKind.u64.wrap (((number ((aget m o.dest).getD (⟨#[]⟩ : ByteArray))).1) + o.amount)))) := by rw [lmove, if_neg (ne_true_of_eq_false h16), if_neg (ne_true_of_eq_false h26), if_neg (ne_true_of_eq_false h33), if_neg (ne_true_of_eq_false h40), if_neg (ne_true_of_eq_false h51)]
            exact ⟨by first | (rw [hr]; done) | (rw [hr]; rfl), by first | exact hs78.drop2 2 | (rw [hr]; exact hs78.drop2 2)⟩
theorem by_spec {w0 w : World} {L : List Asn} (k : Int) (hs : St w0 L w) : Calls Tryz.prog 76 #[.int .u8 k] w (Ret fun rv w' => ((rv = .func (.func 83) #[] #[] ∧ (k == 1) = true) ∨ (rv = .func (.func 84) #[] #[] ∧ (k == 1) = false ∧ (k == 2) = true) ∨ (rv = .func (.func 85) #[] #[] ∧ (k == 1) = false ∧ (k == 2) = false ∧ (k == 3) = true) ∨ (rv = .func (.func 86) #[] #[] ∧ (k == 1) = false ∧ (k == 2) = false ∧ (k == 3) = false ∧ (k == 4) = true) ∨ (rv = .func (.func 87) #[] #[] ∧ (k == 1) = false ∧ (k == 2) = false ∧ (k == 3) = false ∧ (k == 4) = false)) ∧ St w0 L w') := by
  refine enter (args := [.int .u8 k]) Tryz.func76 rfl Tryz.ntmps76 (Nat.le_of_ble_eq_true (by kernel_rfl)) ?_
  refine GoC.slots (S' := [(0, .int .u8 k)]) rfl ?_
  refine GoC.seq ?_
  refine Xt (.rd 0 .done) ?_
  refine Xk [(0, .gen [])] [] [(2, .nilFunc), (0, .int .u8 k)] ak0 ?_
  refine GoR.done (GoQ.thn (GoC.seq (GoC.seq ?_)))
  refine Xt (.rd 0 .done) ?_
  refine Xk [(0, .gen [])] [] [(3, .int .u8 k), (2, .nilFunc)] ak0 ?_
  refine GoR.done (GoQ.thn (GoC.block (GoC.seq ?_)))
  refine Xt (.rd 0 (.rd 1 .done)) ?_
  refine Xk [(0, .gen []), (1, .gen [])] [] [(4, .bool ((k : Int) == 1)), (3, .int .u8 k), (2, .nilFunc)] ak0 ?_
  refine GoR.done (GoQ.thn ?_)
  refine Xc (t := (k : Int) == 1) (fun h1 => ?_) (fun h1 => ?_)
  · have h1' : (k : Int) = 1 := ieqT h1
    refine GoC.seq ?_
    refine Xt (.rd 0 .done) ?_
    refine Xk [(0, .gen [])] [] [(2, .func (.func 83) #[] #[])] ak0 ?_
    refine GoR.done (GoQ.thn (GoC.ret (GoQ.blkR (GoQ.skipCR ?_))))
    refine X1 (v := .func (.func 83) #[] #[]) ?_
    exact ⟨.inl ⟨rfl, h1⟩, hs.drop 0⟩
  · have h1' : ¬ ((k : Int) = 1) := ieqF h1
    refine GoC.seq ?_
    refine Xt (.rd 0 (.rd 1 .done)) ?_
    refine Xk [(0, .gen []), (1, .gen [])] [] [(6, .bool ((k : Int) == 2)), (3, .int .u8 k), (2, .nilFunc)] ak0 ?_
    refine GoR.done (GoQ.thn ?_)
    refine Xc (t := (k : Int) == 2) (fun h2 => ?_) (fun h2 => ?_)
    · have h2' : (k : Int) = 2 := ieqT h2
      refine GoC.seq ?_
      refine Xt (.rd 0 .done) ?_
      refine Xk [(0, .gen [])] [] [(2, .func (.func 84) #[] #[])] ak0 ?_
      refine GoR.done (GoQ.thn (GoC.ret (GoQ.blkR (GoQ.skipCR ?_))))
      refine X1 (v := .func (.func 84) #[] #[]) ?_
      exact ⟨.inr (.inl ⟨rfl, h1, h2⟩), hs.drop 0⟩
    · have h2' : ¬ ((k : Int) = 2) := ieqF h2
      refine GoC.seq ?_
      refine Xt (.rd 0 (.rd 1 .done)) ?_
      refine Xk [(0, .gen []), (1, .gen [])] [] [(8, .bool ((k : Int) == 3)), (3, .int .u8 k), (2, .nilFunc)] ak0 ?_
      refine GoR.done (GoQ.thn ?_)
      refine Xc (t := (k : Int) == 3) (fun h3 => ?_) (fun h3 => ?_)
      · have h3' : (k : Int) = 3 := ieqT h3
        refine GoC.seq ?_
        refine Xt (.rd 0 .done) ?_
        refine Xk [(0, .gen [])] [] [(2, .func (.func 85) #[] #[])] ak0 ?_
        refine GoR.done (GoQ.thn (GoC.ret (GoQ.blkR (GoQ.skipCR ?_))))
        refine X1 (v := .func (.func 85) #[] #[]) ?_
        exact ⟨.inr (.inr (.inl ⟨rfl, h1, h2, h3⟩)), hs.drop 0⟩
      · have h3' : ¬ ((k : Int) = 3) := ieqF h3
        refine GoC.seq ?_
        refine Xt (.rd 0 (.rd 1 .done)) ?_
        refine Xk [(0, .gen []), (1, .gen [])] [] [(10, .bool ((k : Int) == 4)), (2, .nilFunc)] ak0 ?_
        refine GoR.done (GoQ.thn ?_)
        refine Xc (t := (k : Int) == 4) (fun h4 => ?_) (fun h4 => ?_)
        · have h4' : (k : Int) = 4 := ieqT h4
          refine GoC.seq ?_
          refine Xt (.rd 0 .done) ?_
          refine Xk [(0, .gen [])] [] [(2, .func (.func 86) #[] #[])] ak0 ?_
          refine GoR.done (GoQ.thn (GoC.ret (GoQ.blkR (GoQ.skipCR ?_))))
          refine X1 (v := .func (.func 86) #[] #[]) ?_
          exact ⟨.inr (.inr (.inr (.inl ⟨rfl, h1, h2, h3, h4⟩))), hs.drop 0⟩
        · have h4' : ¬ ((k : Int) = 4) := ieqF h4
          refine GoC.skip (GoQ.blkN (GoQ.thn (GoC.seq ?_)))
          refine Xt (.rd 0 .done) ?_
          refine Xk [(0, .gen [])] [] [(2, .func (.func 87) #[] #[])] ak0 ?_
          refine GoR.done (GoQ.thn (GoC.ret ?_))
          refine X1 (v := .func (.func 87) #[] #[]) ?_
          exact ⟨.inr (.inr (.inr (.inr (⟨rfl, h1, h2, h3, h4⟩)))), hs.drop 0⟩
def ldo (m : List (ByteArray × ByteArray)) (o : OpV) : (RepV) × List (ByteArray × ByteArray) :=
  if (!(may o)) = true then
    ((failed 1 (⟨#[]⟩ : ByteArray)), m)
  else
    if ((!((aget m o.key).isSome)) && ((o.kind : Int) != 2)) = true then
      ((failed 4 (⟨#[]⟩ : ByteArray)), m)
    else
      if ((o.kind : Int) == 1) = true then
        (((lget m o ((aget m o.key).getD (⟨#[]⟩ : ByteArray))).1), (lget m o ((aget m o.key).getD (⟨#[]⟩ : ByteArray))).2)
      else
        if ((o.kind : Int) == 2) = true then
          (((lput m o ((aget m o.key).getD (⟨#[]⟩ : ByteArray))).1), (lput m o ((aget m o.key).getD (⟨#[]⟩ : ByteArray))).2)
        else
          if ((o.kind : Int) == 3) = true then
            (((ldrop m o ((aget m o.key).getD (⟨#[]⟩ : ByteArray))).1), (ldrop m o ((aget m o.key).getD (⟨#[]⟩ : ByteArray))).2)
          else
            if ((o.kind : Int) == 4) = true then
              (((lswap m o ((aget m o.key).getD (⟨#[]⟩ : ByteArray))).1), (lswap m o ((aget m o.key).getD (⟨#[]⟩ : ByteArray))).2)
            else
              (((lmove m o ((aget m o.key).getD (⟨#[]⟩ : ByteArray))).1), (lmove m o ((aget m o.key).getD (⟨#[]⟩ : ByteArray))).2)
theorem ldo_spec {w0 w : World} {L : List Asn} {p r : Nat} (m : List (ByteArray × ByteArray)) (o : OpV) (hm : Short m) (hL : ∀ w, St w0 L w → Laid w) (ha : 0 ≤ o.amount) (hs : St w0 ((Cel p #[.map (some r)] 127) :: (MapA Value.string Value.string r m) :: L) w) : Calls Tryz.prog 68 #[vp p 0, .agg (OpV.cells o)] w (Ret fun rv w' => rv = .agg (RepV.cells ((ldo m o).1)) ∧ St w0 ((Cel p #[.map (some r)] 127) :: (MapA Value.string Value.string r ((ldo m o).2)) :: L) w') := by
  refine enter (args := [vp p 0, .agg (OpV.cells o)]) Tryz.func68 rfl Tryz.ntmps68 (Nat.le_of_ble_eq_true (by kernel_rfl)) ?_
  refine GoC.slots (S' := [(0, vp p 0), (1, .agg (OpV.cells o))]) rfl ?_
  refine GoC.seq ?_
  refine Xt (.ef 0 (.ef 1 .done)) ?_
  refine GoR.box rfl rfl (by kernel_rfl) (v := .agg (OpV.cells o)) (by kernel_rfl) hs (cs := OpV.cells o) (by kernel_rfl) ?_
  intro b1 w2 hs3
  refine ⟨Xo, ?_⟩
  refine GoR.alloc rfl rfl (by kernel_rfl) (z := .agg #[.int .i64 0, .string (⟨#[]⟩ : ByteArray)]) (by kernel_rfl) hs3 (cs := #[.int .i64 0, .string (⟨#[]⟩ : ByteArray)]) (by kernel_rfl) ?_
  intro b4 w5 hs6
  refine ⟨Xo, ?_⟩
  refine GoR.done (GoQ.thn (GoC.seq (GoC.block (GoC.seq ?_))))
  refine Xt (.rd 0 (.rd 1 (.rd 2 .done))) ?_
  refine Xk [(0, .gen []), (1, .gen []), (2, .gen [])] [] [(7, .bool false), (4, vp b4 0), (3, vp b1 0), (0, vp p 0)] ak0 ?_
  refine GoR.done (GoQ.thn (XF (GoC.seq ?_)))
  refine Xt (.rd 0 (.ef 1 (.rd 2 (.rd 3 .done)))) ?_
  refine Xk [(0, .agg (OpV.cells o))] [(0, [.prop (Array.size (OpV.cells o) = 6), .cells ⟨b1, 0, none⟩ (OpV.cells o)])] [(12, .agg (OpV.cells o)), (4, vp b4 0), (3, vp b1 0), (0, vp p 0)] (ak (okp (by kernel_rfl) (oka (hs6.cells 1 0 rfl (by kernel_rfl)) ok0)) ak0) ?_
  refine Xa (f := 75) (args := #[.agg (OpV.cells o)]) Tryz.call75 (may_spec o  hs6) ?_
  rintro v8 w9 ⟨rfl, hs7⟩
  refine ⟨Xo, ?_⟩
  refine Xk [(2, .gen []), (3, .gen [])] [] [(11, .bool (!(may o))), (4, vp b4 0), (3, vp b1 0), (0, vp p 0)] ak0 ?_
  refine GoR.done (GoQ.thn ?_)
  refine Xc (t := !(may o)) (fun h10 => ?_) (fun h10 => ?_)
  · have h10n : (may o) = false := notT h10
    refine GoC.seq ?_
    refine Xt (.ef 0 (.ef 1 .done)) ?_
    refine Xa (f := 74) (args := #[.int .i64 1, .string (⟨#[]⟩ : ByteArray)]) Tryz.call74 (failed_spec 1 (⟨#[]⟩ : ByteArray)  hs7) ?_
    rintro v12 w13 ⟨rfl, hs11⟩
    refine ⟨Xo, ?_⟩
    refine GoR.store rfl rfl (by kernel_rfl) (b := b4) (off := 0) (v := .agg (RepV.cells (failed 1 (⟨#[]⟩ : ByteArray)))) (by kernel_rfl) (by kernel_rfl) (ti := Tryz.t51) (by kernel_rfl) hs11 0 rfl (by kernel_rfl) (by kernel_rfl) (Nat.le_of_ble_eq_true (by kernel_rfl)) (cs' := RepV.cells (failed 1 (⟨#[]⟩ : ByteArray))) (L' := (Cel b4 (RepV.cells (failed 1 (⟨#[]⟩ : ByteArray))) 51) :: (Cel b1 (OpV.cells o) 44) :: (Cel p #[.map (some r)] 127) :: (MapA Value.string Value.string r m) :: L) (by kernel_rfl) rfl ?_
    intro w14 hs15
    refine ⟨Xo, ?_⟩
    refine GoR.done (GoQ.thn (GoC.ret (GoQ.blkR (GoQ.skipCR ?_))))
    refine GoQ.done (.inl rfl) (v := .agg (RepV.cells (failed 1 (⟨#[]⟩ : ByteArray)))) (fun a hf => resultsA rfl (by kernel_rfl) (ti := Tryz.t51) (by kernel_rfl) (by kernel_rfl) (vs := (RepV.cells (failed 1 (⟨#[]⟩ : ByteArray)))) (by kernel_rfl) (hs15.cells 0 0 rfl (by kernel_rfl)) a hf) ?_
    have hs16 : St w0 ((Cel p #[.map (some r)] 127) :: (MapA Value.string Value.string r m) :: (Cel b4 (RepV.cells (failed 1 (⟨#[]⟩ : ByteArray))) 51) :: (Cel b1 (OpV.cells o) 44) :: L) w14 := ((hs15.pull 3 rfl).pull 3 rfl)
    have hr : ldo m o = ((failed 1 (⟨#[]⟩ : ByteArray)), m) := by rw [ldo, if_pos h10]
    exact ⟨by first | (rw [hr]; done) | (rw [hr]; rfl), by first | exact hs16.drop2 2 | (rw [hr]; exact hs16.drop2 2)⟩
  · have h10n : (may o) = true := notF h10
    refine GoC.skip (GoQ.blkN (GoQ.thn (GoC.seq ?_)))
    refine GoC.regD [0, 1, 3, 7, 0, 16, 63, 127, 255, 255, 511, 2047] (.rd 0 (.rd 1 (.rd 2 (.rd 3 (.rd 4 (.rd 5 (.rd 6 (.rd 7 (.rd 8 (.rd 9 (.rd 10 (.rd 11 .done)))))))))))) (by kernel_rfl) (by kernel_rfl) noPan_body (by kernel_rfl) hs7 ?_
    intro w17 hs18 hw19
    refine Xk [(0, .gen []), (1, .gen []), (2, .gen []), (3, .gen [.map (some r)]), (4, .gen []), (5, .gen [.string o.key])] [(3, [.cell ⟨p, 0, none⟩ (.map (some r))]), (5, [.cell ⟨b1, 1, none⟩ (.string o.key)])] [(22, .string o.key), (20, .map (some r)), (4, vp b4 0), (3, vp b1 0), (0, vp p 0)] (ak (okc (hs18.cell 2 rfl (by kernel_rfl)) ok0) (ak (okc (hs18.cell 1 rfl (by kernel_rfl)) ok0) ak0)) ?_
    refine GoR.lookup rfl (by kernel_rfl) mapLaw (r := r) (k := o.key) (ok := true) (by kernel_rfl) hs18 3 rfl (z := Value.string (⟨#[]⟩ : ByteArray)) (by kernel_rfl) (v := .tuple #[.string ((aget m o.key).getD (⟨#[]⟩ : ByteArray)), .bool ((aget m o.key).isSome)]) (lookOk _ _ _) ?_
    refine Xk [(7, .gen []), (8, .gen []), (9, .gen []), (10, .gen []), (11, .gen [])] [] [(6, .bool ((aget m o.key).isSome)), (5, .string ((aget m o.key).getD (⟨#[]⟩ : ByteArray))), (4, vp b4 0), (3, vp b1 0), (0, vp p 0)] ak0 ?_
    refine GoR.done (GoQ.thn (GoC.seq (GoC.seq ?_)))
    refine GoC.join (T := Unit) (E := fun _ => [(32, .bool ((!((aget m o.key).isSome)) && ((o.kind : Int) != 2))), (5, .string ((aget m o.key).getD (⟨#[]⟩ : ByteArray))), (4, vp b4 0), (3, vp b1 0), (0, vp p 0)]) (F := fun _ w => St w0 ((Cel b4 #[.int .i64 0, .string (⟨#[]⟩ : ByteArray)] 51) :: (Cel b1 (OpV.cells o) 44) :: (Cel p #[.map (some r)] 127) :: (MapA Value.string Value.string r m) :: L) w) ?_ ?_
    · refine Xt (.rd 0 (.rd 1 (.rd 2 (.rd 3 (.rd 4 (.rd 5 (.rd 6 .done))))))) ?_
      refine Xk [(0, .gen []), (1, .gen []), (2, .gen [])] [] [(28, .bool (!((aget m o.key).isSome))), (5, .string ((aget m o.key).getD (⟨#[]⟩ : ByteArray))), (4, vp b4 0), (3, vp b1 0), (0, vp p 0)] ak0 ?_
      rcases Bool.eq_false_or_eq_true (!((aget m o.key).isSome)) with h20 | h20
      · refine Xs 28 true h20 ?_
        have h20n : ((aget m o.key).isSome) = false := notT h20
        refine Xk [(3, .gen []), (4, .gen [.int .u8 o.kind]), (5, .gen []), (6, .gen [])] [(4, [.cell ⟨b1, 0, none⟩ (.int .u8 o.kind)])] [(32, .bool ((o.kind : Int) != 2)), (5, .string ((aget m o.key).getD (⟨#[]⟩ : ByteArray))), (4, vp b4 0), (3, vp b1 0), (0, vp p 0)] (ak (okc (hs18.cell 1 rfl (by kernel_rfl)) ok0) ak0) ?_
        refine GoR.done ?_
        refine GoQ.pick [32, 5, 4, 3, 0] (S' := [(32, .bool ((o.kind : Int) != 2)), (5, .string ((aget m o.key).getD (⟨#[]⟩ : ByteArray))), (4, vp b4 0), (3, vp b1 0), (0, vp p 0)]) (by kernel_rfl) ?_
        exact GoQ.meet1 () (by first | rfl | (simp only [h20, h20n, Bool.not_true, Bool.not_false, Bool.true_or, Bool.false_or, Bool.true_and, Bool.false_and, Bool.or_true, Bool.or_false, Bool.and_true, Bool.and_false]; done) | (simp [h20, h20n]; done)) hs18
      · refine Xs 28 false h20 ?_
        have h20n : ((aget m o.key).isSome) = true := notF h20
        refine Xk [(3, .gen []), (4, .gen []), (5, .gen []), (6, .gen [])] [] [(32, .bool false), (5, .string ((aget m o.key).getD (⟨#[]⟩ : ByteArray))), (4, vp b4 0), (3, vp b1 0), (0, vp p 0)] ak0 ?_
        refine GoR.done ?_
        refine GoQ.pick [32, 5, 4, 3, 0] (S' := [(32, .bool false), (5, .string ((aget m o.key).getD (⟨#[]⟩ : ByteArray))), (4, vp b4 0), (3, vp b1 0), (0, vp p 0)]) (by kernel_rfl) ?_
        exact GoQ.meet1 () (by first | rfl | (simp only [h20, h20n, Bool.not_true, Bool.not_false, Bool.true_or, Bool.false_or, Bool.true_and, Bool.false_and, Bool.or_true, Bool.or_false, Bool.and_true, Bool.and_false]; done) | (simp [h20, h20n]; done)) hs18
    intro _ w21 hs22
    refine GoQ.thn ?_
    refine Xc (t := (!((aget m o.key).isSome)) && ((o.kind : Int) != 2)) (fun h23 => ?_) (fun h23 => ?_)
    · have h23a : (!((aget m o.key).isSome)) = true := (Bool.and_eq_true_iff.1 h23).1
      have h23an : ((aget m o.key).isSome) = false := notT h23a
      have h23b : ((o.kind : Int) != 2) = true := (Bool.and_eq_true_iff.1 h23).2
      have h23b' : ¬ ((o.kind : Int) = 2) := ineT h23b
      refine GoC.seq ?_
      refine Xt (.ef 0 (.ef 1 .done)) ?_
      refine Xa (f := 74) (args := #[.int .i64 4, .string (⟨#[]⟩ : ByteArray)]) Tryz.call74 (failed_spec 4 (⟨#[]⟩ : ByteArray)  hs22) ?_
      rintro v25 w26 ⟨rfl, hs24⟩
      refine ⟨Xo, ?_⟩
      refine GoR.store rfl rfl (by kernel_rfl) (b := b4) (off := 0) (v := .agg (RepV.cells (failed 4 (⟨#[]⟩ : ByteArray)))) (by kernel_rfl) (by kernel_rfl) (ti := Tryz.t51) (by kernel_rfl) hs24 0 rfl (by kernel_rfl) (by kernel_rfl) (Nat.le_of_ble_eq_true (by kernel_rfl)) (cs' := RepV.cells (failed 4 (⟨#[]⟩ : ByteArray))) (L' := (Cel b4 (RepV.cells (failed 4 (⟨#[]⟩ : ByteArray))) 51) :: (Cel b1 (OpV.cells o) 44) :: (Cel p #[.map (some r)] 127) :: (MapA Value.string Value.string r m) :: L) (by kernel_rfl) rfl ?_
      intro w27 hs28
      refine ⟨Xo, ?_⟩
      refine GoR.done (GoQ.thn (GoC.ret (GoQ.skipCR ?_)))
      refine GoQ.done (.inl rfl) (v := .agg (RepV.cells (failed 4 (⟨#[]⟩ : ByteArray)))) (fun a hf => resultsA rfl (by kernel_rfl) (ti := Tryz.t51) (by kernel_rfl) (by kernel_rfl) (vs := (RepV.cells (failed 4 (⟨#[]⟩ : ByteArray)))) (by kernel_rfl) (hs28.cells 0 0 rfl (by kernel_rfl)) a hf) ?_
      have hs29 : St w0 ((Cel p #[.map (some r)] 127) :: (MapA Value.string Value.string r m) :: (Cel b4 (RepV.cells (failed 4 (⟨#[]⟩ : ByteArray))) 51) :: (Cel b1 (OpV.cells o) 44) :: L) w27 := ((hs28.pull 3 rfl).pull 3 rfl)
      have hr : ldo m o = ((failed 4 (⟨#[]⟩ : ByteArray)), m) := by rw [ldo, if_neg (ne_true_of_eq_false h10), if_pos h23]
      exact ⟨by first | (rw [hr]; done) | (rw [hr]; rfl), by first | exact hs29.drop2 2 | (rw [hr]; exact hs29.drop2 2)⟩
    · refine GoC.skip (GoQ.thn (GoC.seq ?_))
      refine GoC.regD [0, 1, 3, 0, 0, 0, 63, 127] (.rd 0 (.rd 1 (.rd 3 (.rd 4 (.rd 5 (.ef 2 (.ef 6 (.ef 7 .done)))))))) (by kernel_rfl) (by kernel_rfl) noPan_body (by kernel_rfl) hs22 ?_
      intro w30 hs31 hw32
      refine Xk [(0, .gen []), (1, .gen [.int .u8 o.kind]), (3, .gen []), (4, .agg (OpV.cells o)), (5, .gen [])] [(1, [.cell ⟨b1, 0, none⟩ (.int .u8 o.kind)]), (4, [.prop (Array.size (OpV.cells o) = 6), .cells ⟨b1, 0, none⟩ (OpV.cells o)])] [(39, .string ((aget m o.key).getD (⟨#[]⟩ : ByteArray))), (38, .agg (OpV.cells o)), (37, vp p 0), (35, .int .u8 o.kind), (4, vp b4 0)] (ak (okc (hs31.cell 1 rfl (by kernel_rfl)) ok0) (ak (okp (by kernel_rfl) (oka (hs31.cells 1 0 rfl (by kernel_rfl)) ok0)) ak0)) ?_
      refine Xa (f := 76) (args := #[.int .u8 o.kind]) Tryz.call76 (by_spec o.kind hs31) ?_
      rintro v48 w49 ⟨(⟨rfl, h34⟩ | ⟨rfl, h35, h36⟩ | ⟨rfl, h37, h38, h39⟩ | ⟨rfl, h40, h41, h42, h43⟩ | ⟨rfl, h44, h45, h46, h47⟩), hs33⟩
      · refine ⟨(opl (n := [.prop (Array.size (OpV.cells o) = 6), .cells ⟨b1, 0, none⟩ (OpV.cells o)]) (by kernel_rfl) (okp (by kernel_rfl) (oka (hs33.cells 1 0 rfl (by kernel_rfl)) ok0))), ?_⟩
        have hs50 : St w0 ((Cel p #[.map (some r)] 127) :: (MapA Value.string Value.string r m) :: (Cel b4 #[.int .i64 0, .string (⟨#[]⟩ : ByteArray)] 51) :: (Cel b1 (OpV.cells o) 44) :: L) w49 := ((hs33.pull 3 rfl).pull 3 rfl)
        refine Xa (f := 83) (args := #[vp p 0, .agg (OpV.cells o), .string ((aget m o.key).getD (⟨#[]⟩ : ByteArray))]) Tryz.call83 (lget_spec m o ((aget m o.key).getD (⟨#[]⟩ : ByteArray))  hs50) ?_
        rintro v52 w53 ⟨rfl, hs51⟩
        refine ⟨Xo, ?_⟩
        refine GoR.store rfl rfl (by kernel_rfl) (b := b4) (off := 0) (v := .agg (RepV.cells ((lget m o ((aget m o.key).getD (⟨#[]⟩ : ByteArray))).1))) (by kernel_rfl) (by kernel_rfl) (ti := Tryz.t51) (by kernel_rfl) hs51 2 rfl (by kernel_rfl) (by kernel_rfl) (Nat.le_of_ble_eq_true (by kernel_rfl)) (cs' := RepV.cells ((lget m o ((aget m o.key).getD (⟨#[]⟩ : ByteArray))).1)) (L' := (Cel p #[.map (some r)] 127) :: (MapA Value.string Value.string r ((lget m o ((aget m o.key).getD (⟨#[]⟩ : ByteArray))).2)) :: (Cel b4 (RepV.cells ((lget m o ((aget m o.key).getD (⟨#[]⟩ : ByteArray))).1)) 51) :: (Cel b1 (OpV.cells o) 44) :: L) (by kernel_rfl) rfl ?_
        intro w54 hs55
        refine ⟨Xo, ?_⟩
        refine GoR.done (GoQ.thn (GoC.ret ?_))
        refine GoQ.done (.inl rfl) (v := .agg (RepV.cells ((lget m o ((aget m o.key).getD (⟨#[]⟩ : ByteArray))).1))) (fun a hf => resultsA rfl (by kernel_rfl) (ti := Tryz.t51) (by kernel_rfl) (by kernel_rfl) (vs := (RepV.cells ((lget m o ((aget m o.key).getD (⟨#[]⟩ : ByteArray))).1))) (by kernel_rfl) (hs55.cells 2 0 rfl (by kernel_rfl)) a hf) ?_
        have hr : ldo m o = (((lget m o ((aget m o.key).getD (⟨#[]⟩ : ByteArray))).1), (lget m o ((aget m o.key).getD (⟨#[]⟩ : ByteArray))).2) := by rw [ldo, if_neg (ne_true_of_eq_false h10), if_neg (ne_true_of_eq_false h23), if_pos h34]
        exact ⟨by first | (rw [hr]; done) | (rw [hr]; rfl), by first | exact hs55.drop2 2 | (rw [hr]; exact hs55.drop2 2)⟩
      · refine ⟨(opl (n := [.prop (Array.size (OpV.cells o) = 6), .cells ⟨b1, 0, none⟩ (OpV.cells o)]) (by kernel_rfl) (okp (by kernel_rfl) (oka (hs33.cells 1 0 rfl (by kernel_rfl)) ok0))), ?_⟩
        have hs56 : St w0 ((Cel p #[.map (some r)] 127) :: (MapA Value.string Value.string r m) :: (Cel b4 #[.int .i64 0, .string (⟨#[]⟩ : ByteArray)] 51) :: (Cel b1 (OpV.cells o) 44) :: L) w49 := ((hs33.pull 3 rfl).pull 3 rfl)
        refine Xa (f := 84) (args := #[vp p 0, .agg (OpV.cells o), .string ((aget m o.key).getD (⟨#[]⟩ : ByteArray))]) Tryz.call84 (lput_spec m o ((aget m o.key).getD (⟨#[]⟩ : ByteArray))  hs56) ?_
        rintro v58 w59 ⟨rfl, hs57⟩
        refine ⟨Xo, ?_⟩
        refine GoR.store rfl rfl (by kernel_rfl) (b := b4) (off := 0) (v := .agg (RepV.cells ((lput m o ((aget m o.key).getD (⟨#[]⟩ : ByteArray))).1))) (by kernel_rfl) (by kernel_rfl) (ti := Tryz.t51) (by kernel_rfl) hs57 2 rfl (by kernel_rfl) (by kernel_rfl) (Nat.le_of_ble_eq_true (by kernel_rfl)) (cs' := RepV.cells ((lput m o ((aget m o.key).getD (⟨#[]⟩ : ByteArray))).1)) (L' := (Cel p #[.map (some r)] 127) :: (MapA Value.string Value.string r ((lput m o ((aget m o.key).getD (⟨#[]⟩ : ByteArray))).2)) :: (Cel b4 (RepV.cells ((lput m o ((aget m o.key).getD (⟨#[]⟩ : ByteArray))).1)) 51) :: (Cel b1 (OpV.cells o) 44) :: L) (by kernel_rfl) rfl ?_
        intro w60 hs61
        refine ⟨Xo, ?_⟩
        refine GoR.done (GoQ.thn (GoC.ret ?_))
        refine GoQ.done (.inl rfl) (v := .agg (RepV.cells ((lput m o ((aget m o.key).getD (⟨#[]⟩ : ByteArray))).1))) (fun a hf => resultsA rfl (by kernel_rfl) (ti := Tryz.t51) (by kernel_rfl) (by kernel_rfl) (vs := (RepV.cells ((lput m o ((aget m o.key).getD (⟨#[]⟩ : ByteArray))).1))) (by kernel_rfl) (hs61.cells 2 0 rfl (by kernel_rfl)) a hf) ?_
        have hr : ldo m o = (((lput m o ((aget m o.key).getD (⟨#[]⟩ : ByteArray))).1), (lput m o ((aget m o.key).getD (⟨#[]⟩ : ByteArray))).2) := by rw [ldo, if_neg (ne_true_of_eq_false h10), if_neg (ne_true_of_eq_false h23), if_neg (ne_true_of_eq_false h35), if_pos h36]
        exact ⟨by first | (rw [hr]; done) | (rw [hr]; rfl), by first | exact hs61.drop2 2 | (rw [hr]; exact hs61.drop2 2)⟩
      · refine ⟨(opl (n := [.prop (Array.size (OpV.cells o) = 6), .cells ⟨b1, 0, none⟩ (OpV.cells o)]) (by kernel_rfl) (okp (by kernel_rfl) (oka (hs33.cells 1 0 rfl (by kernel_rfl)) ok0))), ?_⟩
        have hs62 : St w0 ((Cel p #[.map (some r)] 127) :: (MapA Value.string Value.string r m) :: (Cel b4 #[.int .i64 0, .string (⟨#[]⟩ : ByteArray)] 51) :: (Cel b1 (OpV.cells o) 44) :: L) w49 := ((hs33.pull 3 rfl).pull 3 rfl)
        refine Xa (f := 85) (args := #[vp p 0, .agg (OpV.cells o), .string ((aget m o.key).getD (⟨#[]⟩ : ByteArray))]) Tryz.call85 (ldrop_spec m o ((aget m o.key).getD (⟨#[]⟩ : ByteArray))  hs62) ?_
        rintro v64 w65 ⟨rfl, hs63⟩
        refine ⟨Xo, ?_⟩
        refine GoR.store rfl rfl (by kernel_rfl) (b := b4) (off := 0) (v := .agg (RepV.cells ((ldrop m o ((aget m o.key).getD (⟨#[]⟩ : ByteArray))).1))) (by kernel_rfl) (by kernel_rfl) (ti := Tryz.t51) (by kernel_rfl) hs63 2 rfl (by kernel_rfl) (by kernel_rfl) (Nat.le_of_ble_eq_true (by kernel_rfl)) (cs' := RepV.cells ((ldrop m o ((aget m o.key).getD (⟨#[]⟩ : ByteArray))).1)) (L' := (Cel p #[.map (some r)] 127) :: (MapA Value.string Value.string r ((ldrop m o ((aget m o.key).getD (⟨#[]⟩ : ByteArray))).2)) :: (Cel b4 (RepV.cells ((ldrop m o ((aget m o.key).getD (⟨#[]⟩ : ByteArray))).1)) 51) :: (Cel b1 (OpV.cells o) 44) :: L) (by kernel_rfl) rfl ?_
        intro w66 hs67
        refine ⟨Xo, ?_⟩
        refine GoR.done (GoQ.thn (GoC.ret ?_))
        refine GoQ.done (.inl rfl) (v := .agg (RepV.cells ((ldrop m o ((aget m o.key).getD (⟨#[]⟩ : ByteArray))).1))) (fun a hf => resultsA rfl (by kernel_rfl) (ti := Tryz.t51) (by kernel_rfl) (by kernel_rfl) (vs := (RepV.cells ((ldrop m o ((aget m o.key).getD (⟨#[]⟩ : ByteArray))).1))) (by kernel_rfl) (hs67.cells 2 0 rfl (by kernel_rfl)) a hf) ?_
        have hr : ldo m o = (((ldrop m o ((aget m o.key).getD (⟨#[]⟩ : ByteArray))).1), (ldrop m o ((aget m o.key).getD (⟨#[]⟩ : ByteArray))).2) := by rw [ldo, if_neg (ne_true_of_eq_false h10), if_neg (ne_true_of_eq_false h23), if_neg (ne_true_of_eq_false h37), if_neg (ne_true_of_eq_false h38), if_pos h39]
        exact ⟨by first | (rw [hr]; done) | (rw [hr]; rfl), by first | exact hs67.drop2 2 | (rw [hr]; exact hs67.drop2 2)⟩
      · refine ⟨(opl (n := [.prop (Array.size (OpV.cells o) = 6), .cells ⟨b1, 0, none⟩ (OpV.cells o)]) (by kernel_rfl) (okp (by kernel_rfl) (oka (hs33.cells 1 0 rfl (by kernel_rfl)) ok0))), ?_⟩
        have hs68 : St w0 ((Cel p #[.map (some r)] 127) :: (MapA Value.string Value.string r m) :: (Cel b4 #[.int .i64 0, .string (⟨#[]⟩ : ByteArray)] 51) :: (Cel b1 (OpV.cells o) 44) :: L) w49 := ((hs33.pull 3 rfl).pull 3 rfl)
        refine Xa (f := 86) (args := #[vp p 0, .agg (OpV.cells o), .string ((aget m o.key).getD (⟨#[]⟩ : ByteArray))]) Tryz.call86 (lswap_spec m o ((aget m o.key).getD (⟨#[]⟩ : ByteArray))  hs68) ?_
        rintro v70 w71 ⟨rfl, hs69⟩
        refine ⟨Xo, ?_⟩
        refine GoR.store rfl rfl (by kernel_rfl) (b := b4) (off := 0) (v := .agg (RepV.cells ((lswap m o ((aget m o.key).getD (⟨#[]⟩ : ByteArray))).1))) (by kernel_rfl) (by kernel_rfl) (ti := Tryz.t51) (by kernel_rfl) hs69 2 rfl (by kernel_rfl) (by kernel_rfl) (Nat.le_of_ble_eq_true (by kernel_rfl)) (cs' := RepV.cells ((lswap m o ((aget m o.key).getD (⟨#[]⟩ : ByteArray))).1)) (L' := (Cel p #[.map (some r)] 127) :: (MapA Value.string Value.string r ((lswap m o ((aget m o.key).getD (⟨#[]⟩ : ByteArray))).2)) :: (Cel b4 (RepV.cells ((lswap m o ((aget m o.key).getD (⟨#[]⟩ : ByteArray))).1)) 51) :: (Cel b1 (OpV.cells o) 44) :: L) (by kernel_rfl) rfl ?_
        intro w72 hs73
        refine ⟨Xo, ?_⟩
        refine GoR.done (GoQ.thn (GoC.ret ?_))
        refine GoQ.done (.inl rfl) (v := .agg (RepV.cells ((lswap m o ((aget m o.key).getD (⟨#[]⟩ : ByteArray))).1))) (fun a hf => resultsA rfl (by kernel_rfl) (ti := Tryz.t51) (by kernel_rfl) (by kernel_rfl) (vs := (RepV.cells ((lswap m o ((aget m o.key).getD (⟨#[]⟩ : ByteArray))).1))) (by kernel_rfl) (hs73.cells 2 0 rfl (by kernel_rfl)) a hf) ?_
        have hr : ldo m o = (((lswap m o ((aget m o.key).getD (⟨#[]⟩ : ByteArray))).1), (lswap m o ((aget m o.key).getD (⟨#[]⟩ : ByteArray))).2) := by rw [ldo, if_neg (ne_true_of_eq_false h10), if_neg (ne_true_of_eq_false h23), if_neg (ne_true_of_eq_false h40), if_neg (ne_true_of_eq_false h41), if_neg (ne_true_of_eq_false h42), if_pos h43]
        exact ⟨by first | (rw [hr]; done) | (rw [hr]; rfl), by first | exact hs73.drop2 2 | (rw [hr]; exact hs73.drop2 2)⟩
      · refine ⟨(opl (n := [.prop (Array.size (OpV.cells o) = 6), .cells ⟨b1, 0, none⟩ (OpV.cells o)]) (by kernel_rfl) (okp (by kernel_rfl) (oka (hs33.cells 1 0 rfl (by kernel_rfl)) ok0))), ?_⟩
        have hs74 : St w0 ((Cel p #[.map (some r)] 127) :: (MapA Value.string Value.string r m) :: (Cel b4 #[.int .i64 0, .string (⟨#[]⟩ : ByteArray)] 51) :: (Cel b1 (OpV.cells o) 44) :: L) w49 := ((hs33.pull 3 rfl).pull 3 rfl)
        refine Xa (f := 87) (args := #[vp p 0, .agg (OpV.cells o), .string ((aget m o.key).getD (⟨#[]⟩ : ByteArray))]) Tryz.call87 (lmove_spec m o ((aget m o.key).getD (⟨#[]⟩ : ByteArray)) hm (fun w h => hL w (h.drop 2)) (hm.get _) ha hs74) ?_
        rintro v76 w77 ⟨rfl, hs75⟩
        refine ⟨Xo, ?_⟩
        refine GoR.store rfl rfl (by kernel_rfl) (b := b4) (off := 0) (v := .agg (RepV.cells ((lmove m o ((aget m o.key).getD (⟨#[]⟩ : ByteArray))).1))) (by kernel_rfl) (by kernel_rfl) (ti := Tryz.t51) (by kernel_rfl) hs75 2 rfl (by kernel_rfl) (by kernel_rfl) (Nat.le_of_ble_eq_true (by kernel_rfl)) (cs' := RepV.cells ((lmove m o ((aget m o.key).getD (⟨#[]⟩ : ByteArray))).1)) (L' := (Cel p #[.map (some r)] 127) :: (MapA Value.string Value.string r ((lmove m o ((aget m o.key).getD (⟨#[]⟩ : ByteArray))).2)) :: (Cel b4 (RepV.cells ((lmove m o ((aget m o.key).getD (⟨#[]⟩ : ByteArray))).1)) 51) :: (Cel b1 (OpV.cells o) 44) :: L) (by kernel_rfl) rfl ?_
        intro w78 hs79
        refine ⟨Xo, ?_⟩
        refine GoR.done (GoQ.thn (GoC.ret ?_))
        refine GoQ.done (.inl rfl) (v := .agg (RepV.cells ((lmove m o ((aget m o.key).getD (⟨#[]⟩ : ByteArray))).1))) (fun a hf => resultsA rfl (by kernel_rfl) (ti := Tryz.t51) (by kernel_rfl) (by kernel_rfl) (vs := (RepV.cells ((lmove m o ((aget m o.key).getD (⟨#[]⟩ : ByteArray))).1))) (by kernel_rfl) (hs79.cells 2 0 rfl (by kernel_rfl)) a hf) ?_
        have hr : ldo m o = (((lmove m o ((aget m o.key).getD (⟨#[]⟩ : ByteArray))).1), (lmove m o ((aget m o.key).getD (⟨#[]⟩ : ByteArray))).2) := by rw [ldo, if_neg (ne_true_of_eq_false h10), if_neg (ne_true_of_eq_false h23), if_neg (ne_true_of_eq_false h44), if_neg (ne_true_of_eq_false h45), if_neg (ne_true_of_eq_false h46), if_neg (ne_true_of_eq_false h47)]
        exact ⟨by first | (rw [hr]; done) | (rw [hr]; rfl), by first | exact hs79.drop2 2 | (rw [hr]; exact hs79.drop2 2)⟩
end Go.Proofs.YtbmmknchcdhefaaGreatDoor
