/-
  The document's Find: trying all orders. Conditions: none beside each theorem's own.
-/
import Derived.Test.YtbmmknchcdhefaaGreatDoorSxT
import Derived.Test.YtbmmknchcdhefaaGreatDoorHisJ
import Derived.Test.YtbmmknchcdhefaaGreatDoorHisH
import Derived.Test.YtbmmknchcdhefaaGreatDoorHisK
namespace Go.Proofs.YtbmmknchcdhefaaGreatDoor
open Go.RowKit Go.Sx
set_option linter.unusedVariables false
set_option linter.unusedSimpArgs false
set_option linter.unnecessarySimpa false
set_option maxRecDepth 100000
theorem has_step {o : List Nat} {k i : Nat} (hk : k < o.length) : (decide (i ∈ o.take k) || (((o.getD k 0 : Nat) : Int) == ((i : Nat) : Int))) = decide (i ∈ o.take (k + 1)) := by
  rw [take_succ_getD (d := 0) hk, int_beq, ← Bool.decide_or, decide_eq_decide, List.mem_append, List.mem_singleton]
  constructor
  · rintro (h | h)
    · exact .inl h
    · exact .inr (by omega)
  · rintro (h | h)
    · exact .inl h
    · exact .inr (by omega)
theorem callEq (a b : CallV) : eqFlat Tryz.prog 3 78 (.agg a.cells) (.agg b.cells) = decide (a = b) := by
  have h : eqFlat Tryz.prog 3 78 (.agg a.cells) (.agg b.cells) = (a.client == b.client && (a.time == b.time && (eqFlat Tryz.prog 2 44 (.agg a.op.cells) (.agg b.op.cells) && (a.from_ == b.from_ && (a.to_ == b.to_ && (a.done == b.done && (eqFlat Tryz.prog 2 51 (.agg a.reply.cells) (.agg b.reply.cells) && true))))))) := by kernel_rfl
  rw [h, opEq, repEq, int_beq, int_beq, int_beq, int_beq, Bool.and_true]
  obtain ⟨a1, a2, a3, a4, a5, a6, a7⟩ := a
  obtain ⟨b1, b2, b3, b4, b5, b6, b7⟩ := b
  simp only [CallV.mk.injEq, Bool.decide_and]
  cases a6 <;> cases b6 <;> rfl
set_option maxHeartbeats 4000000 in
theorem rtry_spec (d : Nat) : ∀ {w0 w : World} {L : List Asn} {al : Option Addr} {cl : Nat} {oa : Option Addr} {oc : Nat} (l : List CallV) (o : List Nat) (hl7 : l.length ≤ 7) (hokc : ∀ c ∈ l, 0 ≤ c.op.amount) (hF : Fresh l.length o) (hd : l.length ≤ o.length + d) (hnc : oa = none → oc = 0) (hr1 : ∀ w, St w0 L w → RowsAt w al l.length 13 (fun k => CallV.cells (l.getD k dCall))) (hr2 : ∀ w, St w0 L w → RowsAt w oa o.length 1 (fun k => natC (o.getD k (0 : Nat)))) (hs : St w0 (L) w), Calls Tryz.prog 38 #[.slice al l.length cl, .slice oa o.length oc] w (Ret fun rv w' => (∃ (oa2 : Option Addr) (oc2 : Nat), rv = .tuple #[.slice oa2 (((tryF l d o).getD []).length) oc2, .bool true] ∧ ((tryF l d o).isSome) = true ∧ St w0 ((Sl oa2 oc2 3 1 natC ((tryF l d o).getD [])) :: L) w') ∨ (rv = .tuple #[.slice none 0 0, .bool false] ∧ ((tryF l d o).isSome) = false ∧ St w0 (L) w')) := by
  induction d using Nat.strongRecOn with
  | ind d ih =>
  intro w0 w L al cl oa oc l o hl7 hokc hF hd hnc hr1 hr2 hs
  refine enter (args := [.slice al l.length cl, .slice oa o.length oc]) Tryz.func38 rfl Tryz.ntmps38 (Nat.le_of_ble_eq_true (by kernel_rfl)) ?_
  refine GoC.slots (S' := [(0, .slice al l.length cl), (1, .slice oa o.length oc)]) rfl ?_
  refine GoC.seq ?_
  refine Xt (.rd 0 (.rd 1 .done)) ?_
  refine Xk [(0, .gen []), (1, .gen [])] [] [(5, .bool false), (4, .slice none 0 0), (0, .slice al l.length cl), (1, .slice oa o.length oc)] ak0 ?_
  refine GoR.done (GoQ.thn (GoC.seq ?_))
  refine Xt (.rd 0 (.rd 1 (.rd 2 (.ef 3 (.ef 4 (.rd 5 (.rd 6 (.rd 7 (.rd 8 (.rd 9 .done)))))))))) ?_
  refine Xk [(0, .gen []), (1, .gen []), (2, .gen [])] [] [(16, .slice oa o.length oc), (15, .slice al l.length cl), (14, .slice al l.length cl), (5, .bool false), (4, .slice none 0 0), (0, .slice al l.length cl), (1, .slice oa o.length oc)] ak0 ?_
  refine Xa (f := 39) (args := #[.slice al l.length cl, .slice oa o.length oc]) Tryz.call39 (rrow_spec l o (by have hz := hF.len; first | omega | (rw [rowL_length]; omega)) hF.2 (by have hz := hF.len; first | omega | (rw [rowL_length]; omega)) (fun w h => hr1 _ (h.drop 0)) (fun w h => hr2 _ (h.drop 0)) hs) ?_
  rintro v4 w5 ⟨ra1, rc2, rfl, hs3⟩
  refine ⟨Xo, ?_⟩
  refine Xa (f := 10) (args := #[.slice al l.length cl, .slice ra1 ((rowL l o).length) rc2]) Tryz.call10 (rcheck_spec l (rowL l o) (by have hz := hF.len; first | omega | (rw [rowL_length]; omega)) (by have hz := hF.len; first | omega | (rw [rowL_length]; omega)) (row_amount hokc _) (fun w h => hr1 _ (h.drop 1)) (fun w h => h.rows 0 rfl (reqF).size _) hs3) ?_
  rintro v7 w8 ⟨rfl, hs6⟩
  refine ⟨Xo, ?_⟩
  refine Xk [(5, .gen []), (6, .gen []), (7, .gen []), (8, .gen []), (9, .gen [])] [] [(6, .int .i64 ((chkV l (rowL l o)).1)), (5, .bool false), (4, .slice none 0 0), (0, .slice al l.length cl), (1, .slice oa o.length oc)] ak0 ?_
  refine GoR.done (GoQ.thn (GoC.seq (GoC.seq ?_)))
  refine Xt (.rd 0 (.rd 1 .done)) ?_
  refine Xk [(0, .gen []), (1, .gen [])] [] [(22, .bool ((((chkV l (rowL l o)).1) : Int) == 0)), (5, .bool false), (4, .slice none 0 0), (0, .slice al l.length cl), (1, .slice oa o.length oc)] ak0 ?_
  refine GoR.done (GoQ.thn ?_)
  refine Xc (t := (((chkV l (rowL l o)).1) : Int) == 0) (fun h9 => ?_) (fun h9 => ?_)
  · have h9' : ((chkV l (rowL l o)).1 : Int) = 0 := ieqT h9
    have hokq : okO l o = true := h9
    have hol0 := hF.len
    refine GoC.seq ?_
    refine Xt (.ef 0 (.rd 1 (.ef 2 (.rd 3 (.rd 4 .done))))) ?_
    refine GoR.sliceLit0 rfl (by kernel_rfl) (t := 34) (e := 3) (by kernel_rfl) (by kernel_rfl) (ti := Tryz.t3) (by kernel_rfl) hs6 ?_
    intro b10 w11 hs12 hz13
    have hs14 : St w0 ((Sl (some ⟨b10, 0, none⟩) 0 3 1 natC ([] : List Nat)) :: (Sl ra1 rc2 56 40 ReqV.cells (rowL l o)) :: L) w11 := St.slOf (l := ([] : List Nat)) (f := natC) hs12 hz13 (natF).size (by simp only [List.length_cons, List.length_nil, maxLen]; omega) (by kernel_rfl)
    refine ⟨Xo, ?_⟩
    refine Xk [(1, .gen [])] [] [(24, .slice oa o.length oc), (23, vl b10 0 0 0), (5, .bool false), (4, .slice none 0 0), (0, .slice al l.length cl), (1, .slice oa o.length oc)] ak0 ?_
    refine GoR.append rfl (by kernel_rfl) natsOK natF (ad := some ⟨b10, 0, none⟩) (c := 0) (xs := ([] : List Nat)) (ys := o) (adx := oa) (cx := oc) (0 : Nat) (by kernel_rfl) hs14 (hr2 _ (hs14.drop 2)) hnc (by simp only [List.length_append, List.length_cons, List.length_nil, List.length_map] at *; omega) (by simp only [List.length_append, List.length_cons, List.length_nil, List.length_map] at *; omega) ?_
    intro ad17 c18 w15 hs16
    refine ⟨Xo, ?_⟩
    refine Xk [(3, .gen []), (4, .gen [])] [] [(5, .bool true), (4, .slice ad17 ((o).length) c18), (0, .slice al l.length cl), (1, .slice oa o.length oc)] ak0 ?_
    refine GoR.done (GoQ.thn (GoC.ret (GoQ.skipCR ?_)))
    refine X2 (v := .slice ad17 ((o).length) c18) (v' := .bool true) ?_
    have hs19 : St w0 ((Sl ra1 rc2 56 40 ReqV.cells (rowL l o)) :: (Sl ad17 c18 3 1 natC o) :: L) w15 := ((hs16.pull 0 rfl).pull 1 rfl)
    have hs20 : St w0 ((Sl ad17 c18 3 1 natC o) :: L) w15 := hs19.drop 1
    exact .inl ⟨ad17, c18, (by rw [tryF_ok hokq]; rfl), (by rw [tryF_ok hokq]; rfl), (by rw [show (tryF l d o).getD [] = o from by rw [tryF_ok hokq]; rfl]; exact hs20)⟩
  · have h9' : ¬ (((chkV l (rowL l o)).1 : Int) = 0) := ieqF h9
    have hokq : okO l o = false := h9
    have hol0 := hF.len
    refine GoC.skip (GoQ.thn (GoC.seq (GoC.seq ?_)))
    refine Xt (.rd 0 .done) ?_
    refine Xk [(0, .gen [])] [] [(8, .int .i64 0), (5, .bool false), (4, .slice none 0 0), (0, .slice al l.length cl), (1, .slice oa o.length oc)] ak0 ?_
    refine GoR.done (GoQ.thn (GoC.block ?_))
    have hs21 : St w0 (L) w8 := hs6.drop 1
    refine GoC.loop (T := Nat) (fun gg => [(0, .slice al l.length cl), (1, .slice oa o.length oc), (8, .int .i64 (gg : Nat))]) (fun gg w => (gg ≤ l.length ∧ ∀ i, i < gg → stepF l d o i = none) ∧ St w0 (L) w) (fun gg => l.length - gg) 0 [0, 1, 8] (by kernel_rfl) ⟨⟨Nat.zero_le _, fun i hi => absurd hi (Nat.not_lt_zero _)⟩, hs21⟩ ?_
    rintro k w22 ⟨hp0, hs23⟩
    have hp : k ≤ l.length ∧ ∀ i, i < k → stepF l d o i = none := hp0
    have hs24 : St w0 (L) w22 := hs23
    refine GoC.slots (S' := [(0, .slice al l.length cl), (1, .slice oa o.length oc), (8, .int .i64 (k : Nat))]) rfl ?_
    refine GoC.seq (GoC.seq ?_)
    refine Xt (.rd 0 (.rd 1 (.rd 2 (.rd 3 .done)))) ?_
    refine Xk [(0, .gen []), (1, .gen []), (2, .gen []), (3, .gen [])] [] [(29, .bool (decide (((k : Nat) : Int) < (l.length : Nat)))), (0, .slice al l.length cl), (1, .slice oa o.length oc), (8, .int .i64 (k : Nat))] ak0 ?_
    refine GoR.done (GoQ.thn ?_)
    refine Xc (t := decide (((k : Nat) : Int) < (l.length : Nat))) (fun h25 => ?_) (fun h25 => ?_)
    · have h25' : ((k : Nat) : Int) < (l.length : Nat) := of_decide_eq_true h25
      have hk : k < l.length := by omega
      refine GoC.skip (GoQ.thn (GoC.seq (GoC.block (GoC.seq ?_))))
      refine Xt (.rd 0 .done) ?_
      refine Xk [(0, .gen [])] [] [(9, .bool false), (0, .slice al l.length cl), (1, .slice oa o.length oc), (8, .int .i64 (k : Nat))] ak0 ?_
      refine GoR.done (GoQ.thn (GoC.seq (GoC.seq ?_)))
      refine Xt (.rd 0 .done) ?_
      refine Xk [(0, .gen [])] [] [(10, .int .i64 0), (9, .bool false), (0, .slice al l.length cl), (1, .slice oa o.length oc), (8, .int .i64 (k : Nat))] ak0 ?_
      refine GoR.done (GoQ.thn (GoC.block ?_))
      refine GoC.loop (T := Nat × Bool) (fun gg => [(0, .slice al l.length cl), (1, .slice oa o.length oc), (8, .int .i64 (k : Nat)), (9, .bool gg.2), (10, .int .i64 (gg.1 : Nat))]) (fun gg w => (gg.1 ≤ o.length ∧ gg.2 = decide (k ∈ o.take gg.1)) ∧ St w0 (L) w) (fun gg => o.length - gg.1) (0, false) [0, 1, 8, 9, 10] (by kernel_rfl) ⟨⟨Nat.zero_le _, (decide_eq_false (by simp)).symm⟩, hs24⟩ ?_
      rintro ⟨k2, isb⟩ w26 ⟨hq0, hs27⟩
      have hq : k2 ≤ o.length ∧ isb = decide (k ∈ o.take k2) := hq0
      have hs28 : St w0 (L) w26 := hs27
      refine GoC.slots (S' := [(0, .slice al l.length cl), (1, .slice oa o.length oc), (8, .int .i64 (k : Nat)), (9, .bool isb), (10, .int .i64 (k2 : Nat))]) rfl ?_
      refine GoC.seq (GoC.seq ?_)
      refine Xt (.rd 0 (.rd 1 (.rd 2 (.rd 3 .done)))) ?_
      refine Xk [(0, .gen []), (1, .gen []), (2, .gen []), (3, .gen [])] [] [(35, .bool (decide (((k2 : Nat) : Int) < (o.length : Nat)))), (0, .slice al l.length cl), (1, .slice oa o.length oc), (8, .int .i64 (k : Nat)), (9, .bool isb), (10, .int .i64 (k2 : Nat))] ak0 ?_
      refine GoR.done (GoQ.thn ?_)
      refine Xc (t := decide (((k2 : Nat) : Int) < (o.length : Nat))) (fun h29 => ?_) (fun h29 => ?_)
      · have h29' : ((k2 : Nat) : Int) < (o.length : Nat) := of_decide_eq_true h29
        have hk2 : k2 < o.length := by omega
        obtain ⟨ab30, ao31, rfl⟩ := RowsAt.isSome (hr2 _ (hs28.drop 0)) (by omega)
        refine GoC.skip (GoQ.thn (GoC.seq (GoC.block ?_)))
        refine GoC.join (T := Unit) (E := fun _ => [(9, .bool (isb || ((((o.getD k2 (0 : Nat)) : Nat) : Int) == (k : Nat)))), (0, .slice al l.length cl), (1, vl ab30 ao31 o.length oc), (8, .int .i64 (k : Nat)), (10, .int .i64 (k2 : Nat))]) (F := fun _ w => St w0 (L) w) ?_ ?_
        · refine Xt (.rd 0 (.rd 1 (.rd 2 (.rd 3 (.rd 4 (.rd 5 (.rd 6 (.rd 7 (.rd 8 (.rd 9 .done)))))))))) ?_
          refine Xk [(0, .gen []), (1, .gen [])] [] [(39, .bool isb), (0, .slice al l.length cl), (1, vl ab30 ao31 o.length oc), (8, .int .i64 (k : Nat)), (9, .bool isb), (10, .int .i64 (k2 : Nat))] ak0 ?_
          rcases Bool.eq_false_or_eq_true isb with h32 | h32
          · refine Xs 39 true h32 ?_
            refine Xk [(2, .gen []), (3, .gen []), (4, .gen []), (5, .gen []), (6, .gen []), (7, .gen []), (8, .gen []), (9, .gen [])] [] [(9, .bool true), (0, .slice al l.length cl), (1, vl ab30 ao31 o.length oc), (8, .int .i64 (k : Nat)), (10, .int .i64 (k2 : Nat))] ak0 ?_
            refine GoR.done ?_
            refine GoQ.pick [9, 0, 1, 8, 10] (S' := [(9, .bool true), (0, .slice al l.length cl), (1, vl ab30 ao31 o.length oc), (8, .int .i64 (k : Nat)), (10, .int .i64 (k2 : Nat))]) (by kernel_rfl) ?_
            exact GoQ.meet1 () (by first | rfl | (simp only [h32, Bool.not_true, Bool.not_false, Bool.true_or, Bool.false_or, Bool.true_and, Bool.false_and, Bool.or_true, Bool.or_false, Bool.and_true, Bool.and_false]; done) | (simp [h32]; done)) hs28
          · refine Xs 39 false h32 ?_
            refine Xk [(2, .gen []), (3, .gen []), (4, .as_ (vp ab30 (ao31 + (k2 * 1))) .at_), (5, .gen [.int .i64 ((o.getD k2 (0 : Nat)) : Nat)]), (6, .gen []), (7, .gen []), (8, .gen []), (9, .gen [])] [(4, [.prop (0 ≤ ((k2 : Nat) : Int) ∧ ((k2 : Nat) : Int) < ((o.length : Nat) : Int)), .prop (Value.pointer (some (Addr.add ⟨ab30, ao31, none⟩ (Int.toNat (k2 : Nat) * 1))) = Value.pointer (some ⟨ab30, ao31 + (k2 * 1), none⟩))]), (5, [.cell ⟨ab30, ao31 + (k2 * 1), none⟩ (.int .i64 ((o.getD k2 (0 : Nat)) : Nat))])] [(9, .bool ((((o.getD k2 (0 : Nat)) : Nat) : Int) == (k : Nat))), (0, .slice al l.length cl), (1, vl ab30 ao31 o.length oc), (8, .int .i64 (k : Nat)), (10, .int .i64 (k2 : Nat))] (ak (okp (by omega) (okp (ptrAdd _ _ _) ok0)) (ak (okc (RowsAt.at0 (hr2 _ (hs28.drop 0)) (k := k2) (by first | omega | (simp only [List.length_set]; omega) | (simp only [List.length_set, List.length_append, List.length_cons, List.length_nil]; omega)) (j := 0) (by decide) (by kernel_rfl)) ok0) ak0)) ?_
            refine GoR.done ?_
            refine GoQ.pick [9, 0, 1, 8, 10] (S' := [(9, .bool ((((o.getD k2 (0 : Nat)) : Nat) : Int) == (k : Nat))), (0, .slice al l.length cl), (1, vl ab30 ao31 o.length oc), (8, .int .i64 (k : Nat)), (10, .int .i64 (k2 : Nat))]) (by kernel_rfl) ?_
            exact GoQ.meet1 () (by first | rfl | (simp only [h32, Bool.not_true, Bool.not_false, Bool.true_or, Bool.false_or, Bool.true_and, Bool.false_and, Bool.or_true, Bool.or_false, Bool.and_true, Bool.and_false]; done) | (simp [h32]; done)) hs28
        intro _ w33 hs34
        refine GoQ.blkN (GoQ.thn ?_)
        refine Xt (.rd 0 (.rd 1 (.rd 2 .done))) ?_
        refine Xk [(0, .gen []), (1, .as_ (.int .i64 ((k2 : Nat) + 1)) (.gen [])), (2, .gen [])] [(1, [.prop (Value.int .i64 (IntKind.i64.wrap ((k2 : Nat) + 1)) = Value.int .i64 ((k2 : Nat) + 1))])] [(10, .int .i64 ((k2 : Nat) + 1)), (9, .bool (isb || ((((o.getD k2 (0 : Nat)) : Nat) : Int) == (k : Nat)))), (0, .slice al l.length cl), (1, vl ab30 ao31 o.length oc), (8, .int .i64 (k : Nat))] (ak (okp (i64ok (by omega) (by omega)) ok0) ak0) ?_
        refine GoR.done ?_
        exact GoQ.back (k2 + 1, isb || ((((o.getD k2 (0 : Nat)) : Nat) : Int) == (k : Nat))) [0, 1, 8, 9, 10] (by kernel_rfl) (by show o.length - (k2 + 1) < o.length - k2; omega) ⟨⟨by omega, by rw [hq.2, has_step hk2]⟩, hs34⟩
      · have h29' : ¬ (((k2 : Nat) : Int) < (o.length : Nat)) := of_decide_eq_false h29
        have hke : k2 = o.length := by omega
        have htk : isb = decide (k ∈ o) := by rw [hq.2, hke, List.take_length]
        refine GoC.exit (GoQ.skipC (GoQ.skipL (GoQ.hit (GoQ.thn (GoC.seq (GoC.seq ?_))))))
        refine Xt (.rd 0 .done) ?_
        refine Xk [(0, .gen [])] [] [(47, .bool isb), (0, .slice al l.length cl), (1, .slice oa o.length oc), (8, .int .i64 (k : Nat))] ak0 ?_
        refine GoR.done (GoQ.thn ?_)
        refine Xc (t := isb) (fun h35 => ?_) (fun h35 => ?_)
        · have hm : k ∈ o := of_decide_eq_true (htk.symm.trans h35)
          refine GoC.exit (GoQ.skipC (GoQ.hit (GoQ.thn ?_)))
          refine Xt (.rd 0 (.rd 1 (.rd 2 .done))) ?_
          refine Xk [(0, .gen []), (1, .as_ (.int .i64 ((k : Nat) + 1)) (.gen [])), (2, .gen [])] [(1, [.prop (Value.int .i64 (IntKind.i64.wrap ((k : Nat) + 1)) = Value.int .i64 ((k : Nat) + 1))])] [(8, .int .i64 ((k : Nat) + 1)), (0, .slice al l.length cl), (1, .slice oa o.length oc)] (ak (okp (i64ok (by omega) (by omega)) ok0) ak0) ?_
          refine GoR.done ?_
          exact GoQ.back (k + 1) [0, 1, 8] (by kernel_rfl) (by show l.length - (k + 1) < l.length - k; omega) ⟨⟨by omega, step_in hp.2 (if_pos hm)⟩, hs28⟩
        · have hm : ¬ k ∈ o := of_decide_eq_false (htk.symm.trans h35)
          have hsn := (hF.snoc hk hm).len
          have hln9 : (o ++ [k]).length = o.length + 1 := by simp
          have hd1 : 1 ≤ d := by omega
          have hol := hF.len
          refine GoC.skip (GoQ.thn (GoC.seq ?_))
          refine Xt (.rd 0 (.ef 1 (.rd 2 (.ef 3 (.rd 4 (.ef 5 (.ef 6 (.ef 7 (.rd 8 (.rd 9 (.rd 10 (.rd 11 (.rd 12 .done))))))))))))) ?_
          refine Xk [(0, .gen [])] [] [(49, .slice al l.length cl), (0, .slice al l.length cl), (1, .slice oa o.length oc), (8, .int .i64 (k : Nat))] ak0 ?_
          refine GoR.sliceLit0 rfl (by kernel_rfl) (t := 34) (e := 3) (by kernel_rfl) (by kernel_rfl) (ti := Tryz.t3) (by kernel_rfl) hs28 ?_
          intro b36 w37 hs38 hz39
          have hs40 : St w0 ((Sl (some ⟨b36, 0, none⟩) 0 3 1 natC ([] : List Nat)) :: L) w37 := St.slOf (l := ([] : List Nat)) (f := natC) hs38 hz39 (natF).size (by simp only [List.length_cons, List.length_nil, maxLen]; omega) (by kernel_rfl)
          refine ⟨Xo, ?_⟩
          refine Xk [(2, .gen [])] [] [(51, .slice oa o.length oc), (50, vl b36 0 0 0), (49, .slice al l.length cl), (0, .slice al l.length cl), (1, .slice oa o.length oc), (8, .int .i64 (k : Nat))] ak0 ?_
          refine GoR.append rfl (by kernel_rfl) natsOK natF (ad := some ⟨b36, 0, none⟩) (c := 0) (xs := ([] : List Nat)) (ys := o) (adx := oa) (cx := oc) (0 : Nat) (by kernel_rfl) hs40 (hr2 _ (hs40.drop 1)) hnc (by simp only [List.length_append, List.length_cons, List.length_nil, List.length_map] at *; omega) (by simp only [List.length_append, List.length_cons, List.length_nil, List.length_map] at *; omega) ?_
          intro ad43 c44 w41 hs42
          refine ⟨Xo, ?_⟩
          refine Xk [(4, .gen [])] [] [(53, .int .i64 (k : Nat)), (52, .slice ad43 ((o).length) c44), (49, .slice al l.length cl), (0, .slice al l.length cl), (1, .slice oa o.length oc), (8, .int .i64 (k : Nat))] ak0 ?_
          refine GoR.sliceLit rfl (by kernel_rfl) (t := 34) (e := 3) (n := 1) (ps := [(0, .int .i64 (k : Nat))]) (by kernel_rfl) (by kernel_rfl) (ti := Tryz.t3) (z := .int .i64 0) (by kernel_rfl) (by kernel_rfl) (by decide) (by decide) (cs := #[.int .i64 (k : Nat)]) (by kernel_rfl) hs42 ?_
          intro b45 w46 hs47 hz48
          have hs49 : St w0 ((Sl (some ⟨b45, 0, none⟩) 1 3 1 natC ([((k : Nat) : Nat)])) :: (Sl ad43 c44 3 1 natC o) :: L) w46 := St.slOf (l := [((k : Nat) : Nat)]) (f := natC) hs47 hz48 (natF).size (by simp only [List.length_cons, List.length_nil, maxLen]; omega) (by kernel_rfl)
          refine ⟨Xo, ?_⟩
          have hs52 : St w0 ((Sl ad43 c44 3 1 natC o) :: (Sl (some ⟨b45, 0, none⟩) 1 3 1 natC ([((k : Nat) : Nat)])) :: L) w46 := (hs49.pull 1 rfl)
          refine GoR.append rfl (by kernel_rfl) natsOK natF (ad := ad43) (c := c44) (xs := o) (ys := [((k : Nat) : Nat)]) (adx := some ⟨b45, 0, none⟩) (cx := 1) (0 : Nat) (by kernel_rfl) hs52 (hs52.rows 1 rfl (natF).size (0 : Nat)) (fun h => nomatch h) (by simp only [List.length_append, List.length_cons, List.length_nil, List.length_map] at *; omega) (by simp only [List.length_append, List.length_cons, List.length_nil, List.length_map] at *; omega) ?_
          intro ad53 c54 w50 hs51
          refine ⟨Xo, ?_⟩
          refine Xa (f := 38) (args := #[.slice al l.length cl, .slice ad53 ((o ++ ([((k : Nat) : Nat)])).length) c54]) Tryz.call38 (ih (d - 1) (by omega) l (o ++ ([((k : Nat) : Nat)])) (by omega) hokc (hF.snoc hk hm) (by omega) (hs51.slNone 0 rfl) (fun w h => hr1 _ (h.drop 2)) (fun w h => h.rows 0 rfl (natF).size _) hs51) ?_
          rintro v61 w62 (⟨oa55, oc56, rfl, h57, hs58⟩ | ⟨rfl, h59, hs60⟩)
          · refine ⟨Xo, ?_⟩
            refine Xk [(8, .gen []), (9, .gen []), (10, .gen []), (11, .gen []), (12, .gen [])] [] [(12, .bool true), (11, .slice oa55 (((tryF l (d - 1) (o ++ ([((k : Nat) : Nat)]))).getD []).length) oc56), (0, .slice al l.length cl), (1, .slice oa o.length oc), (8, .int .i64 (k : Nat))] ak0 ?_
            refine GoR.done (GoQ.thn (GoC.seq ?_))
            refine Xt (.rd 0 .done) ?_
            refine Xk [(0, .gen [])] [] [(59, .bool true), (11, .slice oa55 (((tryF l (d - 1) (o ++ ([((k : Nat) : Nat)]))).getD []).length) oc56), (0, .slice al l.length cl), (1, .slice oa o.length oc), (8, .int .i64 (k : Nat))] ak0 ?_
            refine GoR.done (GoQ.thn (XT (GoC.seq ?_)))
            refine Xt (.rd 0 (.rd 1 (.rd 2 .done))) ?_
            refine Xk [(0, .gen []), (1, .gen []), (2, .gen [])] [] [(5, .bool true), (4, .slice oa55 (((tryF l (d - 1) (o ++ ([((k : Nat) : Nat)]))).getD []).length) oc56), (0, .slice al l.length cl), (1, .slice oa o.length oc), (8, .int .i64 (k : Nat))] ak0 ?_
            refine GoR.done (GoQ.thn (GoC.ret (GoQ.blkR (GoQ.skipCR (GoQ.skipLR (GoQ.blkR (GoQ.skipCR ?_)))))))
            refine X2 (v := .slice oa55 (((tryF l (d - 1) (o ++ ([((k : Nat) : Nat)]))).getD []).length) oc56) (v' := .bool true) ?_
            have hs63 : St w0 ((Sl ad53 c54 3 1 natC (o ++ ([((k : Nat) : Nat)]))) :: (Sl (some ⟨b45, 0, none⟩) 1 3 1 natC ([((k : Nat) : Nat)])) :: (Sl oa55 oc56 3 1 natC ((tryF l (d - 1) (o ++ ([((k : Nat) : Nat)]))).getD [])) :: L) w62 := (((hs58.pull 0 rfl).pull 2 rfl).pull 2 rfl)
            have hs64 : St w0 ((Sl oa55 oc56 3 1 natC ((tryF l (d - 1) (o ++ ([((k : Nat) : Nat)]))).getD [])) :: L) w62 := hs63.drop 2
            exact .inl ⟨oa55, oc56, (by rw [tryF_hit2 hokq hd1 hk hp.2 hm h57]), (by rw [tryF_hit2 hokq hd1 hk hp.2 hm h57]; exact h57), (by rw [tryF_hit2 hokq hd1 hk hp.2 hm h57]; exact hs64)⟩
          · refine ⟨Xo, ?_⟩
            refine Xk [(8, .gen []), (9, .gen []), (10, .gen []), (11, .gen []), (12, .gen [])] [] [(12, .bool false), (11, .slice none 0 0), (0, .slice al l.length cl), (1, .slice oa o.length oc), (8, .int .i64 (k : Nat))] ak0 ?_
            refine GoR.done (GoQ.thn (GoC.seq ?_))
            refine Xt (.rd 0 .done) ?_
            refine Xk [(0, .gen [])] [] [(59, .bool false), (11, .slice none 0 0), (0, .slice al l.length cl), (1, .slice oa o.length oc), (8, .int .i64 (k : Nat))] ak0 ?_
            refine GoR.done (GoQ.thn (XF (GoC.skip (GoQ.blkN (GoQ.thn ?_)))))
            refine Xt (.rd 0 (.rd 1 (.rd 2 .done))) ?_
            refine Xk [(0, .gen []), (1, .as_ (.int .i64 ((k : Nat) + 1)) (.gen [])), (2, .gen [])] [(1, [.prop (Value.int .i64 (IntKind.i64.wrap ((k : Nat) + 1)) = Value.int .i64 ((k : Nat) + 1))])] [(8, .int .i64 ((k : Nat) + 1)), (0, .slice al l.length cl), (1, .slice oa o.length oc)] (ak (okp (i64ok (by omega) (by omega)) ok0) ak0) ?_
            refine GoR.done ?_
            have hs65 : St w0 (L) w62 := hs60.drop 2
            exact GoQ.back (k + 1) [0, 1, 8] (by kernel_rfl) (by show l.length - (k + 1) < l.length - k; omega) ⟨⟨by omega, step_in hp.2 ((if_neg hm).trans (Option.not_isSome_iff_eq_none.1 (by rw [h59]; decide)))⟩, hs65⟩
    · have h25' : ¬ (((k : Nat) : Int) < (l.length : Nat)) := of_decide_eq_false h25
      refine GoC.exit (GoQ.skipC (GoQ.skipL (GoQ.hit (GoQ.thn (GoC.seq ?_)))))
      refine Xt (.rd 0 (.rd 1 .done)) ?_
      refine Xk [(0, .gen []), (1, .gen [])] [] [(5, .bool false), (4, .slice none 0 0)] ak0 ?_
      refine GoR.done (GoQ.thn (GoC.ret ?_))
      refine X2 (v := .slice none 0 0) (v' := .bool false) ?_
      exact .inr (⟨rfl, (by rw [tryF_miss hokq (fun i hi => hp.2 i (by omega))]; rfl), hs24⟩)
theorem rfind_spec {w0 w : World} {L : List Asn} {al : Option Addr} {cl : Nat} (l : List CallV) (hll : l.length ≤ 1000000) (hokc : ∀ c ∈ l, 0 ≤ c.op.amount) (hr : ∀ w, St w0 L w → RowsAt w al l.length 13 (fun k => CallV.cells (l.getD k dCall))) (hs : St w0 (L) w) : Calls Tryz.prog 13 #[.slice al l.length cl] w (Ret fun rv w' => (∃ (oa2 : Option Addr) (oc2 : Nat), rv = .tuple #[.slice oa2 (((findF l).getD []).length) oc2, .bool true] ∧ ((findF l).isSome) = true ∧ St w0 ((Sl oa2 oc2 3 1 natC ((findF l).getD [])) :: L) w') ∨ (rv = .tuple #[.slice none 0 0, .bool false] ∧ ((findF l).isSome) = false ∧ St w0 (L) w')) := by
  refine enter (args := [.slice al l.length cl]) Tryz.func13 rfl Tryz.ntmps13 (Nat.le_of_ble_eq_true (by kernel_rfl)) ?_
  refine GoC.slots (S' := [(0, .slice al l.length cl)]) rfl ?_
  refine GoC.seq ?_
  refine Xt (.rd 0 (.rd 1 .done)) ?_
  refine Xk [(0, .gen []), (1, .gen [])] [] [(3, .bool false), (2, .slice none 0 0), (0, .slice al l.length cl)] ak0 ?_
  refine GoR.done (GoQ.thn (GoC.seq (GoC.seq ?_)))
  refine Xt (.rd 0 (.rd 1 (.rd 2 .done))) ?_
  refine Xk [(0, .gen []), (1, .gen []), (2, .gen [])] [] [(6, .bool (decide (((l.length : Nat) : Int) > 7))), (3, .bool false), (2, .slice none 0 0), (0, .slice al l.length cl)] ak0 ?_
  refine GoR.done (GoQ.thn ?_)
  refine Xc (t := decide (((l.length : Nat) : Int) > 7)) (fun h1 => ?_) (fun h1 => ?_)
  · have h1' : ((l.length : Nat) : Int) > 7 := of_decide_eq_true h1
    refine GoC.seq ?_
    refine Xt (.rd 0 (.rd 1 .done)) ?_
    refine Xk [(0, .gen []), (1, .gen [])] [] [(3, .bool false), (2, .slice none 0 0), (0, .slice al l.length cl)] ak0 ?_
    refine GoR.done (GoQ.thn (GoC.ret (GoQ.skipCR ?_)))
    refine X2 (v := .slice none 0 0) (v' := .bool false) ?_
    exact .inr (⟨rfl, (by rw [findF, if_neg (by omega)]; rfl), hs⟩)
  · have h1' : ¬ (((l.length : Nat) : Int) > 7) := of_decide_eq_false h1
    refine GoC.skip (GoQ.thn (GoC.seq ?_))
    refine Xt (.rd 0 (.ef 1 (.rd 2 (.rd 3 (.rd 4 (.rd 5 .done)))))) ?_
    refine Xk [(0, .gen [])] [] [(7, .slice al l.length cl), (3, .bool false), (2, .slice none 0 0)] ak0 ?_
    refine Xa (f := 38) (args := #[.slice al l.length cl, .slice none (([] : List Nat).length) 0]) Tryz.call38 (rtry_spec l.length l ([] : List Nat) (by first | assumption | omega) (by first | assumption | omega) ⟨List.nodup_nil, fun i hi => by cases hi⟩ (by simp only [List.length_nil]; omega) (fun _ => rfl) (fun w h => hr _ (h.drop 0)) (fun _ _ => RowsAt.nil _ _ _) hs) ?_
    rintro v8 w9 (⟨oa2, oc3, rfl, h4, hs5⟩ | ⟨rfl, h6, hs7⟩)
    · refine ⟨Xo, ?_⟩
      refine Xk [(2, .gen []), (3, .gen []), (4, .gen []), (5, .gen [])] [] [(3, .bool true), (2, .slice oa2 (((tryF l l.length ([] : List Nat)).getD []).length) oc3)] ak0 ?_
      refine GoR.done (GoQ.thn (GoC.ret ?_))
      refine X2 (v := .slice oa2 (((tryF l l.length ([] : List Nat)).getD []).length) oc3) (v' := .bool true) ?_
      exact .inl ⟨oa2, oc3, (by rw [findF, if_pos (by omega)]), (by rw [findF, if_pos (by omega)]; exact h4), (by rw [findF, if_pos (by omega)]; exact hs5)⟩
    · refine ⟨Xo, ?_⟩
      refine Xk [(2, .gen []), (3, .gen []), (4, .gen []), (5, .gen [])] [] [(3, .bool false), (2, .slice none 0 0)] ak0 ?_
      refine GoR.done (GoQ.thn (GoC.ret ?_))
      refine X2 (v := .slice none 0 0) (v' := .bool false) ?_
      exact .inr (⟨rfl, (by rw [findF, if_pos (by omega)]; exact h6), hs7⟩)
theorem numbers_spec {w0 w : World} {L : List Asn} {oa : Option Addr} {oc : Nat} {pa : Option Addr} {pc : Nat} (o : List Nat) (hlen : o.length ≤ 1000000) (hr1 : ∀ w, St w0 L w → RowsAt w oa o.length 1 (fun k => natC (o.getD k (0 : Nat)))) (hr2 : ∀ w, St w0 L w → RowsAt w pa o.length 1 (fun k => natC (o.getD k (0 : Nat)))) (hs : St w0 (L) w) : Calls Tryz.prog 14 #[.slice oa o.length oc, .slice pa o.length pc] w (Ret fun rv w' => rv = .bool true ∧ St w0 (L) w') := by
  refine enter (args := [.slice oa o.length oc, .slice pa o.length pc]) Tryz.func14 rfl Tryz.ntmps14 (Nat.le_of_ble_eq_true (by kernel_rfl)) ?_
  refine GoC.slots (S' := [(0, .slice oa o.length oc), (1, .slice pa o.length pc)]) rfl ?_
  refine GoC.seq ?_
  refine Xt (.rd 0 .done) ?_
  refine Xk [(0, .gen [])] [] [(4, .bool false), (0, .slice oa o.length oc), (1, .slice pa o.length pc)] ak0 ?_
  refine GoR.done (GoQ.thn (GoC.seq (GoC.seq ?_)))
  refine Xt (.rd 0 (.rd 1 (.rd 2 (.rd 3 (.rd 4 .done))))) ?_
  refine Xk [(0, .gen []), (1, .gen []), (2, .gen []), (3, .gen []), (4, .as_ (.bool false) (.gen []))] [(4, [.prop (Value.bool (((o.length : Nat) : Int) != (o.length : Nat)) = Value.bool false)])] [(10, .bool false), (4, .bool false), (0, .slice oa o.length oc), (1, .slice pa o.length pc)] (ak (okp (by simp) ok0) ak0) ?_
  refine GoR.done (GoQ.thn (XF (GoC.skip (GoQ.thn (GoC.seq (GoC.seq ?_))))))
  refine Xt (.rd 0 .done) ?_
  refine Xk [(0, .gen [])] [] [(5, .int .i64 0), (4, .bool false), (0, .slice oa o.length oc), (1, .slice pa o.length pc)] ak0 ?_
  refine GoR.done (GoQ.thn (GoC.block ?_))
  refine GoC.loop (T := Nat) (fun gg => [(0, .slice oa o.length oc), (1, .slice pa o.length pc), (5, .int .i64 (gg : Nat))]) (fun gg w => (gg ≤ o.length) ∧ St w0 (L) w) (fun gg => o.length - gg) 0 [0, 1, 5] (by kernel_rfl) ⟨Nat.zero_le _, hs⟩ ?_
  rintro k w1 ⟨hp0, hs2⟩
  have hp : k ≤ o.length := hp0
  have hs3 : St w0 (L) w1 := hs2
  refine GoC.slots (S' := [(0, .slice oa o.length oc), (1, .slice pa o.length pc), (5, .int .i64 (k : Nat))]) rfl ?_
  refine GoC.seq (GoC.seq ?_)
  refine Xt (.rd 0 (.rd 1 (.rd 2 (.rd 3 .done)))) ?_
  refine Xk [(0, .gen []), (1, .gen []), (2, .gen []), (3, .gen [])] [] [(14, .bool (decide (((k : Nat) : Int) < (o.length : Nat)))), (0, .slice oa o.length oc), (1, .slice pa o.length pc), (5, .int .i64 (k : Nat))] ak0 ?_
  refine GoR.done (GoQ.thn ?_)
  refine Xc (t := decide (((k : Nat) : Int) < (o.length : Nat))) (fun h4 => ?_) (fun h4 => ?_)
  · have h4' : ((k : Nat) : Int) < (o.length : Nat) := of_decide_eq_true h4
    have hk : k < o.length := by omega
    obtain ⟨ab5, ao6, rfl⟩ := RowsAt.isSome (hr1 _ (hs3.drop 0)) (by omega)
    obtain ⟨ab7, ao8, rfl⟩ := RowsAt.isSome (hr2 _ (hs3.drop 0)) (by omega)
    refine GoC.skip (GoQ.thn (GoC.seq (GoC.block (GoC.seq ?_))))
    refine GoC.regD [0, 0, 3, 7, 0, 0, 48, 112, 255] (.rd 0 (.rd 1 (.rd 2 (.rd 3 (.rd 4 (.rd 5 (.rd 6 (.rd 7 (.rd 8 .done))))))))) (by kernel_rfl) (by kernel_rfl) noPan_body (by kernel_rfl) hs3 ?_
    intro w9 hs10 hw11
    refine Xk [(0, .gen []), (1, .gen []), (2, .as_ (vp ab5 (ao6 + (k * 1))) .at_), (3, .gen [.int .i64 ((o.getD k (0 : Nat)) : Nat)]), (4, .gen []), (5, .gen []), (6, .as_ (vp ab7 (ao8 + (k * 1))) .at_), (7, .gen [.int .i64 ((o.getD k (0 : Nat)) : Nat)]), (8, .as_ (.bool false) (.gen []))] [(2, [.prop (0 ≤ ((k : Nat) : Int) ∧ ((k : Nat) : Int) < ((o.length : Nat) : Int)), .prop (Value.pointer (some (Addr.add ⟨ab5, ao6, none⟩ (Int.toNat (k : Nat) * 1))) = Value.pointer (some ⟨ab5, ao6 + (k * 1), none⟩))]), (3, [.cell ⟨ab5, ao6 + (k * 1), none⟩ (.int .i64 ((o.getD k (0 : Nat)) : Nat))]), (6, [.prop (0 ≤ ((k : Nat) : Int) ∧ ((k : Nat) : Int) < ((o.length : Nat) : Int)), .prop (Value.pointer (some (Addr.add ⟨ab7, ao8, none⟩ (Int.toNat (k : Nat) * 1))) = Value.pointer (some ⟨ab7, ao8 + (k * 1), none⟩))]), (7, [.cell ⟨ab7, ao8 + (k * 1), none⟩ (.int .i64 ((o.getD k (0 : Nat)) : Nat))]), (8, [.prop (Value.bool ((((o.getD k (0 : Nat)) : Nat) : Int) != ((o.getD k (0 : Nat)) : Nat)) = Value.bool false)])] [(25, .bool false), (0, vl ab5 ao6 o.length oc), (1, vl ab7 ao8 o.length pc), (5, .int .i64 (k : Nat))] (ak (okp (by omega) (okp (ptrAdd _ _ _) ok0)) (ak (okc (RowsAt.at0 (hr1 _ (hs10.drop 0)) (k := k) (by first | omega | (simp only [List.length_set]; omega) | (simp only [List.length_set, List.length_append, List.length_cons, List.length_nil]; omega)) (j := 0) (by decide) (by kernel_rfl)) ok0) (ak (okp (by omega) (okp (ptrAdd _ _ _) ok0)) (ak (okc (RowsAt.at0 (hr2 _ (hs10.drop 0)) (k := k) (by first | omega | (simp only [List.length_set]; omega) | (simp only [List.length_set, List.length_append, List.length_cons, List.length_nil]; omega)) (j := 0) (by decide) (by kernel_rfl)) ok0) (ak (okp (by simp) ok0) ak0))))) ?_
    refine GoR.done (GoQ.thn (XF (GoC.skip (GoQ.blkN (GoQ.thn ?_)))))
    refine Xt (.rd 0 (.rd 1 (.rd 2 .done))) ?_
    refine Xk [(0, .gen []), (1, .as_ (.int .i64 ((k : Nat) + 1)) (.gen [])), (2, .gen [])] [(1, [.prop (Value.int .i64 (IntKind.i64.wrap ((k : Nat) + 1)) = Value.int .i64 ((k : Nat) + 1))])] [(5, .int .i64 ((k : Nat) + 1)), (0, vl ab5 ao6 o.length oc), (1, vl ab7 ao8 o.length pc)] (ak (okp (i64ok (by omega) (by omega)) ok0) ak0) ?_
    refine GoR.done ?_
    exact GoQ.back (k + 1) [0, 1, 5] (by kernel_rfl) (by show o.length - (k + 1) < o.length - k; omega) ⟨(by omega), hs10⟩
  · have h4' : ¬ (((k : Nat) : Int) < (o.length : Nat)) := of_decide_eq_false h4
    refine GoC.exit (GoQ.skipC (GoQ.skipL (GoQ.hit (GoQ.thn (GoC.seq ?_)))))
    refine Xt (.rd 0 .done) ?_
    refine Xk [(0, .gen [])] [] [(4, .bool true)] ak0 ?_
    refine GoR.done (GoQ.thn (GoC.ret ?_))
    refine X1 (v := .bool true) ?_
    exact ⟨rfl, hs3⟩
theorem same_spec {w0 w : World} {L : List Asn} {al : Option Addr} {cl : Nat} {pa : Option Addr} {pc : Nat} (l : List CallV) (hlen : l.length ≤ 1000000) (hr1 : ∀ w, St w0 L w → RowsAt w al l.length 13 (fun k => CallV.cells (l.getD k dCall))) (hr2 : ∀ w, St w0 L w → RowsAt w pa l.length 13 (fun k => CallV.cells (l.getD k dCall))) (hs : St w0 (L) w) : Calls Tryz.prog 15 #[.slice al l.length cl, .slice pa l.length pc] w (Ret fun rv w' => rv = .bool true ∧ St w0 (L) w') := by
  refine enter (args := [.slice al l.length cl, .slice pa l.length pc]) Tryz.func15 rfl Tryz.ntmps15 (Nat.le_of_ble_eq_true (by kernel_rfl)) ?_
  refine GoC.slots (S' := [(0, .slice al l.length cl), (1, .slice pa l.length pc)]) rfl ?_
  refine GoC.seq ?_
  refine Xt (.rd 0 .done) ?_
  refine Xk [(0, .gen [])] [] [(4, .bool false), (0, .slice al l.length cl), (1, .slice pa l.length pc)] ak0 ?_
  refine GoR.done (GoQ.thn (GoC.seq (GoC.seq ?_)))
  refine Xt (.rd 0 (.rd 1 (.rd 2 (.rd 3 (.rd 4 .done))))) ?_
  refine Xk [(0, .gen []), (1, .gen []), (2, .gen []), (3, .gen []), (4, .as_ (.bool false) (.gen []))] [(4, [.prop (Value.bool (((l.length : Nat) : Int) != (l.length : Nat)) = Value.bool false)])] [(10, .bool false), (4, .bool false), (0, .slice al l.length cl), (1, .slice pa l.length pc)] (ak (okp (by simp) ok0) ak0) ?_
  refine GoR.done (GoQ.thn (XF (GoC.skip (GoQ.thn (GoC.seq (GoC.seq ?_))))))
  refine Xt (.rd 0 .done) ?_
  refine Xk [(0, .gen [])] [] [(5, .int .i64 0), (4, .bool false), (0, .slice al l.length cl), (1, .slice pa l.length pc)] ak0 ?_
  refine GoR.done (GoQ.thn (GoC.block ?_))
  refine GoC.loop (T := Nat) (fun gg => [(0, .slice al l.length cl), (1, .slice pa l.length pc), (5, .int .i64 (gg : Nat))]) (fun gg w => (gg ≤ l.length) ∧ St w0 (L) w) (fun gg => l.length - gg) 0 [0, 1, 5] (by kernel_rfl) ⟨Nat.zero_le _, hs⟩ ?_
  rintro k w1 ⟨hp0, hs2⟩
  have hp : k ≤ l.length := hp0
  have hs3 : St w0 (L) w1 := hs2
  refine GoC.slots (S' := [(0, .slice al l.length cl), (1, .slice pa l.length pc), (5, .int .i64 (k : Nat))]) rfl ?_
  refine GoC.seq (GoC.seq ?_)
  refine Xt (.rd 0 (.rd 1 (.rd 2 (.rd 3 .done)))) ?_
  refine Xk [(0, .gen []), (1, .gen []), (2, .gen []), (3, .gen [])] [] [(14, .bool (decide (((k : Nat) : Int) < (l.length : Nat)))), (0, .slice al l.length cl), (1, .slice pa l.length pc), (5, .int .i64 (k : Nat))] ak0 ?_
  refine GoR.done (GoQ.thn ?_)
  refine Xc (t := decide (((k : Nat) : Int) < (l.length : Nat))) (fun h4 => ?_) (fun h4 => ?_)
  · have h4' : ((k : Nat) : Int) < (l.length : Nat) := of_decide_eq_true h4
    have hk : k < l.length := by omega
    obtain ⟨ab5, ao6, rfl⟩ := RowsAt.isSome (hr1 _ (hs3.drop 0)) (by omega)
    obtain ⟨ab7, ao8, rfl⟩ := RowsAt.isSome (hr2 _ (hs3.drop 0)) (by omega)
    refine GoC.skip (GoQ.thn (GoC.seq (GoC.block (GoC.seq ?_))))
    refine GoC.regD [0, 0, 3, 7, 0, 0, 48, 112, 255] (.rd 0 (.rd 1 (.rd 2 (.rd 3 (.rd 4 (.rd 5 (.rd 6 (.rd 7 (.rd 8 .done))))))))) (by kernel_rfl) (by kernel_rfl) noPan_body (by kernel_rfl) hs3 ?_
    intro w9 hs10 hw11
    refine Xk [(0, .gen []), (1, .gen []), (2, .as_ (vp ab5 (ao6 + (k * 13))) .at_), (3, .agg (CallV.cells (l.getD k dCall))), (4, .gen []), (5, .gen []), (6, .as_ (vp ab7 (ao8 + (k * 13))) .at_), (7, .agg (CallV.cells (l.getD k dCall)))] [(2, [.prop (0 ≤ ((k : Nat) : Int) ∧ ((k : Nat) : Int) < ((l.length : Nat) : Int)), .prop (Value.pointer (some (Addr.add ⟨ab5, ao6, none⟩ (Int.toNat (k : Nat) * 13))) = Value.pointer (some ⟨ab5, ao6 + (k * 13), none⟩))]), (3, [.prop (Array.size (CallV.cells (l.getD k dCall)) = 13), .cells ⟨ab5, ao6 + (k * 13), none⟩ (CallV.cells (l.getD k dCall))]), (6, [.prop (0 ≤ ((k : Nat) : Int) ∧ ((k : Nat) : Int) < ((l.length : Nat) : Int)), .prop (Value.pointer (some (Addr.add ⟨ab7, ao8, none⟩ (Int.toNat (k : Nat) * 13))) = Value.pointer (some ⟨ab7, ao8 + (k * 13), none⟩))]), (7, [.prop (Array.size (CallV.cells (l.getD k dCall)) = 13), .cells ⟨ab7, ao8 + (k * 13), none⟩ (CallV.cells (l.getD k dCall))])] [(24, .agg (CallV.cells (l.getD k dCall))), (20, .agg (CallV.cells (l.getD k dCall))), (0, vl ab5 ao6 l.length cl), (1, vl ab7 ao8 l.length pc), (5, .int .i64 (k : Nat))] (ak (okp (by omega) (okp (ptrAdd _ _ _) ok0)) (ak (okp (by kernel_rfl) (oka (RowsAt.all0 (hr1 _ (hs10.drop 0)) (by first | omega | (simp only [List.length_set]; omega) | (simp only [List.length_set, List.length_append, List.length_cons, List.length_nil]; omega)) (Nat.le_of_ble_eq_true (by kernel_rfl)) (by kernel_rfl)) ok0)) (ak (okp (by omega) (okp (ptrAdd _ _ _) ok0)) (ak (okp (by kernel_rfl) (oka (RowsAt.all0 (hr2 _ (hs10.drop 0)) (by first | omega | (simp only [List.length_set]; omega) | (simp only [List.length_set, List.length_append, List.length_cons, List.length_nil]; omega)) (Nat.le_of_ble_eq_true (by kernel_rfl)) (by kernel_rfl)) ok0)) ak0)))) ?_
    refine GoR.eqAgg rfl (by kernel_rfl) (b := false) (t := 78) (xs := CallV.cells (l.getD k dCall)) (ys := CallV.cells (l.getD k dCall)) (m := 3) (by kernel_rfl) (by kernel_rfl) (by decide) (by kernel_rfl) (r := !(decide ((l.getD k dCall) = (l.getD k dCall)))) (aggNe  (callEq (l.getD k dCall) (l.getD k dCall))) ?_
    refine GoR.done (GoQ.thn ?_)
    refine Xc (t := !(decide ((l.getD k dCall) = (l.getD k dCall)))) (fun h12 => ?_) (fun h12 => ?_)
    · have h12n : (decide ((l.getD k dCall) = (l.getD k dCall))) = false := notT h12
      have h12n' : ¬ ((l.getD k dCall) = (l.getD k dCall)) := of_decide_eq_false h12n
      exfalso; simp at h12
    · have h12n : (decide ((l.getD k dCall) = (l.getD k dCall))) = true := notF h12
      have h12n' : (l.getD k dCall) = (l.getD k dCall) := of_decide_eq_true h12n
      refine GoC.skip (GoQ.blkN (GoQ.thn ?_))
      refine Xt (.rd 0 (.rd 1 (.rd 2 .done))) ?_
      refine Xk [(0, .gen []), (1, .as_ (.int .i64 ((k : Nat) + 1)) (.gen [])), (2, .gen [])] [(1, [.prop (Value.int .i64 (IntKind.i64.wrap ((k : Nat) + 1)) = Value.int .i64 ((k : Nat) + 1))])] [(5, .int .i64 ((k : Nat) + 1)), (0, vl ab5 ao6 l.length cl), (1, vl ab7 ao8 l.length pc)] (ak (okp (i64ok (by omega) (by omega)) ok0) ak0) ?_
      refine GoR.done ?_
      exact GoQ.back (k + 1) [0, 1, 5] (by kernel_rfl) (by show l.length - (k + 1) < l.length - k; omega) ⟨(by omega), hs10⟩
  · have h4' : ¬ (((k : Nat) : Int) < (l.length : Nat)) := of_decide_eq_false h4
    refine GoC.exit (GoQ.skipC (GoQ.skipL (GoQ.hit (GoQ.thn (GoC.seq ?_)))))
    refine Xt (.rd 0 .done) ?_
    refine Xk [(0, .gen [])] [] [(4, .bool true)] ak0 ?_
    refine GoR.done (GoQ.thn (GoC.ret ?_))
    refine X1 (v := .bool true) ?_
    exact ⟨rfl, hs3⟩
end Go.Proofs.YtbmmknchcdhefaaGreatDoor
