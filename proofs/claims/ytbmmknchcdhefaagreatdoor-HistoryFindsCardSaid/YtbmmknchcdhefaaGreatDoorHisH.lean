/-
  Find. Conditions: none beside each theorem's own.
-/
import Derived.Test.YtbmmknchcdhefaaGreatDoorSxT
import Derived.Test.YtbmmknchcdhefaaGreatDoorHisG
namespace Go.Proofs.YtbmmknchcdhefaaGreatDoor
open Go.RowKit Go.Sx
set_option linter.unusedVariables false
set_option linter.unusedSimpArgs false
set_option linter.unnecessarySimpa false
set_option maxRecDepth 100000
theorem tryF_hit2 {l : List CallV} {d : Nat} {o : List Nat} {k : Nat} (hb : okO l o = false) (hd : 1 ≤ d) (hk : k < l.length) (h0 : ∀ i, i < k → stepF l d o i = none) (hm : ¬ k ∈ o) (h : (tryF l (d - 1) (o ++ [k])).isSome = true) : tryF l d o = tryF l (d - 1) (o ++ [k]) := by
  obtain ⟨x, hx⟩ := Option.isSome_iff_exists.1 h
  rw [hx]
  exact tryF_hit hb hd hk h0 (by rw [stepF, if_neg hm]; exact hx)
theorem step_in {l : List CallV} {d : Nat} {o : List Nat} {k : Nat} (h0 : ∀ i, i < k → stepF l d o i = none) (h : stepF l d o k = none) : ∀ i, i < k + 1 → stepF l d o i = none := fun i hi => by
  rcases Nat.lt_succ_iff_lt_or_eq.1 hi with h1 | rfl
  · exact h0 i h1
  · exact h
theorem take_back {α : Type} (l : List α) (x : α) {n : Nat} (hn : n = l.length) : (l ++ [x]).take n = l := by
  subst hn
  exact List.take_left' rfl
set_option maxHeartbeats 4000000 in
theorem try_spec (d : Nat) : ∀ {w0 w : World} {L : List Asn} {bl : Nat} {br : Nat} {bo : Nat} {bt : Nat} {al : Option Addr} {cl : Nat} {oa : Option Addr} {oc : Nat} {ra : Option Addr} {rc : Nat} (l : List CallV) (o : List Nat) (hl7 : l.length ≤ 7) (hokc : ∀ c ∈ l, 0 ≤ c.op.amount) (hL : ∀ w, St w0 L w → Laid w) (hF : Fresh l.length o) (hd : l.length ≤ o.length + d) (hr : ∀ w, St w0 L w → RowsAt w al l.length 13 (fun k => CallV.cells (l.getD k dCall))) (hs : St w0 ((Cel bl #[.slice al l.length cl] 22) :: (Cel bo #[.slice oa o.length oc] 34) :: (Sl oa oc 3 1 natC o) :: (Cel br #[.slice ra ((rowL l o).length) rc] 23) :: (Sl ra rc 56 40 ReqV.cells (rowL l o)) :: (Cel bt #[.func (.func 35) #[] #[vp bl 0, vp br 0, vp bo 0, vp bt 0]] 26) :: L) w), Calls Tryz.prog 35 #[vp bl 0, vp br 0, vp bo 0, vp bt 0] w (Ret fun rv w' => (∃ (oa2 : Option Addr) (oc2 : Nat) (ra2 : Option Addr) (rc2 : Nat), rv = .bool true ∧ ((tryF l d o).isSome) = true ∧ St w0 ((Cel bl #[.slice al l.length cl] 22) :: (Cel bo #[.slice oa2 (((tryF l d o).getD []).length) oc2] 34) :: (Sl oa2 oc2 3 1 natC ((tryF l d o).getD [])) :: (Cel br #[.slice ra2 ((rowL l ((tryF l d o).getD [])).length) rc2] 23) :: (Sl ra2 rc2 56 40 ReqV.cells (rowL l ((tryF l d o).getD []))) :: (Cel bt #[.func (.func 35) #[] #[vp bl 0, vp br 0, vp bo 0, vp bt 0]] 26) :: L) w') ∨ (∃ (oa2 : Option Addr) (oc2 : Nat) (ra2 : Option Addr) (rc2 : Nat), rv = .bool false ∧ ((tryF l d o).isSome) = false ∧ St w0 ((Cel bl #[.slice al l.length cl] 22) :: (Cel bo #[.slice oa2 o.length oc2] 34) :: (Sl oa2 oc2 3 1 natC o) :: (Cel br #[.slice ra2 ((rowL l o).length) rc2] 23) :: (Sl ra2 rc2 56 40 ReqV.cells (rowL l o)) :: (Cel bt #[.func (.func 35) #[] #[vp bl 0, vp br 0, vp bo 0, vp bt 0]] 26) :: L) w')) := by
  induction d using Nat.strongRecOn with
  | ind d ih =>
  intro w0 w L bl br bo bt al cl oa oc ra rc l o hl7 hokc hL hF hd hr hs
  refine enter (args := [vp bl 0, vp br 0, vp bo 0, vp bt 0]) Tryz.func35 rfl Tryz.ntmps35 (Nat.le_of_ble_eq_true (by kernel_rfl)) ?_
  refine GoC.slots (S' := [(0, vp bl 0), (1, vp br 0), (2, vp bo 0), (3, vp bt 0)]) rfl ?_
  refine GoC.seq ?_
  refine Xt (.rd 0 .done) ?_
  refine Xk [(0, .gen [])] [] [(4, .bool false), (0, vp bl 0), (1, vp br 0), (2, vp bo 0), (3, vp bt 0)] ak0 ?_
  refine GoR.done (GoQ.thn (GoC.seq (GoC.seq ?_)))
  refine Xt (.rd 0 (.rd 1 (.ef 2 (.rd 3 (.rd 4 (.rd 5 (.rd 6 (.rd 7 .done)))))))) ?_
  refine Xk [(0, .gen [.slice al l.length cl]), (1, .gen [.slice ra ((rowL l o).length) rc])] [(0, [.cell ⟨bl, 0, none⟩ (.slice al l.length cl)]), (1, [.cell ⟨br, 0, none⟩ (.slice ra ((rowL l o).length) rc)])] [(11, .slice ra ((rowL l o).length) rc), (10, .slice al l.length cl), (4, .bool false), (0, vp bl 0), (1, vp br 0), (2, vp bo 0), (3, vp bt 0)] (ak (okc (hs.cell 0 rfl (by kernel_rfl)) ok0) (ak (okc (hs.cell 3 rfl (by kernel_rfl)) ok0) ak0)) ?_
  refine Xa (f := 9) (args := #[.slice al l.length cl, .slice ra ((rowL l o).length) rc]) Tryz.call9 (check_spec l (rowL l o) (by have hz := hF.len; first | omega | (rw [rowL_length]; omega)) (by have hz := hF.len; first | omega | (rw [rowL_length]; omega)) (row_amount hokc _) (fun w h => hL w (h.drop 6)) (fun w h => hr _ (h.drop 6)) (fun w h => h.rows 4 rfl (reqF).size _) hs) ?_
  rintro v2 w3 ⟨rfl, hs1⟩
  refine ⟨Xo, ?_⟩
  refine Xk [(3, .gen []), (4, .gen []), (5, .gen []), (6, .gen []), (7, .gen [])] [] [(5, .int .u8 ((chkV l (rowL l o)).1)), (4, .bool false), (0, vp bl 0), (1, vp br 0), (2, vp bo 0), (3, vp bt 0)] ak0 ?_
  refine GoR.done (GoQ.thn (GoC.seq ?_))
  refine Xt (.rd 0 (.rd 1 .done)) ?_
  refine Xk [(0, .gen []), (1, .gen [])] [] [(16, .bool ((((chkV l (rowL l o)).1) : Int) == 0)), (4, .bool false), (0, vp bl 0), (1, vp br 0), (2, vp bo 0), (3, vp bt 0)] ak0 ?_
  refine GoR.done (GoQ.thn ?_)
  refine Xc (t := (((chkV l (rowL l o)).1) : Int) == 0) (fun h4 => ?_) (fun h4 => ?_)
  · have h4' : ((chkV l (rowL l o)).1 : Int) = 0 := ieqT h4
    have hokq : okO l o = true := h4
    refine GoC.seq ?_
    refine Xt (.rd 0 .done) ?_
    refine Xk [(0, .gen [])] [] [(4, .bool true), (0, vp bl 0), (1, vp br 0), (2, vp bo 0), (3, vp bt 0)] ak0 ?_
    refine GoR.done (GoQ.thn (GoC.ret (GoQ.skipCR ?_)))
    refine X1 (v := .bool true) ?_
    exact .inl ⟨oa, oc, ra, rc, rfl, (by rw [tryF_ok hokq]; rfl), (by rw [show (tryF l d o).getD [] = o from by rw [tryF_ok hokq]; rfl]; exact hs1)⟩
  · have h4' : ¬ (((chkV l (rowL l o)).1 : Int) = 0) := ieqF h4
    have hokq : okO l o = false := h4
    refine GoC.skip (GoQ.thn (GoC.seq (GoC.seq ?_)))
    refine Xt (.rd 0 (.rd 1 (.rd 2 .done))) ?_
    refine Xk [(0, .gen [.slice al l.length cl]), (1, .gen []), (2, .gen [])] [(0, [.cell ⟨bl, 0, none⟩ (.slice al l.length cl)])] [(19, .int .i64 0), (18, .int .i64 (l.length : Nat)), (17, .slice al l.length cl), (4, .bool false), (1, vp br 0), (2, vp bo 0), (3, vp bt 0)] (ak (okc (hs1.cell 0 rfl (by kernel_rfl)) ok0) ak0) ?_
    refine GoR.done (GoQ.thn (GoC.block ?_))
    refine GoC.loop (T := Nat × (Option Addr) × Nat × (Option Addr) × Nat) (fun gg => [(1, vp br 0), (2, vp bo 0), (3, vp bt 0), (17, .slice al l.length cl), (18, .int .i64 (l.length : Nat)), (19, .int .i64 (gg.1 : Nat))]) (fun gg w => (gg.1 ≤ l.length ∧ ∀ i, i < gg.1 → stepF l d o i = none) ∧ St w0 ((Cel bl #[.slice al l.length cl] 22) :: (Cel bo #[.slice gg.2.1 o.length gg.2.2.1] 34) :: (Sl gg.2.1 gg.2.2.1 3 1 natC o) :: (Cel br #[.slice gg.2.2.2.1 ((rowL l o).length) gg.2.2.2.2] 23) :: (Sl gg.2.2.2.1 gg.2.2.2.2 56 40 ReqV.cells (rowL l o)) :: (Cel bt #[.func (.func 35) #[] #[vp bl 0, vp br 0, vp bo 0, vp bt 0]] 26) :: L) w) (fun gg => l.length - gg.1) (0, oa, oc, ra, rc) [1, 2, 3, 17, 18, 19] (by kernel_rfl) ⟨⟨Nat.zero_le _, fun i hi => absurd hi (Nat.not_lt_zero _)⟩, hs1⟩ ?_
    rintro ⟨k, oz, oy, rz, ry⟩ w5 ⟨hp0, hs6⟩
    have hp : k ≤ l.length ∧ ∀ i, i < k → stepF l d o i = none := hp0
    have hs7 : St w0 ((Cel bl #[.slice al l.length cl] 22) :: (Cel bo #[.slice oz o.length oy] 34) :: (Sl oz oy 3 1 natC o) :: (Cel br #[.slice rz ((rowL l o).length) ry] 23) :: (Sl rz ry 56 40 ReqV.cells (rowL l o)) :: (Cel bt #[.func (.func 35) #[] #[vp bl 0, vp br 0, vp bo 0, vp bt 0]] 26) :: L) w5 := hs6
    refine GoC.slots (S' := [(1, vp br 0), (2, vp bo 0), (3, vp bt 0), (17, .slice al l.length cl), (18, .int .i64 (l.length : Nat)), (19, .int .i64 (k : Nat))]) rfl ?_
    refine GoC.seq ?_
    refine Xt (.rd 0 .done) ?_
    refine Xk [(0, .gen [])] [] [(20, .bool (decide (((k : Nat) : Int) < (l.length : Nat)))), (1, vp br 0), (2, vp bo 0), (3, vp bt 0), (17, .slice al l.length cl), (18, .int .i64 (l.length : Nat)), (19, .int .i64 (k : Nat))] ak0 ?_
    refine GoR.done (GoQ.thn (GoC.seq ?_))
    refine Xc (t := decide (((k : Nat) : Int) < (l.length : Nat))) (fun h8 => ?_) (fun h8 => ?_)
    · have h8' : ((k : Nat) : Int) < (l.length : Nat) := of_decide_eq_true h8
      have hk : k < l.length := by omega
      obtain ⟨ab9, ao10, rfl⟩ := RowsAt.isSome (hr _ (hs7.drop 6)) (by omega)
      refine GoC.skip (GoQ.thn (GoC.seq (GoC.block (GoC.seq ?_))))
      refine Xt (.rd 0 (.rd 1 (.rd 2 (.ef 3 (.rd 4 (.ef 5 .done)))))) ?_
      refine Xk [(0, .gen []), (1, .as_ (vp ab9 (ao10 + (k * 13))) .at_), (2, .agg (CallV.cells (l.getD k dCall)))] [(1, [.prop (0 ≤ ((k : Nat) : Int) ∧ ((k : Nat) : Int) < ((l.length : Nat) : Int)), .prop (Value.pointer (some (Addr.add ⟨ab9, ao10, none⟩ (Int.toNat (k : Nat) * 13))) = Value.pointer (some ⟨ab9, ao10 + (k * 13), none⟩))]), (2, [.prop (Array.size (CallV.cells (l.getD k dCall)) = 13), .cells ⟨ab9, ao10 + (k * 13), none⟩ (CallV.cells (l.getD k dCall))])] [(23, .agg (CallV.cells (l.getD k dCall))), (21, .int .i64 (k : Nat)), (1, vp br 0), (2, vp bo 0), (3, vp bt 0), (17, vl ab9 ao10 l.length cl), (18, .int .i64 (l.length : Nat)), (19, .int .i64 (k : Nat))] (ak (okp (by omega) (okp (ptrAdd _ _ _) ok0)) (ak (okp (by kernel_rfl) (oka (RowsAt.all0 (hr _ (hs7.drop 6)) (by first | omega | (simp only [List.length_set]; omega) | (simp only [List.length_set, List.length_append, List.length_cons, List.length_nil]; omega)) (Nat.le_of_ble_eq_true (by kernel_rfl)) (by kernel_rfl)) ok0)) ak0)) ?_
      refine GoR.alloc rfl rfl (by kernel_rfl) (z := .agg (CallV.cells dCall)) (by kernel_rfl) hs7 (cs := CallV.cells dCall) (by kernel_rfl) ?_
      intro b11 w12 hs13
      refine ⟨Xo, ?_⟩
      refine Xk [(4, .gen [])] [] [(7, .int .i64 (k : Nat)), (8, vp b11 0), (23, .agg (CallV.cells (l.getD k dCall))), (1, vp br 0), (2, vp bo 0), (3, vp bt 0), (17, vl ab9 ao10 l.length cl), (18, .int .i64 (l.length : Nat)), (19, .int .i64 (k : Nat))] ak0 ?_
      refine GoR.store rfl rfl (by kernel_rfl) (b := b11) (off := 0) (v := .agg (CallV.cells (l.getD k dCall))) (by kernel_rfl) (by kernel_rfl) (ti := Tryz.t53) (by kernel_rfl) hs13 0 rfl (by kernel_rfl) (by kernel_rfl) (Nat.le_of_ble_eq_true (by kernel_rfl)) (cs' := CallV.cells (l.getD k dCall)) (L' := (Cel b11 (CallV.cells (l.getD k dCall)) 53) :: (Cel bl #[vl ab9 ao10 l.length cl] 22) :: (Cel bo #[.slice oz o.length oy] 34) :: (Sl oz oy 3 1 natC o) :: (Cel br #[.slice rz ((rowL l o).length) ry] 23) :: (Sl rz ry 56 40 ReqV.cells (rowL l o)) :: (Cel bt #[.func (.func 35) #[] #[vp bl 0, vp br 0, vp bo 0, vp bt 0]] 26) :: L) (by kernel_rfl) rfl ?_
      intro w14 hs15
      refine ⟨Xo, ?_⟩
      refine GoR.done (GoQ.thn (GoC.seq (GoC.seq ?_)))
      refine Xt (.rd 0 (.rd 1 (.ef 2 .done))) ?_
      refine Xk [(0, .gen [.slice oz o.length oy]), (1, .gen [])] [(0, [.cell ⟨bo, 0, none⟩ (.slice oz o.length oy)])] [(25, .int .i64 (k : Nat)), (24, .slice oz o.length oy), (7, .int .i64 (k : Nat)), (8, vp b11 0), (1, vp br 0), (2, vp bo 0), (3, vp bt 0), (17, vl ab9 ao10 l.length cl), (18, .int .i64 (l.length : Nat)), (19, .int .i64 (k : Nat))] (ak (okc (hs15.cell 2 rfl (by kernel_rfl)) ok0) ak0) ?_
      refine Xa (f := 36) (args := #[.slice oz o.length oy, .int .i64 (k : Nat)]) Tryz.call36 (hasN_spec o k (by have hz := hF.len; first | omega | (rw [rowL_length]; omega)) (fun w h => h.rows 3 rfl (natF).size _) hs15) ?_
      rintro v17 w18 ⟨rfl, hs16⟩
      refine ⟨Xo, ?_⟩
      refine GoR.done (GoQ.thn ?_)
      refine Xc (t := decide (k ∈ o)) (fun h19 => ?_) (fun h19 => ?_)
      · have h19' : k ∈ o := of_decide_eq_true h19
        refine GoC.exit (GoQ.skipC (GoQ.hit (GoQ.thn ?_)))
        refine Xt (.rd 0 (.rd 1 .done)) ?_
        refine Xk [(0, .as_ (.int .i64 ((k : Nat) + 1)) (.gen [])), (1, .gen [])] [(0, [.prop (Value.int .i64 (IntKind.i64.wrap ((k : Nat) + 1)) = Value.int .i64 ((k : Nat) + 1))])] [(19, .int .i64 ((k : Nat) + 1)), (1, vp br 0), (2, vp bo 0), (3, vp bt 0), (17, vl ab9 ao10 l.length cl), (18, .int .i64 (l.length : Nat))] (ak (okp (i64ok (by omega) (by omega)) ok0) ak0) ?_
        refine GoR.done ?_
        have hs20 : St w0 ((Cel bl #[vl ab9 ao10 l.length cl] 22) :: (Cel bo #[.slice oz o.length oy] 34) :: (Sl oz oy 3 1 natC o) :: (Cel br #[.slice rz ((rowL l o).length) ry] 23) :: (Sl rz ry 56 40 ReqV.cells (rowL l o)) :: (Cel bt #[.func (.func 35) #[] #[vp bl 0, vp br 0, vp bo 0, vp bt 0]] 26) :: L) w18 := hs16.drop 1
        exact GoQ.back (k + 1, oz, oy, rz, ry) [1, 2, 3, 17, 18, 19] (by kernel_rfl) (by show l.length - (k + 1) < l.length - k; omega) ⟨⟨by omega, step_in hp.2 (if_pos h19')⟩, hs20⟩
      · have h19' : ¬ (k ∈ o) := of_decide_eq_false h19
        have hm : ¬ k ∈ o := h19'
        have hsn := (hF.snoc hk hm).len
        have hln9 : (o ++ [k]).length = o.length + 1 := by simp
        have hd1 : 1 ≤ d := by omega
        have hol := hF.len
        have hrl := rowL_length l o
        have hrl2 := rowL_length l (o ++ [k])
        have hrl3 : (rowL l o ++ [reqOf (l.getD k dCall)]).length = o.length + 1 := by simp [hrl]
        refine GoC.skip (GoQ.thn (GoC.seq ?_))
        refine GoC.regD [0, 0, 2, 7, 0, 0, 47, 111, 255, 511, 1023] (.rd 0 (.rd 1 (.rd 4 (.rd 5 (.ef 2 (.ef 3 (.ef 6 (.ef 7 (.ef 8 (.ef 9 (.ef 10 .done))))))))))) (by kernel_rfl) (by kernel_rfl) noPan_body (by kernel_rfl) hs16 ?_
        intro w21 hs22 hw23
        refine Xk [(0, .gen [.slice oz o.length oy]), (1, .gen []), (4, .gen [.slice rz ((rowL l o).length) ry]), (5, .agg (CallV.cells (l.getD k dCall)))] [(0, [.cell ⟨bo, 0, none⟩ (.slice oz o.length oy)]), (4, [.cell ⟨br, 0, none⟩ (.slice rz ((rowL l o).length) ry)]), (5, [.prop (Array.size (CallV.cells (l.getD k dCall)) = 13), .cells ⟨b11, 0, none⟩ (CallV.cells (l.getD k dCall))])] [(32, .agg (CallV.cells (l.getD k dCall))), (31, .slice rz ((rowL l o).length) ry), (28, .int .i64 (k : Nat)), (27, .slice oz o.length oy), (1, vp br 0), (2, vp bo 0), (3, vp bt 0), (17, vl ab9 ao10 l.length cl), (18, .int .i64 (l.length : Nat)), (19, .int .i64 (k : Nat))] (ak (okc (hs22.cell 2 rfl (by kernel_rfl)) ok0) (ak (okc (hs22.cell 4 rfl (by kernel_rfl)) ok0) (ak (okp (by kernel_rfl) (oka (hs22.cells 0 0 rfl (by kernel_rfl)) ok0)) ak0))) ?_
        refine GoR.sliceLit rfl (by kernel_rfl) (t := 34) (e := 3) (n := 1) (ps := [(0, .int .i64 (k : Nat))]) (by kernel_rfl) (by kernel_rfl) (ti := Tryz.t3) (z := .int .i64 0) (by kernel_rfl) (by kernel_rfl) (by decide) (by decide) (cs := #[.int .i64 (k : Nat)]) (by kernel_rfl) hs22 ?_
        intro b24 w25 hs26 hz27
        have hs28 : St w0 ((Sl (some ⟨b24, 0, none⟩) 1 3 1 natC ([((k : Nat) : Nat)])) :: (Cel b11 (CallV.cells (l.getD k dCall)) 53) :: (Cel bl #[vl ab9 ao10 l.length cl] 22) :: (Cel bo #[.slice oz o.length oy] 34) :: (Sl oz oy 3 1 natC o) :: (Cel br #[.slice rz ((rowL l o).length) ry] 23) :: (Sl rz ry 56 40 ReqV.cells (rowL l o)) :: (Cel bt #[.func (.func 35) #[] #[vp bl 0, vp br 0, vp bo 0, vp bt 0]] 26) :: L) w25 := St.slOf (l := [((k : Nat) : Nat)]) (f := natC) hs26 hz27 (natF).size (by simp only [List.length_cons, List.length_nil, maxLen]; omega) (by kernel_rfl)
        refine ⟨(opl (n := [.prop (Array.size (CallV.cells (l.getD k dCall)) = 13), .cells ⟨b11, 0, none⟩ (CallV.cells (l.getD k dCall)), .cell ⟨br, 0, none⟩ (.slice rz ((rowL l o).length) ry), .cell ⟨bo, 0, none⟩ (.slice oz o.length oy)]) (by kernel_rfl) (okp (by kernel_rfl) (oka (hs28.cells 1 0 rfl (by kernel_rfl)) (okc (hs28.cell 5 rfl (by kernel_rfl)) (okc (hs28.cell 3 rfl (by kernel_rfl)) ok0))))), ?_⟩
        have hs31 : St w0 ((Sl oz oy 3 1 natC o) :: (Sl (some ⟨b24, 0, none⟩) 1 3 1 natC ([((k : Nat) : Nat)])) :: (Cel b11 (CallV.cells (l.getD k dCall)) 53) :: (Cel bl #[vl ab9 ao10 l.length cl] 22) :: (Cel bo #[.slice oz o.length oy] 34) :: (Cel br #[.slice rz ((rowL l o).length) ry] 23) :: (Sl rz ry 56 40 ReqV.cells (rowL l o)) :: (Cel bt #[.func (.func 35) #[] #[vp bl 0, vp br 0, vp bo 0, vp bt 0]] 26) :: L) w25 := (hs28.pull 4 rfl)
        refine GoR.append rfl (by kernel_rfl) natsOK natF (ad := oz) (c := oy) (xs := o) (ys := [((k : Nat) : Nat)]) (adx := some ⟨b24, 0, none⟩) (cx := 1) (0 : Nat) (by kernel_rfl) hs31 (hs31.rows 1 rfl (natF).size (0 : Nat)) (fun h => nomatch h) (by simp only [List.length_append, List.length_cons, List.length_nil, List.length_map] at *; omega) (by simp only [List.length_append, List.length_cons, List.length_nil, List.length_map] at *; omega) ?_
        intro ad32 c33 w29 hs30
        refine ⟨(opl (n := [.prop (Array.size (CallV.cells (l.getD k dCall)) = 13), .cells ⟨b11, 0, none⟩ (CallV.cells (l.getD k dCall)), .cell ⟨br, 0, none⟩ (.slice rz ((rowL l o).length) ry)]) (by kernel_rfl) (okp (by kernel_rfl) (oka (hs30.cells 2 0 rfl (by kernel_rfl)) (okc (hs30.cell 5 rfl (by kernel_rfl)) ok0)))), ?_⟩
        refine Xa (f := 37) (args := #[.agg (CallV.cells (l.getD k dCall))]) Tryz.call37 (reqOf_spec (l.getD k dCall)  hs30) ?_
        rintro v35 w36 ⟨rfl, hs34⟩
        refine ⟨(opl (n := [.cell ⟨br, 0, none⟩ (.slice rz ((rowL l o).length) ry)]) (by kernel_rfl) (okc (hs34.cell 5 rfl (by kernel_rfl)) ok0)), ?_⟩
        refine GoR.sliceLit rfl (by kernel_rfl) (t := 23) (e := 56) (n := 1) (ps := [(0, .agg (ReqV.cells (reqOf (l.getD k dCall))))]) (by kernel_rfl) (by kernel_rfl) (ti := Tryz.t56) (z := .agg (ReqV.cells dReq)) (by kernel_rfl) (by kernel_rfl) (by decide) (by decide) (cs := ReqV.cells (reqOf (l.getD k dCall))) (by kernel_rfl) hs34 ?_
        intro b37 w38 hs39 hz40
        have hs41 : St w0 ((Sl (some ⟨b37, 0, none⟩) 1 56 40 ReqV.cells ([((reqOf (l.getD k dCall)) : ReqV)])) :: (Sl ad32 c33 3 1 natC (o ++ ([((k : Nat) : Nat)]))) :: (Sl (some ⟨b24, 0, none⟩) 1 3 1 natC ([((k : Nat) : Nat)])) :: (Cel b11 (CallV.cells (l.getD k dCall)) 53) :: (Cel bl #[vl ab9 ao10 l.length cl] 22) :: (Cel bo #[.slice oz o.length oy] 34) :: (Cel br #[.slice rz ((rowL l o).length) ry] 23) :: (Sl rz ry 56 40 ReqV.cells (rowL l o)) :: (Cel bt #[.func (.func 35) #[] #[vp bl 0, vp br 0, vp bo 0, vp bt 0]] 26) :: L) w38 := St.slOf (l := [((reqOf (l.getD k dCall)) : ReqV)]) (f := ReqV.cells) hs39 hz40 (reqF).size (by simp only [List.length_cons, List.length_nil, maxLen]; omega) (by kernel_rfl)
        refine ⟨(opl (n := [.cell ⟨br, 0, none⟩ (.slice rz ((rowL l o).length) ry)]) (by kernel_rfl) (okc (hs41.cell 6 rfl (by kernel_rfl)) ok0)), ?_⟩
        have hs44 : St w0 ((Sl rz ry 56 40 ReqV.cells (rowL l o)) :: (Sl (some ⟨b37, 0, none⟩) 1 56 40 ReqV.cells ([((reqOf (l.getD k dCall)) : ReqV)])) :: (Sl ad32 c33 3 1 natC (o ++ ([((k : Nat) : Nat)]))) :: (Sl (some ⟨b24, 0, none⟩) 1 3 1 natC ([((k : Nat) : Nat)])) :: (Cel b11 (CallV.cells (l.getD k dCall)) 53) :: (Cel bl #[vl ab9 ao10 l.length cl] 22) :: (Cel bo #[.slice oz o.length oy] 34) :: (Cel br #[.slice rz ((rowL l o).length) ry] 23) :: (Cel bt #[.func (.func 35) #[] #[vp bl 0, vp br 0, vp bo 0, vp bt 0]] 26) :: L) w38 := (hs41.pull 7 rfl)
        refine GoR.append rfl (by kernel_rfl) reqsOK reqF (ad := rz) (c := ry) (xs := rowL l o) (ys := [((reqOf (l.getD k dCall)) : ReqV)]) (adx := some ⟨b37, 0, none⟩) (cx := 1) dReq (by kernel_rfl) hs44 (hs44.rows 1 rfl (reqF).size dReq) (fun h => nomatch h) (by simp only [List.length_append, List.length_cons, List.length_nil, List.length_map] at *; omega) (by simp only [List.length_append, List.length_cons, List.length_nil, List.length_map] at *; omega) ?_
        intro ad45 c46 w42 hs43
        refine ⟨Xo, ?_⟩
        refine GoR.store rfl rfl (by kernel_rfl) (b := bo) (off := 0) (v := .slice ad32 ((o ++ ([((k : Nat) : Nat)])).length) c33) (by kernel_rfl) (by kernel_rfl) (ti := Tryz.t34) (by kernel_rfl) hs43 6 rfl (by kernel_rfl) (by kernel_rfl) (Nat.le_of_ble_eq_true (by kernel_rfl)) (cs' := #[.slice ad32 ((o ++ ([((k : Nat) : Nat)])).length) c33]) (L' := (Sl ad45 c46 56 40 ReqV.cells ((rowL l o) ++ ([((reqOf (l.getD k dCall)) : ReqV)]))) :: (Sl (some ⟨b37, 0, none⟩) 1 56 40 ReqV.cells ([((reqOf (l.getD k dCall)) : ReqV)])) :: (Sl ad32 c33 3 1 natC (o ++ ([((k : Nat) : Nat)]))) :: (Sl (some ⟨b24, 0, none⟩) 1 3 1 natC ([((k : Nat) : Nat)])) :: (Cel b11 (CallV.cells (l.getD k dCall)) 53) :: (Cel bl #[vl ab9 ao10 l.length cl] 22) :: (Cel bo #[.slice ad32 ((o ++ ([((k : Nat) : Nat)])).length) c33] 34) :: (Cel br #[.slice rz ((rowL l o).length) ry] 23) :: (Cel bt #[.func (.func 35) #[] #[vp bl 0, vp br 0, vp bo 0, vp bt 0]] 26) :: L) (by kernel_rfl) rfl ?_
        intro w47 hs48
        refine ⟨Xo, ?_⟩
        refine GoR.store rfl rfl (by kernel_rfl) (b := br) (off := 0) (v := .slice ad45 (((rowL l o) ++ ([((reqOf (l.getD k dCall)) : ReqV)])).length) c46) (by kernel_rfl) (by kernel_rfl) (ti := Tryz.t23) (by kernel_rfl) hs48 7 rfl (by kernel_rfl) (by kernel_rfl) (Nat.le_of_ble_eq_true (by kernel_rfl)) (cs' := #[.slice ad45 (((rowL l o) ++ ([((reqOf (l.getD k dCall)) : ReqV)])).length) c46]) (L' := (Sl ad45 c46 56 40 ReqV.cells ((rowL l o) ++ ([((reqOf (l.getD k dCall)) : ReqV)]))) :: (Sl (some ⟨b37, 0, none⟩) 1 56 40 ReqV.cells ([((reqOf (l.getD k dCall)) : ReqV)])) :: (Sl ad32 c33 3 1 natC (o ++ ([((k : Nat) : Nat)]))) :: (Sl (some ⟨b24, 0, none⟩) 1 3 1 natC ([((k : Nat) : Nat)])) :: (Cel b11 (CallV.cells (l.getD k dCall)) 53) :: (Cel bl #[vl ab9 ao10 l.length cl] 22) :: (Cel bo #[.slice ad32 ((o ++ ([((k : Nat) : Nat)])).length) c33] 34) :: (Cel br #[.slice ad45 (((rowL l o) ++ ([((reqOf (l.getD k dCall)) : ReqV)])).length) c46] 23) :: (Cel bt #[.func (.func 35) #[] #[vp bl 0, vp br 0, vp bo 0, vp bt 0]] 26) :: L) (by kernel_rfl) rfl ?_
        intro w49 hs50
        refine ⟨Xo, ?_⟩
        refine GoR.done (GoQ.thn (GoC.seq (GoC.seq ?_)))
        rw [← rowL_snoc] at hs50
        refine Xt (.rd 0 (.ef 1 .done)) ?_
        refine Xk [(0, .gen [.func (.func 35) #[] #[vp bl 0, vp br 0, vp bo 0, vp bt 0]])] [(0, [.cell ⟨bt, 0, none⟩ (.func (.func 35) #[] #[vp bl 0, vp br 0, vp bo 0, vp bt 0])])] [(36, .func (.func 35) #[] #[vp bl 0, vp br 0, vp bo 0, vp bt 0]), (1, vp br 0), (2, vp bo 0), (3, vp bt 0), (17, vl ab9 ao10 l.length cl), (18, .int .i64 (l.length : Nat)), (19, .int .i64 (k : Nat))] (ak (okc (hs50.cell 8 rfl (by kernel_rfl)) ok0) ak0) ?_
        have hs51 : St w0 ((Cel bl #[vl ab9 ao10 l.length cl] 22) :: (Cel bo #[.slice ad32 ((o ++ [k]).length) c33] 34) :: (Sl ad32 c33 3 1 natC (o ++ [k])) :: (Cel br #[.slice ad45 ((rowL l (o ++ [k])).length) c46] 23) :: (Sl ad45 c46 56 40 ReqV.cells (rowL l (o ++ [k]))) :: (Cel bt #[.func (.func 35) #[] #[vp bl 0, vp br 0, vp bo 0, vp bt 0]] 26) :: (Sl (some ⟨b37, 0, none⟩) 1 56 40 ReqV.cells ([((reqOf (l.getD k dCall)) : ReqV)])) :: (Sl (some ⟨b24, 0, none⟩) 1 3 1 natC ([((k : Nat) : Nat)])) :: (Cel b11 (CallV.cells (l.getD k dCall)) 53) :: L) w49 := ((((((hs50.pull 8 rfl).pull 1 rfl).pull 8 rfl).pull 4 rfl).pull 8 rfl).pull 8 rfl)
        refine Xa (f := 35) (args := #[vp bl 0, vp br 0, vp bo 0, vp bt 0]) Tryz.call35 (ih (d - 1) (by omega) l (o ++ [k]) (by omega) hokc (fun w h => hL w (h.drop 3)) (hF.snoc hk hm) (by omega) (fun w h => hr _ (h.drop 3)) hs51) ?_
        rintro v64 w65 (⟨oa52, oc53, ra54, rc55, rfl, h56, hs57⟩ | ⟨oa58, oc59, ra60, rc61, rfl, h62, hs63⟩)
        · refine ⟨Xo, ?_⟩
          refine GoR.done (GoQ.thn (XT (GoC.seq ?_)))
          refine Xt (.rd 0 .done) ?_
          refine Xk [(0, .gen [])] [] [(4, .bool true), (1, vp br 0), (2, vp bo 0), (3, vp bt 0), (17, vl ab9 ao10 l.length cl), (18, .int .i64 (l.length : Nat)), (19, .int .i64 (k : Nat))] ak0 ?_
          refine GoR.done (GoQ.thn (GoC.ret (GoQ.skipCR (GoQ.blkR (GoQ.skipCR (GoQ.skipLR (GoQ.blkR (GoQ.skipCR ?_))))))))
          refine X1 (v := .bool true) ?_
          have hs66 : St w0 ((Sl (some ⟨b37, 0, none⟩) 1 56 40 ReqV.cells ([((reqOf (l.getD k dCall)) : ReqV)])) :: (Sl (some ⟨b24, 0, none⟩) 1 3 1 natC ([((k : Nat) : Nat)])) :: (Cel b11 (CallV.cells (l.getD k dCall)) 53) :: (Cel bl #[vl ab9 ao10 l.length cl] 22) :: (Cel bo #[.slice oa52 (((tryF l (d - 1) (o ++ [k])).getD []).length) oc53] 34) :: (Sl oa52 oc53 3 1 natC ((tryF l (d - 1) (o ++ [k])).getD [])) :: (Cel br #[.slice ra54 ((rowL l ((tryF l (d - 1) (o ++ [k])).getD [])).length) rc55] 23) :: (Sl ra54 rc55 56 40 ReqV.cells (rowL l ((tryF l (d - 1) (o ++ [k])).getD []))) :: (Cel bt #[.func (.func 35) #[] #[vp bl 0, vp br 0, vp bo 0, vp bt 0]] 26) :: L) w65 := (((((((((hs57.pull 5 rfl).pull 5 rfl).pull 5 rfl).pull 5 rfl).pull 5 rfl).pull 5 rfl).pull 8 rfl).pull 8 rfl).pull 8 rfl)
          have hs67 : St w0 ((Cel bl #[vl ab9 ao10 l.length cl] 22) :: (Cel bo #[.slice oa52 (((tryF l (d - 1) (o ++ [k])).getD []).length) oc53] 34) :: (Sl oa52 oc53 3 1 natC ((tryF l (d - 1) (o ++ [k])).getD [])) :: (Cel br #[.slice ra54 ((rowL l ((tryF l (d - 1) (o ++ [k])).getD [])).length) rc55] 23) :: (Sl ra54 rc55 56 40 ReqV.cells (rowL l ((tryF l (d - 1) (o ++ [k])).getD []))) :: (Cel bt #[.func (.func 35) #[] #[vp bl 0, vp br 0, vp bo 0, vp bt 0]] 26) :: L) w65 := hs66.drop 3
          exact .inl ⟨oa52, oc53, ra54, rc55, rfl, (by rw [tryF_hit2 hokq hd1 hk hp.2 hm h56]; exact h56), (by rw [tryF_hit2 hokq hd1 hk hp.2 hm h56]; exact hs67)⟩
        · refine ⟨Xo, ?_⟩
          refine GoR.done (GoQ.thn (XF (GoC.skip (GoQ.thn ?_))))
          refine GoC.regD [0, 0, 2, 6, 15, 0, 0, 64, 192, 480, 31, 2047] (.rd 0 (.rd 1 (.rd 2 (.rd 3 (.rd 4 (.rd 5 (.rd 6 (.rd 7 (.rd 8 (.rd 9 (.ef 10 (.ef 11 .done)))))))))))) (by kernel_rfl) (by kernel_rfl) noPan_body (by kernel_rfl) hs63 ?_
          intro w68 hs69 hw70
          have hcap71 := Sl.cap (hs69.at_ 2 rfl)
          have hcap72 := Sl.cap (hs69.at_ 4 rfl)
          refine Xk [(0, .gen [.slice oa58 ((o ++ [k]).length) oc59]), (1, .gen [.slice oa58 ((o ++ [k]).length) oc59]), (2, .gen []), (3, .as_ (.int .i64 (((o ++ [k]).length : Nat) - 1)) (.gen [])), (4, .as_ (.slice oa58 ((((o ++ [k])).take (Int.toNat (((o ++ [k]).length : Nat) - 1))).length) oc59) (.sub 0 (Int.toNat (((o ++ [k]).length : Nat) - 1)))), (5, .gen [.slice ra60 ((rowL l (o ++ [k])).length) rc61]), (6, .gen [.slice ra60 ((rowL l (o ++ [k])).length) rc61]), (7, .gen []), (8, .as_ (.int .i64 (((rowL l (o ++ [k])).length : Nat) - 1)) (.gen [])), (9, .as_ (.slice ra60 (((rowL l (o ++ [k])).take (Int.toNat (((rowL l (o ++ [k])).length : Nat) - 1))).length) rc61) (.sub 0 (Int.toNat (((rowL l (o ++ [k])).length : Nat) - 1))))] [(0, [.cell ⟨bo, 0, none⟩ (.slice oa58 ((o ++ [k]).length) oc59)]), (1, [.cell ⟨bo, 0, none⟩ (.slice oa58 ((o ++ [k]).length) oc59)]), (3, [.prop (Value.int .i64 (IntKind.i64.wrap (((o ++ [k]).length : Nat) - 1)) = Value.int .i64 (((o ++ [k]).length : Nat) - 1))]), (4, [.prop ((((o ++ [k]).length : Nat) - 1 : Int) = ((Int.toNat (((o ++ [k]).length : Nat) - 1) : Nat) : Int)), .prop (((none : Option Operand) = none → (0 : Nat) = 0) ∧ (some (Operand.tmp 41) = none → (Int.toNat (((o ++ [k]).length : Nat) - 1) : Nat) = (o ++ [k]).length) ∧ (0 : Nat) ≤ Int.toNat (((o ++ [k]).length : Nat) - 1) ∧ (Int.toNat (((o ++ [k]).length : Nat) - 1) : Nat) ≤ oc59), .prop (Value.slice (if oc59 = 0 then oa58 else (oa58 : Option Addr).map (fun a => a.add (0 * 1))) ((Int.toNat (((o ++ [k]).length : Nat) - 1)) - 0) (oc59 - 0) = Value.slice oa58 ((((o ++ [k])).take (Int.toNat (((o ++ [k]).length : Nat) - 1))).length) oc59)]), (5, [.cell ⟨br, 0, none⟩ (.slice ra60 ((rowL l (o ++ [k])).length) rc61)]), (6, [.cell ⟨br, 0, none⟩ (.slice ra60 ((rowL l (o ++ [k])).length) rc61)]), (8, [.prop (Value.int .i64 (IntKind.i64.wrap (((rowL l (o ++ [k])).length : Nat) - 1)) = Value.int .i64 (((rowL l (o ++ [k])).length : Nat) - 1))]), (9, [.prop ((((rowL l (o ++ [k])).length : Nat) - 1 : Int) = ((Int.toNat (((rowL l (o ++ [k])).length : Nat) - 1) : Nat) : Int)), .prop (((none : Option Operand) = none → (0 : Nat) = 0) ∧ (some (Operand.tmp 46) = none → (Int.toNat (((rowL l (o ++ [k])).length : Nat) - 1) : Nat) = (rowL l (o ++ [k])).length) ∧ (0 : Nat) ≤ Int.toNat (((rowL l (o ++ [k])).length : Nat) - 1) ∧ (Int.toNat (((rowL l (o ++ [k])).length : Nat) - 1) : Nat) ≤ rc61), .prop (Value.slice (if rc61 = 0 then ra60 else (ra60 : Option Addr).map (fun a => a.add (0 * 40))) ((Int.toNat (((rowL l (o ++ [k])).length : Nat) - 1)) - 0) (rc61 - 0) = Value.slice ra60 (((rowL l (o ++ [k])).take (Int.toNat (((rowL l (o ++ [k])).length : Nat) - 1))).length) rc61)])] [(47, .slice ra60 (((rowL l (o ++ [k])).take (Int.toNat (((rowL l (o ++ [k])).length : Nat) - 1))).length) rc61), (42, .slice oa58 ((((o ++ [k])).take (Int.toNat (((o ++ [k]).length : Nat) - 1))).length) oc59), (1, vp br 0), (2, vp bo 0), (3, vp bt 0), (17, vl ab9 ao10 l.length cl), (18, .int .i64 (l.length : Nat)), (19, .int .i64 (k : Nat))] (ak (okc (hs69.cell 1 rfl (by kernel_rfl)) ok0) (ak (okc (hs69.cell 1 rfl (by kernel_rfl)) ok0) (ak (okp (i64ok (by omega) (by omega)) ok0) (ak (okp (by omega) (okp ⟨(by first | (intro _; rfl) | (intro hc; cases hc)), (by first | (intro _; rfl) | (intro hc; cases hc)), (by omega), (by omega)⟩ (okp (subSl0 (by simp only [List.length_take, List.length_drop] <;> omega)) ok0))) (ak (okc (hs69.cell 3 rfl (by kernel_rfl)) ok0) (ak (okc (hs69.cell 3 rfl (by kernel_rfl)) ok0) (ak (okp (i64ok (by omega) (by omega)) ok0) (ak (okp (by omega) (okp ⟨(by first | (intro _; rfl) | (intro hc; cases hc)), (by first | (intro _; rfl) | (intro hc; cases hc)), (by omega), (by omega)⟩ (okp (subSl0 (by simp only [List.length_take, List.length_drop] <;> omega)) ok0))) ak0)))))))) ?_
          refine GoR.store rfl rfl (by kernel_rfl) (b := bo) (off := 0) (v := .slice oa58 ((((o ++ [k])).take (Int.toNat (((o ++ [k]).length : Nat) - 1))).length) oc59) (by kernel_rfl) (by kernel_rfl) (ti := Tryz.t34) (by kernel_rfl) hs69 1 rfl (by kernel_rfl) (by kernel_rfl) (Nat.le_of_ble_eq_true (by kernel_rfl)) (cs' := #[.slice oa58 ((((o ++ [k])).take (Int.toNat (((o ++ [k]).length : Nat) - 1))).length) oc59]) (L' := (Cel bl #[vl ab9 ao10 l.length cl] 22) :: (Cel bo #[.slice oa58 ((((o ++ [k])).take (Int.toNat (((o ++ [k]).length : Nat) - 1))).length) oc59] 34) :: (Sl oa58 oc59 3 1 natC (o ++ [k])) :: (Cel br #[.slice ra60 ((rowL l (o ++ [k])).length) rc61] 23) :: (Sl ra60 rc61 56 40 ReqV.cells (rowL l (o ++ [k]))) :: (Cel bt #[.func (.func 35) #[] #[vp bl 0, vp br 0, vp bo 0, vp bt 0]] 26) :: (Sl (some ⟨b37, 0, none⟩) 1 56 40 ReqV.cells ([((reqOf (l.getD k dCall)) : ReqV)])) :: (Sl (some ⟨b24, 0, none⟩) 1 3 1 natC ([((k : Nat) : Nat)])) :: (Cel b11 (CallV.cells (l.getD k dCall)) 53) :: L) (by kernel_rfl) rfl ?_
          intro w73 hs74
          refine ⟨(opl (n := [.prop ((((rowL l (o ++ [k])).length : Nat) - 1 : Int) = ((Int.toNat (((rowL l (o ++ [k])).length : Nat) - 1) : Nat) : Int)), .prop (((none : Option Operand) = none → (0 : Nat) = 0) ∧ (some (Operand.tmp 46) = none → (Int.toNat (((rowL l (o ++ [k])).length : Nat) - 1) : Nat) = (rowL l (o ++ [k])).length) ∧ (0 : Nat) ≤ Int.toNat (((rowL l (o ++ [k])).length : Nat) - 1) ∧ (Int.toNat (((rowL l (o ++ [k])).length : Nat) - 1) : Nat) ≤ rc61), .prop (Value.slice (if rc61 = 0 then ra60 else (ra60 : Option Addr).map (fun a => a.add (0 * 40))) ((Int.toNat (((rowL l (o ++ [k])).length : Nat) - 1)) - 0) (rc61 - 0) = Value.slice ra60 (((rowL l (o ++ [k])).take (Int.toNat (((rowL l (o ++ [k])).length : Nat) - 1))).length) rc61), .prop (Value.int .i64 (IntKind.i64.wrap (((rowL l (o ++ [k])).length : Nat) - 1)) = Value.int .i64 (((rowL l (o ++ [k])).length : Nat) - 1)), .cell ⟨br, 0, none⟩ (.slice ra60 ((rowL l (o ++ [k])).length) rc61), .cell ⟨br, 0, none⟩ (.slice ra60 ((rowL l (o ++ [k])).length) rc61)]) (by kernel_rfl) (okp (by omega) (okp ⟨(by first | (intro _; rfl) | (intro hc; cases hc)), (by first | (intro _; rfl) | (intro hc; cases hc)), (by omega), (by omega)⟩ (okp (subSl0 (by simp only [List.length_take, List.length_drop] <;> omega)) (okp (i64ok (by omega) (by omega)) (okc (hs74.cell 3 rfl (by kernel_rfl)) (okc (hs74.cell 3 rfl (by kernel_rfl)) ok0))))))), ?_⟩
          refine GoR.store rfl rfl (by kernel_rfl) (b := br) (off := 0) (v := .slice ra60 (((rowL l (o ++ [k])).take (Int.toNat (((rowL l (o ++ [k])).length : Nat) - 1))).length) rc61) (by kernel_rfl) (by kernel_rfl) (ti := Tryz.t23) (by kernel_rfl) hs74 3 rfl (by kernel_rfl) (by kernel_rfl) (Nat.le_of_ble_eq_true (by kernel_rfl)) (cs' := #[.slice ra60 (((rowL l (o ++ [k])).take (Int.toNat (((rowL l (o ++ [k])).length : Nat) - 1))).length) rc61]) (L' := (Cel bl #[vl ab9 ao10 l.length cl] 22) :: (Cel bo #[.slice oa58 ((((o ++ [k])).take (Int.toNat (((o ++ [k]).length : Nat) - 1))).length) oc59] 34) :: (Sl oa58 oc59 3 1 natC (o ++ [k])) :: (Cel br #[.slice ra60 (((rowL l (o ++ [k])).take (Int.toNat (((rowL l (o ++ [k])).length : Nat) - 1))).length) rc61] 23) :: (Sl ra60 rc61 56 40 ReqV.cells (rowL l (o ++ [k]))) :: (Cel bt #[.func (.func 35) #[] #[vp bl 0, vp br 0, vp bo 0, vp bt 0]] 26) :: (Sl (some ⟨b37, 0, none⟩) 1 56 40 ReqV.cells ([((reqOf (l.getD k dCall)) : ReqV)])) :: (Sl (some ⟨b24, 0, none⟩) 1 3 1 natC ([((k : Nat) : Nat)])) :: (Cel b11 (CallV.cells (l.getD k dCall)) 53) :: L) (by kernel_rfl) rfl ?_
          intro w75 hs76
          refine ⟨Xo, ?_⟩
          refine GoR.done (GoQ.blkN (GoQ.thn ?_))
          refine Xt (.rd 0 (.rd 1 .done)) ?_
          refine Xk [(0, .as_ (.int .i64 ((k : Nat) + 1)) (.gen [])), (1, .gen [])] [(0, [.prop (Value.int .i64 (IntKind.i64.wrap ((k : Nat) + 1)) = Value.int .i64 ((k : Nat) + 1))])] [(19, .int .i64 ((k : Nat) + 1)), (1, vp br 0), (2, vp bo 0), (3, vp bt 0), (17, vl ab9 ao10 l.length cl), (18, .int .i64 (l.length : Nat))] (ak (okp (i64ok (by omega) (by omega)) ok0) ak0) ?_
          refine GoR.done ?_
          have hs77 : St w0 ((Sl (some ⟨b37, 0, none⟩) 1 56 40 ReqV.cells ([((reqOf (l.getD k dCall)) : ReqV)])) :: (Sl (some ⟨b24, 0, none⟩) 1 3 1 natC ([((k : Nat) : Nat)])) :: (Cel b11 (CallV.cells (l.getD k dCall)) 53) :: (Cel bl #[vl ab9 ao10 l.length cl] 22) :: (Cel bo #[.slice oa58 ((((o ++ [k])).take (Int.toNat (((o ++ [k]).length : Nat) - 1))).length) oc59] 34) :: (Sl oa58 oc59 3 1 natC (o ++ [k])) :: (Cel br #[.slice ra60 (((rowL l (o ++ [k])).take (Int.toNat (((rowL l (o ++ [k])).length : Nat) - 1))).length) rc61] 23) :: (Sl ra60 rc61 56 40 ReqV.cells (rowL l (o ++ [k]))) :: (Cel bt #[.func (.func 35) #[] #[vp bl 0, vp br 0, vp bo 0, vp bt 0]] 26) :: L) w75 := (((((((((hs76.pull 5 rfl).pull 5 rfl).pull 5 rfl).pull 5 rfl).pull 5 rfl).pull 5 rfl).pull 8 rfl).pull 8 rfl).pull 8 rfl)
          have hs78 : St w0 ((Cel bl #[vl ab9 ao10 l.length cl] 22) :: (Cel bo #[.slice oa58 ((((o ++ [k])).take (Int.toNat (((o ++ [k]).length : Nat) - 1))).length) oc59] 34) :: (Sl oa58 oc59 3 1 natC (o ++ [k])) :: (Cel br #[.slice ra60 (((rowL l (o ++ [k])).take (Int.toNat (((rowL l (o ++ [k])).length : Nat) - 1))).length) rc61] 23) :: (Sl ra60 rc61 56 40 ReqV.cells (rowL l (o ++ [k]))) :: (Cel bt #[.func (.func 35) #[] #[vp bl 0, vp br 0, vp bo 0, vp bt 0]] 26) :: L) w75 := hs77.drop 3
          have ht1 : ((o ++ [k])).take (Int.toNat (((o ++ [k]).length : Nat) - 1)) = o := take_back o k (by omega)
          have ht2 : (rowL l (o ++ [k])).take (Int.toNat (((rowL l (o ++ [k])).length : Nat) - 1)) = rowL l o := by rw [rowL_snoc]; exact take_back (rowL l o) _ (by rw [rowL_length] at *; omega)
          rw [ht1, ht2, rowL_snoc] at hs78
          have hs79 : St w0 ((Sl oa58 oc59 3 1 natC (o ++ [k])) :: (Cel bl #[vl ab9 ao10 l.length cl] 22) :: (Cel bo #[.slice oa58 o.length oc59] 34) :: (Cel br #[.slice ra60 ((rowL l o).length) rc61] 23) :: (Sl ra60 rc61 56 40 ReqV.cells (rowL l o ++ [reqOf (l.getD k dCall)])) :: (Cel bt #[.func (.func 35) #[] #[vp bl 0, vp br 0, vp bo 0, vp bt 0]] 26) :: L) w75 := (hs78.pull 2 rfl)
          have hs80 : St w0 ((Sl oa58 oc59 3 1 natC o) :: (Cel bl #[vl ab9 ao10 l.length cl] 22) :: (Cel bo #[.slice oa58 o.length oc59] 34) :: (Cel br #[.slice ra60 ((rowL l o).length) rc61] 23) :: (Sl ra60 rc61 56 40 ReqV.cells (rowL l o ++ [reqOf (l.getD k dCall)])) :: (Cel bt #[.func (.func 35) #[] #[vp bl 0, vp br 0, vp bo 0, vp bt 0]] 26) :: L) w75 := St.slShrink natF.size hs79
          have hs81 : St w0 ((Sl ra60 rc61 56 40 ReqV.cells (rowL l o ++ [reqOf (l.getD k dCall)])) :: (Sl oa58 oc59 3 1 natC o) :: (Cel bl #[vl ab9 ao10 l.length cl] 22) :: (Cel bo #[.slice oa58 o.length oc59] 34) :: (Cel br #[.slice ra60 ((rowL l o).length) rc61] 23) :: (Cel bt #[.func (.func 35) #[] #[vp bl 0, vp br 0, vp bo 0, vp bt 0]] 26) :: L) w75 := (hs80.pull 4 rfl)
          have hs82 : St w0 ((Sl ra60 rc61 56 40 ReqV.cells (rowL l o)) :: (Sl oa58 oc59 3 1 natC o) :: (Cel bl #[vl ab9 ao10 l.length cl] 22) :: (Cel bo #[.slice oa58 o.length oc59] 34) :: (Cel br #[.slice ra60 ((rowL l o).length) rc61] 23) :: (Cel bt #[.func (.func 35) #[] #[vp bl 0, vp br 0, vp bo 0, vp bt 0]] 26) :: L) w75 := St.slShrink reqF.size hs81
          have hs83 : St w0 ((Cel bl #[vl ab9 ao10 l.length cl] 22) :: (Cel bo #[.slice oa58 o.length oc59] 34) :: (Sl oa58 oc59 3 1 natC o) :: (Cel br #[.slice ra60 ((rowL l o).length) rc61] 23) :: (Sl ra60 rc61 56 40 ReqV.cells (rowL l o)) :: (Cel bt #[.func (.func 35) #[] #[vp bl 0, vp br 0, vp bo 0, vp bt 0]] 26) :: L) w75 := ((((((hs82.pull 5 rfl).pull 1 rfl).pull 5 rfl).pull 3 rfl).pull 5 rfl).pull 5 rfl)
          exact GoQ.back (k + 1, oa58, oc59, ra60, rc61) [1, 2, 3, 17, 18, 19] (by kernel_rfl) (by show l.length - (k + 1) < l.length - k; omega) ⟨⟨by omega, step_in hp.2 ((if_neg hm).trans (Option.not_isSome_iff_eq_none.1 (by rw [h62]; decide)))⟩, hs83⟩
    · have h8' : ¬ (((k : Nat) : Int) < (l.length : Nat)) := of_decide_eq_false h8
      refine GoC.exit (GoQ.skipC (GoQ.skipL (GoQ.hit (GoQ.thn (GoC.seq ?_)))))
      refine Xt (.rd 0 .done) ?_
      refine Xk [(0, .gen [])] [] [(4, .bool false)] ak0 ?_
      refine GoR.done (GoQ.thn (GoC.ret ?_))
      refine X1 (v := .bool false) ?_
      exact .inr (⟨oz, oy, rz, ry, rfl, (by rw [tryF_miss hokq (fun i hi => hp.2 i (by omega))]; rfl), hs7⟩)
def findF (l : List CallV) : Option (List Nat) := if l.length ≤ 7 then tryF l l.length [] else none
theorem find_spec_ {w0 w : World} {L : List Asn} {al : Option Addr} {cl : Nat} (l : List CallV) (hll : l.length ≤ 1000000) (hokc : ∀ c ∈ l, 0 ≤ c.op.amount) (hL : ∀ w, St w0 L w → Laid w) (hr : ∀ w, St w0 L w → RowsAt w al l.length 13 (fun k => CallV.cells (l.getD k dCall))) (hs : St w0 (L) w) : Calls Tryz.prog 12 #[.slice al l.length cl] w (Ret fun rv w' => (∃ (oa2 : Option Addr) (oc2 : Nat), rv = .tuple #[.slice oa2 (((findF l).getD []).length) oc2, .bool true] ∧ ((findF l).isSome) = true ∧ St w0 ((Sl oa2 oc2 3 1 natC ((findF l).getD [])) :: L) w') ∨ (rv = .tuple #[.slice none 0 0, .bool false] ∧ ((findF l).isSome) = false ∧ St w0 (L) w')) := by
  refine enter (args := [.slice al l.length cl]) Tryz.func12 rfl Tryz.ntmps12 (Nat.le_of_ble_eq_true (by kernel_rfl)) ?_
  refine GoC.slots (S' := [(0, .slice al l.length cl)]) rfl ?_
  refine GoC.seq ?_
  refine Xt (.ef 0 (.rd 1 (.rd 2 .done))) ?_
  refine GoR.box rfl rfl (by kernel_rfl) (v := .slice al l.length cl) (by kernel_rfl) hs (cs := #[.slice al l.length cl]) (by kernel_rfl) ?_
  intro b1 w2 hs3
  refine ⟨Xo, ?_⟩
  refine Xk [(1, .gen []), (2, .gen [])] [] [(3, .bool false), (2, .slice none 0 0), (1, vp b1 0)] ak0 ?_
  refine GoR.done (GoQ.thn (GoC.seq (GoC.seq ?_)))
  refine Xt (.rd 0 (.rd 1 (.rd 2 .done))) ?_
  refine Xk [(0, .gen [.slice al l.length cl]), (1, .gen []), (2, .gen [])] [(0, [.cell ⟨b1, 0, none⟩ (.slice al l.length cl)])] [(9, .bool (decide (((l.length : Nat) : Int) > 7))), (3, .bool false), (2, .slice none 0 0), (1, vp b1 0)] (ak (okc (hs3.cell 0 rfl (by kernel_rfl)) ok0) ak0) ?_
  refine GoR.done (GoQ.thn ?_)
  refine Xc (t := decide (((l.length : Nat) : Int) > 7)) (fun h4 => ?_) (fun h4 => ?_)
  · have h4' : ((l.length : Nat) : Int) > 7 := of_decide_eq_true h4
    refine GoC.seq ?_
    refine Xt (.rd 0 (.rd 1 .done)) ?_
    refine Xk [(0, .gen []), (1, .gen [])] [] [(3, .bool false), (2, .slice none 0 0), (1, vp b1 0)] ak0 ?_
    refine GoR.done (GoQ.thn (GoC.ret (GoQ.skipCR ?_)))
    refine X2 (v := .slice none 0 0) (v' := .bool false) ?_
    have hs5 : St w0 (L) w2 := hs3.drop 1
    exact .inr (⟨rfl, (by rw [findF, if_neg (by omega)]; rfl), hs5⟩)
  · have h4' : ¬ (((l.length : Nat) : Int) > 7) := of_decide_eq_false h4
    refine GoC.skip (GoQ.thn (GoC.seq ?_))
    refine Xt (.ef 0 .done) ?_
    refine GoR.alloc rfl rfl (by kernel_rfl) (z := .slice none 0 0) (by kernel_rfl) hs3 (cs := #[.slice none 0 0]) (by kernel_rfl) ?_
    intro b6 w7 hs8
    refine ⟨Xo, ?_⟩
    refine GoR.done (GoQ.thn (GoC.seq ?_))
    refine Xt (.ef 0 .done) ?_
    refine GoR.alloc rfl rfl (by kernel_rfl) (z := .slice none 0 0) (by kernel_rfl) hs8 (cs := #[.slice none 0 0]) (by kernel_rfl) ?_
    intro b9 w10 hs11
    refine ⟨Xo, ?_⟩
    refine GoR.done (GoQ.thn (GoC.seq ?_))
    refine Xt (.ef 0 .done) ?_
    refine GoR.alloc rfl rfl (by kernel_rfl) (z := .nilFunc) (by kernel_rfl) hs11 (cs := #[.nilFunc]) (by kernel_rfl) ?_
    intro b12 w13 hs14
    refine ⟨Xo, ?_⟩
    refine GoR.done (GoQ.thn (GoC.seq ?_))
    refine Xt (.rd 0 (.ef 1 .done)) ?_
    refine Xk [(0, .gen [])] [] [(10, .func (.func 35) #[] #[vp b1 0, vp b9 0, vp b6 0, vp b12 0]), (6, vp b12 0), (4, vp b6 0), (3, .bool false), (2, .slice none 0 0)] ak0 ?_
    refine GoR.store rfl rfl (by kernel_rfl) (b := b12) (off := 0) (v := .func (.func 35) #[] #[vp b1 0, vp b9 0, vp b6 0, vp b12 0]) (by kernel_rfl) (by kernel_rfl) (ti := Tryz.t26) (by kernel_rfl) hs14 0 rfl (by kernel_rfl) (by kernel_rfl) (Nat.le_of_ble_eq_true (by kernel_rfl)) (cs' := #[.func (.func 35) #[] #[vp b1 0, vp b9 0, vp b6 0, vp b12 0]]) (L' := (Cel b12 #[.func (.func 35) #[] #[vp b1 0, vp b9 0, vp b6 0, vp b12 0]] 26) :: (Cel b9 #[.slice none 0 0] 23) :: (Cel b6 #[.slice none 0 0] 34) :: (Cel b1 #[.slice al l.length cl] 22) :: L) (by kernel_rfl) rfl ?_
    intro w15 hs16
    refine ⟨Xo, ?_⟩
    refine GoR.done (GoQ.thn (GoC.seq (GoC.seq ?_)))
    refine Xt (.rd 0 (.ef 1 (.rd 2 .done))) ?_
    refine Xk [(0, .gen [.func (.func 35) #[] #[vp b1 0, vp b9 0, vp b6 0, vp b12 0]])] [(0, [.cell ⟨b12, 0, none⟩ (.func (.func 35) #[] #[vp b1 0, vp b9 0, vp b6 0, vp b12 0])])] [(11, .func (.func 35) #[] #[vp b1 0, vp b9 0, vp b6 0, vp b12 0]), (4, vp b6 0), (3, .bool false), (2, .slice none 0 0)] (ak (okc (hs16.cell 0 rfl (by kernel_rfl)) ok0) ak0) ?_
    have hs17 : St w0 ((Sl none 0 3 1 natC ([] : List Nat)) :: (Cel b12 #[.func (.func 35) #[] #[vp b1 0, vp b9 0, vp b6 0, vp b12 0]] 26) :: (Cel b9 #[.slice none 0 0] 23) :: (Cel b6 #[.slice none 0 0] 34) :: (Cel b1 #[.slice al l.length cl] 22) :: L) w15 := St.slNil hs16 3 1 natC
    have hs18 : St w0 ((Sl none 0 56 40 ReqV.cells ([] : List ReqV)) :: (Sl none 0 3 1 natC ([] : List Nat)) :: (Cel b12 #[.func (.func 35) #[] #[vp b1 0, vp b9 0, vp b6 0, vp b12 0]] 26) :: (Cel b9 #[.slice none 0 0] 23) :: (Cel b6 #[.slice none 0 0] 34) :: (Cel b1 #[.slice al l.length cl] 22) :: L) w15 := St.slNil hs17 56 40 ReqV.cells
    have hs19 : St w0 ((Sl none 0 56 40 ReqV.cells (rowL l ([] : List Nat))) :: (Sl none 0 3 1 natC ([] : List Nat)) :: (Cel b12 #[.func (.func 35) #[] #[vp b1 0, vp b9 0, vp b6 0, vp b12 0]] 26) :: (Cel b9 #[.slice none ((rowL l ([] : List Nat)).length) 0] 23) :: (Cel b6 #[.slice none (([] : List Nat).length) 0] 34) :: (Cel b1 #[.slice al l.length cl] 22) :: L) w15 := hs18
    have hs20 : St w0 ((Cel b1 #[.slice al l.length cl] 22) :: (Cel b6 #[.slice none (([] : List Nat).length) 0] 34) :: (Sl none 0 3 1 natC ([] : List Nat)) :: (Cel b9 #[.slice none ((rowL l ([] : List Nat)).length) 0] 23) :: (Sl none 0 56 40 ReqV.cells (rowL l ([] : List Nat))) :: (Cel b12 #[.func (.func 35) #[] #[vp b1 0, vp b9 0, vp b6 0, vp b12 0]] 26) :: L) w15 := ((((((hs19.pull 2 rfl).pull 1 rfl).pull 3 rfl).pull 3 rfl).pull 4 rfl).pull 5 rfl)
    refine Xa (f := 35) (args := #[vp b1 0, vp b9 0, vp b6 0, vp b12 0]) Tryz.call35 (try_spec l.length l ([] : List Nat) (by omega) (by first | assumption | omega) (fun w h => hL w (h.drop 0)) ⟨List.nodup_nil, fun i hi => by cases hi⟩ (by simp only [List.length_nil]; omega) (fun w h => hr _ (h.drop 0)) hs20) ?_
    rintro v33 w34 (⟨oa21, oc22, ra23, rc24, rfl, h25, hs26⟩ | ⟨oa27, oc28, ra29, rc30, rfl, h31, hs32⟩)
    · refine ⟨Xo, ?_⟩
      refine Xk [(2, .gen [])] [] [(13, .bool false), (4, vp b6 0), (3, .bool false), (2, .slice none 0 0)] ak0 ?_
      refine GoR.done (GoQ.thn (XF (GoC.skip (GoQ.thn (GoC.seq ?_)))))
      refine Xt (.rd 0 (.rd 1 (.rd 2 .done))) ?_
      refine Xk [(0, .gen [.slice oa21 (((tryF l l.length ([] : List Nat)).getD []).length) oc22]), (1, .gen []), (2, .gen [])] [(0, [.cell ⟨b6, 0, none⟩ (.slice oa21 (((tryF l l.length ([] : List Nat)).getD []).length) oc22)])] [(3, .bool true), (2, .slice oa21 (((tryF l l.length ([] : List Nat)).getD []).length) oc22)] (ak (okc (hs26.cell 1 rfl (by kernel_rfl)) ok0) ak0) ?_
      refine GoR.done (GoQ.thn (GoC.ret ?_))
      refine X2 (v := .slice oa21 (((tryF l l.length ([] : List Nat)).getD []).length) oc22) (v' := .bool true) ?_
      have hs35 : St w0 ((Cel b1 #[.slice al l.length cl] 22) :: (Cel b6 #[.slice oa21 (((tryF l l.length ([] : List Nat)).getD []).length) oc22] 34) :: (Cel b9 #[.slice ra23 ((rowL l ((tryF l l.length ([] : List Nat)).getD [])).length) rc24] 23) :: (Sl ra23 rc24 56 40 ReqV.cells (rowL l ((tryF l l.length ([] : List Nat)).getD []))) :: (Cel b12 #[.func (.func 35) #[] #[vp b1 0, vp b9 0, vp b6 0, vp b12 0]] 26) :: (Sl oa21 oc22 3 1 natC ((tryF l l.length ([] : List Nat)).getD [])) :: L) w34 := ((((((hs26.pull 2 rfl).pull 5 rfl).pull 5 rfl).pull 5 rfl).pull 5 rfl).pull 5 rfl)
      have hs36 : St w0 ((Sl oa21 oc22 3 1 natC ((tryF l l.length ([] : List Nat)).getD [])) :: L) w34 := hs35.drop 5
      exact .inl ⟨oa21, oc22, (by rw [findF, if_pos (by omega)]), (by rw [findF, if_pos (by omega)]; exact h25), (by rw [findF, if_pos (by omega)]; exact hs36)⟩
    · refine ⟨Xo, ?_⟩
      refine Xk [(2, .gen [])] [] [(13, .bool true), (4, vp b6 0), (3, .bool false), (2, .slice none 0 0)] ak0 ?_
      refine GoR.done (GoQ.thn (XT (GoC.seq ?_)))
      refine Xt (.rd 0 (.rd 1 .done)) ?_
      refine Xk [(0, .gen []), (1, .gen [])] [] [(3, .bool false), (2, .slice none 0 0), (4, vp b6 0)] ak0 ?_
      refine GoR.done (GoQ.thn (GoC.ret (GoQ.skipCR ?_)))
      refine X2 (v := .slice none 0 0) (v' := .bool false) ?_
      have hs37 : St w0 (L) w34 := hs32.drop 6
      exact .inr (⟨rfl, (by rw [findF, if_pos (by omega)]; exact h31), hs37⟩)
end Go.Proofs.YtbmmknchcdhefaaGreatDoor
