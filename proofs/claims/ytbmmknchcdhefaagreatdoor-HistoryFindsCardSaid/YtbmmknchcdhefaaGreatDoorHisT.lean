/-
  Package state: New, Do; the document's table and state. Conditions: none beside each theorem's own.
-/
import Derived.Test.YtbmmknchcdhefaaGreatDoorSxT
import Derived.Test.YtbmmknchcdhefaaGreatDoorRefB
import Derived.Test.YtbmmknchcdhefaaGreatDoorSesE
namespace Go.Proofs.YtbmmknchcdhefaaGreatDoor
open Go.RowKit Go.Sx
set_option linter.unusedVariables false
set_option linter.unusedSimpArgs false
set_option linter.unnecessarySimpa false
set_option maxRecDepth 100000
theorem stNew_spec {w0 w : World} {L : List Asn} (hs : St w0 (L) w) : Calls Tryz.prog 53 #[] w (Ret fun rv w' => ∃ (s : Nat) (p : Nat) (q : Nat) (g : Nat), rv = vp s 0 ∧ St w0 ((Cel s #[vp q 0, vp p 0, .int .u64 0] 121) :: (Cel p (arrCells LastV.cells (List.replicate 8 dLast)) 129) :: (Cel q #[.map (some g)] 127) :: (MapA Value.string Value.string g ([] : List (ByteArray × ByteArray))) :: L) w') := by
  refine enter (args := []) Tryz.func53 rfl Tryz.ntmps53 (Nat.le_of_ble_eq_true (by kernel_rfl)) ?_
  refine GoC.slots (S' := []) rfl ?_
  refine GoC.seq ?_
  refine Xt (.rd 0 .done) ?_
  refine Xk [(0, .gen [])] [] [(0, .pointer none)] ak0 ?_
  refine GoR.done (GoQ.thn (GoC.seq ?_))
  refine Xt (.ef 0 (.ef 1 (.rd 2 (.ef 3 (.rd 4 .done))))) ?_
  refine Xa (f := 63) (args := #[]) Tryz.call63 (new_spec hs) ?_
  rintro v4 w5 ⟨p1, r2, rfl, hs3⟩
  refine ⟨Xo, ?_⟩
  refine Xa (f := 64) (args := #[]) Tryz.call64 (sesNew_spec hs3) ?_
  rintro v8 w9 ⟨p6, rfl, hs7⟩
  refine ⟨Xo, ?_⟩
  refine Xk [(2, .gen [])] [] [(3, .agg #[vp p1 0, vp p6 0, .int .u64 0]), (0, .pointer none)] ak0 ?_
  refine GoR.box rfl rfl (by kernel_rfl) (v := .agg #[vp p1 0, vp p6 0, .int .u64 0]) (by kernel_rfl) hs7 (cs := #[vp p1 0, vp p6 0, .int .u64 0]) (by kernel_rfl) ?_
  intro b10 w11 hs12
  refine ⟨Xo, ?_⟩
  refine Xk [(4, .gen [])] [] [(0, vp b10 0)] ak0 ?_
  refine GoR.done (GoQ.thn (GoC.ret ?_))
  refine X1 (v := vp b10 0) ?_
  exact ⟨b10, p6, p1, r2, rfl, hs12⟩
theorem stDo_spec {w0 w : World} {L : List Asn} {s : Nat} {p : Nat} {q : Nat} {g : Nat} (tl : List LastV) (m : List (ByteArray × ByteArray)) (r : ReqV) (cnt : Int) (hl : tl.length = 8) (hm : Short m) (hL : ∀ w, St w0 L w → Laid w) (ha : 0 ≤ r.op.amount) (hc : 0 ≤ cnt ∧ cnt ≤ 1000000) (hs : St w0 ((Cel s #[vp q 0, vp p 0, .int .u64 cnt] 121) :: (Cel p (arrCells LastV.cells tl) 129) :: (Cel q #[.map (some g)] 127) :: (MapA Value.string Value.string g m) :: L) w) : Calls Tryz.prog 54 #[vp s 0, .agg (ReqV.cells r)] w (Ret fun rv w' => rv = .tuple #[.agg (RepV.cells ((sdo tl m r).1.1)), .bool ((sdo tl m r).1.2)] ∧ St w0 ((Cel s #[vp q 0, vp p 0, .int .u64 (cnt + 1)] 121) :: (Cel p (arrCells LastV.cells ((sdo tl m r).2.1)) 129) :: (Cel q #[.map (some g)] 127) :: (MapA Value.string Value.string g ((sdo tl m r).2.2)) :: L) w') := by
  refine enter (args := [vp s 0, .agg (ReqV.cells r)]) Tryz.func54 rfl Tryz.ntmps54 (Nat.le_of_ble_eq_true (by kernel_rfl)) ?_
  refine GoC.slots (S' := [(0, vp s 0), (1, .agg (ReqV.cells r))]) rfl ?_
  refine GoC.seq ?_
  refine Xt (.ef 0 (.ef 1 (.rd 2 .done))) ?_
  refine GoR.box rfl rfl (by kernel_rfl) (v := .agg (ReqV.cells r)) (by kernel_rfl) hs (cs := ReqV.cells r) (by kernel_rfl) ?_
  intro b1 w2 hs3
  refine ⟨Xo, ?_⟩
  refine GoR.alloc rfl rfl (by kernel_rfl) (z := .agg #[.int .i64 0, .string (⟨#[]⟩ : ByteArray)]) (by kernel_rfl) hs3 (cs := #[.int .i64 0, .string (⟨#[]⟩ : ByteArray)]) (by kernel_rfl) ?_
  intro b4 w5 hs6
  refine ⟨Xo, ?_⟩
  refine Xk [(2, .gen [])] [] [(5, .bool false), (4, vp b4 0), (3, vp b1 0), (0, vp s 0)] ak0 ?_
  refine GoR.done (GoQ.thn (GoC.seq (GoC.seq ?_)))
  refine Xt (.rd 0 (.rd 1 .done)) ?_
  refine Xk [(0, .gen []), (1, .gen [])] [] [(7, .bool false), (5, .bool false), (4, vp b4 0), (3, vp b1 0), (0, vp s 0)] ak0 ?_
  refine GoR.done (GoQ.thn (XF (GoC.skip (GoQ.thn (GoC.seq ?_)))))
  refine Xt (.rd 0 (.rd 1 (.rd 2 (.rd 3 (.rd 4 (.rd 5 (.rd 6 (.ef 7 .done)))))))) ?_
  refine Xk [(0, .gen []), (1, .gen []), (2, .gen []), (3, .gen [.int .u64 cnt]), (4, .as_ (.int .u64 (cnt + 1)) (.gen [])), (5, .gen []), (6, .gen [])] [(3, [.cell ⟨s, 2, none⟩ (.int .u64 cnt)]), (4, [.prop (Value.int .u64 (IntKind.u64.wrap (cnt + 1)) = Value.int .u64 (cnt + 1))])] [(15, vp s 2), (13, .int .u64 (cnt + 1)), (5, .bool false), (4, vp b4 0), (3, vp b1 0), (0, vp s 0)] (ak (okc (hs6.cell 2 rfl (by kernel_rfl)) ok0) (ak (okp (u64ok (by omega) (by omega)) ok0) ak0)) ?_
  refine GoR.store rfl rfl (by kernel_rfl) (b := s) (off := 2) (v := .int .u64 (cnt + 1)) (by kernel_rfl) (by kernel_rfl) (ti := Tryz.t42) (by kernel_rfl) hs6 2 rfl (by kernel_rfl) (by kernel_rfl) (Nat.le_of_ble_eq_true (by kernel_rfl)) (cs' := #[vp q 0, vp p 0, .int .u64 (cnt + 1)]) (L' := (Cel b4 #[.int .i64 0, .string (⟨#[]⟩ : ByteArray)] 51) :: (Cel b1 (ReqV.cells r) 56) :: (Cel s #[vp q 0, vp p 0, .int .u64 (cnt + 1)] 121) :: (Cel p (arrCells LastV.cells tl) 129) :: (Cel q #[.map (some g)] 127) :: (MapA Value.string Value.string g m) :: L) (by kernel_rfl) rfl ?_
  intro w7 hs8
  refine ⟨Xo, ?_⟩
  refine GoR.done (GoQ.thn (GoC.seq ?_))
  refine GoC.regD [0, 1, 3, 7, 0, 16, 48, 112, 0, 511, 1023, 1023, 4095, 8191] (.rd 0 (.rd 1 (.rd 2 (.rd 3 (.rd 4 (.rd 5 (.rd 6 (.rd 7 (.rd 8 (.ef 9 (.rd 10 (.rd 11 (.ef 12 (.rd 13 .done)))))))))))))) (by kernel_rfl) (by kernel_rfl) noPan_body (by kernel_rfl) hs8 ?_
  intro w9 hs10 hw11
  refine Xk [(0, .gen []), (1, .gen []), (2, .gen []), (3, .gen [vp p 0]), (4, .gen []), (5, .gen []), (6, .gen []), (7, .gen [vp q 0]), (8, .agg (ReqV.cells r))] [(3, [.cell ⟨s, 1, none⟩ (vp p 0)]), (7, [.cell ⟨s, 0, none⟩ (vp q 0)]), (8, [.prop (Array.size (ReqV.cells r) = 40), .cells ⟨b1, 0, none⟩ (ReqV.cells r)])] [(24, .agg (ReqV.cells r)), (23, vp q 0), (19, vp p 0), (5, .bool false), (4, vp b4 0)] (ak (okc (hs10.cell 2 rfl (by kernel_rfl)) ok0) (ak (okc (hs10.cell 2 rfl (by kernel_rfl)) ok0) (ak (okp (by kernel_rfl) (oka (hs10.cells 1 0 rfl (by kernel_rfl)) ok0)) ak0))) ?_
  have hs12 : St w0 ((Cel p (arrCells LastV.cells tl) 129) :: (Cel q #[.map (some g)] 127) :: (MapA Value.string Value.string g m) :: (Cel b4 #[.int .i64 0, .string (⟨#[]⟩ : ByteArray)] 51) :: (Cel b1 (ReqV.cells r) 56) :: (Cel s #[vp q 0, vp p 0, .int .u64 (cnt + 1)] 121) :: L) w9 := (((hs10.pull 5 rfl).pull 5 rfl).pull 5 rfl)
  refine Xa (f := 65) (args := #[vp p 0, vp q 0, .agg (ReqV.cells r)]) Tryz.call65 (sdo_spec tl m r (by first | assumption | omega) (by first | assumption | omega) (fun w h => hL w (h.drop 3)) (by first | assumption | omega) hs12) ?_
  rintro v14 w15 ⟨rfl, hs13⟩
  refine ⟨Xo, ?_⟩
  refine Xk [(10, .gen []), (11, .gen [])] [] [(27, .bool ((sdo tl m r).1.2)), (26, .agg (RepV.cells ((sdo tl m r).1.1))), (5, .bool false), (4, vp b4 0)] ak0 ?_
  refine GoR.store rfl rfl (by kernel_rfl) (b := b4) (off := 0) (v := .agg (RepV.cells ((sdo tl m r).1.1))) (by kernel_rfl) (by kernel_rfl) (ti := Tryz.t51) (by kernel_rfl) hs13 3 rfl (by kernel_rfl) (by kernel_rfl) (Nat.le_of_ble_eq_true (by kernel_rfl)) (cs' := RepV.cells ((sdo tl m r).1.1)) (L' := (Cel p (arrCells LastV.cells ((sdo tl m r).2.1)) 129) :: (Cel q #[.map (some g)] 127) :: (MapA Value.string Value.string g ((sdo tl m r).2.2)) :: (Cel b4 (RepV.cells ((sdo tl m r).1.1)) 51) :: (Cel b1 (ReqV.cells r) 56) :: (Cel s #[vp q 0, vp p 0, .int .u64 (cnt + 1)] 121) :: L) (by kernel_rfl) rfl ?_
  intro w16 hs17
  refine ⟨Xo, ?_⟩
  refine Xk [(13, .gen [])] [] [(5, .bool ((sdo tl m r).1.2)), (4, vp b4 0)] ak0 ?_
  refine GoR.done (GoQ.thn (GoC.ret ?_))
  refine GoQ.done (.inl rfl) (v := .tuple #[.agg (RepV.cells ((sdo tl m r).1.1)), .bool ((sdo tl m r).1.2)]) (fun a hf => resultsAV rfl (by kernel_rfl) (by kernel_rfl) (ti := Tryz.t51) (by kernel_rfl) (by kernel_rfl) (vs := (RepV.cells ((sdo tl m r).1.1))) (by kernel_rfl) (hs17.cells 3 0 rfl (by kernel_rfl)) a hf) ?_
  have hs18 : St w0 ((Cel b4 (RepV.cells ((sdo tl m r).1.1)) 51) :: (Cel b1 (ReqV.cells r) 56) :: (Cel s #[vp q 0, vp p 0, .int .u64 (cnt + 1)] 121) :: (Cel p (arrCells LastV.cells ((sdo tl m r).2.1)) 129) :: (Cel q #[.map (some g)] 127) :: (MapA Value.string Value.string g ((sdo tl m r).2.2)) :: L) w16 := ((((((hs17.pull 2 rfl).pull 2 rfl).pull 2 rfl).pull 5 rfl).pull 5 rfl).pull 5 rfl)
  have hs19 : St w0 ((Cel s #[vp q 0, vp p 0, .int .u64 (cnt + 1)] 121) :: (Cel p (arrCells LastV.cells ((sdo tl m r).2.1)) 129) :: (Cel q #[.map (some g)] 127) :: (MapA Value.string Value.string g ((sdo tl m r).2.2)) :: L) w16 := hs18.drop 2
  exact ⟨rfl, hs19⟩
def rsdo (tl : List LastV) (l : List ItemV) (r : ReqV) : (RepV × Bool) × List LastV × List ItemV :=
  if (((decide ((r.client : Int) < 1)) || (decide ((r.client : Int) > 8))) || ((r.time : Int) == 0)) = true then
    (((⟨1, (⟨#[]⟩ : ByteArray)⟩ : RepV), false), tl, l)
  else
    if (decide ((r.time : Int) < ((tl.getD (Int.toNat (r.client - 1)) dLast).time))) = true then
      (((⟨13, (⟨#[]⟩ : ByteArray)⟩ : RepV), false), tl, l)
    else
      if ((r.time : Int) == ((tl.getD (Int.toNat (r.client - 1)) dLast).time)) = true then
        (((tl.getD (Int.toNat (r.client - 1)) dLast).reply, false), tl, l)
      else
        (((rdo l r.op).1, true), tl.set (Int.toNat (r.client - 1)) (⟨r.time, ⟨((rdo l r.op).1).err, ((rdo l r.op).1).value⟩⟩ : LastV), (rdo l r.op).2)
theorem rsdo_spec {w0 w : World} {L : List Asn} {p : Nat} {q : Nat} {ad : Option Addr} {c : Nat} (tl : List LastV) (l : List ItemV) (r : ReqV) (cnt : Int) (h8 : tl.length = 8) (hl : l.length ≤ 10000000) (hsv : ∀ x ∈ l, x.value.size ≤ 281474976710656) (ha : 0 ≤ r.op.amount) (hs : St w0 ((Cel p (arrP #[vp q 0] LastV.cells tl #[.int .u64 cnt]) 111) :: (Cel q #[.slice ad l.length c] 105) :: (Sl ad c 142 2 ItemV.cells l) :: L) w) : Calls Tryz.prog 58 #[vp p 1, vp q 0, .agg (ReqV.cells r)] w (Ret fun rv w' => ∃ (ad2 : Option Addr) (c2 : Nat), rv = .tuple #[.agg (RepV.cells ((rsdo tl l r).1.1)), .bool ((rsdo tl l r).1.2)] ∧ St w0 ((Cel p (arrP #[vp q 0] LastV.cells ((rsdo tl l r).2.1) #[.int .u64 cnt]) 111) :: (Cel q #[.slice ad2 (((rsdo tl l r).2.2).length) c2] 105) :: (Sl ad2 c2 142 2 ItemV.cells ((rsdo tl l r).2.2)) :: L) w') := by
  refine enter (args := [vp p 1, vp q 0, .agg (ReqV.cells r)]) Tryz.func58 rfl Tryz.ntmps58 (Nat.le_of_ble_eq_true (by kernel_rfl)) ?_
  refine GoC.slots (S' := [(0, vp p 1), (1, vp q 0), (2, .agg (ReqV.cells r))]) rfl ?_
  refine GoC.seq ?_
  refine Xt (.ef 0 (.ef 1 (.rd 2 .done))) ?_
  refine GoR.box rfl rfl (by kernel_rfl) (v := .agg (ReqV.cells r)) (by kernel_rfl) hs (cs := ReqV.cells r) (by kernel_rfl) ?_
  intro b1 w2 hs3
  refine ⟨Xo, ?_⟩
  refine GoR.alloc rfl rfl (by kernel_rfl) (z := .agg #[.int .i64 0, .string (⟨#[]⟩ : ByteArray)]) (by kernel_rfl) hs3 (cs := #[.int .i64 0, .string (⟨#[]⟩ : ByteArray)]) (by kernel_rfl) ?_
  intro b4 w5 hs6
  refine ⟨Xo, ?_⟩
  refine Xk [(2, .gen [])] [] [(7, .bool false), (6, vp b4 0), (5, vp b1 0), (0, vp p 1), (1, vp q 0)] ak0 ?_
  refine GoR.done (GoQ.thn (GoC.seq (GoC.seq ?_)))
  refine GoC.join (T := Unit) (E := fun _ => [(22, .bool (((decide ((r.client : Int) < 1)) || (decide ((r.client : Int) > 8))) || ((r.time : Int) == 0))), (7, .bool false), (6, vp b4 0), (5, vp b1 0), (0, vp p 1), (1, vp q 0)]) (F := fun _ w => St w0 ((Cel b4 #[.int .i64 0, .string (⟨#[]⟩ : ByteArray)] 51) :: (Cel b1 (ReqV.cells r) 56) :: (Cel p (arrP #[vp q 0] LastV.cells tl #[.int .u64 cnt]) 111) :: (Cel q #[.slice ad l.length c] 105) :: (Sl ad c 142 2 ItemV.cells l) :: L) w) ?_ ?_
  · refine Xt (.rd 0 (.rd 1 (.rd 2 (.rd 3 (.rd 4 (.rd 5 (.rd 6 (.rd 7 (.rd 8 (.rd 9 (.rd 10 (.rd 11 (.rd 12 .done))))))))))))) ?_
    refine Xk [(0, .gen []), (1, .gen [.int .i64 r.client]), (2, .gen []), (3, .gen [])] [(1, [.cell ⟨b1, 0, none⟩ (.int .i64 r.client)])] [(13, .bool (decide ((r.client : Int) < 1))), (7, .bool false), (6, vp b4 0), (5, vp b1 0), (0, vp p 1), (1, vp q 0)] (ak (okc (hs6.cell 1 rfl (by kernel_rfl)) ok0) ak0) ?_
    rcases Bool.eq_false_or_eq_true (decide ((r.client : Int) < 1)) with h7 | h7
    · refine Xs 13 true h7 ?_
      have h7' : (r.client : Int) < 1 := of_decide_eq_true h7
      refine Xk [(4, .gen []), (5, .gen []), (6, .gen []), (7, .gen []), (8, .gen []), (9, .gen []), (10, .gen []), (11, .gen []), (12, .gen [])] [] [(22, .bool true), (7, .bool false), (6, vp b4 0), (5, vp b1 0), (0, vp p 1), (1, vp q 0)] ak0 ?_
      refine GoR.done ?_
      refine GoQ.pick [22, 7, 6, 5, 0, 1] (S' := [(22, .bool true), (7, .bool false), (6, vp b4 0), (5, vp b1 0), (0, vp p 1), (1, vp q 0)]) (by kernel_rfl) ?_
      exact GoQ.meet1 () (by first | rfl | (simp only [h7, Bool.not_true, Bool.not_false, Bool.true_or, Bool.false_or, Bool.true_and, Bool.false_and, Bool.or_true, Bool.or_false, Bool.and_true, Bool.and_false]; done) | (simp [h7]; done)) hs6
    · refine Xs 13 false h7 ?_
      have h7' : ¬ ((r.client : Int) < 1) := of_decide_eq_false h7
      refine Xk [(4, .gen []), (5, .gen [.int .i64 r.client]), (6, .gen []), (7, .gen []), (8, .gen [])] [(5, [.cell ⟨b1, 0, none⟩ (.int .i64 r.client)])] [(18, .bool (decide ((r.client : Int) > 8))), (7, .bool false), (6, vp b4 0), (5, vp b1 0), (0, vp p 1), (1, vp q 0)] (ak (okc (hs6.cell 1 rfl (by kernel_rfl)) ok0) ak0) ?_
      rcases Bool.eq_false_or_eq_true (decide ((r.client : Int) > 8)) with h8 | h8
      · refine Xs 18 true h8 ?_
        have h8' : (r.client : Int) > 8 := of_decide_eq_true h8
        refine Xk [(9, .gen []), (10, .gen []), (11, .gen []), (12, .gen [])] [] [(22, .bool true), (7, .bool false), (6, vp b4 0), (5, vp b1 0), (0, vp p 1), (1, vp q 0)] ak0 ?_
        refine GoR.done ?_
        refine GoQ.pick [22, 7, 6, 5, 0, 1] (S' := [(22, .bool true), (7, .bool false), (6, vp b4 0), (5, vp b1 0), (0, vp p 1), (1, vp q 0)]) (by kernel_rfl) ?_
        exact GoQ.meet1 () (by first | rfl | (simp only [h7, h8, Bool.not_true, Bool.not_false, Bool.true_or, Bool.false_or, Bool.true_and, Bool.false_and, Bool.or_true, Bool.or_false, Bool.and_true, Bool.and_false]; done) | (simp [h7, h8]; done)) hs6
      · refine Xs 18 false h8 ?_
        have h8' : ¬ ((r.client : Int) > 8) := of_decide_eq_false h8
        refine Xk [(9, .gen []), (10, .gen [.int .u64 r.time]), (11, .gen []), (12, .gen [])] [(10, [.cell ⟨b1, 1, none⟩ (.int .u64 r.time)])] [(22, .bool ((r.time : Int) == 0)), (7, .bool false), (6, vp b4 0), (5, vp b1 0), (0, vp p 1), (1, vp q 0)] (ak (okc (hs6.cell 1 rfl (by kernel_rfl)) ok0) ak0) ?_
        refine GoR.done ?_
        refine GoQ.pick [22, 7, 6, 5, 0, 1] (S' := [(22, .bool ((r.time : Int) == 0)), (7, .bool false), (6, vp b4 0), (5, vp b1 0), (0, vp p 1), (1, vp q 0)]) (by kernel_rfl) ?_
        exact GoQ.meet1 () (by first | rfl | (simp only [h7, h8, Bool.not_true, Bool.not_false, Bool.true_or, Bool.false_or, Bool.true_and, Bool.false_and, Bool.or_true, Bool.or_false, Bool.and_true, Bool.and_false]; done) | (simp [h7, h8]; done)) hs6
  intro _ w9 hs10
  refine GoQ.thn ?_
  refine Xc (t := ((decide ((r.client : Int) < 1)) || (decide ((r.client : Int) > 8))) || ((r.time : Int) == 0)) (fun h11 => ?_) (fun h11 => ?_)
  · refine GoC.seq ?_
    refine Xt (.rd 0 (.ef 1 (.rd 2 .done))) ?_
    refine Xk [(0, .gen [])] [] [(23, .agg #[.int .i64 1, .string (⟨#[]⟩ : ByteArray)]), (7, .bool false), (6, vp b4 0), (5, vp b1 0), (0, vp p 1), (1, vp q 0)] ak0 ?_
    refine GoR.store rfl rfl (by kernel_rfl) (b := b4) (off := 0) (v := .agg #[.int .i64 1, .string (⟨#[]⟩ : ByteArray)]) (by kernel_rfl) (by kernel_rfl) (ti := Tryz.t51) (by kernel_rfl) hs10 0 rfl (by kernel_rfl) (by kernel_rfl) (Nat.le_of_ble_eq_true (by kernel_rfl)) (cs' := #[.int .i64 1, .string (⟨#[]⟩ : ByteArray)]) (L' := (Cel b4 #[.int .i64 1, .string (⟨#[]⟩ : ByteArray)] 51) :: (Cel b1 (ReqV.cells r) 56) :: (Cel p (arrP #[vp q 0] LastV.cells tl #[.int .u64 cnt]) 111) :: (Cel q #[.slice ad l.length c] 105) :: (Sl ad c 142 2 ItemV.cells l) :: L) (by kernel_rfl) rfl ?_
    intro w12 hs13
    refine ⟨Xo, ?_⟩
    refine Xk [(2, .gen [])] [] [(7, .bool false), (6, vp b4 0), (5, vp b1 0), (0, vp p 1), (1, vp q 0)] ak0 ?_
    refine GoR.done (GoQ.thn (GoC.ret (GoQ.skipCR ?_)))
    refine GoQ.done (.inl rfl) (v := .tuple #[.agg #[.int .i64 1, .string (⟨#[]⟩ : ByteArray)], .bool false]) (fun a hf => resultsAV rfl (by kernel_rfl) (by kernel_rfl) (ti := Tryz.t51) (by kernel_rfl) (by kernel_rfl) (vs := #[.int .i64 1, .string (⟨#[]⟩ : ByteArray)]) (by kernel_rfl) (hs13.cells 0 0 rfl (by kernel_rfl)) a hf) ?_
    have hr : rsdo tl l r = (((⟨1, (⟨#[]⟩ : ByteArray)⟩ : RepV), false), tl, l) := by rw [rsdo, if_pos h11]
    have hs14 : St w0 ((Cel p (arrP #[vp q 0] LastV.cells tl #[.int .u64 cnt]) 111) :: (Cel q #[.slice ad l.length c] 105) :: (Sl ad c 142 2 ItemV.cells l) :: L) w12 := hs13.drop 2
    exact ⟨ad, c, (by first | rfl | (rw [hr]; done) | (rw [hr]; rfl)), (by first | exact hs14 | (rw [hr]; exact hs14))⟩
  · have h11a : ((decide ((r.client : Int) < 1)) || (decide ((r.client : Int) > 8))) = false := (Bool.or_eq_false_iff.1 h11).1
    have h11aa : (decide ((r.client : Int) < 1)) = false := (Bool.or_eq_false_iff.1 h11a).1
    have h11aa' : ¬ ((r.client : Int) < 1) := of_decide_eq_false h11aa
    have h11ab : (decide ((r.client : Int) > 8)) = false := (Bool.or_eq_false_iff.1 h11a).2
    have h11ab' : ¬ ((r.client : Int) > 8) := of_decide_eq_false h11ab
    have h11b : ((r.time : Int) == 0) = false := (Bool.or_eq_false_iff.1 h11).2
    have h11b' : ¬ ((r.time : Int) = 0) := ieqF h11b
    refine GoC.skip (GoQ.thn (GoC.seq ?_))
    refine GoC.regD [0, 0, 2, 6, 1, 31, 63, 0, 255] (.rd 0 (.rd 1 (.rd 2 (.rd 3 (.rd 4 (.rd 5 (.rd 6 (.ef 7 (.ef 8 .done))))))))) (by kernel_rfl) (by kernel_rfl) noPan_body (by kernel_rfl) hs10 ?_
    intro w15 hs16 hw17
    refine Xk [(0, .gen []), (1, .gen []), (2, .gen [.int .i64 r.client]), (3, .as_ (.int .i64 (r.client - 1)) (.gen [])), (4, .gen []), (5, .as_ (vp p (1 + ((Int.toNat (r.client - 1)) * 3))) .at_), (6, .agg (LastV.cells (tl.getD (Int.toNat (r.client - 1)) dLast)))] [(2, [.cell ⟨b1, 0, none⟩ (.int .i64 r.client)]), (3, [.prop (Value.int .i64 (IntKind.i64.wrap (r.client - 1)) = Value.int .i64 (r.client - 1))]), (5, [.prop (0 ≤ ((r.client - 1) : Int) ∧ ((r.client - 1) : Int) < (8 : Int)), .prop (Value.pointer (some (Addr.add ⟨p, 1, none⟩ (Int.toNat (r.client - 1) * 3))) = Value.pointer (some ⟨p, 1 + ((Int.toNat (r.client - 1)) * 3), none⟩))]), (6, [.prop (Array.size (LastV.cells (tl.getD (Int.toNat (r.client - 1)) dLast)) = 3), .cells ⟨p, 1 + ((Int.toNat (r.client - 1)) * 3), none⟩ (LastV.cells (tl.getD (Int.toNat (r.client - 1)) dLast))])] [(30, .agg (LastV.cells (tl.getD (Int.toNat (r.client - 1)) dLast))), (7, .bool false), (6, vp b4 0), (5, vp b1 0), (0, vp p 1), (1, vp q 0)] (ak (okc (hs16.cell 1 rfl (by kernel_rfl)) ok0) (ak (okp (i64ok (by omega) (by omega)) ok0) (ak (okp (by omega) (okp (ptrAdd _ _ _) ok0)) (ak (okp (by kernel_rfl) (oka (RowsAt.all0 (arrp_rows hs16 2 rfl (n := 1) rfl (lastF).size dLast) (by first | omega | (simp only [List.length_set]; omega) | (simp only [List.length_set, List.length_append, List.length_cons, List.length_nil]; omega)) (Nat.le_of_ble_eq_true (by kernel_rfl)) (by kernel_rfl)) ok0)) ak0)))) ?_
    refine GoR.alloc rfl rfl (by kernel_rfl) (z := .agg #[.int .u64 0, .int .i64 0, .string (⟨#[]⟩ : ByteArray)]) (by kernel_rfl) hs16 (cs := #[.int .u64 0, .int .i64 0, .string (⟨#[]⟩ : ByteArray)]) (by kernel_rfl) ?_
    intro b18 w19 hs20
    refine ⟨(opl (n := [.prop (Array.size (LastV.cells (tl.getD (Int.toNat (r.client - 1)) dLast)) = 3), .cells ⟨p, 1 + ((Int.toNat (r.client - 1)) * 3), none⟩ (LastV.cells (tl.getD (Int.toNat (r.client - 1)) dLast)), .prop (0 ≤ ((r.client - 1) : Int) ∧ ((r.client - 1) : Int) < (8 : Int)), .prop (Value.pointer (some (Addr.add ⟨p, 1, none⟩ (Int.toNat (r.client - 1) * 3))) = Value.pointer (some ⟨p, 1 + ((Int.toNat (r.client - 1)) * 3), none⟩)), .prop (Value.int .i64 (IntKind.i64.wrap (r.client - 1)) = Value.int .i64 (r.client - 1)), .cell ⟨b1, 0, none⟩ (.int .i64 r.client)]) (by kernel_rfl) (okp (by kernel_rfl) (oka (RowsAt.all0 (arrp_rows hs20 3 rfl (n := 1) rfl (lastF).size dLast) (by first | omega | (simp only [List.length_set]; omega) | (simp only [List.length_set, List.length_append, List.length_cons, List.length_nil]; omega)) (Nat.le_of_ble_eq_true (by kernel_rfl)) (by kernel_rfl)) (okp (by omega) (okp (ptrAdd _ _ _) (okp (i64ok (by omega) (by omega)) (okc (hs20.cell 2 rfl (by kernel_rfl)) ok0))))))), ?_⟩
    refine GoR.store rfl rfl (by kernel_rfl) (b := b18) (off := 0) (v := .agg (LastV.cells (tl.getD (Int.toNat (r.client - 1)) dLast))) (by kernel_rfl) (by kernel_rfl) (ti := Tryz.t107) (by kernel_rfl) hs20 0 rfl (by kernel_rfl) (by kernel_rfl) (Nat.le_of_ble_eq_true (by kernel_rfl)) (cs' := LastV.cells (tl.getD (Int.toNat (r.client - 1)) dLast)) (L' := (Cel b18 (LastV.cells (tl.getD (Int.toNat (r.client - 1)) dLast)) 107) :: (Cel b4 #[.int .i64 0, .string (⟨#[]⟩ : ByteArray)] 51) :: (Cel b1 (ReqV.cells r) 56) :: (Cel p (arrP #[vp q 0] LastV.cells tl #[.int .u64 cnt]) 111) :: (Cel q #[.slice ad l.length c] 105) :: (Sl ad c 142 2 ItemV.cells l) :: L) (by kernel_rfl) rfl ?_
    intro w21 hs22
    refine ⟨Xo, ?_⟩
    refine GoR.done (GoQ.thn (GoC.seq (GoC.seq ?_)))
    refine Xt (.rd 0 (.rd 1 (.rd 2 (.rd 3 (.rd 4 .done))))) ?_
    refine Xk [(0, .gen []), (1, .gen [.int .u64 r.time]), (2, .gen []), (3, .gen [.int .u64 ((tl.getD (Int.toNat (r.client - 1)) dLast).time)]), (4, .gen [])] [(1, [.cell ⟨b1, 1, none⟩ (.int .u64 r.time)]), (3, [.cell ⟨b18, 0, none⟩ (.int .u64 ((tl.getD (Int.toNat (r.client - 1)) dLast).time))])] [(35, .bool (decide ((r.time : Int) < ((tl.getD (Int.toNat (r.client - 1)) dLast).time)))), (8, vp b18 0), (7, .bool false), (6, vp b4 0), (5, vp b1 0), (0, vp p 1), (1, vp q 0)] (ak (okc (hs22.cell 2 rfl (by kernel_rfl)) ok0) (ak (okc (hs22.cell 0 rfl (by kernel_rfl)) ok0) ak0)) ?_
    refine GoR.done (GoQ.thn ?_)
    refine Xc (t := decide ((r.time : Int) < ((tl.getD (Int.toNat (r.client - 1)) dLast).time))) (fun h23 => ?_) (fun h23 => ?_)
    · have h23' : (r.time : Int) < ((tl.getD (Int.toNat (r.client - 1)) dLast).time) := of_decide_eq_true h23
      refine GoC.seq ?_
      refine Xt (.rd 0 (.ef 1 (.rd 2 .done))) ?_
      refine Xk [(0, .gen [])] [] [(36, .agg #[.int .i64 13, .string (⟨#[]⟩ : ByteArray)]), (8, vp b18 0), (7, .bool false), (6, vp b4 0), (5, vp b1 0), (0, vp p 1), (1, vp q 0)] ak0 ?_
      refine GoR.store rfl rfl (by kernel_rfl) (b := b4) (off := 0) (v := .agg #[.int .i64 13, .string (⟨#[]⟩ : ByteArray)]) (by kernel_rfl) (by kernel_rfl) (ti := Tryz.t51) (by kernel_rfl) hs22 1 rfl (by kernel_rfl) (by kernel_rfl) (Nat.le_of_ble_eq_true (by kernel_rfl)) (cs' := #[.int .i64 13, .string (⟨#[]⟩ : ByteArray)]) (L' := (Cel b18 (LastV.cells (tl.getD (Int.toNat (r.client - 1)) dLast)) 107) :: (Cel b4 #[.int .i64 13, .string (⟨#[]⟩ : ByteArray)] 51) :: (Cel b1 (ReqV.cells r) 56) :: (Cel p (arrP #[vp q 0] LastV.cells tl #[.int .u64 cnt]) 111) :: (Cel q #[.slice ad l.length c] 105) :: (Sl ad c 142 2 ItemV.cells l) :: L) (by kernel_rfl) rfl ?_
      intro w24 hs25
      refine ⟨Xo, ?_⟩
      refine Xk [(2, .gen [])] [] [(7, .bool false), (8, vp b18 0), (6, vp b4 0), (5, vp b1 0), (0, vp p 1), (1, vp q 0)] ak0 ?_
      refine GoR.done (GoQ.thn (GoC.ret (GoQ.skipCR ?_)))
      refine GoQ.done (.inl rfl) (v := .tuple #[.agg #[.int .i64 13, .string (⟨#[]⟩ : ByteArray)], .bool false]) (fun a hf => resultsAV rfl (by kernel_rfl) (by kernel_rfl) (ti := Tryz.t51) (by kernel_rfl) (by kernel_rfl) (vs := #[.int .i64 13, .string (⟨#[]⟩ : ByteArray)]) (by kernel_rfl) (hs25.cells 1 0 rfl (by kernel_rfl)) a hf) ?_
      have hr : rsdo tl l r = (((⟨13, (⟨#[]⟩ : ByteArray)⟩ : RepV), false), tl, l) := by rw [rsdo, if_neg (ne_true_of_eq_false h11), if_pos h23]
      have hs26 : St w0 ((Cel p (arrP #[vp q 0] LastV.cells tl #[.int .u64 cnt]) 111) :: (Cel q #[.slice ad l.length c] 105) :: (Sl ad c 142 2 ItemV.cells l) :: L) w24 := hs25.drop 3
      exact ⟨ad, c, (by first | rfl | (rw [hr]; done) | (rw [hr]; rfl)), (by first | exact hs26 | (rw [hr]; exact hs26))⟩
    · have h23' : ¬ ((r.time : Int) < ((tl.getD (Int.toNat (r.client - 1)) dLast).time)) := of_decide_eq_false h23
      refine GoC.skip (GoQ.thn (GoC.seq (GoC.seq ?_)))
      refine Xt (.rd 0 (.rd 1 (.rd 2 (.rd 3 (.rd 4 .done))))) ?_
      refine Xk [(0, .gen []), (1, .gen [.int .u64 r.time]), (2, .gen []), (3, .gen [.int .u64 ((tl.getD (Int.toNat (r.client - 1)) dLast).time)]), (4, .gen [])] [(1, [.cell ⟨b1, 1, none⟩ (.int .u64 r.time)]), (3, [.cell ⟨b18, 0, none⟩ (.int .u64 ((tl.getD (Int.toNat (r.client - 1)) dLast).time))])] [(41, .bool ((r.time : Int) == ((tl.getD (Int.toNat (r.client - 1)) dLast).time))), (8, vp b18 0), (7, .bool false), (6, vp b4 0), (5, vp b1 0), (0, vp p 1), (1, vp q 0)] (ak (okc (hs22.cell 2 rfl (by kernel_rfl)) ok0) (ak (okc (hs22.cell 0 rfl (by kernel_rfl)) ok0) ak0)) ?_
      refine GoR.done (GoQ.thn ?_)
      refine Xc (t := (r.time : Int) == ((tl.getD (Int.toNat (r.client - 1)) dLast).time)) (fun h27 => ?_) (fun h27 => ?_)
      · have h27' : (r.time : Int) = ((tl.getD (Int.toNat (r.client - 1)) dLast).time) := ieqT h27
        refine GoC.seq ?_
        refine Xt (.rd 0 (.rd 1 (.ef 2 (.rd 3 .done)))) ?_
        refine Xk [(0, .gen []), (1, .agg (RepV.cells ((tl.getD (Int.toNat (r.client - 1)) dLast).reply)))] [(1, [.prop (Array.size (RepV.cells ((tl.getD (Int.toNat (r.client - 1)) dLast).reply)) = 2), .cells ⟨b18, 1, none⟩ (RepV.cells ((tl.getD (Int.toNat (r.client - 1)) dLast).reply))])] [(43, .agg (RepV.cells ((tl.getD (Int.toNat (r.client - 1)) dLast).reply))), (7, .bool false), (6, vp b4 0), (5, vp b1 0), (0, vp p 1), (1, vp q 0)] (ak (okp (by kernel_rfl) (oka (hs22.cells 0 1 rfl (by kernel_rfl)) ok0)) ak0) ?_
        refine GoR.store rfl rfl (by kernel_rfl) (b := b4) (off := 0) (v := .agg (RepV.cells ((tl.getD (Int.toNat (r.client - 1)) dLast).reply))) (by kernel_rfl) (by kernel_rfl) (ti := Tryz.t51) (by kernel_rfl) hs22 1 rfl (by kernel_rfl) (by kernel_rfl) (Nat.le_of_ble_eq_true (by kernel_rfl)) (cs' := RepV.cells ((tl.getD (Int.toNat (r.client - 1)) dLast).reply)) (L' := (Cel b18 (LastV.cells (tl.getD (Int.toNat (r.client - 1)) dLast)) 107) :: (Cel b4 (RepV.cells ((tl.getD (Int.toNat (r.client - 1)) dLast).reply)) 51) :: (Cel b1 (ReqV.cells r) 56) :: (Cel p (arrP #[vp q 0] LastV.cells tl #[.int .u64 cnt]) 111) :: (Cel q #[.slice ad l.length c] 105) :: (Sl ad c 142 2 ItemV.cells l) :: L) (by kernel_rfl) rfl ?_
        intro w28 hs29
        refine ⟨Xo, ?_⟩
        refine Xk [(3, .gen [])] [] [(7, .bool false), (6, vp b4 0), (5, vp b1 0), (0, vp p 1), (1, vp q 0)] ak0 ?_
        refine GoR.done (GoQ.thn (GoC.ret (GoQ.skipCR ?_)))
        refine GoQ.done (.inl rfl) (v := .tuple #[.agg (RepV.cells ((tl.getD (Int.toNat (r.client - 1)) dLast).reply)), .bool false]) (fun a hf => resultsAV rfl (by kernel_rfl) (by kernel_rfl) (ti := Tryz.t51) (by kernel_rfl) (by kernel_rfl) (vs := (RepV.cells ((tl.getD (Int.toNat (r.client - 1)) dLast).reply))) (by kernel_rfl) (hs29.cells 1 0 rfl (by kernel_rfl)) a hf) ?_
        have hr : rsdo tl l r = (((tl.getD (Int.toNat (r.client - 1)) dLast).reply, false), tl, l) := by rw [rsdo, if_neg (ne_true_of_eq_false h11), if_neg (ne_true_of_eq_false h23), if_pos h27]
        have hs30 : St w0 ((Cel p (arrP #[vp q 0] LastV.cells tl #[.int .u64 cnt]) 111) :: (Cel q #[.slice ad l.length c] 105) :: (Sl ad c 142 2 ItemV.cells l) :: L) w28 := hs29.drop 3
        exact ⟨ad, c, (by first | rfl | (rw [hr]; done) | (rw [hr]; rfl)), (by first | exact hs30 | (rw [hr]; exact hs30))⟩
      · have h27' : ¬ ((r.time : Int) = ((tl.getD (Int.toNat (r.client - 1)) dLast).time)) := ieqF h27
        refine GoC.skip (GoQ.thn (GoC.seq ?_))
        refine Xt (.rd 0 (.rd 1 (.rd 2 (.ef 3 (.ef 4 (.ef 5 .done)))))) ?_
        refine Xk [(0, .gen []), (1, .gen []), (2, .agg (OpV.cells r.op))] [(2, [.prop (Array.size (OpV.cells r.op) = 6), .cells ⟨b1, 2, none⟩ (OpV.cells r.op)])] [(46, .agg (OpV.cells r.op)), (44, vp q 0), (7, .bool false), (6, vp b4 0), (5, vp b1 0), (0, vp p 1)] (ak (okp (by kernel_rfl) (oka (hs22.cells 2 2 rfl (by kernel_rfl)) ok0)) ak0) ?_
        have hs31 : St w0 ((Cel q #[.slice ad l.length c] 105) :: (Sl ad c 142 2 ItemV.cells l) :: (Cel b18 (LastV.cells (tl.getD (Int.toNat (r.client - 1)) dLast)) 107) :: (Cel b4 #[.int .i64 0, .string (⟨#[]⟩ : ByteArray)] 51) :: (Cel b1 (ReqV.cells r) 56) :: (Cel p (arrP #[vp q 0] LastV.cells tl #[.int .u64 cnt]) 111) :: L) w21 := ((hs22.pull 5 rfl).pull 5 rfl)
        refine Xa (f := 66) (args := #[vp q 0, .agg (OpV.cells r.op)]) Tryz.call66 (rdo_spec l r.op hl hsv ha hs31) ?_
        rintro v35 w36 ⟨ad32, c33, rfl, hs34⟩
        refine ⟨Xo, ?_⟩
        refine GoR.alloc rfl rfl (by kernel_rfl) (z := .agg #[.int .i64 0, .string (⟨#[]⟩ : ByteArray)]) (by kernel_rfl) hs34 (cs := #[.int .i64 0, .string (⟨#[]⟩ : ByteArray)]) (by kernel_rfl) ?_
        intro b37 w38 hs39
        refine ⟨Xo, ?_⟩
        refine GoR.store rfl rfl (by kernel_rfl) (b := b37) (off := 0) (v := .agg (RepV.cells ((rdo l r.op).1))) (by kernel_rfl) (by kernel_rfl) (ti := Tryz.t51) (by kernel_rfl) hs39 0 rfl (by kernel_rfl) (by kernel_rfl) (Nat.le_of_ble_eq_true (by kernel_rfl)) (cs' := RepV.cells ((rdo l r.op).1)) (L' := (Cel b37 (RepV.cells ((rdo l r.op).1)) 51) :: (Cel q #[.slice ad32 (((rdo l r.op).2).length) c33] 105) :: (Sl ad32 c33 142 2 ItemV.cells ((rdo l r.op).2)) :: (Cel b18 (LastV.cells (tl.getD (Int.toNat (r.client - 1)) dLast)) 107) :: (Cel b4 #[.int .i64 0, .string (⟨#[]⟩ : ByteArray)] 51) :: (Cel b1 (ReqV.cells r) 56) :: (Cel p (arrP #[vp q 0] LastV.cells tl #[.int .u64 cnt]) 111) :: L) (by kernel_rfl) rfl ?_
        intro w40 hs41
        refine ⟨Xo, ?_⟩
        refine GoR.done (GoQ.thn (GoC.seq ?_))
        refine GoC.regD [0, 0, 2, 6, 0, 16, 0, 112, 1, 511, 1023] (.rd 0 (.rd 1 (.rd 2 (.rd 3 (.rd 4 (.rd 5 (.rd 6 (.rd 7 (.rd 8 (.rd 9 (.ef 10 .done))))))))))) (by kernel_rfl) (by kernel_rfl) noPan_body (by kernel_rfl) hs41 ?_
        intro w42 hs43 hw44
        refine Xk [(0, .gen []), (1, .gen []), (2, .gen [.int .i64 r.client]), (3, .as_ (.int .i64 (r.client - 1)) (.gen [])), (4, .gen []), (5, .gen [.int .u64 r.time]), (6, .agg (RepV.cells ((rdo l r.op).1))), (7, .gen []), (8, .gen []), (9, .as_ (vp p (1 + ((Int.toNat (r.client - 1)) * 3))) .at_)] [(2, [.cell ⟨b1, 0, none⟩ (.int .i64 r.client)]), (3, [.prop (Value.int .i64 (IntKind.i64.wrap (r.client - 1)) = Value.int .i64 (r.client - 1))]), (5, [.cell ⟨b1, 1, none⟩ (.int .u64 r.time)]), (6, [.prop (Array.size (RepV.cells ((rdo l r.op).1)) = 2), .cells ⟨b37, 0, none⟩ (RepV.cells ((rdo l r.op).1))]), (9, [.prop (0 ≤ ((r.client - 1) : Int) ∧ ((r.client - 1) : Int) < (8 : Int)), .prop (Value.pointer (some (Addr.add ⟨p, 1, none⟩ (Int.toNat (r.client - 1) * 3))) = Value.pointer (some ⟨p, 1 + ((Int.toNat (r.client - 1)) * 3), none⟩))])] [(57, vp p (1 + ((Int.toNat (r.client - 1)) * 3))), (55, .agg #[.int .u64 r.time, .int .i64 (((rdo l r.op).1).err), .string (((rdo l r.op).1).value)]), (9, vp b37 0), (7, .bool false), (6, vp b4 0)] (ak (okc (hs43.cell 5 rfl (by kernel_rfl)) ok0) (ak (okp (i64ok (by omega) (by omega)) ok0) (ak (okc (hs43.cell 5 rfl (by kernel_rfl)) ok0) (ak (okp (by kernel_rfl) (oka (hs43.cells 0 0 rfl (by kernel_rfl)) ok0)) (ak (okp (by omega) (okp (ptrAdd _ _ _) ok0)) ak0))))) ?_
        refine GoR.store rfl rfl (by kernel_rfl) (b := p) (off := 1 + ((Int.toNat (r.client - 1)) * 3)) (v := .agg #[.int .u64 r.time, .int .i64 (((rdo l r.op).1).err), .string (((rdo l r.op).1).value)]) (by kernel_rfl) (by kernel_rfl) (ti := Tryz.t107) (by kernel_rfl) hs43 6 rfl (by kernel_rfl) (by kernel_rfl) (arrp_room (l := tl) (k := (Int.toNat (r.client - 1))) (lastF).size (n := 1) rfl (by omega)) (cs' := arrP #[vp q 0] LastV.cells (tl.set (Int.toNat (r.client - 1)) (⟨r.time, ⟨((rdo l r.op).1).err, ((rdo l r.op).1).value⟩⟩ : LastV)) #[.int .u64 cnt]) (L' := (Cel b37 (RepV.cells ((rdo l r.op).1)) 51) :: (Cel q #[.slice ad32 (((rdo l r.op).2).length) c33] 105) :: (Sl ad32 c33 142 2 ItemV.cells ((rdo l r.op).2)) :: (Cel b18 (LastV.cells (tl.getD (Int.toNat (r.client - 1)) dLast)) 107) :: (Cel b4 #[.int .i64 0, .string (⟨#[]⟩ : ByteArray)] 51) :: (Cel b1 (ReqV.cells r) 56) :: (Cel p (arrP #[vp q 0] LastV.cells (tl.set (Int.toNat (r.client - 1)) (⟨r.time, ⟨((rdo l r.op).1).err, ((rdo l r.op).1).value⟩⟩ : LastV)) #[.int .u64 cnt]) 111) :: L) (arrp_set (l := tl) (k := (Int.toNat (r.client - 1))) (lastF).size (n := 1) rfl (by omega) (⟨r.time, ⟨((rdo l r.op).1).err, ((rdo l r.op).1).value⟩⟩ : LastV)) rfl ?_
        intro w45 hs46
        refine ⟨Xo, ?_⟩
        refine GoR.done (GoQ.thn (GoC.seq ?_))
        refine Xt (.rd 0 (.ef 1 (.rd 2 .done))) ?_
        refine Xk [(0, .agg (RepV.cells ((rdo l r.op).1)))] [(0, [.prop (Array.size (RepV.cells ((rdo l r.op).1)) = 2), .cells ⟨b37, 0, none⟩ (RepV.cells ((rdo l r.op).1))])] [(58, .agg (RepV.cells ((rdo l r.op).1))), (7, .bool false), (6, vp b4 0)] (ak (okp (by kernel_rfl) (oka (hs46.cells 0 0 rfl (by kernel_rfl)) ok0)) ak0) ?_
        refine GoR.store rfl rfl (by kernel_rfl) (b := b4) (off := 0) (v := .agg (RepV.cells ((rdo l r.op).1))) (by kernel_rfl) (by kernel_rfl) (ti := Tryz.t51) (by kernel_rfl) hs46 4 rfl (by kernel_rfl) (by kernel_rfl) (Nat.le_of_ble_eq_true (by kernel_rfl)) (cs' := RepV.cells ((rdo l r.op).1)) (L' := (Cel b37 (RepV.cells ((rdo l r.op).1)) 51) :: (Cel q #[.slice ad32 (((rdo l r.op).2).length) c33] 105) :: (Sl ad32 c33 142 2 ItemV.cells ((rdo l r.op).2)) :: (Cel b18 (LastV.cells (tl.getD (Int.toNat (r.client - 1)) dLast)) 107) :: (Cel b4 (RepV.cells ((rdo l r.op).1)) 51) :: (Cel b1 (ReqV.cells r) 56) :: (Cel p (arrP #[vp q 0] LastV.cells (tl.set (Int.toNat (r.client - 1)) (⟨r.time, ⟨((rdo l r.op).1).err, ((rdo l r.op).1).value⟩⟩ : LastV)) #[.int .u64 cnt]) 111) :: L) (by kernel_rfl) rfl ?_
        intro w47 hs48
        refine ⟨Xo, ?_⟩
        refine Xk [(2, .gen [])] [] [(7, .bool true), (6, vp b4 0)] ak0 ?_
        refine GoR.done (GoQ.thn (GoC.ret ?_))
        refine GoQ.done (.inl rfl) (v := .tuple #[.agg (RepV.cells ((rdo l r.op).1)), .bool true]) (fun a hf => resultsAV rfl (by kernel_rfl) (by kernel_rfl) (ti := Tryz.t51) (by kernel_rfl) (by kernel_rfl) (vs := (RepV.cells ((rdo l r.op).1))) (by kernel_rfl) (hs48.cells 4 0 rfl (by kernel_rfl)) a hf) ?_
        have hr : rsdo tl l r = (((rdo l r.op).1, true), tl.set (Int.toNat (r.client - 1)) (⟨r.time, ⟨((rdo l r.op).1).err, ((rdo l r.op).1).value⟩⟩ : LastV), (rdo l r.op).2) := by rw [rsdo, if_neg (ne_true_of_eq_false h11), if_neg (ne_true_of_eq_false h23), if_neg (ne_true_of_eq_false h27)]
        have hs49 : St w0 ((Cel b37 (RepV.cells ((rdo l r.op).1)) 51) :: (Cel b18 (LastV.cells (tl.getD (Int.toNat (r.client - 1)) dLast)) 107) :: (Cel b4 (RepV.cells ((rdo l r.op).1)) 51) :: (Cel b1 (ReqV.cells r) 56) :: (Cel p (arrP #[vp q 0] LastV.cells (tl.set (Int.toNat (r.client - 1)) (⟨r.time, ⟨((rdo l r.op).1).err, ((rdo l r.op).1).value⟩⟩ : LastV)) #[.int .u64 cnt]) 111) :: (Cel q #[.slice ad32 (((rdo l r.op).2).length) c33] 105) :: (Sl ad32 c33 142 2 ItemV.cells ((rdo l r.op).2)) :: L) w47 := (((((((hs48.pull 2 rfl).pull 2 rfl).pull 6 rfl).pull 6 rfl).pull 6 rfl).pull 6 rfl).pull 6 rfl)
        have hs50 : St w0 ((Cel p (arrP #[vp q 0] LastV.cells (tl.set (Int.toNat (r.client - 1)) (⟨r.time, ⟨((rdo l r.op).1).err, ((rdo l r.op).1).value⟩⟩ : LastV)) #[.int .u64 cnt]) 111) :: (Cel q #[.slice ad32 (((rdo l r.op).2).length) c33] 105) :: (Sl ad32 c33 142 2 ItemV.cells ((rdo l r.op).2)) :: L) w47 := hs49.drop 4
        exact ⟨ad32, c33, (by first | rfl | (rw [hr]; done) | (rw [hr]; rfl)), (by first | exact hs50 | (rw [hr]; exact hs50))⟩
theorem r11New_spec {w0 w : World} {L : List Asn} (hs : St w0 (L) w) : Calls Tryz.prog 33 #[] w (Ret fun rv w' => ∃ (p : Nat) (q : Nat) (ad : Option Addr) (c : Nat), rv = vp p 0 ∧ St w0 ((Cel p (arrP #[vp q 0] LastV.cells (List.replicate 8 dLast) #[.int .u64 0]) 111) :: (Cel q #[.slice ad (([] : List ItemV).length) c] 105) :: (Sl ad c 142 2 ItemV.cells ([] : List ItemV)) :: L) w') := by
  refine enter (args := []) Tryz.func33 rfl Tryz.ntmps33 (Nat.le_of_ble_eq_true (by kernel_rfl)) ?_
  refine GoC.slots (S' := []) rfl ?_
  refine GoC.seq ?_
  refine Xt (.rd 0 .done) ?_
  refine Xk [(0, .gen [])] [] [(0, .pointer none)] ak0 ?_
  refine GoR.done (GoQ.thn (GoC.seq ?_))
  refine Xt (.rd 0 (.ef 1 (.rd 2 (.ef 3 (.rd 4 .done))))) ?_
  refine Xk [(0, .gen [])] [] [(1, .agg #[.slice none 0 0]), (0, .pointer none)] ak0 ?_
  refine GoR.box rfl rfl (by kernel_rfl) (v := .agg #[.slice none 0 0]) (by kernel_rfl) hs (cs := #[.slice none 0 0]) (by kernel_rfl) ?_
  intro b1 w2 hs3
  refine ⟨Xo, ?_⟩
  refine Xk [(2, .gen [])] [] [(3, .agg #[vp b1 0, .int .u64 0, .int .i64 0, .string (⟨#[]⟩ : ByteArray), .int .u64 0, .int .i64 0, .string (⟨#[]⟩ : ByteArray), .int .u64 0, .int .i64 0, .string (⟨#[]⟩ : ByteArray), .int .u64 0, .int .i64 0, .string (⟨#[]⟩ : ByteArray), .int .u64 0, .int .i64 0, .string (⟨#[]⟩ : ByteArray), .int .u64 0, .int .i64 0, .string (⟨#[]⟩ : ByteArray), .int .u64 0, .int .i64 0, .string (⟨#[]⟩ : ByteArray), .int .u64 0, .int .i64 0, .string (⟨#[]⟩ : ByteArray), .int .u64 0]), (0, .pointer none)] ak0 ?_
  refine GoR.box rfl rfl (by kernel_rfl) (v := .agg #[vp b1 0, .int .u64 0, .int .i64 0, .string (⟨#[]⟩ : ByteArray), .int .u64 0, .int .i64 0, .string (⟨#[]⟩ : ByteArray), .int .u64 0, .int .i64 0, .string (⟨#[]⟩ : ByteArray), .int .u64 0, .int .i64 0, .string (⟨#[]⟩ : ByteArray), .int .u64 0, .int .i64 0, .string (⟨#[]⟩ : ByteArray), .int .u64 0, .int .i64 0, .string (⟨#[]⟩ : ByteArray), .int .u64 0, .int .i64 0, .string (⟨#[]⟩ : ByteArray), .int .u64 0, .int .i64 0, .string (⟨#[]⟩ : ByteArray), .int .u64 0]) (by kernel_rfl) hs3 (cs := #[vp b1 0, .int .u64 0, .int .i64 0, .string (⟨#[]⟩ : ByteArray), .int .u64 0, .int .i64 0, .string (⟨#[]⟩ : ByteArray), .int .u64 0, .int .i64 0, .string (⟨#[]⟩ : ByteArray), .int .u64 0, .int .i64 0, .string (⟨#[]⟩ : ByteArray), .int .u64 0, .int .i64 0, .string (⟨#[]⟩ : ByteArray), .int .u64 0, .int .i64 0, .string (⟨#[]⟩ : ByteArray), .int .u64 0, .int .i64 0, .string (⟨#[]⟩ : ByteArray), .int .u64 0, .int .i64 0, .string (⟨#[]⟩ : ByteArray), .int .u64 0]) (by kernel_rfl) ?_
  intro b4 w5 hs6
  refine ⟨Xo, ?_⟩
  refine Xk [(4, .gen [])] [] [(0, vp b4 0)] ak0 ?_
  refine GoR.done (GoQ.thn (GoC.ret ?_))
  refine X1 (v := vp b4 0) ?_
  have hs7 : St w0 ((Cel b4 (arrP #[vp b1 0] LastV.cells (List.replicate 8 dLast) #[.int .u64 0]) 111) :: (Cel b1 #[.slice none 0 0] 105) :: L) w5 := Eq.mp (by kernel_rfl) hs6
  have hs8 : St w0 ((Sl none 0 142 2 ItemV.cells ([] : List ItemV)) :: (Cel b4 (arrP #[vp b1 0] LastV.cells (List.replicate 8 dLast) #[.int .u64 0]) 111) :: (Cel b1 #[.slice none 0 0] 105) :: L) w5 := St.slNil hs7 142 2 ItemV.cells
  have hs9 : St w0 ((Cel b4 (arrP #[vp b1 0] LastV.cells (List.replicate 8 dLast) #[.int .u64 0]) 111) :: (Cel b1 #[.slice none 0 0] 105) :: (Sl none 0 142 2 ItemV.cells ([] : List ItemV)) :: L) w5 := (((hs8.pull 0 rfl).pull 2 rfl).pull 2 rfl)
  exact ⟨b4, b1, none, 0, rfl, hs9⟩
theorem r11Do_spec {w0 w : World} {L : List Asn} {p : Nat} {q : Nat} {ad : Option Addr} {c : Nat} (tl : List LastV) (l : List ItemV) (r : ReqV) (cnt : Int) (h8 : tl.length = 8) (hl : l.length ≤ 10000000) (hsv : ∀ x ∈ l, x.value.size ≤ 281474976710656) (ha : 0 ≤ r.op.amount) (hc : 0 ≤ cnt ∧ cnt ≤ 1000000) (hs : St w0 ((Cel p (arrP #[vp q 0] LastV.cells tl #[.int .u64 cnt]) 111) :: (Cel q #[.slice ad l.length c] 105) :: (Sl ad c 142 2 ItemV.cells l) :: L) w) : Calls Tryz.prog 34 #[vp p 0, .agg (ReqV.cells r)] w (Ret fun rv w' => ∃ (ad2 : Option Addr) (c2 : Nat), rv = .tuple #[.agg (RepV.cells ((rsdo tl l r).1.1)), .bool ((rsdo tl l r).1.2)] ∧ St w0 ((Cel p (arrP #[vp q 0] LastV.cells ((rsdo tl l r).2.1) #[.int .u64 (cnt + 1)]) 111) :: (Cel q #[.slice ad2 (((rsdo tl l r).2.2).length) c2] 105) :: (Sl ad2 c2 142 2 ItemV.cells ((rsdo tl l r).2.2)) :: L) w') := by
  refine enter (args := [vp p 0, .agg (ReqV.cells r)]) Tryz.func34 rfl Tryz.ntmps34 (Nat.le_of_ble_eq_true (by kernel_rfl)) ?_
  refine GoC.slots (S' := [(0, vp p 0), (1, .agg (ReqV.cells r))]) rfl ?_
  refine GoC.seq ?_
  refine Xt (.ef 0 (.ef 1 (.rd 2 .done))) ?_
  refine GoR.box rfl rfl (by kernel_rfl) (v := .agg (ReqV.cells r)) (by kernel_rfl) hs (cs := ReqV.cells r) (by kernel_rfl) ?_
  intro b1 w2 hs3
  refine ⟨Xo, ?_⟩
  refine GoR.alloc rfl rfl (by kernel_rfl) (z := .agg #[.int .i64 0, .string (⟨#[]⟩ : ByteArray)]) (by kernel_rfl) hs3 (cs := #[.int .i64 0, .string (⟨#[]⟩ : ByteArray)]) (by kernel_rfl) ?_
  intro b4 w5 hs6
  refine ⟨Xo, ?_⟩
  refine Xk [(2, .gen [])] [] [(5, .bool false), (4, vp b4 0), (3, vp b1 0), (0, vp p 0)] ak0 ?_
  refine GoR.done (GoQ.thn (GoC.seq ?_))
  refine Xt (.rd 0 (.rd 1 (.rd 2 (.rd 3 (.rd 4 (.rd 5 (.rd 6 (.ef 7 .done)))))))) ?_
  refine Xk [(0, .gen []), (1, .gen []), (2, .gen []), (3, .gen [.int .u64 cnt]), (4, .as_ (.int .u64 (cnt + 1)) (.gen [])), (5, .gen []), (6, .gen [])] [(3, [.cell ⟨p, 25, none⟩ (.int .u64 cnt)]), (4, [.prop (Value.int .u64 (IntKind.u64.wrap (cnt + 1)) = Value.int .u64 (cnt + 1))])] [(12, vp p 25), (10, .int .u64 (cnt + 1)), (5, .bool false), (4, vp b4 0), (3, vp b1 0), (0, vp p 0)] (ak (okc (hs6.cell 2 rfl (arrp_suf (lastF).size (show (tl).length = 8 by first | assumption | omega | simp) (q := 0) rfl (by kernel_rfl))) ok0) (ak (okp (u64ok (by omega) (by omega)) ok0) ak0)) ?_
  refine GoR.store rfl rfl (by kernel_rfl) (b := p) (off := 25) (v := .int .u64 (cnt + 1)) (by kernel_rfl) (by kernel_rfl) (ti := Tryz.t42) (by kernel_rfl) hs6 2 rfl (by kernel_rfl) (by kernel_rfl) (arrp_sroom (lastF).size (show (tl).length = 8 by first | assumption | omega | simp) (q := 0) (k := 1) rfl (Nat.le_of_ble_eq_true (by kernel_rfl))) (cs' := arrP #[vp q 0] LastV.cells tl #[.int .u64 (cnt + 1)]) (L' := (Cel b4 #[.int .i64 0, .string (⟨#[]⟩ : ByteArray)] 51) :: (Cel b1 (ReqV.cells r) 56) :: (Cel p (arrP #[vp q 0] LastV.cells tl #[.int .u64 (cnt + 1)]) 111) :: (Cel q #[.slice ad l.length c] 105) :: (Sl ad c 142 2 ItemV.cells l) :: L) (arrp_sset (lastF).size (show (tl).length = 8 by first | assumption | omega | simp) (q := 0) rfl (by kernel_rfl)) rfl ?_
  intro w7 hs8
  refine ⟨Xo, ?_⟩
  refine GoR.done (GoQ.thn (GoC.seq ?_))
  refine GoC.regD [0, 1, 3, 0, 8, 24, 56, 0, 255, 511, 511, 2047, 4095] (.rd 0 (.rd 1 (.rd 2 (.rd 3 (.rd 4 (.rd 5 (.rd 6 (.rd 7 (.ef 8 (.rd 9 (.rd 10 (.ef 11 (.rd 12 .done))))))))))))) (by kernel_rfl) (by kernel_rfl) noPan_body (by kernel_rfl) hs8 ?_
  intro w9 hs10 hw11
  refine Xk [(0, .gen []), (1, .gen []), (2, .gen []), (3, .gen []), (4, .gen []), (5, .gen []), (6, .gen [vp q 0]), (7, .agg (ReqV.cells r))] [(6, [.cell ⟨p, 0, none⟩ (vp q 0)]), (7, [.prop (Array.size (ReqV.cells r) = 40), .cells ⟨b1, 0, none⟩ (ReqV.cells r)])] [(20, .agg (ReqV.cells r)), (19, vp q 0), (15, vp p 1), (5, .bool false), (4, vp b4 0)] (ak (okc (hs10.cell 2 rfl (arrp_pre (by kernel_rfl))) ok0) (ak (okp (by kernel_rfl) (oka (hs10.cells 1 0 rfl (by kernel_rfl)) ok0)) ak0)) ?_
  have hs12 : St w0 ((Cel p (arrP #[vp q 0] LastV.cells tl #[.int .u64 (cnt + 1)]) 111) :: (Cel q #[.slice ad l.length c] 105) :: (Sl ad c 142 2 ItemV.cells l) :: (Cel b4 #[.int .i64 0, .string (⟨#[]⟩ : ByteArray)] 51) :: (Cel b1 (ReqV.cells r) 56) :: L) w9 := (((hs10.pull 4 rfl).pull 4 rfl).pull 4 rfl)
  refine Xa (f := 58) (args := #[vp p 1, vp q 0, .agg (ReqV.cells r)]) Tryz.call58 (rsdo_spec tl l r (cnt + 1) h8 hl hsv ha hs12) ?_
  rintro v16 w17 ⟨ad13, c14, rfl, hs15⟩
  refine ⟨Xo, ?_⟩
  refine Xk [(9, .gen []), (10, .gen [])] [] [(23, .bool ((rsdo tl l r).1.2)), (22, .agg (RepV.cells ((rsdo tl l r).1.1))), (5, .bool false), (4, vp b4 0)] ak0 ?_
  refine GoR.store rfl rfl (by kernel_rfl) (b := b4) (off := 0) (v := .agg (RepV.cells ((rsdo tl l r).1.1))) (by kernel_rfl) (by kernel_rfl) (ti := Tryz.t51) (by kernel_rfl) hs15 3 rfl (by kernel_rfl) (by kernel_rfl) (Nat.le_of_ble_eq_true (by kernel_rfl)) (cs' := RepV.cells ((rsdo tl l r).1.1)) (L' := (Cel p (arrP #[vp q 0] LastV.cells ((rsdo tl l r).2.1) #[.int .u64 (cnt + 1)]) 111) :: (Cel q #[.slice ad13 (((rsdo tl l r).2.2).length) c14] 105) :: (Sl ad13 c14 142 2 ItemV.cells ((rsdo tl l r).2.2)) :: (Cel b4 (RepV.cells ((rsdo tl l r).1.1)) 51) :: (Cel b1 (ReqV.cells r) 56) :: L) (by kernel_rfl) rfl ?_
  intro w18 hs19
  refine ⟨Xo, ?_⟩
  refine Xk [(12, .gen [])] [] [(5, .bool ((rsdo tl l r).1.2)), (4, vp b4 0)] ak0 ?_
  refine GoR.done (GoQ.thn (GoC.ret ?_))
  refine GoQ.done (.inl rfl) (v := .tuple #[.agg (RepV.cells ((rsdo tl l r).1.1)), .bool ((rsdo tl l r).1.2)]) (fun a hf => resultsAV rfl (by kernel_rfl) (by kernel_rfl) (ti := Tryz.t51) (by kernel_rfl) (by kernel_rfl) (vs := (RepV.cells ((rsdo tl l r).1.1))) (by kernel_rfl) (hs19.cells 3 0 rfl (by kernel_rfl)) a hf) ?_
  have hs20 : St w0 ((Cel b4 (RepV.cells ((rsdo tl l r).1.1)) 51) :: (Cel b1 (ReqV.cells r) 56) :: (Cel p (arrP #[vp q 0] LastV.cells ((rsdo tl l r).2.1) #[.int .u64 (cnt + 1)]) 111) :: (Cel q #[.slice ad13 (((rsdo tl l r).2.2).length) c14] 105) :: (Sl ad13 c14 142 2 ItemV.cells ((rsdo tl l r).2.2)) :: L) w18 := (((((hs19.pull 2 rfl).pull 2 rfl).pull 2 rfl).pull 4 rfl).pull 4 rfl)
  have hs21 : St w0 ((Cel p (arrP #[vp q 0] LastV.cells ((rsdo tl l r).2.1) #[.int .u64 (cnt + 1)]) 111) :: (Cel q #[.slice ad13 (((rsdo tl l r).2.2).length) c14] 105) :: (Sl ad13 c14 142 2 ItemV.cells ((rsdo tl l r).2.2)) :: L) w18 := hs20.drop 2
  exact ⟨ad13, c14, rfl, hs21⟩
end Go.Proofs.YtbmmknchcdhefaaGreatDoor
