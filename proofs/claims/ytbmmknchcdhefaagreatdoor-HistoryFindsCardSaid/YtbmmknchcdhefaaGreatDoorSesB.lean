/-
  Package session: New, Do.
-/
import Derived.Test.YtbmmknchcdhefaaGreatDoorSxT
import Derived.Test.YtbmmknchcdhefaaGreatDoorProg
import Derived.Test.YtbmmknchcdhefaaGreatDoorSesA
namespace Go.Proofs.YtbmmknchcdhefaaGreatDoor
open Go.RowKit Go.Sx
set_option linter.unusedVariables false
set_option linter.unusedSimpArgs false
set_option linter.unnecessarySimpa false
set_option maxRecDepth 100000
def sdo (l : List LastV) (m : List (ByteArray × ByteArray)) (r : ReqV) : (RepV × Bool) × List LastV × List (ByteArray × ByteArray) :=
  if (!(isClient r.client)) = true then
    (((⟨1, (⟨#[]⟩ : ByteArray)⟩ : RepV), false), l, m)
  else
    if ((r.time : Int) == 0) = true then
      (((⟨1, (⟨#[]⟩ : ByteArray)⟩ : RepV), false), l, m)
    else
      if (decide ((r.time : Int) < ((l.getD (Int.toNat (r.client - 1)) dLast).time))) = true then
        (((⟨13, (⟨#[]⟩ : ByteArray)⟩ : RepV), false), l, m)
      else
        if ((r.time : Int) == ((l.getD (Int.toNat (r.client - 1)) dLast).time)) = true then
          (((l.getD (Int.toNat (r.client - 1)) dLast).reply, false), l, m)
        else
          ((((l.set (Int.toNat (r.client - 1)) (⟨r.time, ⟨((ldo m r.op).1).err, ((ldo m r.op).1).value⟩⟩ : LastV)).getD (Int.toNat (r.client - 1)) dLast).reply, true), l.set (Int.toNat (r.client - 1)) (⟨r.time, ⟨((ldo m r.op).1).err, ((ldo m r.op).1).value⟩⟩ : LastV), (ldo m r.op).2)
theorem sdo_spec {w0 w : World} {L : List Asn} {p q g : Nat} (l : List LastV) (m : List (ByteArray × ByteArray)) (r : ReqV) (hl : l.length = 8) (hm : Short m) (hL : ∀ w, St w0 L w → Laid w) (ha : 0 ≤ r.op.amount) (hs : St w0 ((Cel p (arrCells LastV.cells l) 129) :: (Cel q #[.map (some g)] 127) :: (MapA Value.string Value.string g m) :: L) w) : Calls Tryz.prog 65 #[vp p 0, vp q 0, .agg (ReqV.cells r)] w (Ret fun rv w' => rv = .tuple #[.agg (RepV.cells (sdo l m r).1.1), .bool (sdo l m r).1.2] ∧ St w0 ((Cel p (arrCells LastV.cells ((sdo l m r).2.1)) 129) :: (Cel q #[.map (some g)] 127) :: (MapA Value.string Value.string g ((sdo l m r).2.2)) :: L) w') := by
  refine enter (args := [vp p 0, vp q 0, .agg (ReqV.cells r)]) Tryz.func65 rfl Tryz.ntmps65 (Nat.le_of_ble_eq_true (by kernel_rfl)) ?_
  refine GoC.slots (S' := [(0, vp p 0), (1, vp q 0), (2, .agg (ReqV.cells r))]) rfl ?_
  refine GoC.seq ?_
  refine Xt (.ef 0 (.ef 1 (.rd 2 .done))) ?_
  refine GoR.box rfl rfl (by kernel_rfl) (v := .agg (ReqV.cells r)) (by kernel_rfl) hs (cs := ReqV.cells r) (by kernel_rfl) ?_
  intro b1 w2 hs3
  refine ⟨Xo, ?_⟩
  refine GoR.alloc rfl rfl (by kernel_rfl) (z := .agg #[.int .i64 0, .string (⟨#[]⟩ : ByteArray)]) (by kernel_rfl) hs3 (cs := #[.int .i64 0, .string (⟨#[]⟩ : ByteArray)]) (by kernel_rfl) ?_
  intro b4 w5 hs6
  refine ⟨Xo, ?_⟩
  refine Xk [(2, .gen [])] [] [(7, .bool false), (6, vp b4 0), (5, vp b1 0), (0, vp p 0), (1, vp q 0)] ak0 ?_
  refine GoR.done (GoQ.thn (GoC.seq (GoC.block (GoC.seq (GoC.seq ?_)))))
  refine Xt (.rd 0 (.rd 1 (.rd 2 .done))) ?_
  refine Xk [(0, .gen []), (1, .gen []), (2, .gen [])] [] [(9, .bool false), (7, .bool false), (6, vp b4 0), (5, vp b1 0), (0, vp p 0), (1, vp q 0)] ak0 ?_
  refine GoR.done (GoQ.thn (XF ?_))
  refine Xt (.rd 0 (.rd 1 (.rd 2 .done))) ?_
  refine Xk [(0, .gen []), (1, .gen []), (2, .gen [])] [] [(9, .bool false), (7, .bool false), (6, vp b4 0), (5, vp b1 0), (0, vp p 0), (1, vp q 0)] ak0 ?_
  refine GoR.done (GoQ.thn (XF (GoC.seq (GoC.seq ?_))))
  refine Xt (.rd 0 (.rd 1 (.ef 2 (.rd 3 (.rd 4 .done))))) ?_
  refine Xk [(0, .gen []), (1, .gen [.int .i64 r.client])] [(1, [.cell ⟨b1, 0, none⟩ (.int .i64 r.client)])] [(17, .int .i64 r.client), (7, .bool false), (6, vp b4 0), (5, vp b1 0), (0, vp p 0), (1, vp q 0)] (ak (okc (hs6.cell 1 rfl (by kernel_rfl)) ok0) ak0) ?_
  refine Xa (f := 67) (args := #[.int .i64 r.client]) Tryz.call67 (isClient_spec r.client  hs6) ?_
  rintro v8 w9 ⟨rfl, hs7⟩
  refine ⟨Xo, ?_⟩
  refine Xk [(3, .gen []), (4, .gen [])] [] [(15, .bool (!(isClient r.client))), (7, .bool false), (6, vp b4 0), (5, vp b1 0), (0, vp p 0), (1, vp q 0)] ak0 ?_
  refine GoR.done (GoQ.thn ?_)
  refine Xc (t := !(isClient r.client)) (fun h10 => ?_) (fun h10 => ?_)
  · have h10n : (isClient r.client) = false := notT h10
    refine GoC.skip (GoQ.thn ?_)
    refine Xc (t := !(isClient r.client)) (fun _ => ?_) (fun hc => absurd (h10.symm.trans hc) (by decide))
    refine GoC.seq ?_
    refine Xt (.rd 0 (.ef 1 (.rd 2 .done))) ?_
    refine Xk [(0, .gen [])] [] [(23, .agg #[.int .i64 1, .string (⟨#[]⟩ : ByteArray)]), (7, .bool false), (6, vp b4 0), (5, vp b1 0), (0, vp p 0), (1, vp q 0)] ak0 ?_
    refine GoR.store rfl rfl (by kernel_rfl) (b := b4) (off := 0) (v := .agg #[.int .i64 1, .string (⟨#[]⟩ : ByteArray)]) (by kernel_rfl) (by kernel_rfl) (ti := Tryz.t51) (by kernel_rfl) hs7 0 rfl (by kernel_rfl) (by kernel_rfl) (Nat.le_of_ble_eq_true (by kernel_rfl)) (cs' := #[.int .i64 1, .string (⟨#[]⟩ : ByteArray)]) (L' := (Cel b4 #[.int .i64 1, .string (⟨#[]⟩ : ByteArray)] 51) :: (Cel b1 (ReqV.cells r) 56) :: (Cel p (arrCells LastV.cells l) 129) :: (Cel q #[.map (some g)] 127) :: (MapA Value.string Value.string g m) :: L) (by kernel_rfl) rfl ?_
    intro w11 hs12
    refine ⟨Xo, ?_⟩
    refine Xk [(2, .gen [])] [] [(7, .bool false), (6, vp b4 0), (5, vp b1 0), (0, vp p 0), (1, vp q 0)] ak0 ?_
    refine GoR.done (GoQ.thn (GoC.ret (GoQ.blkR (GoQ.skipCR ?_))))
    refine GoQ.done (.inl rfl) (v := .tuple #[.agg #[.int .i64 1, .string (⟨#[]⟩ : ByteArray)], .bool false]) (fun a hf => resultsAV rfl (by kernel_rfl) (by kernel_rfl) (ti := Tryz.t51) (by kernel_rfl) (by kernel_rfl) (vs := #[.int .i64 1, .string (⟨#[]⟩ : ByteArray)]) (by kernel_rfl) (hs12.cells 0 0 rfl (by kernel_rfl)) a hf) ?_
    have hs13 : St w0 ((Cel p (arrCells LastV.cells l) 129) :: (Cel q #[.map (some g)] 127) :: (MapA Value.string Value.string g m) :: L) w11 := hs12.drop 2
    have hr : sdo l m r = (((⟨1, (⟨#[]⟩ : ByteArray)⟩ : RepV), false), l, m) := by rw [sdo, if_pos h10]
    exact ⟨by first | (rw [hr]; done) | (rw [hr]; rfl), by first | exact hs13 | (rw [hr]; exact hs13)⟩
  · have h10n : (isClient r.client) = true := notF h10
    have hi : 1 ≤ r.client ∧ r.client ≤ 8 := isClient_iff.1 (by simpa using h10)
    refine Xt (.rd 0 (.rd 1 (.rd 2 (.rd 3 .done)))) ?_
    refine Xk [(0, .gen []), (1, .gen [.int .u64 r.time]), (2, .gen []), (3, .gen [])] [(1, [.cell ⟨b1, 1, none⟩ (.int .u64 r.time)])] [(15, .bool ((r.time : Int) == 0)), (7, .bool false), (6, vp b4 0), (5, vp b1 0), (0, vp p 0), (1, vp q 0)] (ak (okc (hs7.cell 1 rfl (by kernel_rfl)) ok0) ak0) ?_
    refine GoR.done (GoQ.thn ?_)
    refine Xc (t := (r.time : Int) == 0) (fun h14 => ?_) (fun h14 => ?_)
    · have h14' : (r.time : Int) = 0 := ieqT h14
      refine GoC.seq ?_
      refine Xt (.rd 0 (.ef 1 (.rd 2 .done))) ?_
      refine Xk [(0, .gen [])] [] [(23, .agg #[.int .i64 1, .string (⟨#[]⟩ : ByteArray)]), (7, .bool false), (6, vp b4 0), (5, vp b1 0), (0, vp p 0), (1, vp q 0)] ak0 ?_
      refine GoR.store rfl rfl (by kernel_rfl) (b := b4) (off := 0) (v := .agg #[.int .i64 1, .string (⟨#[]⟩ : ByteArray)]) (by kernel_rfl) (by kernel_rfl) (ti := Tryz.t51) (by kernel_rfl) hs7 0 rfl (by kernel_rfl) (by kernel_rfl) (Nat.le_of_ble_eq_true (by kernel_rfl)) (cs' := #[.int .i64 1, .string (⟨#[]⟩ : ByteArray)]) (L' := (Cel b4 #[.int .i64 1, .string (⟨#[]⟩ : ByteArray)] 51) :: (Cel b1 (ReqV.cells r) 56) :: (Cel p (arrCells LastV.cells l) 129) :: (Cel q #[.map (some g)] 127) :: (MapA Value.string Value.string g m) :: L) (by kernel_rfl) rfl ?_
      intro w15 hs16
      refine ⟨Xo, ?_⟩
      refine Xk [(2, .gen [])] [] [(7, .bool false), (6, vp b4 0), (5, vp b1 0), (0, vp p 0), (1, vp q 0)] ak0 ?_
      refine GoR.done (GoQ.thn (GoC.ret (GoQ.blkR (GoQ.skipCR ?_))))
      refine GoQ.done (.inl rfl) (v := .tuple #[.agg #[.int .i64 1, .string (⟨#[]⟩ : ByteArray)], .bool false]) (fun a hf => resultsAV rfl (by kernel_rfl) (by kernel_rfl) (ti := Tryz.t51) (by kernel_rfl) (by kernel_rfl) (vs := #[.int .i64 1, .string (⟨#[]⟩ : ByteArray)]) (by kernel_rfl) (hs16.cells 0 0 rfl (by kernel_rfl)) a hf) ?_
      have hs17 : St w0 ((Cel p (arrCells LastV.cells l) 129) :: (Cel q #[.map (some g)] 127) :: (MapA Value.string Value.string g m) :: L) w15 := hs16.drop 2
      have hr : sdo l m r = (((⟨1, (⟨#[]⟩ : ByteArray)⟩ : RepV), false), l, m) := by rw [sdo, if_neg (ne_true_of_eq_false h10), if_pos h14]
      exact ⟨by first | (rw [hr]; done) | (rw [hr]; rfl), by first | exact hs17 | (rw [hr]; exact hs17)⟩
    · have h14' : ¬ ((r.time : Int) = 0) := ieqF h14
      refine GoC.skip (GoQ.blkN (GoQ.thn (GoC.seq ?_)))
      refine GoC.regD [0, 0, 2, 6, 1, 17, 63, 127] (.rd 0 (.rd 1 (.rd 2 (.rd 3 (.rd 4 (.rd 5 (.rd 6 (.rd 7 .done)))))))) (by kernel_rfl) (by kernel_rfl) noPan_body (by kernel_rfl) hs7 ?_
      intro w18 hs19 hw20
      refine Xk [(0, .gen []), (1, .gen []), (2, .gen [.int .i64 r.client]), (3, .as_ (.int .i64 (r.client - 1)) (.gen [])), (4, .gen []), (5, .gen []), (6, .as_ (vp p (0 + ((Int.toNat (r.client - 1)) * 3))) .at_), (7, .gen [])] [(2, [.cell ⟨b1, 0, none⟩ (.int .i64 r.client)]), (3, [.prop (Value.int .i64 (IntKind.i64.wrap (r.client - 1)) = Value.int .i64 (r.client - 1))]), (6, [.prop (0 ≤ ((r.client - 1) : Int) ∧ ((r.client - 1) : Int) < (8 : Int)), .prop (Value.pointer (some (Addr.add ⟨p, 0, none⟩ (Int.toNat (r.client - 1) * 3))) = Value.pointer (some ⟨p, 0 + ((Int.toNat (r.client - 1)) * 3), none⟩))])] [(8, vp p (0 + ((Int.toNat (r.client - 1)) * 3))), (7, .bool false), (6, vp b4 0), (5, vp b1 0), (1, vp q 0)] (ak (okc (hs19.cell 1 rfl (by kernel_rfl)) ok0) (ak (okp (i64ok (by omega) (by omega)) ok0) (ak (okp (by omega) (okp (ptrAdd _ _ _) ok0)) ak0))) ?_
      refine GoR.done (GoQ.thn (GoC.seq (GoC.block (GoC.seq ?_))))
      refine GoC.regD [0, 1, 0, 4, 12, 28, 63, 127] (.rd 0 (.rd 1 (.rd 2 (.rd 3 (.rd 4 (.rd 5 (.rd 6 (.rd 7 .done)))))))) (by kernel_rfl) (by kernel_rfl) noPan_body (by kernel_rfl) hs19 ?_
      intro w21 hs22 hw23
      refine Xk [(0, .gen []), (1, .gen [.int .u64 r.time]), (2, .gen []), (3, .gen []), (4, .gen []), (5, .gen [.int .u64 ((l.getD (Int.toNat (r.client - 1)) dLast).time)]), (6, .gen []), (7, .gen [])] [(1, [.cell ⟨b1, 1, none⟩ (.int .u64 r.time)]), (5, [.cell ⟨p, 0 + ((Int.toNat (r.client - 1)) * 3), none⟩ (.int .u64 ((l.getD (Int.toNat (r.client - 1)) dLast).time))])] [(31, .bool (decide ((r.time : Int) < ((l.getD (Int.toNat (r.client - 1)) dLast).time)))), (8, vp p (0 + ((Int.toNat (r.client - 1)) * 3))), (7, .bool false), (6, vp b4 0), (5, vp b1 0), (1, vp q 0)] (ak (okc (hs22.cell 1 rfl (by kernel_rfl)) ok0) (ak (okc (RowsAt.at0 (arr_rows hs22 2 rfl (lastF).size dLast) (k := (Int.toNat (r.client - 1))) (by first | omega | (simp only [List.length_set]; omega) | (simp only [List.length_set, List.length_append, List.length_cons, List.length_nil]; omega)) (j := 0) (by decide) (by kernel_rfl)) ok0) ak0)) ?_
      refine GoR.done (GoQ.thn ?_)
      refine Xc (t := decide ((r.time : Int) < ((l.getD (Int.toNat (r.client - 1)) dLast).time))) (fun h24 => ?_) (fun h24 => ?_)
      · have h24' : (r.time : Int) < ((l.getD (Int.toNat (r.client - 1)) dLast).time) := of_decide_eq_true h24
        refine GoC.seq ?_
        refine Xt (.rd 0 (.ef 1 (.rd 2 .done))) ?_
        refine Xk [(0, .gen [])] [] [(39, .agg #[.int .i64 13, .string (⟨#[]⟩ : ByteArray)]), (8, vp p (0 + ((Int.toNat (r.client - 1)) * 3))), (7, .bool false), (6, vp b4 0), (5, vp b1 0), (1, vp q 0)] ak0 ?_
        refine GoR.store rfl rfl (by kernel_rfl) (b := b4) (off := 0) (v := .agg #[.int .i64 13, .string (⟨#[]⟩ : ByteArray)]) (by kernel_rfl) (by kernel_rfl) (ti := Tryz.t51) (by kernel_rfl) hs22 0 rfl (by kernel_rfl) (by kernel_rfl) (Nat.le_of_ble_eq_true (by kernel_rfl)) (cs' := #[.int .i64 13, .string (⟨#[]⟩ : ByteArray)]) (L' := (Cel b4 #[.int .i64 13, .string (⟨#[]⟩ : ByteArray)] 51) :: (Cel b1 (ReqV.cells r) 56) :: (Cel p (arrCells LastV.cells l) 129) :: (Cel q #[.map (some g)] 127) :: (MapA Value.string Value.string g m) :: L) (by kernel_rfl) rfl ?_
        intro w25 hs26
        refine ⟨Xo, ?_⟩
        refine Xk [(2, .gen [])] [] [(7, .bool false), (8, vp p (0 + ((Int.toNat (r.client - 1)) * 3))), (6, vp b4 0), (5, vp b1 0), (1, vp q 0)] ak0 ?_
        refine GoR.done (GoQ.thn (GoC.ret (GoQ.blkR (GoQ.skipCR ?_))))
        refine GoQ.done (.inl rfl) (v := .tuple #[.agg #[.int .i64 13, .string (⟨#[]⟩ : ByteArray)], .bool false]) (fun a hf => resultsAV rfl (by kernel_rfl) (by kernel_rfl) (ti := Tryz.t51) (by kernel_rfl) (by kernel_rfl) (vs := #[.int .i64 13, .string (⟨#[]⟩ : ByteArray)]) (by kernel_rfl) (hs26.cells 0 0 rfl (by kernel_rfl)) a hf) ?_
        have hs27 : St w0 ((Cel p (arrCells LastV.cells l) 129) :: (Cel q #[.map (some g)] 127) :: (MapA Value.string Value.string g m) :: L) w25 := hs26.drop 2
        have hr : sdo l m r = (((⟨13, (⟨#[]⟩ : ByteArray)⟩ : RepV), false), l, m) := by rw [sdo, if_neg (ne_true_of_eq_false h10), if_neg (ne_true_of_eq_false h14), if_pos h24]
        exact ⟨by first | (rw [hr]; done) | (rw [hr]; rfl), by first | exact hs27 | (rw [hr]; exact hs27)⟩
      · have h24' : ¬ ((r.time : Int) < ((l.getD (Int.toNat (r.client - 1)) dLast).time)) := of_decide_eq_false h24
        refine GoC.seq ?_
        refine GoC.regD [0, 1, 0, 4, 12, 28, 63, 127] (.rd 0 (.rd 1 (.rd 2 (.rd 3 (.rd 4 (.rd 5 (.rd 6 (.rd 7 .done)))))))) (by kernel_rfl) (by kernel_rfl) noPan_body (by kernel_rfl) hs22 ?_
        intro w28 hs29 hw30
        refine Xk [(0, .gen []), (1, .gen [.int .u64 r.time]), (2, .gen []), (3, .gen []), (4, .gen []), (5, .gen [.int .u64 ((l.getD (Int.toNat (r.client - 1)) dLast).time)]), (6, .gen []), (7, .gen [])] [(1, [.cell ⟨b1, 1, none⟩ (.int .u64 r.time)]), (5, [.cell ⟨p, 0 + ((Int.toNat (r.client - 1)) * 3), none⟩ (.int .u64 ((l.getD (Int.toNat (r.client - 1)) dLast).time))])] [(40, .bool ((r.time : Int) == ((l.getD (Int.toNat (r.client - 1)) dLast).time))), (8, vp p (0 + ((Int.toNat (r.client - 1)) * 3))), (7, .bool false), (6, vp b4 0), (5, vp b1 0), (1, vp q 0)] (ak (okc (hs29.cell 1 rfl (by kernel_rfl)) ok0) (ak (okc (RowsAt.at0 (arr_rows hs29 2 rfl (lastF).size dLast) (k := (Int.toNat (r.client - 1))) (by first | omega | (simp only [List.length_set]; omega) | (simp only [List.length_set, List.length_append, List.length_cons, List.length_nil]; omega)) (j := 0) (by decide) (by kernel_rfl)) ok0) ak0)) ?_
        refine GoR.done (GoQ.thn ?_)
        refine Xc (t := (r.time : Int) == ((l.getD (Int.toNat (r.client - 1)) dLast).time)) (fun h31 => ?_) (fun h31 => ?_)
        · have h31' : (r.time : Int) = ((l.getD (Int.toNat (r.client - 1)) dLast).time) := ieqT h31
          refine GoC.seq ?_
          refine Xt (.rd 0 (.rd 1 (.rd 2 (.rd 3 (.ef 4 (.rd 5 .done)))))) ?_
          refine Xk [(0, .gen []), (1, .gen []), (2, .gen []), (3, .agg (RepV.cells ((l.getD (Int.toNat (r.client - 1)) dLast).reply)))] [(3, [.prop (Array.size (RepV.cells ((l.getD (Int.toNat (r.client - 1)) dLast).reply)) = 2), .cells ⟨p, 0 + ((Int.toNat (r.client - 1)) * 3) + 1, none⟩ (RepV.cells ((l.getD (Int.toNat (r.client - 1)) dLast).reply))])] [(51, .agg (RepV.cells ((l.getD (Int.toNat (r.client - 1)) dLast).reply))), (8, vp p (0 + ((Int.toNat (r.client - 1)) * 3))), (7, .bool false), (6, vp b4 0), (5, vp b1 0), (1, vp q 0)] (ak (okp (by kernel_rfl) (oka (RowsAt.all (arr_rows hs29 2 rfl (lastF).size dLast) (by first | omega | (simp only [List.length_set]; omega) | (simp only [List.length_set, List.length_append, List.length_cons, List.length_nil]; omega)) (Nat.le_of_ble_eq_true (by kernel_rfl)) (by kernel_rfl)) ok0)) ak0) ?_
          refine GoR.store rfl rfl (by kernel_rfl) (b := b4) (off := 0) (v := .agg (RepV.cells ((l.getD (Int.toNat (r.client - 1)) dLast).reply))) (by kernel_rfl) (by kernel_rfl) (ti := Tryz.t51) (by kernel_rfl) hs29 0 rfl (by kernel_rfl) (by kernel_rfl) (Nat.le_of_ble_eq_true (by kernel_rfl)) (cs' := RepV.cells ((l.getD (Int.toNat (r.client - 1)) dLast).reply)) (L' := (Cel b4 (RepV.cells ((l.getD (Int.toNat (r.client - 1)) dLast).reply)) 51) :: (Cel b1 (ReqV.cells r) 56) :: (Cel p (arrCells LastV.cells l) 129) :: (Cel q #[.map (some g)] 127) :: (MapA Value.string Value.string g m) :: L) (by kernel_rfl) rfl ?_
          intro w32 hs33
          refine ⟨Xo, ?_⟩
          refine Xk [(5, .gen [])] [] [(7, .bool false), (8, vp p (0 + ((Int.toNat (r.client - 1)) * 3))), (6, vp b4 0), (5, vp b1 0), (1, vp q 0)] ak0 ?_
          refine GoR.done (GoQ.thn (GoC.ret (GoQ.blkR (GoQ.skipCR ?_))))
          refine GoQ.done (.inl rfl) (v := .tuple #[.agg (RepV.cells ((l.getD (Int.toNat (r.client - 1)) dLast).reply)), .bool false]) (fun a hf => resultsAV rfl (by kernel_rfl) (by kernel_rfl) (ti := Tryz.t51) (by kernel_rfl) (by kernel_rfl) (vs := (RepV.cells ((l.getD (Int.toNat (r.client - 1)) dLast).reply))) (by kernel_rfl) (hs33.cells 0 0 rfl (by kernel_rfl)) a hf) ?_
          have hs34 : St w0 ((Cel p (arrCells LastV.cells l) 129) :: (Cel q #[.map (some g)] 127) :: (MapA Value.string Value.string g m) :: L) w32 := hs33.drop 2
          have hr : sdo l m r = (((l.getD (Int.toNat (r.client - 1)) dLast).reply, false), l, m) := by rw [sdo, if_neg (ne_true_of_eq_false h10), if_neg (ne_true_of_eq_false h14), if_neg (ne_true_of_eq_false h24), if_pos h31]
          exact ⟨by first | (rw [hr]; done) | (rw [hr]; rfl), by first | exact hs34 | (rw [hr]; exact hs34)⟩
        · have h31' : ¬ ((r.time : Int) = ((l.getD (Int.toNat (r.client - 1)) dLast).time)) := ieqF h31
          refine GoC.skip (GoQ.blkN (GoQ.thn (GoC.seq ?_)))
          refine GoC.regD [0, 0, 2, 0, 0, 16, 56, 126, 255, 511] (.rd 0 (.rd 1 (.rd 2 (.rd 3 (.rd 4 (.rd 5 (.ef 6 (.rd 7 (.rd 8 (.ef 9 .done)))))))))) (by kernel_rfl) (by kernel_rfl) noPan_body (by kernel_rfl) hs29 ?_
          intro w35 hs36 hw37
          refine Xk [(0, .gen []), (1, .gen []), (2, .gen [.int .u64 r.time]), (3, .gen []), (4, .gen []), (5, .agg (OpV.cells r.op))] [(2, [.cell ⟨b1, 1, none⟩ (.int .u64 r.time)]), (5, [.prop (Array.size (OpV.cells r.op) = 6), .cells ⟨b1, 2, none⟩ (OpV.cells r.op)])] [(57, .agg (OpV.cells r.op)), (55, vp q 0), (54, .int .u64 r.time), (52, vp p (0 + ((Int.toNat (r.client - 1)) * 3))), (8, vp p (0 + ((Int.toNat (r.client - 1)) * 3))), (7, .bool false), (6, vp b4 0)] (ak (okc (hs36.cell 1 rfl (by kernel_rfl)) ok0) (ak (okp (by kernel_rfl) (oka (hs36.cells 1 2 rfl (by kernel_rfl)) ok0)) ak0)) ?_
          have hs38 : St w0 ((Cel q #[.map (some g)] 127) :: (MapA Value.string Value.string g m) :: (Cel b4 #[.int .i64 0, .string (⟨#[]⟩ : ByteArray)] 51) :: (Cel b1 (ReqV.cells r) 56) :: (Cel p (arrCells LastV.cells l) 129) :: L) w35 := ((hs36.pull 4 rfl).pull 4 rfl)
          refine Xa (f := 68) (args := #[vp q 0, .agg (OpV.cells r.op)]) Tryz.call68 (ldo_spec m r.op hm (fun w h => hL w (h.drop 3)) ha hs38) ?_
          rintro v40 w41 ⟨rfl, hs39⟩
          refine ⟨(opl (n := [.cell ⟨b1, 1, none⟩ (.int .u64 r.time)]) (by kernel_rfl) (okc (hs39.cell 3 rfl (by kernel_rfl)) ok0)), ?_⟩
          refine Xk [(7, .gen []), (8, .gen [])] [] [(60, vp p (0 + ((Int.toNat (r.client - 1)) * 3))), (59, .agg #[.int .u64 r.time, .int .i64 (((ldo m r.op).1).err), .string (((ldo m r.op).1).value)]), (8, vp p (0 + ((Int.toNat (r.client - 1)) * 3))), (7, .bool false), (6, vp b4 0)] ak0 ?_
          refine GoR.store rfl rfl (by kernel_rfl) (b := p) (off := 0 + ((Int.toNat (r.client - 1)) * 3)) (v := .agg #[.int .u64 r.time, .int .i64 (((ldo m r.op).1).err), .string (((ldo m r.op).1).value)]) (by kernel_rfl) (by kernel_rfl) (ti := Tryz.t107) (by kernel_rfl) hs39 4 rfl (by kernel_rfl) (by kernel_rfl) (by rw [Nat.zero_add]; exact arr_room (f := LastV.cells) (size := 3) (l := l) (k := (Int.toNat (r.client - 1))) (lastF).size (by first | omega | (simp only [List.length_set]; omega) | (simp only [List.length_set, List.length_append, List.length_cons, List.length_nil]; omega))) (cs' := arrCells LastV.cells (l.set (Int.toNat (r.client - 1)) (⟨r.time, ⟨((ldo m r.op).1).err, ((ldo m r.op).1).value⟩⟩ : LastV))) (L' := (Cel q #[.map (some g)] 127) :: (MapA Value.string Value.string g ((ldo m r.op).2)) :: (Cel b4 #[.int .i64 0, .string (⟨#[]⟩ : ByteArray)] 51) :: (Cel b1 (ReqV.cells r) 56) :: (Cel p (arrCells LastV.cells (l.set (Int.toNat (r.client - 1)) (⟨r.time, ⟨((ldo m r.op).1).err, ((ldo m r.op).1).value⟩⟩ : LastV))) 129) :: L) (by rw [Nat.zero_add]; exact splice_arr (f := LastV.cells) (size := 3) (l := l) (k := (Int.toNat (r.client - 1))) (lastF).size (by first | omega | (simp only [List.length_set]; omega) | (simp only [List.length_set, List.length_append, List.length_cons, List.length_nil]; omega)) (⟨r.time, ⟨((ldo m r.op).1).err, ((ldo m r.op).1).value⟩⟩ : LastV)) rfl ?_
          intro w42 hs43
          refine ⟨Xo, ?_⟩
          refine GoR.done (GoQ.thn (GoC.seq ?_))
          refine Xt (.rd 0 (.rd 1 (.rd 2 (.rd 3 (.ef 4 (.rd 5 .done)))))) ?_
          refine Xk [(0, .gen []), (1, .gen []), (2, .gen []), (3, .agg (RepV.cells (((l.set (Int.toNat (r.client - 1)) (⟨r.time, ⟨((ldo m r.op).1).err, ((ldo m r.op).1).value⟩⟩ : LastV)).getD (Int.toNat (r.client - 1)) dLast).reply)))] [(3, [.prop (Array.size (RepV.cells (((l.set (Int.toNat (r.client - 1)) (⟨r.time, ⟨((ldo m r.op).1).err, ((ldo m r.op).1).value⟩⟩ : LastV)).getD (Int.toNat (r.client - 1)) dLast).reply)) = 2), .cells ⟨p, 0 + ((Int.toNat (r.client - 1)) * 3) + 1, none⟩ (RepV.cells (((l.set (Int.toNat (r.client - 1)) (⟨r.time, ⟨((ldo m r.op).1).err, ((ldo m r.op).1).value⟩⟩ : LastV)).getD (Int.toNat (r.client - 1)) dLast).reply))])] [(64, .agg (RepV.cells (((l.set (Int.toNat (r.client - 1)) (⟨r.time, ⟨((ldo m r.op).1).err, ((ldo m r.op).1).value⟩⟩ : LastV)).getD (Int.toNat (r.client - 1)) dLast).reply))), (7, .bool false), (6, vp b4 0)] (ak (okp (by kernel_rfl) (oka (RowsAt.all (arr_rows hs43 4 rfl (lastF).size dLast) (by first | omega | (simp only [List.length_set]; omega) | (simp only [List.length_set, List.length_append, List.length_cons, List.length_nil]; omega)) (Nat.le_of_ble_eq_true (by kernel_rfl)) (by kernel_rfl)) ok0)) ak0) ?_
          refine GoR.store rfl rfl (by kernel_rfl) (b := b4) (off := 0) (v := .agg (RepV.cells (((l.set (Int.toNat (r.client - 1)) (⟨r.time, ⟨((ldo m r.op).1).err, ((ldo m r.op).1).value⟩⟩ : LastV)).getD (Int.toNat (r.client - 1)) dLast).reply))) (by kernel_rfl) (by kernel_rfl) (ti := Tryz.t51) (by kernel_rfl) hs43 2 rfl (by kernel_rfl) (by kernel_rfl) (Nat.le_of_ble_eq_true (by kernel_rfl)) (cs' := RepV.cells (((l.set (Int.toNat (r.client - 1)) (⟨r.time, ⟨((ldo m r.op).1).err, ((ldo m r.op).1).value⟩⟩ : LastV)).getD (Int.toNat (r.client - 1)) dLast).reply)) (L' := (Cel q #[.map (some g)] 127) :: (MapA Value.string Value.string g ((ldo m r.op).2)) :: (Cel b4 (RepV.cells (((l.set (Int.toNat (r.client - 1)) (⟨r.time, ⟨((ldo m r.op).1).err, ((ldo m r.op).1).value⟩⟩ : LastV)).getD (Int.toNat (r.client - 1)) dLast).reply)) 51) :: (Cel b1 (ReqV.cells r) 56) :: (Cel p (arrCells LastV.cells (l.set (Int.toNat (r.client - 1)) (⟨r.time, ⟨((ldo m r.op).1).err, ((ldo m r.op).1).value⟩⟩ : LastV))) 129) :: L) (by kernel_rfl) rfl ?_
          intro w44 hs45
          refine ⟨Xo, ?_⟩
          refine Xk [(5, .gen [])] [] [(7, .bool true), (6, vp b4 0)] ak0 ?_
          refine GoR.done (GoQ.thn (GoC.ret ?_))
          refine GoQ.done (.inl rfl) (v := .tuple #[.agg (RepV.cells (((l.set (Int.toNat (r.client - 1)) (⟨r.time, ⟨((ldo m r.op).1).err, ((ldo m r.op).1).value⟩⟩ : LastV)).getD (Int.toNat (r.client - 1)) dLast).reply)), .bool true]) (fun a hf => resultsAV rfl (by kernel_rfl) (by kernel_rfl) (ti := Tryz.t51) (by kernel_rfl) (by kernel_rfl) (vs := (RepV.cells (((l.set (Int.toNat (r.client - 1)) (⟨r.time, ⟨((ldo m r.op).1).err, ((ldo m r.op).1).value⟩⟩ : LastV)).getD (Int.toNat (r.client - 1)) dLast).reply))) (by kernel_rfl) (hs45.cells 2 0 rfl (by kernel_rfl)) a hf) ?_
          have hs46 : St w0 ((Cel b4 (RepV.cells (((l.set (Int.toNat (r.client - 1)) (⟨r.time, ⟨((ldo m r.op).1).err, ((ldo m r.op).1).value⟩⟩ : LastV)).getD (Int.toNat (r.client - 1)) dLast).reply)) 51) :: (Cel b1 (ReqV.cells r) 56) :: (Cel p (arrCells LastV.cells (l.set (Int.toNat (r.client - 1)) (⟨r.time, ⟨((ldo m r.op).1).err, ((ldo m r.op).1).value⟩⟩ : LastV))) 129) :: (Cel q #[.map (some g)] 127) :: (MapA Value.string Value.string g ((ldo m r.op).2)) :: L) w44 := (((((hs45.pull 1 rfl).pull 1 rfl).pull 4 rfl).pull 4 rfl).pull 4 rfl)
          have hs47 : St w0 ((Cel p (arrCells LastV.cells (l.set (Int.toNat (r.client - 1)) (⟨r.time, ⟨((ldo m r.op).1).err, ((ldo m r.op).1).value⟩⟩ : LastV))) 129) :: (Cel q #[.map (some g)] 127) :: (MapA Value.string Value.string g ((ldo m r.op).2)) :: L) w44 := hs46.drop 2
          have hr : sdo l m r = ((((l.set (Int.toNat (r.client - 1)) (⟨r.time, ⟨((ldo m r.op).1).err, ((ldo m r.op).1).value⟩⟩ : LastV)).getD (Int.toNat (r.client - 1)) dLast).reply, true), l.set (Int.toNat (r.client - 1)) (⟨r.time, ⟨((ldo m r.op).1).err, ((ldo m r.op).1).value⟩⟩ : LastV), (ldo m r.op).2) := by rw [sdo, if_neg (ne_true_of_eq_false h10), if_neg (ne_true_of_eq_false h14), if_neg (ne_true_of_eq_false h24), if_neg (ne_true_of_eq_false h31)]
          exact ⟨by first | (rw [hr]; done) | (rw [hr]; rfl), by first | exact hs47 | (rw [hr]; exact hs47)⟩
end Go.Proofs.YtbmmknchcdhefaaGreatDoor
