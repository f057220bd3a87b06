/-
  Package state: New, Do, Count. Conditions: none beside each theorem's own.
-/
import Derived.Test.YtkiaagddmlddpaaGreatDoorOctW
import Derived.Test.YtkiaagddmlddpaaGreatDoorSesE
namespace Go.Proofs.YtkiaagddmlddpaaGreatDoor
open Go.RowKit Go.Sx
set_option linter.unusedVariables false
set_option linter.unusedSimpArgs false
set_option linter.unnecessarySimpa false
set_option maxRecDepth 100000
theorem stNew_spec {w0 w : World} {L : List Asn} (hs : St w0 (L) w) : Calls Tryz.prog 9 #[] w (Ret fun rv w' => ∃ (s : Nat) (p : Nat) (q : Nat) (g : Nat), rv = .pointer (some ⟨s, 0, none⟩) ∧ St w0 ((Cel s #[.pointer (some ⟨q, 0, none⟩), .pointer (some ⟨p, 0, none⟩), .int .u64 0] 69) :: (Cel p (arrCells LastV.cells (List.replicate 8 dLast)) 90) :: (Cel q #[.map (some g)] 87) :: (MapA Value.string Value.string g ([] : List (ByteArray × ByteArray))) :: L) w') := by
  refine enter (args := []) Tryz.func9 rfl Tryz.ntmps9 (Nat.le_of_ble_eq_true (by kernel_rfl)) ?_
  refine GoC.slots (S' := []) rfl ?_
  refine GoC.seq ?_
  refine GoC.regT [1] (.rd 0 .done) (by kernel_rfl) (by kernel_rfl) ?_
  refine GoR.phaseK [(0, .gen [])] [0] [] [(0, .pointer none)] (by kernel_rfl) rfl ak0 ?_
  refine GoR.done (GoQ.thn (GoC.seq ?_))
  refine GoC.regT [31, 31, 31, 31, 31] (.ef 0 (.ef 1 (.rd 2 (.ef 3 (.rd 4 .done))))) (by kernel_rfl) (by kernel_rfl) ?_
  refine GoR.call rfl rfl (by kernel_rfl) (f := 19) (args := #[]) (by kernel_rfl) Tryz.call19 (new_spec hs) ?_
  rintro v4 w5 ⟨p1, r2, rfl, hs3⟩
  refine ⟨(opn (by kernel_rfl)), ?_⟩
  refine GoR.call rfl rfl (by kernel_rfl) (f := 20) (args := #[]) (by kernel_rfl) Tryz.call20 (sesNew_spec hs3) ?_
  rintro v8 w9 ⟨p6, rfl, hs7⟩
  refine ⟨(opn (by kernel_rfl)), ?_⟩
  refine GoR.phaseK [(2, .gen [])] [3, 0] [] [(3, .agg #[.pointer (some ⟨p1, 0, none⟩), .pointer (some ⟨p6, 0, none⟩), .int .u64 0]), (0, .pointer none)] (by kernel_rfl) rfl ak0 ?_
  refine GoR.box rfl rfl (by kernel_rfl) (v := .agg #[.pointer (some ⟨p1, 0, none⟩), .pointer (some ⟨p6, 0, none⟩), .int .u64 0]) (by kernel_rfl) hs7 (cs := #[.pointer (some ⟨p1, 0, none⟩), .pointer (some ⟨p6, 0, none⟩), .int .u64 0]) (by kernel_rfl) ?_
  intro b10 w11 hs12
  refine ⟨(opn (by kernel_rfl)), ?_⟩
  refine GoR.phaseK [(4, .gen [])] [0] [] [(0, .pointer (some ⟨b10, 0, none⟩))] (by kernel_rfl) rfl ak0 ?_
  refine GoR.done (GoQ.thn (GoC.ret ?_))
  refine GoQ.done (.inl rfl) (v := .pointer (some ⟨b10, 0, none⟩)) (fun a hf => results1 rfl (by kernel_rfl) a hf) ?_
  exact ⟨b10, p6, p1, r2, rfl, hs12⟩
theorem stDo_spec {w0 w : World} {L : List Asn} {s : Nat} {p : Nat} {q : Nat} {g : Nat} (tl : List LastV) (m : List (ByteArray × ByteArray)) (r : ReqV) (cnt : Int) (hl : tl.length = 8) (hm : Short m) (hL : ∀ w, St w0 L w → Laid w) (ha : 0 ≤ r.op.amount) (hc : 0 ≤ cnt ∧ cnt ≤ 1000000) (hs : St w0 ((Cel s #[.pointer (some ⟨q, 0, none⟩), .pointer (some ⟨p, 0, none⟩), .int .u64 cnt] 69) :: (Cel p (arrCells LastV.cells tl) 90) :: (Cel q #[.map (some g)] 87) :: (MapA Value.string Value.string g m) :: L) w) : Calls Tryz.prog 12 #[.pointer (some ⟨s, 0, none⟩), .agg (ReqV.cells r)] w (Ret fun rv w' => rv = .tuple #[.agg (RepV.cells ((sdo tl m r).1.1)), .bool ((sdo tl m r).1.2)] ∧ St w0 ((Cel s #[.pointer (some ⟨q, 0, none⟩), .pointer (some ⟨p, 0, none⟩), .int .u64 (cnt + 1)] 69) :: (Cel p (arrCells LastV.cells ((sdo tl m r).2.1)) 90) :: (Cel q #[.map (some g)] 87) :: (MapA Value.string Value.string g ((sdo tl m r).2.2)) :: L) w') := by
  refine enter (args := [.pointer (some ⟨s, 0, none⟩), .agg (ReqV.cells r)]) Tryz.func12 rfl Tryz.ntmps12 (Nat.le_of_ble_eq_true (by kernel_rfl)) ?_
  refine GoC.slots (S' := [(0, .pointer (some ⟨s, 0, none⟩)), (1, .agg (ReqV.cells r))]) rfl ?_
  refine GoC.seq ?_
  refine GoC.regT [7, 7, 7] (.ef 0 (.ef 1 (.rd 2 .done))) (by kernel_rfl) (by kernel_rfl) ?_
  refine GoR.box rfl rfl (by kernel_rfl) (v := .agg (ReqV.cells r)) (by kernel_rfl) hs (cs := ReqV.cells r) (by kernel_rfl) ?_
  intro b1 w2 hs3
  refine ⟨(opn (by kernel_rfl)), ?_⟩
  refine GoR.alloc rfl rfl (by kernel_rfl) (z := .agg #[.int .i64 0, .string (⟨#[]⟩ : ByteArray)]) (by kernel_rfl) hs3 (cs := #[.int .i64 0, .string (⟨#[]⟩ : ByteArray)]) (by kernel_rfl) ?_
  intro b4 w5 hs6
  refine ⟨(opn (by kernel_rfl)), ?_⟩
  refine GoR.phaseK [(2, .gen [])] [5, 4, 3, 0] [] [(5, .bool false), (4, .pointer (some ⟨b4, 0, none⟩)), (3, .pointer (some ⟨b1, 0, none⟩)), (0, .pointer (some ⟨s, 0, none⟩))] (by kernel_rfl) rfl ak0 ?_
  refine GoR.done (GoQ.thn (GoC.seq (GoC.seq ?_)))
  refine GoC.regT [3, 3] (.rd 0 (.rd 1 .done)) (by kernel_rfl) (by kernel_rfl) ?_
  refine GoR.phaseK [(0, .gen []), (1, .gen [])] [7, 5, 4, 3, 0] [] [(7, .bool false), (5, .bool false), (4, .pointer (some ⟨b4, 0, none⟩)), (3, .pointer (some ⟨b1, 0, none⟩)), (0, .pointer (some ⟨s, 0, none⟩))] (by kernel_rfl) rfl ak0 ?_
  refine GoR.done (GoQ.thn (GoC.condF (by kernel_rfl) (GoC.skip (GoQ.thn (GoC.seq ?_)))))
  refine GoC.regT [255, 255, 255, 255, 255, 255, 255, 255] (.rd 0 (.rd 1 (.rd 2 (.rd 3 (.rd 4 (.rd 5 (.rd 6 (.ef 7 .done)))))))) (by kernel_rfl) (by kernel_rfl) ?_
  refine GoR.phaseK [(0, .gen []), (1, .gen []), (2, .gen []), (3, .gen [.int .u64 cnt]), (4, .as_ (.int .u64 (cnt + 1)) (.gen [])), (5, .gen []), (6, .gen [])] [15, 13, 5, 4, 3, 0] [(3, [.cell ⟨s, 2, none⟩ (.int .u64 cnt)]), (4, [.prop (Value.int .u64 (IntKind.u64.wrap (cnt + 1)) = Value.int .u64 (cnt + 1))])] [(15, .pointer (some ⟨s, 2, none⟩)), (13, .int .u64 (cnt + 1)), (5, .bool false), (4, .pointer (some ⟨b4, 0, none⟩)), (3, .pointer (some ⟨b1, 0, none⟩)), (0, .pointer (some ⟨s, 0, none⟩))] (by kernel_rfl) rfl (ak (okc (hs6.cell 2 rfl (by kernel_rfl)) ok0) (ak (okp (u64ok (by omega) (by omega)) ok0) ak0)) ?_
  refine GoR.store rfl rfl (by kernel_rfl) (b := s) (off := 2) (v := .int .u64 (cnt + 1)) (by kernel_rfl) (by kernel_rfl) (ti := Tryz.t37) (by kernel_rfl) hs6 2 rfl (by kernel_rfl) (by kernel_rfl) (Nat.le_of_ble_eq_true (by kernel_rfl)) (cs' := #[.pointer (some ⟨q, 0, none⟩), .pointer (some ⟨p, 0, none⟩), .int .u64 (cnt + 1)]) (L' := (Cel b4 #[.int .i64 0, .string (⟨#[]⟩ : ByteArray)] 40) :: (Cel b1 (ReqV.cells r) 46) :: (Cel s #[.pointer (some ⟨q, 0, none⟩), .pointer (some ⟨p, 0, none⟩), .int .u64 (cnt + 1)] 69) :: (Cel p (arrCells LastV.cells tl) 90) :: (Cel q #[.map (some g)] 87) :: (MapA Value.string Value.string g m) :: L) (by kernel_rfl) rfl ?_
  intro w7 hs8
  refine ⟨(opn (by kernel_rfl)), ?_⟩
  refine GoR.done (GoQ.thn (GoC.seq ?_))
  refine GoC.regD [0, 1, 3, 7, 0, 16, 48, 112, 0, 511, 1023, 1023, 4095, 8191] (.rd 0 (.rd 1 (.rd 2 (.rd 3 (.rd 4 (.rd 5 (.rd 6 (.rd 7 (.rd 8 (.ef 9 (.rd 10 (.rd 11 (.ef 12 (.rd 13 .done)))))))))))))) (by kernel_rfl) (by kernel_rfl) noPan_body (by kernel_rfl) hs8 ?_
  intro w9 hs10 hw11
  refine GoR.phaseK [(0, .gen []), (1, .gen []), (2, .gen []), (3, .gen [.pointer (some ⟨p, 0, none⟩)]), (4, .gen []), (5, .gen []), (6, .gen []), (7, .gen [.pointer (some ⟨q, 0, none⟩)]), (8, .agg (ReqV.cells r))] [24, 23, 19, 5, 4] [(3, [.cell ⟨s, 1, none⟩ (.pointer (some ⟨p, 0, none⟩))]), (7, [.cell ⟨s, 0, none⟩ (.pointer (some ⟨q, 0, none⟩))]), (8, [.prop (Array.size (ReqV.cells r) = 40), .cells ⟨b1, 0, none⟩ (ReqV.cells r)])] [(24, .agg (ReqV.cells r)), (23, .pointer (some ⟨q, 0, none⟩)), (19, .pointer (some ⟨p, 0, none⟩)), (5, .bool false), (4, .pointer (some ⟨b4, 0, none⟩))] (by kernel_rfl) rfl (ak (okc (hs10.cell 2 rfl (by kernel_rfl)) ok0) (ak (okc (hs10.cell 2 rfl (by kernel_rfl)) ok0) (ak (okp (by kernel_rfl) (oka (hs10.cells 1 0 rfl (by kernel_rfl)) ok0)) ak0))) ?_
  have hs12 : St w0 ((Cel p (arrCells LastV.cells tl) 90) :: (Cel q #[.map (some g)] 87) :: (MapA Value.string Value.string g m) :: (Cel b4 #[.int .i64 0, .string (⟨#[]⟩ : ByteArray)] 40) :: (Cel b1 (ReqV.cells r) 46) :: (Cel s #[.pointer (some ⟨q, 0, none⟩), .pointer (some ⟨p, 0, none⟩), .int .u64 (cnt + 1)] 69) :: L) w9 := (((hs10.pull 5 rfl).pull 5 rfl).pull 5 rfl)
  refine GoR.call rfl rfl (by kernel_rfl) (f := 22) (args := #[.pointer (some ⟨p, 0, none⟩), .pointer (some ⟨q, 0, none⟩), .agg (ReqV.cells r)]) (by kernel_rfl) Tryz.call22 (sdo_spec tl m r (by first | assumption | omega) (by first | assumption | omega) (fun w h => hL w (h.drop 3)) (by first | assumption | omega) hs12) ?_
  rintro v14 w15 ⟨rfl, hs13⟩
  refine ⟨(opn (by kernel_rfl)), ?_⟩
  refine GoR.phaseK [(10, .gen []), (11, .gen [])] [27, 26, 5, 4] [] [(27, .bool ((sdo tl m r).1.2)), (26, .agg (RepV.cells ((sdo tl m r).1.1))), (5, .bool false), (4, .pointer (some ⟨b4, 0, none⟩))] (by kernel_rfl) rfl ak0 ?_
  refine GoR.store rfl rfl (by kernel_rfl) (b := b4) (off := 0) (v := .agg (RepV.cells ((sdo tl m r).1.1))) (by kernel_rfl) (by kernel_rfl) (ti := Tryz.t40) (by kernel_rfl) hs13 3 rfl (by kernel_rfl) (by kernel_rfl) (Nat.le_of_ble_eq_true (by kernel_rfl)) (cs' := RepV.cells ((sdo tl m r).1.1)) (L' := (Cel p (arrCells LastV.cells ((sdo tl m r).2.1)) 90) :: (Cel q #[.map (some g)] 87) :: (MapA Value.string Value.string g ((sdo tl m r).2.2)) :: (Cel b4 (RepV.cells ((sdo tl m r).1.1)) 40) :: (Cel b1 (ReqV.cells r) 46) :: (Cel s #[.pointer (some ⟨q, 0, none⟩), .pointer (some ⟨p, 0, none⟩), .int .u64 (cnt + 1)] 69) :: L) (by kernel_rfl) rfl ?_
  intro w16 hs17
  refine ⟨(opn (by kernel_rfl)), ?_⟩
  refine GoR.phaseK [(13, .gen [])] [5, 4] [] [(5, .bool ((sdo tl m r).1.2)), (4, .pointer (some ⟨b4, 0, none⟩))] (by kernel_rfl) rfl ak0 ?_
  refine GoR.done (GoQ.thn (GoC.ret ?_))
  refine GoQ.done (.inl rfl) (v := .tuple #[.agg (RepV.cells ((sdo tl m r).1.1)), .bool ((sdo tl m r).1.2)]) (fun a hf => resultsAV rfl (by kernel_rfl) (by kernel_rfl) (ti := Tryz.t40) (by kernel_rfl) (by kernel_rfl) (vs := (RepV.cells ((sdo tl m r).1.1))) (by kernel_rfl) (hs17.cells 3 0 rfl (by kernel_rfl)) a hf) ?_
  have hs18 : St w0 ((Cel b4 (RepV.cells ((sdo tl m r).1.1)) 40) :: (Cel b1 (ReqV.cells r) 46) :: (Cel s #[.pointer (some ⟨q, 0, none⟩), .pointer (some ⟨p, 0, none⟩), .int .u64 (cnt + 1)] 69) :: (Cel p (arrCells LastV.cells ((sdo tl m r).2.1)) 90) :: (Cel q #[.map (some g)] 87) :: (MapA Value.string Value.string g ((sdo tl m r).2.2)) :: L) w16 := ((((((hs17.pull 2 rfl).pull 2 rfl).pull 2 rfl).pull 5 rfl).pull 5 rfl).pull 5 rfl)
  have hs19 : St w0 ((Cel s #[.pointer (some ⟨q, 0, none⟩), .pointer (some ⟨p, 0, none⟩), .int .u64 (cnt + 1)] 69) :: (Cel p (arrCells LastV.cells ((sdo tl m r).2.1)) 90) :: (Cel q #[.map (some g)] 87) :: (MapA Value.string Value.string g ((sdo tl m r).2.2)) :: L) w16 := hs18.drop 2
  exact ⟨rfl, hs19⟩
end Go.Proofs.YtkiaagddmlddpaaGreatDoor
