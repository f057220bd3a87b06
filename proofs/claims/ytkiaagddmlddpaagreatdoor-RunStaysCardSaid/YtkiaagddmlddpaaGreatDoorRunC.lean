/-
  Package run: New, Count, Digest. Conditions: none beside each theorem's own.
-/
import Derived.Test.YtkiaagddmlddpaaGreatDoorRunP
namespace Go.Proofs.YtkiaagddmlddpaaGreatDoor
open Go.RowKit Go.Sx
set_option linter.unusedVariables false
set_option linter.unusedSimpArgs false
set_option linter.unnecessarySimpa false
set_option maxRecDepth 100000
theorem runNew_spec {w0 w : World} {L : List Asn} (hs : St w0 (L) w) : Calls Tryz.prog 7 #[] w (Ret fun rv w' => ∃ (b : Nat) (ar : Option Addr) (cr : Nat) (s : Nat) (p : Nat) (q : Nat) (g : Nat) (ad : Option Addr) (cd : Nat) (mt : Nat), rv = .pointer (some ⟨b, 0, none⟩) ∧ St w0 ((Cel b #[.slice ar (([] : List ReqV).length) cr, .pointer (some ⟨s, 0, none⟩), .slice ad ((digsOf ([] : List ReqV)).length) cd, .map (some mt)] 60) :: (Sl ar cr 46 40 ReqV.cells ([] : List ReqV)) :: (Cel s #[.pointer (some ⟨q, 0, none⟩), .pointer (some ⟨p, 0, none⟩), .int .u64 (([] : List ReqV).length : Nat)] 69) :: (Cel p (arrCells LastV.cells ((trun ([] : List ReqV)).1)) 90) :: (Cel q #[.map (some g)] 87) :: (MapA Value.string Value.string g ((trun ([] : List ReqV)).2)) :: (Sl ad cd 34 32 D32.cells (digsOf ([] : List ReqV))) :: (MapA ekN evTd mt ([] : TDT)) :: L) w') := by
  refine enter (args := []) Tryz.func7 rfl Tryz.ntmps7 (Nat.le_of_ble_eq_true (by kernel_rfl)) ?_
  refine GoC.slots (S' := []) rfl ?_
  refine GoC.seq ?_
  refine GoC.regT [1] (.rd 0 .done) (by kernel_rfl) (by kernel_rfl) ?_
  refine GoR.phaseK [(0, .gen [])] [0] [] [(0, .pointer none)] (by kernel_rfl) rfl ak0 ?_
  refine GoR.done (GoQ.thn (GoC.seq ?_))
  refine GoC.regT [31, 31, 31, 31, 31] (.ef 0 (.ef 1 (.rd 2 (.ef 3 (.rd 4 .done))))) (by kernel_rfl) (by kernel_rfl) ?_
  refine GoR.call rfl rfl (by kernel_rfl) (f := 9) (args := #[]) (by kernel_rfl) Tryz.call9 (stNew_spec hs) ?_
  rintro v6 w7 ⟨s1, p2, q3, g4, rfl, hs5⟩
  refine ⟨(opn (by kernel_rfl)), ?_⟩
  refine GoR.makeMap (α := NameV) (β := TldV) rfl rfl (by kernel_rfl) ekN evTd hs5 ?_
  intro r8 w9 hs10
  refine ⟨(opn (by kernel_rfl)), ?_⟩
  refine GoR.phaseK [(2, .gen [])] [3, 0] [] [(3, .agg #[.slice none 0 0, .pointer (some ⟨s1, 0, none⟩), .slice none 0 0, .map (some r8)]), (0, .pointer none)] (by kernel_rfl) rfl ak0 ?_
  refine GoR.box rfl rfl (by kernel_rfl) (v := .agg #[.slice none 0 0, .pointer (some ⟨s1, 0, none⟩), .slice none 0 0, .map (some r8)]) (by kernel_rfl) hs10 (cs := #[.slice none 0 0, .pointer (some ⟨s1, 0, none⟩), .slice none 0 0, .map (some r8)]) (by kernel_rfl) ?_
  intro b11 w12 hs13
  refine ⟨(opn (by kernel_rfl)), ?_⟩
  refine GoR.phaseK [(4, .gen [])] [0] [] [(0, .pointer (some ⟨b11, 0, none⟩))] (by kernel_rfl) rfl ak0 ?_
  refine GoR.done (GoQ.thn (GoC.ret ?_))
  refine GoQ.done (.inl rfl) (v := .pointer (some ⟨b11, 0, none⟩)) (fun a hf => results1 rfl (by kernel_rfl) a hf) ?_
  have hs14 : St w0 ((Sl none 0 46 40 ReqV.cells ([] : List ReqV)) :: (Cel b11 #[.slice none 0 0, .pointer (some ⟨s1, 0, none⟩), .slice none 0 0, .map (some r8)] 60) :: (MapA ekN evTd r8 ([])) :: (Cel s1 #[.pointer (some ⟨q3, 0, none⟩), .pointer (some ⟨p2, 0, none⟩), .int .u64 0] 69) :: (Cel p2 (arrCells LastV.cells (List.replicate 8 dLast)) 90) :: (Cel q3 #[.map (some g4)] 87) :: (MapA Value.string Value.string g4 ([] : List (ByteArray × ByteArray))) :: L) w12 := St.slNil hs13 46 40 ReqV.cells
  have hs15 : St w0 ((Sl none 0 34 32 D32.cells ([] : List D32)) :: (Sl none 0 46 40 ReqV.cells ([] : List ReqV)) :: (Cel b11 #[.slice none 0 0, .pointer (some ⟨s1, 0, none⟩), .slice none 0 0, .map (some r8)] 60) :: (MapA ekN evTd r8 ([])) :: (Cel s1 #[.pointer (some ⟨q3, 0, none⟩), .pointer (some ⟨p2, 0, none⟩), .int .u64 0] 69) :: (Cel p2 (arrCells LastV.cells (List.replicate 8 dLast)) 90) :: (Cel q3 #[.map (some g4)] 87) :: (MapA Value.string Value.string g4 ([] : List (ByteArray × ByteArray))) :: L) w12 := St.slNil hs14 34 32 D32.cells
  have hs16 : St w0 ((Cel b11 #[.slice none 0 0, .pointer (some ⟨s1, 0, none⟩), .slice none 0 0, .map (some r8)] 60) :: (Sl none 0 46 40 ReqV.cells ([] : List ReqV)) :: (Cel s1 #[.pointer (some ⟨q3, 0, none⟩), .pointer (some ⟨p2, 0, none⟩), .int .u64 0] 69) :: (Cel p2 (arrCells LastV.cells (List.replicate 8 dLast)) 90) :: (Cel q3 #[.map (some g4)] 87) :: (MapA Value.string Value.string g4 ([] : List (ByteArray × ByteArray))) :: (Sl none 0 34 32 D32.cells ([] : List D32)) :: (MapA ekN evTd r8 ([])) :: L) w12 := ((((((((hs15.pull 3 rfl).pull 1 rfl).pull 7 rfl).pull 7 rfl).pull 7 rfl).pull 7 rfl).pull 6 rfl).pull 7 rfl)
  exact ⟨b11, none, 0, s1, p2, q3, g4, none, 0, r8, rfl, hs16⟩
theorem runCount_spec {w0 w : World} {L : List Asn} {b : Nat} {ar : Option Addr} {cr : Nat} {s : Nat} {ad : Option Addr} {cd : Nat} {mt : Nat} (ny : Nat) (nd : Nat) (hny : ny ≤ 1000000000) (hs : St w0 ((Cel b #[.slice ar ny cr, .pointer (some ⟨s, 0, none⟩), .slice ad nd cd, .map (some mt)] 60) :: L) w) : Calls Tryz.prog 13 #[.pointer (some ⟨b, 0, none⟩)] w (Ret fun rv w' => rv = .int .u64 (ny : Nat) ∧ St w0 ((Cel b #[.slice ar ny cr, .pointer (some ⟨s, 0, none⟩), .slice ad nd cd, .map (some mt)] 60) :: L) w') := by
  refine enter (args := [.pointer (some ⟨b, 0, none⟩)]) Tryz.func13 rfl Tryz.ntmps13 (Nat.le_of_ble_eq_true (by kernel_rfl)) ?_
  refine GoC.slots (S' := [(0, .pointer (some ⟨b, 0, none⟩))]) rfl ?_
  refine GoC.seq ?_
  refine GoC.regT [1] (.rd 0 .done) (by kernel_rfl) (by kernel_rfl) ?_
  refine GoR.phaseK [(0, .gen [])] [2, 0] [] [(2, .int .u64 0), (0, .pointer (some ⟨b, 0, none⟩))] (by kernel_rfl) rfl ak0 ?_
  refine GoR.done (GoQ.thn (GoC.seq (GoC.seq ?_)))
  refine GoC.regT [3, 3] (.rd 0 (.rd 1 .done)) (by kernel_rfl) (by kernel_rfl) ?_
  refine GoR.phaseK [(0, .gen []), (1, .gen [])] [4, 2, 0] [] [(4, .bool false), (2, .int .u64 0), (0, .pointer (some ⟨b, 0, none⟩))] (by kernel_rfl) rfl ak0 ?_
  refine GoR.done (GoQ.thn (GoC.condF (by kernel_rfl) (GoC.skip (GoQ.thn (GoC.seq ?_)))))
  refine GoC.regT [127, 127, 127, 127, 127, 127, 127] (.rd 0 (.rd 1 (.rd 2 (.rd 3 (.rd 4 (.rd 5 (.rd 6 .done))))))) (by kernel_rfl) (by kernel_rfl) ?_
  refine GoR.phaseK [(0, .gen []), (1, .gen []), (2, .gen []), (3, .gen [.slice ar ny cr]), (4, .gen []), (5, .as_ (.int .u64 (ny : Nat)) (.gen [])), (6, .gen [])] [2] [(3, [.cell ⟨b, 0, none⟩ (.slice ar ny cr)]), (5, [.prop (Value.int .u64 (IntKind.u64.wrap (ny : Nat)) = Value.int .u64 (ny : Nat))])] [(2, .int .u64 (ny : Nat))] (by kernel_rfl) rfl (ak (okc (hs.cell 0 rfl (by kernel_rfl)) ok0) (ak (okp (u64ok (by omega) (by omega)) ok0) ak0)) ?_
  refine GoR.done (GoQ.thn (GoC.ret ?_))
  refine GoQ.done (.inl rfl) (v := .int .u64 (ny : Nat)) (fun a hf => results1 rfl (by kernel_rfl) a hf) ?_
  exact ⟨rfl, hs⟩
theorem runReply_spec {w0 w : World} {L : List Asn} {b : Nat} {ar : Option Addr} {cr : Nat} {s : Nat} {ad : Option Addr} {cd : Nat} {mt : Nat} (ny : Nat) (nd : Nat) (td : TDT) (cl : Int) (tm : Int) (hs : St w0 ((Cel b #[.slice ar ny cr, .pointer (some ⟨s, 0, none⟩), .slice ad nd cd, .map (some mt)] 60) :: (MapA ekN evTd mt td) :: L) w) : Calls Tryz.prog 17 #[.pointer (some ⟨b, 0, none⟩), .int .i64 cl, .int .u64 tm] w (Ret fun rv w' => rv = .tuple #[.agg (TldV.cells ((aget td (⟨cl, tm⟩ : NameV)).getD dTld)), .bool ((aget td (⟨cl, tm⟩ : NameV)).isSome)] ∧ St w0 ((Cel b #[.slice ar ny cr, .pointer (some ⟨s, 0, none⟩), .slice ad nd cd, .map (some mt)] 60) :: (MapA ekN evTd mt td) :: L) w') := by
  refine enter (args := [.pointer (some ⟨b, 0, none⟩), .int .i64 cl, .int .u64 tm]) Tryz.func17 rfl Tryz.ntmps17 (Nat.le_of_ble_eq_true (by kernel_rfl)) ?_
  refine GoC.slots (S' := [(0, .pointer (some ⟨b, 0, none⟩)), (1, .int .i64 cl), (2, .int .u64 tm)]) rfl ?_
  refine GoC.seq ?_
  refine GoC.regT [3, 3] (.ef 0 (.rd 1 .done)) (by kernel_rfl) (by kernel_rfl) ?_
  refine GoR.alloc rfl rfl (by kernel_rfl) (z := .agg (TldV.cells dTld)) (by kernel_rfl) hs (cs := TldV.cells dTld) (by kernel_rfl) ?_
  intro b1 w2 hs3
  refine ⟨(opn (by kernel_rfl)), ?_⟩
  refine GoR.phaseK [(1, .gen [])] [7, 6, 0, 1, 2] [] [(7, .bool false), (6, .pointer (some ⟨b1, 0, none⟩)), (0, .pointer (some ⟨b, 0, none⟩)), (1, .int .i64 cl), (2, .int .u64 tm)] (by kernel_rfl) rfl ak0 ?_
  refine GoR.done (GoQ.thn (GoC.seq (GoC.seq ?_)))
  refine GoC.regT [3, 3] (.rd 0 (.rd 1 .done)) (by kernel_rfl) (by kernel_rfl) ?_
  refine GoR.phaseK [(0, .gen []), (1, .gen [])] [11, 7, 6, 0, 1, 2] [] [(11, .bool false), (7, .bool false), (6, .pointer (some ⟨b1, 0, none⟩)), (0, .pointer (some ⟨b, 0, none⟩)), (1, .int .i64 cl), (2, .int .u64 tm)] (by kernel_rfl) rfl ak0 ?_
  refine GoR.done (GoQ.thn (GoC.condF (by kernel_rfl) (GoC.skip (GoQ.thn (GoC.seq ?_)))))
  refine GoC.regT [16383, 16383, 16383, 16383, 16383, 16383, 16383, 16383, 16383, 16383, 16383, 16383, 16383, 16383] (.rd 0 (.rd 1 (.rd 2 (.rd 3 (.rd 4 (.rd 5 (.rd 6 (.rd 7 (.rd 8 (.rd 9 (.rd 10 (.ef 11 (.ef 12 (.rd 13 .done)))))))))))))) (by kernel_rfl) (by kernel_rfl) ?_
  refine GoR.phaseK [(0, .gen []), (1, .gen []), (2, .gen []), (3, .gen [.map (some mt)]), (4, .gen []), (5, .gen []), (6, .gen [])] [20, 17, 7, 6] [(3, [.cell ⟨b, 3, none⟩ (.map (some mt))])] [(20, .agg #[.int .i64 cl, .int .u64 tm]), (17, .map (some mt)), (7, .bool false), (6, .pointer (some ⟨b1, 0, none⟩))] (by kernel_rfl) rfl (ak (okc (hs3.cell 1 rfl (by kernel_rfl)) ok0) ak0) ?_
  refine GoR.lookup rfl (by kernel_rfl) nameLaw (r := mt) (k := (⟨cl, tm⟩)) (ok := true) (by kernel_rfl) hs3 2 rfl (z := evTd (dTld : TldV)) (by kernel_rfl) (v := .tuple #[.agg (TldV.cells ((aget td (⟨cl, tm⟩)).getD (dTld : TldV))), .bool ((aget td (⟨cl, tm⟩)).isSome)]) (lookOk _ _ _) ?_
  refine GoR.phaseK [(8, .gen []), (9, .gen []), (10, .gen [])] [23, 22, 7, 6] [] [(23, .bool ((aget td (⟨cl, tm⟩)).isSome)), (22, .agg (TldV.cells ((aget td (⟨cl, tm⟩)).getD (dTld : TldV)))), (7, .bool false), (6, .pointer (some ⟨b1, 0, none⟩))] (by kernel_rfl) rfl ak0 ?_
  refine GoR.alloc rfl rfl (by kernel_rfl) (z := .agg (TldV.cells dTld)) (by kernel_rfl) hs3 (cs := TldV.cells dTld) (by kernel_rfl) ?_
  intro b4 w5 hs6
  refine ⟨(opn (by kernel_rfl)), ?_⟩
  refine GoR.store rfl rfl (by kernel_rfl) (b := b4) (off := 0) (v := .agg (TldV.cells ((aget td (⟨cl, tm⟩)).getD (dTld : TldV)))) (by kernel_rfl) (by kernel_rfl) (ti := Tryz.t54) (by kernel_rfl) hs6 0 rfl (by kernel_rfl) (by kernel_rfl) (Nat.le_of_ble_eq_true (by kernel_rfl)) (cs' := TldV.cells ((aget td (⟨cl, tm⟩)).getD (dTld : TldV))) (L' := (Cel b4 (TldV.cells ((aget td (⟨cl, tm⟩)).getD (dTld : TldV))) 54) :: (Cel b1 (TldV.cells dTld) 54) :: (Cel b #[.slice ar ny cr, .pointer (some ⟨s, 0, none⟩), .slice ad nd cd, .map (some mt)] 60) :: (MapA ekN evTd mt td) :: L) (by kernel_rfl) rfl ?_
  intro w7 hs8
  refine ⟨(opn (by kernel_rfl)), ?_⟩
  refine GoR.phaseK [(13, .gen [])] [9, 8, 7, 6] [] [(9, .bool ((aget td (⟨cl, tm⟩)).isSome)), (8, .pointer (some ⟨b4, 0, none⟩)), (7, .bool false), (6, .pointer (some ⟨b1, 0, none⟩))] (by kernel_rfl) rfl ak0 ?_
  refine GoR.done (GoQ.thn (GoC.seq ?_))
  refine GoC.regT [15, 15, 15, 15] (.rd 0 (.rd 1 (.ef 2 (.rd 3 .done)))) (by kernel_rfl) (by kernel_rfl) ?_
  refine GoR.phaseK [(0, .agg (TldV.cells ((aget td (⟨cl, tm⟩)).getD (dTld : TldV)))), (1, .gen [])] [25, 24, 7, 6] [(0, [.prop (Array.size (TldV.cells ((aget td (⟨cl, tm⟩)).getD (dTld : TldV))) = 5), .cells ⟨b4, 0, none⟩ (TldV.cells ((aget td (⟨cl, tm⟩)).getD (dTld : TldV)))])] [(25, .bool ((aget td (⟨cl, tm⟩)).isSome)), (24, .agg (TldV.cells ((aget td (⟨cl, tm⟩)).getD (dTld : TldV)))), (7, .bool false), (6, .pointer (some ⟨b1, 0, none⟩))] (by kernel_rfl) rfl (ak (okp (by kernel_rfl) (oka (hs8.cells 0 0 rfl (by kernel_rfl)) ok0)) ak0) ?_
  refine GoR.store rfl rfl (by kernel_rfl) (b := b1) (off := 0) (v := .agg (TldV.cells ((aget td (⟨cl, tm⟩)).getD (dTld : TldV)))) (by kernel_rfl) (by kernel_rfl) (ti := Tryz.t54) (by kernel_rfl) hs8 1 rfl (by kernel_rfl) (by kernel_rfl) (Nat.le_of_ble_eq_true (by kernel_rfl)) (cs' := TldV.cells ((aget td (⟨cl, tm⟩)).getD (dTld : TldV))) (L' := (Cel b4 (TldV.cells ((aget td (⟨cl, tm⟩)).getD (dTld : TldV))) 54) :: (Cel b1 (TldV.cells ((aget td (⟨cl, tm⟩)).getD (dTld : TldV))) 54) :: (Cel b #[.slice ar ny cr, .pointer (some ⟨s, 0, none⟩), .slice ad nd cd, .map (some mt)] 60) :: (MapA ekN evTd mt td) :: L) (by kernel_rfl) rfl ?_
  intro w9 hs10
  refine ⟨(opn (by kernel_rfl)), ?_⟩
  refine GoR.phaseK [(3, .gen [])] [7, 6] [] [(7, .bool ((aget td (⟨cl, tm⟩)).isSome)), (6, .pointer (some ⟨b1, 0, none⟩))] (by kernel_rfl) rfl ak0 ?_
  refine GoR.done (GoQ.thn (GoC.ret ?_))
  refine GoQ.done (.inl rfl) (v := .tuple #[.agg (TldV.cells ((aget td (⟨cl, tm⟩)).getD (dTld : TldV))), .bool ((aget td (⟨cl, tm⟩)).isSome)]) (fun a hf => resultsAV rfl (by kernel_rfl) (by kernel_rfl) (ti := Tryz.t54) (by kernel_rfl) (by kernel_rfl) (vs := (TldV.cells ((aget td (⟨cl, tm⟩)).getD (dTld : TldV)))) (by kernel_rfl) (hs10.cells 1 0 rfl (by kernel_rfl)) a hf) ?_
  have hs11 : St w0 ((Cel b #[.slice ar ny cr, .pointer (some ⟨s, 0, none⟩), .slice ad nd cd, .map (some mt)] 60) :: (MapA ekN evTd mt td) :: L) w9 := hs10.drop 2
  exact ⟨rfl, hs11⟩
theorem runDigest_spec {w0 w : World} {L : List Asn} {b : Nat} {ar : Option Addr} {cr : Nat} {s : Nat} {ad : Option Addr} {cd : Nat} {mt : Nat} (i : Nat) (ny : Nat) (dg : List D32) (hny : ny ≤ 1000000000) (hi : i ≤ 1000000000) (hdg : dg.length = ny / 4) (hs : St w0 ((Cel b #[.slice ar ny cr, .pointer (some ⟨s, 0, none⟩), .slice ad dg.length cd, .map (some mt)] 60) :: (Sl ad cd 34 32 D32.cells dg) :: L) w) : Calls Tryz.prog 10 #[.pointer (some ⟨b, 0, none⟩), .int .u64 (i : Nat)] w (Ret fun rv w' => (rv = .tuple #[.agg (D32.cells (dg.getD (i / 4 - 1) dD32)), .bool true] ∧ (i ≠ 0 ∧ i % 4 = 0 ∧ i ≤ ny) ∧ St w0 ((Cel b #[.slice ar ny cr, .pointer (some ⟨s, 0, none⟩), .slice ad dg.length cd, .map (some mt)] 60) :: (Sl ad cd 34 32 D32.cells dg) :: L) w') ∨ (rv = .tuple #[.agg (D32.cells dD32), .bool false] ∧ ¬ (i ≠ 0 ∧ i % 4 = 0 ∧ i ≤ ny) ∧ St w0 ((Cel b #[.slice ar ny cr, .pointer (some ⟨s, 0, none⟩), .slice ad dg.length cd, .map (some mt)] 60) :: (Sl ad cd 34 32 D32.cells dg) :: L) w')) := by
  refine enter (args := [.pointer (some ⟨b, 0, none⟩), .int .u64 (i : Nat)]) Tryz.func10 rfl Tryz.ntmps10 (Nat.le_of_ble_eq_true (by kernel_rfl)) ?_
  refine GoC.slots (S' := [(0, .pointer (some ⟨b, 0, none⟩)), (1, .int .u64 (i : Nat))]) rfl ?_
  refine GoC.seq ?_
  refine GoC.regT [3, 3] (.ef 0 (.rd 1 .done)) (by kernel_rfl) (by kernel_rfl) ?_
  refine GoR.alloc rfl rfl (by kernel_rfl) (z := .agg (D32.cells dD32)) (by kernel_rfl) hs (cs := D32.cells dD32) (by kernel_rfl) ?_
  intro b1 w2 hs3
  refine ⟨(opn (by kernel_rfl)), ?_⟩
  refine GoR.phaseK [(1, .gen [])] [5, 4, 0, 1] [] [(5, .bool false), (4, .pointer (some ⟨b1, 0, none⟩)), (0, .pointer (some ⟨b, 0, none⟩)), (1, .int .u64 (i : Nat))] (by kernel_rfl) rfl ak0 ?_
  refine GoR.done (GoQ.thn (GoC.seq (GoC.seq ?_)))
  refine GoC.regT [131071, 131071, 131071, 131071, 131071, 131071, 131071, 131071, 131071, 131071, 131071, 131071, 131071, 131071, 131071, 131071, 131071] (.rd 0 (.rd 1 (.rd 2 (.rd 3 (.rd 4 (.rd 5 (.rd 6 (.rd 7 (.rd 8 (.rd 9 (.rd 10 (.rd 11 (.rd 12 (.rd 13 (.ef 14 (.rd 15 (.rd 16 .done))))))))))))))))) (by kernel_rfl) (by kernel_rfl) ?_
  refine GoR.phaseK [(0, .gen []), (1, .gen []), (2, .gen []), (3, .gen []), (4, .gen []), (5, .gen []), (6, .gen [])] [12, 5, 4, 0, 1] [] [(12, .bool (((i : Nat) : Int) == 0)), (5, .bool false), (4, .pointer (some ⟨b1, 0, none⟩)), (0, .pointer (some ⟨b, 0, none⟩)), (1, .int .u64 (i : Nat))] (by kernel_rfl) rfl ak0 ?_
  rcases Bool.eq_false_or_eq_true (((i : Nat) : Int) == 0) with h4 | h4
  · refine GoR.setB 12 true (by decide) (by kernel_rfl) h4 ?_
    have h4' : ((i : Nat) : Int) = 0 := ieqT h4
    refine GoR.phaseK [(7, .gen []), (8, .gen []), (9, .gen []), (10, .gen []), (11, .gen []), (12, .gen []), (13, .gen [])] [19, 18, 17, 5, 4, 0, 1] [] [(19, undef), (18, undef), (17, .bool true), (5, .bool false), (4, .pointer (some ⟨b1, 0, none⟩)), (0, .pointer (some ⟨b, 0, none⟩)), (1, .int .u64 (i : Nat))] (by kernel_rfl) rfl ak0 ?_
    refine GoR.skip rfl (by kernel_rfl) (opn (by kernel_rfl)) ?_
    refine GoR.phaseK [(15, .gen []), (16, .gen [])] [22, 5, 4, 0, 1] [] [(22, .bool true), (5, .bool false), (4, .pointer (some ⟨b1, 0, none⟩)), (0, .pointer (some ⟨b, 0, none⟩)), (1, .int .u64 (i : Nat))] (by kernel_rfl) rfl ak0 ?_
    refine GoR.done (GoQ.thn (GoC.condT (by kernel_rfl) (GoC.seq ?_)))
    refine GoC.regT [7, 7, 7] (.rd 0 (.ef 1 (.rd 2 .done))) (by kernel_rfl) (by kernel_rfl) ?_
    refine GoR.phaseK [(0, .agg (D32.cells dD32))] [23, 5, 4, 0, 1] [(0, [.prop (Array.size (D32.cells dD32) = 32), .cells ⟨b1, 0, none⟩ (D32.cells dD32)])] [(23, .agg (D32.cells dD32)), (5, .bool false), (4, .pointer (some ⟨b1, 0, none⟩)), (0, .pointer (some ⟨b, 0, none⟩)), (1, .int .u64 (i : Nat))] (by kernel_rfl) rfl (ak (okp (by kernel_rfl) (oka (hs3.cells 0 0 rfl (by kernel_rfl)) ok0)) ak0) ?_
    refine GoR.store rfl rfl (by kernel_rfl) (b := b1) (off := 0) (v := .agg (D32.cells dD32)) (by kernel_rfl) (by kernel_rfl) (ti := Tryz.t34) (by kernel_rfl) hs3 0 rfl (by kernel_rfl) (by kernel_rfl) (Nat.le_of_ble_eq_true (by kernel_rfl)) (cs' := D32.cells dD32) (L' := (Cel b1 (D32.cells dD32) 34) :: (Cel b #[.slice ar ny cr, .pointer (some ⟨s, 0, none⟩), .slice ad dg.length cd, .map (some mt)] 60) :: (Sl ad cd 34 32 D32.cells dg) :: L) (by kernel_rfl) rfl ?_
    intro w5 hs6
    refine ⟨(opn (by kernel_rfl)), ?_⟩
    refine GoR.phaseK [(2, .gen [])] [5, 4, 0, 1] [] [(5, .bool false), (4, .pointer (some ⟨b1, 0, none⟩)), (0, .pointer (some ⟨b, 0, none⟩)), (1, .int .u64 (i : Nat))] (by kernel_rfl) rfl ak0 ?_
    refine GoR.done (GoQ.thn (GoC.ret (GoQ.skipCR ?_)))
    refine GoQ.done (.inl rfl) (v := .tuple #[.agg (D32.cells dD32), .bool false]) (fun a hf => resultsAV rfl (by kernel_rfl) (by kernel_rfl) (ti := Tryz.t34) (by kernel_rfl) (by kernel_rfl) (vs := (D32.cells dD32)) (by kernel_rfl) (hs6.cells 0 0 rfl (by kernel_rfl)) a hf) ?_
    have hs7 : St w0 ((Cel b #[.slice ar ny cr, .pointer (some ⟨s, 0, none⟩), .slice ad dg.length cd, .map (some mt)] 60) :: (Sl ad cd 34 32 D32.cells dg) :: L) w5 := hs6.drop 1
    exact .inr (⟨rfl, (by omega), hs7⟩)
  · refine GoR.setB 12 false (by decide) (by kernel_rfl) h4 ?_
    have h4' : ¬ (((i : Nat) : Int) = 0) := ieqF h4
    refine GoR.phaseK [(7, .gen []), (8, .div ((i : Nat) % 4)), (9, .gen []), (10, .gen []), (11, .gen [])] [17, 5, 4, 0, 1] [(8, [.prop (IntKind.u64 = IntKind.u64 ∧ (4 : Int) ≠ 0 ∧ Int.tmod (i : Nat) 4 = (i : Nat) % 4)])] [(17, .bool ((((i : Nat) % 4) : Int) != 0)), (5, .bool false), (4, .pointer (some ⟨b1, 0, none⟩)), (0, .pointer (some ⟨b, 0, none⟩)), (1, .int .u64 (i : Nat))] (by kernel_rfl) rfl (ak (okp ⟨rfl, by decide, Int.tmod_eq_emod_of_nonneg (by first | omega | exact Int.natCast_nonneg _)⟩ ok0) ak0) ?_
    rcases Bool.eq_false_or_eq_true ((((i : Nat) % 4) : Int) != 0) with h8 | h8
    · refine GoR.setB 17 true (by decide) (by kernel_rfl) h8 ?_
      have h8' : ¬ (((i : Nat) % 4 : Int) = 0) := ineT h8
      refine GoR.phaseK [(12, .gen []), (13, .gen [])] [19, 18, 17, 5, 4, 0, 1] [] [(19, undef), (18, undef), (17, .bool true), (5, .bool false), (4, .pointer (some ⟨b1, 0, none⟩)), (0, .pointer (some ⟨b, 0, none⟩)), (1, .int .u64 (i : Nat))] (by kernel_rfl) rfl ak0 ?_
      refine GoR.skip rfl (by kernel_rfl) (opn (by kernel_rfl)) ?_
      refine GoR.phaseK [(15, .gen []), (16, .gen [])] [22, 5, 4, 0, 1] [] [(22, .bool true), (5, .bool false), (4, .pointer (some ⟨b1, 0, none⟩)), (0, .pointer (some ⟨b, 0, none⟩)), (1, .int .u64 (i : Nat))] (by kernel_rfl) rfl ak0 ?_
      refine GoR.done (GoQ.thn (GoC.condT (by kernel_rfl) (GoC.seq ?_)))
      refine GoC.regT [7, 7, 7] (.rd 0 (.ef 1 (.rd 2 .done))) (by kernel_rfl) (by kernel_rfl) ?_
      refine GoR.phaseK [(0, .agg (D32.cells dD32))] [23, 5, 4, 0, 1] [(0, [.prop (Array.size (D32.cells dD32) = 32), .cells ⟨b1, 0, none⟩ (D32.cells dD32)])] [(23, .agg (D32.cells dD32)), (5, .bool false), (4, .pointer (some ⟨b1, 0, none⟩)), (0, .pointer (some ⟨b, 0, none⟩)), (1, .int .u64 (i : Nat))] (by kernel_rfl) rfl (ak (okp (by kernel_rfl) (oka (hs3.cells 0 0 rfl (by kernel_rfl)) ok0)) ak0) ?_
      refine GoR.store rfl rfl (by kernel_rfl) (b := b1) (off := 0) (v := .agg (D32.cells dD32)) (by kernel_rfl) (by kernel_rfl) (ti := Tryz.t34) (by kernel_rfl) hs3 0 rfl (by kernel_rfl) (by kernel_rfl) (Nat.le_of_ble_eq_true (by kernel_rfl)) (cs' := D32.cells dD32) (L' := (Cel b1 (D32.cells dD32) 34) :: (Cel b #[.slice ar ny cr, .pointer (some ⟨s, 0, none⟩), .slice ad dg.length cd, .map (some mt)] 60) :: (Sl ad cd 34 32 D32.cells dg) :: L) (by kernel_rfl) rfl ?_
      intro w9 hs10
      refine ⟨(opn (by kernel_rfl)), ?_⟩
      refine GoR.phaseK [(2, .gen [])] [5, 4, 0, 1] [] [(5, .bool false), (4, .pointer (some ⟨b1, 0, none⟩)), (0, .pointer (some ⟨b, 0, none⟩)), (1, .int .u64 (i : Nat))] (by kernel_rfl) rfl ak0 ?_
      refine GoR.done (GoQ.thn (GoC.ret (GoQ.skipCR ?_)))
      refine GoQ.done (.inl rfl) (v := .tuple #[.agg (D32.cells dD32), .bool false]) (fun a hf => resultsAV rfl (by kernel_rfl) (by kernel_rfl) (ti := Tryz.t34) (by kernel_rfl) (by kernel_rfl) (vs := (D32.cells dD32)) (by kernel_rfl) (hs10.cells 0 0 rfl (by kernel_rfl)) a hf) ?_
      have hs11 : St w0 ((Cel b #[.slice ar ny cr, .pointer (some ⟨s, 0, none⟩), .slice ad dg.length cd, .map (some mt)] 60) :: (Sl ad cd 34 32 D32.cells dg) :: L) w9 := hs10.drop 1
      exact .inr (⟨rfl, (by omega), hs11⟩)
    · refine GoR.setB 17 false (by decide) (by kernel_rfl) h8 ?_
      have h8' : ((i : Nat) % 4 : Int) = 0 := ineF h8
      refine GoR.phaseK [(12, .gen []), (13, .gen [])] [19, 18, 17, 5, 4, 0, 1] [] [(19, .pointer (some ⟨b, 0, none⟩)), (18, .int .u64 (i : Nat)), (17, .bool false), (5, .bool false), (4, .pointer (some ⟨b1, 0, none⟩)), (0, .pointer (some ⟨b, 0, none⟩)), (1, .int .u64 (i : Nat))] (by kernel_rfl) rfl ak0 ?_
      have hs12 : St w0 ((Cel b #[.slice ar ny cr, .pointer (some ⟨s, 0, none⟩), .slice ad dg.length cd, .map (some mt)] 60) :: (Cel b1 (D32.cells dD32) 34) :: (Sl ad cd 34 32 D32.cells dg) :: L) w2 := (hs3.pull 1 rfl)
      refine GoR.call rfl rfl (by kernel_rfl) (f := 13) (args := #[.pointer (some ⟨b, 0, none⟩)]) (by kernel_rfl) Tryz.call13 (runCount_spec ny dg.length (by first | assumption | omega) hs12) ?_
      rintro v14 w15 ⟨rfl, hs13⟩
      refine ⟨(opn (by kernel_rfl)), ?_⟩
      refine GoR.phaseK [(15, .gen []), (16, .gen [])] [22, 5, 4, 0, 1] [] [(22, .bool (decide (((i : Nat) : Int) > (ny : Nat)))), (5, .bool false), (4, .pointer (some ⟨b1, 0, none⟩)), (0, .pointer (some ⟨b, 0, none⟩)), (1, .int .u64 (i : Nat))] (by kernel_rfl) rfl ak0 ?_
      refine GoR.done (GoQ.thn ?_)
      refine GoC.cond (t := decide (((i : Nat) : Int) > (ny : Nat))) (by kernel_rfl) (fun h16 => ?_) (fun h16 => ?_)
      · have h16' : ((i : Nat) : Int) > (ny : Nat) := of_decide_eq_true h16
        refine GoC.seq ?_
        refine GoC.regT [7, 7, 7] (.rd 0 (.ef 1 (.rd 2 .done))) (by kernel_rfl) (by kernel_rfl) ?_
        refine GoR.phaseK [(0, .agg (D32.cells dD32))] [23, 5, 4, 0, 1] [(0, [.prop (Array.size (D32.cells dD32) = 32), .cells ⟨b1, 0, none⟩ (D32.cells dD32)])] [(23, .agg (D32.cells dD32)), (5, .bool false), (4, .pointer (some ⟨b1, 0, none⟩)), (0, .pointer (some ⟨b, 0, none⟩)), (1, .int .u64 (i : Nat))] (by kernel_rfl) rfl (ak (okp (by kernel_rfl) (oka (hs13.cells 1 0 rfl (by kernel_rfl)) ok0)) ak0) ?_
        refine GoR.store rfl rfl (by kernel_rfl) (b := b1) (off := 0) (v := .agg (D32.cells dD32)) (by kernel_rfl) (by kernel_rfl) (ti := Tryz.t34) (by kernel_rfl) hs13 1 rfl (by kernel_rfl) (by kernel_rfl) (Nat.le_of_ble_eq_true (by kernel_rfl)) (cs' := D32.cells dD32) (L' := (Cel b #[.slice ar ny cr, .pointer (some ⟨s, 0, none⟩), .slice ad dg.length cd, .map (some mt)] 60) :: (Cel b1 (D32.cells dD32) 34) :: (Sl ad cd 34 32 D32.cells dg) :: L) (by kernel_rfl) rfl ?_
        intro w17 hs18
        refine ⟨(opn (by kernel_rfl)), ?_⟩
        refine GoR.phaseK [(2, .gen [])] [5, 4, 0, 1] [] [(5, .bool false), (4, .pointer (some ⟨b1, 0, none⟩)), (0, .pointer (some ⟨b, 0, none⟩)), (1, .int .u64 (i : Nat))] (by kernel_rfl) rfl ak0 ?_
        refine GoR.done (GoQ.thn (GoC.ret (GoQ.skipCR ?_)))
        refine GoQ.done (.inl rfl) (v := .tuple #[.agg (D32.cells dD32), .bool false]) (fun a hf => resultsAV rfl (by kernel_rfl) (by kernel_rfl) (ti := Tryz.t34) (by kernel_rfl) (by kernel_rfl) (vs := (D32.cells dD32)) (by kernel_rfl) (hs18.cells 1 0 rfl (by kernel_rfl)) a hf) ?_
        have hs19 : St w0 ((Cel b1 (D32.cells dD32) 34) :: (Cel b #[.slice ar ny cr, .pointer (some ⟨s, 0, none⟩), .slice ad dg.length cd, .map (some mt)] 60) :: (Sl ad cd 34 32 D32.cells dg) :: L) w17 := (((hs18.pull 2 rfl).pull 1 rfl).pull 2 rfl)
        have hs20 : St w0 ((Cel b #[.slice ar ny cr, .pointer (some ⟨s, 0, none⟩), .slice ad dg.length cd, .map (some mt)] 60) :: (Sl ad cd 34 32 D32.cells dg) :: L) w17 := hs19.drop 1
        exact .inr (⟨rfl, (by omega), hs20⟩)
      · have h16' : ¬ (((i : Nat) : Int) > (ny : Nat)) := of_decide_eq_false h16
        refine GoC.skip (GoQ.thn (GoC.seq ?_))
        have hdl : 0 < dg.length := by omega
        obtain ⟨ab21, rfl⟩ := Sl.isSome (hs13.at_ 2 rfl) (by omega)
        refine GoC.regT [2047, 2047, 2047, 2047, 2047, 2047, 2047, 2047, 2047, 2047, 2047] (.rd 0 (.rd 1 (.rd 2 (.rd 3 (.rd 4 (.rd 5 (.rd 6 (.rd 7 (.rd 8 (.ef 9 (.rd 10 .done))))))))))) (by kernel_rfl) (by kernel_rfl) ?_
        refine GoR.phaseK [(0, .gen []), (1, .gen []), (2, .gen []), (3, .gen [.slice (some ⟨ab21, 0, none⟩) dg.length cd]), (4, .gen []), (5, .div ((i : Nat) / 4)), (6, .as_ (.int .u64 (((i : Nat) / 4) - 1)) (.gen [])), (7, .as_ (.pointer (some ⟨ab21, 0 + ((Int.toNat (((i : Nat) / 4) - 1)) * 32), none⟩)) .at_), (8, .agg (D32.cells (dg.getD (Int.toNat (((i : Nat) / 4) - 1)) dD32)))] [32, 5, 4] [(3, [.cell ⟨b, 2, none⟩ (.slice (some ⟨ab21, 0, none⟩) dg.length cd)]), (5, [.prop (IntKind.u64 = IntKind.u64 ∧ (4 : Int) ≠ 0 ∧ IntKind.u64.wrap (Int.tdiv (i : Nat) 4) = (i : Nat) / 4)]), (6, [.prop (Value.int .u64 (IntKind.u64.wrap (((i : Nat) / 4) - 1)) = Value.int .u64 (((i : Nat) / 4) - 1))]), (7, [.prop (0 ≤ ((((i : Nat) / 4) - 1) : Int) ∧ ((((i : Nat) / 4) - 1) : Int) < ((dg.length : Nat) : Int)), .prop (Value.pointer (some (Addr.add ⟨ab21, 0, none⟩ (Int.toNat (((i : Nat) / 4) - 1) * 32))) = Value.pointer (some ⟨ab21, 0 + ((Int.toNat (((i : Nat) / 4) - 1)) * 32), none⟩))]), (8, [.prop (Array.size (D32.cells (dg.getD (Int.toNat (((i : Nat) / 4) - 1)) dD32)) = 32), .cells ⟨ab21, 0 + ((Int.toNat (((i : Nat) / 4) - 1)) * 32), none⟩ (D32.cells (dg.getD (Int.toNat (((i : Nat) / 4) - 1)) dD32))])] [(32, .agg (D32.cells (dg.getD (Int.toNat (((i : Nat) / 4) - 1)) dD32))), (5, .bool false), (4, .pointer (some ⟨b1, 0, none⟩))] (by kernel_rfl) rfl (ak (okc (hs13.cell 0 rfl (by kernel_rfl)) ok0) (ak (okp ⟨rfl, by decide, by rw [Int.tdiv_eq_ediv_of_nonneg (by omega)]; exact u64w (by omega) (by omega)⟩ ok0) (ak (okp (u64ok (by omega) (by omega)) ok0) (ak (okp (by omega) (okp (ptrAdd _ _ _) ok0)) (ak (okp (by kernel_rfl) (oka (RowsAt.all0 (hs13.rows 2 rfl (d32F).size dD32) (by first | omega | (simp only [List.length_set]; omega) | (simp only [List.length_set, List.length_append, List.length_cons, List.length_nil]; omega)) (Nat.le_of_ble_eq_true (by kernel_rfl)) (by kernel_rfl)) ok0)) ak0))))) ?_
        refine GoR.store rfl rfl (by kernel_rfl) (b := b1) (off := 0) (v := .agg (D32.cells (dg.getD (Int.toNat (((i : Nat) / 4) - 1)) dD32))) (by kernel_rfl) (by kernel_rfl) (ti := Tryz.t34) (by kernel_rfl) hs13 1 rfl (by kernel_rfl) (by kernel_rfl) (Nat.le_of_ble_eq_true (by kernel_rfl)) (cs' := D32.cells (dg.getD (Int.toNat (((i : Nat) / 4) - 1)) dD32)) (L' := (Cel b #[.slice ar ny cr, .pointer (some ⟨s, 0, none⟩), .slice (some ⟨ab21, 0, none⟩) dg.length cd, .map (some mt)] 60) :: (Cel b1 (D32.cells (dg.getD (Int.toNat (((i : Nat) / 4) - 1)) dD32)) 34) :: (Sl (some ⟨ab21, 0, none⟩) cd 34 32 D32.cells dg) :: L) (by kernel_rfl) rfl ?_
        intro w23 hs24
        refine ⟨(opn (by kernel_rfl)), ?_⟩
        refine GoR.phaseK [(10, .gen [])] [5, 4] [] [(5, .bool true), (4, .pointer (some ⟨b1, 0, none⟩))] (by kernel_rfl) rfl ak0 ?_
        refine GoR.done (GoQ.thn (GoC.ret ?_))
        refine GoQ.done (.inl rfl) (v := .tuple #[.agg (D32.cells (dg.getD (Int.toNat (((i : Nat) / 4) - 1)) dD32)), .bool true]) (fun a hf => resultsAV rfl (by kernel_rfl) (by kernel_rfl) (ti := Tryz.t34) (by kernel_rfl) (by kernel_rfl) (vs := (D32.cells (dg.getD (Int.toNat (((i : Nat) / 4) - 1)) dD32))) (by kernel_rfl) (hs24.cells 1 0 rfl (by kernel_rfl)) a hf) ?_
        have hs25 : St w0 ((Cel b1 (D32.cells (dg.getD (Int.toNat (((i : Nat) / 4) - 1)) dD32)) 34) :: (Cel b #[.slice ar ny cr, .pointer (some ⟨s, 0, none⟩), .slice (some ⟨ab21, 0, none⟩) dg.length cd, .map (some mt)] 60) :: (Sl (some ⟨ab21, 0, none⟩) cd 34 32 D32.cells dg) :: L) w23 := (((hs24.pull 2 rfl).pull 1 rfl).pull 2 rfl)
        have hs26 : St w0 ((Cel b #[.slice ar ny cr, .pointer (some ⟨s, 0, none⟩), .slice (some ⟨ab21, 0, none⟩) dg.length cd, .map (some mt)] 60) :: (Sl (some ⟨ab21, 0, none⟩) cd 34 32 D32.cells dg) :: L) w23 := hs25.drop 1
        exact .inl ⟨(by rw [show Int.toNat (((i : Nat) : Int) / 4 - 1) = i / 4 - 1 by omega]), (by omega), hs26⟩
end Go.Proofs.YtkiaagddmlddpaaGreatDoor
