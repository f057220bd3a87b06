/-
  The walk of StateAdds.
-/
import Derived.Test.YtggkhhogpallbaaGreatDoorStaV
import Derived.Test.YtggkhhogpallbaaGreatDoorStaX
import Derived.Test.YtggkhhogpallbaaGreatDoorCardS
import Derived.Test.YtggkhhogpallbaaGreatDoorSxT
namespace Go.Proofs.YtggkhhogpallbaaGreatDoor
open Go.RowKit Go.Sx
set_option linter.unusedVariables false
set_option linter.unusedSimpArgs false
set_option linter.unnecessarySimpa false
set_option maxRecDepth 100000
theorem adds_walk (W : World) (hLW : Laid W) (ad : Option Addr) (c : Nat) (l : List ReqV) (hok : ∀ q ∈ l, ReqV.OK q) (hln : l.length ≤ 1100000000000) (rw : RowsAt W ad l.length 40 (fun k => ReqV.cells (l.getD k dReq))) : Calls Tryz.prog 3 #[.slice ad l.length c] W (Ret fun rv w' => rv = .bool true ∧ Below W.heap.size W w') := by
  refine enter (args := [.slice ad l.length c]) Tryz.func3 rfl Tryz.ntmps3 (Nat.le_of_ble_eq_true (by kernel_rfl)) ?_
  refine GoC.slots (S' := [(0, .slice ad l.length c)]) rfl ?_
  refine GoC.seq ?_
  refine GoC.regT [1] (.rd 0 .done) (by kernel_rfl) (by kernel_rfl) ?_
  refine GoR.phaseK [(0, .gen [])] [2, 0] [] [(2, .bool false), (0, .slice ad l.length c)] (by kernel_rfl) rfl ak0 ?_
  refine GoR.done (GoQ.thn (GoC.seq (GoC.seq ?_)))
  refine GoC.regT [255, 255, 255, 255, 255, 255, 255, 255] (.rd 0 (.ef 1 (.rd 2 (.rd 3 (.rd 4 (.rd 5 (.rd 6 (.rd 7 .done)))))))) (by kernel_rfl) (by kernel_rfl) ?_
  refine GoR.phaseK [(0, .gen [])] [14, 2, 0] [] [(14, .slice ad l.length c), (2, .bool false), (0, .slice ad l.length c)] (by kernel_rfl) rfl ak0 ?_
  refine GoR.call rfl rfl (by kernel_rfl) (f := 4) (args := #[.slice ad l.length c]) (by kernel_rfl) Tryz.call4 (few10_spec l (fun q hq => (hok q hq).op.small) (by first | assumption | omega) (fun w h => rw.base (fun k _ => (reqF).size _) h 0 rfl) (St.start W)) ?_
  rintro v2 w3 ⟨rfl, hs1⟩
  refine ⟨(opn (by kernel_rfl)), ?_⟩
  refine GoR.phaseK [(2, .gen []), (3, .gen [])] [17, 2, 0] [] [(17, .bool (!(few (l.map fun r => r.op)))), (2, .bool false), (0, .slice ad l.length c)] (by kernel_rfl) rfl ak0 ?_
  rcases Bool.eq_false_or_eq_true (!(few (l.map fun r => r.op))) with h4 | h4
  · refine GoR.setB 17 true (by decide) (by kernel_rfl) h4 ?_
    have h4n : (few (l.map fun r => r.op)) = false := notT h4
    refine GoR.phaseK [(4, .gen []), (5, .gen []), (6, .gen []), (7, .gen [])] [21, 2, 0] [] [(21, .bool true), (2, .bool false), (0, .slice ad l.length c)] (by kernel_rfl) rfl ak0 ?_
    refine GoR.done (GoQ.thn (GoC.condT (by kernel_rfl) (GoC.seq ?_)))
    refine GoC.regT [3, 3] (.ef 0 (.rd 1 .done)) (by kernel_rfl) (by kernel_rfl) ?_
    refine GoR.call rfl rfl (by kernel_rfl) (f := 5) (args := #[]) (by kernel_rfl) Tryz.call5 (staWorks_spec (fun w h => hLW.base h 0 rfl) hs1) ?_
    rintro v6 w7 ⟨rfl, hs5⟩
    refine ⟨(opn (by kernel_rfl)), ?_⟩
    refine GoR.phaseK [(1, .gen [])] [2, 0] [] [(2, .bool true), (0, .slice ad l.length c)] (by kernel_rfl) rfl ak0 ?_
    refine GoR.done (GoQ.thn (GoC.ret (GoQ.skipCR ?_)))
    refine GoQ.done (.inl rfl) (v := .bool true) (fun a hf => results1 rfl (by kernel_rfl) a hf) ?_
    exact ⟨rfl, hs5.below 0 rfl⟩
  · refine GoR.setB 17 false (by decide) (by kernel_rfl) h4 ?_
    have h4n : (few (l.map fun r => r.op)) = true := notF h4
    refine GoR.phaseK [(4, .gen []), (5, .gen []), (6, .gen []), (7, .gen [])] [21, 2, 0] [] [(21, .bool (decide (((l.length : Nat) : Int) > 60))), (2, .bool false), (0, .slice ad l.length c)] (by kernel_rfl) rfl ak0 ?_
    refine GoR.done (GoQ.thn ?_)
    refine GoC.cond (t := decide (((l.length : Nat) : Int) > 60)) (by kernel_rfl) (fun h8 => ?_) (fun h8 => ?_)
    · have h8' : ((l.length : Nat) : Int) > 60 := of_decide_eq_true h8
      refine GoC.seq ?_
      refine GoC.regT [3, 3] (.ef 0 (.rd 1 .done)) (by kernel_rfl) (by kernel_rfl) ?_
      refine GoR.call rfl rfl (by kernel_rfl) (f := 5) (args := #[]) (by kernel_rfl) Tryz.call5 (staWorks_spec (fun w h => hLW.base h 0 rfl) hs1) ?_
      rintro v10 w11 ⟨rfl, hs9⟩
      refine ⟨(opn (by kernel_rfl)), ?_⟩
      refine GoR.phaseK [(1, .gen [])] [2, 0] [] [(2, .bool true), (0, .slice ad l.length c)] (by kernel_rfl) rfl ak0 ?_
      refine GoR.done (GoQ.thn (GoC.ret (GoQ.skipCR ?_)))
      refine GoQ.done (.inl rfl) (v := .bool true) (fun a hf => results1 rfl (by kernel_rfl) a hf) ?_
      exact ⟨rfl, hs9.below 0 rfl⟩
    · have h8' : ¬ (((l.length : Nat) : Int) > 60) := of_decide_eq_false h8
      refine GoC.skip (GoQ.thn (GoC.seq ?_))
      refine GoC.regT [3, 3] (.ef 0 (.rd 1 .done)) (by kernel_rfl) (by kernel_rfl) ?_
      refine GoR.call rfl rfl (by kernel_rfl) (f := 6) (args := #[]) (by kernel_rfl) Tryz.call6 (stNew_spec hs1) ?_
      rintro v17 w18 ⟨s12, p13, q14, g15, rfl, hs16⟩
      refine ⟨(opn (by kernel_rfl)), ?_⟩
      refine GoR.phaseK [(1, .gen [])] [3, 2, 0] [] [(3, .pointer (some ⟨s12, 0, none⟩)), (2, .bool false), (0, .slice ad l.length c)] (by kernel_rfl) rfl ak0 ?_
      refine GoR.done (GoQ.thn (GoC.seq ?_))
      refine GoC.regT [3, 3] (.ef 0 (.rd 1 .done)) (by kernel_rfl) (by kernel_rfl) ?_
      refine GoR.call rfl rfl (by kernel_rfl) (f := 6) (args := #[]) (by kernel_rfl) Tryz.call6 (stNew_spec hs16) ?_
      rintro v24 w25 ⟨s19, p20, q21, g22, rfl, hs23⟩
      refine ⟨(opn (by kernel_rfl)), ?_⟩
      refine GoR.phaseK [(1, .gen [])] [4, 3, 2, 0] [] [(4, .pointer (some ⟨s19, 0, none⟩)), (3, .pointer (some ⟨s12, 0, none⟩)), (2, .bool false), (0, .slice ad l.length c)] (by kernel_rfl) rfl ak0 ?_
      refine GoR.done (GoQ.thn (GoC.seq (GoC.seq ?_)))
      refine GoC.regT [1] (.rd 0 .done) (by kernel_rfl) (by kernel_rfl) ?_
      refine GoR.phaseK [(0, .gen [])] [5, 4, 3, 2, 0] [] [(5, .int .i64 0), (4, .pointer (some ⟨s19, 0, none⟩)), (3, .pointer (some ⟨s12, 0, none⟩)), (2, .bool false), (0, .slice ad l.length c)] (by kernel_rfl) rfl ak0 ?_
      refine GoR.done (GoQ.thn (GoC.block ?_))
      have hs26 : St W ((Cel s12 #[.pointer (some ⟨q14, 0, none⟩), .pointer (some ⟨p13, 0, none⟩), .int .u64 0] 55) :: (Cel p13 (arrCells LastV.cells (List.replicate 8 dLast)) 78) :: (Cel q14 #[.map (some g15)] 75) :: (MapA Value.string Value.string g15 ([] : List (ByteArray × ByteArray))) :: (Cel s19 #[.pointer (some ⟨q21, 0, none⟩), .pointer (some ⟨p20, 0, none⟩), .int .u64 0] 55) :: (Cel p20 (arrCells LastV.cells (List.replicate 8 dLast)) 78) :: (Cel q21 #[.map (some g22)] 75) :: (MapA Value.string Value.string g22 ([] : List (ByteArray × ByteArray))) :: (Base W) :: []) w25 := (((((((((hs23.pull 8 rfl).pull 4 rfl).pull 4 rfl).pull 4 rfl).pull 4 rfl).pull 8 rfl).pull 8 rfl).pull 8 rfl).pull 8 rfl)
      refine GoC.loop (T := Nat × (List LastV) × (List (ByteArray × ByteArray)) × Int × Int) (fun gg => [(0, .slice ad l.length c), (3, .pointer (some ⟨s12, 0, none⟩)), (4, .pointer (some ⟨s19, 0, none⟩)), (5, .int .i64 (gg.1 : Nat))]) (fun gg w => (gg.1 ≤ l.length ∧ gg.2.2.2.1 = (gg.1 : Nat) ∧ gg.2.2.2.2 = 2 * (gg.1 : Nat) ∧ TInv (gg.2.1, gg.2.2.1)) ∧ St W ((Cel s12 #[.pointer (some ⟨q14, 0, none⟩), .pointer (some ⟨p13, 0, none⟩), .int .u64 gg.2.2.2.1] 55) :: (Cel p13 (arrCells LastV.cells gg.2.1) 78) :: (Cel q14 #[.map (some g15)] 75) :: (MapA Value.string Value.string g15 gg.2.2.1) :: (Cel s19 #[.pointer (some ⟨q21, 0, none⟩), .pointer (some ⟨p20, 0, none⟩), .int .u64 gg.2.2.2.2] 55) :: (Cel p20 (arrCells LastV.cells gg.2.1) 78) :: (Cel q21 #[.map (some g22)] 75) :: (MapA Value.string Value.string g22 gg.2.2.1) :: (Base W) :: []) w) (fun gg => l.length - gg.1) (0, (List.replicate 8 dLast), [], 0, 0) [0, 3, 4, 5] (by kernel_rfl) ⟨⟨Nat.zero_le _, rfl, rfl, t0_inv⟩, hs26⟩ ?_
      rintro ⟨k, tA, mA, ca, cb⟩ w27 ⟨hp0, hs28⟩
      have hp : k ≤ l.length ∧ ca = (k : Nat) ∧ cb = 2 * (k : Nat) ∧ TInv (tA, mA) := hp0
      have hs29 : St W ((Cel s12 #[.pointer (some ⟨q14, 0, none⟩), .pointer (some ⟨p13, 0, none⟩), .int .u64 ca] 55) :: (Cel p13 (arrCells LastV.cells tA) 78) :: (Cel q14 #[.map (some g15)] 75) :: (MapA Value.string Value.string g15 mA) :: (Cel s19 #[.pointer (some ⟨q21, 0, none⟩), .pointer (some ⟨p20, 0, none⟩), .int .u64 cb] 55) :: (Cel p20 (arrCells LastV.cells tA) 78) :: (Cel q21 #[.map (some g22)] 75) :: (MapA Value.string Value.string g22 mA) :: (Base W) :: []) w27 := hs28
      refine GoC.slots (S' := [(0, .slice ad l.length c), (3, .pointer (some ⟨s12, 0, none⟩)), (4, .pointer (some ⟨s19, 0, none⟩)), (5, .int .i64 (k : Nat))]) rfl ?_
      obtain ⟨hp1, hp2, hp3, hi⟩ := hp
      refine GoC.seq (GoC.seq ?_)
      refine GoC.regT [15, 15, 15, 15] (.rd 0 (.rd 1 (.rd 2 (.rd 3 .done)))) (by kernel_rfl) (by kernel_rfl) ?_
      refine GoR.phaseK [(0, .gen []), (1, .gen []), (2, .gen []), (3, .gen [])] [28, 0, 3, 4, 5] [] [(28, .bool (decide (((k : Nat) : Int) < (l.length : Nat)))), (0, .slice ad l.length c), (3, .pointer (some ⟨s12, 0, none⟩)), (4, .pointer (some ⟨s19, 0, none⟩)), (5, .int .i64 (k : Nat))] (by kernel_rfl) rfl ak0 ?_
      refine GoR.done (GoQ.thn ?_)
      refine GoC.cond (t := decide (((k : Nat) : Int) < (l.length : Nat))) (by kernel_rfl) (fun h30 => ?_) (fun h30 => ?_)
      · have h30' : ((k : Nat) : Int) < (l.length : Nat) := of_decide_eq_true h30
        have hk : k < l.length := by omega
        have hor := hok _ (getD_mem (d := dReq) hk)
        have hot := hor.time
        have hoa := hor.op.amount.1
        have hi2 := tnext hi hot
        obtain ⟨ab31, ao32, rfl⟩ := RowsAt.isSome rw (by omega)
        refine GoC.skip (GoQ.thn (GoC.seq (GoC.block (GoC.seq ?_))))
        refine GoC.regT [4095, 4095, 4095, 4095, 4095, 4095, 4095, 4095, 4095, 4095, 4095, 4095] (.rd 0 (.rd 1 (.rd 2 (.rd 3 (.rd 4 (.ef 5 (.rd 6 (.rd 7 (.rd 8 (.ef 9 (.ef 10 (.rd 11 .done)))))))))))) (by kernel_rfl) (by kernel_rfl) ?_
        refine GoR.phaseK [(0, .gen []), (1, .gen []), (2, .gen []), (3, .as_ (.pointer (some ⟨ab31, ao32 + (k * 40), none⟩)) .at_), (4, .agg (ReqV.cells (l.getD k dReq)))] [36, 32, 0, 3, 4, 5] [(3, [.prop (0 ≤ ((k : Nat) : Int) ∧ ((k : Nat) : Int) < ((l.length : Nat) : Int)), .prop (Value.pointer (some (Addr.add ⟨ab31, ao32, none⟩ (Int.toNat (k : Nat) * 40))) = Value.pointer (some ⟨ab31, ao32 + (k * 40), none⟩))]), (4, [.prop (Array.size (ReqV.cells (l.getD k dReq)) = 40), .cells ⟨ab31, ao32 + (k * 40), none⟩ (ReqV.cells (l.getD k dReq))])] [(36, .agg (ReqV.cells (l.getD k dReq))), (32, .pointer (some ⟨s12, 0, none⟩)), (0, .slice (some ⟨ab31, ao32, none⟩) l.length c), (3, .pointer (some ⟨s12, 0, none⟩)), (4, .pointer (some ⟨s19, 0, none⟩)), (5, .int .i64 (k : Nat))] (by kernel_rfl) rfl (ak (okp (by omega) (okp (ptrAdd _ _ _) ok0)) (ak (okp (by kernel_rfl) (oka (RowsAt.all0 (rw.base (fun k _ => (reqF).size _) hs29 8 rfl) (by first | omega | (simp only [List.length_set]; omega)) (Nat.le_of_ble_eq_true (by kernel_rfl)) (by kernel_rfl)) ok0)) ak0)) ?_
        refine GoR.call rfl rfl (by kernel_rfl) (f := 7) (args := #[.pointer (some ⟨s12, 0, none⟩), .agg (ReqV.cells (l.getD k dReq))]) (by kernel_rfl) Tryz.call7 (stDo_spec tA mA (l.getD k dReq) ca hi.len hi.inv.short (fun w h => hLW.base h 4 rfl) hoa (by omega) hs29) ?_
        rintro v34 w35 ⟨rfl, hs33⟩
        refine ⟨(opn (by kernel_rfl)), ?_⟩
        refine GoR.phaseK [(6, .gen []), (7, .gen []), (8, .gen [])] [39, 38, 0, 3, 4, 5] [] [(39, .bool ((sdo tA mA (l.getD k dReq)).1.2)), (38, .agg (RepV.cells ((sdo tA mA (l.getD k dReq)).1.1))), (0, .slice (some ⟨ab31, ao32, none⟩) l.length c), (3, .pointer (some ⟨s12, 0, none⟩)), (4, .pointer (some ⟨s19, 0, none⟩)), (5, .int .i64 (k : Nat))] (by kernel_rfl) rfl ak0 ?_
        refine GoR.alloc rfl rfl (by kernel_rfl) (z := .agg #[.int .i64 0, .string (⟨#[]⟩ : ByteArray)]) (by kernel_rfl) hs33 (cs := #[.int .i64 0, .string (⟨#[]⟩ : ByteArray)]) (by kernel_rfl) ?_
        intro b36 w37 hs38
        refine ⟨(opn (by kernel_rfl)), ?_⟩
        refine GoR.store rfl rfl (by kernel_rfl) (b := b36) (off := 0) (v := .agg (RepV.cells ((sdo tA mA (l.getD k dReq)).1.1))) (by kernel_rfl) (by kernel_rfl) (ti := Tryz.t29) (by kernel_rfl) hs38 0 rfl (by kernel_rfl) (by kernel_rfl) (Nat.le_of_ble_eq_true (by kernel_rfl)) (cs' := RepV.cells ((sdo tA mA (l.getD k dReq)).1.1)) (L' := (Cel b36 (RepV.cells ((sdo tA mA (l.getD k dReq)).1.1)) 29) :: (Cel s12 #[.pointer (some ⟨q14, 0, none⟩), .pointer (some ⟨p13, 0, none⟩), .int .u64 (ca + 1)] 55) :: (Cel p13 (arrCells LastV.cells ((sdo tA mA (l.getD k dReq)).2.1)) 78) :: (Cel q14 #[.map (some g15)] 75) :: (MapA Value.string Value.string g15 ((sdo tA mA (l.getD k dReq)).2.2)) :: (Cel s19 #[.pointer (some ⟨q21, 0, none⟩), .pointer (some ⟨p20, 0, none⟩), .int .u64 cb] 55) :: (Cel p20 (arrCells LastV.cells tA) 78) :: (Cel q21 #[.map (some g22)] 75) :: (MapA Value.string Value.string g22 mA) :: (Base W) :: []) (by kernel_rfl) rfl ?_
        intro w39 hs40
        refine ⟨(opn (by kernel_rfl)), ?_⟩
        refine GoR.phaseK [(11, .gen [])] [7, 6, 0, 3, 4, 5] [] [(7, .bool ((sdo tA mA (l.getD k dReq)).1.2)), (6, .pointer (some ⟨b36, 0, none⟩)), (0, .slice (some ⟨ab31, ao32, none⟩) l.length c), (3, .pointer (some ⟨s12, 0, none⟩)), (4, .pointer (some ⟨s19, 0, none⟩)), (5, .int .i64 (k : Nat))] (by kernel_rfl) rfl ak0 ?_
        refine GoR.done (GoQ.thn (GoC.seq ?_))
        refine GoC.regT [4095, 4095, 4095, 4095, 4095, 4095, 4095, 4095, 4095, 4095, 4095, 4095] (.rd 0 (.rd 1 (.rd 2 (.rd 3 (.rd 4 (.ef 5 (.rd 6 (.rd 7 (.rd 8 (.ef 9 (.ef 10 (.rd 11 .done)))))))))))) (by kernel_rfl) (by kernel_rfl) ?_
        refine GoR.phaseK [(0, .gen []), (1, .gen []), (2, .gen []), (3, .as_ (.pointer (some ⟨ab31, ao32 + (k * 40), none⟩)) .at_), (4, .agg (ReqV.cells (l.getD k dReq)))] [45, 41, 7, 6, 0, 3, 4, 5] [(3, [.prop (0 ≤ ((k : Nat) : Int) ∧ ((k : Nat) : Int) < ((l.length : Nat) : Int)), .prop (Value.pointer (some (Addr.add ⟨ab31, ao32, none⟩ (Int.toNat (k : Nat) * 40))) = Value.pointer (some ⟨ab31, ao32 + (k * 40), none⟩))]), (4, [.prop (Array.size (ReqV.cells (l.getD k dReq)) = 40), .cells ⟨ab31, ao32 + (k * 40), none⟩ (ReqV.cells (l.getD k dReq))])] [(45, .agg (ReqV.cells (l.getD k dReq))), (41, .pointer (some ⟨s19, 0, none⟩)), (7, .bool ((sdo tA mA (l.getD k dReq)).1.2)), (6, .pointer (some ⟨b36, 0, none⟩)), (0, .slice (some ⟨ab31, ao32, none⟩) l.length c), (3, .pointer (some ⟨s12, 0, none⟩)), (4, .pointer (some ⟨s19, 0, none⟩)), (5, .int .i64 (k : Nat))] (by kernel_rfl) rfl (ak (okp (by omega) (okp (ptrAdd _ _ _) ok0)) (ak (okp (by kernel_rfl) (oka (RowsAt.all0 (rw.base (fun k _ => (reqF).size _) hs40 9 rfl) (by first | omega | (simp only [List.length_set]; omega)) (Nat.le_of_ble_eq_true (by kernel_rfl)) (by kernel_rfl)) ok0)) ak0)) ?_
        have hs41 : St W ((Cel s19 #[.pointer (some ⟨q21, 0, none⟩), .pointer (some ⟨p20, 0, none⟩), .int .u64 cb] 55) :: (Cel p20 (arrCells LastV.cells tA) 78) :: (Cel q21 #[.map (some g22)] 75) :: (MapA Value.string Value.string g22 mA) :: (Cel b36 (RepV.cells ((sdo tA mA (l.getD k dReq)).1.1)) 29) :: (Cel s12 #[.pointer (some ⟨q14, 0, none⟩), .pointer (some ⟨p13, 0, none⟩), .int .u64 (ca + 1)] 55) :: (Cel p13 (arrCells LastV.cells ((sdo tA mA (l.getD k dReq)).2.1)) 78) :: (Cel q14 #[.map (some g15)] 75) :: (MapA Value.string Value.string g15 ((sdo tA mA (l.getD k dReq)).2.2)) :: (Base W) :: []) w39 := ((((hs40.pull 8 rfl).pull 8 rfl).pull 8 rfl).pull 8 rfl)
        refine GoR.call rfl rfl (by kernel_rfl) (f := 7) (args := #[.pointer (some ⟨s19, 0, none⟩), .agg (ReqV.cells (l.getD k dReq))]) (by kernel_rfl) Tryz.call7 (stDo_spec tA mA (l.getD k dReq) cb hi.len hi.inv.short (fun w h => hLW.base h 5 rfl) hoa (by omega) hs41) ?_
        rintro v43 w44 ⟨rfl, hs42⟩
        refine ⟨(opn (by kernel_rfl)), ?_⟩
        refine GoR.phaseK [(6, .gen []), (7, .gen []), (8, .gen [])] [48, 47, 7, 6, 0, 3, 4, 5] [] [(48, .bool ((sdo tA mA (l.getD k dReq)).1.2)), (47, .agg (RepV.cells ((sdo tA mA (l.getD k dReq)).1.1))), (7, .bool ((sdo tA mA (l.getD k dReq)).1.2)), (6, .pointer (some ⟨b36, 0, none⟩)), (0, .slice (some ⟨ab31, ao32, none⟩) l.length c), (3, .pointer (some ⟨s12, 0, none⟩)), (4, .pointer (some ⟨s19, 0, none⟩)), (5, .int .i64 (k : Nat))] (by kernel_rfl) rfl ak0 ?_
        refine GoR.alloc rfl rfl (by kernel_rfl) (z := .agg #[.int .i64 0, .string (⟨#[]⟩ : ByteArray)]) (by kernel_rfl) hs42 (cs := #[.int .i64 0, .string (⟨#[]⟩ : ByteArray)]) (by kernel_rfl) ?_
        intro b45 w46 hs47
        refine ⟨(opn (by kernel_rfl)), ?_⟩
        refine GoR.store rfl rfl (by kernel_rfl) (b := b45) (off := 0) (v := .agg (RepV.cells ((sdo tA mA (l.getD k dReq)).1.1))) (by kernel_rfl) (by kernel_rfl) (ti := Tryz.t29) (by kernel_rfl) hs47 0 rfl (by kernel_rfl) (by kernel_rfl) (Nat.le_of_ble_eq_true (by kernel_rfl)) (cs' := RepV.cells ((sdo tA mA (l.getD k dReq)).1.1)) (L' := (Cel b45 (RepV.cells ((sdo tA mA (l.getD k dReq)).1.1)) 29) :: (Cel s19 #[.pointer (some ⟨q21, 0, none⟩), .pointer (some ⟨p20, 0, none⟩), .int .u64 (cb + 1)] 55) :: (Cel p20 (arrCells LastV.cells ((sdo tA mA (l.getD k dReq)).2.1)) 78) :: (Cel q21 #[.map (some g22)] 75) :: (MapA Value.string Value.string g22 ((sdo tA mA (l.getD k dReq)).2.2)) :: (Cel b36 (RepV.cells ((sdo tA mA (l.getD k dReq)).1.1)) 29) :: (Cel s12 #[.pointer (some ⟨q14, 0, none⟩), .pointer (some ⟨p13, 0, none⟩), .int .u64 (ca + 1)] 55) :: (Cel p13 (arrCells LastV.cells ((sdo tA mA (l.getD k dReq)).2.1)) 78) :: (Cel q14 #[.map (some g15)] 75) :: (MapA Value.string Value.string g15 ((sdo tA mA (l.getD k dReq)).2.2)) :: (Base W) :: []) (by kernel_rfl) rfl ?_
        intro w48 hs49
        refine ⟨(opn (by kernel_rfl)), ?_⟩
        refine GoR.phaseK [(11, .gen [])] [9, 8, 7, 6, 0, 3, 4, 5] [] [(9, .bool ((sdo tA mA (l.getD k dReq)).1.2)), (8, .pointer (some ⟨b45, 0, none⟩)), (7, .bool ((sdo tA mA (l.getD k dReq)).1.2)), (6, .pointer (some ⟨b36, 0, none⟩)), (0, .slice (some ⟨ab31, ao32, none⟩) l.length c), (3, .pointer (some ⟨s12, 0, none⟩)), (4, .pointer (some ⟨s19, 0, none⟩)), (5, .int .i64 (k : Nat))] (by kernel_rfl) rfl ak0 ?_
        refine GoR.done (GoQ.thn (GoC.seq ?_))
        refine GoC.regT [4095, 4095, 4095, 4095, 4095, 4095, 4095, 4095, 4095, 4095, 4095, 4095] (.rd 0 (.rd 1 (.rd 2 (.rd 3 (.rd 4 (.ef 5 (.rd 6 (.rd 7 (.rd 8 (.ef 9 (.ef 10 (.rd 11 .done)))))))))))) (by kernel_rfl) (by kernel_rfl) ?_
        refine GoR.phaseK [(0, .gen []), (1, .gen []), (2, .gen []), (3, .as_ (.pointer (some ⟨ab31, ao32 + (k * 40), none⟩)) .at_), (4, .agg (ReqV.cells (l.getD k dReq)))] [54, 50, 9, 8, 7, 6, 0, 3, 4, 5] [(3, [.prop (0 ≤ ((k : Nat) : Int) ∧ ((k : Nat) : Int) < ((l.length : Nat) : Int)), .prop (Value.pointer (some (Addr.add ⟨ab31, ao32, none⟩ (Int.toNat (k : Nat) * 40))) = Value.pointer (some ⟨ab31, ao32 + (k * 40), none⟩))]), (4, [.prop (Array.size (ReqV.cells (l.getD k dReq)) = 40), .cells ⟨ab31, ao32 + (k * 40), none⟩ (ReqV.cells (l.getD k dReq))])] [(54, .agg (ReqV.cells (l.getD k dReq))), (50, .pointer (some ⟨s19, 0, none⟩)), (9, .bool ((sdo tA mA (l.getD k dReq)).1.2)), (8, .pointer (some ⟨b45, 0, none⟩)), (7, .bool ((sdo tA mA (l.getD k dReq)).1.2)), (6, .pointer (some ⟨b36, 0, none⟩)), (0, .slice (some ⟨ab31, ao32, none⟩) l.length c), (3, .pointer (some ⟨s12, 0, none⟩)), (4, .pointer (some ⟨s19, 0, none⟩)), (5, .int .i64 (k : Nat))] (by kernel_rfl) rfl (ak (okp (by omega) (okp (ptrAdd _ _ _) ok0)) (ak (okp (by kernel_rfl) (oka (RowsAt.all0 (rw.base (fun k _ => (reqF).size _) hs49 10 rfl) (by first | omega | (simp only [List.length_set]; omega)) (Nat.le_of_ble_eq_true (by kernel_rfl)) (by kernel_rfl)) ok0)) ak0)) ?_
        have hs50 : St W ((Cel s19 #[.pointer (some ⟨q21, 0, none⟩), .pointer (some ⟨p20, 0, none⟩), .int .u64 (cb + 1)] 55) :: (Cel p20 (arrCells LastV.cells ((sdo tA mA (l.getD k dReq)).2.1)) 78) :: (Cel q21 #[.map (some g22)] 75) :: (MapA Value.string Value.string g22 ((sdo tA mA (l.getD k dReq)).2.2)) :: (Cel b45 (RepV.cells ((sdo tA mA (l.getD k dReq)).1.1)) 29) :: (Cel b36 (RepV.cells ((sdo tA mA (l.getD k dReq)).1.1)) 29) :: (Cel s12 #[.pointer (some ⟨q14, 0, none⟩), .pointer (some ⟨p13, 0, none⟩), .int .u64 (ca + 1)] 55) :: (Cel p13 (arrCells LastV.cells ((sdo tA mA (l.getD k dReq)).2.1)) 78) :: (Cel q14 #[.map (some g15)] 75) :: (MapA Value.string Value.string g15 ((sdo tA mA (l.getD k dReq)).2.2)) :: (Base W) :: []) w48 := ((((hs49.pull 4 rfl).pull 4 rfl).pull 4 rfl).pull 4 rfl)
        refine GoR.call rfl rfl (by kernel_rfl) (f := 7) (args := #[.pointer (some ⟨s19, 0, none⟩), .agg (ReqV.cells (l.getD k dReq))]) (by kernel_rfl) Tryz.call7 (stDo_spec ((sdo tA mA (l.getD k dReq)).2.1) ((sdo tA mA (l.getD k dReq)).2.2) (l.getD k dReq) (cb + 1) hi2.len hi2.inv.short (fun w h => hLW.base h 6 rfl) hoa (by omega) hs50) ?_
        rintro v52 w53 ⟨rfl, hs51⟩
        rw [twice2 hi hot] at hs51
        refine ⟨(opn (by kernel_rfl)), ?_⟩
        refine GoR.phaseK [(6, .gen []), (7, .gen []), (8, .gen [])] [57, 56, 9, 8, 7, 6, 0, 3, 4, 5] [] [(57, .bool ((sdo ((sdo tA mA (l.getD k dReq)).2.1) ((sdo tA mA (l.getD k dReq)).2.2) (l.getD k dReq)).1.2)), (56, .agg (RepV.cells ((sdo ((sdo tA mA (l.getD k dReq)).2.1) ((sdo tA mA (l.getD k dReq)).2.2) (l.getD k dReq)).1.1))), (9, .bool ((sdo tA mA (l.getD k dReq)).1.2)), (8, .pointer (some ⟨b45, 0, none⟩)), (7, .bool ((sdo tA mA (l.getD k dReq)).1.2)), (6, .pointer (some ⟨b36, 0, none⟩)), (0, .slice (some ⟨ab31, ao32, none⟩) l.length c), (3, .pointer (some ⟨s12, 0, none⟩)), (4, .pointer (some ⟨s19, 0, none⟩)), (5, .int .i64 (k : Nat))] (by kernel_rfl) rfl ak0 ?_
        refine GoR.alloc rfl rfl (by kernel_rfl) (z := .agg #[.int .i64 0, .string (⟨#[]⟩ : ByteArray)]) (by kernel_rfl) hs51 (cs := #[.int .i64 0, .string (⟨#[]⟩ : ByteArray)]) (by kernel_rfl) ?_
        intro b54 w55 hs56
        refine ⟨(opn (by kernel_rfl)), ?_⟩
        refine GoR.store rfl rfl (by kernel_rfl) (b := b54) (off := 0) (v := .agg (RepV.cells ((sdo ((sdo tA mA (l.getD k dReq)).2.1) ((sdo tA mA (l.getD k dReq)).2.2) (l.getD k dReq)).1.1))) (by kernel_rfl) (by kernel_rfl) (ti := Tryz.t29) (by kernel_rfl) hs56 0 rfl (by kernel_rfl) (by kernel_rfl) (Nat.le_of_ble_eq_true (by kernel_rfl)) (cs' := RepV.cells ((sdo ((sdo tA mA (l.getD k dReq)).2.1) ((sdo tA mA (l.getD k dReq)).2.2) (l.getD k dReq)).1.1)) (L' := (Cel b54 (RepV.cells ((sdo ((sdo tA mA (l.getD k dReq)).2.1) ((sdo tA mA (l.getD k dReq)).2.2) (l.getD k dReq)).1.1)) 29) :: (Cel s19 #[.pointer (some ⟨q21, 0, none⟩), .pointer (some ⟨p20, 0, none⟩), .int .u64 ((cb + 1) + 1)] 55) :: (Cel p20 (arrCells LastV.cells ((sdo tA mA (l.getD k dReq)).2.1)) 78) :: (Cel q21 #[.map (some g22)] 75) :: (MapA Value.string Value.string g22 ((sdo tA mA (l.getD k dReq)).2.2)) :: (Cel b45 (RepV.cells ((sdo tA mA (l.getD k dReq)).1.1)) 29) :: (Cel b36 (RepV.cells ((sdo tA mA (l.getD k dReq)).1.1)) 29) :: (Cel s12 #[.pointer (some ⟨q14, 0, none⟩), .pointer (some ⟨p13, 0, none⟩), .int .u64 (ca + 1)] 55) :: (Cel p13 (arrCells LastV.cells ((sdo tA mA (l.getD k dReq)).2.1)) 78) :: (Cel q14 #[.map (some g15)] 75) :: (MapA Value.string Value.string g15 ((sdo tA mA (l.getD k dReq)).2.2)) :: (Base W) :: []) (by kernel_rfl) rfl ?_
        intro w57 hs58
        refine ⟨(opn (by kernel_rfl)), ?_⟩
        refine GoR.phaseK [(11, .gen [])] [11, 10, 9, 8, 7, 6, 0, 3, 4, 5] [] [(11, .bool ((sdo ((sdo tA mA (l.getD k dReq)).2.1) ((sdo tA mA (l.getD k dReq)).2.2) (l.getD k dReq)).1.2)), (10, .pointer (some ⟨b54, 0, none⟩)), (9, .bool ((sdo tA mA (l.getD k dReq)).1.2)), (8, .pointer (some ⟨b45, 0, none⟩)), (7, .bool ((sdo tA mA (l.getD k dReq)).1.2)), (6, .pointer (some ⟨b36, 0, none⟩)), (0, .slice (some ⟨ab31, ao32, none⟩) l.length c), (3, .pointer (some ⟨s12, 0, none⟩)), (4, .pointer (some ⟨s19, 0, none⟩)), (5, .int .i64 (k : Nat))] (by kernel_rfl) rfl ak0 ?_
        refine GoR.done (GoQ.thn (GoC.seq (GoC.seq ?_)))
        refine GoC.regT [2047, 2047, 2047, 2047, 2047, 2047, 2047, 2047, 2047, 2047, 2047] (.rd 0 (.rd 1 (.rd 2 (.rd 3 (.rd 4 (.rd 5 (.rd 6 (.rd 7 (.rd 8 (.rd 9 (.rd 10 .done))))))))))) (by kernel_rfl) (by kernel_rfl) ?_
        refine GoR.phaseK [(0, .agg (RepV.cells ((sdo tA mA (l.getD k dReq)).1.1))), (1, .agg (RepV.cells ((sdo tA mA (l.getD k dReq)).1.1)))] [59, 58, 11, 10, 9, 7, 6, 0, 3, 4, 5] [(0, [.prop (Array.size (RepV.cells ((sdo tA mA (l.getD k dReq)).1.1)) = 2), .cells ⟨b36, 0, none⟩ (RepV.cells ((sdo tA mA (l.getD k dReq)).1.1))]), (1, [.prop (Array.size (RepV.cells ((sdo tA mA (l.getD k dReq)).1.1)) = 2), .cells ⟨b45, 0, none⟩ (RepV.cells ((sdo tA mA (l.getD k dReq)).1.1))])] [(59, .agg (RepV.cells ((sdo tA mA (l.getD k dReq)).1.1))), (58, .agg (RepV.cells ((sdo tA mA (l.getD k dReq)).1.1))), (11, .bool ((sdo ((sdo tA mA (l.getD k dReq)).2.1) ((sdo tA mA (l.getD k dReq)).2.2) (l.getD k dReq)).1.2)), (10, .pointer (some ⟨b54, 0, none⟩)), (9, .bool ((sdo tA mA (l.getD k dReq)).1.2)), (7, .bool ((sdo tA mA (l.getD k dReq)).1.2)), (6, .pointer (some ⟨b36, 0, none⟩)), (0, .slice (some ⟨ab31, ao32, none⟩) l.length c), (3, .pointer (some ⟨s12, 0, none⟩)), (4, .pointer (some ⟨s19, 0, none⟩)), (5, .int .i64 (k : Nat))] (by kernel_rfl) rfl (ak (okp (by kernel_rfl) (oka (hs58.cells 6 0 rfl (by kernel_rfl)) ok0)) (ak (okp (by kernel_rfl) (oka (hs58.cells 5 0 rfl (by kernel_rfl)) ok0)) ak0)) ?_
        refine GoR.eqAgg rfl (by kernel_rfl) (b := false) (t := 29) (xs := RepV.cells ((sdo tA mA (l.getD k dReq)).1.1)) (ys := RepV.cells ((sdo tA mA (l.getD k dReq)).1.1)) (m := 2) (by kernel_rfl) (by kernel_rfl) (by decide) (by kernel_rfl) (r := !(decide ((sdo tA mA (l.getD k dReq)).1.1 = (sdo tA mA (l.getD k dReq)).1.1))) (aggNe  (repEq ((sdo tA mA (l.getD k dReq)).1.1) ((sdo tA mA (l.getD k dReq)).1.1))) ?_
        refine GoR.phaseK [(3, .gen [])] [61, 11, 10, 9, 7, 6, 0, 3, 4, 5] [] [(61, .bool (!(decide ((sdo tA mA (l.getD k dReq)).1.1 = (sdo tA mA (l.getD k dReq)).1.1)))), (11, .bool ((sdo ((sdo tA mA (l.getD k dReq)).2.1) ((sdo tA mA (l.getD k dReq)).2.2) (l.getD k dReq)).1.2)), (10, .pointer (some ⟨b54, 0, none⟩)), (9, .bool ((sdo tA mA (l.getD k dReq)).1.2)), (7, .bool ((sdo tA mA (l.getD k dReq)).1.2)), (6, .pointer (some ⟨b36, 0, none⟩)), (0, .slice (some ⟨ab31, ao32, none⟩) l.length c), (3, .pointer (some ⟨s12, 0, none⟩)), (4, .pointer (some ⟨s19, 0, none⟩)), (5, .int .i64 (k : Nat))] (by kernel_rfl) rfl ak0 ?_
        rcases Bool.eq_false_or_eq_true (!(decide ((sdo tA mA (l.getD k dReq)).1.1 = (sdo tA mA (l.getD k dReq)).1.1))) with h59 | h59
        · refine GoR.setB 61 true (by decide) (by kernel_rfl) h59 ?_
          have h59n : (decide ((sdo tA mA (l.getD k dReq)).1.1 = (sdo tA mA (l.getD k dReq)).1.1)) = false := notT h59
          have h59n' : ¬ ((sdo tA mA (l.getD k dReq)).1.1 = (sdo tA mA (l.getD k dReq)).1.1) := of_decide_eq_false h59n
          exact absurd h59 (by simp)
        · refine GoR.setB 61 false (by decide) (by kernel_rfl) h59 ?_
          have h59n : (decide ((sdo tA mA (l.getD k dReq)).1.1 = (sdo tA mA (l.getD k dReq)).1.1)) = true := notF h59
          have h59n' : (sdo tA mA (l.getD k dReq)).1.1 = (sdo tA mA (l.getD k dReq)).1.1 := of_decide_eq_true h59n
          refine GoR.phaseK [(4, .gen []), (5, .gen []), (6, .gen []), (7, .gen []), (8, .gen [])] [66, 11, 10, 7, 6, 0, 3, 4, 5] [] [(66, .bool (!(((sdo tA mA (l.getD k dReq)).1.2) == ((sdo tA mA (l.getD k dReq)).1.2)))), (11, .bool ((sdo ((sdo tA mA (l.getD k dReq)).2.1) ((sdo tA mA (l.getD k dReq)).2.2) (l.getD k dReq)).1.2)), (10, .pointer (some ⟨b54, 0, none⟩)), (7, .bool ((sdo tA mA (l.getD k dReq)).1.2)), (6, .pointer (some ⟨b36, 0, none⟩)), (0, .slice (some ⟨ab31, ao32, none⟩) l.length c), (3, .pointer (some ⟨s12, 0, none⟩)), (4, .pointer (some ⟨s19, 0, none⟩)), (5, .int .i64 (k : Nat))] (by kernel_rfl) rfl ak0 ?_
          rcases Bool.eq_false_or_eq_true (!(((sdo tA mA (l.getD k dReq)).1.2) == ((sdo tA mA (l.getD k dReq)).1.2))) with h60 | h60
          · refine GoR.setB 66 true (by decide) (by kernel_rfl) h60 ?_
            have h60n : (((sdo tA mA (l.getD k dReq)).1.2) == ((sdo tA mA (l.getD k dReq)).1.2)) = false := notT h60
            exact absurd h60 (by simp)
          · refine GoR.setB 66 false (by decide) (by kernel_rfl) h60 ?_
            have h60n : (((sdo tA mA (l.getD k dReq)).1.2) == ((sdo tA mA (l.getD k dReq)).1.2)) = true := notF h60
            refine GoR.phaseK [(9, .gen []), (10, .gen [])] [68, 10, 7, 6, 0, 3, 4, 5] [] [(68, .bool ((sdo ((sdo tA mA (l.getD k dReq)).2.1) ((sdo tA mA (l.getD k dReq)).2.2) (l.getD k dReq)).1.2)), (10, .pointer (some ⟨b54, 0, none⟩)), (7, .bool ((sdo tA mA (l.getD k dReq)).1.2)), (6, .pointer (some ⟨b36, 0, none⟩)), (0, .slice (some ⟨ab31, ao32, none⟩) l.length c), (3, .pointer (some ⟨s12, 0, none⟩)), (4, .pointer (some ⟨s19, 0, none⟩)), (5, .int .i64 (k : Nat))] (by kernel_rfl) rfl ak0 ?_
            refine GoR.done (GoQ.thn ?_)
            refine GoC.cond (t := (sdo ((sdo tA mA (l.getD k dReq)).2.1) ((sdo tA mA (l.getD k dReq)).2.2) (l.getD k dReq)).1.2) (by kernel_rfl) (fun h61 => ?_) (fun h61 => ?_)
            · exact absurd (h61.symm.trans (twiceF hi hot)) (by decide)
            · refine GoC.skip (GoQ.thn (GoC.seq ?_))
              refine GoC.regT [63, 63, 63, 63, 63, 63] (.rd 0 (.rd 1 (.rd 2 (.rd 3 (.rd 4 (.rd 5 .done)))))) (by kernel_rfl) (by kernel_rfl) ?_
              refine GoR.phaseK [(0, .gen []), (1, .gen [])] [70, 10, 6, 0, 3, 4, 5] [] [(70, .bool ((sdo tA mA (l.getD k dReq)).1.2)), (10, .pointer (some ⟨b54, 0, none⟩)), (6, .pointer (some ⟨b36, 0, none⟩)), (0, .slice (some ⟨ab31, ao32, none⟩) l.length c), (3, .pointer (some ⟨s12, 0, none⟩)), (4, .pointer (some ⟨s19, 0, none⟩)), (5, .int .i64 (k : Nat))] (by kernel_rfl) rfl ak0 ?_
              rcases Bool.eq_false_or_eq_true ((sdo tA mA (l.getD k dReq)).1.2) with h62 | h62
              · refine GoR.setB 70 true (by decide) (by kernel_rfl) h62 ?_
                refine GoR.phaseK [(2, .agg (RepV.cells ((sdo ((sdo tA mA (l.getD k dReq)).2.1) ((sdo tA mA (l.getD k dReq)).2.2) (l.getD k dReq)).1.1))), (3, .agg (RepV.cells ((sdo tA mA (l.getD k dReq)).1.1)))] [72, 71, 70, 0, 3, 4, 5] [(2, [.prop (Array.size (RepV.cells ((sdo ((sdo tA mA (l.getD k dReq)).2.1) ((sdo tA mA (l.getD k dReq)).2.2) (l.getD k dReq)).1.1)) = 2), .cells ⟨b54, 0, none⟩ (RepV.cells ((sdo ((sdo tA mA (l.getD k dReq)).2.1) ((sdo tA mA (l.getD k dReq)).2.2) (l.getD k dReq)).1.1))]), (3, [.prop (Array.size (RepV.cells ((sdo tA mA (l.getD k dReq)).1.1)) = 2), .cells ⟨b36, 0, none⟩ (RepV.cells ((sdo tA mA (l.getD k dReq)).1.1))])] [(72, .agg (RepV.cells ((sdo tA mA (l.getD k dReq)).1.1))), (71, .agg (RepV.cells ((sdo ((sdo tA mA (l.getD k dReq)).2.1) ((sdo tA mA (l.getD k dReq)).2.2) (l.getD k dReq)).1.1))), (70, .bool true), (0, .slice (some ⟨ab31, ao32, none⟩) l.length c), (3, .pointer (some ⟨s12, 0, none⟩)), (4, .pointer (some ⟨s19, 0, none⟩)), (5, .int .i64 (k : Nat))] (by kernel_rfl) rfl (ak (okp (by kernel_rfl) (oka (hs58.cells 0 0 rfl (by kernel_rfl)) ok0)) (ak (okp (by kernel_rfl) (oka (hs58.cells 6 0 rfl (by kernel_rfl)) ok0)) ak0)) ?_
                refine GoR.eqAgg rfl (by kernel_rfl) (b := false) (t := 29) (xs := RepV.cells ((sdo ((sdo tA mA (l.getD k dReq)).2.1) ((sdo tA mA (l.getD k dReq)).2.2) (l.getD k dReq)).1.1)) (ys := RepV.cells ((sdo tA mA (l.getD k dReq)).1.1)) (m := 2) (by kernel_rfl) (by kernel_rfl) (by decide) (by kernel_rfl) (r := !(decide ((sdo ((sdo tA mA (l.getD k dReq)).2.1) ((sdo tA mA (l.getD k dReq)).2.2) (l.getD k dReq)).1.1 = (sdo tA mA (l.getD k dReq)).1.1))) (aggNe  (repEq ((sdo ((sdo tA mA (l.getD k dReq)).2.1) ((sdo tA mA (l.getD k dReq)).2.2) (l.getD k dReq)).1.1) ((sdo tA mA (l.getD k dReq)).1.1))) ?_
                refine GoR.phaseK [(5, .gen [])] [74, 0, 3, 4, 5] [] [(74, .bool (!(decide ((sdo ((sdo tA mA (l.getD k dReq)).2.1) ((sdo tA mA (l.getD k dReq)).2.2) (l.getD k dReq)).1.1 = (sdo tA mA (l.getD k dReq)).1.1)))), (0, .slice (some ⟨ab31, ao32, none⟩) l.length c), (3, .pointer (some ⟨s12, 0, none⟩)), (4, .pointer (some ⟨s19, 0, none⟩)), (5, .int .i64 (k : Nat))] (by kernel_rfl) rfl ak0 ?_
                refine GoR.done (GoQ.thn ?_)
                refine GoC.cond (t := !(decide ((sdo ((sdo tA mA (l.getD k dReq)).2.1) ((sdo tA mA (l.getD k dReq)).2.2) (l.getD k dReq)).1.1 = (sdo tA mA (l.getD k dReq)).1.1))) (by kernel_rfl) (fun h63 => ?_) (fun h63 => ?_)
                · have h63n : (decide ((sdo ((sdo tA mA (l.getD k dReq)).2.1) ((sdo tA mA (l.getD k dReq)).2.2) (l.getD k dReq)).1.1 = (sdo tA mA (l.getD k dReq)).1.1)) = false := notT h63
                  have h63n' : ¬ ((sdo ((sdo tA mA (l.getD k dReq)).2.1) ((sdo tA mA (l.getD k dReq)).2.2) (l.getD k dReq)).1.1 = (sdo tA mA (l.getD k dReq)).1.1) := of_decide_eq_false h63n
                  exact absurd h63 (by rw [twiceR hi hot h62]; simp)
                · have h63n : (decide ((sdo ((sdo tA mA (l.getD k dReq)).2.1) ((sdo tA mA (l.getD k dReq)).2.2) (l.getD k dReq)).1.1 = (sdo tA mA (l.getD k dReq)).1.1)) = true := notF h63
                  have h63n' : (sdo ((sdo tA mA (l.getD k dReq)).2.1) ((sdo tA mA (l.getD k dReq)).2.2) (l.getD k dReq)).1.1 = (sdo tA mA (l.getD k dReq)).1.1 := of_decide_eq_true h63n
                  refine GoC.skip (GoQ.blkN (GoQ.thn ?_))
                  refine GoC.regT [7, 7, 7] (.rd 0 (.rd 1 (.rd 2 .done))) (by kernel_rfl) (by kernel_rfl) ?_
                  refine GoR.phaseK [(0, .gen []), (1, .as_ (.int .i64 ((k : Nat) + 1)) (.gen [])), (2, .gen [])] [5, 0, 3, 4] [(1, [.prop (Value.int .i64 (IntKind.i64.wrap ((k : Nat) + 1)) = Value.int .i64 ((k : Nat) + 1))])] [(5, .int .i64 ((k : Nat) + 1)), (0, .slice (some ⟨ab31, ao32, none⟩) l.length c), (3, .pointer (some ⟨s12, 0, none⟩)), (4, .pointer (some ⟨s19, 0, none⟩))] (by kernel_rfl) rfl (ak (okp (i64ok (by omega) (by omega)) ok0) ak0) ?_
                  refine GoR.done ?_
                  have hs64 : St W ((Cel b54 (RepV.cells ((sdo ((sdo tA mA (l.getD k dReq)).2.1) ((sdo tA mA (l.getD k dReq)).2.2) (l.getD k dReq)).1.1)) 29) :: (Cel b45 (RepV.cells ((sdo tA mA (l.getD k dReq)).1.1)) 29) :: (Cel b36 (RepV.cells ((sdo tA mA (l.getD k dReq)).1.1)) 29) :: (Cel s12 #[.pointer (some ⟨q14, 0, none⟩), .pointer (some ⟨p13, 0, none⟩), .int .u64 (ca + 1)] 55) :: (Cel p13 (arrCells LastV.cells ((sdo tA mA (l.getD k dReq)).2.1)) 78) :: (Cel q14 #[.map (some g15)] 75) :: (MapA Value.string Value.string g15 ((sdo tA mA (l.getD k dReq)).2.2)) :: (Cel s19 #[.pointer (some ⟨q21, 0, none⟩), .pointer (some ⟨p20, 0, none⟩), .int .u64 ((cb + 1) + 1)] 55) :: (Cel p20 (arrCells LastV.cells ((sdo tA mA (l.getD k dReq)).2.1)) 78) :: (Cel q21 #[.map (some g22)] 75) :: (MapA Value.string Value.string g22 ((sdo tA mA (l.getD k dReq)).2.2)) :: (Base W) :: []) w57 := ((((((((((((hs58.pull 11 rfl).pull 5 rfl).pull 5 rfl).pull 5 rfl).pull 5 rfl).pull 11 rfl).pull 11 rfl).pull 11 rfl).pull 11 rfl).pull 11 rfl).pull 11 rfl).pull 11 rfl)
                  have hs65 : St W ((Cel s12 #[.pointer (some ⟨q14, 0, none⟩), .pointer (some ⟨p13, 0, none⟩), .int .u64 (ca + 1)] 55) :: (Cel p13 (arrCells LastV.cells ((sdo tA mA (l.getD k dReq)).2.1)) 78) :: (Cel q14 #[.map (some g15)] 75) :: (MapA Value.string Value.string g15 ((sdo tA mA (l.getD k dReq)).2.2)) :: (Cel s19 #[.pointer (some ⟨q21, 0, none⟩), .pointer (some ⟨p20, 0, none⟩), .int .u64 ((cb + 1) + 1)] 55) :: (Cel p20 (arrCells LastV.cells ((sdo tA mA (l.getD k dReq)).2.1)) 78) :: (Cel q21 #[.map (some g22)] 75) :: (MapA Value.string Value.string g22 ((sdo tA mA (l.getD k dReq)).2.2)) :: (Base W) :: []) w57 := hs64.drop 3
                  exact GoQ.back (k + 1, (sdo tA mA (l.getD k dReq)).2.1, (sdo tA mA (l.getD k dReq)).2.2, ca + 1, (cb + 1) + 1) [0, 3, 4, 5] (by kernel_rfl) (by show l.length - (k + 1) < l.length - k; omega) ⟨⟨by omega, (by show ca + 1 = ((k + 1 : Nat) : Int); omega), (by show cb + 1 + 1 = 2 * ((k + 1 : Nat) : Int); omega), tnext hi hot⟩, hs65⟩
              · refine GoR.setB 70 false (by decide) (by kernel_rfl) h62 ?_
                refine GoR.phaseK [(2, .gen []), (3, .gen []), (4, .gen []), (5, .gen [])] [74, 0, 3, 4, 5] [] [(74, .bool false), (0, .slice (some ⟨ab31, ao32, none⟩) l.length c), (3, .pointer (some ⟨s12, 0, none⟩)), (4, .pointer (some ⟨s19, 0, none⟩)), (5, .int .i64 (k : Nat))] (by kernel_rfl) rfl ak0 ?_
                refine GoR.done (GoQ.thn (GoC.condF (by kernel_rfl) (GoC.skip (GoQ.blkN (GoQ.thn ?_)))))
                refine GoC.regT [7, 7, 7] (.rd 0 (.rd 1 (.rd 2 .done))) (by kernel_rfl) (by kernel_rfl) ?_
                refine GoR.phaseK [(0, .gen []), (1, .as_ (.int .i64 ((k : Nat) + 1)) (.gen [])), (2, .gen [])] [5, 0, 3, 4] [(1, [.prop (Value.int .i64 (IntKind.i64.wrap ((k : Nat) + 1)) = Value.int .i64 ((k : Nat) + 1))])] [(5, .int .i64 ((k : Nat) + 1)), (0, .slice (some ⟨ab31, ao32, none⟩) l.length c), (3, .pointer (some ⟨s12, 0, none⟩)), (4, .pointer (some ⟨s19, 0, none⟩))] (by kernel_rfl) rfl (ak (okp (i64ok (by omega) (by omega)) ok0) ak0) ?_
                refine GoR.done ?_
                have hs66 : St W ((Cel b54 (RepV.cells ((sdo ((sdo tA mA (l.getD k dReq)).2.1) ((sdo tA mA (l.getD k dReq)).2.2) (l.getD k dReq)).1.1)) 29) :: (Cel b45 (RepV.cells ((sdo tA mA (l.getD k dReq)).1.1)) 29) :: (Cel b36 (RepV.cells ((sdo tA mA (l.getD k dReq)).1.1)) 29) :: (Cel s12 #[.pointer (some ⟨q14, 0, none⟩), .pointer (some ⟨p13, 0, none⟩), .int .u64 (ca + 1)] 55) :: (Cel p13 (arrCells LastV.cells ((sdo tA mA (l.getD k dReq)).2.1)) 78) :: (Cel q14 #[.map (some g15)] 75) :: (MapA Value.string Value.string g15 ((sdo tA mA (l.getD k dReq)).2.2)) :: (Cel s19 #[.pointer (some ⟨q21, 0, none⟩), .pointer (some ⟨p20, 0, none⟩), .int .u64 ((cb + 1) + 1)] 55) :: (Cel p20 (arrCells LastV.cells ((sdo tA mA (l.getD k dReq)).2.1)) 78) :: (Cel q21 #[.map (some g22)] 75) :: (MapA Value.string Value.string g22 ((sdo tA mA (l.getD k dReq)).2.2)) :: (Base W) :: []) w57 := ((((((((((((hs58.pull 11 rfl).pull 5 rfl).pull 5 rfl).pull 5 rfl).pull 5 rfl).pull 11 rfl).pull 11 rfl).pull 11 rfl).pull 11 rfl).pull 11 rfl).pull 11 rfl).pull 11 rfl)
                have hs67 : St W ((Cel s12 #[.pointer (some ⟨q14, 0, none⟩), .pointer (some ⟨p13, 0, none⟩), .int .u64 (ca + 1)] 55) :: (Cel p13 (arrCells LastV.cells ((sdo tA mA (l.getD k dReq)).2.1)) 78) :: (Cel q14 #[.map (some g15)] 75) :: (MapA Value.string Value.string g15 ((sdo tA mA (l.getD k dReq)).2.2)) :: (Cel s19 #[.pointer (some ⟨q21, 0, none⟩), .pointer (some ⟨p20, 0, none⟩), .int .u64 ((cb + 1) + 1)] 55) :: (Cel p20 (arrCells LastV.cells ((sdo tA mA (l.getD k dReq)).2.1)) 78) :: (Cel q21 #[.map (some g22)] 75) :: (MapA Value.string Value.string g22 ((sdo tA mA (l.getD k dReq)).2.2)) :: (Base W) :: []) w57 := hs66.drop 3
                exact GoQ.back (k + 1, (sdo tA mA (l.getD k dReq)).2.1, (sdo tA mA (l.getD k dReq)).2.2, ca + 1, (cb + 1) + 1) [0, 3, 4, 5] (by kernel_rfl) (by show l.length - (k + 1) < l.length - k; omega) ⟨⟨by omega, (by show ca + 1 = ((k + 1 : Nat) : Int); omega), (by show cb + 1 + 1 = 2 * ((k + 1 : Nat) : Int); omega), tnext hi hot⟩, hs67⟩
      · have h30' : ¬ (((k : Nat) : Int) < (l.length : Nat)) := of_decide_eq_false h30
        have hk : k = l.length := by omega
        refine GoC.exit (GoQ.skipC (GoQ.skipL (GoQ.hit (GoQ.thn (GoC.seq ?_)))))
        refine GoC.regT [7, 7, 7] (.rd 0 (.ef 1 (.rd 2 .done))) (by kernel_rfl) (by kernel_rfl) ?_
        refine GoR.phaseK [(0, .gen [])] [75, 0, 3, 4] [] [(75, .pointer (some ⟨s12, 0, none⟩)), (0, .slice ad l.length c), (3, .pointer (some ⟨s12, 0, none⟩)), (4, .pointer (some ⟨s19, 0, none⟩))] (by kernel_rfl) rfl ak0 ?_
        refine GoR.call rfl rfl (by kernel_rfl) (f := 8) (args := #[.pointer (some ⟨s12, 0, none⟩)]) (by kernel_rfl) Tryz.call8 (bytes_spec tA mA ca hi.len (Nat.le_trans hi.inv.len (by decide)) hi.lastS hi.few hi.itemS (by omega) hs29) ?_
        rintro v71 w72 ⟨ad68, c69, rfl, hs70⟩
        refine ⟨(opn (by kernel_rfl)), ?_⟩
        refine GoR.phaseK [(2, .gen [])] [12, 0, 3, 4] [] [(12, .slice ad68 ((wd ca ++ tailB tA (lst mA)).length) c69), (0, .slice ad l.length c), (3, .pointer (some ⟨s12, 0, none⟩)), (4, .pointer (some ⟨s19, 0, none⟩))] (by kernel_rfl) rfl ak0 ?_
        refine GoR.done (GoQ.thn (GoC.seq ?_))
        refine GoC.regT [7, 7, 7] (.rd 0 (.ef 1 (.rd 2 .done))) (by kernel_rfl) (by kernel_rfl) ?_
        refine GoR.phaseK [(0, .gen [])] [77, 12, 0, 3, 4] [] [(77, .pointer (some ⟨s19, 0, none⟩)), (12, .slice ad68 ((wd ca ++ tailB tA (lst mA)).length) c69), (0, .slice ad l.length c), (3, .pointer (some ⟨s12, 0, none⟩)), (4, .pointer (some ⟨s19, 0, none⟩))] (by kernel_rfl) rfl ak0 ?_
        have hs73 : St W ((Cel s19 #[.pointer (some ⟨q21, 0, none⟩), .pointer (some ⟨p20, 0, none⟩), .int .u64 cb] 55) :: (Cel p20 (arrCells LastV.cells tA) 78) :: (Cel q21 #[.map (some g22)] 75) :: (MapA Value.string Value.string g22 mA) :: (Sl ad68 c69 5 1 byteC (wd ca ++ tailB tA (lst mA))) :: (Cel s12 #[.pointer (some ⟨q14, 0, none⟩), .pointer (some ⟨p13, 0, none⟩), .int .u64 ca] 55) :: (Cel p13 (arrCells LastV.cells tA) 78) :: (Cel q14 #[.map (some g15)] 75) :: (MapA Value.string Value.string g15 mA) :: (Base W) :: []) w72 := ((((hs70.pull 8 rfl).pull 8 rfl).pull 8 rfl).pull 8 rfl)
        refine GoR.call rfl rfl (by kernel_rfl) (f := 8) (args := #[.pointer (some ⟨s19, 0, none⟩)]) (by kernel_rfl) Tryz.call8 (bytes_spec tA mA cb hi.len (Nat.le_trans hi.inv.len (by decide)) hi.lastS hi.few hi.itemS (by omega) hs73) ?_
        rintro v77 w78 ⟨ad74, c75, rfl, hs76⟩
        refine ⟨(opn (by kernel_rfl)), ?_⟩
        refine GoR.phaseK [(2, .gen [])] [13, 12, 0, 3, 4] [] [(13, .slice ad74 ((wd cb ++ tailB tA (lst mA)).length) c75), (12, .slice ad68 ((wd ca ++ tailB tA (lst mA)).length) c69), (0, .slice ad l.length c), (3, .pointer (some ⟨s12, 0, none⟩)), (4, .pointer (some ⟨s19, 0, none⟩))] (by kernel_rfl) rfl ak0 ?_
        refine GoR.done (GoQ.thn (GoC.seq ?_))
        refine GoC.regD [0, 1, 0, 4, 12, 31, 63, 127, 255, 127, 639, 1663, 3711, 8191, 16383, 32767, 65535, 131071, 262143, 524287, 1048575, 2097151, 4194303, 2097151, 10485759, 33554431, 67108863, 134217727, 268435455, 536870911, 1073741823, 268435455, 2415919103, 6710886399, 17179869183, 34359738367, 68719476735, 137438953471, 274877906943, 549755813887] (.rd 0 (.rd 2 (.rd 3 (.rd 4 (.ef 1 (.rd 5 (.rd 6 (.rd 7 (.rd 9 (.rd 10 (.rd 11 (.rd 12 (.ef 8 (.rd 13 (.rd 14 (.rd 15 (.rd 16 (.rd 17 (.rd 18 (.rd 19 (.rd 20 (.rd 21 (.rd 22 (.rd 23 (.rd 24 (.rd 25 (.rd 26 (.rd 27 (.rd 28 (.rd 29 (.rd 30 (.rd 31 (.rd 32 (.rd 33 (.rd 34 (.rd 35 (.rd 36 (.ef 37 (.rd 38 (.rd 39 .done)))))))))))))))))))))))))))))))))))))))) (by kernel_rfl) (by kernel_rfl) noPan_body (by kernel_rfl) hs76 ?_
        intro w79 hs80 hw81
        refine GoR.phaseK [(0, .gen []), (2, .gen []), (3, .gen []), (4, .as_ (.int .u64 (l.length : Nat)) (.gen []))] [83, 79, 13, 12, 0, 4] [(4, [.prop (Value.int .u64 (IntKind.u64.wrap (l.length : Nat)) = Value.int .u64 (l.length : Nat))])] [(83, .int .u64 (l.length : Nat)), (79, .pointer (some ⟨s12, 0, none⟩)), (13, .slice ad74 ((wd cb ++ tailB tA (lst mA)).length) c75), (12, .slice ad68 ((wd ca ++ tailB tA (lst mA)).length) c69), (0, .slice ad l.length c), (4, .pointer (some ⟨s19, 0, none⟩))] (by kernel_rfl) rfl (ak (okp (u64ok (by omega) (by omega)) ok0) ak0) ?_
        have hs82 : St W ((Cel s12 #[.pointer (some ⟨q14, 0, none⟩), .pointer (some ⟨p13, 0, none⟩), .int .u64 ca] 55) :: (Cel p13 (arrCells LastV.cells tA) 78) :: (Cel q14 #[.map (some g15)] 75) :: (MapA Value.string Value.string g15 mA) :: (Sl ad74 c75 5 1 byteC (wd cb ++ tailB tA (lst mA))) :: (Cel s19 #[.pointer (some ⟨q21, 0, none⟩), .pointer (some ⟨p20, 0, none⟩), .int .u64 cb] 55) :: (Cel p20 (arrCells LastV.cells tA) 78) :: (Cel q21 #[.map (some g22)] 75) :: (MapA Value.string Value.string g22 mA) :: (Sl ad68 c69 5 1 byteC (wd ca ++ tailB tA (lst mA))) :: (Base W) :: []) w79 := ((((hs80.pull 9 rfl).pull 9 rfl).pull 9 rfl).pull 9 rfl)
        refine GoR.call rfl rfl (by kernel_rfl) (f := 9) (args := #[.pointer (some ⟨s12, 0, none⟩)]) (by kernel_rfl) Tryz.call9 (stCount_spec tA mA ca hs82) ?_
        rintro v84 w85 ⟨rfl, hs83⟩
        refine ⟨(opl (n := [.prop (Value.int .u64 (IntKind.u64.wrap (l.length : Nat)) = Value.int .u64 (l.length : Nat))]) (by kernel_rfl) (okp (u64ok (by omega) (by omega)) ok0)), ?_⟩
        refine GoR.phaseK [(5, .gen []), (6, .gen [])] [85, 13, 12, 0, 4] [] [(85, .bool ((ca : Int) == (l.length : Nat))), (13, .slice ad74 ((wd cb ++ tailB tA (lst mA)).length) c75), (12, .slice ad68 ((wd ca ++ tailB tA (lst mA)).length) c69), (0, .slice ad l.length c), (4, .pointer (some ⟨s19, 0, none⟩))] (by kernel_rfl) rfl ak0 ?_
        rcases Bool.eq_false_or_eq_true ((ca : Int) == (l.length : Nat)) with h86 | h86
        · refine GoR.setB 85 true (by decide) (by kernel_rfl) h86 ?_
          have h86' : (ca : Int) = (l.length : Nat) := ieqT h86
          refine GoR.phaseK [(7, .gen []), (9, .gen []), (10, .gen []), (11, .as_ (.int .u64 (l.length : Nat)) (.gen [])), (12, .as_ (.int .u64 (2 * (l.length : Nat))) (.gen []))] [91, 86, 85, 13, 12] [(11, [.prop (Value.int .u64 (IntKind.u64.wrap (l.length : Nat)) = Value.int .u64 (l.length : Nat))]), (12, [.prop (Value.int .u64 (IntKind.u64.wrap (2 * (l.length : Nat))) = Value.int .u64 (2 * (l.length : Nat)))])] [(91, .int .u64 (2 * (l.length : Nat))), (86, .pointer (some ⟨s19, 0, none⟩)), (85, .bool true), (13, .slice ad74 ((wd cb ++ tailB tA (lst mA)).length) c75), (12, .slice ad68 ((wd ca ++ tailB tA (lst mA)).length) c69)] (by kernel_rfl) rfl (ak (okp (u64ok (by omega) (by omega)) ok0) (ak (okp (u64ok (by omega) (by omega)) ok0) ak0)) ?_
          have hs87 : St W ((Cel s19 #[.pointer (some ⟨q21, 0, none⟩), .pointer (some ⟨p20, 0, none⟩), .int .u64 cb] 55) :: (Cel p20 (arrCells LastV.cells tA) 78) :: (Cel q21 #[.map (some g22)] 75) :: (MapA Value.string Value.string g22 mA) :: (Cel s12 #[.pointer (some ⟨q14, 0, none⟩), .pointer (some ⟨p13, 0, none⟩), .int .u64 ca] 55) :: (Cel p13 (arrCells LastV.cells tA) 78) :: (Cel q14 #[.map (some g15)] 75) :: (MapA Value.string Value.string g15 mA) :: (Sl ad74 c75 5 1 byteC (wd cb ++ tailB tA (lst mA))) :: (Sl ad68 c69 5 1 byteC (wd ca ++ tailB tA (lst mA))) :: (Base W) :: []) w85 := ((((hs83.pull 8 rfl).pull 8 rfl).pull 8 rfl).pull 8 rfl)
          refine GoR.call rfl rfl (by kernel_rfl) (f := 9) (args := #[.pointer (some ⟨s19, 0, none⟩)]) (by kernel_rfl) Tryz.call9 (stCount_spec tA mA cb hs87) ?_
          rintro v89 w90 ⟨rfl, hs88⟩
          refine ⟨(opl (n := [.prop (Value.int .u64 (IntKind.u64.wrap (2 * (l.length : Nat))) = Value.int .u64 (2 * (l.length : Nat))), .prop (Value.int .u64 (IntKind.u64.wrap (l.length : Nat)) = Value.int .u64 (l.length : Nat))]) (by kernel_rfl) (okp (u64ok (by omega) (by omega)) (okp (u64ok (by omega) (by omega)) ok0))), ?_⟩
          refine GoR.phaseK [(13, .gen []), (14, .gen []), (15, .gen [])] [94, 13, 12] [] [(94, .bool ((cb : Int) == (2 * (l.length : Nat)))), (13, .slice ad74 ((wd cb ++ tailB tA (lst mA)).length) c75), (12, .slice ad68 ((wd ca ++ tailB tA (lst mA)).length) c69)] (by kernel_rfl) rfl ak0 ?_
          rcases Bool.eq_false_or_eq_true ((cb : Int) == (2 * (l.length : Nat))) with h91 | h91
          · refine GoR.setB 94 true (by decide) (by kernel_rfl) h91 ?_
            have h91' : (cb : Int) = (2 * (l.length : Nat)) := ieqT h91
            refine GoR.phaseK [(16, .gen []), (17, .gen []), (18, .gen []), (19, .gen []), (20, .gen [])] [99, 13, 12] [] [(99, .bool (decide ((((wd ca ++ tailB tA (lst mA)).length : Nat) : Int) ≥ 8))), (13, .slice ad74 ((wd cb ++ tailB tA (lst mA)).length) c75), (12, .slice ad68 ((wd ca ++ tailB tA (lst mA)).length) c69)] (by kernel_rfl) rfl ak0 ?_
            rcases Bool.eq_false_or_eq_true (decide ((((wd ca ++ tailB tA (lst mA)).length : Nat) : Int) ≥ 8)) with h92 | h92
            · refine GoR.setB 99 true (by decide) (by kernel_rfl) h92 ?_
              have h92' : (((wd ca ++ tailB tA (lst mA)).length : Nat) : Int) ≥ 8 := of_decide_eq_true h92
              refine GoR.phaseK [(21, .gen []), (22, .gen []), (23, .gen []), (24, .gen []), (25, .gen []), (26, .gen []), (27, .gen [])] [106, 13, 12] [] [(106, .bool ((((wd ca ++ tailB tA (lst mA)).length : Nat) : Int) == ((wd cb ++ tailB tA (lst mA)).length : Nat))), (13, .slice ad74 ((wd cb ++ tailB tA (lst mA)).length) c75), (12, .slice ad68 ((wd ca ++ tailB tA (lst mA)).length) c69)] (by kernel_rfl) rfl ak0 ?_
              rcases Bool.eq_false_or_eq_true ((((wd ca ++ tailB tA (lst mA)).length : Nat) : Int) == ((wd cb ++ tailB tA (lst mA)).length : Nat)) with h93 | h93
              · refine GoR.setB 106 true (by decide) (by kernel_rfl) h93 ?_
                have h93' : (((wd ca ++ tailB tA (lst mA)).length : Nat) : Int) = ((wd cb ++ tailB tA (lst mA)).length : Nat) := ieqT h93
                have hcap94 := Sl.cap (hs88.at_ 9 rfl)
                refine GoR.phaseK [(28, .gen []), (29, .as_ (.slice (subAd ad68 c69 8 1) (((wd ca ++ tailB tA (lst mA)).drop 8).length) (c69 - 8)) (.sub 8 ((wd ca ++ tailB tA (lst mA)).length)))] [108, 106, 13] [(29, [.prop ((8 : Int) = ((8 : Nat) : Int)), .prop ((some (Operand.const (.int .i64 8)) = none → (8 : Nat) = 0) ∧ ((none : Option Operand) = none → ((wd ca ++ tailB tA (lst mA)).length : Nat) = (wd ca ++ tailB tA (lst mA)).length) ∧ (8 : Nat) ≤ (wd ca ++ tailB tA (lst mA)).length ∧ ((wd ca ++ tailB tA (lst mA)).length : Nat) ≤ c69), .prop (Value.slice (if c69 = 8 then ad68 else (ad68 : Option Addr).map (fun a => a.add (8 * 1))) (((wd ca ++ tailB tA (lst mA)).length) - 8) (c69 - 8) = Value.slice (subAd ad68 c69 8 1) (((wd ca ++ tailB tA (lst mA)).drop 8).length) (c69 - 8))])] [(108, .slice (subAd ad68 c69 8 1) (((wd ca ++ tailB tA (lst mA)).drop 8).length) (c69 - 8)), (106, .bool true), (13, .slice ad74 ((wd cb ++ tailB tA (lst mA)).length) c75)] (by kernel_rfl) rfl (ak (okp (by omega) (okp ⟨(by first | (intro _; rfl) | (intro hc; cases hc)), (by first | (intro _; rfl) | (intro hc; cases hc)), (by omega), (by omega)⟩ (okp (subSl (by simp only [List.length_take, List.length_drop] <;> omega)) ok0))) ak0) ?_
                refine GoR.bytesStrO rfl (by kernel_rfl) (src := 38) (dst := 9) (e := 5) (ad := (subAd ad68 c69 8 1)) (n := (((wd ca ++ tailB tA (lst mA)).drop 8).length)) (cap := (c69 - 8)) (f := byteC) rfl ((wd ca ++ tailB tA (lst mA)).drop 8) rfl (by kernel_rfl) (by kernel_rfl) (by kernel_rfl) (by kernel_rfl) (byt_drop _ _ _) (pos_drop _ _ _) (RowsAt.dropL (hs88.rows 9 rfl (byteF).size (0 : Int)) (by omega) (by omega)) ?_
                have hcap95 := Sl.cap (hs88.at_ 8 rfl)
                refine GoR.phaseK [(31, .gen []), (32, .as_ (.slice (subAd ad74 c75 8 1) (((wd cb ++ tailB tA (lst mA)).drop 8).length) (c75 - 8)) (.sub 8 ((wd cb ++ tailB tA (lst mA)).length)))] [111, 109, 106] [(32, [.prop ((8 : Int) = ((8 : Nat) : Int)), .prop ((some (Operand.const (.int .i64 8)) = none → (8 : Nat) = 0) ∧ ((none : Option Operand) = none → ((wd cb ++ tailB tA (lst mA)).length : Nat) = (wd cb ++ tailB tA (lst mA)).length) ∧ (8 : Nat) ≤ (wd cb ++ tailB tA (lst mA)).length ∧ ((wd cb ++ tailB tA (lst mA)).length : Nat) ≤ c75), .prop (Value.slice (if c75 = 8 then ad74 else (ad74 : Option Addr).map (fun a => a.add (8 * 1))) (((wd cb ++ tailB tA (lst mA)).length) - 8) (c75 - 8) = Value.slice (subAd ad74 c75 8 1) (((wd cb ++ tailB tA (lst mA)).drop 8).length) (c75 - 8))])] [(111, .slice (subAd ad74 c75 8 1) (((wd cb ++ tailB tA (lst mA)).drop 8).length) (c75 - 8)), (109, .string (strOf ((wd ca ++ tailB tA (lst mA)).drop 8))), (106, .bool true)] (by kernel_rfl) rfl (ak (okp (by omega) (okp ⟨(by first | (intro _; rfl) | (intro hc; cases hc)), (by first | (intro _; rfl) | (intro hc; cases hc)), (by omega), (by omega)⟩ (okp (subSl (by simp only [List.length_take, List.length_drop] <;> omega)) ok0))) ak0) ?_
                refine GoR.bytesStrO rfl (by kernel_rfl) (src := 38) (dst := 9) (e := 5) (ad := (subAd ad74 c75 8 1)) (n := (((wd cb ++ tailB tA (lst mA)).drop 8).length)) (cap := (c75 - 8)) (f := byteC) rfl ((wd cb ++ tailB tA (lst mA)).drop 8) rfl (by kernel_rfl) (by kernel_rfl) (by kernel_rfl) (by kernel_rfl) (byt_drop _ _ _) (pos_drop _ _ _) (RowsAt.dropL (hs88.rows 8 rfl (byteF).size (0 : Int)) (by omega) (by omega)) ?_
                refine GoR.phaseK [(34, .as_ (.bool (decide ((strOf ((wd ca ++ tailB tA (lst mA)).drop 8)) = (strOf ((wd cb ++ tailB tA (lst mA)).drop 8))))) (.gen [])), (35, .gen []), (36, .gen [])] [115] [(34, [.prop (Value.bool ((strOf ((wd ca ++ tailB tA (lst mA)).drop 8)).toList == (strOf ((wd cb ++ tailB tA (lst mA)).drop 8)).toList) = Value.bool (decide ((strOf ((wd ca ++ tailB tA (lst mA)).drop 8)) = (strOf ((wd cb ++ tailB tA (lst mA)).drop 8)))))])] [(115, .bool (decide ((strOf ((wd ca ++ tailB tA (lst mA)).drop 8)) = (strOf ((wd cb ++ tailB tA (lst mA)).drop 8)))))] (by kernel_rfl) rfl (ak (okp (seq _ _) ok0) ak0) ?_
                rcases Bool.eq_false_or_eq_true (decide ((strOf ((wd ca ++ tailB tA (lst mA)).drop 8)) = (strOf ((wd cb ++ tailB tA (lst mA)).drop 8)))) with h96 | h96
                · refine GoR.setB 115 true (by decide) (by kernel_rfl) h96 ?_
                  have h96' : (strOf ((wd ca ++ tailB tA (lst mA)).drop 8)) = (strOf ((wd cb ++ tailB tA (lst mA)).drop 8)) := of_decide_eq_true h96
                  refine GoR.call rfl rfl (by kernel_rfl) (f := 5) (args := #[]) (by kernel_rfl) Tryz.call5 (staWorks_spec (fun w h => hLW.base h 10 rfl) hs88) ?_
                  rintro v98 w99 ⟨rfl, hs97⟩
                  refine ⟨(opn (by kernel_rfl)), ?_⟩
                  refine GoR.phaseK [(38, .gen []), (39, .gen [])] [2] [] [(2, .bool true)] (by kernel_rfl) rfl ak0 ?_
                  refine GoR.done (GoQ.thn (GoC.ret ?_))
                  refine GoQ.done (.inl rfl) (v := .bool true) (fun a hf => results1 rfl (by kernel_rfl) a hf) ?_
                  exact ⟨rfl, hs97.below 10 rfl⟩
                · refine GoR.setB 115 false (by decide) (by kernel_rfl) h96 ?_
                  have h96' : ¬ ((strOf ((wd ca ++ tailB tA (lst mA)).drop 8)) = (strOf ((wd cb ++ tailB tA (lst mA)).drop 8))) := of_decide_eq_false h96
                  exact absurd h96 (by rw [drop_wd, drop_wd]; simp)
              · refine GoR.setB 106 false (by decide) (by kernel_rfl) h93 ?_
                have h93' : ¬ ((((wd ca ++ tailB tA (lst mA)).length : Nat) : Int) = ((wd cb ++ tailB tA (lst mA)).length : Nat)) := ieqF h93
                exfalso
                have hl1 := long_all ca tA (lst mA)
                have hl2 := long_all cb tA (lst mA)
                have hl3 := tail_long tA (lst mA)
                omega
            · refine GoR.setB 99 false (by decide) (by kernel_rfl) h92 ?_
              have h92' : ¬ ((((wd ca ++ tailB tA (lst mA)).length : Nat) : Int) ≥ 8) := of_decide_eq_false h92
              exfalso
              have hl1 := long_all ca tA (lst mA)
              have hl2 := long_all cb tA (lst mA)
              have hl3 := tail_long tA (lst mA)
              omega
          · refine GoR.setB 94 false (by decide) (by kernel_rfl) h91 ?_
            have h91' : ¬ ((cb : Int) = (2 * (l.length : Nat))) := ieqF h91
            exfalso; omega
        · refine GoR.setB 85 false (by decide) (by kernel_rfl) h86 ?_
          have h86' : ¬ ((ca : Int) = (l.length : Nat)) := ieqF h86
          exfalso; omega
end Go.Proofs.YtggkhhogpallbaaGreatDoor
