/-
  The walk of SessionBack.
-/
import Derived.Test.YtkeckbgkhpaofaaDoorProg
import Derived.Test.YtkeckbgkhpaofaaDoorBakP
namespace Go.Proofs.YtkeckbgkhpaofaaDoor
open Go.RowKit Go.Sx
set_option linter.unusedVariables false
set_option linter.unusedSimpArgs false
set_option linter.unnecessarySimpa false
set_option maxRecDepth 100000
theorem back_walk (W : World) (hLW : Laid W) (ad : Option Addr) (c : Nat) (l : List ReqV) (cut : Int) (hok : ∀ q ∈ l, ReqV.OK q) (hcut : 0 ≤ cut ∧ cut ≤ 255) (hln : l.length ≤ 1100000000000) (rw : RowsAt W ad l.length 40 (fun k => ReqV.cells (l.getD k dReq))) : Calls Tryd.prog 12 #[.slice ad l.length c, .int .u8 cut] W (Ret fun rv w' => rv = .bool true ∧ Below W.heap.size W w') := by
  refine enter (args := [.slice ad l.length c, .int .u8 cut]) Tryd.func12 rfl Tryd.ntmps12 (Nat.le_of_ble_eq_true (by kernel_rfl)) ?_
  refine GoC.slots (S' := [(0, .slice ad l.length c), (1, .int .u8 cut)]) rfl ?_
  refine GoC.seq ?_
  refine GoC.regT [1] (.rd 0 .done) (by kernel_rfl) (by kernel_rfl) ?_
  refine GoR.phaseK [(0, .gen [])] [4, 0, 1] [] [(4, .bool false), (0, .slice ad l.length c), (1, .int .u8 cut)] (by kernel_rfl) rfl ak0 ?_
  refine GoR.done (GoQ.thn (GoC.seq (GoC.seq ?_)))
  refine GoC.regT [255, 255, 255, 255, 255, 255, 255, 255] (.rd 0 (.ef 1 (.rd 2 (.rd 3 (.rd 4 (.rd 5 (.rd 6 (.rd 7 .done)))))))) (by kernel_rfl) (by kernel_rfl) ?_
  refine GoR.phaseK [(0, .gen [])] [21, 4, 0, 1] [] [(21, .slice ad l.length c), (4, .bool false), (0, .slice ad l.length c), (1, .int .u8 cut)] (by kernel_rfl) rfl ak0 ?_
  refine GoR.call rfl rfl (by kernel_rfl) (f := 13) (args := #[.slice ad l.length c]) (by kernel_rfl) Tryd.call13 (few10_spec l (fun q hq => (hok q hq).op.small) (by first | assumption | omega) (fun w h => rw.base (fun k _ => (reqF).size _) h 0 rfl) (St.start W)) ?_
  rintro v2 w3 ⟨rfl, hs1⟩
  refine ⟨(opn (by kernel_rfl)), ?_⟩
  refine GoR.phaseK [(2, .gen []), (3, .gen [])] [24, 4, 0, 1] [] [(24, .bool (!(few (l.map fun r => r.op)))), (4, .bool false), (0, .slice ad l.length c), (1, .int .u8 cut)] (by kernel_rfl) rfl ak0 ?_
  rcases Bool.eq_false_or_eq_true (!(few (l.map fun r => r.op))) with h4 | h4
  · refine GoR.setB 24 true (by decide) (by kernel_rfl) h4 ?_
    have h4n : (few (l.map fun r => r.op)) = false := notT h4
    refine GoR.phaseK [(4, .gen []), (5, .gen []), (6, .gen []), (7, .gen [])] [28, 4, 0, 1] [] [(28, .bool true), (4, .bool false), (0, .slice ad l.length c), (1, .int .u8 cut)] (by kernel_rfl) rfl ak0 ?_
    refine GoR.done (GoQ.thn (GoC.condT (by kernel_rfl) (GoC.seq ?_)))
    refine GoC.regT [3, 3] (.ef 0 (.rd 1 .done)) (by kernel_rfl) (by kernel_rfl) ?_
    refine GoR.call rfl rfl (by kernel_rfl) (f := 14) (args := #[]) (by kernel_rfl) Tryd.call14 (works10_spec (fun w h => hLW.base h 0 rfl) hs1) ?_
    rintro v6 w7 ⟨rfl, hs5⟩
    refine ⟨(opn (by kernel_rfl)), ?_⟩
    refine GoR.phaseK [(1, .gen [])] [4, 0, 1] [] [(4, .bool true), (0, .slice ad l.length c), (1, .int .u8 cut)] (by kernel_rfl) rfl ak0 ?_
    refine GoR.done (GoQ.thn (GoC.ret (GoQ.skipCR ?_)))
    refine GoQ.done (.inl rfl) (v := .bool true) (fun a hf => results1 rfl (by kernel_rfl) a hf) ?_
    exact ⟨rfl, hs5.below 0 rfl⟩
  · refine GoR.setB 24 false (by decide) (by kernel_rfl) h4 ?_
    have h4n : (few (l.map fun r => r.op)) = true := notF h4
    refine GoR.phaseK [(4, .gen []), (5, .gen []), (6, .gen []), (7, .gen [])] [28, 4, 0, 1] [] [(28, .bool (decide (((l.length : Nat) : Int) > 120))), (4, .bool false), (0, .slice ad l.length c), (1, .int .u8 cut)] (by kernel_rfl) rfl ak0 ?_
    refine GoR.done (GoQ.thn ?_)
    refine GoC.cond (t := decide (((l.length : Nat) : Int) > 120)) (by kernel_rfl) (fun h8 => ?_) (fun h8 => ?_)
    · have h8' : ((l.length : Nat) : Int) > 120 := of_decide_eq_true h8
      refine GoC.seq ?_
      refine GoC.regT [3, 3] (.ef 0 (.rd 1 .done)) (by kernel_rfl) (by kernel_rfl) ?_
      refine GoR.call rfl rfl (by kernel_rfl) (f := 14) (args := #[]) (by kernel_rfl) Tryd.call14 (works10_spec (fun w h => hLW.base h 0 rfl) hs1) ?_
      rintro v10 w11 ⟨rfl, hs9⟩
      refine ⟨(opn (by kernel_rfl)), ?_⟩
      refine GoR.phaseK [(1, .gen [])] [4, 0, 1] [] [(4, .bool true), (0, .slice ad l.length c), (1, .int .u8 cut)] (by kernel_rfl) rfl ak0 ?_
      refine GoR.done (GoQ.thn (GoC.ret (GoQ.skipCR ?_)))
      refine GoQ.done (.inl rfl) (v := .bool true) (fun a hf => results1 rfl (by kernel_rfl) a hf) ?_
      exact ⟨rfl, hs9.below 0 rfl⟩
    · have h8' : ¬ (((l.length : Nat) : Int) > 120) := of_decide_eq_false h8
      refine GoC.skip (GoQ.thn (GoC.seq ?_))
      refine GoC.regT [3, 3] (.ef 0 (.rd 1 .done)) (by kernel_rfl) (by kernel_rfl) ?_
      refine GoR.call rfl rfl (by kernel_rfl) (f := 17) (args := #[]) (by kernel_rfl) Tryd.call17 (sesNew_spec hs1) ?_
      rintro v14 w15 ⟨p12, rfl, hs13⟩
      refine ⟨(opn (by kernel_rfl)), ?_⟩
      refine GoR.phaseK [(1, .gen [])] [5, 4, 0, 1] [] [(5, .pointer (some ⟨p12, 0, none⟩)), (4, .bool false), (0, .slice ad l.length c), (1, .int .u8 cut)] (by kernel_rfl) rfl ak0 ?_
      refine GoR.done (GoQ.thn (GoC.seq ?_))
      refine GoC.regT [3, 3] (.ef 0 (.rd 1 .done)) (by kernel_rfl) (by kernel_rfl) ?_
      refine GoR.call rfl rfl (by kernel_rfl) (f := 16) (args := #[]) (by kernel_rfl) Tryd.call16 (new_spec hs13) ?_
      rintro v19 w20 ⟨p16, r17, rfl, hs18⟩
      refine ⟨(opn (by kernel_rfl)), ?_⟩
      refine GoR.phaseK [(1, .gen [])] [6, 5, 4, 0, 1] [] [(6, .pointer (some ⟨p16, 0, none⟩)), (5, .pointer (some ⟨p12, 0, none⟩)), (4, .bool false), (0, .slice ad l.length c), (1, .int .u8 cut)] (by kernel_rfl) rfl ak0 ?_
      refine GoR.done (GoQ.thn (GoC.seq ?_))
      refine GoC.regT [127, 127, 127, 127, 127, 127, 127] (.rd 0 (.rd 1 (.rd 2 (.rd 3 (.rd 4 (.rd 5 (.rd 6 .done))))))) (by kernel_rfl) (by kernel_rfl) ?_
      obtain ⟨at21, hat22⟩ : ∃ n : Nat, (cut : Int) % ((l.length : Nat) + 1) = (n : Int) ∧ (n : Int) < ((l.length : Nat) + 1) := remNat (by omega) (by omega)
      refine GoR.phaseK [(0, .gen []), (1, .as_ (.int .i64 cut) (.gen [])), (2, .gen []), (3, .gen []), (4, .as_ (.int .i64 ((l.length : Nat) + 1)) (.gen [])), (5, .div (at21 : Nat)), (6, .gen [])] [7, 6, 5, 4, 0] [(1, [.prop (Value.int .i64 (IntKind.i64.wrap cut) = Value.int .i64 cut)]), (4, [.prop (Value.int .i64 (IntKind.i64.wrap ((l.length : Nat) + 1)) = Value.int .i64 ((l.length : Nat) + 1))]), (5, [.prop (IntKind.i64 = IntKind.i64 ∧ (((l.length : Nat) + 1) : Int) ≠ 0 ∧ Int.tmod cut ((l.length : Nat) + 1) = (at21 : Nat))])] [(7, .int .i64 (at21 : Nat)), (6, .pointer (some ⟨p16, 0, none⟩)), (5, .pointer (some ⟨p12, 0, none⟩)), (4, .bool false), (0, .slice ad l.length c)] (by kernel_rfl) rfl (ak (okp (i64ok (by omega) (by omega)) ok0) (ak (okp (i64ok (by omega) (by omega)) ok0) (ak (okp ⟨rfl, by omega, by rw [Int.tmod_eq_emod_of_nonneg (by omega)]; exact hat22.1⟩ ok0) ak0))) ?_
      refine GoR.done (GoQ.thn (GoC.seq (GoC.seq ?_)))
      refine GoC.regT [1] (.rd 0 .done) (by kernel_rfl) (by kernel_rfl) ?_
      refine GoR.phaseK [(0, .gen [])] [8, 7, 6, 5, 4, 0] [] [(8, .int .i64 0), (7, .int .i64 (at21 : Nat)), (6, .pointer (some ⟨p16, 0, none⟩)), (5, .pointer (some ⟨p12, 0, none⟩)), (4, .bool false), (0, .slice ad l.length c)] (by kernel_rfl) rfl ak0 ?_
      refine GoR.done (GoQ.thn (GoC.block ?_))
      have hs23 : St W ((Cel p12 (arrCells LastV.cells (List.replicate 8 dLast)) 86) :: (Cel p16 #[.map (some r17)] 89) :: (MapA Value.string Value.string r17 ([] : List (ByteArray × ByteArray))) :: (Base W) :: []) w20 := ((((hs18.pull 3 rfl).pull 2 rfl).pull 2 rfl).pull 3 rfl)
      have hal : at21 ≤ l.length := by have := hat22.2; omega
      refine GoC.loop (T := Nat) (fun gg => [(0, .slice ad l.length c), (4, .bool false), (5, .pointer (some ⟨p12, 0, none⟩)), (6, .pointer (some ⟨p16, 0, none⟩)), (7, .int .i64 (at21 : Nat)), (8, .int .i64 (gg : Nat))]) (fun gg w => (gg ≤ at21) ∧ St W ((Cel p12 (arrCells LastV.cells ((trun (l.take gg)).1)) 86) :: (Cel p16 #[.map (some r17)] 89) :: (MapA Value.string Value.string r17 ((trun (l.take gg)).2)) :: (Base W) :: []) w) (fun gg => at21 - gg) 0 [0, 4, 5, 6, 7, 8] (by kernel_rfl) ⟨Nat.zero_le _, hs23⟩ ?_
      rintro k w25 ⟨hp0, hs26⟩
      have hp : k ≤ at21 := hp0
      have hs27 : St W ((Cel p12 (arrCells LastV.cells ((trun (l.take k)).1)) 86) :: (Cel p16 #[.map (some r17)] 89) :: (MapA Value.string Value.string r17 ((trun (l.take k)).2)) :: (Base W) :: []) w25 := hs26
      refine GoC.slots (S' := [(0, .slice ad l.length c), (4, .bool false), (5, .pointer (some ⟨p12, 0, none⟩)), (6, .pointer (some ⟨p16, 0, none⟩)), (7, .int .i64 (at21 : Nat)), (8, .int .i64 (k : Nat))]) rfl ?_
      refine GoC.seq (GoC.seq ?_)
      refine GoC.regT [7, 7, 7] (.rd 0 (.rd 1 (.rd 2 .done))) (by kernel_rfl) (by kernel_rfl) ?_
      refine GoR.phaseK [(0, .gen []), (1, .gen []), (2, .gen [])] [40, 0, 4, 5, 6, 7, 8] [] [(40, .bool (decide (((k : Nat) : Int) < (at21 : Nat)))), (0, .slice ad l.length c), (4, .bool false), (5, .pointer (some ⟨p12, 0, none⟩)), (6, .pointer (some ⟨p16, 0, none⟩)), (7, .int .i64 (at21 : Nat)), (8, .int .i64 (k : Nat))] (by kernel_rfl) rfl ak0 ?_
      refine GoR.done (GoQ.thn ?_)
      refine GoC.cond (t := decide (((k : Nat) : Int) < (at21 : Nat))) (by kernel_rfl) (fun h28 => ?_) (fun h28 => ?_)
      · have h28' : ((k : Nat) : Int) < (at21 : Nat) := of_decide_eq_true h28
        have hk : k < l.length := by omega
        obtain ⟨ab29, ao30, rfl⟩ := RowsAt.isSome rw (by omega)
        refine GoC.skip (GoQ.thn (GoC.seq (GoC.block ?_)))
        refine GoC.regT [127, 127, 127, 127, 127, 127, 127] (.rd 0 (.rd 1 (.rd 2 (.rd 3 (.rd 4 (.rd 5 (.ef 6 .done))))))) (by kernel_rfl) (by kernel_rfl) ?_
        refine GoR.phaseK [(0, .gen []), (1, .gen []), (2, .gen []), (3, .gen []), (4, .as_ (.pointer (some ⟨ab29, ao30 + (k * 40), none⟩)) .at_), (5, .agg (ReqV.cells (l.getD k dReq)))] [48, 44, 43, 0, 4, 5, 6, 7, 8] [(4, [.prop (0 ≤ ((k : Nat) : Int) ∧ ((k : Nat) : Int) < ((l.length : Nat) : Int)), .prop (Value.pointer (some (Addr.add ⟨ab29, ao30, none⟩ (Int.toNat (k : Nat) * 40))) = Value.pointer (some ⟨ab29, ao30 + (k * 40), none⟩))]), (5, [.prop (Array.size (ReqV.cells (l.getD k dReq)) = 40), .cells ⟨ab29, ao30 + (k * 40), none⟩ (ReqV.cells (l.getD k dReq))])] [(48, .agg (ReqV.cells (l.getD k dReq))), (44, .pointer (some ⟨p16, 0, none⟩)), (43, .pointer (some ⟨p12, 0, none⟩)), (0, .slice (some ⟨ab29, ao30, none⟩) l.length c), (4, .bool false), (5, .pointer (some ⟨p12, 0, none⟩)), (6, .pointer (some ⟨p16, 0, none⟩)), (7, .int .i64 (at21 : Nat)), (8, .int .i64 (k : Nat))] (by kernel_rfl) rfl (ak (okp (by omega) (okp (ptrAdd _ _ _) ok0)) (ak (okp (by kernel_rfl) (oka (RowsAt.all0 (rw.base (fun k _ => (reqF).size _) hs27 3 rfl) (by first | omega | (simp only [List.length_set]; omega)) (Nat.le_of_ble_eq_true (by kernel_rfl)) (by kernel_rfl)) ok0)) ak0)) ?_
        refine GoR.call rfl rfl (by kernel_rfl) (f := 15) (args := #[.pointer (some ⟨p12, 0, none⟩), .pointer (some ⟨p16, 0, none⟩), .agg (ReqV.cells (l.getD k dReq))]) (by kernel_rfl) Tryd.call15 (sdo_spec ((trun (l.take k)).1) ((trun (l.take k)).2) (l.getD k dReq) (trun_inv _).len (trun_inv _).inv.short (fun w h => hLW.base h 0 rfl) (hok _ (getD_mem hk)).op.amount.1 hs27) ?_
        rintro v32 w33 ⟨rfl, hs31⟩
        refine ⟨(opn (by kernel_rfl)), ?_⟩
        refine GoR.done (GoQ.blkN (GoQ.thn ?_))
        refine GoC.regT [7, 7, 7] (.rd 0 (.rd 1 (.rd 2 .done))) (by kernel_rfl) (by kernel_rfl) ?_
        refine GoR.phaseK [(0, .gen []), (1, .as_ (.int .i64 ((k : Nat) + 1)) (.gen [])), (2, .gen [])] [8, 0, 4, 5, 6, 7] [(1, [.prop (Value.int .i64 (IntKind.i64.wrap ((k : Nat) + 1)) = Value.int .i64 ((k : Nat) + 1))])] [(8, .int .i64 ((k : Nat) + 1)), (0, .slice (some ⟨ab29, ao30, none⟩) l.length c), (4, .bool false), (5, .pointer (some ⟨p12, 0, none⟩)), (6, .pointer (some ⟨p16, 0, none⟩)), (7, .int .i64 (at21 : Nat))] (by kernel_rfl) rfl (ak (okp (i64ok (by omega) (by omega)) ok0) ak0) ?_
        refine GoR.done ?_
        rw [← trun_fst (d := dReq) hk, ← trun_snd (d := dReq) hk] at hs31
        exact GoQ.back (k + 1) [0, 4, 5, 6, 7, 8] (by kernel_rfl) (by show at21 - (k + 1) < at21 - k; omega) ⟨by omega, hs31⟩
      · have h28' : ¬ (((k : Nat) : Int) < (at21 : Nat)) := of_decide_eq_false h28
        refine GoC.exit (GoQ.skipC (GoQ.skipL (GoQ.hit (GoQ.thn (GoC.seq ?_)))))
        refine GoC.regT [255, 255, 255, 255, 255, 255, 255, 255] (.rd 0 (.ef 1 (.ef 2 (.rd 3 (.rd 4 (.rd 5 (.rd 6 (.rd 7 .done)))))))) (by kernel_rfl) (by kernel_rfl) ?_
        refine GoR.phaseK [(0, .gen [])] [51, 0, 4, 5, 6, 7] [] [(51, .pointer (some ⟨p12, 0, none⟩)), (0, .slice ad l.length c), (4, .bool false), (5, .pointer (some ⟨p12, 0, none⟩)), (6, .pointer (some ⟨p16, 0, none⟩)), (7, .int .i64 (at21 : Nat))] (by kernel_rfl) rfl ak0 ?_
        refine GoR.call rfl rfl (by kernel_rfl) (f := 19) (args := #[.pointer (some ⟨p12, 0, none⟩)]) (by kernel_rfl) Tryd.call19 (sesList_spec ((trun (l.take k)).1) (trun_inv _).len hs27) ?_
        rintro v37 w38 ⟨ad34, c35, rfl, hs36⟩
        refine ⟨(opn (by kernel_rfl)), ?_⟩
        refine GoR.call rfl rfl (by kernel_rfl) (f := 34) (args := #[.slice ad34 (((trun (l.take k)).1).length) c35]) (by kernel_rfl) Tryd.call34 (sof_spec ((trun (l.take k)).1) (by rw [(trun_inv _).len]; decide) (hs36.slNone 0 rfl) (fun w h => h.rows 0 rfl (lastF).size _) hs36) ?_
        rintro v44 w45 (⟨p39, rfl, h40, hs41⟩ | ⟨rfl, h42, hs43⟩)
        · refine ⟨(opn (by kernel_rfl)), ?_⟩
          refine GoR.phaseK [(3, .gen []), (4, .gen []), (5, .gen []), (6, .gen []), (7, .gen [])] [10, 9, 0, 4, 5, 6, 7] [] [(10, .int .i64 0), (9, .pointer (some ⟨p39, 0, none⟩)), (0, .slice ad l.length c), (4, .bool false), (5, .pointer (some ⟨p12, 0, none⟩)), (6, .pointer (some ⟨p16, 0, none⟩)), (7, .int .i64 (at21 : Nat))] (by kernel_rfl) rfl ak0 ?_
          refine GoR.done (GoQ.thn (GoC.seq ?_))
          refine GoC.regT [255, 255, 255, 255, 255, 255, 255, 255] (.rd 0 (.ef 1 (.ef 2 (.rd 3 (.rd 4 (.rd 5 (.rd 6 (.rd 7 .done)))))))) (by kernel_rfl) (by kernel_rfl) ?_
          refine GoR.phaseK [(0, .gen [])] [57, 10, 9, 0, 4, 5, 6, 7] [] [(57, .pointer (some ⟨p16, 0, none⟩)), (10, .int .i64 0), (9, .pointer (some ⟨p39, 0, none⟩)), (0, .slice ad l.length c), (4, .bool false), (5, .pointer (some ⟨p12, 0, none⟩)), (6, .pointer (some ⟨p16, 0, none⟩)), (7, .int .i64 (at21 : Nat))] (by kernel_rfl) rfl ak0 ?_
          have hs46 : St W ((Cel p16 #[.map (some r17)] 89) :: (MapA Value.string Value.string r17 ((trun (l.take k)).2)) :: (Cel p39 (arrCells LastV.cells ((trun (l.take k)).1)) 86) :: (Sl ad34 c35 41 3 LastV.cells ((trun (l.take k)).1)) :: (Cel p12 (arrCells LastV.cells ((trun (l.take k)).1)) 86) :: (Base W) :: []) w45 := ((hs41.pull 4 rfl).pull 4 rfl)
          refine GoR.call rfl rfl (by kernel_rfl) (f := 23) (args := #[.pointer (some ⟨p16, 0, none⟩)]) (by kernel_rfl) Tryd.call23 (list_spec ((trun (l.take k)).2) (Nat.le_trans (trun_inv _).inv.len (by decide)) hs46) ?_
          rintro v50 w51 ⟨ad47, c48, rfl, hs49⟩
          refine ⟨(opn (by kernel_rfl)), ?_⟩
          refine GoR.call rfl rfl (by kernel_rfl) (f := 29) (args := #[.slice ad47 ((lst ((trun (l.take k)).2)).length) c48]) (by kernel_rfl) Tryd.call29 (of_spec (lst ((trun (l.take k)).2)) (by rw [lst_length]; exact Nat.le_trans (trun_inv _).inv.len (by decide)) (fun w h => h.rows 0 rfl (itemF).size _) hs49) ?_
          rintro v58 w59 (⟨p52, r53, rfl, h54, hs55⟩ | ⟨rfl, h56, hs57⟩)
          · refine ⟨(opn (by kernel_rfl)), ?_⟩
            refine GoR.phaseK [(3, .gen []), (4, .gen []), (5, .gen []), (6, .gen []), (7, .gen [])] [12, 11, 10, 9, 0, 4, 5, 6, 7] [] [(12, .int .i64 0), (11, .pointer (some ⟨p52, 0, none⟩)), (10, .int .i64 0), (9, .pointer (some ⟨p39, 0, none⟩)), (0, .slice ad l.length c), (4, .bool false), (5, .pointer (some ⟨p12, 0, none⟩)), (6, .pointer (some ⟨p16, 0, none⟩)), (7, .int .i64 (at21 : Nat))] (by kernel_rfl) rfl ak0 ?_
            refine GoR.done (GoQ.thn (GoC.seq (GoC.seq ?_)))
            refine GoC.regT [63, 63, 63, 63, 63, 63] (.rd 0 (.rd 1 (.rd 2 (.rd 3 (.rd 4 (.rd 5 .done)))))) (by kernel_rfl) (by kernel_rfl) ?_
            refine GoR.phaseK [(0, .gen []), (1, .gen []), (2, .gen []), (3, .gen []), (4, .gen []), (5, .gen [])] [67, 11, 9, 0, 4, 5, 6, 7] [] [(67, .bool false), (11, .pointer (some ⟨p52, 0, none⟩)), (9, .pointer (some ⟨p39, 0, none⟩)), (0, .slice ad l.length c), (4, .bool false), (5, .pointer (some ⟨p12, 0, none⟩)), (6, .pointer (some ⟨p16, 0, none⟩)), (7, .int .i64 (at21 : Nat))] (by kernel_rfl) rfl ak0 ?_
            refine GoR.done (GoQ.thn (GoC.condF (by kernel_rfl) (GoC.skip (GoQ.thn (GoC.seq (GoC.seq ?_))))))
            refine GoC.regT [3, 3] (.rd 0 (.rd 1 .done)) (by kernel_rfl) (by kernel_rfl) ?_
            refine GoR.phaseK [(0, .gen []), (1, .gen [])] [13, 11, 9, 0, 4, 5, 6] [] [(13, .int .i64 (at21 : Nat)), (11, .pointer (some ⟨p52, 0, none⟩)), (9, .pointer (some ⟨p39, 0, none⟩)), (0, .slice ad l.length c), (4, .bool false), (5, .pointer (some ⟨p12, 0, none⟩)), (6, .pointer (some ⟨p16, 0, none⟩))] (by kernel_rfl) rfl ak0 ?_
            refine GoR.done (GoQ.thn (GoC.block ?_))
            have hs60 : St W ((Sl ad47 c48 61 2 ItemV.cells (lst ((trun (l.take k)).2))) :: (Sl ad34 c35 41 3 LastV.cells ((trun (l.take k)).1)) :: (Cel p12 (arrCells LastV.cells ((trun (l.take k)).1)) 86) :: (Cel p16 #[.map (some r17)] 89) :: (MapA Value.string Value.string r17 ((trun (l.take k)).2)) :: (Cel p39 (arrCells LastV.cells ((trun (l.take k)).1)) 86) :: (Cel p52 #[.map (some r53)] 89) :: (MapA Value.string Value.string r53 (pairsOf (lst ((trun (l.take k)).2)))) :: (Base W) :: []) w59 := (((((((((hs55.pull 8 rfl).pull 2 rfl).pull 2 rfl).pull 6 rfl).pull 6 rfl).pull 6 rfl).pull 8 rfl).pull 8 rfl).pull 8 rfl)
            have hs61 : St W ((Cel p12 (arrCells LastV.cells ((trun (l.take k)).1)) 86) :: (Cel p16 #[.map (some r17)] 89) :: (MapA Value.string Value.string r17 ((trun (l.take k)).2)) :: (Cel p39 (arrCells LastV.cells ((trun (l.take k)).1)) 86) :: (Cel p52 #[.map (some r53)] 89) :: (MapA Value.string Value.string r53 (pairsOf (lst ((trun (l.take k)).2)))) :: (Base W) :: []) w59 := hs60.drop 2
            have hka : k = at21 := by omega
            refine GoC.loop (T := Nat × (List LastV) × (List (ByteArray × ByteArray)) × (List LastV) × (List (ByteArray × ByteArray))) (fun gg => [(0, .slice ad l.length c), (5, .pointer (some ⟨p12, 0, none⟩)), (6, .pointer (some ⟨p16, 0, none⟩)), (9, .pointer (some ⟨p39, 0, none⟩)), (11, .pointer (some ⟨p52, 0, none⟩)), (13, .int .i64 (gg.1 : Nat))]) (fun gg w => (gg.1 ≤ l.length ∧ RE (gg.2.1, gg.2.2.1) (gg.2.2.2.1, gg.2.2.2.2)) ∧ St W ((Cel p12 (arrCells LastV.cells gg.2.1) 86) :: (Cel p16 #[.map (some r17)] 89) :: (MapA Value.string Value.string r17 gg.2.2.1) :: (Cel p39 (arrCells LastV.cells gg.2.2.2.1) 86) :: (Cel p52 #[.map (some r53)] 89) :: (MapA Value.string Value.string r53 gg.2.2.2.2) :: (Base W) :: []) w) (fun gg => l.length - gg.1) (at21, ((trun (l.take k)).1), ((trun (l.take k)).2), ((trun (l.take k)).1), (pairsOf (lst ((trun (l.take k)).2)))) [0, 5, 6, 9, 11, 13] (by kernel_rfl) ⟨⟨by omega, re_start _⟩, hs61⟩ ?_
            rintro ⟨kk, tA, mA, tB, mB⟩ w62 ⟨hr0, hs63⟩
            have hr : kk ≤ l.length ∧ RE (tA, mA) (tB, mB) := hr0
            have hs64 : St W ((Cel p12 (arrCells LastV.cells tA) 86) :: (Cel p16 #[.map (some r17)] 89) :: (MapA Value.string Value.string r17 mA) :: (Cel p39 (arrCells LastV.cells tB) 86) :: (Cel p52 #[.map (some r53)] 89) :: (MapA Value.string Value.string r53 mB) :: (Base W) :: []) w62 := hs63
            refine GoC.slots (S' := [(0, .slice ad l.length c), (5, .pointer (some ⟨p12, 0, none⟩)), (6, .pointer (some ⟨p16, 0, none⟩)), (9, .pointer (some ⟨p39, 0, none⟩)), (11, .pointer (some ⟨p52, 0, none⟩)), (13, .int .i64 (kk : Nat))]) rfl ?_
            refine GoC.seq (GoC.seq ?_)
            refine GoC.regT [15, 15, 15, 15] (.rd 0 (.rd 1 (.rd 2 (.rd 3 .done)))) (by kernel_rfl) (by kernel_rfl) ?_
            refine GoR.phaseK [(0, .gen []), (1, .gen []), (2, .gen []), (3, .gen [])] [72, 0, 5, 6, 9, 11, 13] [] [(72, .bool (decide (((kk : Nat) : Int) < (l.length : Nat)))), (0, .slice ad l.length c), (5, .pointer (some ⟨p12, 0, none⟩)), (6, .pointer (some ⟨p16, 0, none⟩)), (9, .pointer (some ⟨p39, 0, none⟩)), (11, .pointer (some ⟨p52, 0, none⟩)), (13, .int .i64 (kk : Nat))] (by kernel_rfl) rfl ak0 ?_
            refine GoR.done (GoQ.thn ?_)
            refine GoC.cond (t := decide (((kk : Nat) : Int) < (l.length : Nat))) (by kernel_rfl) (fun h65 => ?_) (fun h65 => ?_)
            · have h65' : ((kk : Nat) : Int) < (l.length : Nat) := of_decide_eq_true h65
              have hkk : kk < l.length := by omega
              obtain ⟨ab66, ao67, rfl⟩ := RowsAt.isSome rw (by omega)
              refine GoC.skip (GoQ.thn (GoC.seq (GoC.block (GoC.seq ?_))))
              refine GoC.regT [8191, 8191, 8191, 8191, 8191, 8191, 8191, 8191, 8191, 8191, 8191, 8191, 8191] (.rd 0 (.rd 1 (.rd 2 (.rd 3 (.rd 4 (.rd 5 (.ef 6 (.rd 7 (.rd 8 (.rd 9 (.ef 10 (.ef 11 (.rd 12 .done))))))))))))) (by kernel_rfl) (by kernel_rfl) ?_
              refine GoR.phaseK [(0, .gen []), (1, .gen []), (2, .gen []), (3, .gen []), (4, .as_ (.pointer (some ⟨ab66, ao67 + (kk * 40), none⟩)) .at_), (5, .agg (ReqV.cells (l.getD kk dReq)))] [81, 77, 76, 0, 5, 6, 9, 11, 13] [(4, [.prop (0 ≤ ((kk : Nat) : Int) ∧ ((kk : Nat) : Int) < ((l.length : Nat) : Int)), .prop (Value.pointer (some (Addr.add ⟨ab66, ao67, none⟩ (Int.toNat (kk : Nat) * 40))) = Value.pointer (some ⟨ab66, ao67 + (kk * 40), none⟩))]), (5, [.prop (Array.size (ReqV.cells (l.getD kk dReq)) = 40), .cells ⟨ab66, ao67 + (kk * 40), none⟩ (ReqV.cells (l.getD kk dReq))])] [(81, .agg (ReqV.cells (l.getD kk dReq))), (77, .pointer (some ⟨p16, 0, none⟩)), (76, .pointer (some ⟨p12, 0, none⟩)), (0, .slice (some ⟨ab66, ao67, none⟩) l.length c), (5, .pointer (some ⟨p12, 0, none⟩)), (6, .pointer (some ⟨p16, 0, none⟩)), (9, .pointer (some ⟨p39, 0, none⟩)), (11, .pointer (some ⟨p52, 0, none⟩)), (13, .int .i64 (kk : Nat))] (by kernel_rfl) rfl (ak (okp (by omega) (okp (ptrAdd _ _ _) ok0)) (ak (okp (by kernel_rfl) (oka (RowsAt.all0 (rw.base (fun k _ => (reqF).size _) hs64 6 rfl) (by first | omega | (simp only [List.length_set]; omega)) (Nat.le_of_ble_eq_true (by kernel_rfl)) (by kernel_rfl)) ok0)) ak0)) ?_
              refine GoR.call rfl rfl (by kernel_rfl) (f := 15) (args := #[.pointer (some ⟨p12, 0, none⟩), .pointer (some ⟨p16, 0, none⟩), .agg (ReqV.cells (l.getD kk dReq))]) (by kernel_rfl) Tryd.call15 (sdo_spec tA mA (l.getD kk dReq) hr.2.inv.len hr.2.inv.inv.short (fun w h => hLW.base h 3 rfl) (hok _ (getD_mem hkk)).op.amount.1 hs64) ?_
              rintro v69 w70 ⟨rfl, hs68⟩
              refine ⟨(opn (by kernel_rfl)), ?_⟩
              refine GoR.phaseK [(7, .gen []), (8, .gen []), (9, .gen [])] [84, 83, 0, 5, 6, 9, 11, 13] [] [(84, .bool ((sdo tA mA (l.getD kk dReq)).1.2)), (83, .agg (RepV.cells ((sdo tA mA (l.getD kk dReq)).1.1))), (0, .slice (some ⟨ab66, ao67, none⟩) l.length c), (5, .pointer (some ⟨p12, 0, none⟩)), (6, .pointer (some ⟨p16, 0, none⟩)), (9, .pointer (some ⟨p39, 0, none⟩)), (11, .pointer (some ⟨p52, 0, none⟩)), (13, .int .i64 (kk : Nat))] (by kernel_rfl) rfl ak0 ?_
              refine GoR.alloc rfl rfl (by kernel_rfl) (z := .agg #[.int .i64 0, .string (⟨#[]⟩ : ByteArray)]) (by kernel_rfl) hs68 (cs := #[.int .i64 0, .string (⟨#[]⟩ : ByteArray)]) (by kernel_rfl) ?_
              intro b71 w72 hs73
              refine ⟨(opn (by kernel_rfl)), ?_⟩
              refine GoR.store rfl rfl (by kernel_rfl) (b := b71) (off := 0) (v := .agg (RepV.cells ((sdo tA mA (l.getD kk dReq)).1.1))) (by kernel_rfl) (by kernel_rfl) (ti := Tryd.t34) (by kernel_rfl) hs73 0 rfl (by kernel_rfl) (by kernel_rfl) (Nat.le_of_ble_eq_true (by kernel_rfl)) (cs' := RepV.cells ((sdo tA mA (l.getD kk dReq)).1.1)) (L' := (Cel b71 (RepV.cells ((sdo tA mA (l.getD kk dReq)).1.1)) 34) :: (Cel p12 (arrCells LastV.cells ((sdo tA mA (l.getD kk dReq)).2.1)) 86) :: (Cel p16 #[.map (some r17)] 89) :: (MapA Value.string Value.string r17 ((sdo tA mA (l.getD kk dReq)).2.2)) :: (Cel p39 (arrCells LastV.cells tB) 86) :: (Cel p52 #[.map (some r53)] 89) :: (MapA Value.string Value.string r53 mB) :: (Base W) :: []) (by kernel_rfl) rfl ?_
              intro w74 hs75
              refine ⟨(opn (by kernel_rfl)), ?_⟩
              refine GoR.phaseK [(12, .gen [])] [15, 14, 0, 5, 6, 9, 11, 13] [] [(15, .bool ((sdo tA mA (l.getD kk dReq)).1.2)), (14, .pointer (some ⟨b71, 0, none⟩)), (0, .slice (some ⟨ab66, ao67, none⟩) l.length c), (5, .pointer (some ⟨p12, 0, none⟩)), (6, .pointer (some ⟨p16, 0, none⟩)), (9, .pointer (some ⟨p39, 0, none⟩)), (11, .pointer (some ⟨p52, 0, none⟩)), (13, .int .i64 (kk : Nat))] (by kernel_rfl) rfl ak0 ?_
              refine GoR.done (GoQ.thn (GoC.seq ?_))
              refine GoC.regT [8191, 8191, 8191, 8191, 8191, 8191, 8191, 8191, 8191, 8191, 8191, 8191, 8191] (.rd 0 (.rd 1 (.rd 2 (.rd 3 (.rd 4 (.rd 5 (.ef 6 (.rd 7 (.rd 8 (.rd 9 (.ef 10 (.ef 11 (.rd 12 .done))))))))))))) (by kernel_rfl) (by kernel_rfl) ?_
              refine GoR.phaseK [(0, .gen []), (1, .gen []), (2, .gen []), (3, .gen []), (4, .as_ (.pointer (some ⟨ab66, ao67 + (kk * 40), none⟩)) .at_), (5, .agg (ReqV.cells (l.getD kk dReq)))] [91, 87, 86, 15, 14, 0, 5, 6, 9, 11, 13] [(4, [.prop (0 ≤ ((kk : Nat) : Int) ∧ ((kk : Nat) : Int) < ((l.length : Nat) : Int)), .prop (Value.pointer (some (Addr.add ⟨ab66, ao67, none⟩ (Int.toNat (kk : Nat) * 40))) = Value.pointer (some ⟨ab66, ao67 + (kk * 40), none⟩))]), (5, [.prop (Array.size (ReqV.cells (l.getD kk dReq)) = 40), .cells ⟨ab66, ao67 + (kk * 40), none⟩ (ReqV.cells (l.getD kk dReq))])] [(91, .agg (ReqV.cells (l.getD kk dReq))), (87, .pointer (some ⟨p52, 0, none⟩)), (86, .pointer (some ⟨p39, 0, none⟩)), (15, .bool ((sdo tA mA (l.getD kk dReq)).1.2)), (14, .pointer (some ⟨b71, 0, none⟩)), (0, .slice (some ⟨ab66, ao67, none⟩) l.length c), (5, .pointer (some ⟨p12, 0, none⟩)), (6, .pointer (some ⟨p16, 0, none⟩)), (9, .pointer (some ⟨p39, 0, none⟩)), (11, .pointer (some ⟨p52, 0, none⟩)), (13, .int .i64 (kk : Nat))] (by kernel_rfl) rfl (ak (okp (by omega) (okp (ptrAdd _ _ _) ok0)) (ak (okp (by kernel_rfl) (oka (RowsAt.all0 (rw.base (fun k _ => (reqF).size _) hs75 7 rfl) (by first | omega | (simp only [List.length_set]; omega)) (Nat.le_of_ble_eq_true (by kernel_rfl)) (by kernel_rfl)) ok0)) ak0)) ?_
              have hs76 : St W ((Cel p39 (arrCells LastV.cells tB) 86) :: (Cel p52 #[.map (some r53)] 89) :: (MapA Value.string Value.string r53 mB) :: (Cel b71 (RepV.cells ((sdo tA mA (l.getD kk dReq)).1.1)) 34) :: (Cel p12 (arrCells LastV.cells ((sdo tA mA (l.getD kk dReq)).2.1)) 86) :: (Cel p16 #[.map (some r17)] 89) :: (MapA Value.string Value.string r17 ((sdo tA mA (l.getD kk dReq)).2.2)) :: (Base W) :: []) w74 := (((hs75.pull 6 rfl).pull 6 rfl).pull 6 rfl)
              refine GoR.call rfl rfl (by kernel_rfl) (f := 15) (args := #[.pointer (some ⟨p39, 0, none⟩), .pointer (some ⟨p52, 0, none⟩), .agg (ReqV.cells (l.getD kk dReq))]) (by kernel_rfl) Tryd.call15 (sdo_spec tB mB (l.getD kk dReq) hr.2.inv'.len hr.2.inv'.inv.short (fun w h => hLW.base h 4 rfl) (hok _ (getD_mem hkk)).op.amount.1 hs76) ?_
              rintro v78 w79 ⟨rfl, hs77⟩
              refine ⟨(opn (by kernel_rfl)), ?_⟩
              refine GoR.phaseK [(7, .gen []), (8, .gen []), (9, .gen [])] [94, 93, 15, 14, 0, 5, 6, 9, 11, 13] [] [(94, .bool ((sdo tB mB (l.getD kk dReq)).1.2)), (93, .agg (RepV.cells ((sdo tB mB (l.getD kk dReq)).1.1))), (15, .bool ((sdo tA mA (l.getD kk dReq)).1.2)), (14, .pointer (some ⟨b71, 0, none⟩)), (0, .slice (some ⟨ab66, ao67, none⟩) l.length c), (5, .pointer (some ⟨p12, 0, none⟩)), (6, .pointer (some ⟨p16, 0, none⟩)), (9, .pointer (some ⟨p39, 0, none⟩)), (11, .pointer (some ⟨p52, 0, none⟩)), (13, .int .i64 (kk : Nat))] (by kernel_rfl) rfl ak0 ?_
              refine GoR.alloc rfl rfl (by kernel_rfl) (z := .agg #[.int .i64 0, .string (⟨#[]⟩ : ByteArray)]) (by kernel_rfl) hs77 (cs := #[.int .i64 0, .string (⟨#[]⟩ : ByteArray)]) (by kernel_rfl) ?_
              intro b80 w81 hs82
              refine ⟨(opn (by kernel_rfl)), ?_⟩
              refine GoR.store rfl rfl (by kernel_rfl) (b := b80) (off := 0) (v := .agg (RepV.cells ((sdo tB mB (l.getD kk dReq)).1.1))) (by kernel_rfl) (by kernel_rfl) (ti := Tryd.t34) (by kernel_rfl) hs82 0 rfl (by kernel_rfl) (by kernel_rfl) (Nat.le_of_ble_eq_true (by kernel_rfl)) (cs' := RepV.cells ((sdo tB mB (l.getD kk dReq)).1.1)) (L' := (Cel b80 (RepV.cells ((sdo tB mB (l.getD kk dReq)).1.1)) 34) :: (Cel p39 (arrCells LastV.cells ((sdo tB mB (l.getD kk dReq)).2.1)) 86) :: (Cel p52 #[.map (some r53)] 89) :: (MapA Value.string Value.string r53 ((sdo tB mB (l.getD kk dReq)).2.2)) :: (Cel b71 (RepV.cells ((sdo tA mA (l.getD kk dReq)).1.1)) 34) :: (Cel p12 (arrCells LastV.cells ((sdo tA mA (l.getD kk dReq)).2.1)) 86) :: (Cel p16 #[.map (some r17)] 89) :: (MapA Value.string Value.string r17 ((sdo tA mA (l.getD kk dReq)).2.2)) :: (Base W) :: []) (by kernel_rfl) rfl ?_
              intro w83 hs84
              refine ⟨(opn (by kernel_rfl)), ?_⟩
              refine GoR.phaseK [(12, .gen [])] [17, 16, 15, 14, 0, 5, 6, 9, 11, 13] [] [(17, .bool ((sdo tB mB (l.getD kk dReq)).1.2)), (16, .pointer (some ⟨b80, 0, none⟩)), (15, .bool ((sdo tA mA (l.getD kk dReq)).1.2)), (14, .pointer (some ⟨b71, 0, none⟩)), (0, .slice (some ⟨ab66, ao67, none⟩) l.length c), (5, .pointer (some ⟨p12, 0, none⟩)), (6, .pointer (some ⟨p16, 0, none⟩)), (9, .pointer (some ⟨p39, 0, none⟩)), (11, .pointer (some ⟨p52, 0, none⟩)), (13, .int .i64 (kk : Nat))] (by kernel_rfl) rfl ak0 ?_
              refine GoR.done (GoQ.thn (GoC.seq ?_))
              refine GoC.regT [255, 255, 255, 255, 255, 255, 255, 255] (.rd 0 (.rd 1 (.rd 2 (.rd 3 (.rd 4 (.rd 5 (.rd 6 (.rd 7 .done)))))))) (by kernel_rfl) (by kernel_rfl) ?_
              refine GoR.phaseK [(0, .agg (RepV.cells ((sdo tA mA (l.getD kk dReq)).1.1))), (1, .agg (RepV.cells ((sdo tB mB (l.getD kk dReq)).1.1)))] [96, 95, 17, 15, 0, 5, 6, 9, 11, 13] [(0, [.prop (Array.size (RepV.cells ((sdo tA mA (l.getD kk dReq)).1.1)) = 2), .cells ⟨b71, 0, none⟩ (RepV.cells ((sdo tA mA (l.getD kk dReq)).1.1))]), (1, [.prop (Array.size (RepV.cells ((sdo tB mB (l.getD kk dReq)).1.1)) = 2), .cells ⟨b80, 0, none⟩ (RepV.cells ((sdo tB mB (l.getD kk dReq)).1.1))])] [(96, .agg (RepV.cells ((sdo tB mB (l.getD kk dReq)).1.1))), (95, .agg (RepV.cells ((sdo tA mA (l.getD kk dReq)).1.1))), (17, .bool ((sdo tB mB (l.getD kk dReq)).1.2)), (15, .bool ((sdo tA mA (l.getD kk dReq)).1.2)), (0, .slice (some ⟨ab66, ao67, none⟩) l.length c), (5, .pointer (some ⟨p12, 0, none⟩)), (6, .pointer (some ⟨p16, 0, none⟩)), (9, .pointer (some ⟨p39, 0, none⟩)), (11, .pointer (some ⟨p52, 0, none⟩)), (13, .int .i64 (kk : Nat))] (by kernel_rfl) rfl (ak (okp (by kernel_rfl) (oka (hs84.cells 4 0 rfl (by kernel_rfl)) ok0)) (ak (okp (by kernel_rfl) (oka (hs84.cells 0 0 rfl (by kernel_rfl)) ok0)) ak0)) ?_
              refine GoR.eqAgg rfl (by kernel_rfl) (b := false) (t := 34) (xs := RepV.cells ((sdo tA mA (l.getD kk dReq)).1.1)) (ys := RepV.cells ((sdo tB mB (l.getD kk dReq)).1.1)) (m := 2) (by kernel_rfl) (by kernel_rfl) (by decide) (by kernel_rfl) (r := !(decide ((sdo tA mA (l.getD kk dReq)).1.1 = (sdo tB mB (l.getD kk dReq)).1.1))) (aggNe  (repEq ((sdo tA mA (l.getD kk dReq)).1.1) ((sdo tB mB (l.getD kk dReq)).1.1))) ?_
              refine GoR.phaseK [(3, .gen [])] [98, 17, 15, 0, 5, 6, 9, 11, 13] [] [(98, .bool (!(decide ((sdo tA mA (l.getD kk dReq)).1.1 = (sdo tB mB (l.getD kk dReq)).1.1)))), (17, .bool ((sdo tB mB (l.getD kk dReq)).1.2)), (15, .bool ((sdo tA mA (l.getD kk dReq)).1.2)), (0, .slice (some ⟨ab66, ao67, none⟩) l.length c), (5, .pointer (some ⟨p12, 0, none⟩)), (6, .pointer (some ⟨p16, 0, none⟩)), (9, .pointer (some ⟨p39, 0, none⟩)), (11, .pointer (some ⟨p52, 0, none⟩)), (13, .int .i64 (kk : Nat))] (by kernel_rfl) rfl ak0 ?_
              rcases Bool.eq_false_or_eq_true (!(decide ((sdo tA mA (l.getD kk dReq)).1.1 = (sdo tB mB (l.getD kk dReq)).1.1))) with h85 | h85
              · refine GoR.setB 98 true (by decide) (by kernel_rfl) h85 ?_
                have h85n : (decide ((sdo tA mA (l.getD kk dReq)).1.1 = (sdo tB mB (l.getD kk dReq)).1.1)) = false := notT h85
                have h85n' : ¬ ((sdo tA mA (l.getD kk dReq)).1.1 = (sdo tB mB (l.getD kk dReq)).1.1) := of_decide_eq_false h85n
                exact absurd h85 (by rw [hr.2.reply1]; simp)
              · refine GoR.setB 98 false (by decide) (by kernel_rfl) h85 ?_
                have h85n : (decide ((sdo tA mA (l.getD kk dReq)).1.1 = (sdo tB mB (l.getD kk dReq)).1.1)) = true := notF h85
                have h85n' : (sdo tA mA (l.getD kk dReq)).1.1 = (sdo tB mB (l.getD kk dReq)).1.1 := of_decide_eq_true h85n
                refine GoR.phaseK [(4, .gen []), (5, .gen []), (6, .gen []), (7, .gen [])] [102, 0, 5, 6, 9, 11, 13] [] [(102, .bool (!(((sdo tA mA (l.getD kk dReq)).1.2) == ((sdo tB mB (l.getD kk dReq)).1.2)))), (0, .slice (some ⟨ab66, ao67, none⟩) l.length c), (5, .pointer (some ⟨p12, 0, none⟩)), (6, .pointer (some ⟨p16, 0, none⟩)), (9, .pointer (some ⟨p39, 0, none⟩)), (11, .pointer (some ⟨p52, 0, none⟩)), (13, .int .i64 (kk : Nat))] (by kernel_rfl) rfl ak0 ?_
                refine GoR.done (GoQ.thn ?_)
                refine GoC.cond (t := !(((sdo tA mA (l.getD kk dReq)).1.2) == ((sdo tB mB (l.getD kk dReq)).1.2))) (by kernel_rfl) (fun h86 => ?_) (fun h86 => ?_)
                · have h86n : (((sdo tA mA (l.getD kk dReq)).1.2) == ((sdo tB mB (l.getD kk dReq)).1.2)) = false := notT h86
                  exact absurd h86 (by rw [hr.2.reply2]; simp)
                · have h86n : (((sdo tA mA (l.getD kk dReq)).1.2) == ((sdo tB mB (l.getD kk dReq)).1.2)) = true := notF h86
                  refine GoC.skip (GoQ.blkN (GoQ.thn ?_))
                  refine GoC.regT [7, 7, 7] (.rd 0 (.rd 1 (.rd 2 .done))) (by kernel_rfl) (by kernel_rfl) ?_
                  refine GoR.phaseK [(0, .gen []), (1, .as_ (.int .i64 ((kk : Nat) + 1)) (.gen [])), (2, .gen [])] [13, 0, 5, 6, 9, 11] [(1, [.prop (Value.int .i64 (IntKind.i64.wrap ((kk : Nat) + 1)) = Value.int .i64 ((kk : Nat) + 1))])] [(13, .int .i64 ((kk : Nat) + 1)), (0, .slice (some ⟨ab66, ao67, none⟩) l.length c), (5, .pointer (some ⟨p12, 0, none⟩)), (6, .pointer (some ⟨p16, 0, none⟩)), (9, .pointer (some ⟨p39, 0, none⟩)), (11, .pointer (some ⟨p52, 0, none⟩))] (by kernel_rfl) rfl (ak (okp (i64ok (by omega) (by omega)) ok0) ak0) ?_
                  refine GoR.done ?_
                  have hs87 : St W ((Cel b80 (RepV.cells ((sdo tB mB (l.getD kk dReq)).1.1)) 34) :: (Cel b71 (RepV.cells ((sdo tA mA (l.getD kk dReq)).1.1)) 34) :: (Cel p12 (arrCells LastV.cells ((sdo tA mA (l.getD kk dReq)).2.1)) 86) :: (Cel p16 #[.map (some r17)] 89) :: (MapA Value.string Value.string r17 ((sdo tA mA (l.getD kk dReq)).2.2)) :: (Cel p39 (arrCells LastV.cells ((sdo tB mB (l.getD kk dReq)).2.1)) 86) :: (Cel p52 #[.map (some r53)] 89) :: (MapA Value.string Value.string r53 ((sdo tB mB (l.getD kk dReq)).2.2)) :: (Base W) :: []) w83 := (((((((((hs84.pull 8 rfl).pull 4 rfl).pull 4 rfl).pull 4 rfl).pull 8 rfl).pull 8 rfl).pull 8 rfl).pull 8 rfl).pull 8 rfl)
                  have hs88 : St W ((Cel p12 (arrCells LastV.cells ((sdo tA mA (l.getD kk dReq)).2.1)) 86) :: (Cel p16 #[.map (some r17)] 89) :: (MapA Value.string Value.string r17 ((sdo tA mA (l.getD kk dReq)).2.2)) :: (Cel p39 (arrCells LastV.cells ((sdo tB mB (l.getD kk dReq)).2.1)) 86) :: (Cel p52 #[.map (some r53)] 89) :: (MapA Value.string Value.string r53 ((sdo tB mB (l.getD kk dReq)).2.2)) :: (Base W) :: []) w83 := hs87.drop 2
                  exact GoQ.back (kk + 1, (sdo tA mA (l.getD kk dReq)).2.1, (sdo tA mA (l.getD kk dReq)).2.2, (sdo tB mB (l.getD kk dReq)).2.1, (sdo tB mB (l.getD kk dReq)).2.2) [0, 5, 6, 9, 11, 13] (by kernel_rfl) (by show l.length - (kk + 1) < l.length - kk; omega) ⟨⟨by omega, (hr.2.step _).2⟩, hs88⟩
            · have h65' : ¬ (((kk : Nat) : Int) < (l.length : Nat)) := of_decide_eq_false h65
              refine GoC.exit (GoQ.skipC (GoQ.skipL (GoQ.hit (GoQ.thn (GoC.seq ?_)))))
              refine GoC.regT [7, 7, 7] (.rd 0 (.ef 1 (.rd 2 .done))) (by kernel_rfl) (by kernel_rfl) ?_
              refine GoR.phaseK [(0, .gen [])] [103, 6, 9, 11] [] [(103, .pointer (some ⟨p12, 0, none⟩)), (6, .pointer (some ⟨p16, 0, none⟩)), (9, .pointer (some ⟨p39, 0, none⟩)), (11, .pointer (some ⟨p52, 0, none⟩))] (by kernel_rfl) rfl ak0 ?_
              refine GoR.call rfl rfl (by kernel_rfl) (f := 19) (args := #[.pointer (some ⟨p12, 0, none⟩)]) (by kernel_rfl) Tryd.call19 (sesList_spec tA hr.2.inv.len hs64) ?_
              rintro v92 w93 ⟨ad89, c90, rfl, hs91⟩
              refine ⟨(opn (by kernel_rfl)), ?_⟩
              refine GoR.phaseK [(2, .gen [])] [18, 6, 9, 11] [] [(18, .slice ad89 tA.length c90), (6, .pointer (some ⟨p16, 0, none⟩)), (9, .pointer (some ⟨p39, 0, none⟩)), (11, .pointer (some ⟨p52, 0, none⟩))] (by kernel_rfl) rfl ak0 ?_
              refine GoR.done (GoQ.thn (GoC.seq ?_))
              refine GoC.regT [7, 7, 7] (.rd 0 (.ef 1 (.rd 2 .done))) (by kernel_rfl) (by kernel_rfl) ?_
              refine GoR.phaseK [(0, .gen [])] [105, 18, 6, 11] [] [(105, .pointer (some ⟨p39, 0, none⟩)), (18, .slice ad89 tA.length c90), (6, .pointer (some ⟨p16, 0, none⟩)), (11, .pointer (some ⟨p52, 0, none⟩))] (by kernel_rfl) rfl ak0 ?_
              have hs94 : St W ((Cel p39 (arrCells LastV.cells tB) 86) :: (Sl ad89 c90 41 3 LastV.cells tA) :: (Cel p12 (arrCells LastV.cells tA) 86) :: (Cel p16 #[.map (some r17)] 89) :: (MapA Value.string Value.string r17 mA) :: (Cel p52 #[.map (some r53)] 89) :: (MapA Value.string Value.string r53 mB) :: (Base W) :: []) w93 := (hs91.pull 4 rfl)
              refine GoR.call rfl rfl (by kernel_rfl) (f := 19) (args := #[.pointer (some ⟨p39, 0, none⟩)]) (by kernel_rfl) Tryd.call19 (sesList_spec tB hr.2.inv'.len hs94) ?_
              rintro v98 w99 ⟨ad95, c96, rfl, hs97⟩
              refine ⟨(opn (by kernel_rfl)), ?_⟩
              refine GoR.phaseK [(2, .gen [])] [19, 18, 6, 11] [] [(19, .slice ad95 tB.length c96), (18, .slice ad89 tA.length c90), (6, .pointer (some ⟨p16, 0, none⟩)), (11, .pointer (some ⟨p52, 0, none⟩))] (by kernel_rfl) rfl ak0 ?_
              refine GoR.done (GoQ.thn (GoC.seq (GoC.seq ?_)))
              refine GoC.regT [1] (.rd 0 .done) (by kernel_rfl) (by kernel_rfl) ?_
              refine GoR.phaseK [(0, .gen [])] [20, 19, 18, 6, 11] [] [(20, .int .i64 0), (19, .slice ad95 tB.length c96), (18, .slice ad89 tA.length c90), (6, .pointer (some ⟨p16, 0, none⟩)), (11, .pointer (some ⟨p52, 0, none⟩))] (by kernel_rfl) rfl ak0 ?_
              refine GoR.done (GoQ.thn (GoC.block ?_))
              have hlA : tA.length = 8 := hr.2.inv.len
              have hlB : tB.length = 8 := hr.2.inv'.len
              have htab : tA = tB := hr.2.tab
              refine GoC.loop (T := Nat) (fun gg => [(6, .pointer (some ⟨p16, 0, none⟩)), (11, .pointer (some ⟨p52, 0, none⟩)), (18, .slice ad89 tA.length c90), (19, .slice ad95 tB.length c96), (20, .int .i64 (gg : Nat))]) (fun gg w => (gg ≤ tA.length) ∧ St W ((Sl ad95 c96 41 3 LastV.cells tB) :: (Cel p39 (arrCells LastV.cells tB) 86) :: (Sl ad89 c90 41 3 LastV.cells tA) :: (Cel p12 (arrCells LastV.cells tA) 86) :: (Cel p16 #[.map (some r17)] 89) :: (MapA Value.string Value.string r17 mA) :: (Cel p52 #[.map (some r53)] 89) :: (MapA Value.string Value.string r53 mB) :: (Base W) :: []) w) (fun gg => tA.length - gg) 0 [6, 11, 18, 19, 20] (by kernel_rfl) ⟨Nat.zero_le _, hs97⟩ ?_
              rintro j w100 ⟨hj0, hs101⟩
              have hj : j ≤ tA.length := hj0
              have hs102 : St W ((Sl ad95 c96 41 3 LastV.cells tB) :: (Cel p39 (arrCells LastV.cells tB) 86) :: (Sl ad89 c90 41 3 LastV.cells tA) :: (Cel p12 (arrCells LastV.cells tA) 86) :: (Cel p16 #[.map (some r17)] 89) :: (MapA Value.string Value.string r17 mA) :: (Cel p52 #[.map (some r53)] 89) :: (MapA Value.string Value.string r53 mB) :: (Base W) :: []) w100 := hs101
              refine GoC.slots (S' := [(6, .pointer (some ⟨p16, 0, none⟩)), (11, .pointer (some ⟨p52, 0, none⟩)), (18, .slice ad89 tA.length c90), (19, .slice ad95 tB.length c96), (20, .int .i64 (j : Nat))]) rfl ?_
              refine GoC.seq (GoC.seq ?_)
              refine GoC.regT [15, 15, 15, 15] (.rd 0 (.rd 1 (.rd 2 (.rd 3 .done)))) (by kernel_rfl) (by kernel_rfl) ?_
              refine GoR.phaseK [(0, .gen []), (1, .gen []), (2, .gen []), (3, .gen [])] [110, 6, 11, 18, 19, 20] [] [(110, .bool (decide (((j : Nat) : Int) < (tA.length : Nat)))), (6, .pointer (some ⟨p16, 0, none⟩)), (11, .pointer (some ⟨p52, 0, none⟩)), (18, .slice ad89 tA.length c90), (19, .slice ad95 tB.length c96), (20, .int .i64 (j : Nat))] (by kernel_rfl) rfl ak0 ?_
              refine GoR.done (GoQ.thn ?_)
              refine GoC.cond (t := decide (((j : Nat) : Int) < (tA.length : Nat))) (by kernel_rfl) (fun h103 => ?_) (fun h103 => ?_)
              · have h103' : ((j : Nat) : Int) < (tA.length : Nat) := of_decide_eq_true h103
                obtain ⟨ab104, rfl⟩ := Sl.isSome (hs102.at_ 2 rfl) (by omega)
                obtain ⟨ab106, rfl⟩ := Sl.isSome (hs102.at_ 0 rfl) (by omega)
                refine GoC.skip (GoQ.thn (GoC.seq (GoC.block (GoC.seq ?_))))
                refine GoC.regD [0, 0, 3, 7, 0, 0, 48, 112, 255] (.rd 0 (.rd 1 (.rd 2 (.rd 3 (.rd 4 (.rd 5 (.rd 6 (.rd 7 (.rd 8 .done))))))))) (by kernel_rfl) (by kernel_rfl) noPan_body (by kernel_rfl) hs102 ?_
                intro w108 hs109 hw110
                refine GoR.phaseK [(0, .gen []), (1, .gen []), (2, .as_ (.pointer (some ⟨ab104, 0 + (j * 3), none⟩)) .at_), (3, .agg (LastV.cells (tA.getD j dLast))), (4, .gen []), (5, .gen []), (6, .as_ (.pointer (some ⟨ab106, 0 + (j * 3), none⟩)) .at_), (7, .agg (LastV.cells (tB.getD j dLast)))] [120, 116, 6, 11, 18, 19, 20] [(2, [.prop (0 ≤ ((j : Nat) : Int) ∧ ((j : Nat) : Int) < ((tA.length : Nat) : Int)), .prop (Value.pointer (some (Addr.add ⟨ab104, 0, none⟩ (Int.toNat (j : Nat) * 3))) = Value.pointer (some ⟨ab104, 0 + (j * 3), none⟩))]), (3, [.prop (Array.size (LastV.cells (tA.getD j dLast)) = 3), .cells ⟨ab104, 0 + (j * 3), none⟩ (LastV.cells (tA.getD j dLast))]), (6, [.prop (0 ≤ ((j : Nat) : Int) ∧ ((j : Nat) : Int) < ((tB.length : Nat) : Int)), .prop (Value.pointer (some (Addr.add ⟨ab106, 0, none⟩ (Int.toNat (j : Nat) * 3))) = Value.pointer (some ⟨ab106, 0 + (j * 3), none⟩))]), (7, [.prop (Array.size (LastV.cells (tB.getD j dLast)) = 3), .cells ⟨ab106, 0 + (j * 3), none⟩ (LastV.cells (tB.getD j dLast))])] [(120, .agg (LastV.cells (tB.getD j dLast))), (116, .agg (LastV.cells (tA.getD j dLast))), (6, .pointer (some ⟨p16, 0, none⟩)), (11, .pointer (some ⟨p52, 0, none⟩)), (18, .slice (some ⟨ab104, 0, none⟩) tA.length c90), (19, .slice (some ⟨ab106, 0, none⟩) tB.length c96), (20, .int .i64 (j : Nat))] (by kernel_rfl) rfl (ak (okp (by omega) (okp (ptrAdd _ _ _) ok0)) (ak (okp (by kernel_rfl) (oka (RowsAt.all0 (hs109.rows 2 rfl (lastF).size dLast) (by first | omega | (simp only [List.length_set]; omega)) (Nat.le_of_ble_eq_true (by kernel_rfl)) (by kernel_rfl)) ok0)) (ak (okp (by omega) (okp (ptrAdd _ _ _) ok0)) (ak (okp (by kernel_rfl) (oka (RowsAt.all0 (hs109.rows 0 rfl (lastF).size dLast) (by first | omega | (simp only [List.length_set]; omega)) (Nat.le_of_ble_eq_true (by kernel_rfl)) (by kernel_rfl)) ok0)) ak0)))) ?_
                refine GoR.eqAgg rfl (by kernel_rfl) (b := false) (t := 41) (xs := LastV.cells (tA.getD j dLast)) (ys := LastV.cells (tB.getD j dLast)) (m := 3) (by kernel_rfl) (by kernel_rfl) (by decide) (by kernel_rfl) (r := !(decide ((tA.getD j dLast) = (tB.getD j dLast)))) (aggNe  (lastEq (tA.getD j dLast) (tB.getD j dLast))) ?_
                refine GoR.done (GoQ.thn ?_)
                refine GoC.cond (t := !(decide ((tA.getD j dLast) = (tB.getD j dLast)))) (by kernel_rfl) (fun h111 => ?_) (fun h111 => ?_)
                · have h111n : (decide ((tA.getD j dLast) = (tB.getD j dLast))) = false := notT h111
                  have h111n' : ¬ ((tA.getD j dLast) = (tB.getD j dLast)) := of_decide_eq_false h111n
                  exact absurd h111 (by rw [htab]; simp)
                · have h111n : (decide ((tA.getD j dLast) = (tB.getD j dLast))) = true := notF h111
                  have h111n' : (tA.getD j dLast) = (tB.getD j dLast) := of_decide_eq_true h111n
                  refine GoC.skip (GoQ.blkN (GoQ.thn ?_))
                  refine GoC.regT [7, 7, 7] (.rd 0 (.rd 1 (.rd 2 .done))) (by kernel_rfl) (by kernel_rfl) ?_
                  refine GoR.phaseK [(0, .gen []), (1, .as_ (.int .i64 ((j : Nat) + 1)) (.gen [])), (2, .gen [])] [20, 6, 11, 18, 19] [(1, [.prop (Value.int .i64 (IntKind.i64.wrap ((j : Nat) + 1)) = Value.int .i64 ((j : Nat) + 1))])] [(20, .int .i64 ((j : Nat) + 1)), (6, .pointer (some ⟨p16, 0, none⟩)), (11, .pointer (some ⟨p52, 0, none⟩)), (18, .slice (some ⟨ab104, 0, none⟩) tA.length c90), (19, .slice (some ⟨ab106, 0, none⟩) tB.length c96)] (by kernel_rfl) rfl (ak (okp (i64ok (by omega) (by omega)) ok0) ak0) ?_
                  refine GoR.done ?_
                  exact GoQ.back (j + 1) [6, 11, 18, 19, 20] (by kernel_rfl) (by show tA.length - (j + 1) < tA.length - j; omega) ⟨by omega, hs109⟩
              · have h103' : ¬ (((j : Nat) : Int) < (tA.length : Nat)) := of_decide_eq_false h103
                refine GoC.exit (GoQ.skipC (GoQ.skipL (GoQ.hit (GoQ.thn (GoC.seq ?_)))))
                refine GoC.regT [65535, 65535, 65535, 65535, 65535, 65535, 65535, 65535, 65535, 65535, 65535, 65535, 65535, 65535, 65535, 65535] (.rd 0 (.ef 1 (.rd 2 (.ef 3 (.ef 4 (.rd 5 (.rd 6 (.rd 7 (.rd 8 (.rd 9 (.rd 10 (.rd 11 (.rd 12 (.ef 13 (.rd 14 (.rd 15 .done)))))))))))))))) (by kernel_rfl) (by kernel_rfl) ?_
                refine GoR.phaseK [(0, .gen [])] [122, 11, 18, 19] [] [(122, .pointer (some ⟨p16, 0, none⟩)), (11, .pointer (some ⟨p52, 0, none⟩)), (18, .slice ad89 tA.length c90), (19, .slice ad95 tB.length c96)] (by kernel_rfl) rfl ak0 ?_
                have hs112 : St W ((Cel p16 #[.map (some r17)] 89) :: (MapA Value.string Value.string r17 mA) :: (Sl ad95 c96 41 3 LastV.cells tB) :: (Cel p39 (arrCells LastV.cells tB) 86) :: (Sl ad89 c90 41 3 LastV.cells tA) :: (Cel p12 (arrCells LastV.cells tA) 86) :: (Cel p52 #[.map (some r53)] 89) :: (MapA Value.string Value.string r53 mB) :: (Base W) :: []) w100 := ((hs102.pull 5 rfl).pull 5 rfl)
                refine GoR.call rfl rfl (by kernel_rfl) (f := 23) (args := #[.pointer (some ⟨p16, 0, none⟩)]) (by kernel_rfl) Tryd.call23 (list_spec mA (Nat.le_trans hr.2.inv.inv.len (by decide)) hs112) ?_
                rintro v116 w117 ⟨ad113, c114, rfl, hs115⟩
                refine ⟨(opn (by kernel_rfl)), ?_⟩
                refine GoR.phaseK [(2, .gen [])] [124, 123, 18, 19] [] [(124, .pointer (some ⟨p52, 0, none⟩)), (123, .slice ad113 ((lst mA).length) c114), (18, .slice ad89 tA.length c90), (19, .slice ad95 tB.length c96)] (by kernel_rfl) rfl ak0 ?_
                have hs118 : St W ((Cel p52 #[.map (some r53)] 89) :: (MapA Value.string Value.string r53 mB) :: (Sl ad113 c114 61 2 ItemV.cells (lst mA)) :: (Cel p16 #[.map (some r17)] 89) :: (MapA Value.string Value.string r17 mA) :: (Sl ad95 c96 41 3 LastV.cells tB) :: (Cel p39 (arrCells LastV.cells tB) 86) :: (Sl ad89 c90 41 3 LastV.cells tA) :: (Cel p12 (arrCells LastV.cells tA) 86) :: (Base W) :: []) w117 := ((hs115.pull 8 rfl).pull 8 rfl)
                refine GoR.call rfl rfl (by kernel_rfl) (f := 23) (args := #[.pointer (some ⟨p52, 0, none⟩)]) (by kernel_rfl) Tryd.call23 (list_spec mB (Nat.le_trans hr.2.inv'.inv.len (by decide)) hs118) ?_
                rintro v122 w123 ⟨ad119, c120, rfl, hs121⟩
                refine ⟨(opn (by kernel_rfl)), ?_⟩
                refine GoR.call rfl rfl (by kernel_rfl) (f := 25) (args := #[.slice ad113 ((lst mA).length) c114, .slice ad119 ((lst mB).length) c120]) (by kernel_rfl) Tryd.call25 (same_spec (lst mA) (lst mB) (by rw [lst_length]; exact Nat.le_trans hr.2.inv.inv.len (by decide)) (by rw [lst_length]; exact Nat.le_trans hr.2.inv'.inv.len (by decide)) (fun w h => h.rows 3 rfl (itemF).size _) (fun w h => h.rows 0 rfl (itemF).size _) hs121) ?_
                rintro v125 w126 ⟨rfl, hs124⟩
                refine ⟨(opn (by kernel_rfl)), ?_⟩
                refine GoR.phaseK [(5, .gen [])] [127, 18, 19] [] [(127, .bool (decide ((lst mA) = (lst mB)))), (18, .slice ad89 tA.length c90), (19, .slice ad95 tB.length c96)] (by kernel_rfl) rfl ak0 ?_
                rcases Bool.eq_false_or_eq_true (decide ((lst mA) = (lst mB))) with h127 | h127
                · refine GoR.setB 127 true (by decide) (by kernel_rfl) h127 ?_
                  have h127' : (lst mA) = (lst mB) := of_decide_eq_true h127
                  refine GoR.phaseK [(6, .gen []), (7, .gen []), (8, .gen []), (9, .gen []), (10, .gen []), (11, .gen []), (12, .gen [])] [134] [] [(134, .bool (((tA.length : Nat) : Int) == (tB.length : Nat)))] (by kernel_rfl) rfl ak0 ?_
                  rcases Bool.eq_false_or_eq_true (((tA.length : Nat) : Int) == (tB.length : Nat)) with h128 | h128
                  · refine GoR.setB 134 true (by decide) (by kernel_rfl) h128 ?_
                    have h128' : ((tA.length : Nat) : Int) = (tB.length : Nat) := ieqT h128
                    refine GoR.call rfl rfl (by kernel_rfl) (f := 14) (args := #[]) (by kernel_rfl) Tryd.call14 (works10_spec (fun w h => hLW.base h 10 rfl) hs124) ?_
                    rintro v130 w131 ⟨rfl, hs129⟩
                    refine ⟨(opn (by kernel_rfl)), ?_⟩
                    refine GoR.phaseK [(14, .gen []), (15, .gen [])] [4] [] [(4, .bool true)] (by kernel_rfl) rfl ak0 ?_
                    refine GoR.done (GoQ.thn (GoC.ret ?_))
                    refine GoQ.done (.inl rfl) (v := .bool true) (fun a hf => results1 rfl (by kernel_rfl) a hf) ?_
                    exact ⟨rfl, hs129.below 10 rfl⟩
                  · refine GoR.setB 134 false (by decide) (by kernel_rfl) h128 ?_
                    have h128' : ¬ (((tA.length : Nat) : Int) = (tB.length : Nat)) := ieqF h128
                    exact absurd (by omega) (ieqF h128)
                · refine GoR.setB 127 false (by decide) (by kernel_rfl) h127 ?_
                  have h127' : ¬ ((lst mA) = (lst mB)) := of_decide_eq_false h127
                  exact absurd h127 (by rw [hr.2.eqv.lst_eq]; simp)
          · exact absurd ((ofOK_lst (trun_inv _).inv).symm.trans h56) (by decide)
        · exact absurd ((trun_ok _).symm.trans h42) (by decide)
end Go.Proofs.YtkeckbgkhpaofaaDoor
