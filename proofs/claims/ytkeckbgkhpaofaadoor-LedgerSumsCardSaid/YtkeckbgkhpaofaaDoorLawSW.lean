/-
  The walk of LedgerSums.
-/
import Derived.Test.YtkeckbgkhpaofaaDoorProg
import Derived.Test.YtkeckbgkhpaofaaDoorLawS
namespace Go.Proofs.YtkeckbgkhpaofaaDoor
open Go.RowKit Go.Sx
set_option linter.unusedVariables false
set_option linter.unusedSimpArgs false
set_option linter.unnecessarySimpa false
set_option maxRecDepth 100000
theorem sums_walk (W : World) (hLW : Laid W) (ad : Option Addr) (c : Nat) (l : List OpV) (hok : ∀ q ∈ l, OpV.OK q) (hln : l.length ≤ 140737488351232) (rw : RowsAt W ad l.length 6 (fun k => OpV.cells (l.getD k dOp))) : Calls Tryd.prog 8 #[.slice ad l.length c] W (Ret fun rv w' => rv = .bool true ∧ Below W.heap.size W w') := by
  refine enter (args := [.slice ad l.length c]) Tryd.func8 rfl Tryd.ntmps8 (Nat.le_of_ble_eq_true (by kernel_rfl)) ?_
  refine GoC.slots (S' := [(0, .slice ad l.length c)]) rfl ?_
  refine GoC.seq ?_
  refine GoC.regT [1] (.rd 0 .done) (by kernel_rfl) (by kernel_rfl) ?_
  refine GoR.phaseK [(0, .gen [])] [2, 0] [] [(2, .bool false), (0, .slice ad l.length c)] (by kernel_rfl) rfl ak0 ?_
  refine GoR.done (GoQ.thn (GoC.seq (GoC.seq ?_)))
  refine GoC.regT [7, 7, 7] (.rd 0 (.ef 1 (.rd 2 .done))) (by kernel_rfl) (by kernel_rfl) ?_
  refine GoR.phaseK [(0, .gen [])] [12, 2, 0] [] [(12, .slice ad l.length c), (2, .bool false), (0, .slice ad l.length c)] (by kernel_rfl) rfl ak0 ?_
  refine GoR.call rfl rfl (by kernel_rfl) (f := 20) (args := #[.slice ad l.length c]) (by kernel_rfl) Tryd.call20 (few_spec l (fun q hq => (hok q hq).small) (by omega) (fun w h => rw.base (fun k _ => (opF).size _) h 0 rfl) (St.start W)) ?_
  rintro v2 w3 ⟨rfl, hs1⟩
  refine ⟨(opn (by kernel_rfl)), ?_⟩
  refine GoR.phaseK [(2, .gen [])] [14, 2, 0] [] [(14, .bool (!(few l))), (2, .bool false), (0, .slice ad l.length c)] (by kernel_rfl) rfl ak0 ?_
  refine GoR.done (GoQ.thn ?_)
  refine GoC.cond (t := !(few l)) (by kernel_rfl) (fun h4 => ?_) (fun h4 => ?_)
  · have h4n : (few l) = false := notT h4
    refine GoC.seq ?_
    refine GoC.regT [3, 3] (.ef 0 (.rd 1 .done)) (by kernel_rfl) (by kernel_rfl) ?_
    refine GoR.call rfl rfl (by kernel_rfl) (f := 21) (args := #[]) (by kernel_rfl) Tryd.call21 (works_spec (fun w h => hLW.base h 0 rfl) hs1) ?_
    rintro v6 w7 ⟨rfl, hs5⟩
    refine ⟨(opn (by kernel_rfl)), ?_⟩
    refine GoR.phaseK [(1, .gen [])] [2, 0] [] [(2, .bool true), (0, .slice ad l.length c)] (by kernel_rfl) rfl ak0 ?_
    refine GoR.done (GoQ.thn (GoC.ret (GoQ.skipCR ?_)))
    refine GoQ.done (.inl rfl) (v := .bool true) (fun a hf => results1 rfl (by kernel_rfl) a hf) ?_
    exact ⟨rfl, hs5.below 0 rfl⟩
  · have h4n : (few l) = true := notF h4
    refine GoC.skip (GoQ.thn (GoC.seq ?_))
    refine GoC.regT [3, 3] (.ef 0 (.rd 1 .done)) (by kernel_rfl) (by kernel_rfl) ?_
    refine GoR.call rfl rfl (by kernel_rfl) (f := 16) (args := #[]) (by kernel_rfl) Tryd.call16 (new_spec hs1) ?_
    rintro v11 w12 ⟨p8, r9, rfl, hs10⟩
    refine ⟨(opn (by kernel_rfl)), ?_⟩
    refine GoR.phaseK [(1, .gen [])] [3, 2, 0] [] [(3, .pointer (some ⟨p8, 0, none⟩)), (2, .bool false), (0, .slice ad l.length c)] (by kernel_rfl) rfl ak0 ?_
    refine GoR.done (GoQ.thn (GoC.seq (GoC.seq ?_)))
    refine GoC.regT [1] (.rd 0 .done) (by kernel_rfl) (by kernel_rfl) ?_
    refine GoR.phaseK [(0, .gen [])] [4, 3, 2, 0] [] [(4, .int .i64 0), (3, .pointer (some ⟨p8, 0, none⟩)), (2, .bool false), (0, .slice ad l.length c)] (by kernel_rfl) rfl ak0 ?_
    refine GoR.done (GoQ.thn (GoC.block ?_))
    refine GoC.loop (T := Nat) (fun gg => [(0, .slice ad l.length c), (3, .pointer (some ⟨p8, 0, none⟩)), (4, .int .i64 (gg : Nat))]) (fun gg w => (gg ≤ l.length) ∧ St W ((Cel p8 #[.map (some r9)] 89) :: (MapA Value.string Value.string r9 (lrun (l.take gg))) :: (Base W) :: []) w) (fun gg => l.length - gg) 0 [0, 3, 4] (by kernel_rfl) ⟨Nat.zero_le _, hs10⟩ ?_
    rintro k w13 ⟨hp0, hs14⟩
    have hp : k ≤ l.length := hp0
    have hs15 : St W ((Cel p8 #[.map (some r9)] 89) :: (MapA Value.string Value.string r9 (lrun (l.take k))) :: (Base W) :: []) w13 := hs14
    refine GoC.slots (S' := [(0, .slice ad l.length c), (3, .pointer (some ⟨p8, 0, none⟩)), (4, .int .i64 (k : Nat))]) rfl ?_
    refine GoC.seq (GoC.seq ?_)
    refine GoC.regT [15, 15, 15, 15] (.rd 0 (.rd 1 (.rd 2 (.rd 3 .done)))) (by kernel_rfl) (by kernel_rfl) ?_
    refine GoR.phaseK [(0, .gen []), (1, .gen []), (2, .gen []), (3, .gen [])] [20, 0, 3, 4] [] [(20, .bool (decide (((k : Nat) : Int) < (l.length : Nat)))), (0, .slice ad l.length c), (3, .pointer (some ⟨p8, 0, none⟩)), (4, .int .i64 (k : Nat))] (by kernel_rfl) rfl ak0 ?_
    refine GoR.done (GoQ.thn ?_)
    refine GoC.cond (t := decide (((k : Nat) : Int) < (l.length : Nat))) (by kernel_rfl) (fun h16 => ?_) (fun h16 => ?_)
    · have h16' : ((k : Nat) : Int) < (l.length : Nat) := of_decide_eq_true h16
      have hk : k < l.length := by omega
      obtain ⟨ab17, ao18, rfl⟩ := RowsAt.isSome rw (by omega)
      refine GoC.skip (GoQ.thn (GoC.seq (GoC.block (GoC.seq ?_))))
      refine GoC.regT [7, 7, 7] (.rd 0 (.ef 1 (.rd 2 .done))) (by kernel_rfl) (by kernel_rfl) ?_
      refine GoR.phaseK [(0, .gen [])] [23, 0, 3, 4] [] [(23, .pointer (some ⟨p8, 0, none⟩)), (0, .slice (some ⟨ab17, ao18, none⟩) l.length c), (3, .pointer (some ⟨p8, 0, none⟩)), (4, .int .i64 (k : Nat))] (by kernel_rfl) rfl ak0 ?_
      refine GoR.call rfl rfl (by kernel_rfl) (f := 23) (args := #[.pointer (some ⟨p8, 0, none⟩)]) (by kernel_rfl) Tryd.call23 (list_spec (lrun (l.take k)) (Nat.le_trans (lrun_inv _).len (by decide)) hs15) ?_
      rintro v22 w23 ⟨ad19, c20, rfl, hs21⟩
      refine ⟨(opn (by kernel_rfl)), ?_⟩
      refine GoR.phaseK [(2, .gen [])] [5, 0, 3, 4] [] [(5, .slice ad19 ((lst (lrun (l.take k))).length) c20), (0, .slice (some ⟨ab17, ao18, none⟩) l.length c), (3, .pointer (some ⟨p8, 0, none⟩)), (4, .int .i64 (k : Nat))] (by kernel_rfl) rfl ak0 ?_
      refine GoR.done (GoQ.thn (GoC.seq ?_))
      refine GoC.regT [255, 255, 255, 255, 255, 255, 255, 255] (.rd 0 (.rd 1 (.rd 2 (.rd 3 (.rd 4 (.ef 5 (.ef 6 (.ef 7 .done)))))))) (by kernel_rfl) (by kernel_rfl) ?_
      refine GoR.phaseK [(0, .gen []), (1, .gen []), (2, .gen []), (3, .as_ (.pointer (some ⟨ab17, ao18 + (k * 6), none⟩)) .at_), (4, .agg (OpV.cells (l.getD k dOp)))] [29, 25, 5, 0, 3, 4] [(3, [.prop (0 ≤ ((k : Nat) : Int) ∧ ((k : Nat) : Int) < ((l.length : Nat) : Int)), .prop (Value.pointer (some (Addr.add ⟨ab17, ao18, none⟩ (Int.toNat (k : Nat) * 6))) = Value.pointer (some ⟨ab17, ao18 + (k * 6), none⟩))]), (4, [.prop (Array.size (OpV.cells (l.getD k dOp)) = 6), .cells ⟨ab17, ao18 + (k * 6), none⟩ (OpV.cells (l.getD k dOp))])] [(29, .agg (OpV.cells (l.getD k dOp))), (25, .pointer (some ⟨p8, 0, none⟩)), (5, .slice ad19 ((lst (lrun (l.take k))).length) c20), (0, .slice (some ⟨ab17, ao18, none⟩) l.length c), (3, .pointer (some ⟨p8, 0, none⟩)), (4, .int .i64 (k : Nat))] (by kernel_rfl) rfl (ak (okp (by omega) (okp (ptrAdd _ _ _) ok0)) (ak (okp (by kernel_rfl) (oka (RowsAt.all0 (rw.base (fun k _ => (opF).size _) hs21 3 rfl) (by first | omega | (simp only [List.length_set]; omega)) (Nat.le_of_ble_eq_true (by kernel_rfl)) (by kernel_rfl)) ok0)) ak0)) ?_
      have hs24 : St W ((Cel p8 #[.map (some r9)] 89) :: (MapA Value.string Value.string r9 (lrun (l.take k))) :: (Sl ad19 c20 61 2 ItemV.cells (lst (lrun (l.take k)))) :: (Base W) :: []) w23 := ((hs21.pull 2 rfl).pull 2 rfl)
      refine GoR.call rfl rfl (by kernel_rfl) (f := 22) (args := #[.pointer (some ⟨p8, 0, none⟩), .agg (OpV.cells (l.getD k dOp))]) (by kernel_rfl) Tryd.call22 (ldo_spec (lrun (l.take k)) (l.getD k dOp) (lrun_inv _).short (fun w h => hLW.base h 1 rfl) (hok _ (getD_mem hk)).amount.1 hs24) ?_
      rintro v26 w27 ⟨rfl, hs25⟩
      refine ⟨(opn (by kernel_rfl)), ?_⟩
      refine GoR.alloc rfl rfl (by kernel_rfl) (z := .agg #[.int .i64 0, .string (⟨#[]⟩ : ByteArray)]) (by kernel_rfl) hs25 (cs := #[.int .i64 0, .string (⟨#[]⟩ : ByteArray)]) (by kernel_rfl) ?_
      intro b28 w29 hs30
      refine ⟨(opn (by kernel_rfl)), ?_⟩
      refine GoR.store rfl rfl (by kernel_rfl) (b := b28) (off := 0) (v := .agg (RepV.cells ((ldo (lrun (l.take k)) (l.getD k dOp)).1))) (by kernel_rfl) (by kernel_rfl) (ti := Tryd.t34) (by kernel_rfl) hs30 0 rfl (by kernel_rfl) (by kernel_rfl) (Nat.le_of_ble_eq_true (by kernel_rfl)) (cs' := RepV.cells ((ldo (lrun (l.take k)) (l.getD k dOp)).1)) (L' := (Cel b28 (RepV.cells ((ldo (lrun (l.take k)) (l.getD k dOp)).1)) 34) :: (Cel p8 #[.map (some r9)] 89) :: (MapA Value.string Value.string r9 ((ldo (lrun (l.take k)) (l.getD k dOp)).2)) :: (Sl ad19 c20 61 2 ItemV.cells (lst (lrun (l.take k)))) :: (Base W) :: []) (by kernel_rfl) rfl ?_
      intro w31 hs32
      refine ⟨(opn (by kernel_rfl)), ?_⟩
      refine GoR.done (GoQ.thn (GoC.seq ?_))
      refine GoC.regT [7, 7, 7] (.rd 0 (.ef 1 (.rd 2 .done))) (by kernel_rfl) (by kernel_rfl) ?_
      refine GoR.phaseK [(0, .gen [])] [31, 6, 5, 0, 3, 4] [] [(31, .pointer (some ⟨p8, 0, none⟩)), (6, .pointer (some ⟨b28, 0, none⟩)), (5, .slice ad19 ((lst (lrun (l.take k))).length) c20), (0, .slice (some ⟨ab17, ao18, none⟩) l.length c), (3, .pointer (some ⟨p8, 0, none⟩)), (4, .int .i64 (k : Nat))] (by kernel_rfl) rfl ak0 ?_
      have hs33 : St W ((Cel p8 #[.map (some r9)] 89) :: (MapA Value.string Value.string r9 ((ldo (lrun (l.take k)) (l.getD k dOp)).2)) :: (Cel b28 (RepV.cells ((ldo (lrun (l.take k)) (l.getD k dOp)).1)) 34) :: (Sl ad19 c20 61 2 ItemV.cells (lst (lrun (l.take k)))) :: (Base W) :: []) w31 := ((hs32.pull 2 rfl).pull 2 rfl)
      refine GoR.call rfl rfl (by kernel_rfl) (f := 23) (args := #[.pointer (some ⟨p8, 0, none⟩)]) (by kernel_rfl) Tryd.call23 (list_spec ((ldo (lrun (l.take k)) (l.getD k dOp)).2) (Nat.le_trans (ldo_inv _ (lrun_inv _)).len (by decide)) hs33) ?_
      rintro v37 w38 ⟨ad34, c35, rfl, hs36⟩
      refine ⟨(opn (by kernel_rfl)), ?_⟩
      refine GoR.phaseK [(2, .gen [])] [7, 6, 5, 0, 3, 4] [] [(7, .slice ad34 ((lst ((ldo (lrun (l.take k)) (l.getD k dOp)).2)).length) c35), (6, .pointer (some ⟨b28, 0, none⟩)), (5, .slice ad19 ((lst (lrun (l.take k))).length) c20), (0, .slice (some ⟨ab17, ao18, none⟩) l.length c), (3, .pointer (some ⟨p8, 0, none⟩)), (4, .int .i64 (k : Nat))] (by kernel_rfl) rfl ak0 ?_
      refine GoR.done (GoQ.thn (GoC.seq (GoC.seq ?_)))
      refine GoC.regT [536870911, 536870911, 536870911, 536870911, 536870911, 536870911, 536870911, 536870911, 536870911, 536870911, 536870911, 536870911, 536870911, 536870911, 536870911, 536870911, 536870911, 536870911, 536870911, 536870911, 536870911, 536870911, 536870911, 536870911, 536870911, 536870911, 536870911, 536870911, 536870911] (.rd 0 (.rd 1 (.rd 2 (.rd 3 (.rd 4 (.rd 5 (.ef 6 (.rd 7 (.rd 8 (.rd 9 (.rd 10 (.rd 11 (.rd 12 (.rd 13 (.rd 14 (.rd 15 (.rd 16 (.rd 17 (.ef 18 (.rd 19 (.ef 20 (.rd 21 (.rd 22 (.rd 23 (.rd 24 (.rd 25 (.rd 26 (.rd 27 (.rd 28 .done))))))))))))))))))))))))))))) (by kernel_rfl) (by kernel_rfl) ?_
      refine GoR.phaseK [(0, .gen []), (1, .gen [.int .i64 (((ldo (lrun (l.take k)) (l.getD k dOp)).1).err)]), (2, .gen []), (3, .gen [])] [36, 7, 5, 0, 3, 4] [(1, [.cell ⟨b28, 0, none⟩ (.int .i64 (((ldo (lrun (l.take k)) (l.getD k dOp)).1).err))])] [(36, .bool (((((ldo (lrun (l.take k)) (l.getD k dOp)).1).err) : Int) != 0)), (7, .slice ad34 ((lst ((ldo (lrun (l.take k)) (l.getD k dOp)).2)).length) c35), (5, .slice ad19 ((lst (lrun (l.take k))).length) c20), (0, .slice (some ⟨ab17, ao18, none⟩) l.length c), (3, .pointer (some ⟨p8, 0, none⟩)), (4, .int .i64 (k : Nat))] (by kernel_rfl) rfl (ak (okc (hs36.cell 3 rfl (by kernel_rfl)) ok0) ak0) ?_
      rcases Bool.eq_false_or_eq_true (((((ldo (lrun (l.take k)) (l.getD k dOp)).1).err) : Int) != 0) with h39 | h39
      · refine GoR.setB 36 true (by decide) (by kernel_rfl) h39 ?_
        have h39' : ¬ ((((ldo (lrun (l.take k)) (l.getD k dOp)).1).err : Int) = 0) := ineT h39
        refine GoR.phaseK [(4, .gen []), (5, .gen [])] [38, 37, 36, 7, 5, 0, 3, 4] [] [(38, .slice ad34 ((lst ((ldo (lrun (l.take k)) (l.getD k dOp)).2)).length) c35), (37, .slice ad19 ((lst (lrun (l.take k))).length) c20), (36, .bool true), (7, .slice ad34 ((lst ((ldo (lrun (l.take k)) (l.getD k dOp)).2)).length) c35), (5, .slice ad19 ((lst (lrun (l.take k))).length) c20), (0, .slice (some ⟨ab17, ao18, none⟩) l.length c), (3, .pointer (some ⟨p8, 0, none⟩)), (4, .int .i64 (k : Nat))] (by kernel_rfl) rfl ak0 ?_
        refine GoR.call rfl rfl (by kernel_rfl) (f := 25) (args := #[.slice ad19 ((lst (lrun (l.take k))).length) c20, .slice ad34 ((lst ((ldo (lrun (l.take k)) (l.getD k dOp)).2)).length) c35]) (by kernel_rfl) Tryd.call25 (same_spec (lst (lrun (l.take k))) (lst ((ldo (lrun (l.take k)) (l.getD k dOp)).2)) (by rw [lst_length]; exact Nat.le_trans (lrun_inv _).len (by decide)) (by rw [lst_length]; exact Nat.le_trans (ldo_inv _ (lrun_inv _)).len (by decide)) (fun w h => h.rows 4 rfl (itemF).size _) (fun w h => h.rows 0 rfl (itemF).size _) hs36) ?_
        rintro v41 w42 ⟨rfl, hs40⟩
        refine ⟨(opn (by kernel_rfl)), ?_⟩
        refine GoR.phaseK [(7, .gen []), (8, .gen []), (9, .gen [])] [42, 7, 5, 0, 3, 4] [] [(42, .bool (!(decide ((lst (lrun (l.take k))) = (lst ((ldo (lrun (l.take k)) (l.getD k dOp)).2)))))), (7, .slice ad34 ((lst ((ldo (lrun (l.take k)) (l.getD k dOp)).2)).length) c35), (5, .slice ad19 ((lst (lrun (l.take k))).length) c20), (0, .slice (some ⟨ab17, ao18, none⟩) l.length c), (3, .pointer (some ⟨p8, 0, none⟩)), (4, .int .i64 (k : Nat))] (by kernel_rfl) rfl ak0 ?_
        rcases Bool.eq_false_or_eq_true (!(decide ((lst (lrun (l.take k))) = (lst ((ldo (lrun (l.take k)) (l.getD k dOp)).2))))) with h43 | h43
        · refine GoR.setB 42 true (by decide) (by kernel_rfl) h43 ?_
          have h43n : (decide ((lst (lrun (l.take k))) = (lst ((ldo (lrun (l.take k)) (l.getD k dOp)).2)))) = false := notT h43
          have h43n' : ¬ ((lst (lrun (l.take k))) = (lst ((ldo (lrun (l.take k)) (l.getD k dOp)).2))) := of_decide_eq_false h43n
          refine GoR.phaseK [(10, .gen []), (11, .gen []), (12, .gen []), (13, .gen []), (14, .gen []), (15, .gen []), (16, .gen []), (17, .gen [])] [50, 49, 42, 7, 0, 3, 4] [] [(50, undef), (49, undef), (42, .bool true), (7, .slice ad34 ((lst ((ldo (lrun (l.take k)) (l.getD k dOp)).2)).length) c35), (0, .slice (some ⟨ab17, ao18, none⟩) l.length c), (3, .pointer (some ⟨p8, 0, none⟩)), (4, .int .i64 (k : Nat))] (by kernel_rfl) rfl ak0 ?_
          refine GoR.skip rfl (by kernel_rfl) (opn (by kernel_rfl)) ?_
          refine GoR.phaseK [(19, .gen [])] [52, 51, 49, 42, 7, 0, 3, 4] [] [(52, undef), (51, undef), (49, undef), (42, .bool true), (7, .slice ad34 ((lst ((ldo (lrun (l.take k)) (l.getD k dOp)).2)).length) c35), (0, .slice (some ⟨ab17, ao18, none⟩) l.length c), (3, .pointer (some ⟨p8, 0, none⟩)), (4, .int .i64 (k : Nat))] (by kernel_rfl) rfl ak0 ?_
          refine GoR.skip rfl (by kernel_rfl) (opn (by kernel_rfl)) ?_
          refine GoR.phaseK [(21, .gen []), (22, .gen []), (23, .gen []), (24, .gen []), (25, .gen []), (26, .gen []), (27, .gen []), (28, .gen [])] [61, 7, 0, 3, 4] [] [(61, .bool true), (7, .slice ad34 ((lst ((ldo (lrun (l.take k)) (l.getD k dOp)).2)).length) c35), (0, .slice (some ⟨ab17, ao18, none⟩) l.length c), (3, .pointer (some ⟨p8, 0, none⟩)), (4, .int .i64 (k : Nat))] (by kernel_rfl) rfl ak0 ?_
          refine GoR.done (GoQ.thn (GoC.condT (by kernel_rfl) (GoC.seq ?_)))
          refine GoC.regT [1] (.rd 0 .done) (by kernel_rfl) (by kernel_rfl) ?_
          refine GoR.phaseK [(0, .gen [])] [2, 7, 0, 3, 4] [] [(2, .bool false), (7, .slice ad34 ((lst ((ldo (lrun (l.take k)) (l.getD k dOp)).2)).length) c35), (0, .slice (some ⟨ab17, ao18, none⟩) l.length c), (3, .pointer (some ⟨p8, 0, none⟩)), (4, .int .i64 (k : Nat))] (by kernel_rfl) rfl ak0 ?_
          refine GoR.done (GoQ.thn (GoC.ret (GoQ.skipCR (GoQ.blkR (GoQ.skipCR (GoQ.skipLR (GoQ.blkR (GoQ.skipCR ?_))))))))
          refine GoQ.done (.inl rfl) (v := .bool false) (fun a hf => results1 rfl (by kernel_rfl) a hf) ?_
          have hr : sumB (lrun (l.take k)) (l.getD k dOp) = false := by rw [sumB, if_pos h39, if_pos h43]
          exact absurd (hr.symm.trans (sumB_true (lrun_inv _) _)) (by decide)
        · refine GoR.setB 42 false (by decide) (by kernel_rfl) h43 ?_
          have h43n : (decide ((lst (lrun (l.take k))) = (lst ((ldo (lrun (l.take k)) (l.getD k dOp)).2)))) = true := notF h43
          have h43n' : (lst (lrun (l.take k))) = (lst ((ldo (lrun (l.take k)) (l.getD k dOp)).2)) := of_decide_eq_true h43n
          refine GoR.phaseK [(10, .gen []), (11, .gen []), (12, .as_ (.pointer (some ⟨ab17, ao18 + (k * 6), none⟩)) .at_), (13, .gen []), (14, .gen [.int .u8 ((l.getD k dOp).kind)]), (15, .gen []), (16, .gen [])] [49, 42, 7, 5, 0, 3, 4] [(12, [.prop (0 ≤ ((k : Nat) : Int) ∧ ((k : Nat) : Int) < ((l.length : Nat) : Int)), .prop (Value.pointer (some (Addr.add ⟨ab17, ao18, none⟩ (Int.toNat (k : Nat) * 6))) = Value.pointer (some ⟨ab17, ao18 + (k * 6), none⟩))]), (14, [.cell ⟨ab17, ao18 + (k * 6), none⟩ (.int .u8 ((l.getD k dOp).kind))])] [(49, .bool ((((l.getD k dOp).kind) : Int) == 5)), (42, .bool false), (7, .slice ad34 ((lst ((ldo (lrun (l.take k)) (l.getD k dOp)).2)).length) c35), (5, .slice ad19 ((lst (lrun (l.take k))).length) c20), (0, .slice (some ⟨ab17, ao18, none⟩) l.length c), (3, .pointer (some ⟨p8, 0, none⟩)), (4, .int .i64 (k : Nat))] (by kernel_rfl) rfl (ak (okp (by omega) (okp (ptrAdd _ _ _) ok0)) (ak (okc (RowsAt.at0 (rw.base (fun k _ => (opF).size _) hs40 5 rfl) (by first | omega | (simp only [List.length_set]; omega)) (j := 0) (by decide) (by kernel_rfl)) ok0) ak0)) ?_
          rcases Bool.eq_false_or_eq_true ((((l.getD k dOp).kind) : Int) == 5) with h44 | h44
          · refine GoR.setB 49 true (by decide) (by kernel_rfl) h44 ?_
            have h44' : ((l.getD k dOp).kind : Int) = 5 := ieqT h44
            refine GoR.phaseK [(17, .gen [])] [50, 49, 42, 7, 0, 3, 4] [] [(50, .slice ad19 ((lst (lrun (l.take k))).length) c20), (49, .bool true), (42, .bool false), (7, .slice ad34 ((lst ((ldo (lrun (l.take k)) (l.getD k dOp)).2)).length) c35), (0, .slice (some ⟨ab17, ao18, none⟩) l.length c), (3, .pointer (some ⟨p8, 0, none⟩)), (4, .int .i64 (k : Nat))] (by kernel_rfl) rfl ak0 ?_
            refine GoR.call rfl rfl (by kernel_rfl) (f := 33) (args := #[.slice ad19 ((lst (lrun (l.take k))).length) c20]) (by kernel_rfl) Tryd.call33 (sum_spec (lst (lrun (l.take k))) (by rw [lst_length]; exact Nat.le_trans (lrun_inv _).len (by decide)) (fun x hx => Nat.le_trans ((lrun_inv _).val _ (lst_mem.1 hx)) (by decide)) (fun w h => h.rows 4 rfl (itemF).size _) hs40) ?_
            rintro v46 w47 ⟨rfl, hs45⟩
            refine ⟨(opn (by kernel_rfl)), ?_⟩
            refine GoR.phaseK [(19, .gen [])] [52, 51, 49, 42, 7, 0, 3, 4] [] [(52, .slice ad34 ((lst ((ldo (lrun (l.take k)) (l.getD k dOp)).2)).length) c35), (51, .int .u64 (sumL (lst (lrun (l.take k))))), (49, .bool true), (42, .bool false), (7, .slice ad34 ((lst ((ldo (lrun (l.take k)) (l.getD k dOp)).2)).length) c35), (0, .slice (some ⟨ab17, ao18, none⟩) l.length c), (3, .pointer (some ⟨p8, 0, none⟩)), (4, .int .i64 (k : Nat))] (by kernel_rfl) rfl ak0 ?_
            refine GoR.call rfl rfl (by kernel_rfl) (f := 33) (args := #[.slice ad34 ((lst ((ldo (lrun (l.take k)) (l.getD k dOp)).2)).length) c35]) (by kernel_rfl) Tryd.call33 (sum_spec (lst ((ldo (lrun (l.take k)) (l.getD k dOp)).2)) (by rw [lst_length]; exact Nat.le_trans (ldo_inv _ (lrun_inv _)).len (by decide)) (fun x hx => Nat.le_trans ((ldo_inv _ (lrun_inv _)).val _ (lst_mem.1 hx)) (by decide)) (fun w h => h.rows 0 rfl (itemF).size _) hs45) ?_
            rintro v49 w50 ⟨rfl, hs48⟩
            refine ⟨(opn (by kernel_rfl)), ?_⟩
            refine GoR.phaseK [(21, .gen []), (22, .gen []), (23, .gen []), (24, .gen [])] [57, 7, 0, 3, 4] [] [(57, .bool (((sumL (lst (lrun (l.take k)))) : Int) != (sumL (lst ((ldo (lrun (l.take k)) (l.getD k dOp)).2))))), (7, .slice ad34 ((lst ((ldo (lrun (l.take k)) (l.getD k dOp)).2)).length) c35), (0, .slice (some ⟨ab17, ao18, none⟩) l.length c), (3, .pointer (some ⟨p8, 0, none⟩)), (4, .int .i64 (k : Nat))] (by kernel_rfl) rfl ak0 ?_
            rcases Bool.eq_false_or_eq_true (((sumL (lst (lrun (l.take k)))) : Int) != (sumL (lst ((ldo (lrun (l.take k)) (l.getD k dOp)).2)))) with h51 | h51
            · refine GoR.setB 57 true (by decide) (by kernel_rfl) h51 ?_
              have h51' : ¬ ((sumL (lst (lrun (l.take k))) : Int) = (sumL (lst ((ldo (lrun (l.take k)) (l.getD k dOp)).2)))) := ineT h51
              refine GoR.phaseK [(25, .gen []), (26, .gen []), (27, .gen []), (28, .gen [])] [61, 7, 0, 3, 4] [] [(61, .bool true), (7, .slice ad34 ((lst ((ldo (lrun (l.take k)) (l.getD k dOp)).2)).length) c35), (0, .slice (some ⟨ab17, ao18, none⟩) l.length c), (3, .pointer (some ⟨p8, 0, none⟩)), (4, .int .i64 (k : Nat))] (by kernel_rfl) rfl ak0 ?_
              refine GoR.done (GoQ.thn (GoC.condT (by kernel_rfl) (GoC.seq ?_)))
              refine GoC.regT [1] (.rd 0 .done) (by kernel_rfl) (by kernel_rfl) ?_
              refine GoR.phaseK [(0, .gen [])] [2, 7, 0, 3, 4] [] [(2, .bool false), (7, .slice ad34 ((lst ((ldo (lrun (l.take k)) (l.getD k dOp)).2)).length) c35), (0, .slice (some ⟨ab17, ao18, none⟩) l.length c), (3, .pointer (some ⟨p8, 0, none⟩)), (4, .int .i64 (k : Nat))] (by kernel_rfl) rfl ak0 ?_
              refine GoR.done (GoQ.thn (GoC.ret (GoQ.skipCR (GoQ.blkR (GoQ.skipCR (GoQ.skipLR (GoQ.blkR (GoQ.skipCR ?_))))))))
              refine GoQ.done (.inl rfl) (v := .bool false) (fun a hf => results1 rfl (by kernel_rfl) a hf) ?_
              have hr : sumB (lrun (l.take k)) (l.getD k dOp) = false := by rw [sumB, if_pos h39, if_neg (ne_true_of_eq_false h43), if_pos h44, if_pos h51]
              exact absurd (hr.symm.trans (sumB_true (lrun_inv _) _)) (by decide)
            · refine GoR.setB 57 false (by decide) (by kernel_rfl) h51 ?_
              have h51' : (sumL (lst (lrun (l.take k))) : Int) = (sumL (lst ((ldo (lrun (l.take k)) (l.getD k dOp)).2))) := ineF h51
              refine GoR.phaseK [(25, .gen []), (26, .gen []), (27, .gen []), (28, .gen [])] [61, 7, 0, 3, 4] [] [(61, .bool (decide ((((lst ((ldo (lrun (l.take k)) (l.getD k dOp)).2)).length : Nat) : Int) > 64))), (7, .slice ad34 ((lst ((ldo (lrun (l.take k)) (l.getD k dOp)).2)).length) c35), (0, .slice (some ⟨ab17, ao18, none⟩) l.length c), (3, .pointer (some ⟨p8, 0, none⟩)), (4, .int .i64 (k : Nat))] (by kernel_rfl) rfl ak0 ?_
              refine GoR.done (GoQ.thn ?_)
              refine GoC.cond (t := decide ((((lst ((ldo (lrun (l.take k)) (l.getD k dOp)).2)).length : Nat) : Int) > 64)) (by kernel_rfl) (fun h52 => ?_) (fun h52 => ?_)
              · have h52' : (((lst ((ldo (lrun (l.take k)) (l.getD k dOp)).2)).length : Nat) : Int) > 64 := of_decide_eq_true h52
                refine GoC.seq ?_
                refine GoC.regT [1] (.rd 0 .done) (by kernel_rfl) (by kernel_rfl) ?_
                refine GoR.phaseK [(0, .gen [])] [2, 7, 0, 3, 4] [] [(2, .bool false), (7, .slice ad34 ((lst ((ldo (lrun (l.take k)) (l.getD k dOp)).2)).length) c35), (0, .slice (some ⟨ab17, ao18, none⟩) l.length c), (3, .pointer (some ⟨p8, 0, none⟩)), (4, .int .i64 (k : Nat))] (by kernel_rfl) rfl ak0 ?_
                refine GoR.done (GoQ.thn (GoC.ret (GoQ.skipCR (GoQ.blkR (GoQ.skipCR (GoQ.skipLR (GoQ.blkR (GoQ.skipCR ?_))))))))
                refine GoQ.done (.inl rfl) (v := .bool false) (fun a hf => results1 rfl (by kernel_rfl) a hf) ?_
                have hr : sumB (lrun (l.take k)) (l.getD k dOp) = false := by rw [sumB, if_pos h39, if_neg (ne_true_of_eq_false h43), if_pos h44, if_neg (ne_true_of_eq_false h51), if_pos h52]
                exact absurd (hr.symm.trans (sumB_true (lrun_inv _) _)) (by decide)
              · have h52' : ¬ ((((lst ((ldo (lrun (l.take k)) (l.getD k dOp)).2)).length : Nat) : Int) > 64) := of_decide_eq_false h52
                refine GoC.skip (GoQ.thn (GoC.seq ?_))
                refine GoC.regT [1] (.rd 0 .done) (by kernel_rfl) (by kernel_rfl) ?_
                refine GoR.phaseK [(0, .gen [])] [8, 7, 0, 3, 4] [] [(8, .int .i64 1), (7, .slice ad34 ((lst ((ldo (lrun (l.take k)) (l.getD k dOp)).2)).length) c35), (0, .slice (some ⟨ab17, ao18, none⟩) l.length c), (3, .pointer (some ⟨p8, 0, none⟩)), (4, .int .i64 (k : Nat))] (by kernel_rfl) rfl ak0 ?_
                refine GoR.done (GoQ.thn (GoC.block ?_))
                have hris := lst_rises (m := ((ldo (lrun (l.take k)) (l.getD k dOp)).2)) (ldo_inv _ (lrun_inv _)).keys
                refine GoC.loop (T := Nat) (fun gg => [(0, .slice (some ⟨ab17, ao18, none⟩) l.length c), (3, .pointer (some ⟨p8, 0, none⟩)), (4, .int .i64 (k : Nat)), (7, .slice ad34 ((lst ((ldo (lrun (l.take k)) (l.getD k dOp)).2)).length) c35), (8, .int .i64 ((gg : Nat) + 1))]) (fun gg w => (True) ∧ St W ((Sl ad34 c35 61 2 ItemV.cells (lst ((ldo (lrun (l.take k)) (l.getD k dOp)).2))) :: (Cel p8 #[.map (some r9)] 89) :: (MapA Value.string Value.string r9 ((ldo (lrun (l.take k)) (l.getD k dOp)).2)) :: (Cel b28 (RepV.cells ((ldo (lrun (l.take k)) (l.getD k dOp)).1)) 34) :: (Sl ad19 c20 61 2 ItemV.cells (lst (lrun (l.take k)))) :: (Base W) :: []) w) (fun gg => (lst ((ldo (lrun (l.take k)) (l.getD k dOp)).2)).length - gg) 0 [0, 3, 4, 7, 8] (by kernel_rfl) ⟨trivial, hs48⟩ ?_
                rintro j w53 ⟨hj0, hs54⟩
                have hj : True := hj0
                have hs55 : St W ((Sl ad34 c35 61 2 ItemV.cells (lst ((ldo (lrun (l.take k)) (l.getD k dOp)).2))) :: (Cel p8 #[.map (some r9)] 89) :: (MapA Value.string Value.string r9 ((ldo (lrun (l.take k)) (l.getD k dOp)).2)) :: (Cel b28 (RepV.cells ((ldo (lrun (l.take k)) (l.getD k dOp)).1)) 34) :: (Sl ad19 c20 61 2 ItemV.cells (lst (lrun (l.take k)))) :: (Base W) :: []) w53 := hs54
                refine GoC.slots (S' := [(0, .slice (some ⟨ab17, ao18, none⟩) l.length c), (3, .pointer (some ⟨p8, 0, none⟩)), (4, .int .i64 (k : Nat)), (7, .slice ad34 ((lst ((ldo (lrun (l.take k)) (l.getD k dOp)).2)).length) c35), (8, .int .i64 ((j : Nat) + 1))]) rfl ?_
                refine GoC.seq (GoC.seq ?_)
                refine GoC.regT [15, 15, 15, 15] (.rd 0 (.rd 1 (.rd 2 (.rd 3 .done)))) (by kernel_rfl) (by kernel_rfl) ?_
                refine GoR.phaseK [(0, .gen []), (1, .gen []), (2, .gen []), (3, .gen [])] [65, 0, 3, 4, 7, 8] [] [(65, .bool (decide (((j : Nat) + 1 : Int) < ((lst ((ldo (lrun (l.take k)) (l.getD k dOp)).2)).length : Nat)))), (0, .slice (some ⟨ab17, ao18, none⟩) l.length c), (3, .pointer (some ⟨p8, 0, none⟩)), (4, .int .i64 (k : Nat)), (7, .slice ad34 ((lst ((ldo (lrun (l.take k)) (l.getD k dOp)).2)).length) c35), (8, .int .i64 ((j : Nat) + 1))] (by kernel_rfl) rfl ak0 ?_
                refine GoR.done (GoQ.thn ?_)
                refine GoC.cond (t := decide (((j : Nat) + 1 : Int) < ((lst ((ldo (lrun (l.take k)) (l.getD k dOp)).2)).length : Nat))) (by kernel_rfl) (fun h56 => ?_) (fun h56 => ?_)
                · have h56' : ((j : Nat) + 1 : Int) < ((lst ((ldo (lrun (l.take k)) (l.getD k dOp)).2)).length : Nat) := of_decide_eq_true h56
                  have hj1 : j < (lst ((ldo (lrun (l.take k)) (l.getD k dOp)).2)).length := by omega
                  have hj2 : j + 1 < (lst ((ldo (lrun (l.take k)) (l.getD k dOp)).2)).length := by omega
                  obtain ⟨ab57, rfl⟩ := Sl.isSome (hs55.at_ 0 rfl) (by omega)
                  refine GoC.skip (GoQ.thn (GoC.seq (GoC.block (GoC.seq ?_))))
                  refine GoC.regD [0, 0, 2, 7, 15, 31, 0, 0, 192, 448, 960, 2047] (.rd 0 (.rd 1 (.rd 2 (.rd 3 (.rd 4 (.rd 5 (.rd 6 (.rd 7 (.rd 8 (.rd 9 (.rd 10 (.rd 11 .done)))))))))))) (by kernel_rfl) (by kernel_rfl) noPan_body (by kernel_rfl) hs55 ?_
                  intro w59 hs60 hw61
                  refine GoR.phaseK [(0, .gen []), (1, .gen []), (2, .as_ (.int .i64 (j : Nat)) (.gen [])), (3, .as_ (.pointer (some ⟨ab57, 0 + (j * 2), none⟩)) .at_), (4, .gen []), (5, .gen [.string (((lst ((ldo (lrun (l.take k)) (l.getD k dOp)).2)).getD j dItem).key)]), (6, .gen []), (7, .gen []), (8, .as_ (.pointer (some ⟨ab57, 0 + ((j + 1) * 2), none⟩)) .at_), (9, .gen []), (10, .gen [.string (((lst ((ldo (lrun (l.take k)) (l.getD k dOp)).2)).getD (j + 1) dItem).key)]), (11, .as_ (.bool (!(slt (((lst ((ldo (lrun (l.take k)) (l.getD k dOp)).2)).getD j dItem).key) (((lst ((ldo (lrun (l.take k)) (l.getD k dOp)).2)).getD (j + 1) dItem).key)))) (.gen []))] [79, 0, 3, 4, 7, 8] [(2, [.prop (Value.int .i64 (IntKind.i64.wrap (((j : Nat) + 1) - 1)) = Value.int .i64 (j : Nat))]), (3, [.prop (0 ≤ ((j : Nat) : Int) ∧ ((j : Nat) : Int) < (((lst ((ldo (lrun (l.take k)) (l.getD k dOp)).2)).length : Nat) : Int)), .prop (Value.pointer (some (Addr.add ⟨ab57, 0, none⟩ (Int.toNat (j : Nat) * 2))) = Value.pointer (some ⟨ab57, 0 + (j * 2), none⟩))]), (5, [.cell ⟨ab57, 0 + (j * 2), none⟩ (.string (((lst ((ldo (lrun (l.take k)) (l.getD k dOp)).2)).getD j dItem).key))]), (8, [.prop (0 ≤ (((j : Nat) + 1) : Int) ∧ (((j : Nat) + 1) : Int) < (((lst ((ldo (lrun (l.take k)) (l.getD k dOp)).2)).length : Nat) : Int)), .prop (Value.pointer (some (Addr.add ⟨ab57, 0, none⟩ (Int.toNat ((j : Nat) + 1) * 2))) = Value.pointer (some ⟨ab57, 0 + ((j + 1) * 2), none⟩))]), (10, [.cell ⟨ab57, 0 + ((j + 1) * 2), none⟩ (.string (((lst ((ldo (lrun (l.take k)) (l.getD k dOp)).2)).getD (j + 1) dItem).key))]), (11, [.prop (Value.bool (!(Op.bytesLess (((lst ((ldo (lrun (l.take k)) (l.getD k dOp)).2)).getD j dItem).key).toList (((lst ((ldo (lrun (l.take k)) (l.getD k dOp)).2)).getD (j + 1) dItem).key).toList)) = Value.bool (!(slt (((lst ((ldo (lrun (l.take k)) (l.getD k dOp)).2)).getD j dItem).key) (((lst ((ldo (lrun (l.take k)) (l.getD k dOp)).2)).getD (j + 1) dItem).key))))])] [(79, .bool (!(slt (((lst ((ldo (lrun (l.take k)) (l.getD k dOp)).2)).getD j dItem).key) (((lst ((ldo (lrun (l.take k)) (l.getD k dOp)).2)).getD (j + 1) dItem).key)))), (0, .slice (some ⟨ab17, ao18, none⟩) l.length c), (3, .pointer (some ⟨p8, 0, none⟩)), (4, .int .i64 (k : Nat)), (7, .slice (some ⟨ab57, 0, none⟩) ((lst ((ldo (lrun (l.take k)) (l.getD k dOp)).2)).length) c35), (8, .int .i64 ((j : Nat) + 1))] (by kernel_rfl) rfl (ak (okp (i64eq (by omega) (by omega) (by omega)) ok0) (ak (okp (by omega) (okp (ptrAdd _ _ _) ok0)) (ak (okc (RowsAt.at0 (hs60.rows 0 rfl (itemF).size dItem) (by first | omega | (simp only [List.length_set]; omega)) (j := 0) (by decide) (by kernel_rfl)) ok0) (ak (okp (by omega) (okp (ptrAdd _ _ _) ok0)) (ak (okc (RowsAt.at0 (hs60.rows 0 rfl (itemF).size dItem) (by first | omega | (simp only [List.length_set]; omega)) (j := 0) (by decide) (by kernel_rfl)) ok0) (ak (okp rfl ok0) ak0)))))) ?_
                  refine GoR.done (GoQ.thn ?_)
                  refine GoC.cond (t := !(slt (((lst ((ldo (lrun (l.take k)) (l.getD k dOp)).2)).getD j dItem).key) (((lst ((ldo (lrun (l.take k)) (l.getD k dOp)).2)).getD (j + 1) dItem).key))) (by kernel_rfl) (fun h62 => ?_) (fun h62 => ?_)
                  · have h62n : (slt (((lst ((ldo (lrun (l.take k)) (l.getD k dOp)).2)).getD j dItem).key) (((lst ((ldo (lrun (l.take k)) (l.getD k dOp)).2)).getD (j + 1) dItem).key)) = false := notT h62
                    exact absurd h62n (by rw [rise_at hris hj2]; decide)
                  · have h62n : (slt (((lst ((ldo (lrun (l.take k)) (l.getD k dOp)).2)).getD j dItem).key) (((lst ((ldo (lrun (l.take k)) (l.getD k dOp)).2)).getD (j + 1) dItem).key)) = true := notF h62
                    refine GoC.skip (GoQ.blkN (GoQ.thn ?_))
                    refine GoC.regT [7, 7, 7] (.rd 0 (.rd 1 (.rd 2 .done))) (by kernel_rfl) (by kernel_rfl) ?_
                    refine GoR.phaseK [(0, .gen []), (1, .as_ (.int .i64 ((j : Nat) + 2)) (.gen [])), (2, .gen [])] [8, 0, 3, 4, 7] [(1, [.prop (Value.int .i64 (IntKind.i64.wrap (((j : Nat) + 1) + 1)) = Value.int .i64 ((j : Nat) + 2))])] [(8, .int .i64 ((j : Nat) + 2)), (0, .slice (some ⟨ab17, ao18, none⟩) l.length c), (3, .pointer (some ⟨p8, 0, none⟩)), (4, .int .i64 (k : Nat)), (7, .slice (some ⟨ab57, 0, none⟩) ((lst ((ldo (lrun (l.take k)) (l.getD k dOp)).2)).length) c35)] (by kernel_rfl) rfl (ak (okp (i64eq (by omega) (by omega) (by omega)) ok0) ak0) ?_
                    refine GoR.done ?_
                    exact GoQ.back (j + 1) [0, 3, 4, 7, 8] (by kernel_rfl) (by show (lst ((ldo (lrun (l.take k)) (l.getD k dOp)).2)).length - (j + 1) < (lst ((ldo (lrun (l.take k)) (l.getD k dOp)).2)).length - j; omega) ⟨trivial, hs60⟩
                · have h56' : ¬ (((j : Nat) + 1 : Int) < ((lst ((ldo (lrun (l.take k)) (l.getD k dOp)).2)).length : Nat)) := of_decide_eq_false h56
                  refine GoC.exit (GoQ.skipC (GoQ.skipL (GoQ.hit (GoQ.blkN (GoQ.thn ?_)))))
                  refine GoC.regT [7, 7, 7] (.rd 0 (.rd 1 (.rd 2 .done))) (by kernel_rfl) (by kernel_rfl) ?_
                  refine GoR.phaseK [(0, .gen []), (1, .as_ (.int .i64 ((k : Nat) + 1)) (.gen [])), (2, .gen [])] [4, 0, 3] [(1, [.prop (Value.int .i64 (IntKind.i64.wrap ((k : Nat) + 1)) = Value.int .i64 ((k : Nat) + 1))])] [(4, .int .i64 ((k : Nat) + 1)), (0, .slice (some ⟨ab17, ao18, none⟩) l.length c), (3, .pointer (some ⟨p8, 0, none⟩))] (by kernel_rfl) rfl (ak (okp (i64ok (by omega) (by omega)) ok0) ak0) ?_
                  refine GoR.done ?_
                  have hs63 : St W ((Sl ad34 c35 61 2 ItemV.cells (lst ((ldo (lrun (l.take k)) (l.getD k dOp)).2))) :: (Cel b28 (RepV.cells ((ldo (lrun (l.take k)) (l.getD k dOp)).1)) 34) :: (Sl ad19 c20 61 2 ItemV.cells (lst (lrun (l.take k)))) :: (Cel p8 #[.map (some r9)] 89) :: (MapA Value.string Value.string r9 ((ldo (lrun (l.take k)) (l.getD k dOp)).2)) :: (Base W) :: []) w53 := ((((((hs55.pull 5 rfl).pull 3 rfl).pull 3 rfl).pull 5 rfl).pull 5 rfl).pull 5 rfl)
                  have hs64 : St W ((Cel p8 #[.map (some r9)] 89) :: (MapA Value.string Value.string r9 ((ldo (lrun (l.take k)) (l.getD k dOp)).2)) :: (Base W) :: []) w53 := hs63.drop 3
                  rw [← lrun_succ (d := dOp) hk] at hs64
                  exact GoQ.back (k + 1) [0, 3, 4] (by kernel_rfl) (by show l.length - (k + 1) < l.length - k; omega) ⟨by omega, hs64⟩
          · refine GoR.setB 49 false (by decide) (by kernel_rfl) h44 ?_
            have h44' : ¬ (((l.getD k dOp).kind : Int) = 5) := ieqF h44
            refine GoR.phaseK [(17, .gen [])] [50, 49, 42, 7, 0, 3, 4] [] [(50, undef), (49, .bool false), (42, .bool false), (7, .slice ad34 ((lst ((ldo (lrun (l.take k)) (l.getD k dOp)).2)).length) c35), (0, .slice (some ⟨ab17, ao18, none⟩) l.length c), (3, .pointer (some ⟨p8, 0, none⟩)), (4, .int .i64 (k : Nat))] (by kernel_rfl) rfl ak0 ?_
            refine GoR.skip rfl (by kernel_rfl) (opn (by kernel_rfl)) ?_
            refine GoR.phaseK [(19, .gen [])] [52, 51, 49, 42, 7, 0, 3, 4] [] [(52, undef), (51, undef), (49, .bool false), (42, .bool false), (7, .slice ad34 ((lst ((ldo (lrun (l.take k)) (l.getD k dOp)).2)).length) c35), (0, .slice (some ⟨ab17, ao18, none⟩) l.length c), (3, .pointer (some ⟨p8, 0, none⟩)), (4, .int .i64 (k : Nat))] (by kernel_rfl) rfl ak0 ?_
            refine GoR.skip rfl (by kernel_rfl) (opn (by kernel_rfl)) ?_
            refine GoR.phaseK [(21, .gen []), (22, .gen []), (23, .gen []), (24, .gen []), (25, .gen []), (26, .gen []), (27, .gen []), (28, .gen [])] [61, 7, 0, 3, 4] [] [(61, .bool (decide ((((lst ((ldo (lrun (l.take k)) (l.getD k dOp)).2)).length : Nat) : Int) > 64))), (7, .slice ad34 ((lst ((ldo (lrun (l.take k)) (l.getD k dOp)).2)).length) c35), (0, .slice (some ⟨ab17, ao18, none⟩) l.length c), (3, .pointer (some ⟨p8, 0, none⟩)), (4, .int .i64 (k : Nat))] (by kernel_rfl) rfl ak0 ?_
            refine GoR.done (GoQ.thn ?_)
            refine GoC.cond (t := decide ((((lst ((ldo (lrun (l.take k)) (l.getD k dOp)).2)).length : Nat) : Int) > 64)) (by kernel_rfl) (fun h65 => ?_) (fun h65 => ?_)
            · have h65' : (((lst ((ldo (lrun (l.take k)) (l.getD k dOp)).2)).length : Nat) : Int) > 64 := of_decide_eq_true h65
              refine GoC.seq ?_
              refine GoC.regT [1] (.rd 0 .done) (by kernel_rfl) (by kernel_rfl) ?_
              refine GoR.phaseK [(0, .gen [])] [2, 7, 0, 3, 4] [] [(2, .bool false), (7, .slice ad34 ((lst ((ldo (lrun (l.take k)) (l.getD k dOp)).2)).length) c35), (0, .slice (some ⟨ab17, ao18, none⟩) l.length c), (3, .pointer (some ⟨p8, 0, none⟩)), (4, .int .i64 (k : Nat))] (by kernel_rfl) rfl ak0 ?_
              refine GoR.done (GoQ.thn (GoC.ret (GoQ.skipCR (GoQ.blkR (GoQ.skipCR (GoQ.skipLR (GoQ.blkR (GoQ.skipCR ?_))))))))
              refine GoQ.done (.inl rfl) (v := .bool false) (fun a hf => results1 rfl (by kernel_rfl) a hf) ?_
              have hr : sumB (lrun (l.take k)) (l.getD k dOp) = false := by rw [sumB, if_pos h39, if_neg (ne_true_of_eq_false h43), if_neg (ne_true_of_eq_false h44), if_pos h65]
              exact absurd (hr.symm.trans (sumB_true (lrun_inv _) _)) (by decide)
            · have h65' : ¬ ((((lst ((ldo (lrun (l.take k)) (l.getD k dOp)).2)).length : Nat) : Int) > 64) := of_decide_eq_false h65
              refine GoC.skip (GoQ.thn (GoC.seq ?_))
              refine GoC.regT [1] (.rd 0 .done) (by kernel_rfl) (by kernel_rfl) ?_
              refine GoR.phaseK [(0, .gen [])] [8, 7, 0, 3, 4] [] [(8, .int .i64 1), (7, .slice ad34 ((lst ((ldo (lrun (l.take k)) (l.getD k dOp)).2)).length) c35), (0, .slice (some ⟨ab17, ao18, none⟩) l.length c), (3, .pointer (some ⟨p8, 0, none⟩)), (4, .int .i64 (k : Nat))] (by kernel_rfl) rfl ak0 ?_
              refine GoR.done (GoQ.thn (GoC.block ?_))
              have hris := lst_rises (m := ((ldo (lrun (l.take k)) (l.getD k dOp)).2)) (ldo_inv _ (lrun_inv _)).keys
              refine GoC.loop (T := Nat) (fun gg => [(0, .slice (some ⟨ab17, ao18, none⟩) l.length c), (3, .pointer (some ⟨p8, 0, none⟩)), (4, .int .i64 (k : Nat)), (7, .slice ad34 ((lst ((ldo (lrun (l.take k)) (l.getD k dOp)).2)).length) c35), (8, .int .i64 ((gg : Nat) + 1))]) (fun gg w => (True) ∧ St W ((Sl ad34 c35 61 2 ItemV.cells (lst ((ldo (lrun (l.take k)) (l.getD k dOp)).2))) :: (Cel p8 #[.map (some r9)] 89) :: (MapA Value.string Value.string r9 ((ldo (lrun (l.take k)) (l.getD k dOp)).2)) :: (Cel b28 (RepV.cells ((ldo (lrun (l.take k)) (l.getD k dOp)).1)) 34) :: (Sl ad19 c20 61 2 ItemV.cells (lst (lrun (l.take k)))) :: (Base W) :: []) w) (fun gg => (lst ((ldo (lrun (l.take k)) (l.getD k dOp)).2)).length - gg) 0 [0, 3, 4, 7, 8] (by kernel_rfl) ⟨trivial, hs40⟩ ?_
              rintro j w66 ⟨hj0, hs67⟩
              have hj : True := hj0
              have hs68 : St W ((Sl ad34 c35 61 2 ItemV.cells (lst ((ldo (lrun (l.take k)) (l.getD k dOp)).2))) :: (Cel p8 #[.map (some r9)] 89) :: (MapA Value.string Value.string r9 ((ldo (lrun (l.take k)) (l.getD k dOp)).2)) :: (Cel b28 (RepV.cells ((ldo (lrun (l.take k)) (l.getD k dOp)).1)) 34) :: (Sl ad19 c20 61 2 ItemV.cells (lst (lrun (l.take k)))) :: (Base W) :: []) w66 := hs67
              refine GoC.slots (S' := [(0, .slice (some ⟨ab17, ao18, none⟩) l.length c), (3, .pointer (some ⟨p8, 0, none⟩)), (4, .int .i64 (k : Nat)), (7, .slice ad34 ((lst ((ldo (lrun (l.take k)) (l.getD k dOp)).2)).length) c35), (8, .int .i64 ((j : Nat) + 1))]) rfl ?_
              refine GoC.seq (GoC.seq ?_)
              refine GoC.regT [15, 15, 15, 15] (.rd 0 (.rd 1 (.rd 2 (.rd 3 .done)))) (by kernel_rfl) (by kernel_rfl) ?_
              refine GoR.phaseK [(0, .gen []), (1, .gen []), (2, .gen []), (3, .gen [])] [65, 0, 3, 4, 7, 8] [] [(65, .bool (decide (((j : Nat) + 1 : Int) < ((lst ((ldo (lrun (l.take k)) (l.getD k dOp)).2)).length : Nat)))), (0, .slice (some ⟨ab17, ao18, none⟩) l.length c), (3, .pointer (some ⟨p8, 0, none⟩)), (4, .int .i64 (k : Nat)), (7, .slice ad34 ((lst ((ldo (lrun (l.take k)) (l.getD k dOp)).2)).length) c35), (8, .int .i64 ((j : Nat) + 1))] (by kernel_rfl) rfl ak0 ?_
              refine GoR.done (GoQ.thn ?_)
              refine GoC.cond (t := decide (((j : Nat) + 1 : Int) < ((lst ((ldo (lrun (l.take k)) (l.getD k dOp)).2)).length : Nat))) (by kernel_rfl) (fun h69 => ?_) (fun h69 => ?_)
              · have h69' : ((j : Nat) + 1 : Int) < ((lst ((ldo (lrun (l.take k)) (l.getD k dOp)).2)).length : Nat) := of_decide_eq_true h69
                have hj1 : j < (lst ((ldo (lrun (l.take k)) (l.getD k dOp)).2)).length := by omega
                have hj2 : j + 1 < (lst ((ldo (lrun (l.take k)) (l.getD k dOp)).2)).length := by omega
                obtain ⟨ab70, rfl⟩ := Sl.isSome (hs68.at_ 0 rfl) (by omega)
                refine GoC.skip (GoQ.thn (GoC.seq (GoC.block (GoC.seq ?_))))
                refine GoC.regD [0, 0, 2, 7, 15, 31, 0, 0, 192, 448, 960, 2047] (.rd 0 (.rd 1 (.rd 2 (.rd 3 (.rd 4 (.rd 5 (.rd 6 (.rd 7 (.rd 8 (.rd 9 (.rd 10 (.rd 11 .done)))))))))))) (by kernel_rfl) (by kernel_rfl) noPan_body (by kernel_rfl) hs68 ?_
                intro w72 hs73 hw74
                refine GoR.phaseK [(0, .gen []), (1, .gen []), (2, .as_ (.int .i64 (j : Nat)) (.gen [])), (3, .as_ (.pointer (some ⟨ab70, 0 + (j * 2), none⟩)) .at_), (4, .gen []), (5, .gen [.string (((lst ((ldo (lrun (l.take k)) (l.getD k dOp)).2)).getD j dItem).key)]), (6, .gen []), (7, .gen []), (8, .as_ (.pointer (some ⟨ab70, 0 + ((j + 1) * 2), none⟩)) .at_), (9, .gen []), (10, .gen [.string (((lst ((ldo (lrun (l.take k)) (l.getD k dOp)).2)).getD (j + 1) dItem).key)]), (11, .as_ (.bool (!(slt (((lst ((ldo (lrun (l.take k)) (l.getD k dOp)).2)).getD j dItem).key) (((lst ((ldo (lrun (l.take k)) (l.getD k dOp)).2)).getD (j + 1) dItem).key)))) (.gen []))] [79, 0, 3, 4, 7, 8] [(2, [.prop (Value.int .i64 (IntKind.i64.wrap (((j : Nat) + 1) - 1)) = Value.int .i64 (j : Nat))]), (3, [.prop (0 ≤ ((j : Nat) : Int) ∧ ((j : Nat) : Int) < (((lst ((ldo (lrun (l.take k)) (l.getD k dOp)).2)).length : Nat) : Int)), .prop (Value.pointer (some (Addr.add ⟨ab70, 0, none⟩ (Int.toNat (j : Nat) * 2))) = Value.pointer (some ⟨ab70, 0 + (j * 2), none⟩))]), (5, [.cell ⟨ab70, 0 + (j * 2), none⟩ (.string (((lst ((ldo (lrun (l.take k)) (l.getD k dOp)).2)).getD j dItem).key))]), (8, [.prop (0 ≤ (((j : Nat) + 1) : Int) ∧ (((j : Nat) + 1) : Int) < (((lst ((ldo (lrun (l.take k)) (l.getD k dOp)).2)).length : Nat) : Int)), .prop (Value.pointer (some (Addr.add ⟨ab70, 0, none⟩ (Int.toNat ((j : Nat) + 1) * 2))) = Value.pointer (some ⟨ab70, 0 + ((j + 1) * 2), none⟩))]), (10, [.cell ⟨ab70, 0 + ((j + 1) * 2), none⟩ (.string (((lst ((ldo (lrun (l.take k)) (l.getD k dOp)).2)).getD (j + 1) dItem).key))]), (11, [.prop (Value.bool (!(Op.bytesLess (((lst ((ldo (lrun (l.take k)) (l.getD k dOp)).2)).getD j dItem).key).toList (((lst ((ldo (lrun (l.take k)) (l.getD k dOp)).2)).getD (j + 1) dItem).key).toList)) = Value.bool (!(slt (((lst ((ldo (lrun (l.take k)) (l.getD k dOp)).2)).getD j dItem).key) (((lst ((ldo (lrun (l.take k)) (l.getD k dOp)).2)).getD (j + 1) dItem).key))))])] [(79, .bool (!(slt (((lst ((ldo (lrun (l.take k)) (l.getD k dOp)).2)).getD j dItem).key) (((lst ((ldo (lrun (l.take k)) (l.getD k dOp)).2)).getD (j + 1) dItem).key)))), (0, .slice (some ⟨ab17, ao18, none⟩) l.length c), (3, .pointer (some ⟨p8, 0, none⟩)), (4, .int .i64 (k : Nat)), (7, .slice (some ⟨ab70, 0, none⟩) ((lst ((ldo (lrun (l.take k)) (l.getD k dOp)).2)).length) c35), (8, .int .i64 ((j : Nat) + 1))] (by kernel_rfl) rfl (ak (okp (i64eq (by omega) (by omega) (by omega)) ok0) (ak (okp (by omega) (okp (ptrAdd _ _ _) ok0)) (ak (okc (RowsAt.at0 (hs73.rows 0 rfl (itemF).size dItem) (by first | omega | (simp only [List.length_set]; omega)) (j := 0) (by decide) (by kernel_rfl)) ok0) (ak (okp (by omega) (okp (ptrAdd _ _ _) ok0)) (ak (okc (RowsAt.at0 (hs73.rows 0 rfl (itemF).size dItem) (by first | omega | (simp only [List.length_set]; omega)) (j := 0) (by decide) (by kernel_rfl)) ok0) (ak (okp rfl ok0) ak0)))))) ?_
                refine GoR.done (GoQ.thn ?_)
                refine GoC.cond (t := !(slt (((lst ((ldo (lrun (l.take k)) (l.getD k dOp)).2)).getD j dItem).key) (((lst ((ldo (lrun (l.take k)) (l.getD k dOp)).2)).getD (j + 1) dItem).key))) (by kernel_rfl) (fun h75 => ?_) (fun h75 => ?_)
                · have h75n : (slt (((lst ((ldo (lrun (l.take k)) (l.getD k dOp)).2)).getD j dItem).key) (((lst ((ldo (lrun (l.take k)) (l.getD k dOp)).2)).getD (j + 1) dItem).key)) = false := notT h75
                  exact absurd h75n (by rw [rise_at hris hj2]; decide)
                · have h75n : (slt (((lst ((ldo (lrun (l.take k)) (l.getD k dOp)).2)).getD j dItem).key) (((lst ((ldo (lrun (l.take k)) (l.getD k dOp)).2)).getD (j + 1) dItem).key)) = true := notF h75
                  refine GoC.skip (GoQ.blkN (GoQ.thn ?_))
                  refine GoC.regT [7, 7, 7] (.rd 0 (.rd 1 (.rd 2 .done))) (by kernel_rfl) (by kernel_rfl) ?_
                  refine GoR.phaseK [(0, .gen []), (1, .as_ (.int .i64 ((j : Nat) + 2)) (.gen [])), (2, .gen [])] [8, 0, 3, 4, 7] [(1, [.prop (Value.int .i64 (IntKind.i64.wrap (((j : Nat) + 1) + 1)) = Value.int .i64 ((j : Nat) + 2))])] [(8, .int .i64 ((j : Nat) + 2)), (0, .slice (some ⟨ab17, ao18, none⟩) l.length c), (3, .pointer (some ⟨p8, 0, none⟩)), (4, .int .i64 (k : Nat)), (7, .slice (some ⟨ab70, 0, none⟩) ((lst ((ldo (lrun (l.take k)) (l.getD k dOp)).2)).length) c35)] (by kernel_rfl) rfl (ak (okp (i64eq (by omega) (by omega) (by omega)) ok0) ak0) ?_
                  refine GoR.done ?_
                  exact GoQ.back (j + 1) [0, 3, 4, 7, 8] (by kernel_rfl) (by show (lst ((ldo (lrun (l.take k)) (l.getD k dOp)).2)).length - (j + 1) < (lst ((ldo (lrun (l.take k)) (l.getD k dOp)).2)).length - j; omega) ⟨trivial, hs73⟩
              · have h69' : ¬ (((j : Nat) + 1 : Int) < ((lst ((ldo (lrun (l.take k)) (l.getD k dOp)).2)).length : Nat)) := of_decide_eq_false h69
                refine GoC.exit (GoQ.skipC (GoQ.skipL (GoQ.hit (GoQ.blkN (GoQ.thn ?_)))))
                refine GoC.regT [7, 7, 7] (.rd 0 (.rd 1 (.rd 2 .done))) (by kernel_rfl) (by kernel_rfl) ?_
                refine GoR.phaseK [(0, .gen []), (1, .as_ (.int .i64 ((k : Nat) + 1)) (.gen [])), (2, .gen [])] [4, 0, 3] [(1, [.prop (Value.int .i64 (IntKind.i64.wrap ((k : Nat) + 1)) = Value.int .i64 ((k : Nat) + 1))])] [(4, .int .i64 ((k : Nat) + 1)), (0, .slice (some ⟨ab17, ao18, none⟩) l.length c), (3, .pointer (some ⟨p8, 0, none⟩))] (by kernel_rfl) rfl (ak (okp (i64ok (by omega) (by omega)) ok0) ak0) ?_
                refine GoR.done ?_
                have hs76 : St W ((Sl ad34 c35 61 2 ItemV.cells (lst ((ldo (lrun (l.take k)) (l.getD k dOp)).2))) :: (Cel b28 (RepV.cells ((ldo (lrun (l.take k)) (l.getD k dOp)).1)) 34) :: (Sl ad19 c20 61 2 ItemV.cells (lst (lrun (l.take k)))) :: (Cel p8 #[.map (some r9)] 89) :: (MapA Value.string Value.string r9 ((ldo (lrun (l.take k)) (l.getD k dOp)).2)) :: (Base W) :: []) w66 := ((((((hs68.pull 5 rfl).pull 3 rfl).pull 3 rfl).pull 5 rfl).pull 5 rfl).pull 5 rfl)
                have hs77 : St W ((Cel p8 #[.map (some r9)] 89) :: (MapA Value.string Value.string r9 ((ldo (lrun (l.take k)) (l.getD k dOp)).2)) :: (Base W) :: []) w66 := hs76.drop 3
                rw [← lrun_succ (d := dOp) hk] at hs77
                exact GoQ.back (k + 1) [0, 3, 4] (by kernel_rfl) (by show l.length - (k + 1) < l.length - k; omega) ⟨by omega, hs77⟩
      · refine GoR.setB 36 false (by decide) (by kernel_rfl) h39 ?_
        have h39' : (((ldo (lrun (l.take k)) (l.getD k dOp)).1).err : Int) = 0 := ineF h39
        refine GoR.phaseK [(4, .gen []), (5, .gen [])] [38, 37, 36, 7, 5, 0, 3, 4] [] [(38, undef), (37, undef), (36, .bool false), (7, .slice ad34 ((lst ((ldo (lrun (l.take k)) (l.getD k dOp)).2)).length) c35), (5, .slice ad19 ((lst (lrun (l.take k))).length) c20), (0, .slice (some ⟨ab17, ao18, none⟩) l.length c), (3, .pointer (some ⟨p8, 0, none⟩)), (4, .int .i64 (k : Nat))] (by kernel_rfl) rfl ak0 ?_
        refine GoR.skip rfl (by kernel_rfl) (opn (by kernel_rfl)) ?_
        refine GoR.phaseK [(7, .gen []), (8, .gen []), (9, .gen []), (10, .gen []), (11, .gen []), (12, .as_ (.pointer (some ⟨ab17, ao18 + (k * 6), none⟩)) .at_), (13, .gen []), (14, .gen [.int .u8 ((l.getD k dOp).kind)]), (15, .gen []), (16, .gen [])] [49, 42, 7, 5, 0, 3, 4] [(12, [.prop (0 ≤ ((k : Nat) : Int) ∧ ((k : Nat) : Int) < ((l.length : Nat) : Int)), .prop (Value.pointer (some (Addr.add ⟨ab17, ao18, none⟩ (Int.toNat (k : Nat) * 6))) = Value.pointer (some ⟨ab17, ao18 + (k * 6), none⟩))]), (14, [.cell ⟨ab17, ao18 + (k * 6), none⟩ (.int .u8 ((l.getD k dOp).kind))])] [(49, .bool ((((l.getD k dOp).kind) : Int) == 5)), (42, .bool false), (7, .slice ad34 ((lst ((ldo (lrun (l.take k)) (l.getD k dOp)).2)).length) c35), (5, .slice ad19 ((lst (lrun (l.take k))).length) c20), (0, .slice (some ⟨ab17, ao18, none⟩) l.length c), (3, .pointer (some ⟨p8, 0, none⟩)), (4, .int .i64 (k : Nat))] (by kernel_rfl) rfl (ak (okp (by omega) (okp (ptrAdd _ _ _) ok0)) (ak (okc (RowsAt.at0 (rw.base (fun k _ => (opF).size _) hs36 5 rfl) (by first | omega | (simp only [List.length_set]; omega)) (j := 0) (by decide) (by kernel_rfl)) ok0) ak0)) ?_
        rcases Bool.eq_false_or_eq_true ((((l.getD k dOp).kind) : Int) == 5) with h78 | h78
        · refine GoR.setB 49 true (by decide) (by kernel_rfl) h78 ?_
          have h78' : ((l.getD k dOp).kind : Int) = 5 := ieqT h78
          refine GoR.phaseK [(17, .gen [])] [50, 49, 42, 7, 0, 3, 4] [] [(50, .slice ad19 ((lst (lrun (l.take k))).length) c20), (49, .bool true), (42, .bool false), (7, .slice ad34 ((lst ((ldo (lrun (l.take k)) (l.getD k dOp)).2)).length) c35), (0, .slice (some ⟨ab17, ao18, none⟩) l.length c), (3, .pointer (some ⟨p8, 0, none⟩)), (4, .int .i64 (k : Nat))] (by kernel_rfl) rfl ak0 ?_
          refine GoR.call rfl rfl (by kernel_rfl) (f := 33) (args := #[.slice ad19 ((lst (lrun (l.take k))).length) c20]) (by kernel_rfl) Tryd.call33 (sum_spec (lst (lrun (l.take k))) (by rw [lst_length]; exact Nat.le_trans (lrun_inv _).len (by decide)) (fun x hx => Nat.le_trans ((lrun_inv _).val _ (lst_mem.1 hx)) (by decide)) (fun w h => h.rows 4 rfl (itemF).size _) hs36) ?_
          rintro v80 w81 ⟨rfl, hs79⟩
          refine ⟨(opn (by kernel_rfl)), ?_⟩
          refine GoR.phaseK [(19, .gen [])] [52, 51, 49, 42, 7, 0, 3, 4] [] [(52, .slice ad34 ((lst ((ldo (lrun (l.take k)) (l.getD k dOp)).2)).length) c35), (51, .int .u64 (sumL (lst (lrun (l.take k))))), (49, .bool true), (42, .bool false), (7, .slice ad34 ((lst ((ldo (lrun (l.take k)) (l.getD k dOp)).2)).length) c35), (0, .slice (some ⟨ab17, ao18, none⟩) l.length c), (3, .pointer (some ⟨p8, 0, none⟩)), (4, .int .i64 (k : Nat))] (by kernel_rfl) rfl ak0 ?_
          refine GoR.call rfl rfl (by kernel_rfl) (f := 33) (args := #[.slice ad34 ((lst ((ldo (lrun (l.take k)) (l.getD k dOp)).2)).length) c35]) (by kernel_rfl) Tryd.call33 (sum_spec (lst ((ldo (lrun (l.take k)) (l.getD k dOp)).2)) (by rw [lst_length]; exact Nat.le_trans (ldo_inv _ (lrun_inv _)).len (by decide)) (fun x hx => Nat.le_trans ((ldo_inv _ (lrun_inv _)).val _ (lst_mem.1 hx)) (by decide)) (fun w h => h.rows 0 rfl (itemF).size _) hs79) ?_
          rintro v83 w84 ⟨rfl, hs82⟩
          refine ⟨(opn (by kernel_rfl)), ?_⟩
          refine GoR.phaseK [(21, .gen []), (22, .gen []), (23, .gen []), (24, .gen [])] [57, 7, 0, 3, 4] [] [(57, .bool (((sumL (lst (lrun (l.take k)))) : Int) != (sumL (lst ((ldo (lrun (l.take k)) (l.getD k dOp)).2))))), (7, .slice ad34 ((lst ((ldo (lrun (l.take k)) (l.getD k dOp)).2)).length) c35), (0, .slice (some ⟨ab17, ao18, none⟩) l.length c), (3, .pointer (some ⟨p8, 0, none⟩)), (4, .int .i64 (k : Nat))] (by kernel_rfl) rfl ak0 ?_
          rcases Bool.eq_false_or_eq_true (((sumL (lst (lrun (l.take k)))) : Int) != (sumL (lst ((ldo (lrun (l.take k)) (l.getD k dOp)).2)))) with h85 | h85
          · refine GoR.setB 57 true (by decide) (by kernel_rfl) h85 ?_
            have h85' : ¬ ((sumL (lst (lrun (l.take k))) : Int) = (sumL (lst ((ldo (lrun (l.take k)) (l.getD k dOp)).2)))) := ineT h85
            refine GoR.phaseK [(25, .gen []), (26, .gen []), (27, .gen []), (28, .gen [])] [61, 7, 0, 3, 4] [] [(61, .bool true), (7, .slice ad34 ((lst ((ldo (lrun (l.take k)) (l.getD k dOp)).2)).length) c35), (0, .slice (some ⟨ab17, ao18, none⟩) l.length c), (3, .pointer (some ⟨p8, 0, none⟩)), (4, .int .i64 (k : Nat))] (by kernel_rfl) rfl ak0 ?_
            refine GoR.done (GoQ.thn (GoC.condT (by kernel_rfl) (GoC.seq ?_)))
            refine GoC.regT [1] (.rd 0 .done) (by kernel_rfl) (by kernel_rfl) ?_
            refine GoR.phaseK [(0, .gen [])] [2, 7, 0, 3, 4] [] [(2, .bool false), (7, .slice ad34 ((lst ((ldo (lrun (l.take k)) (l.getD k dOp)).2)).length) c35), (0, .slice (some ⟨ab17, ao18, none⟩) l.length c), (3, .pointer (some ⟨p8, 0, none⟩)), (4, .int .i64 (k : Nat))] (by kernel_rfl) rfl ak0 ?_
            refine GoR.done (GoQ.thn (GoC.ret (GoQ.skipCR (GoQ.blkR (GoQ.skipCR (GoQ.skipLR (GoQ.blkR (GoQ.skipCR ?_))))))))
            refine GoQ.done (.inl rfl) (v := .bool false) (fun a hf => results1 rfl (by kernel_rfl) a hf) ?_
            have hr : sumB (lrun (l.take k)) (l.getD k dOp) = false := by rw [sumB, if_neg (ne_true_of_eq_false h39), if_pos h78, if_pos h85]
            exact absurd (hr.symm.trans (sumB_true (lrun_inv _) _)) (by decide)
          · refine GoR.setB 57 false (by decide) (by kernel_rfl) h85 ?_
            have h85' : (sumL (lst (lrun (l.take k))) : Int) = (sumL (lst ((ldo (lrun (l.take k)) (l.getD k dOp)).2))) := ineF h85
            refine GoR.phaseK [(25, .gen []), (26, .gen []), (27, .gen []), (28, .gen [])] [61, 7, 0, 3, 4] [] [(61, .bool (decide ((((lst ((ldo (lrun (l.take k)) (l.getD k dOp)).2)).length : Nat) : Int) > 64))), (7, .slice ad34 ((lst ((ldo (lrun (l.take k)) (l.getD k dOp)).2)).length) c35), (0, .slice (some ⟨ab17, ao18, none⟩) l.length c), (3, .pointer (some ⟨p8, 0, none⟩)), (4, .int .i64 (k : Nat))] (by kernel_rfl) rfl ak0 ?_
            refine GoR.done (GoQ.thn ?_)
            refine GoC.cond (t := decide ((((lst ((ldo (lrun (l.take k)) (l.getD k dOp)).2)).length : Nat) : Int) > 64)) (by kernel_rfl) (fun h86 => ?_) (fun h86 => ?_)
            · have h86' : (((lst ((ldo (lrun (l.take k)) (l.getD k dOp)).2)).length : Nat) : Int) > 64 := of_decide_eq_true h86
              refine GoC.seq ?_
              refine GoC.regT [1] (.rd 0 .done) (by kernel_rfl) (by kernel_rfl) ?_
              refine GoR.phaseK [(0, .gen [])] [2, 7, 0, 3, 4] [] [(2, .bool false), (7, .slice ad34 ((lst ((ldo (lrun (l.take k)) (l.getD k dOp)).2)).length) c35), (0, .slice (some ⟨ab17, ao18, none⟩) l.length c), (3, .pointer (some ⟨p8, 0, none⟩)), (4, .int .i64 (k : Nat))] (by kernel_rfl) rfl ak0 ?_
              refine GoR.done (GoQ.thn (GoC.ret (GoQ.skipCR (GoQ.blkR (GoQ.skipCR (GoQ.skipLR (GoQ.blkR (GoQ.skipCR ?_))))))))
              refine GoQ.done (.inl rfl) (v := .bool false) (fun a hf => results1 rfl (by kernel_rfl) a hf) ?_
              have hr : sumB (lrun (l.take k)) (l.getD k dOp) = false := by rw [sumB, if_neg (ne_true_of_eq_false h39), if_pos h78, if_neg (ne_true_of_eq_false h85), if_pos h86]
              exact absurd (hr.symm.trans (sumB_true (lrun_inv _) _)) (by decide)
            · have h86' : ¬ ((((lst ((ldo (lrun (l.take k)) (l.getD k dOp)).2)).length : Nat) : Int) > 64) := of_decide_eq_false h86
              refine GoC.skip (GoQ.thn (GoC.seq ?_))
              refine GoC.regT [1] (.rd 0 .done) (by kernel_rfl) (by kernel_rfl) ?_
              refine GoR.phaseK [(0, .gen [])] [8, 7, 0, 3, 4] [] [(8, .int .i64 1), (7, .slice ad34 ((lst ((ldo (lrun (l.take k)) (l.getD k dOp)).2)).length) c35), (0, .slice (some ⟨ab17, ao18, none⟩) l.length c), (3, .pointer (some ⟨p8, 0, none⟩)), (4, .int .i64 (k : Nat))] (by kernel_rfl) rfl ak0 ?_
              refine GoR.done (GoQ.thn (GoC.block ?_))
              have hris := lst_rises (m := ((ldo (lrun (l.take k)) (l.getD k dOp)).2)) (ldo_inv _ (lrun_inv _)).keys
              refine GoC.loop (T := Nat) (fun gg => [(0, .slice (some ⟨ab17, ao18, none⟩) l.length c), (3, .pointer (some ⟨p8, 0, none⟩)), (4, .int .i64 (k : Nat)), (7, .slice ad34 ((lst ((ldo (lrun (l.take k)) (l.getD k dOp)).2)).length) c35), (8, .int .i64 ((gg : Nat) + 1))]) (fun gg w => (True) ∧ St W ((Sl ad34 c35 61 2 ItemV.cells (lst ((ldo (lrun (l.take k)) (l.getD k dOp)).2))) :: (Cel p8 #[.map (some r9)] 89) :: (MapA Value.string Value.string r9 ((ldo (lrun (l.take k)) (l.getD k dOp)).2)) :: (Cel b28 (RepV.cells ((ldo (lrun (l.take k)) (l.getD k dOp)).1)) 34) :: (Sl ad19 c20 61 2 ItemV.cells (lst (lrun (l.take k)))) :: (Base W) :: []) w) (fun gg => (lst ((ldo (lrun (l.take k)) (l.getD k dOp)).2)).length - gg) 0 [0, 3, 4, 7, 8] (by kernel_rfl) ⟨trivial, hs82⟩ ?_
              rintro j w87 ⟨hj0, hs88⟩
              have hj : True := hj0
              have hs89 : St W ((Sl ad34 c35 61 2 ItemV.cells (lst ((ldo (lrun (l.take k)) (l.getD k dOp)).2))) :: (Cel p8 #[.map (some r9)] 89) :: (MapA Value.string Value.string r9 ((ldo (lrun (l.take k)) (l.getD k dOp)).2)) :: (Cel b28 (RepV.cells ((ldo (lrun (l.take k)) (l.getD k dOp)).1)) 34) :: (Sl ad19 c20 61 2 ItemV.cells (lst (lrun (l.take k)))) :: (Base W) :: []) w87 := hs88
              refine GoC.slots (S' := [(0, .slice (some ⟨ab17, ao18, none⟩) l.length c), (3, .pointer (some ⟨p8, 0, none⟩)), (4, .int .i64 (k : Nat)), (7, .slice ad34 ((lst ((ldo (lrun (l.take k)) (l.getD k dOp)).2)).length) c35), (8, .int .i64 ((j : Nat) + 1))]) rfl ?_
              refine GoC.seq (GoC.seq ?_)
              refine GoC.regT [15, 15, 15, 15] (.rd 0 (.rd 1 (.rd 2 (.rd 3 .done)))) (by kernel_rfl) (by kernel_rfl) ?_
              refine GoR.phaseK [(0, .gen []), (1, .gen []), (2, .gen []), (3, .gen [])] [65, 0, 3, 4, 7, 8] [] [(65, .bool (decide (((j : Nat) + 1 : Int) < ((lst ((ldo (lrun (l.take k)) (l.getD k dOp)).2)).length : Nat)))), (0, .slice (some ⟨ab17, ao18, none⟩) l.length c), (3, .pointer (some ⟨p8, 0, none⟩)), (4, .int .i64 (k : Nat)), (7, .slice ad34 ((lst ((ldo (lrun (l.take k)) (l.getD k dOp)).2)).length) c35), (8, .int .i64 ((j : Nat) + 1))] (by kernel_rfl) rfl ak0 ?_
              refine GoR.done (GoQ.thn ?_)
              refine GoC.cond (t := decide (((j : Nat) + 1 : Int) < ((lst ((ldo (lrun (l.take k)) (l.getD k dOp)).2)).length : Nat))) (by kernel_rfl) (fun h90 => ?_) (fun h90 => ?_)
              · have h90' : ((j : Nat) + 1 : Int) < ((lst ((ldo (lrun (l.take k)) (l.getD k dOp)).2)).length : Nat) := of_decide_eq_true h90
                have hj1 : j < (lst ((ldo (lrun (l.take k)) (l.getD k dOp)).2)).length := by omega
                have hj2 : j + 1 < (lst ((ldo (lrun (l.take k)) (l.getD k dOp)).2)).length := by omega
                obtain ⟨ab91, rfl⟩ := Sl.isSome (hs89.at_ 0 rfl) (by omega)
                refine GoC.skip (GoQ.thn (GoC.seq (GoC.block (GoC.seq ?_))))
                refine GoC.regD [0, 0, 2, 7, 15, 31, 0, 0, 192, 448, 960, 2047] (.rd 0 (.rd 1 (.rd 2 (.rd 3 (.rd 4 (.rd 5 (.rd 6 (.rd 7 (.rd 8 (.rd 9 (.rd 10 (.rd 11 .done)))))))))))) (by kernel_rfl) (by kernel_rfl) noPan_body (by kernel_rfl) hs89 ?_
                intro w93 hs94 hw95
                refine GoR.phaseK [(0, .gen []), (1, .gen []), (2, .as_ (.int .i64 (j : Nat)) (.gen [])), (3, .as_ (.pointer (some ⟨ab91, 0 + (j * 2), none⟩)) .at_), (4, .gen []), (5, .gen [.string (((lst ((ldo (lrun (l.take k)) (l.getD k dOp)).2)).getD j dItem).key)]), (6, .gen []), (7, .gen []), (8, .as_ (.pointer (some ⟨ab91, 0 + ((j + 1) * 2), none⟩)) .at_), (9, .gen []), (10, .gen [.string (((lst ((ldo (lrun (l.take k)) (l.getD k dOp)).2)).getD (j + 1) dItem).key)]), (11, .as_ (.bool (!(slt (((lst ((ldo (lrun (l.take k)) (l.getD k dOp)).2)).getD j dItem).key) (((lst ((ldo (lrun (l.take k)) (l.getD k dOp)).2)).getD (j + 1) dItem).key)))) (.gen []))] [79, 0, 3, 4, 7, 8] [(2, [.prop (Value.int .i64 (IntKind.i64.wrap (((j : Nat) + 1) - 1)) = Value.int .i64 (j : Nat))]), (3, [.prop (0 ≤ ((j : Nat) : Int) ∧ ((j : Nat) : Int) < (((lst ((ldo (lrun (l.take k)) (l.getD k dOp)).2)).length : Nat) : Int)), .prop (Value.pointer (some (Addr.add ⟨ab91, 0, none⟩ (Int.toNat (j : Nat) * 2))) = Value.pointer (some ⟨ab91, 0 + (j * 2), none⟩))]), (5, [.cell ⟨ab91, 0 + (j * 2), none⟩ (.string (((lst ((ldo (lrun (l.take k)) (l.getD k dOp)).2)).getD j dItem).key))]), (8, [.prop (0 ≤ (((j : Nat) + 1) : Int) ∧ (((j : Nat) + 1) : Int) < (((lst ((ldo (lrun (l.take k)) (l.getD k dOp)).2)).length : Nat) : Int)), .prop (Value.pointer (some (Addr.add ⟨ab91, 0, none⟩ (Int.toNat ((j : Nat) + 1) * 2))) = Value.pointer (some ⟨ab91, 0 + ((j + 1) * 2), none⟩))]), (10, [.cell ⟨ab91, 0 + ((j + 1) * 2), none⟩ (.string (((lst ((ldo (lrun (l.take k)) (l.getD k dOp)).2)).getD (j + 1) dItem).key))]), (11, [.prop (Value.bool (!(Op.bytesLess (((lst ((ldo (lrun (l.take k)) (l.getD k dOp)).2)).getD j dItem).key).toList (((lst ((ldo (lrun (l.take k)) (l.getD k dOp)).2)).getD (j + 1) dItem).key).toList)) = Value.bool (!(slt (((lst ((ldo (lrun (l.take k)) (l.getD k dOp)).2)).getD j dItem).key) (((lst ((ldo (lrun (l.take k)) (l.getD k dOp)).2)).getD (j + 1) dItem).key))))])] [(79, .bool (!(slt (((lst ((ldo (lrun (l.take k)) (l.getD k dOp)).2)).getD j dItem).key) (((lst ((ldo (lrun (l.take k)) (l.getD k dOp)).2)).getD (j + 1) dItem).key)))), (0, .slice (some ⟨ab17, ao18, none⟩) l.length c), (3, .pointer (some ⟨p8, 0, none⟩)), (4, .int .i64 (k : Nat)), (7, .slice (some ⟨ab91, 0, none⟩) ((lst ((ldo (lrun (l.take k)) (l.getD k dOp)).2)).length) c35), (8, .int .i64 ((j : Nat) + 1))] (by kernel_rfl) rfl (ak (okp (i64eq (by omega) (by omega) (by omega)) ok0) (ak (okp (by omega) (okp (ptrAdd _ _ _) ok0)) (ak (okc (RowsAt.at0 (hs94.rows 0 rfl (itemF).size dItem) (by first | omega | (simp only [List.length_set]; omega)) (j := 0) (by decide) (by kernel_rfl)) ok0) (ak (okp (by omega) (okp (ptrAdd _ _ _) ok0)) (ak (okc (RowsAt.at0 (hs94.rows 0 rfl (itemF).size dItem) (by first | omega | (simp only [List.length_set]; omega)) (j := 0) (by decide) (by kernel_rfl)) ok0) (ak (okp rfl ok0) ak0)))))) ?_
                refine GoR.done (GoQ.thn ?_)
                refine GoC.cond (t := !(slt (((lst ((ldo (lrun (l.take k)) (l.getD k dOp)).2)).getD j dItem).key) (((lst ((ldo (lrun (l.take k)) (l.getD k dOp)).2)).getD (j + 1) dItem).key))) (by kernel_rfl) (fun h96 => ?_) (fun h96 => ?_)
                · have h96n : (slt (((lst ((ldo (lrun (l.take k)) (l.getD k dOp)).2)).getD j dItem).key) (((lst ((ldo (lrun (l.take k)) (l.getD k dOp)).2)).getD (j + 1) dItem).key)) = false := notT h96
                  exact absurd h96n (by rw [rise_at hris hj2]; decide)
                · have h96n : (slt (((lst ((ldo (lrun (l.take k)) (l.getD k dOp)).2)).getD j dItem).key) (((lst ((ldo (lrun (l.take k)) (l.getD k dOp)).2)).getD (j + 1) dItem).key)) = true := notF h96
                  refine GoC.skip (GoQ.blkN (GoQ.thn ?_))
                  refine GoC.regT [7, 7, 7] (.rd 0 (.rd 1 (.rd 2 .done))) (by kernel_rfl) (by kernel_rfl) ?_
                  refine GoR.phaseK [(0, .gen []), (1, .as_ (.int .i64 ((j : Nat) + 2)) (.gen [])), (2, .gen [])] [8, 0, 3, 4, 7] [(1, [.prop (Value.int .i64 (IntKind.i64.wrap (((j : Nat) + 1) + 1)) = Value.int .i64 ((j : Nat) + 2))])] [(8, .int .i64 ((j : Nat) + 2)), (0, .slice (some ⟨ab17, ao18, none⟩) l.length c), (3, .pointer (some ⟨p8, 0, none⟩)), (4, .int .i64 (k : Nat)), (7, .slice (some ⟨ab91, 0, none⟩) ((lst ((ldo (lrun (l.take k)) (l.getD k dOp)).2)).length) c35)] (by kernel_rfl) rfl (ak (okp (i64eq (by omega) (by omega) (by omega)) ok0) ak0) ?_
                  refine GoR.done ?_
                  exact GoQ.back (j + 1) [0, 3, 4, 7, 8] (by kernel_rfl) (by show (lst ((ldo (lrun (l.take k)) (l.getD k dOp)).2)).length - (j + 1) < (lst ((ldo (lrun (l.take k)) (l.getD k dOp)).2)).length - j; omega) ⟨trivial, hs94⟩
              · have h90' : ¬ (((j : Nat) + 1 : Int) < ((lst ((ldo (lrun (l.take k)) (l.getD k dOp)).2)).length : Nat)) := of_decide_eq_false h90
                refine GoC.exit (GoQ.skipC (GoQ.skipL (GoQ.hit (GoQ.blkN (GoQ.thn ?_)))))
                refine GoC.regT [7, 7, 7] (.rd 0 (.rd 1 (.rd 2 .done))) (by kernel_rfl) (by kernel_rfl) ?_
                refine GoR.phaseK [(0, .gen []), (1, .as_ (.int .i64 ((k : Nat) + 1)) (.gen [])), (2, .gen [])] [4, 0, 3] [(1, [.prop (Value.int .i64 (IntKind.i64.wrap ((k : Nat) + 1)) = Value.int .i64 ((k : Nat) + 1))])] [(4, .int .i64 ((k : Nat) + 1)), (0, .slice (some ⟨ab17, ao18, none⟩) l.length c), (3, .pointer (some ⟨p8, 0, none⟩))] (by kernel_rfl) rfl (ak (okp (i64ok (by omega) (by omega)) ok0) ak0) ?_
                refine GoR.done ?_
                have hs97 : St W ((Sl ad34 c35 61 2 ItemV.cells (lst ((ldo (lrun (l.take k)) (l.getD k dOp)).2))) :: (Cel b28 (RepV.cells ((ldo (lrun (l.take k)) (l.getD k dOp)).1)) 34) :: (Sl ad19 c20 61 2 ItemV.cells (lst (lrun (l.take k)))) :: (Cel p8 #[.map (some r9)] 89) :: (MapA Value.string Value.string r9 ((ldo (lrun (l.take k)) (l.getD k dOp)).2)) :: (Base W) :: []) w87 := ((((((hs89.pull 5 rfl).pull 3 rfl).pull 3 rfl).pull 5 rfl).pull 5 rfl).pull 5 rfl)
                have hs98 : St W ((Cel p8 #[.map (some r9)] 89) :: (MapA Value.string Value.string r9 ((ldo (lrun (l.take k)) (l.getD k dOp)).2)) :: (Base W) :: []) w87 := hs97.drop 3
                rw [← lrun_succ (d := dOp) hk] at hs98
                exact GoQ.back (k + 1) [0, 3, 4] (by kernel_rfl) (by show l.length - (k + 1) < l.length - k; omega) ⟨by omega, hs98⟩
        · refine GoR.setB 49 false (by decide) (by kernel_rfl) h78 ?_
          have h78' : ¬ (((l.getD k dOp).kind : Int) = 5) := ieqF h78
          refine GoR.phaseK [(17, .gen [])] [50, 49, 42, 7, 0, 3, 4] [] [(50, undef), (49, .bool false), (42, .bool false), (7, .slice ad34 ((lst ((ldo (lrun (l.take k)) (l.getD k dOp)).2)).length) c35), (0, .slice (some ⟨ab17, ao18, none⟩) l.length c), (3, .pointer (some ⟨p8, 0, none⟩)), (4, .int .i64 (k : Nat))] (by kernel_rfl) rfl ak0 ?_
          refine GoR.skip rfl (by kernel_rfl) (opn (by kernel_rfl)) ?_
          refine GoR.phaseK [(19, .gen [])] [52, 51, 49, 42, 7, 0, 3, 4] [] [(52, undef), (51, undef), (49, .bool false), (42, .bool false), (7, .slice ad34 ((lst ((ldo (lrun (l.take k)) (l.getD k dOp)).2)).length) c35), (0, .slice (some ⟨ab17, ao18, none⟩) l.length c), (3, .pointer (some ⟨p8, 0, none⟩)), (4, .int .i64 (k : Nat))] (by kernel_rfl) rfl ak0 ?_
          refine GoR.skip rfl (by kernel_rfl) (opn (by kernel_rfl)) ?_
          refine GoR.phaseK [(21, .gen []), (22, .gen []), (23, .gen []), (24, .gen []), (25, .gen []), (26, .gen []), (27, .gen []), (28, .gen [])] [61, 7, 0, 3, 4] [] [(61, .bool (decide ((((lst ((ldo (lrun (l.take k)) (l.getD k dOp)).2)).length : Nat) : Int) > 64))), (7, .slice ad34 ((lst ((ldo (lrun (l.take k)) (l.getD k dOp)).2)).length) c35), (0, .slice (some ⟨ab17, ao18, none⟩) l.length c), (3, .pointer (some ⟨p8, 0, none⟩)), (4, .int .i64 (k : Nat))] (by kernel_rfl) rfl ak0 ?_
          refine GoR.done (GoQ.thn ?_)
          refine GoC.cond (t := decide ((((lst ((ldo (lrun (l.take k)) (l.getD k dOp)).2)).length : Nat) : Int) > 64)) (by kernel_rfl) (fun h99 => ?_) (fun h99 => ?_)
          · have h99' : (((lst ((ldo (lrun (l.take k)) (l.getD k dOp)).2)).length : Nat) : Int) > 64 := of_decide_eq_true h99
            refine GoC.seq ?_
            refine GoC.regT [1] (.rd 0 .done) (by kernel_rfl) (by kernel_rfl) ?_
            refine GoR.phaseK [(0, .gen [])] [2, 7, 0, 3, 4] [] [(2, .bool false), (7, .slice ad34 ((lst ((ldo (lrun (l.take k)) (l.getD k dOp)).2)).length) c35), (0, .slice (some ⟨ab17, ao18, none⟩) l.length c), (3, .pointer (some ⟨p8, 0, none⟩)), (4, .int .i64 (k : Nat))] (by kernel_rfl) rfl ak0 ?_
            refine GoR.done (GoQ.thn (GoC.ret (GoQ.skipCR (GoQ.blkR (GoQ.skipCR (GoQ.skipLR (GoQ.blkR (GoQ.skipCR ?_))))))))
            refine GoQ.done (.inl rfl) (v := .bool false) (fun a hf => results1 rfl (by kernel_rfl) a hf) ?_
            have hr : sumB (lrun (l.take k)) (l.getD k dOp) = false := by rw [sumB, if_neg (ne_true_of_eq_false h39), if_neg (ne_true_of_eq_false h78), if_pos h99]
            exact absurd (hr.symm.trans (sumB_true (lrun_inv _) _)) (by decide)
          · have h99' : ¬ ((((lst ((ldo (lrun (l.take k)) (l.getD k dOp)).2)).length : Nat) : Int) > 64) := of_decide_eq_false h99
            refine GoC.skip (GoQ.thn (GoC.seq ?_))
            refine GoC.regT [1] (.rd 0 .done) (by kernel_rfl) (by kernel_rfl) ?_
            refine GoR.phaseK [(0, .gen [])] [8, 7, 0, 3, 4] [] [(8, .int .i64 1), (7, .slice ad34 ((lst ((ldo (lrun (l.take k)) (l.getD k dOp)).2)).length) c35), (0, .slice (some ⟨ab17, ao18, none⟩) l.length c), (3, .pointer (some ⟨p8, 0, none⟩)), (4, .int .i64 (k : Nat))] (by kernel_rfl) rfl ak0 ?_
            refine GoR.done (GoQ.thn (GoC.block ?_))
            have hris := lst_rises (m := ((ldo (lrun (l.take k)) (l.getD k dOp)).2)) (ldo_inv _ (lrun_inv _)).keys
            refine GoC.loop (T := Nat) (fun gg => [(0, .slice (some ⟨ab17, ao18, none⟩) l.length c), (3, .pointer (some ⟨p8, 0, none⟩)), (4, .int .i64 (k : Nat)), (7, .slice ad34 ((lst ((ldo (lrun (l.take k)) (l.getD k dOp)).2)).length) c35), (8, .int .i64 ((gg : Nat) + 1))]) (fun gg w => (True) ∧ St W ((Sl ad34 c35 61 2 ItemV.cells (lst ((ldo (lrun (l.take k)) (l.getD k dOp)).2))) :: (Cel p8 #[.map (some r9)] 89) :: (MapA Value.string Value.string r9 ((ldo (lrun (l.take k)) (l.getD k dOp)).2)) :: (Cel b28 (RepV.cells ((ldo (lrun (l.take k)) (l.getD k dOp)).1)) 34) :: (Sl ad19 c20 61 2 ItemV.cells (lst (lrun (l.take k)))) :: (Base W) :: []) w) (fun gg => (lst ((ldo (lrun (l.take k)) (l.getD k dOp)).2)).length - gg) 0 [0, 3, 4, 7, 8] (by kernel_rfl) ⟨trivial, hs36⟩ ?_
            rintro j w100 ⟨hj0, hs101⟩
            have hj : True := hj0
            have hs102 : St W ((Sl ad34 c35 61 2 ItemV.cells (lst ((ldo (lrun (l.take k)) (l.getD k dOp)).2))) :: (Cel p8 #[.map (some r9)] 89) :: (MapA Value.string Value.string r9 ((ldo (lrun (l.take k)) (l.getD k dOp)).2)) :: (Cel b28 (RepV.cells ((ldo (lrun (l.take k)) (l.getD k dOp)).1)) 34) :: (Sl ad19 c20 61 2 ItemV.cells (lst (lrun (l.take k)))) :: (Base W) :: []) w100 := hs101
            refine GoC.slots (S' := [(0, .slice (some ⟨ab17, ao18, none⟩) l.length c), (3, .pointer (some ⟨p8, 0, none⟩)), (4, .int .i64 (k : Nat)), (7, .slice ad34 ((lst ((ldo (lrun (l.take k)) (l.getD k dOp)).2)).length) c35), (8, .int .i64 ((j : Nat) + 1))]) rfl ?_
            refine GoC.seq (GoC.seq ?_)
            refine GoC.regT [15, 15, 15, 15] (.rd 0 (.rd 1 (.rd 2 (.rd 3 .done)))) (by kernel_rfl) (by kernel_rfl) ?_
            refine GoR.phaseK [(0, .gen []), (1, .gen []), (2, .gen []), (3, .gen [])] [65, 0, 3, 4, 7, 8] [] [(65, .bool (decide (((j : Nat) + 1 : Int) < ((lst ((ldo (lrun (l.take k)) (l.getD k dOp)).2)).length : Nat)))), (0, .slice (some ⟨ab17, ao18, none⟩) l.length c), (3, .pointer (some ⟨p8, 0, none⟩)), (4, .int .i64 (k : Nat)), (7, .slice ad34 ((lst ((ldo (lrun (l.take k)) (l.getD k dOp)).2)).length) c35), (8, .int .i64 ((j : Nat) + 1))] (by kernel_rfl) rfl ak0 ?_
            refine GoR.done (GoQ.thn ?_)
            refine GoC.cond (t := decide (((j : Nat) + 1 : Int) < ((lst ((ldo (lrun (l.take k)) (l.getD k dOp)).2)).length : Nat))) (by kernel_rfl) (fun h103 => ?_) (fun h103 => ?_)
            · have h103' : ((j : Nat) + 1 : Int) < ((lst ((ldo (lrun (l.take k)) (l.getD k dOp)).2)).length : Nat) := of_decide_eq_true h103
              have hj1 : j < (lst ((ldo (lrun (l.take k)) (l.getD k dOp)).2)).length := by omega
              have hj2 : j + 1 < (lst ((ldo (lrun (l.take k)) (l.getD k dOp)).2)).length := by omega
              obtain ⟨ab104, rfl⟩ := Sl.isSome (hs102.at_ 0 rfl) (by omega)
              refine GoC.skip (GoQ.thn (GoC.seq (GoC.block (GoC.seq ?_))))
              refine GoC.regD [0, 0, 2, 7, 15, 31, 0, 0, 192, 448, 960, 2047] (.rd 0 (.rd 1 (.rd 2 (.rd 3 (.rd 4 (.rd 5 (.rd 6 (.rd 7 (.rd 8 (.rd 9 (.rd 10 (.rd 11 .done)))))))))))) (by kernel_rfl) (by kernel_rfl) noPan_body (by kernel_rfl) hs102 ?_
              intro w106 hs107 hw108
              refine GoR.phaseK [(0, .gen []), (1, .gen []), (2, .as_ (.int .i64 (j : Nat)) (.gen [])), (3, .as_ (.pointer (some ⟨ab104, 0 + (j * 2), none⟩)) .at_), (4, .gen []), (5, .gen [.string (((lst ((ldo (lrun (l.take k)) (l.getD k dOp)).2)).getD j dItem).key)]), (6, .gen []), (7, .gen []), (8, .as_ (.pointer (some ⟨ab104, 0 + ((j + 1) * 2), none⟩)) .at_), (9, .gen []), (10, .gen [.string (((lst ((ldo (lrun (l.take k)) (l.getD k dOp)).2)).getD (j + 1) dItem).key)]), (11, .as_ (.bool (!(slt (((lst ((ldo (lrun (l.take k)) (l.getD k dOp)).2)).getD j dItem).key) (((lst ((ldo (lrun (l.take k)) (l.getD k dOp)).2)).getD (j + 1) dItem).key)))) (.gen []))] [79, 0, 3, 4, 7, 8] [(2, [.prop (Value.int .i64 (IntKind.i64.wrap (((j : Nat) + 1) - 1)) = Value.int .i64 (j : Nat))]), (3, [.prop (0 ≤ ((j : Nat) : Int) ∧ ((j : Nat) : Int) < (((lst ((ldo (lrun (l.take k)) (l.getD k dOp)).2)).length : Nat) : Int)), .prop (Value.pointer (some (Addr.add ⟨ab104, 0, none⟩ (Int.toNat (j : Nat) * 2))) = Value.pointer (some ⟨ab104, 0 + (j * 2), none⟩))]), (5, [.cell ⟨ab104, 0 + (j * 2), none⟩ (.string (((lst ((ldo (lrun (l.take k)) (l.getD k dOp)).2)).getD j dItem).key))]), (8, [.prop (0 ≤ (((j : Nat) + 1) : Int) ∧ (((j : Nat) + 1) : Int) < (((lst ((ldo (lrun (l.take k)) (l.getD k dOp)).2)).length : Nat) : Int)), .prop (Value.pointer (some (Addr.add ⟨ab104, 0, none⟩ (Int.toNat ((j : Nat) + 1) * 2))) = Value.pointer (some ⟨ab104, 0 + ((j + 1) * 2), none⟩))]), (10, [.cell ⟨ab104, 0 + ((j + 1) * 2), none⟩ (.string (((lst ((ldo (lrun (l.take k)) (l.getD k dOp)).2)).getD (j + 1) dItem).key))]), (11, [.prop (Value.bool (!(Op.bytesLess (((lst ((ldo (lrun (l.take k)) (l.getD k dOp)).2)).getD j dItem).key).toList (((lst ((ldo (lrun (l.take k)) (l.getD k dOp)).2)).getD (j + 1) dItem).key).toList)) = Value.bool (!(slt (((lst ((ldo (lrun (l.take k)) (l.getD k dOp)).2)).getD j dItem).key) (((lst ((ldo (lrun (l.take k)) (l.getD k dOp)).2)).getD (j + 1) dItem).key))))])] [(79, .bool (!(slt (((lst ((ldo (lrun (l.take k)) (l.getD k dOp)).2)).getD j dItem).key) (((lst ((ldo (lrun (l.take k)) (l.getD k dOp)).2)).getD (j + 1) dItem).key)))), (0, .slice (some ⟨ab17, ao18, none⟩) l.length c), (3, .pointer (some ⟨p8, 0, none⟩)), (4, .int .i64 (k : Nat)), (7, .slice (some ⟨ab104, 0, none⟩) ((lst ((ldo (lrun (l.take k)) (l.getD k dOp)).2)).length) c35), (8, .int .i64 ((j : Nat) + 1))] (by kernel_rfl) rfl (ak (okp (i64eq (by omega) (by omega) (by omega)) ok0) (ak (okp (by omega) (okp (ptrAdd _ _ _) ok0)) (ak (okc (RowsAt.at0 (hs107.rows 0 rfl (itemF).size dItem) (by first | omega | (simp only [List.length_set]; omega)) (j := 0) (by decide) (by kernel_rfl)) ok0) (ak (okp (by omega) (okp (ptrAdd _ _ _) ok0)) (ak (okc (RowsAt.at0 (hs107.rows 0 rfl (itemF).size dItem) (by first | omega | (simp only [List.length_set]; omega)) (j := 0) (by decide) (by kernel_rfl)) ok0) (ak (okp rfl ok0) ak0)))))) ?_
              refine GoR.done (GoQ.thn ?_)
              refine GoC.cond (t := !(slt (((lst ((ldo (lrun (l.take k)) (l.getD k dOp)).2)).getD j dItem).key) (((lst ((ldo (lrun (l.take k)) (l.getD k dOp)).2)).getD (j + 1) dItem).key))) (by kernel_rfl) (fun h109 => ?_) (fun h109 => ?_)
              · have h109n : (slt (((lst ((ldo (lrun (l.take k)) (l.getD k dOp)).2)).getD j dItem).key) (((lst ((ldo (lrun (l.take k)) (l.getD k dOp)).2)).getD (j + 1) dItem).key)) = false := notT h109
                exact absurd h109n (by rw [rise_at hris hj2]; decide)
              · have h109n : (slt (((lst ((ldo (lrun (l.take k)) (l.getD k dOp)).2)).getD j dItem).key) (((lst ((ldo (lrun (l.take k)) (l.getD k dOp)).2)).getD (j + 1) dItem).key)) = true := notF h109
                refine GoC.skip (GoQ.blkN (GoQ.thn ?_))
                refine GoC.regT [7, 7, 7] (.rd 0 (.rd 1 (.rd 2 .done))) (by kernel_rfl) (by kernel_rfl) ?_
                refine GoR.phaseK [(0, .gen []), (1, .as_ (.int .i64 ((j : Nat) + 2)) (.gen [])), (2, .gen [])] [8, 0, 3, 4, 7] [(1, [.prop (Value.int .i64 (IntKind.i64.wrap (((j : Nat) + 1) + 1)) = Value.int .i64 ((j : Nat) + 2))])] [(8, .int .i64 ((j : Nat) + 2)), (0, .slice (some ⟨ab17, ao18, none⟩) l.length c), (3, .pointer (some ⟨p8, 0, none⟩)), (4, .int .i64 (k : Nat)), (7, .slice (some ⟨ab104, 0, none⟩) ((lst ((ldo (lrun (l.take k)) (l.getD k dOp)).2)).length) c35)] (by kernel_rfl) rfl (ak (okp (i64eq (by omega) (by omega) (by omega)) ok0) ak0) ?_
                refine GoR.done ?_
                exact GoQ.back (j + 1) [0, 3, 4, 7, 8] (by kernel_rfl) (by show (lst ((ldo (lrun (l.take k)) (l.getD k dOp)).2)).length - (j + 1) < (lst ((ldo (lrun (l.take k)) (l.getD k dOp)).2)).length - j; omega) ⟨trivial, hs107⟩
            · have h103' : ¬ (((j : Nat) + 1 : Int) < ((lst ((ldo (lrun (l.take k)) (l.getD k dOp)).2)).length : Nat)) := of_decide_eq_false h103
              refine GoC.exit (GoQ.skipC (GoQ.skipL (GoQ.hit (GoQ.blkN (GoQ.thn ?_)))))
              refine GoC.regT [7, 7, 7] (.rd 0 (.rd 1 (.rd 2 .done))) (by kernel_rfl) (by kernel_rfl) ?_
              refine GoR.phaseK [(0, .gen []), (1, .as_ (.int .i64 ((k : Nat) + 1)) (.gen [])), (2, .gen [])] [4, 0, 3] [(1, [.prop (Value.int .i64 (IntKind.i64.wrap ((k : Nat) + 1)) = Value.int .i64 ((k : Nat) + 1))])] [(4, .int .i64 ((k : Nat) + 1)), (0, .slice (some ⟨ab17, ao18, none⟩) l.length c), (3, .pointer (some ⟨p8, 0, none⟩))] (by kernel_rfl) rfl (ak (okp (i64ok (by omega) (by omega)) ok0) ak0) ?_
              refine GoR.done ?_
              have hs110 : St W ((Sl ad34 c35 61 2 ItemV.cells (lst ((ldo (lrun (l.take k)) (l.getD k dOp)).2))) :: (Cel b28 (RepV.cells ((ldo (lrun (l.take k)) (l.getD k dOp)).1)) 34) :: (Sl ad19 c20 61 2 ItemV.cells (lst (lrun (l.take k)))) :: (Cel p8 #[.map (some r9)] 89) :: (MapA Value.string Value.string r9 ((ldo (lrun (l.take k)) (l.getD k dOp)).2)) :: (Base W) :: []) w100 := ((((((hs102.pull 5 rfl).pull 3 rfl).pull 3 rfl).pull 5 rfl).pull 5 rfl).pull 5 rfl)
              have hs111 : St W ((Cel p8 #[.map (some r9)] 89) :: (MapA Value.string Value.string r9 ((ldo (lrun (l.take k)) (l.getD k dOp)).2)) :: (Base W) :: []) w100 := hs110.drop 3
              rw [← lrun_succ (d := dOp) hk] at hs111
              exact GoQ.back (k + 1) [0, 3, 4] (by kernel_rfl) (by show l.length - (k + 1) < l.length - k; omega) ⟨by omega, hs111⟩
    · have h16' : ¬ (((k : Nat) : Int) < (l.length : Nat)) := of_decide_eq_false h16
      have hall : l.take k = l := List.take_of_length_le (by omega)
      rw [hall] at hs15
      refine GoC.exit (GoQ.skipC (GoQ.skipL (GoQ.hit (GoQ.thn (GoC.seq ?_)))))
      refine GoC.regT [255, 255, 255, 255, 255, 255, 255, 255] (.rd 0 (.ef 1 (.ef 2 (.rd 3 (.rd 4 (.rd 5 (.rd 6 (.rd 7 .done)))))))) (by kernel_rfl) (by kernel_rfl) ?_
      refine GoR.phaseK [(0, .gen [])] [81, 0, 3] [] [(81, .pointer (some ⟨p8, 0, none⟩)), (0, .slice ad l.length c), (3, .pointer (some ⟨p8, 0, none⟩))] (by kernel_rfl) rfl ak0 ?_
      refine GoR.call rfl rfl (by kernel_rfl) (f := 23) (args := #[.pointer (some ⟨p8, 0, none⟩)]) (by kernel_rfl) Tryd.call23 (list_spec (lrun l) (Nat.le_trans (lrun_inv _).len (by decide)) hs15) ?_
      rintro v115 w116 ⟨ad112, c113, rfl, hs114⟩
      refine ⟨(opn (by kernel_rfl)), ?_⟩
      refine GoR.call rfl rfl (by kernel_rfl) (f := 29) (args := #[.slice ad112 ((lst (lrun l)).length) c113]) (by kernel_rfl) Tryd.call29 (of_spec (lst (lrun l)) (by rw [lst_length]; exact Nat.le_trans (lrun_inv _).len (by decide)) (fun w h => h.rows 0 rfl (itemF).size _) hs114) ?_
      rintro v123 w124 (⟨p117, r118, rfl, h119, hs120⟩ | ⟨rfl, h121, hs122⟩)
      · refine ⟨(opn (by kernel_rfl)), ?_⟩
        refine GoR.phaseK [(3, .gen []), (4, .gen []), (5, .gen []), (6, .gen []), (7, .gen [])] [10, 9, 0, 3] [] [(10, .int .i64 0), (9, .pointer (some ⟨p117, 0, none⟩)), (0, .slice ad l.length c), (3, .pointer (some ⟨p8, 0, none⟩))] (by kernel_rfl) rfl ak0 ?_
        refine GoR.done (GoQ.thn (GoC.seq (GoC.seq ?_)))
        refine GoC.regT [1023, 1023, 1023, 1023, 1023, 1023, 1023, 1023, 1023, 1023] (.rd 0 (.rd 1 (.rd 2 (.rd 3 (.ef 4 (.rd 5 (.ef 6 (.ef 7 (.rd 8 (.rd 9 .done)))))))))) (by kernel_rfl) (by kernel_rfl) ?_
        refine GoR.phaseK [(0, .gen []), (1, .gen []), (2, .gen []), (3, .gen [])] [89, 88, 9, 0, 3] [] [(89, .pointer (some ⟨p117, 0, none⟩)), (88, .bool false), (9, .pointer (some ⟨p117, 0, none⟩)), (0, .slice ad l.length c), (3, .pointer (some ⟨p8, 0, none⟩))] (by kernel_rfl) rfl ak0 ?_
        refine GoR.call rfl rfl (by kernel_rfl) (f := 23) (args := #[.pointer (some ⟨p117, 0, none⟩)]) (by kernel_rfl) Tryd.call23 (list_spec (pairsOf (lst (lrun l))) (Nat.le_trans (pairs_inv (lrun_inv _)).len (by decide)) hs120) ?_
        rintro v128 w129 ⟨ad125, c126, rfl, hs127⟩
        refine ⟨(opn (by kernel_rfl)), ?_⟩
        refine GoR.phaseK [(5, .gen [])] [91, 90, 88, 9, 0, 3] [] [(91, .pointer (some ⟨p8, 0, none⟩)), (90, .slice ad125 ((lst (pairsOf (lst (lrun l)))).length) c126), (88, .bool false), (9, .pointer (some ⟨p117, 0, none⟩)), (0, .slice ad l.length c), (3, .pointer (some ⟨p8, 0, none⟩))] (by kernel_rfl) rfl ak0 ?_
        have hs130 : St W ((Cel p8 #[.map (some r9)] 89) :: (MapA Value.string Value.string r9 (lrun l)) :: (Sl ad125 c126 61 2 ItemV.cells (lst (pairsOf (lst (lrun l))))) :: (Cel p117 #[.map (some r118)] 89) :: (MapA Value.string Value.string r118 (pairsOf (lst (lrun l)))) :: (Sl ad112 c113 61 2 ItemV.cells (lst (lrun l))) :: (Base W) :: []) w129 := ((hs127.pull 5 rfl).pull 5 rfl)
        refine GoR.call rfl rfl (by kernel_rfl) (f := 23) (args := #[.pointer (some ⟨p8, 0, none⟩)]) (by kernel_rfl) Tryd.call23 (list_spec (lrun l) (Nat.le_trans (lrun_inv _).len (by decide)) hs130) ?_
        rintro v134 w135 ⟨ad131, c132, rfl, hs133⟩
        refine ⟨(opn (by kernel_rfl)), ?_⟩
        refine GoR.call rfl rfl (by kernel_rfl) (f := 25) (args := #[.slice ad125 ((lst (pairsOf (lst (lrun l)))).length) c126, .slice ad131 ((lst (lrun l)).length) c132]) (by kernel_rfl) Tryd.call25 (same_spec (lst (pairsOf (lst (lrun l)))) (lst (lrun l)) (by rw [lst_length]; exact Nat.le_trans (pairs_inv (lrun_inv _)).len (by decide)) (by rw [lst_length]; exact Nat.le_trans (lrun_inv _).len (by decide)) (fun w h => h.rows 3 rfl (itemF).size _) (fun w h => h.rows 0 rfl (itemF).size _) hs133) ?_
        rintro v137 w138 ⟨rfl, hs136⟩
        refine ⟨(opn (by kernel_rfl)), ?_⟩
        refine GoR.phaseK [(8, .gen []), (9, .gen [])] [95, 9, 0, 3] [] [(95, .bool (!(decide ((lst (pairsOf (lst (lrun l)))) = (lst (lrun l)))))), (9, .pointer (some ⟨p117, 0, none⟩)), (0, .slice ad l.length c), (3, .pointer (some ⟨p8, 0, none⟩))] (by kernel_rfl) rfl ak0 ?_
        refine GoR.done (GoQ.thn ?_)
        refine GoC.cond (t := !(decide ((lst (pairsOf (lst (lrun l)))) = (lst (lrun l))))) (by kernel_rfl) (fun h139 => ?_) (fun h139 => ?_)
        · have h139n : (decide ((lst (pairsOf (lst (lrun l)))) = (lst (lrun l)))) = false := notT h139
          have h139n' : ¬ ((lst (pairsOf (lst (lrun l)))) = (lst (lrun l))) := of_decide_eq_false h139n
          exact absurd (lst_pairs (lrun_inv _)) h139n'
        · have h139n : (decide ((lst (pairsOf (lst (lrun l)))) = (lst (lrun l)))) = true := notF h139
          have h139n' : (lst (pairsOf (lst (lrun l)))) = (lst (lrun l)) := of_decide_eq_true h139n
          refine GoC.skip (GoQ.thn (GoC.seq (GoC.seq ?_)))
          refine GoC.regT [1] (.rd 0 .done) (by kernel_rfl) (by kernel_rfl) ?_
          refine GoR.phaseK [(0, .gen [])] [11, 9, 0, 3] [] [(11, .int .i64 0), (9, .pointer (some ⟨p117, 0, none⟩)), (0, .slice ad l.length c), (3, .pointer (some ⟨p8, 0, none⟩))] (by kernel_rfl) rfl ak0 ?_
          refine GoR.done (GoQ.thn (GoC.block ?_))
          have hs140 : St W ((Sl ad131 c132 61 2 ItemV.cells (lst (lrun l))) :: (Sl ad125 c126 61 2 ItemV.cells (lst (pairsOf (lst (lrun l))))) :: (Sl ad112 c113 61 2 ItemV.cells (lst (lrun l))) :: (Cel p8 #[.map (some r9)] 89) :: (MapA Value.string Value.string r9 (lrun l)) :: (Cel p117 #[.map (some r118)] 89) :: (MapA Value.string Value.string r118 (pairsOf (lst (lrun l)))) :: (Base W) :: []) w138 := ((((((((hs136.pull 7 rfl).pull 6 rfl).pull 6 rfl).pull 5 rfl).pull 5 rfl).pull 7 rfl).pull 7 rfl).pull 7 rfl)
          have hs141 : St W ((Cel p8 #[.map (some r9)] 89) :: (MapA Value.string Value.string r9 (lrun l)) :: (Cel p117 #[.map (some r118)] 89) :: (MapA Value.string Value.string r118 (pairsOf (lst (lrun l)))) :: (Base W) :: []) w138 := hs140.drop 3
          refine GoC.loop (T := Nat) (fun gg => [(0, .slice ad l.length c), (3, .pointer (some ⟨p8, 0, none⟩)), (9, .pointer (some ⟨p117, 0, none⟩)), (11, .int .i64 (gg : Nat))]) (fun gg w => (gg ≤ l.length) ∧ St W ((Cel p8 #[.map (some r9)] 89) :: (MapA Value.string Value.string r9 (lfrom (lrun l) (l.take gg))) :: (Cel p117 #[.map (some r118)] 89) :: (MapA Value.string Value.string r118 (lfrom (pairsOf (lst (lrun l))) (l.take gg))) :: (Base W) :: []) w) (fun gg => l.length - gg) 0 [0, 3, 9, 11] (by kernel_rfl) ⟨Nat.zero_le _, hs141⟩ ?_
          rintro k w142 ⟨hp0, hs143⟩
          have hp : k ≤ l.length := hp0
          have hs144 : St W ((Cel p8 #[.map (some r9)] 89) :: (MapA Value.string Value.string r9 (lfrom (lrun l) (l.take k))) :: (Cel p117 #[.map (some r118)] 89) :: (MapA Value.string Value.string r118 (lfrom (pairsOf (lst (lrun l))) (l.take k))) :: (Base W) :: []) w142 := hs143
          refine GoC.slots (S' := [(0, .slice ad l.length c), (3, .pointer (some ⟨p8, 0, none⟩)), (9, .pointer (some ⟨p117, 0, none⟩)), (11, .int .i64 (k : Nat))]) rfl ?_
          refine GoC.seq (GoC.seq ?_)
          refine GoC.regT [15, 15, 15, 15] (.rd 0 (.rd 1 (.rd 2 (.rd 3 .done)))) (by kernel_rfl) (by kernel_rfl) ?_
          refine GoR.phaseK [(0, .gen []), (1, .gen []), (2, .gen []), (3, .gen [])] [99, 0, 3, 9, 11] [] [(99, .bool (decide (((k : Nat) : Int) < (l.length : Nat)))), (0, .slice ad l.length c), (3, .pointer (some ⟨p8, 0, none⟩)), (9, .pointer (some ⟨p117, 0, none⟩)), (11, .int .i64 (k : Nat))] (by kernel_rfl) rfl ak0 ?_
          refine GoR.done (GoQ.thn ?_)
          refine GoC.cond (t := decide (((k : Nat) : Int) < (l.length : Nat))) (by kernel_rfl) (fun h145 => ?_) (fun h145 => ?_)
          · have h145' : ((k : Nat) : Int) < (l.length : Nat) := of_decide_eq_true h145
            have hk : k < l.length := by omega
            obtain ⟨ab146, ao147, rfl⟩ := RowsAt.isSome rw (by omega)
            refine GoC.skip (GoQ.thn (GoC.seq (GoC.block (GoC.seq ?_))))
            refine GoC.regD [0, 0, 0, 6, 14, 31, 0, 0, 0, 384, 896, 2047, 4095] (.rd 0 (.rd 1 (.rd 2 (.rd 3 (.rd 4 (.rd 6 (.rd 7 (.rd 8 (.rd 9 (.rd 10 (.ef 5 (.ef 11 (.rd 12 .done))))))))))))) (by kernel_rfl) (by kernel_rfl) noPan_body (by kernel_rfl) hs144 ?_
            intro w148 hs149 hw150
            refine GoR.phaseK [(0, .gen []), (1, .gen []), (2, .gen []), (3, .as_ (.pointer (some ⟨ab146, ao147 + (k * 6), none⟩)) .at_), (4, .agg (OpV.cells (l.getD k dOp))), (6, .gen []), (7, .gen []), (8, .gen []), (9, .as_ (.pointer (some ⟨ab146, ao147 + (k * 6), none⟩)) .at_), (10, .agg (OpV.cells (l.getD k dOp)))] [112, 108, 106, 102, 0, 3, 9, 11] [(3, [.prop (0 ≤ ((k : Nat) : Int) ∧ ((k : Nat) : Int) < ((l.length : Nat) : Int)), .prop (Value.pointer (some (Addr.add ⟨ab146, ao147, none⟩ (Int.toNat (k : Nat) * 6))) = Value.pointer (some ⟨ab146, ao147 + (k * 6), none⟩))]), (4, [.prop (Array.size (OpV.cells (l.getD k dOp)) = 6), .cells ⟨ab146, ao147 + (k * 6), none⟩ (OpV.cells (l.getD k dOp))]), (9, [.prop (0 ≤ ((k : Nat) : Int) ∧ ((k : Nat) : Int) < ((l.length : Nat) : Int)), .prop (Value.pointer (some (Addr.add ⟨ab146, ao147, none⟩ (Int.toNat (k : Nat) * 6))) = Value.pointer (some ⟨ab146, ao147 + (k * 6), none⟩))]), (10, [.prop (Array.size (OpV.cells (l.getD k dOp)) = 6), .cells ⟨ab146, ao147 + (k * 6), none⟩ (OpV.cells (l.getD k dOp))])] [(112, .agg (OpV.cells (l.getD k dOp))), (108, .pointer (some ⟨p117, 0, none⟩)), (106, .agg (OpV.cells (l.getD k dOp))), (102, .pointer (some ⟨p8, 0, none⟩)), (0, .slice (some ⟨ab146, ao147, none⟩) l.length c), (3, .pointer (some ⟨p8, 0, none⟩)), (9, .pointer (some ⟨p117, 0, none⟩)), (11, .int .i64 (k : Nat))] (by kernel_rfl) rfl (ak (okp (by omega) (okp (ptrAdd _ _ _) ok0)) (ak (okp (by kernel_rfl) (oka (RowsAt.all0 (rw.base (fun k _ => (opF).size _) hs149 4 rfl) (by first | omega | (simp only [List.length_set]; omega)) (Nat.le_of_ble_eq_true (by kernel_rfl)) (by kernel_rfl)) ok0)) (ak (okp (by omega) (okp (ptrAdd _ _ _) ok0)) (ak (okp (by kernel_rfl) (oka (RowsAt.all0 (rw.base (fun k _ => (opF).size _) hs149 4 rfl) (by first | omega | (simp only [List.length_set]; omega)) (Nat.le_of_ble_eq_true (by kernel_rfl)) (by kernel_rfl)) ok0)) ak0)))) ?_
            refine GoR.call rfl rfl (by kernel_rfl) (f := 22) (args := #[.pointer (some ⟨p8, 0, none⟩), .agg (OpV.cells (l.getD k dOp))]) (by kernel_rfl) Tryd.call22 (ldo_spec (lfrom (lrun l) (l.take k)) (l.getD k dOp) (lfrom_inv _ (lrun_inv _)).short (fun w h => hLW.base h 2 rfl) (hok _ (getD_mem hk)).amount.1 hs149) ?_
            rintro v152 w153 ⟨rfl, hs151⟩
            refine ⟨(opl (n := [.prop (Array.size (OpV.cells (l.getD k dOp)) = 6), .cells ⟨ab146, ao147 + (k * 6), none⟩ (OpV.cells (l.getD k dOp)), .prop (0 ≤ ((k : Nat) : Int) ∧ ((k : Nat) : Int) < ((l.length : Nat) : Int)), .prop (Value.pointer (some (Addr.add ⟨ab146, ao147, none⟩ (Int.toNat (k : Nat) * 6))) = Value.pointer (some ⟨ab146, ao147 + (k * 6), none⟩))]) (by kernel_rfl) (okp (by kernel_rfl) (oka (RowsAt.all0 (rw.base (fun k _ => (opF).size _) hs151 4 rfl) (by first | omega | (simp only [List.length_set]; omega)) (Nat.le_of_ble_eq_true (by kernel_rfl)) (by kernel_rfl)) (okp (by omega) (okp (ptrAdd _ _ _) ok0))))), ?_⟩
            have hs154 : St W ((Cel p117 #[.map (some r118)] 89) :: (MapA Value.string Value.string r118 (lfrom (pairsOf (lst (lrun l))) (l.take k))) :: (Cel p8 #[.map (some r9)] 89) :: (MapA Value.string Value.string r9 ((ldo (lfrom (lrun l) (l.take k)) (l.getD k dOp)).2)) :: (Base W) :: []) w153 := ((hs151.pull 3 rfl).pull 3 rfl)
            refine GoR.call rfl rfl (by kernel_rfl) (f := 22) (args := #[.pointer (some ⟨p117, 0, none⟩), .agg (OpV.cells (l.getD k dOp))]) (by kernel_rfl) Tryd.call22 (ldo_spec (lfrom (pairsOf (lst (lrun l))) (l.take k)) (l.getD k dOp) (lfrom_inv _ (pairs_inv (lrun_inv _))).short (fun w h => hLW.base h 2 rfl) (hok _ (getD_mem hk)).amount.1 hs154) ?_
            rintro v156 w157 ⟨rfl, hs155⟩
            refine ⟨(opn (by kernel_rfl)), ?_⟩
            refine GoR.eqAgg rfl (by kernel_rfl) (b := false) (t := 34) (xs := RepV.cells ((ldo (lfrom (lrun l) (l.take k)) (l.getD k dOp)).1)) (ys := RepV.cells ((ldo (lfrom (pairsOf (lst (lrun l))) (l.take k)) (l.getD k dOp)).1)) (m := 2) (by kernel_rfl) (by kernel_rfl) (by decide) (by kernel_rfl) (r := !(decide ((ldo (lfrom (lrun l) (l.take k)) (l.getD k dOp)).1 = (ldo (lfrom (pairsOf (lst (lrun l))) (l.take k)) (l.getD k dOp)).1))) (aggNe  (repEq ((ldo (lfrom (lrun l) (l.take k)) (l.getD k dOp)).1) ((ldo (lfrom (pairsOf (lst (lrun l))) (l.take k)) (l.getD k dOp)).1))) ?_
            refine GoR.done (GoQ.thn ?_)
            refine GoC.cond (t := !(decide ((ldo (lfrom (lrun l) (l.take k)) (l.getD k dOp)).1 = (ldo (lfrom (pairsOf (lst (lrun l))) (l.take k)) (l.getD k dOp)).1))) (by kernel_rfl) (fun h158 => ?_) (fun h158 => ?_)
            · have h158n : (decide ((ldo (lfrom (lrun l) (l.take k)) (l.getD k dOp)).1 = (ldo (lfrom (pairsOf (lst (lrun l))) (l.take k)) (l.getD k dOp)).1)) = false := notT h158
              have h158n' : ¬ ((ldo (lfrom (lrun l) (l.take k)) (l.getD k dOp)).1 = (ldo (lfrom (pairsOf (lst (lrun l))) (l.take k)) (l.getD k dOp)).1) := of_decide_eq_false h158n
              exact absurd (eqv_back l (l.take k)).reply h158n'
            · have h158n : (decide ((ldo (lfrom (lrun l) (l.take k)) (l.getD k dOp)).1 = (ldo (lfrom (pairsOf (lst (lrun l))) (l.take k)) (l.getD k dOp)).1)) = true := notF h158
              have h158n' : (ldo (lfrom (lrun l) (l.take k)) (l.getD k dOp)).1 = (ldo (lfrom (pairsOf (lst (lrun l))) (l.take k)) (l.getD k dOp)).1 := of_decide_eq_true h158n
              refine GoC.skip (GoQ.blkN (GoQ.thn ?_))
              refine GoC.regT [7, 7, 7] (.rd 0 (.rd 1 (.rd 2 .done))) (by kernel_rfl) (by kernel_rfl) ?_
              refine GoR.phaseK [(0, .gen []), (1, .as_ (.int .i64 ((k : Nat) + 1)) (.gen [])), (2, .gen [])] [11, 0, 3, 9] [(1, [.prop (Value.int .i64 (IntKind.i64.wrap ((k : Nat) + 1)) = Value.int .i64 ((k : Nat) + 1))])] [(11, .int .i64 ((k : Nat) + 1)), (0, .slice (some ⟨ab146, ao147, none⟩) l.length c), (3, .pointer (some ⟨p8, 0, none⟩)), (9, .pointer (some ⟨p117, 0, none⟩))] (by kernel_rfl) rfl (ak (okp (i64ok (by omega) (by omega)) ok0) ak0) ?_
              refine GoR.done ?_
              have hs159 : St W ((Cel p8 #[.map (some r9)] 89) :: (MapA Value.string Value.string r9 ((ldo (lfrom (lrun l) (l.take k)) (l.getD k dOp)).2)) :: (Cel p117 #[.map (some r118)] 89) :: (MapA Value.string Value.string r118 ((ldo (lfrom (pairsOf (lst (lrun l))) (l.take k)) (l.getD k dOp)).2)) :: (Base W) :: []) w157 := (((((hs155.pull 4 rfl).pull 2 rfl).pull 2 rfl).pull 4 rfl).pull 4 rfl)
              rw [← lfrom_succ (d := dOp) hk] at hs159
              rw [← lfrom_succ (d := dOp) hk] at hs159
              exact GoQ.back (k + 1) [0, 3, 9, 11] (by kernel_rfl) (by show l.length - (k + 1) < l.length - k; omega) ⟨by omega, hs159⟩
          · have h145' : ¬ (((k : Nat) : Int) < (l.length : Nat)) := of_decide_eq_false h145
            have hall : l.take k = l := List.take_of_length_le (by omega)
            rw [hall] at hs144
            refine GoC.exit (GoQ.skipC (GoQ.skipL (GoQ.hit (GoQ.thn (GoC.seq ?_)))))
            refine GoC.regT [3, 3] (.ef 0 (.rd 1 .done)) (by kernel_rfl) (by kernel_rfl) ?_
            refine GoR.call rfl rfl (by kernel_rfl) (f := 21) (args := #[]) (by kernel_rfl) Tryd.call21 (works_spec (fun w h => hLW.base h 4 rfl) hs144) ?_
            rintro v161 w162 ⟨rfl, hs160⟩
            refine ⟨(opn (by kernel_rfl)), ?_⟩
            refine GoR.phaseK [(1, .gen [])] [2] [] [(2, .bool true)] (by kernel_rfl) rfl ak0 ?_
            refine GoR.done (GoQ.thn (GoC.ret ?_))
            refine GoQ.done (.inl rfl) (v := .bool true) (fun a hf => results1 rfl (by kernel_rfl) a hf) ?_
            exact ⟨rfl, hs160.below 4 rfl⟩
      · exact absurd ((ofOK_lst (lrun_inv _)).symm.trans h121) (by decide)
end Go.Proofs.YtkeckbgkhpaofaaDoor
