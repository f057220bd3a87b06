/-
  The walk of LedgerEffects.
-/
import Derived.Test.YtkeckbgkhpaofaaDoorProg
import Derived.Test.YtkeckbgkhpaofaaDoorLawE
namespace Go.Proofs.YtkeckbgkhpaofaaDoor
open Go.RowKit Go.Sx
set_option linter.unusedVariables false
set_option linter.unusedSimpArgs false
set_option linter.unnecessarySimpa false
set_option maxRecDepth 100000
theorem effects_walk (W : World) (hLW : Laid W) (ad : Option Addr) (c : Nat) (ahead : List OpV) (o : OpV) (hok : ∀ q ∈ ahead, OpV.OK q) (ho : OpV.OK o) (hln : ahead.length ≤ 140737488351232) (rw : RowsAt W ad ahead.length 6 (fun k => OpV.cells (ahead.getD k dOp))) : Calls Tryd.prog 5 #[.slice ad ahead.length c, .agg (OpV.cells o)] W (Ret fun rv w' => rv = .bool true ∧ Below W.heap.size W w') := by
  have hsm : Small o := ho.small
  refine enter (args := [.slice ad ahead.length c, .agg (OpV.cells o)]) Tryd.func5 rfl Tryd.ntmps5 (Nat.le_of_ble_eq_true (by kernel_rfl)) ?_
  refine GoC.slots (S' := [(0, .slice ad ahead.length c), (1, .agg (OpV.cells o))]) rfl ?_
  refine GoC.seq ?_
  refine GoC.regT [3, 3] (.ef 0 (.rd 1 .done)) (by kernel_rfl) (by kernel_rfl) ?_
  refine GoR.box rfl rfl (by kernel_rfl) (v := .agg (OpV.cells o)) (by kernel_rfl) (St.start W) (cs := OpV.cells o) (by kernel_rfl) ?_
  intro b1 w2 hs3
  refine ⟨(opn (by kernel_rfl)), ?_⟩
  refine GoR.phaseK [(1, .gen [])] [4, 3, 0] [] [(4, .bool false), (3, .pointer (some ⟨b1, 0, none⟩)), (0, .slice ad ahead.length c)] (by kernel_rfl) rfl ak0 ?_
  refine GoR.done (GoQ.thn (GoC.seq (GoC.seq ?_)))
  refine GoC.regT [16383, 16383, 16383, 16383, 16383, 16383, 16383, 16383, 16383, 16383, 16383, 16383, 16383, 16383] (.rd 0 (.ef 1 (.rd 2 (.rd 3 (.rd 4 (.ef 5 (.ef 6 (.rd 7 (.rd 8 (.rd 9 (.rd 10 (.rd 11 (.rd 12 (.rd 13 .done)))))))))))))) (by kernel_rfl) (by kernel_rfl) ?_
  refine GoR.phaseK [(0, .gen [])] [15, 4, 3, 0] [] [(15, .slice ad ahead.length c), (4, .bool false), (3, .pointer (some ⟨b1, 0, none⟩)), (0, .slice ad ahead.length c)] (by kernel_rfl) rfl ak0 ?_
  refine GoR.call rfl rfl (by kernel_rfl) (f := 20) (args := #[.slice ad ahead.length c]) (by kernel_rfl) Tryd.call20 (few_spec ahead (fun q hq => (hok q hq).small) (by omega) (fun w h => rw.base (fun k _ => (opF).size _) h 1 rfl) hs3) ?_
  rintro v5 w6 ⟨rfl, hs4⟩
  refine ⟨(opn (by kernel_rfl)), ?_⟩
  refine GoR.phaseK [(2, .gen []), (3, .gen [])] [18, 4, 3, 0] [] [(18, .bool (!(few ahead))), (4, .bool false), (3, .pointer (some ⟨b1, 0, none⟩)), (0, .slice ad ahead.length c)] (by kernel_rfl) rfl ak0 ?_
  rcases Bool.eq_false_or_eq_true (!(few ahead)) with h7 | h7
  · refine GoR.setB 18 true (by decide) (by kernel_rfl) h7 ?_
    have h7n : (few ahead) = false := notT h7
    refine GoR.phaseK [(4, .gen [])] [19, 18, 4, 3, 0] [] [(19, undef), (18, .bool true), (4, .bool false), (3, .pointer (some ⟨b1, 0, none⟩)), (0, .slice ad ahead.length c)] (by kernel_rfl) rfl ak0 ?_
    refine GoR.skip rfl (by kernel_rfl) (opn (by kernel_rfl)) ?_
    refine GoR.skip rfl (by kernel_rfl) (opn (by kernel_rfl)) ?_
    refine GoR.phaseK [(7, .gen []), (8, .gen []), (9, .gen []), (10, .gen []), (11, .gen []), (12, .gen []), (13, .gen [])] [28, 4, 3, 0] [] [(28, .bool true), (4, .bool false), (3, .pointer (some ⟨b1, 0, none⟩)), (0, .slice ad ahead.length c)] (by kernel_rfl) rfl ak0 ?_
    refine GoR.done (GoQ.thn (GoC.condT (by kernel_rfl) (GoC.seq ?_)))
    refine GoC.regT [3, 3] (.ef 0 (.rd 1 .done)) (by kernel_rfl) (by kernel_rfl) ?_
    refine GoR.call rfl rfl (by kernel_rfl) (f := 21) (args := #[]) (by kernel_rfl) Tryd.call21 (works_spec (fun w h => hLW.base h 1 rfl) hs4) ?_
    rintro v9 w10 ⟨rfl, hs8⟩
    refine ⟨(opn (by kernel_rfl)), ?_⟩
    refine GoR.phaseK [(1, .gen [])] [4, 3, 0] [] [(4, .bool true), (3, .pointer (some ⟨b1, 0, none⟩)), (0, .slice ad ahead.length c)] (by kernel_rfl) rfl ak0 ?_
    refine GoR.done (GoQ.thn (GoC.ret (GoQ.skipCR ?_)))
    refine GoQ.done (.inl rfl) (v := .bool true) (fun a hf => results1 rfl (by kernel_rfl) a hf) ?_
    exact ⟨rfl, hs8.below 1 rfl⟩
  · refine GoR.setB 18 false (by decide) (by kernel_rfl) h7 ?_
    have h7n : (few ahead) = true := notF h7
    refine GoR.phaseK [(4, .agg (OpV.cells o))] [19, 18, 4, 3, 0] [(4, [.prop (Array.size (OpV.cells o) = 6), .cells ⟨b1, 0, none⟩ (OpV.cells o)])] [(19, .agg (OpV.cells o)), (18, .bool false), (4, .bool false), (3, .pointer (some ⟨b1, 0, none⟩)), (0, .slice ad ahead.length c)] (by kernel_rfl) rfl (ak (okp (by kernel_rfl) (oka (hs4.cells 0 0 rfl (by kernel_rfl)) ok0)) ak0) ?_
    refine GoR.sliceLit rfl (by kernel_rfl) (t := 47) (e := 24) (n := 1) (ps := [(0, .agg (OpV.cells o))]) (by kernel_rfl) (by kernel_rfl) (ti := Tryd.t24) (z := .agg #[.int .u8 0, .string (⟨#[]⟩ : ByteArray), .string (⟨#[]⟩ : ByteArray), .string (⟨#[]⟩ : ByteArray), .string (⟨#[]⟩ : ByteArray), .int .u64 0]) (by kernel_rfl) (by kernel_rfl) (by decide) (by decide) (cs := #[.int .u8 o.kind, .string o.key, .string o.value, .string o.old, .string o.dest, .int .u64 o.amount]) (by kernel_rfl) hs4 ?_
    intro b11 w12 hs13 hz14
    have hs15 : St W ((Sl (some ⟨b11, 0, none⟩) 1 24 6 OpV.cells ([(o : OpV)])) :: (Cel b1 (OpV.cells o) 24) :: (Base W) :: []) w12 := St.slOf (l := [(o : OpV)]) (f := OpV.cells) hs13 hz14 (opF).size (by simp only [List.length_cons, List.length_nil, maxLen]; omega) (by kernel_rfl)
    refine ⟨(opn (by kernel_rfl)), ?_⟩
    refine GoR.call rfl rfl (by kernel_rfl) (f := 20) (args := #[.slice (some ⟨b11, 0, none⟩) (([(o : OpV)]).length) 1]) (by kernel_rfl) Tryd.call20 (few_spec ([(o : OpV)]) (fun q hq => by simp only [List.mem_singleton] at hq; subst hq; exact hsm) (by simp only [List.length_cons, List.length_nil]; omega) (fun w h => h.rows 0 rfl (opF).size _) hs15) ?_
    rintro v17 w18 ⟨rfl, hs16⟩
    refine ⟨(opn (by kernel_rfl)), ?_⟩
    refine GoR.phaseK [(7, .gen []), (8, .gen []), (9, .gen [])] [24, 4, 3, 0] [] [(24, .bool (!(few ([(o : OpV)])))), (4, .bool false), (3, .pointer (some ⟨b1, 0, none⟩)), (0, .slice ad ahead.length c)] (by kernel_rfl) rfl ak0 ?_
    rcases Bool.eq_false_or_eq_true (!(few ([(o : OpV)]))) with h19 | h19
    · refine GoR.setB 24 true (by decide) (by kernel_rfl) h19 ?_
      have h19n : (few ([(o : OpV)])) = false := notT h19
      refine GoR.phaseK [(10, .gen []), (11, .gen []), (12, .gen []), (13, .gen [])] [28, 4, 3, 0] [] [(28, .bool true), (4, .bool false), (3, .pointer (some ⟨b1, 0, none⟩)), (0, .slice ad ahead.length c)] (by kernel_rfl) rfl ak0 ?_
      refine GoR.done (GoQ.thn (GoC.condT (by kernel_rfl) (GoC.seq ?_)))
      refine GoC.regT [3, 3] (.ef 0 (.rd 1 .done)) (by kernel_rfl) (by kernel_rfl) ?_
      refine GoR.call rfl rfl (by kernel_rfl) (f := 21) (args := #[]) (by kernel_rfl) Tryd.call21 (works_spec (fun w h => hLW.base h 2 rfl) hs16) ?_
      rintro v21 w22 ⟨rfl, hs20⟩
      refine ⟨(opn (by kernel_rfl)), ?_⟩
      refine GoR.phaseK [(1, .gen [])] [4, 3, 0] [] [(4, .bool true), (3, .pointer (some ⟨b1, 0, none⟩)), (0, .slice ad ahead.length c)] (by kernel_rfl) rfl ak0 ?_
      refine GoR.done (GoQ.thn (GoC.ret (GoQ.skipCR ?_)))
      refine GoQ.done (.inl rfl) (v := .bool true) (fun a hf => results1 rfl (by kernel_rfl) a hf) ?_
      exact ⟨rfl, hs20.below 2 rfl⟩
    · refine GoR.setB 24 false (by decide) (by kernel_rfl) h19 ?_
      have h19n : (few ([(o : OpV)])) = true := notF h19
      refine GoR.phaseK [(10, .gen []), (11, .gen []), (12, .gen []), (13, .gen [])] [28, 4, 3, 0] [] [(28, .bool (decide (((ahead.length : Nat) : Int) > 100))), (4, .bool false), (3, .pointer (some ⟨b1, 0, none⟩)), (0, .slice ad ahead.length c)] (by kernel_rfl) rfl ak0 ?_
      refine GoR.done (GoQ.thn ?_)
      refine GoC.cond (t := decide (((ahead.length : Nat) : Int) > 100)) (by kernel_rfl) (fun h23 => ?_) (fun h23 => ?_)
      · have h23' : ((ahead.length : Nat) : Int) > 100 := of_decide_eq_true h23
        refine GoC.seq ?_
        refine GoC.regT [3, 3] (.ef 0 (.rd 1 .done)) (by kernel_rfl) (by kernel_rfl) ?_
        refine GoR.call rfl rfl (by kernel_rfl) (f := 21) (args := #[]) (by kernel_rfl) Tryd.call21 (works_spec (fun w h => hLW.base h 2 rfl) hs16) ?_
        rintro v25 w26 ⟨rfl, hs24⟩
        refine ⟨(opn (by kernel_rfl)), ?_⟩
        refine GoR.phaseK [(1, .gen [])] [4, 3, 0] [] [(4, .bool true), (3, .pointer (some ⟨b1, 0, none⟩)), (0, .slice ad ahead.length c)] (by kernel_rfl) rfl ak0 ?_
        refine GoR.done (GoQ.thn (GoC.ret (GoQ.skipCR ?_)))
        refine GoQ.done (.inl rfl) (v := .bool true) (fun a hf => results1 rfl (by kernel_rfl) a hf) ?_
        exact ⟨rfl, hs24.below 2 rfl⟩
      · have h23' : ¬ (((ahead.length : Nat) : Int) > 100) := of_decide_eq_false h23
        refine GoC.skip (GoQ.thn (GoC.seq ?_))
        refine GoC.regT [3, 3] (.ef 0 (.rd 1 .done)) (by kernel_rfl) (by kernel_rfl) ?_
        refine GoR.call rfl rfl (by kernel_rfl) (f := 16) (args := #[]) (by kernel_rfl) Tryd.call16 (new_spec hs16) ?_
        rintro v30 w31 ⟨p27, r28, rfl, hs29⟩
        refine ⟨(opn (by kernel_rfl)), ?_⟩
        refine GoR.phaseK [(1, .gen [])] [5, 4, 3, 0] [] [(5, .pointer (some ⟨p27, 0, none⟩)), (4, .bool false), (3, .pointer (some ⟨b1, 0, none⟩)), (0, .slice ad ahead.length c)] (by kernel_rfl) rfl ak0 ?_
        refine GoR.done (GoQ.thn (GoC.seq (GoC.seq ?_)))
        refine GoC.regT [1] (.rd 0 .done) (by kernel_rfl) (by kernel_rfl) ?_
        refine GoR.phaseK [(0, .gen [])] [6, 5, 4, 3, 0] [] [(6, .int .i64 0), (5, .pointer (some ⟨p27, 0, none⟩)), (4, .bool false), (3, .pointer (some ⟨b1, 0, none⟩)), (0, .slice ad ahead.length c)] (by kernel_rfl) rfl ak0 ?_
        refine GoR.done (GoQ.thn (GoC.block ?_))
        refine GoC.loop (T := Nat) (fun gg => [(0, .slice ad ahead.length c), (3, .pointer (some ⟨b1, 0, none⟩)), (4, .bool false), (5, .pointer (some ⟨p27, 0, none⟩)), (6, .int .i64 (gg : Nat))]) (fun gg w => (gg ≤ ahead.length) ∧ St W ((Cel p27 #[.map (some r28)] 89) :: (MapA Value.string Value.string r28 (lrun (ahead.take gg))) :: (Sl (some ⟨b11, 0, none⟩) 1 24 6 OpV.cells ([(o : OpV)])) :: (Cel b1 (OpV.cells o) 24) :: (Base W) :: []) w) (fun gg => ahead.length - gg) 0 [0, 3, 4, 5, 6] (by kernel_rfl) ⟨Nat.zero_le _, hs29⟩ ?_
        rintro k w32 ⟨hp0, hs33⟩
        have hp : k ≤ ahead.length := hp0
        have hs34 : St W ((Cel p27 #[.map (some r28)] 89) :: (MapA Value.string Value.string r28 (lrun (ahead.take k))) :: (Sl (some ⟨b11, 0, none⟩) 1 24 6 OpV.cells ([(o : OpV)])) :: (Cel b1 (OpV.cells o) 24) :: (Base W) :: []) w32 := hs33
        refine GoC.slots (S' := [(0, .slice ad ahead.length c), (3, .pointer (some ⟨b1, 0, none⟩)), (4, .bool false), (5, .pointer (some ⟨p27, 0, none⟩)), (6, .int .i64 (k : Nat))]) rfl ?_
        refine GoC.seq (GoC.seq ?_)
        refine GoC.regT [15, 15, 15, 15] (.rd 0 (.rd 1 (.rd 2 (.rd 3 .done)))) (by kernel_rfl) (by kernel_rfl) ?_
        refine GoR.phaseK [(0, .gen []), (1, .gen []), (2, .gen []), (3, .gen [])] [34, 0, 3, 4, 5, 6] [] [(34, .bool (decide (((k : Nat) : Int) < (ahead.length : Nat)))), (0, .slice ad ahead.length c), (3, .pointer (some ⟨b1, 0, none⟩)), (4, .bool false), (5, .pointer (some ⟨p27, 0, none⟩)), (6, .int .i64 (k : Nat))] (by kernel_rfl) rfl ak0 ?_
        refine GoR.done (GoQ.thn ?_)
        refine GoC.cond (t := decide (((k : Nat) : Int) < (ahead.length : Nat))) (by kernel_rfl) (fun h35 => ?_) (fun h35 => ?_)
        · have h35' : ((k : Nat) : Int) < (ahead.length : Nat) := of_decide_eq_true h35
          have hk : k < ahead.length := by omega
          obtain ⟨ab36, ao37, rfl⟩ := RowsAt.isSome rw (by omega)
          refine GoC.skip (GoQ.thn (GoC.seq (GoC.block ?_)))
          refine GoC.regT [63, 63, 63, 63, 63, 63] (.rd 0 (.rd 1 (.rd 2 (.rd 3 (.rd 4 (.ef 5 .done)))))) (by kernel_rfl) (by kernel_rfl) ?_
          refine GoR.phaseK [(0, .gen []), (1, .gen []), (2, .gen []), (3, .as_ (.pointer (some ⟨ab36, ao37 + (k * 6), none⟩)) .at_), (4, .agg (OpV.cells (ahead.getD k dOp)))] [41, 37, 0, 3, 4, 5, 6] [(3, [.prop (0 ≤ ((k : Nat) : Int) ∧ ((k : Nat) : Int) < ((ahead.length : Nat) : Int)), .prop (Value.pointer (some (Addr.add ⟨ab36, ao37, none⟩ (Int.toNat (k : Nat) * 6))) = Value.pointer (some ⟨ab36, ao37 + (k * 6), none⟩))]), (4, [.prop (Array.size (OpV.cells (ahead.getD k dOp)) = 6), .cells ⟨ab36, ao37 + (k * 6), none⟩ (OpV.cells (ahead.getD k dOp))])] [(41, .agg (OpV.cells (ahead.getD k dOp))), (37, .pointer (some ⟨p27, 0, none⟩)), (0, .slice (some ⟨ab36, ao37, none⟩) ahead.length c), (3, .pointer (some ⟨b1, 0, none⟩)), (4, .bool false), (5, .pointer (some ⟨p27, 0, none⟩)), (6, .int .i64 (k : Nat))] (by kernel_rfl) rfl (ak (okp (by omega) (okp (ptrAdd _ _ _) ok0)) (ak (okp (by kernel_rfl) (oka (RowsAt.all0 (rw.base (fun k _ => (opF).size _) hs34 4 rfl) (by first | omega | (simp only [List.length_set]; omega)) (Nat.le_of_ble_eq_true (by kernel_rfl)) (by kernel_rfl)) ok0)) ak0)) ?_
          refine GoR.call rfl rfl (by kernel_rfl) (f := 22) (args := #[.pointer (some ⟨p27, 0, none⟩), .agg (OpV.cells (ahead.getD k dOp))]) (by kernel_rfl) Tryd.call22 (ldo_spec (lrun (ahead.take k)) (ahead.getD k dOp) (lrun_inv _).short (fun w h => hLW.base h 2 rfl) (hok _ (getD_mem hk)).amount.1 hs34) ?_
          rintro v39 w40 ⟨rfl, hs38⟩
          refine ⟨(opn (by kernel_rfl)), ?_⟩
          refine GoR.done (GoQ.blkN (GoQ.thn ?_))
          refine GoC.regT [7, 7, 7] (.rd 0 (.rd 1 (.rd 2 .done))) (by kernel_rfl) (by kernel_rfl) ?_
          refine GoR.phaseK [(0, .gen []), (1, .as_ (.int .i64 ((k : Nat) + 1)) (.gen [])), (2, .gen [])] [6, 0, 3, 4, 5] [(1, [.prop (Value.int .i64 (IntKind.i64.wrap ((k : Nat) + 1)) = Value.int .i64 ((k : Nat) + 1))])] [(6, .int .i64 ((k : Nat) + 1)), (0, .slice (some ⟨ab36, ao37, none⟩) ahead.length c), (3, .pointer (some ⟨b1, 0, none⟩)), (4, .bool false), (5, .pointer (some ⟨p27, 0, none⟩))] (by kernel_rfl) rfl (ak (okp (i64ok (by omega) (by omega)) ok0) ak0) ?_
          refine GoR.done ?_
          rw [← lrun_succ (d := dOp) hk] at hs38
          exact GoQ.back (k + 1) [0, 3, 4, 5, 6] (by kernel_rfl) (by show ahead.length - (k + 1) < ahead.length - k; omega) ⟨by omega, hs38⟩
        · have h35' : ¬ (((k : Nat) : Int) < (ahead.length : Nat)) := of_decide_eq_false h35
          have hall : ahead.take k = ahead := List.take_of_length_le (by omega)
          rw [hall] at hs34
          refine GoC.exit (GoQ.skipC (GoQ.skipL (GoQ.hit (GoQ.thn (GoC.seq ?_)))))
          refine GoC.regT [7, 7, 7] (.rd 0 (.ef 1 (.rd 2 .done))) (by kernel_rfl) (by kernel_rfl) ?_
          refine GoR.phaseK [(0, .gen [])] [43, 3, 4, 5] [] [(43, .pointer (some ⟨p27, 0, none⟩)), (3, .pointer (some ⟨b1, 0, none⟩)), (4, .bool false), (5, .pointer (some ⟨p27, 0, none⟩))] (by kernel_rfl) rfl ak0 ?_
          refine GoR.call rfl rfl (by kernel_rfl) (f := 23) (args := #[.pointer (some ⟨p27, 0, none⟩)]) (by kernel_rfl) Tryd.call23 (list_spec (lrun ahead) (Nat.le_trans (lrun_inv _).len (by decide)) hs34) ?_
          rintro v44 w45 ⟨ad41, c42, rfl, hs43⟩
          refine ⟨(opn (by kernel_rfl)), ?_⟩
          refine GoR.phaseK [(2, .gen [])] [7, 3, 4, 5] [] [(7, .slice ad41 ((lst (lrun ahead)).length) c42), (3, .pointer (some ⟨b1, 0, none⟩)), (4, .bool false), (5, .pointer (some ⟨p27, 0, none⟩))] (by kernel_rfl) rfl ak0 ?_
          refine GoR.done (GoQ.thn (GoC.seq ?_))
          refine GoC.regT [511, 511, 511, 511, 511, 511, 511, 511, 511] (.rd 0 (.rd 1 (.rd 2 (.ef 3 (.rd 4 (.rd 5 (.rd 6 (.rd 7 (.rd 8 .done))))))))) (by kernel_rfl) (by kernel_rfl) ?_
          refine GoR.phaseK [(0, .gen []), (1, .gen []), (2, .gen [.string o.key])] [48, 46, 7, 3, 4, 5] [(2, [.cell ⟨b1, 1, none⟩ (.string o.key)])] [(48, .string o.key), (46, .pointer (some ⟨p27, 0, none⟩)), (7, .slice ad41 ((lst (lrun ahead)).length) c42), (3, .pointer (some ⟨b1, 0, none⟩)), (4, .bool false), (5, .pointer (some ⟨p27, 0, none⟩))] (by kernel_rfl) rfl (ak (okc (hs43.cell 4 rfl (by kernel_rfl)) ok0) ak0) ?_
          have hs46 : St W ((Cel p27 #[.map (some r28)] 89) :: (MapA Value.string Value.string r28 (lrun ahead)) :: (Sl ad41 c42 61 2 ItemV.cells (lst (lrun ahead))) :: (Sl (some ⟨b11, 0, none⟩) 1 24 6 OpV.cells ([(o : OpV)])) :: (Cel b1 (OpV.cells o) 24) :: (Base W) :: []) w45 := ((hs43.pull 2 rfl).pull 2 rfl)
          refine GoR.call rfl rfl (by kernel_rfl) (f := 24) (args := #[.pointer (some ⟨p27, 0, none⟩), .string o.key]) (by kernel_rfl) Tryd.call24 (get_spec (lrun ahead) o.key (Nat.le_trans (lrun_inv _).len (by decide)) hs46) ?_
          rintro v48 w49 ⟨rfl, hs47⟩
          refine ⟨(opn (by kernel_rfl)), ?_⟩
          refine GoR.phaseK [(4, .gen []), (5, .gen []), (6, .gen []), (7, .gen []), (8, .gen [])] [9, 8, 7, 3, 4, 5] [] [(9, .bool ((aget (lrun ahead) o.key).isSome)), (8, .string ((aget (lrun ahead) o.key).getD (⟨#[]⟩ : ByteArray))), (7, .slice ad41 ((lst (lrun ahead)).length) c42), (3, .pointer (some ⟨b1, 0, none⟩)), (4, .bool false), (5, .pointer (some ⟨p27, 0, none⟩))] (by kernel_rfl) rfl ak0 ?_
          refine GoR.done (GoQ.thn (GoC.seq ?_))
          refine GoC.regT [31, 31, 31, 31, 31] (.rd 0 (.rd 1 (.ef 2 (.ef 3 (.ef 4 .done))))) (by kernel_rfl) (by kernel_rfl) ?_
          refine GoR.phaseK [(0, .gen []), (1, .agg (OpV.cells o))] [53, 52, 9, 8, 7, 3, 4, 5] [(1, [.prop (Array.size (OpV.cells o) = 6), .cells ⟨b1, 0, none⟩ (OpV.cells o)])] [(53, .agg (OpV.cells o)), (52, .pointer (some ⟨p27, 0, none⟩)), (9, .bool ((aget (lrun ahead) o.key).isSome)), (8, .string ((aget (lrun ahead) o.key).getD (⟨#[]⟩ : ByteArray))), (7, .slice ad41 ((lst (lrun ahead)).length) c42), (3, .pointer (some ⟨b1, 0, none⟩)), (4, .bool false), (5, .pointer (some ⟨p27, 0, none⟩))] (by kernel_rfl) rfl (ak (okp (by kernel_rfl) (oka (hs47.cells 4 0 rfl (by kernel_rfl)) ok0)) ak0) ?_
          refine GoR.call rfl rfl (by kernel_rfl) (f := 22) (args := #[.pointer (some ⟨p27, 0, none⟩), .agg (OpV.cells o)]) (by kernel_rfl) Tryd.call22 (ldo_spec (lrun ahead) o (lrun_inv _).short (fun w h => hLW.base h 3 rfl) ho.amount.1 hs47) ?_
          rintro v51 w52 ⟨rfl, hs50⟩
          refine ⟨(opn (by kernel_rfl)), ?_⟩
          refine GoR.alloc rfl rfl (by kernel_rfl) (z := .agg #[.int .i64 0, .string (⟨#[]⟩ : ByteArray)]) (by kernel_rfl) hs50 (cs := #[.int .i64 0, .string (⟨#[]⟩ : ByteArray)]) (by kernel_rfl) ?_
          intro b53 w54 hs55
          refine ⟨(opn (by kernel_rfl)), ?_⟩
          refine GoR.store rfl rfl (by kernel_rfl) (b := b53) (off := 0) (v := .agg (RepV.cells ((ldo (lrun ahead) o).1))) (by kernel_rfl) (by kernel_rfl) (ti := Tryd.t34) (by kernel_rfl) hs55 0 rfl (by kernel_rfl) (by kernel_rfl) (Nat.le_of_ble_eq_true (by kernel_rfl)) (cs' := RepV.cells ((ldo (lrun ahead) o).1)) (L' := (Cel b53 (RepV.cells ((ldo (lrun ahead) o).1)) 34) :: (Cel p27 #[.map (some r28)] 89) :: (MapA Value.string Value.string r28 ((ldo (lrun ahead) o).2)) :: (Sl ad41 c42 61 2 ItemV.cells (lst (lrun ahead))) :: (Sl (some ⟨b11, 0, none⟩) 1 24 6 OpV.cells ([(o : OpV)])) :: (Cel b1 (OpV.cells o) 24) :: (Base W) :: []) (by kernel_rfl) rfl ?_
          intro w56 hs57
          refine ⟨(opn (by kernel_rfl)), ?_⟩
          refine GoR.done (GoQ.thn (GoC.seq ?_))
          refine GoC.regT [7, 7, 7] (.rd 0 (.ef 1 (.rd 2 .done))) (by kernel_rfl) (by kernel_rfl) ?_
          refine GoR.phaseK [(0, .gen [])] [55, 10, 9, 8, 7, 3, 4, 5] [] [(55, .pointer (some ⟨p27, 0, none⟩)), (10, .pointer (some ⟨b53, 0, none⟩)), (9, .bool ((aget (lrun ahead) o.key).isSome)), (8, .string ((aget (lrun ahead) o.key).getD (⟨#[]⟩ : ByteArray))), (7, .slice ad41 ((lst (lrun ahead)).length) c42), (3, .pointer (some ⟨b1, 0, none⟩)), (4, .bool false), (5, .pointer (some ⟨p27, 0, none⟩))] (by kernel_rfl) rfl ak0 ?_
          have hs58 : St W ((Cel p27 #[.map (some r28)] 89) :: (MapA Value.string Value.string r28 ((ldo (lrun ahead) o).2)) :: (Cel b53 (RepV.cells ((ldo (lrun ahead) o).1)) 34) :: (Sl ad41 c42 61 2 ItemV.cells (lst (lrun ahead))) :: (Sl (some ⟨b11, 0, none⟩) 1 24 6 OpV.cells ([(o : OpV)])) :: (Cel b1 (OpV.cells o) 24) :: (Base W) :: []) w56 := ((hs57.pull 2 rfl).pull 2 rfl)
          refine GoR.call rfl rfl (by kernel_rfl) (f := 23) (args := #[.pointer (some ⟨p27, 0, none⟩)]) (by kernel_rfl) Tryd.call23 (list_spec ((ldo (lrun ahead) o).2) (Nat.le_trans (ldo_inv _ (lrun_inv _)).len (by decide)) hs58) ?_
          rintro v62 w63 ⟨ad59, c60, rfl, hs61⟩
          refine ⟨(opn (by kernel_rfl)), ?_⟩
          refine GoR.phaseK [(2, .gen [])] [11, 10, 9, 8, 7, 3, 4, 5] [] [(11, .slice ad59 ((lst ((ldo (lrun ahead) o).2)).length) c60), (10, .pointer (some ⟨b53, 0, none⟩)), (9, .bool ((aget (lrun ahead) o.key).isSome)), (8, .string ((aget (lrun ahead) o.key).getD (⟨#[]⟩ : ByteArray))), (7, .slice ad41 ((lst (lrun ahead)).length) c42), (3, .pointer (some ⟨b1, 0, none⟩)), (4, .bool false), (5, .pointer (some ⟨p27, 0, none⟩))] (by kernel_rfl) rfl ak0 ?_
          refine GoR.done (GoQ.thn (GoC.seq ?_))
          refine GoC.regT [511, 511, 511, 511, 511, 511, 511, 511, 511] (.rd 0 (.rd 1 (.rd 2 (.ef 3 (.rd 4 (.rd 5 (.rd 6 (.rd 7 (.rd 8 .done))))))))) (by kernel_rfl) (by kernel_rfl) ?_
          refine GoR.phaseK [(0, .gen []), (1, .gen []), (2, .gen [.string o.key])] [60, 58, 11, 10, 9, 8, 7, 3, 4] [(2, [.cell ⟨b1, 1, none⟩ (.string o.key)])] [(60, .string o.key), (58, .pointer (some ⟨p27, 0, none⟩)), (11, .slice ad59 ((lst ((ldo (lrun ahead) o).2)).length) c60), (10, .pointer (some ⟨b53, 0, none⟩)), (9, .bool ((aget (lrun ahead) o.key).isSome)), (8, .string ((aget (lrun ahead) o.key).getD (⟨#[]⟩ : ByteArray))), (7, .slice ad41 ((lst (lrun ahead)).length) c42), (3, .pointer (some ⟨b1, 0, none⟩)), (4, .bool false)] (by kernel_rfl) rfl (ak (okc (hs61.cell 6 rfl (by kernel_rfl)) ok0) ak0) ?_
          have hs64 : St W ((Cel p27 #[.map (some r28)] 89) :: (MapA Value.string Value.string r28 ((ldo (lrun ahead) o).2)) :: (Sl ad59 c60 61 2 ItemV.cells (lst ((ldo (lrun ahead) o).2))) :: (Cel b53 (RepV.cells ((ldo (lrun ahead) o).1)) 34) :: (Sl ad41 c42 61 2 ItemV.cells (lst (lrun ahead))) :: (Sl (some ⟨b11, 0, none⟩) 1 24 6 OpV.cells ([(o : OpV)])) :: (Cel b1 (OpV.cells o) 24) :: (Base W) :: []) w63 := ((hs61.pull 2 rfl).pull 2 rfl)
          refine GoR.call rfl rfl (by kernel_rfl) (f := 24) (args := #[.pointer (some ⟨p27, 0, none⟩), .string o.key]) (by kernel_rfl) Tryd.call24 (get_spec ((ldo (lrun ahead) o).2) o.key (Nat.le_trans (ldo_inv _ (lrun_inv _)).len (by decide)) hs64) ?_
          rintro v66 w67 ⟨rfl, hs65⟩
          refine ⟨(opn (by kernel_rfl)), ?_⟩
          refine GoR.phaseK [(4, .gen []), (5, .gen []), (6, .gen []), (7, .gen []), (8, .gen [])] [13, 12, 11, 10, 9, 8, 7, 3, 4] [] [(13, .bool ((aget ((ldo (lrun ahead) o).2) o.key).isSome)), (12, .string ((aget ((ldo (lrun ahead) o).2) o.key).getD (⟨#[]⟩ : ByteArray))), (11, .slice ad59 ((lst ((ldo (lrun ahead) o).2)).length) c60), (10, .pointer (some ⟨b53, 0, none⟩)), (9, .bool ((aget (lrun ahead) o.key).isSome)), (8, .string ((aget (lrun ahead) o.key).getD (⟨#[]⟩ : ByteArray))), (7, .slice ad41 ((lst (lrun ahead)).length) c42), (3, .pointer (some ⟨b1, 0, none⟩)), (4, .bool false)] (by kernel_rfl) rfl ak0 ?_
          refine GoR.done (GoQ.thn (GoC.seq (GoC.seq ?_)))
          refine GoC.regD [0, 0, 2, 0, 8, 31, 0, 0, 128, 0, 512, 2047, 4095, 8191] (.rd 0 (.rd 1 (.rd 2 (.rd 3 (.rd 4 (.rd 6 (.rd 7 (.rd 8 (.rd 9 (.rd 10 (.ef 5 (.ef 11 (.ef 12 (.rd 13 .done)))))))))))))) (by kernel_rfl) (by kernel_rfl) noPan_body (by kernel_rfl) hs65 ?_
          intro w68 hs69 hw70
          refine GoR.phaseK [(0, .gen []), (1, .gen []), (2, .gen [.string o.key]), (3, .gen []), (4, .gen [.string o.dest]), (6, .gen []), (7, .gen []), (8, .gen [.string o.key]), (9, .gen []), (10, .gen [.string o.dest])] [74, 72, 70, 68, 66, 64, 13, 12, 11, 10, 9, 8, 7, 3, 4] [(2, [.cell ⟨b1, 1, none⟩ (.string o.key)]), (4, [.cell ⟨b1, 4, none⟩ (.string o.dest)]), (8, [.cell ⟨b1, 1, none⟩ (.string o.key)]), (10, [.cell ⟨b1, 4, none⟩ (.string o.dest)])] [(74, .string o.dest), (72, .string o.key), (70, .slice ad59 ((lst ((ldo (lrun ahead) o).2)).length) c60), (68, .string o.dest), (66, .string o.key), (64, .slice ad41 ((lst (lrun ahead)).length) c42), (13, .bool ((aget ((ldo (lrun ahead) o).2) o.key).isSome)), (12, .string ((aget ((ldo (lrun ahead) o).2) o.key).getD (⟨#[]⟩ : ByteArray))), (11, .slice ad59 ((lst ((ldo (lrun ahead) o).2)).length) c60), (10, .pointer (some ⟨b53, 0, none⟩)), (9, .bool ((aget (lrun ahead) o.key).isSome)), (8, .string ((aget (lrun ahead) o.key).getD (⟨#[]⟩ : ByteArray))), (7, .slice ad41 ((lst (lrun ahead)).length) c42), (3, .pointer (some ⟨b1, 0, none⟩)), (4, .bool false)] (by kernel_rfl) rfl (ak (okc (hs69.cell 6 rfl (by kernel_rfl)) ok0) (ak (okc (hs69.cell 6 rfl (by kernel_rfl)) ok0) (ak (okc (hs69.cell 6 rfl (by kernel_rfl)) ok0) (ak (okc (hs69.cell 6 rfl (by kernel_rfl)) ok0) ak0)))) ?_
          refine GoR.call rfl rfl (by kernel_rfl) (f := 26) (args := #[.slice ad41 ((lst (lrun ahead)).length) c42, .string o.key, .string o.dest]) (by kernel_rfl) Tryd.call26 (others_spec (lst (lrun ahead)) o.key o.dest (by rw [lst_length]; exact Nat.le_trans (lrun_inv _).len (by decide)) (fun w h => h.rows 4 rfl (itemF).size _) hs69) ?_
          rintro v74 w75 ⟨ado71, co72, rfl, hs73⟩
          refine ⟨(opl (n := [.cell ⟨b1, 4, none⟩ (.string o.dest), .cell ⟨b1, 1, none⟩ (.string o.key)]) (by kernel_rfl) (okc (hs73.cell 7 rfl (by kernel_rfl)) (okc (hs73.cell 7 rfl (by kernel_rfl)) ok0))), ?_⟩
          refine GoR.call rfl rfl (by kernel_rfl) (f := 26) (args := #[.slice ad59 ((lst ((ldo (lrun ahead) o).2)).length) c60, .string o.key, .string o.dest]) (by kernel_rfl) Tryd.call26 (others_spec (lst ((ldo (lrun ahead) o).2)) o.key o.dest (by rw [lst_length]; exact Nat.le_trans (ldo_inv _ (lrun_inv _)).len (by decide)) (fun w h => h.rows 3 rfl (itemF).size _) hs73) ?_
          rintro v79 w80 ⟨ado76, co77, rfl, hs78⟩
          refine ⟨(opn (by kernel_rfl)), ?_⟩
          refine GoR.call rfl rfl (by kernel_rfl) (f := 25) (args := #[.slice ado71 (((lst (lrun ahead)).filter (oth o.key o.dest)).length) co72, .slice ado76 (((lst ((ldo (lrun ahead) o).2)).filter (oth o.key o.dest)).length) co77]) (by kernel_rfl) Tryd.call25 (same_spec ((lst (lrun ahead)).filter (oth o.key o.dest)) ((lst ((ldo (lrun ahead) o).2)).filter (oth o.key o.dest)) (Nat.le_trans (List.length_filter_le ..) (by rw [lst_length]; exact Nat.le_trans (lrun_inv _).len (by decide))) (Nat.le_trans (List.length_filter_le ..) (by rw [lst_length]; exact Nat.le_trans (ldo_inv _ (lrun_inv _)).len (by decide))) (fun w h => h.rows 1 rfl (itemF).size _) (fun w h => h.rows 0 rfl (itemF).size _) hs78) ?_
          rintro v82 w83 ⟨rfl, hs81⟩
          refine ⟨(opn (by kernel_rfl)), ?_⟩
          refine GoR.phaseK [(13, .gen [])] [77, 13, 12, 11, 10, 9, 8, 7, 3, 4] [] [(77, .bool (!(decide (((lst (lrun ahead)).filter (oth o.key o.dest)) = ((lst ((ldo (lrun ahead) o).2)).filter (oth o.key o.dest)))))), (13, .bool ((aget ((ldo (lrun ahead) o).2) o.key).isSome)), (12, .string ((aget ((ldo (lrun ahead) o).2) o.key).getD (⟨#[]⟩ : ByteArray))), (11, .slice ad59 ((lst ((ldo (lrun ahead) o).2)).length) c60), (10, .pointer (some ⟨b53, 0, none⟩)), (9, .bool ((aget (lrun ahead) o.key).isSome)), (8, .string ((aget (lrun ahead) o.key).getD (⟨#[]⟩ : ByteArray))), (7, .slice ad41 ((lst (lrun ahead)).length) c42), (3, .pointer (some ⟨b1, 0, none⟩)), (4, .bool false)] (by kernel_rfl) rfl ak0 ?_
          refine GoR.done (GoQ.thn ?_)
          refine GoC.cond (t := !(decide (((lst (lrun ahead)).filter (oth o.key o.dest)) = ((lst ((ldo (lrun ahead) o).2)).filter (oth o.key o.dest))))) (by kernel_rfl) (fun h84 => ?_) (fun h84 => ?_)
          · have h84n : (decide (((lst (lrun ahead)).filter (oth o.key o.dest)) = ((lst ((ldo (lrun ahead) o).2)).filter (oth o.key o.dest)))) = false := notT h84
            refine GoC.seq ?_
            refine GoC.regT [1] (.rd 0 .done) (by kernel_rfl) (by kernel_rfl) ?_
            refine GoR.phaseK [(0, .gen [])] [4, 13, 12, 11, 10, 9, 8, 7, 3] [] [(4, .bool false), (13, .bool ((aget ((ldo (lrun ahead) o).2) o.key).isSome)), (12, .string ((aget ((ldo (lrun ahead) o).2) o.key).getD (⟨#[]⟩ : ByteArray))), (11, .slice ad59 ((lst ((ldo (lrun ahead) o).2)).length) c60), (10, .pointer (some ⟨b53, 0, none⟩)), (9, .bool ((aget (lrun ahead) o.key).isSome)), (8, .string ((aget (lrun ahead) o.key).getD (⟨#[]⟩ : ByteArray))), (7, .slice ad41 ((lst (lrun ahead)).length) c42), (3, .pointer (some ⟨b1, 0, none⟩))] (by kernel_rfl) rfl ak0 ?_
            refine GoR.done (GoQ.thn (GoC.ret (GoQ.skipCR ?_)))
            refine GoQ.done (.inl rfl) (v := .bool false) (fun a hf => results1 rfl (by kernel_rfl) a hf) ?_
            have hr : effB (lrun ahead) o = false := by rw [effB, if_pos h84]
            exact ⟨congrArg Value.bool (hr.symm.trans (effB_true (lrun_inv _) o)), hs81.below 9 rfl⟩
          · have h84n : (decide (((lst (lrun ahead)).filter (oth o.key o.dest)) = ((lst ((ldo (lrun ahead) o).2)).filter (oth o.key o.dest)))) = true := notF h84
            refine GoC.skip (GoQ.thn (GoC.seq (GoC.seq ?_)))
            refine GoC.regT [7, 7, 7] (.rd 0 (.ef 1 (.rd 2 .done))) (by kernel_rfl) (by kernel_rfl) ?_
            refine GoR.phaseK [(0, .agg (OpV.cells o))] [78, 13, 12, 11, 10, 9, 8, 7, 3, 4] [(0, [.prop (Array.size (OpV.cells o) = 6), .cells ⟨b1, 0, none⟩ (OpV.cells o)])] [(78, .agg (OpV.cells o)), (13, .bool ((aget ((ldo (lrun ahead) o).2) o.key).isSome)), (12, .string ((aget ((ldo (lrun ahead) o).2) o.key).getD (⟨#[]⟩ : ByteArray))), (11, .slice ad59 ((lst ((ldo (lrun ahead) o).2)).length) c60), (10, .pointer (some ⟨b53, 0, none⟩)), (9, .bool ((aget (lrun ahead) o.key).isSome)), (8, .string ((aget (lrun ahead) o.key).getD (⟨#[]⟩ : ByteArray))), (7, .slice ad41 ((lst (lrun ahead)).length) c42), (3, .pointer (some ⟨b1, 0, none⟩)), (4, .bool false)] (by kernel_rfl) rfl (ak (okp (by kernel_rfl) (oka (hs81.cells 8 0 rfl (by kernel_rfl)) ok0)) ak0) ?_
            refine GoR.call rfl rfl (by kernel_rfl) (f := 27) (args := #[.agg (OpV.cells o)]) (by kernel_rfl) Tryd.call27 (may_spec o  hs81) ?_
            rintro v86 w87 ⟨rfl, hs85⟩
            refine ⟨(opn (by kernel_rfl)), ?_⟩
            refine GoR.phaseK [(2, .gen [])] [80, 13, 12, 11, 10, 9, 8, 7, 3, 4] [] [(80, .bool (!(may o))), (13, .bool ((aget ((ldo (lrun ahead) o).2) o.key).isSome)), (12, .string ((aget ((ldo (lrun ahead) o).2) o.key).getD (⟨#[]⟩ : ByteArray))), (11, .slice ad59 ((lst ((ldo (lrun ahead) o).2)).length) c60), (10, .pointer (some ⟨b53, 0, none⟩)), (9, .bool ((aget (lrun ahead) o.key).isSome)), (8, .string ((aget (lrun ahead) o.key).getD (⟨#[]⟩ : ByteArray))), (7, .slice ad41 ((lst (lrun ahead)).length) c42), (3, .pointer (some ⟨b1, 0, none⟩)), (4, .bool false)] (by kernel_rfl) rfl ak0 ?_
            refine GoR.done (GoQ.thn ?_)
            refine GoC.cond (t := !(may o)) (by kernel_rfl) (fun h88 => ?_) (fun h88 => ?_)
            · have h88n : (may o) = false := notT h88
              refine GoC.seq ?_
              refine GoC.regT [4095, 4095, 4095, 4095, 4095, 4095, 4095, 4095, 4095, 4095, 4095, 4095] (.rd 0 (.rd 1 (.rd 2 (.rd 3 (.rd 4 (.rd 5 (.ef 6 (.rd 7 (.rd 8 (.ef 9 (.rd 10 (.rd 11 .done)))))))))))) (by kernel_rfl) (by kernel_rfl) ?_
              refine GoR.phaseK [(0, .agg (RepV.cells ((ldo (lrun ahead) o).1))), (1, .gen [])] [82, 81, 13, 12, 11, 10, 9, 8, 7, 3, 4] [(0, [.prop (Array.size (RepV.cells ((ldo (lrun ahead) o).1)) = 2), .cells ⟨b53, 0, none⟩ (RepV.cells ((ldo (lrun ahead) o).1))])] [(82, .agg #[.int .i64 1, .string (⟨#[]⟩ : ByteArray)]), (81, .agg (RepV.cells ((ldo (lrun ahead) o).1))), (13, .bool ((aget ((ldo (lrun ahead) o).2) o.key).isSome)), (12, .string ((aget ((ldo (lrun ahead) o).2) o.key).getD (⟨#[]⟩ : ByteArray))), (11, .slice ad59 ((lst ((ldo (lrun ahead) o).2)).length) c60), (10, .pointer (some ⟨b53, 0, none⟩)), (9, .bool ((aget (lrun ahead) o.key).isSome)), (8, .string ((aget (lrun ahead) o.key).getD (⟨#[]⟩ : ByteArray))), (7, .slice ad41 ((lst (lrun ahead)).length) c42), (3, .pointer (some ⟨b1, 0, none⟩)), (4, .bool false)] (by kernel_rfl) rfl (ak (okp (by kernel_rfl) (oka (hs85.cells 5 0 rfl (by kernel_rfl)) ok0)) ak0) ?_
              refine GoR.eqAgg rfl (by kernel_rfl) (b := true) (t := 34) (xs := RepV.cells ((ldo (lrun ahead) o).1)) (ys := RepV.cells (⟨1, (⟨#[]⟩ : ByteArray)⟩ : RepV)) (m := 2) (by kernel_rfl) (by kernel_rfl) (by decide) (by kernel_rfl) (r := decide ((ldo (lrun ahead) o).1 = (⟨1, (⟨#[]⟩ : ByteArray)⟩ : RepV))) (aggEq  (repEq ((ldo (lrun ahead) o).1) (⟨1, (⟨#[]⟩ : ByteArray)⟩ : RepV))) ?_
              refine GoR.phaseK [(3, .gen [])] [84, 13, 12, 11, 10, 9, 8, 7, 3, 4] [] [(84, .bool (decide ((ldo (lrun ahead) o).1 = (⟨1, (⟨#[]⟩ : ByteArray)⟩ : RepV)))), (13, .bool ((aget ((ldo (lrun ahead) o).2) o.key).isSome)), (12, .string ((aget ((ldo (lrun ahead) o).2) o.key).getD (⟨#[]⟩ : ByteArray))), (11, .slice ad59 ((lst ((ldo (lrun ahead) o).2)).length) c60), (10, .pointer (some ⟨b53, 0, none⟩)), (9, .bool ((aget (lrun ahead) o.key).isSome)), (8, .string ((aget (lrun ahead) o.key).getD (⟨#[]⟩ : ByteArray))), (7, .slice ad41 ((lst (lrun ahead)).length) c42), (3, .pointer (some ⟨b1, 0, none⟩)), (4, .bool false)] (by kernel_rfl) rfl ak0 ?_
              rcases Bool.eq_false_or_eq_true (decide ((ldo (lrun ahead) o).1 = (⟨1, (⟨#[]⟩ : ByteArray)⟩ : RepV))) with h89 | h89
              · refine GoR.setB 84 true (by decide) (by kernel_rfl) h89 ?_
                have h89' : (ldo (lrun ahead) o).1 = (⟨1, (⟨#[]⟩ : ByteArray)⟩ : RepV) := of_decide_eq_true h89
                refine GoR.phaseK [(4, .gen []), (5, .gen [])] [86, 85, 84, 13, 12, 11, 10, 9, 8, 7, 3, 4] [] [(86, .slice ad59 ((lst ((ldo (lrun ahead) o).2)).length) c60), (85, .slice ad41 ((lst (lrun ahead)).length) c42), (84, .bool true), (13, .bool ((aget ((ldo (lrun ahead) o).2) o.key).isSome)), (12, .string ((aget ((ldo (lrun ahead) o).2) o.key).getD (⟨#[]⟩ : ByteArray))), (11, .slice ad59 ((lst ((ldo (lrun ahead) o).2)).length) c60), (10, .pointer (some ⟨b53, 0, none⟩)), (9, .bool ((aget (lrun ahead) o.key).isSome)), (8, .string ((aget (lrun ahead) o.key).getD (⟨#[]⟩ : ByteArray))), (7, .slice ad41 ((lst (lrun ahead)).length) c42), (3, .pointer (some ⟨b1, 0, none⟩)), (4, .bool false)] (by kernel_rfl) rfl ak0 ?_
                refine GoR.call rfl rfl (by kernel_rfl) (f := 25) (args := #[.slice ad41 ((lst (lrun ahead)).length) c42, .slice ad59 ((lst ((ldo (lrun ahead) o).2)).length) c60]) (by kernel_rfl) Tryd.call25 (same_spec (lst (lrun ahead)) (lst ((ldo (lrun ahead) o).2)) (by rw [lst_length]; exact Nat.le_trans (lrun_inv _).len (by decide)) (by rw [lst_length]; exact Nat.le_trans (ldo_inv _ (lrun_inv _)).len (by decide)) (fun w h => h.rows 6 rfl (itemF).size _) (fun w h => h.rows 4 rfl (itemF).size _) hs85) ?_
                rintro v91 w92 ⟨rfl, hs90⟩
                refine ⟨(opn (by kernel_rfl)), ?_⟩
                refine GoR.phaseK [(7, .gen []), (8, .gen [])] [89, 13, 12, 11, 10, 9, 8, 7, 3, 4] [] [(89, .bool (decide ((lst (lrun ahead)) = (lst ((ldo (lrun ahead) o).2))))), (13, .bool ((aget ((ldo (lrun ahead) o).2) o.key).isSome)), (12, .string ((aget ((ldo (lrun ahead) o).2) o.key).getD (⟨#[]⟩ : ByteArray))), (11, .slice ad59 ((lst ((ldo (lrun ahead) o).2)).length) c60), (10, .pointer (some ⟨b53, 0, none⟩)), (9, .bool ((aget (lrun ahead) o.key).isSome)), (8, .string ((aget (lrun ahead) o.key).getD (⟨#[]⟩ : ByteArray))), (7, .slice ad41 ((lst (lrun ahead)).length) c42), (3, .pointer (some ⟨b1, 0, none⟩)), (4, .bool false)] (by kernel_rfl) rfl ak0 ?_
                rcases Bool.eq_false_or_eq_true (decide ((lst (lrun ahead)) = (lst ((ldo (lrun ahead) o).2)))) with h93 | h93
                · refine GoR.setB 89 true (by decide) (by kernel_rfl) h93 ?_
                  refine GoR.call rfl rfl (by kernel_rfl) (f := 21) (args := #[]) (by kernel_rfl) Tryd.call21 (works_spec (fun w h => hLW.base h 9 rfl) hs90) ?_
                  rintro v95 w96 ⟨rfl, hs94⟩
                  refine ⟨(opn (by kernel_rfl)), ?_⟩
                  refine GoR.phaseK [(10, .gen []), (11, .gen [])] [4, 13, 12, 11, 10, 9, 8, 7, 3] [] [(4, .bool true), (13, .bool ((aget ((ldo (lrun ahead) o).2) o.key).isSome)), (12, .string ((aget ((ldo (lrun ahead) o).2) o.key).getD (⟨#[]⟩ : ByteArray))), (11, .slice ad59 ((lst ((ldo (lrun ahead) o).2)).length) c60), (10, .pointer (some ⟨b53, 0, none⟩)), (9, .bool ((aget (lrun ahead) o.key).isSome)), (8, .string ((aget (lrun ahead) o.key).getD (⟨#[]⟩ : ByteArray))), (7, .slice ad41 ((lst (lrun ahead)).length) c42), (3, .pointer (some ⟨b1, 0, none⟩))] (by kernel_rfl) rfl ak0 ?_
                  refine GoR.done (GoQ.thn (GoC.ret (GoQ.skipCR ?_)))
                  refine GoQ.done (.inl rfl) (v := .bool true) (fun a hf => results1 rfl (by kernel_rfl) a hf) ?_
                  have hr : effB (lrun ahead) o = true := by rw [effB, if_neg (ne_true_of_eq_false h84), if_pos h88, if_pos h89, if_pos h93]
                  exact ⟨congrArg Value.bool (hr.symm.trans (effB_true (lrun_inv _) o)), hs94.below 9 rfl⟩
                · refine GoR.setB 89 false (by decide) (by kernel_rfl) h93 ?_
                  refine GoR.skip rfl (by kernel_rfl) (opn (by kernel_rfl)) ?_
                  refine GoR.phaseK [(10, .gen []), (11, .gen [])] [4, 13, 12, 11, 10, 9, 8, 7, 3] [] [(4, .bool false), (13, .bool ((aget ((ldo (lrun ahead) o).2) o.key).isSome)), (12, .string ((aget ((ldo (lrun ahead) o).2) o.key).getD (⟨#[]⟩ : ByteArray))), (11, .slice ad59 ((lst ((ldo (lrun ahead) o).2)).length) c60), (10, .pointer (some ⟨b53, 0, none⟩)), (9, .bool ((aget (lrun ahead) o.key).isSome)), (8, .string ((aget (lrun ahead) o.key).getD (⟨#[]⟩ : ByteArray))), (7, .slice ad41 ((lst (lrun ahead)).length) c42), (3, .pointer (some ⟨b1, 0, none⟩))] (by kernel_rfl) rfl ak0 ?_
                  refine GoR.done (GoQ.thn (GoC.ret (GoQ.skipCR ?_)))
                  refine GoQ.done (.inl rfl) (v := .bool false) (fun a hf => results1 rfl (by kernel_rfl) a hf) ?_
                  have hr : effB (lrun ahead) o = false := by rw [effB, if_neg (ne_true_of_eq_false h84), if_pos h88, if_pos h89, if_neg (ne_true_of_eq_false h93)]
                  exact ⟨congrArg Value.bool (hr.symm.trans (effB_true (lrun_inv _) o)), hs90.below 9 rfl⟩
              · refine GoR.setB 84 false (by decide) (by kernel_rfl) h89 ?_
                have h89' : ¬ ((ldo (lrun ahead) o).1 = (⟨1, (⟨#[]⟩ : ByteArray)⟩ : RepV)) := of_decide_eq_false h89
                refine GoR.phaseK [(4, .gen []), (5, .gen [])] [86, 85, 84, 13, 12, 11, 10, 9, 8, 7, 3, 4] [] [(86, undef), (85, undef), (84, .bool false), (13, .bool ((aget ((ldo (lrun ahead) o).2) o.key).isSome)), (12, .string ((aget ((ldo (lrun ahead) o).2) o.key).getD (⟨#[]⟩ : ByteArray))), (11, .slice ad59 ((lst ((ldo (lrun ahead) o).2)).length) c60), (10, .pointer (some ⟨b53, 0, none⟩)), (9, .bool ((aget (lrun ahead) o.key).isSome)), (8, .string ((aget (lrun ahead) o.key).getD (⟨#[]⟩ : ByteArray))), (7, .slice ad41 ((lst (lrun ahead)).length) c42), (3, .pointer (some ⟨b1, 0, none⟩)), (4, .bool false)] (by kernel_rfl) rfl ak0 ?_
                refine GoR.skip rfl (by kernel_rfl) (opn (by kernel_rfl)) ?_
                refine GoR.phaseK [(7, .gen []), (8, .gen [])] [89, 13, 12, 11, 10, 9, 8, 7, 3, 4] [] [(89, .bool false), (13, .bool ((aget ((ldo (lrun ahead) o).2) o.key).isSome)), (12, .string ((aget ((ldo (lrun ahead) o).2) o.key).getD (⟨#[]⟩ : ByteArray))), (11, .slice ad59 ((lst ((ldo (lrun ahead) o).2)).length) c60), (10, .pointer (some ⟨b53, 0, none⟩)), (9, .bool ((aget (lrun ahead) o.key).isSome)), (8, .string ((aget (lrun ahead) o.key).getD (⟨#[]⟩ : ByteArray))), (7, .slice ad41 ((lst (lrun ahead)).length) c42), (3, .pointer (some ⟨b1, 0, none⟩)), (4, .bool false)] (by kernel_rfl) rfl ak0 ?_
                refine GoR.skip rfl (by kernel_rfl) (opn (by kernel_rfl)) ?_
                refine GoR.phaseK [(10, .gen []), (11, .gen [])] [4, 13, 12, 11, 10, 9, 8, 7, 3] [] [(4, .bool false), (13, .bool ((aget ((ldo (lrun ahead) o).2) o.key).isSome)), (12, .string ((aget ((ldo (lrun ahead) o).2) o.key).getD (⟨#[]⟩ : ByteArray))), (11, .slice ad59 ((lst ((ldo (lrun ahead) o).2)).length) c60), (10, .pointer (some ⟨b53, 0, none⟩)), (9, .bool ((aget (lrun ahead) o.key).isSome)), (8, .string ((aget (lrun ahead) o.key).getD (⟨#[]⟩ : ByteArray))), (7, .slice ad41 ((lst (lrun ahead)).length) c42), (3, .pointer (some ⟨b1, 0, none⟩))] (by kernel_rfl) rfl ak0 ?_
                refine GoR.done (GoQ.thn (GoC.ret (GoQ.skipCR ?_)))
                refine GoQ.done (.inl rfl) (v := .bool false) (fun a hf => results1 rfl (by kernel_rfl) a hf) ?_
                have hr : effB (lrun ahead) o = false := by rw [effB, if_neg (ne_true_of_eq_false h84), if_pos h88, if_neg (ne_true_of_eq_false h89)]
                exact ⟨congrArg Value.bool (hr.symm.trans (effB_true (lrun_inv _) o)), hs85.below 9 rfl⟩
            · have h88n : (may o) = true := notF h88
              refine GoC.skip (GoQ.thn (GoC.seq (GoC.seq ?_)))
              refine GoC.regT [3, 3] (.rd 0 (.rd 1 .done)) (by kernel_rfl) (by kernel_rfl) ?_
              refine GoR.phaseK [(0, .gen []), (1, .gen [.int .u8 o.kind])] [93, 13, 12, 11, 10, 9, 8, 7, 3, 4] [(1, [.cell ⟨b1, 0, none⟩ (.int .u8 o.kind)])] [(93, .int .u8 o.kind), (13, .bool ((aget ((ldo (lrun ahead) o).2) o.key).isSome)), (12, .string ((aget ((ldo (lrun ahead) o).2) o.key).getD (⟨#[]⟩ : ByteArray))), (11, .slice ad59 ((lst ((ldo (lrun ahead) o).2)).length) c60), (10, .pointer (some ⟨b53, 0, none⟩)), (9, .bool ((aget (lrun ahead) o.key).isSome)), (8, .string ((aget (lrun ahead) o.key).getD (⟨#[]⟩ : ByteArray))), (7, .slice ad41 ((lst (lrun ahead)).length) c42), (3, .pointer (some ⟨b1, 0, none⟩)), (4, .bool false)] (by kernel_rfl) rfl (ak (okc (hs85.cell 8 rfl (by kernel_rfl)) ok0) ak0) ?_
              refine GoR.done (GoQ.thn (GoC.block (GoC.seq ?_)))
              refine GoC.regT [3, 3] (.rd 0 (.rd 1 .done)) (by kernel_rfl) (by kernel_rfl) ?_
              refine GoR.phaseK [(0, .gen []), (1, .gen [])] [94, 93, 13, 12, 11, 10, 9, 8, 7, 3, 4] [] [(94, .bool ((o.kind : Int) == 1)), (93, .int .u8 o.kind), (13, .bool ((aget ((ldo (lrun ahead) o).2) o.key).isSome)), (12, .string ((aget ((ldo (lrun ahead) o).2) o.key).getD (⟨#[]⟩ : ByteArray))), (11, .slice ad59 ((lst ((ldo (lrun ahead) o).2)).length) c60), (10, .pointer (some ⟨b53, 0, none⟩)), (9, .bool ((aget (lrun ahead) o.key).isSome)), (8, .string ((aget (lrun ahead) o.key).getD (⟨#[]⟩ : ByteArray))), (7, .slice ad41 ((lst (lrun ahead)).length) c42), (3, .pointer (some ⟨b1, 0, none⟩)), (4, .bool false)] (by kernel_rfl) rfl ak0 ?_
              refine GoR.done (GoQ.thn ?_)
              refine GoC.cond (t := (o.kind : Int) == 1) (by kernel_rfl) (fun h97 => ?_) (fun h97 => ?_)
              · have h97' : (o.kind : Int) = 1 := ieqT h97
                refine GoC.seq ?_
                refine GoC.regT [33554431, 33554431, 33554431, 33554431, 33554431, 33554431, 33554431, 33554431, 33554431, 33554431, 33554431, 33554431, 33554431, 33554431, 33554431, 33554431, 33554431, 33554431, 33554431, 33554431, 33554431, 33554431, 33554431, 33554431, 33554431] (.rd 0 (.rd 1 (.ef 2 (.rd 3 (.rd 4 (.rd 5 (.rd 6 (.rd 7 (.rd 8 (.rd 9 (.rd 10 (.rd 11 (.rd 12 (.rd 13 (.rd 14 (.rd 15 (.rd 16 (.rd 17 (.rd 18 (.rd 19 (.rd 20 (.rd 21 (.ef 22 (.rd 23 (.rd 24 .done))))))))))))))))))))))))) (by kernel_rfl) (by kernel_rfl) ?_
                refine GoR.phaseK [(0, .gen []), (1, .gen [])] [97, 96, 10, 9, 8, 4] [] [(97, .slice ad59 ((lst ((ldo (lrun ahead) o).2)).length) c60), (96, .slice ad41 ((lst (lrun ahead)).length) c42), (10, .pointer (some ⟨b53, 0, none⟩)), (9, .bool ((aget (lrun ahead) o.key).isSome)), (8, .string ((aget (lrun ahead) o.key).getD (⟨#[]⟩ : ByteArray))), (4, .bool false)] (by kernel_rfl) rfl ak0 ?_
                refine GoR.call rfl rfl (by kernel_rfl) (f := 25) (args := #[.slice ad41 ((lst (lrun ahead)).length) c42, .slice ad59 ((lst ((ldo (lrun ahead) o).2)).length) c60]) (by kernel_rfl) Tryd.call25 (same_spec (lst (lrun ahead)) (lst ((ldo (lrun ahead) o).2)) (by rw [lst_length]; exact Nat.le_trans (lrun_inv _).len (by decide)) (by rw [lst_length]; exact Nat.le_trans (ldo_inv _ (lrun_inv _)).len (by decide)) (fun w h => h.rows 6 rfl (itemF).size _) (fun w h => h.rows 4 rfl (itemF).size _) hs85) ?_
                rintro v99 w100 ⟨rfl, hs98⟩
                refine ⟨(opn (by kernel_rfl)), ?_⟩
                refine GoR.phaseK [(3, .gen [])] [99, 10, 9, 8, 4] [] [(99, .bool (decide ((lst (lrun ahead)) = (lst ((ldo (lrun ahead) o).2))))), (10, .pointer (some ⟨b53, 0, none⟩)), (9, .bool ((aget (lrun ahead) o.key).isSome)), (8, .string ((aget (lrun ahead) o.key).getD (⟨#[]⟩ : ByteArray))), (4, .bool false)] (by kernel_rfl) rfl ak0 ?_
                rcases Bool.eq_false_or_eq_true (decide ((lst (lrun ahead)) = (lst ((ldo (lrun ahead) o).2)))) with h101 | h101
                · refine GoR.setB 99 true (by decide) (by kernel_rfl) h101 ?_
                  refine GoR.phaseK [(4, .gen []), (5, .gen [])] [101, 99, 10, 9, 8, 4] [] [(101, .bool ((aget (lrun ahead) o.key).isSome)), (99, .bool true), (10, .pointer (some ⟨b53, 0, none⟩)), (9, .bool ((aget (lrun ahead) o.key).isSome)), (8, .string ((aget (lrun ahead) o.key).getD (⟨#[]⟩ : ByteArray))), (4, .bool false)] (by kernel_rfl) rfl ak0 ?_
                  rcases Bool.eq_false_or_eq_true ((aget (lrun ahead) o.key).isSome) with h102 | h102
                  · refine GoR.setB 101 true (by decide) (by kernel_rfl) h102 ?_
                    refine GoR.phaseK [(6, .agg (RepV.cells ((ldo (lrun ahead) o).1))), (7, .gen []), (8, .gen [])] [104, 102, 101, 99, 10, 9, 4] [(6, [.prop (Array.size (RepV.cells ((ldo (lrun ahead) o).1)) = 2), .cells ⟨b53, 0, none⟩ (RepV.cells ((ldo (lrun ahead) o).1))])] [(104, .agg #[.int .i64 0, .string ((aget (lrun ahead) o.key).getD (⟨#[]⟩ : ByteArray))]), (102, .agg (RepV.cells ((ldo (lrun ahead) o).1))), (101, .bool true), (99, .bool true), (10, .pointer (some ⟨b53, 0, none⟩)), (9, .bool ((aget (lrun ahead) o.key).isSome)), (4, .bool false)] (by kernel_rfl) rfl (ak (okp (by kernel_rfl) (oka (hs98.cells 5 0 rfl (by kernel_rfl)) ok0)) ak0) ?_
                    refine GoR.eqAgg rfl (by kernel_rfl) (b := true) (t := 34) (xs := RepV.cells ((ldo (lrun ahead) o).1)) (ys := RepV.cells (⟨0, (aget (lrun ahead) o.key).getD (⟨#[]⟩ : ByteArray)⟩ : RepV)) (m := 2) (by kernel_rfl) (by kernel_rfl) (by decide) (by kernel_rfl) (r := decide ((ldo (lrun ahead) o).1 = (⟨0, (aget (lrun ahead) o.key).getD (⟨#[]⟩ : ByteArray)⟩ : RepV))) (aggEq  (repEq ((ldo (lrun ahead) o).1) (⟨0, (aget (lrun ahead) o.key).getD (⟨#[]⟩ : ByteArray)⟩ : RepV))) ?_
                    refine GoR.phaseK [(10, .gen []), (11, .gen [])] [107, 99, 10, 9, 4] [] [(107, .bool (decide ((ldo (lrun ahead) o).1 = (⟨0, (aget (lrun ahead) o.key).getD (⟨#[]⟩ : ByteArray)⟩ : RepV)))), (99, .bool true), (10, .pointer (some ⟨b53, 0, none⟩)), (9, .bool ((aget (lrun ahead) o.key).isSome)), (4, .bool false)] (by kernel_rfl) rfl ak0 ?_
                    rcases Bool.eq_false_or_eq_true (decide ((ldo (lrun ahead) o).1 = (⟨0, (aget (lrun ahead) o.key).getD (⟨#[]⟩ : ByteArray)⟩ : RepV))) with h103 | h103
                    · refine GoR.setB 107 true (by decide) (by kernel_rfl) h103 ?_
                      have h103' : (ldo (lrun ahead) o).1 = (⟨0, (aget (lrun ahead) o.key).getD (⟨#[]⟩ : ByteArray)⟩ : RepV) := of_decide_eq_true h103
                      refine GoR.phaseK [(12, .gen []), (13, .gen []), (14, .gen []), (15, .gen []), (16, .gen []), (17, .gen []), (18, .gen []), (19, .gen []), (20, .gen []), (21, .gen [])] [117, 4] [] [(117, .bool true), (4, .bool false)] (by kernel_rfl) rfl ak0 ?_
                      refine GoR.call rfl rfl (by kernel_rfl) (f := 21) (args := #[]) (by kernel_rfl) Tryd.call21 (works_spec (fun w h => hLW.base h 9 rfl) hs98) ?_
                      rintro v105 w106 ⟨rfl, hs104⟩
                      refine ⟨(opn (by kernel_rfl)), ?_⟩
                      refine GoR.phaseK [(23, .gen []), (24, .gen [])] [4] [] [(4, .bool true)] (by kernel_rfl) rfl ak0 ?_
                      refine GoR.done (GoQ.thn (GoC.ret (GoQ.blkR (GoQ.skipCR ?_))))
                      refine GoQ.done (.inl rfl) (v := .bool true) (fun a hf => results1 rfl (by kernel_rfl) a hf) ?_
                      have hr : effB (lrun ahead) o = true := by rw [effB, if_neg (ne_true_of_eq_false h84), if_neg (ne_true_of_eq_false h88), if_pos h97, if_pos h101, if_pos h102, if_pos h103]
                      exact ⟨congrArg Value.bool (hr.symm.trans (effB_true (lrun_inv _) o)), hs104.below 9 rfl⟩
                    · refine GoR.setB 107 false (by decide) (by kernel_rfl) h103 ?_
                      have h103' : ¬ ((ldo (lrun ahead) o).1 = (⟨0, (aget (lrun ahead) o.key).getD (⟨#[]⟩ : ByteArray)⟩ : RepV)) := of_decide_eq_false h103
                      refine GoR.phaseK [(12, .gen []), (13, .gen []), (14, .gen [])] [110, 107, 99, 10, 4] [] [(110, .bool (!((aget (lrun ahead) o.key).isSome))), (107, .bool false), (99, .bool true), (10, .pointer (some ⟨b53, 0, none⟩)), (4, .bool false)] (by kernel_rfl) rfl ak0 ?_
                      rcases Bool.eq_false_or_eq_true (!((aget (lrun ahead) o.key).isSome)) with h107 | h107
                      · refine GoR.setB 110 true (by decide) (by kernel_rfl) h107 ?_
                        have h107n : ((aget (lrun ahead) o.key).isSome) = false := notT h107
                        refine GoR.phaseK [(15, .agg (RepV.cells ((ldo (lrun ahead) o).1))), (16, .gen [])] [112, 111, 110, 107, 99, 4] [(15, [.prop (Array.size (RepV.cells ((ldo (lrun ahead) o).1)) = 2), .cells ⟨b53, 0, none⟩ (RepV.cells ((ldo (lrun ahead) o).1))])] [(112, .agg #[.int .i64 4, .string (⟨#[]⟩ : ByteArray)]), (111, .agg (RepV.cells ((ldo (lrun ahead) o).1))), (110, .bool true), (107, .bool false), (99, .bool true), (4, .bool false)] (by kernel_rfl) rfl (ak (okp (by kernel_rfl) (oka (hs98.cells 5 0 rfl (by kernel_rfl)) ok0)) ak0) ?_
                        refine GoR.eqAgg rfl (by kernel_rfl) (b := true) (t := 34) (xs := RepV.cells ((ldo (lrun ahead) o).1)) (ys := RepV.cells (⟨4, (⟨#[]⟩ : ByteArray)⟩ : RepV)) (m := 2) (by kernel_rfl) (by kernel_rfl) (by decide) (by kernel_rfl) (r := decide ((ldo (lrun ahead) o).1 = (⟨4, (⟨#[]⟩ : ByteArray)⟩ : RepV))) (aggEq  (repEq ((ldo (lrun ahead) o).1) (⟨4, (⟨#[]⟩ : ByteArray)⟩ : RepV))) ?_
                        refine GoR.phaseK [(18, .gen []), (19, .gen []), (20, .gen []), (21, .gen [])] [117, 4] [] [(117, .bool (decide ((ldo (lrun ahead) o).1 = (⟨4, (⟨#[]⟩ : ByteArray)⟩ : RepV)))), (4, .bool false)] (by kernel_rfl) rfl ak0 ?_
                        rcases Bool.eq_false_or_eq_true (decide ((ldo (lrun ahead) o).1 = (⟨4, (⟨#[]⟩ : ByteArray)⟩ : RepV))) with h108 | h108
                        · refine GoR.setB 117 true (by decide) (by kernel_rfl) h108 ?_
                          have h108' : (ldo (lrun ahead) o).1 = (⟨4, (⟨#[]⟩ : ByteArray)⟩ : RepV) := of_decide_eq_true h108
                          refine GoR.call rfl rfl (by kernel_rfl) (f := 21) (args := #[]) (by kernel_rfl) Tryd.call21 (works_spec (fun w h => hLW.base h 9 rfl) hs98) ?_
                          rintro v110 w111 ⟨rfl, hs109⟩
                          refine ⟨(opn (by kernel_rfl)), ?_⟩
                          refine GoR.phaseK [(23, .gen []), (24, .gen [])] [4] [] [(4, .bool true)] (by kernel_rfl) rfl ak0 ?_
                          refine GoR.done (GoQ.thn (GoC.ret (GoQ.blkR (GoQ.skipCR ?_))))
                          refine GoQ.done (.inl rfl) (v := .bool true) (fun a hf => results1 rfl (by kernel_rfl) a hf) ?_
                          have hr : effB (lrun ahead) o = true := by rw [effB, if_neg (ne_true_of_eq_false h84), if_neg (ne_true_of_eq_false h88), if_pos h97, if_pos h101, if_pos h102, if_neg (ne_true_of_eq_false h103), if_pos h107, if_pos h108]
                          exact ⟨congrArg Value.bool (hr.symm.trans (effB_true (lrun_inv _) o)), hs109.below 9 rfl⟩
                        · refine GoR.setB 117 false (by decide) (by kernel_rfl) h108 ?_
                          have h108' : ¬ ((ldo (lrun ahead) o).1 = (⟨4, (⟨#[]⟩ : ByteArray)⟩ : RepV)) := of_decide_eq_false h108
                          refine GoR.skip rfl (by kernel_rfl) (opn (by kernel_rfl)) ?_
                          refine GoR.phaseK [(23, .gen []), (24, .gen [])] [4] [] [(4, .bool false)] (by kernel_rfl) rfl ak0 ?_
                          refine GoR.done (GoQ.thn (GoC.ret (GoQ.blkR (GoQ.skipCR ?_))))
                          refine GoQ.done (.inl rfl) (v := .bool false) (fun a hf => results1 rfl (by kernel_rfl) a hf) ?_
                          have hr : effB (lrun ahead) o = false := by rw [effB, if_neg (ne_true_of_eq_false h84), if_neg (ne_true_of_eq_false h88), if_pos h97, if_pos h101, if_pos h102, if_neg (ne_true_of_eq_false h103), if_pos h107, if_neg (ne_true_of_eq_false h108)]
                          exact ⟨congrArg Value.bool (hr.symm.trans (effB_true (lrun_inv _) o)), hs98.below 9 rfl⟩
                      · refine GoR.setB 110 false (by decide) (by kernel_rfl) h107 ?_
                        have h107n : ((aget (lrun ahead) o.key).isSome) = true := notF h107
                        refine GoR.phaseK [(15, .gen []), (16, .gen []), (17, .gen []), (18, .gen []), (19, .gen []), (20, .gen []), (21, .gen [])] [117, 4] [] [(117, .bool false), (4, .bool false)] (by kernel_rfl) rfl ak0 ?_
                        refine GoR.skip rfl (by kernel_rfl) (opn (by kernel_rfl)) ?_
                        refine GoR.phaseK [(23, .gen []), (24, .gen [])] [4] [] [(4, .bool false)] (by kernel_rfl) rfl ak0 ?_
                        refine GoR.done (GoQ.thn (GoC.ret (GoQ.blkR (GoQ.skipCR ?_))))
                        refine GoQ.done (.inl rfl) (v := .bool false) (fun a hf => results1 rfl (by kernel_rfl) a hf) ?_
                        have hr : effB (lrun ahead) o = false := by rw [effB, if_neg (ne_true_of_eq_false h84), if_neg (ne_true_of_eq_false h88), if_pos h97, if_pos h101, if_pos h102, if_neg (ne_true_of_eq_false h103), if_neg (ne_true_of_eq_false h107)]
                        exact ⟨congrArg Value.bool (hr.symm.trans (effB_true (lrun_inv _) o)), hs98.below 9 rfl⟩
                  · refine GoR.setB 101 false (by decide) (by kernel_rfl) h102 ?_
                    refine GoR.phaseK [(6, .gen []), (7, .gen []), (8, .gen []), (9, .gen []), (10, .gen []), (11, .gen []), (12, .gen []), (13, .gen []), (14, .gen [])] [110, 107, 99, 10, 4] [] [(110, .bool (!((aget (lrun ahead) o.key).isSome))), (107, .bool false), (99, .bool true), (10, .pointer (some ⟨b53, 0, none⟩)), (4, .bool false)] (by kernel_rfl) rfl ak0 ?_
                    rcases Bool.eq_false_or_eq_true (!((aget (lrun ahead) o.key).isSome)) with h112 | h112
                    · refine GoR.setB 110 true (by decide) (by kernel_rfl) h112 ?_
                      have h112n : ((aget (lrun ahead) o.key).isSome) = false := notT h112
                      refine GoR.phaseK [(15, .agg (RepV.cells ((ldo (lrun ahead) o).1))), (16, .gen [])] [112, 111, 110, 107, 99, 4] [(15, [.prop (Array.size (RepV.cells ((ldo (lrun ahead) o).1)) = 2), .cells ⟨b53, 0, none⟩ (RepV.cells ((ldo (lrun ahead) o).1))])] [(112, .agg #[.int .i64 4, .string (⟨#[]⟩ : ByteArray)]), (111, .agg (RepV.cells ((ldo (lrun ahead) o).1))), (110, .bool true), (107, .bool false), (99, .bool true), (4, .bool false)] (by kernel_rfl) rfl (ak (okp (by kernel_rfl) (oka (hs98.cells 5 0 rfl (by kernel_rfl)) ok0)) ak0) ?_
                      refine GoR.eqAgg rfl (by kernel_rfl) (b := true) (t := 34) (xs := RepV.cells ((ldo (lrun ahead) o).1)) (ys := RepV.cells (⟨4, (⟨#[]⟩ : ByteArray)⟩ : RepV)) (m := 2) (by kernel_rfl) (by kernel_rfl) (by decide) (by kernel_rfl) (r := decide ((ldo (lrun ahead) o).1 = (⟨4, (⟨#[]⟩ : ByteArray)⟩ : RepV))) (aggEq  (repEq ((ldo (lrun ahead) o).1) (⟨4, (⟨#[]⟩ : ByteArray)⟩ : RepV))) ?_
                      refine GoR.phaseK [(18, .gen []), (19, .gen []), (20, .gen []), (21, .gen [])] [117, 4] [] [(117, .bool (decide ((ldo (lrun ahead) o).1 = (⟨4, (⟨#[]⟩ : ByteArray)⟩ : RepV)))), (4, .bool false)] (by kernel_rfl) rfl ak0 ?_
                      rcases Bool.eq_false_or_eq_true (decide ((ldo (lrun ahead) o).1 = (⟨4, (⟨#[]⟩ : ByteArray)⟩ : RepV))) with h113 | h113
                      · refine GoR.setB 117 true (by decide) (by kernel_rfl) h113 ?_
                        have h113' : (ldo (lrun ahead) o).1 = (⟨4, (⟨#[]⟩ : ByteArray)⟩ : RepV) := of_decide_eq_true h113
                        refine GoR.call rfl rfl (by kernel_rfl) (f := 21) (args := #[]) (by kernel_rfl) Tryd.call21 (works_spec (fun w h => hLW.base h 9 rfl) hs98) ?_
                        rintro v115 w116 ⟨rfl, hs114⟩
                        refine ⟨(opn (by kernel_rfl)), ?_⟩
                        refine GoR.phaseK [(23, .gen []), (24, .gen [])] [4] [] [(4, .bool true)] (by kernel_rfl) rfl ak0 ?_
                        refine GoR.done (GoQ.thn (GoC.ret (GoQ.blkR (GoQ.skipCR ?_))))
                        refine GoQ.done (.inl rfl) (v := .bool true) (fun a hf => results1 rfl (by kernel_rfl) a hf) ?_
                        have hr : effB (lrun ahead) o = true := by rw [effB, if_neg (ne_true_of_eq_false h84), if_neg (ne_true_of_eq_false h88), if_pos h97, if_pos h101, if_neg (ne_true_of_eq_false h102), if_pos h112, if_pos h113]
                        exact ⟨congrArg Value.bool (hr.symm.trans (effB_true (lrun_inv _) o)), hs114.below 9 rfl⟩
                      · refine GoR.setB 117 false (by decide) (by kernel_rfl) h113 ?_
                        have h113' : ¬ ((ldo (lrun ahead) o).1 = (⟨4, (⟨#[]⟩ : ByteArray)⟩ : RepV)) := of_decide_eq_false h113
                        refine GoR.skip rfl (by kernel_rfl) (opn (by kernel_rfl)) ?_
                        refine GoR.phaseK [(23, .gen []), (24, .gen [])] [4] [] [(4, .bool false)] (by kernel_rfl) rfl ak0 ?_
                        refine GoR.done (GoQ.thn (GoC.ret (GoQ.blkR (GoQ.skipCR ?_))))
                        refine GoQ.done (.inl rfl) (v := .bool false) (fun a hf => results1 rfl (by kernel_rfl) a hf) ?_
                        have hr : effB (lrun ahead) o = false := by rw [effB, if_neg (ne_true_of_eq_false h84), if_neg (ne_true_of_eq_false h88), if_pos h97, if_pos h101, if_neg (ne_true_of_eq_false h102), if_pos h112, if_neg (ne_true_of_eq_false h113)]
                        exact ⟨congrArg Value.bool (hr.symm.trans (effB_true (lrun_inv _) o)), hs98.below 9 rfl⟩
                    · refine GoR.setB 110 false (by decide) (by kernel_rfl) h112 ?_
                      have h112n : ((aget (lrun ahead) o.key).isSome) = true := notF h112
                      refine GoR.phaseK [(15, .gen []), (16, .gen []), (17, .gen []), (18, .gen []), (19, .gen []), (20, .gen []), (21, .gen [])] [117, 4] [] [(117, .bool false), (4, .bool false)] (by kernel_rfl) rfl ak0 ?_
                      refine GoR.skip rfl (by kernel_rfl) (opn (by kernel_rfl)) ?_
                      refine GoR.phaseK [(23, .gen []), (24, .gen [])] [4] [] [(4, .bool false)] (by kernel_rfl) rfl ak0 ?_
                      refine GoR.done (GoQ.thn (GoC.ret (GoQ.blkR (GoQ.skipCR ?_))))
                      refine GoQ.done (.inl rfl) (v := .bool false) (fun a hf => results1 rfl (by kernel_rfl) a hf) ?_
                      have hr : effB (lrun ahead) o = false := by rw [effB, if_neg (ne_true_of_eq_false h84), if_neg (ne_true_of_eq_false h88), if_pos h97, if_pos h101, if_neg (ne_true_of_eq_false h102), if_neg (ne_true_of_eq_false h112)]
                      exact ⟨congrArg Value.bool (hr.symm.trans (effB_true (lrun_inv _) o)), hs98.below 9 rfl⟩
                · refine GoR.setB 99 false (by decide) (by kernel_rfl) h101 ?_
                  refine GoR.phaseK [(4, .gen []), (5, .gen []), (6, .gen []), (7, .gen []), (8, .gen []), (9, .gen []), (10, .gen []), (11, .gen []), (12, .gen []), (13, .gen []), (14, .gen []), (15, .gen []), (16, .gen []), (17, .gen []), (18, .gen []), (19, .gen []), (20, .gen []), (21, .gen [])] [117, 4] [] [(117, .bool false), (4, .bool false)] (by kernel_rfl) rfl ak0 ?_
                  refine GoR.skip rfl (by kernel_rfl) (opn (by kernel_rfl)) ?_
                  refine GoR.phaseK [(23, .gen []), (24, .gen [])] [4] [] [(4, .bool false)] (by kernel_rfl) rfl ak0 ?_
                  refine GoR.done (GoQ.thn (GoC.ret (GoQ.blkR (GoQ.skipCR ?_))))
                  refine GoQ.done (.inl rfl) (v := .bool false) (fun a hf => results1 rfl (by kernel_rfl) a hf) ?_
                  have hr : effB (lrun ahead) o = false := by rw [effB, if_neg (ne_true_of_eq_false h84), if_neg (ne_true_of_eq_false h88), if_pos h97, if_neg (ne_true_of_eq_false h101)]
                  exact ⟨congrArg Value.bool (hr.symm.trans (effB_true (lrun_inv _) o)), hs98.below 9 rfl⟩
              · have h97' : ¬ ((o.kind : Int) = 1) := ieqF h97
                refine GoC.seq ?_
                refine GoC.regT [3, 3] (.rd 0 (.rd 1 .done)) (by kernel_rfl) (by kernel_rfl) ?_
                refine GoR.phaseK [(0, .gen []), (1, .gen [])] [120, 93, 13, 12, 11, 10, 9, 8, 7, 3, 4] [] [(120, .bool ((o.kind : Int) == 2)), (93, .int .u8 o.kind), (13, .bool ((aget ((ldo (lrun ahead) o).2) o.key).isSome)), (12, .string ((aget ((ldo (lrun ahead) o).2) o.key).getD (⟨#[]⟩ : ByteArray))), (11, .slice ad59 ((lst ((ldo (lrun ahead) o).2)).length) c60), (10, .pointer (some ⟨b53, 0, none⟩)), (9, .bool ((aget (lrun ahead) o.key).isSome)), (8, .string ((aget (lrun ahead) o.key).getD (⟨#[]⟩ : ByteArray))), (7, .slice ad41 ((lst (lrun ahead)).length) c42), (3, .pointer (some ⟨b1, 0, none⟩)), (4, .bool false)] (by kernel_rfl) rfl ak0 ?_
                refine GoR.done (GoQ.thn ?_)
                refine GoC.cond (t := (o.kind : Int) == 2) (by kernel_rfl) (fun h117 => ?_) (fun h117 => ?_)
                · have h117' : (o.kind : Int) = 2 := ieqT h117
                  refine GoC.seq ?_
                  refine GoC.join (T := Unit) (E := fun _ => [(14, .bool ((!((aget (lrun ahead) o.key).isSome)) && (decide ((((lst (lrun ahead)).length : Nat) : Int) ≥ 64)))), (13, .bool ((aget ((ldo (lrun ahead) o).2) o.key).isSome)), (12, .string ((aget ((ldo (lrun ahead) o).2) o.key).getD (⟨#[]⟩ : ByteArray))), (10, .pointer (some ⟨b53, 0, none⟩)), (3, .pointer (some ⟨b1, 0, none⟩)), (4, .bool false)]) (F := fun _ w => St W ((Sl ado76 co77 61 2 ItemV.cells ((lst ((ldo (lrun ahead) o).2)).filter (oth o.key o.dest))) :: (Sl ado71 co72 61 2 ItemV.cells ((lst (lrun ahead)).filter (oth o.key o.dest))) :: (Cel p27 #[.map (some r28)] 89) :: (MapA Value.string Value.string r28 ((ldo (lrun ahead) o).2)) :: (Sl ad59 c60 61 2 ItemV.cells (lst ((ldo (lrun ahead) o).2))) :: (Cel b53 (RepV.cells ((ldo (lrun ahead) o).1)) 34) :: (Sl ad41 c42 61 2 ItemV.cells (lst (lrun ahead))) :: (Sl (some ⟨b11, 0, none⟩) 1 24 6 OpV.cells ([(o : OpV)])) :: (Cel b1 (OpV.cells o) 24) :: (Base W) :: []) w) ?_ ?_
                  · refine GoC.regT [255, 255, 255, 255, 255, 255, 255, 255] (.rd 0 (.rd 1 (.rd 2 (.rd 3 (.rd 4 (.rd 5 (.rd 6 (.rd 7 .done)))))))) (by kernel_rfl) (by kernel_rfl) ?_
                    refine GoR.phaseK [(0, .gen []), (1, .gen []), (2, .gen [])] [124, 13, 12, 10, 7, 3, 4] [] [(124, .bool (!((aget (lrun ahead) o.key).isSome))), (13, .bool ((aget ((ldo (lrun ahead) o).2) o.key).isSome)), (12, .string ((aget ((ldo (lrun ahead) o).2) o.key).getD (⟨#[]⟩ : ByteArray))), (10, .pointer (some ⟨b53, 0, none⟩)), (7, .slice ad41 ((lst (lrun ahead)).length) c42), (3, .pointer (some ⟨b1, 0, none⟩)), (4, .bool false)] (by kernel_rfl) rfl ak0 ?_
                    rcases Bool.eq_false_or_eq_true (!((aget (lrun ahead) o.key).isSome)) with h118 | h118
                    · refine GoR.setB 124 true (by decide) (by kernel_rfl) h118 ?_
                      have h118n : ((aget (lrun ahead) o.key).isSome) = false := notT h118
                      refine GoR.phaseK [(3, .gen []), (4, .gen []), (5, .gen []), (6, .gen []), (7, .gen [])] [14, 13, 12, 10, 3, 4] [] [(14, .bool (decide ((((lst (lrun ahead)).length : Nat) : Int) ≥ 64))), (13, .bool ((aget ((ldo (lrun ahead) o).2) o.key).isSome)), (12, .string ((aget ((ldo (lrun ahead) o).2) o.key).getD (⟨#[]⟩ : ByteArray))), (10, .pointer (some ⟨b53, 0, none⟩)), (3, .pointer (some ⟨b1, 0, none⟩)), (4, .bool false)] (by kernel_rfl) rfl ak0 ?_
                      refine GoR.done ?_
                      refine GoQ.pick [14, 13, 12, 10, 3, 4] (S' := [(14, .bool (decide ((((lst (lrun ahead)).length : Nat) : Int) ≥ 64))), (13, .bool ((aget ((ldo (lrun ahead) o).2) o.key).isSome)), (12, .string ((aget ((ldo (lrun ahead) o).2) o.key).getD (⟨#[]⟩ : ByteArray))), (10, .pointer (some ⟨b53, 0, none⟩)), (3, .pointer (some ⟨b1, 0, none⟩)), (4, .bool false)]) (by kernel_rfl) ?_
                      exact GoQ.meet1 () (by first | rfl | (simp only [h7, h19, h118, Bool.true_or, Bool.false_or, Bool.true_and, Bool.false_and, Bool.or_true, Bool.or_false, Bool.and_true, Bool.and_false]; done) | (simp [h7, h19, h118]; done)) hs85
                    · refine GoR.setB 124 false (by decide) (by kernel_rfl) h118 ?_
                      have h118n : ((aget (lrun ahead) o.key).isSome) = true := notF h118
                      refine GoR.phaseK [(3, .gen []), (4, .gen []), (5, .gen []), (6, .gen []), (7, .gen [])] [14, 13, 12, 10, 3, 4] [] [(14, .bool false), (13, .bool ((aget ((ldo (lrun ahead) o).2) o.key).isSome)), (12, .string ((aget ((ldo (lrun ahead) o).2) o.key).getD (⟨#[]⟩ : ByteArray))), (10, .pointer (some ⟨b53, 0, none⟩)), (3, .pointer (some ⟨b1, 0, none⟩)), (4, .bool false)] (by kernel_rfl) rfl ak0 ?_
                      refine GoR.done ?_
                      refine GoQ.pick [14, 13, 12, 10, 3, 4] (S' := [(14, .bool false), (13, .bool ((aget ((ldo (lrun ahead) o).2) o.key).isSome)), (12, .string ((aget ((ldo (lrun ahead) o).2) o.key).getD (⟨#[]⟩ : ByteArray))), (10, .pointer (some ⟨b53, 0, none⟩)), (3, .pointer (some ⟨b1, 0, none⟩)), (4, .bool false)]) (by kernel_rfl) ?_
                      exact GoQ.meet1 () (by first | rfl | (simp only [h7, h19, h118, Bool.true_or, Bool.false_or, Bool.true_and, Bool.false_and, Bool.or_true, Bool.or_false, Bool.and_true, Bool.and_false]; done) | (simp [h7, h19, h118]; done)) hs85
                  intro _ w119 hs120
                  refine GoQ.thn (GoC.seq ?_)
                  refine GoC.regT [268435455, 268435455, 268435455, 268435455, 268435455, 268435455, 268435455, 268435455, 268435455, 268435455, 268435455, 268435455, 268435455, 268435455, 268435455, 268435455, 268435455, 268435455, 268435455, 268435455, 268435455, 268435455, 268435455, 268435455, 268435455, 268435455, 268435455, 268435455] (.rd 0 (.rd 1 (.rd 2 (.rd 3 (.rd 4 (.rd 5 (.rd 6 (.rd 7 (.rd 8 (.rd 9 (.rd 10 (.rd 11 (.rd 12 (.rd 13 (.rd 14 (.rd 15 (.rd 16 (.rd 17 (.rd 18 (.rd 19 (.rd 20 (.rd 21 (.rd 22 (.rd 23 (.rd 24 (.ef 25 (.rd 26 (.rd 27 .done)))))))))))))))))))))))))))) (by kernel_rfl) (by kernel_rfl) ?_
                  refine GoR.phaseK [(0, .gen []), (1, .gen [])] [130, 14, 13, 12, 10, 3, 4] [] [(130, .bool ((!((aget (lrun ahead) o.key).isSome)) && (decide ((((lst (lrun ahead)).length : Nat) : Int) ≥ 64)))), (14, .bool ((!((aget (lrun ahead) o.key).isSome)) && (decide ((((lst (lrun ahead)).length : Nat) : Int) ≥ 64)))), (13, .bool ((aget ((ldo (lrun ahead) o).2) o.key).isSome)), (12, .string ((aget ((ldo (lrun ahead) o).2) o.key).getD (⟨#[]⟩ : ByteArray))), (10, .pointer (some ⟨b53, 0, none⟩)), (3, .pointer (some ⟨b1, 0, none⟩)), (4, .bool false)] (by kernel_rfl) rfl ak0 ?_
                  rcases Bool.eq_false_or_eq_true ((!((aget (lrun ahead) o.key).isSome)) && (decide ((((lst (lrun ahead)).length : Nat) : Int) ≥ 64))) with h121 | h121
                  · refine GoR.setB 130 true (by decide) (by kernel_rfl) h121 ?_
                    have h121a : (!((aget (lrun ahead) o.key).isSome)) = true := (Bool.and_eq_true_iff.1 h121).1
                    have h121an : ((aget (lrun ahead) o.key).isSome) = false := notT h121a
                    have h121b : (decide ((((lst (lrun ahead)).length : Nat) : Int) ≥ 64)) = true := (Bool.and_eq_true_iff.1 h121).2
                    have h121b' : (((lst (lrun ahead)).length : Nat) : Int) ≥ 64 := of_decide_eq_true h121b
                    refine GoR.phaseK [(2, .agg (RepV.cells ((ldo (lrun ahead) o).1))), (3, .gen [])] [132, 131, 130, 14, 13, 12, 10, 3, 4] [(2, [.prop (Array.size (RepV.cells ((ldo (lrun ahead) o).1)) = 2), .cells ⟨b53, 0, none⟩ (RepV.cells ((ldo (lrun ahead) o).1))])] [(132, .agg #[.int .i64 7, .string (⟨#[]⟩ : ByteArray)]), (131, .agg (RepV.cells ((ldo (lrun ahead) o).1))), (130, .bool true), (14, .bool ((!((aget (lrun ahead) o.key).isSome)) && (decide ((((lst (lrun ahead)).length : Nat) : Int) ≥ 64)))), (13, .bool ((aget ((ldo (lrun ahead) o).2) o.key).isSome)), (12, .string ((aget ((ldo (lrun ahead) o).2) o.key).getD (⟨#[]⟩ : ByteArray))), (10, .pointer (some ⟨b53, 0, none⟩)), (3, .pointer (some ⟨b1, 0, none⟩)), (4, .bool false)] (by kernel_rfl) rfl (ak (okp (by kernel_rfl) (oka (hs120.cells 5 0 rfl (by kernel_rfl)) ok0)) ak0) ?_
                    refine GoR.eqAgg rfl (by kernel_rfl) (b := true) (t := 34) (xs := RepV.cells ((ldo (lrun ahead) o).1)) (ys := RepV.cells (⟨7, (⟨#[]⟩ : ByteArray)⟩ : RepV)) (m := 2) (by kernel_rfl) (by kernel_rfl) (by decide) (by kernel_rfl) (r := decide ((ldo (lrun ahead) o).1 = (⟨7, (⟨#[]⟩ : ByteArray)⟩ : RepV))) (aggEq  (repEq ((ldo (lrun ahead) o).1) (⟨7, (⟨#[]⟩ : ByteArray)⟩ : RepV))) ?_
                    refine GoR.phaseK [(5, .gen []), (6, .gen [])] [135, 14, 13, 12, 10, 3, 4] [] [(135, .bool (decide ((ldo (lrun ahead) o).1 = (⟨7, (⟨#[]⟩ : ByteArray)⟩ : RepV)))), (14, .bool ((!((aget (lrun ahead) o.key).isSome)) && (decide ((((lst (lrun ahead)).length : Nat) : Int) ≥ 64)))), (13, .bool ((aget ((ldo (lrun ahead) o).2) o.key).isSome)), (12, .string ((aget ((ldo (lrun ahead) o).2) o.key).getD (⟨#[]⟩ : ByteArray))), (10, .pointer (some ⟨b53, 0, none⟩)), (3, .pointer (some ⟨b1, 0, none⟩)), (4, .bool false)] (by kernel_rfl) rfl ak0 ?_
                    rcases Bool.eq_false_or_eq_true (decide ((ldo (lrun ahead) o).1 = (⟨7, (⟨#[]⟩ : ByteArray)⟩ : RepV))) with h122 | h122
                    · refine GoR.setB 135 true (by decide) (by kernel_rfl) h122 ?_
                      have h122' : (ldo (lrun ahead) o).1 = (⟨7, (⟨#[]⟩ : ByteArray)⟩ : RepV) := of_decide_eq_true h122
                      refine GoR.phaseK [(7, .gen []), (8, .gen []), (9, .gen []), (10, .gen []), (11, .gen []), (12, .gen []), (13, .gen []), (14, .gen []), (15, .gen []), (16, .gen []), (17, .gen []), (18, .gen []), (19, .gen []), (20, .gen []), (21, .gen []), (22, .gen []), (23, .gen []), (24, .gen [])] [153, 4] [] [(153, .bool true), (4, .bool false)] (by kernel_rfl) rfl ak0 ?_
                      refine GoR.call rfl rfl (by kernel_rfl) (f := 21) (args := #[]) (by kernel_rfl) Tryd.call21 (works_spec (fun w h => hLW.base h 9 rfl) hs120) ?_
                      rintro v124 w125 ⟨rfl, hs123⟩
                      refine ⟨(opn (by kernel_rfl)), ?_⟩
                      refine GoR.phaseK [(26, .gen []), (27, .gen [])] [4] [] [(4, .bool true)] (by kernel_rfl) rfl ak0 ?_
                      refine GoR.done (GoQ.thn (GoC.ret (GoQ.blkR (GoQ.skipCR ?_))))
                      refine GoQ.done (.inl rfl) (v := .bool true) (fun a hf => results1 rfl (by kernel_rfl) a hf) ?_
                      have hr : effB (lrun ahead) o = true := by rw [effB, if_neg (ne_true_of_eq_false h84), if_neg (ne_true_of_eq_false h88), if_neg (ne_true_of_eq_false h97), if_pos h117, if_pos h121, if_pos h122]
                      exact ⟨congrArg Value.bool (hr.symm.trans (effB_true (lrun_inv _) o)), hs123.below 9 rfl⟩
                    · refine GoR.setB 135 false (by decide) (by kernel_rfl) h122 ?_
                      have h122' : ¬ ((ldo (lrun ahead) o).1 = (⟨7, (⟨#[]⟩ : ByteArray)⟩ : RepV)) := of_decide_eq_false h122
                      refine GoR.phaseK [(7, .gen []), (8, .gen []), (9, .gen [])] [138, 135, 13, 12, 10, 3, 4] [] [(138, .bool (!((!((aget (lrun ahead) o.key).isSome)) && (decide ((((lst (lrun ahead)).length : Nat) : Int) ≥ 64))))), (135, .bool false), (13, .bool ((aget ((ldo (lrun ahead) o).2) o.key).isSome)), (12, .string ((aget ((ldo (lrun ahead) o).2) o.key).getD (⟨#[]⟩ : ByteArray))), (10, .pointer (some ⟨b53, 0, none⟩)), (3, .pointer (some ⟨b1, 0, none⟩)), (4, .bool false)] (by kernel_rfl) rfl ak0 ?_
                      rcases Bool.eq_false_or_eq_true (!((!((aget (lrun ahead) o.key).isSome)) && (decide ((((lst (lrun ahead)).length : Nat) : Int) ≥ 64)))) with h126 | h126
                      · refine GoR.setB 138 true (by decide) (by kernel_rfl) h126 ?_
                        have h126n : ((!((aget (lrun ahead) o.key).isSome)) && (decide ((((lst (lrun ahead)).length : Nat) : Int) ≥ 64))) = false := notT h126
                        refine GoR.phaseK [(10, .agg (RepV.cells ((ldo (lrun ahead) o).1))), (11, .gen [])] [140, 139, 138, 135, 13, 12, 3, 4] [(10, [.prop (Array.size (RepV.cells ((ldo (lrun ahead) o).1)) = 2), .cells ⟨b53, 0, none⟩ (RepV.cells ((ldo (lrun ahead) o).1))])] [(140, .agg #[.int .i64 0, .string (⟨#[]⟩ : ByteArray)]), (139, .agg (RepV.cells ((ldo (lrun ahead) o).1))), (138, .bool true), (135, .bool false), (13, .bool ((aget ((ldo (lrun ahead) o).2) o.key).isSome)), (12, .string ((aget ((ldo (lrun ahead) o).2) o.key).getD (⟨#[]⟩ : ByteArray))), (3, .pointer (some ⟨b1, 0, none⟩)), (4, .bool false)] (by kernel_rfl) rfl (ak (okp (by kernel_rfl) (oka (hs120.cells 5 0 rfl (by kernel_rfl)) ok0)) ak0) ?_
                        refine GoR.eqAgg rfl (by kernel_rfl) (b := true) (t := 34) (xs := RepV.cells ((ldo (lrun ahead) o).1)) (ys := RepV.cells (⟨0, (⟨#[]⟩ : ByteArray)⟩ : RepV)) (m := 2) (by kernel_rfl) (by kernel_rfl) (by decide) (by kernel_rfl) (r := decide ((ldo (lrun ahead) o).1 = (⟨0, (⟨#[]⟩ : ByteArray)⟩ : RepV))) (aggEq  (repEq ((ldo (lrun ahead) o).1) (⟨0, (⟨#[]⟩ : ByteArray)⟩ : RepV))) ?_
                        refine GoR.phaseK [(13, .gen []), (14, .gen [])] [143, 135, 13, 12, 3, 4] [] [(143, .bool (decide ((ldo (lrun ahead) o).1 = (⟨0, (⟨#[]⟩ : ByteArray)⟩ : RepV)))), (135, .bool false), (13, .bool ((aget ((ldo (lrun ahead) o).2) o.key).isSome)), (12, .string ((aget ((ldo (lrun ahead) o).2) o.key).getD (⟨#[]⟩ : ByteArray))), (3, .pointer (some ⟨b1, 0, none⟩)), (4, .bool false)] (by kernel_rfl) rfl ak0 ?_
                        rcases Bool.eq_false_or_eq_true (decide ((ldo (lrun ahead) o).1 = (⟨0, (⟨#[]⟩ : ByteArray)⟩ : RepV))) with h127 | h127
                        · refine GoR.setB 143 true (by decide) (by kernel_rfl) h127 ?_
                          have h127' : (ldo (lrun ahead) o).1 = (⟨0, (⟨#[]⟩ : ByteArray)⟩ : RepV) := of_decide_eq_true h127
                          refine GoR.phaseK [(15, .gen []), (16, .gen []), (17, .gen [])] [146, 135, 12, 3, 4] [] [(146, .bool ((aget ((ldo (lrun ahead) o).2) o.key).isSome)), (135, .bool false), (12, .string ((aget ((ldo (lrun ahead) o).2) o.key).getD (⟨#[]⟩ : ByteArray))), (3, .pointer (some ⟨b1, 0, none⟩)), (4, .bool false)] (by kernel_rfl) rfl ak0 ?_
                          rcases Bool.eq_false_or_eq_true ((aget ((ldo (lrun ahead) o).2) o.key).isSome) with h128 | h128
                          · refine GoR.setB 146 true (by decide) (by kernel_rfl) h128 ?_
                            refine GoR.phaseK [(18, .gen []), (19, .gen []), (20, .gen [.string o.value]), (21, .as_ (.bool (decide (((aget ((ldo (lrun ahead) o).2) o.key).getD (⟨#[]⟩ : ByteArray)) = o.value))) (.gen [])), (22, .gen []), (23, .gen []), (24, .gen [])] [153, 4] [(20, [.cell ⟨b1, 2, none⟩ (.string o.value)]), (21, [.prop (Value.bool (((aget ((ldo (lrun ahead) o).2) o.key).getD (⟨#[]⟩ : ByteArray)).toList == o.value.toList) = Value.bool (decide (((aget ((ldo (lrun ahead) o).2) o.key).getD (⟨#[]⟩ : ByteArray)) = o.value)))])] [(153, .bool (decide (((aget ((ldo (lrun ahead) o).2) o.key).getD (⟨#[]⟩ : ByteArray)) = o.value))), (4, .bool false)] (by kernel_rfl) rfl (ak (okc (hs120.cell 8 rfl (by kernel_rfl)) ok0) (ak (okp (seq _ _) ok0) ak0)) ?_
                            rcases Bool.eq_false_or_eq_true (decide (((aget ((ldo (lrun ahead) o).2) o.key).getD (⟨#[]⟩ : ByteArray)) = o.value)) with h129 | h129
                            · refine GoR.setB 153 true (by decide) (by kernel_rfl) h129 ?_
                              have h129' : ((aget ((ldo (lrun ahead) o).2) o.key).getD (⟨#[]⟩ : ByteArray)) = o.value := of_decide_eq_true h129
                              refine GoR.call rfl rfl (by kernel_rfl) (f := 21) (args := #[]) (by kernel_rfl) Tryd.call21 (works_spec (fun w h => hLW.base h 9 rfl) hs120) ?_
                              rintro v131 w132 ⟨rfl, hs130⟩
                              refine ⟨(opn (by kernel_rfl)), ?_⟩
                              refine GoR.phaseK [(26, .gen []), (27, .gen [])] [4] [] [(4, .bool true)] (by kernel_rfl) rfl ak0 ?_
                              refine GoR.done (GoQ.thn (GoC.ret (GoQ.blkR (GoQ.skipCR ?_))))
                              refine GoQ.done (.inl rfl) (v := .bool true) (fun a hf => results1 rfl (by kernel_rfl) a hf) ?_
                              have hr : effB (lrun ahead) o = true := by rw [effB, if_neg (ne_true_of_eq_false h84), if_neg (ne_true_of_eq_false h88), if_neg (ne_true_of_eq_false h97), if_pos h117, if_pos h121, if_neg (ne_true_of_eq_false h122), if_pos h126, if_pos h127, if_pos h128, if_pos h129]
                              exact ⟨congrArg Value.bool (hr.symm.trans (effB_true (lrun_inv _) o)), hs130.below 9 rfl⟩
                            · refine GoR.setB 153 false (by decide) (by kernel_rfl) h129 ?_
                              have h129' : ¬ (((aget ((ldo (lrun ahead) o).2) o.key).getD (⟨#[]⟩ : ByteArray)) = o.value) := of_decide_eq_false h129
                              refine GoR.skip rfl (by kernel_rfl) (opn (by kernel_rfl)) ?_
                              refine GoR.phaseK [(26, .gen []), (27, .gen [])] [4] [] [(4, .bool false)] (by kernel_rfl) rfl ak0 ?_
                              refine GoR.done (GoQ.thn (GoC.ret (GoQ.blkR (GoQ.skipCR ?_))))
                              refine GoQ.done (.inl rfl) (v := .bool false) (fun a hf => results1 rfl (by kernel_rfl) a hf) ?_
                              have hr : effB (lrun ahead) o = false := by rw [effB, if_neg (ne_true_of_eq_false h84), if_neg (ne_true_of_eq_false h88), if_neg (ne_true_of_eq_false h97), if_pos h117, if_pos h121, if_neg (ne_true_of_eq_false h122), if_pos h126, if_pos h127, if_pos h128, if_neg (ne_true_of_eq_false h129)]
                              exact ⟨congrArg Value.bool (hr.symm.trans (effB_true (lrun_inv _) o)), hs120.below 9 rfl⟩
                          · refine GoR.setB 146 false (by decide) (by kernel_rfl) h128 ?_
                            refine GoR.phaseK [(18, .gen []), (19, .gen []), (20, .gen []), (21, .gen []), (22, .gen []), (23, .gen []), (24, .gen [])] [153, 4] [] [(153, .bool false), (4, .bool false)] (by kernel_rfl) rfl ak0 ?_
                            refine GoR.skip rfl (by kernel_rfl) (opn (by kernel_rfl)) ?_
                            refine GoR.phaseK [(26, .gen []), (27, .gen [])] [4] [] [(4, .bool false)] (by kernel_rfl) rfl ak0 ?_
                            refine GoR.done (GoQ.thn (GoC.ret (GoQ.blkR (GoQ.skipCR ?_))))
                            refine GoQ.done (.inl rfl) (v := .bool false) (fun a hf => results1 rfl (by kernel_rfl) a hf) ?_
                            have hr : effB (lrun ahead) o = false := by rw [effB, if_neg (ne_true_of_eq_false h84), if_neg (ne_true_of_eq_false h88), if_neg (ne_true_of_eq_false h97), if_pos h117, if_pos h121, if_neg (ne_true_of_eq_false h122), if_pos h126, if_pos h127, if_neg (ne_true_of_eq_false h128)]
                            exact ⟨congrArg Value.bool (hr.symm.trans (effB_true (lrun_inv _) o)), hs120.below 9 rfl⟩
                        · refine GoR.setB 143 false (by decide) (by kernel_rfl) h127 ?_
                          have h127' : ¬ ((ldo (lrun ahead) o).1 = (⟨0, (⟨#[]⟩ : ByteArray)⟩ : RepV)) := of_decide_eq_false h127
                          refine GoR.phaseK [(15, .gen []), (16, .gen []), (17, .gen []), (18, .gen []), (19, .gen []), (20, .gen []), (21, .gen []), (22, .gen []), (23, .gen []), (24, .gen [])] [153, 4] [] [(153, .bool false), (4, .bool false)] (by kernel_rfl) rfl ak0 ?_
                          refine GoR.skip rfl (by kernel_rfl) (opn (by kernel_rfl)) ?_
                          refine GoR.phaseK [(26, .gen []), (27, .gen [])] [4] [] [(4, .bool false)] (by kernel_rfl) rfl ak0 ?_
                          refine GoR.done (GoQ.thn (GoC.ret (GoQ.blkR (GoQ.skipCR ?_))))
                          refine GoQ.done (.inl rfl) (v := .bool false) (fun a hf => results1 rfl (by kernel_rfl) a hf) ?_
                          have hr : effB (lrun ahead) o = false := by rw [effB, if_neg (ne_true_of_eq_false h84), if_neg (ne_true_of_eq_false h88), if_neg (ne_true_of_eq_false h97), if_pos h117, if_pos h121, if_neg (ne_true_of_eq_false h122), if_pos h126, if_neg (ne_true_of_eq_false h127)]
                          exact ⟨congrArg Value.bool (hr.symm.trans (effB_true (lrun_inv _) o)), hs120.below 9 rfl⟩
                      · refine GoR.setB 138 false (by decide) (by kernel_rfl) h126 ?_
                        have h126n : ((!((aget (lrun ahead) o.key).isSome)) && (decide ((((lst (lrun ahead)).length : Nat) : Int) ≥ 64))) = true := notF h126
                        have h126na : (!((aget (lrun ahead) o.key).isSome)) = true := (Bool.and_eq_true_iff.1 h126n).1
                        have h126nan : ((aget (lrun ahead) o.key).isSome) = false := notT h126na
                        have h126nb : (decide ((((lst (lrun ahead)).length : Nat) : Int) ≥ 64)) = true := (Bool.and_eq_true_iff.1 h126n).2
                        have h126nb' : (((lst (lrun ahead)).length : Nat) : Int) ≥ 64 := of_decide_eq_true h126nb
                        refine GoR.phaseK [(10, .gen []), (11, .gen []), (12, .gen []), (13, .gen []), (14, .gen []), (15, .gen []), (16, .gen []), (17, .gen []), (18, .gen []), (19, .gen []), (20, .gen []), (21, .gen []), (22, .gen []), (23, .gen []), (24, .gen [])] [153, 4] [] [(153, .bool false), (4, .bool false)] (by kernel_rfl) rfl ak0 ?_
                        refine GoR.skip rfl (by kernel_rfl) (opn (by kernel_rfl)) ?_
                        refine GoR.phaseK [(26, .gen []), (27, .gen [])] [4] [] [(4, .bool false)] (by kernel_rfl) rfl ak0 ?_
                        refine GoR.done (GoQ.thn (GoC.ret (GoQ.blkR (GoQ.skipCR ?_))))
                        refine GoQ.done (.inl rfl) (v := .bool false) (fun a hf => results1 rfl (by kernel_rfl) a hf) ?_
                        have hr : effB (lrun ahead) o = false := by rw [effB, if_neg (ne_true_of_eq_false h84), if_neg (ne_true_of_eq_false h88), if_neg (ne_true_of_eq_false h97), if_pos h117, if_pos h121, if_neg (ne_true_of_eq_false h122), if_neg (ne_true_of_eq_false h126)]
                        exact ⟨congrArg Value.bool (hr.symm.trans (effB_true (lrun_inv _) o)), hs120.below 9 rfl⟩
                  · refine GoR.setB 130 false (by decide) (by kernel_rfl) h121 ?_
                    refine GoR.phaseK [(2, .gen []), (3, .gen []), (4, .gen []), (5, .gen []), (6, .gen []), (7, .gen []), (8, .gen []), (9, .gen [])] [138, 135, 13, 12, 10, 3, 4] [] [(138, .bool (!((!((aget (lrun ahead) o.key).isSome)) && (decide ((((lst (lrun ahead)).length : Nat) : Int) ≥ 64))))), (135, .bool false), (13, .bool ((aget ((ldo (lrun ahead) o).2) o.key).isSome)), (12, .string ((aget ((ldo (lrun ahead) o).2) o.key).getD (⟨#[]⟩ : ByteArray))), (10, .pointer (some ⟨b53, 0, none⟩)), (3, .pointer (some ⟨b1, 0, none⟩)), (4, .bool false)] (by kernel_rfl) rfl ak0 ?_
                    rcases Bool.eq_false_or_eq_true (!((!((aget (lrun ahead) o.key).isSome)) && (decide ((((lst (lrun ahead)).length : Nat) : Int) ≥ 64)))) with h133 | h133
                    · refine GoR.setB 138 true (by decide) (by kernel_rfl) h133 ?_
                      have h133n : ((!((aget (lrun ahead) o.key).isSome)) && (decide ((((lst (lrun ahead)).length : Nat) : Int) ≥ 64))) = false := notT h133
                      refine GoR.phaseK [(10, .agg (RepV.cells ((ldo (lrun ahead) o).1))), (11, .gen [])] [140, 139, 138, 135, 13, 12, 3, 4] [(10, [.prop (Array.size (RepV.cells ((ldo (lrun ahead) o).1)) = 2), .cells ⟨b53, 0, none⟩ (RepV.cells ((ldo (lrun ahead) o).1))])] [(140, .agg #[.int .i64 0, .string (⟨#[]⟩ : ByteArray)]), (139, .agg (RepV.cells ((ldo (lrun ahead) o).1))), (138, .bool true), (135, .bool false), (13, .bool ((aget ((ldo (lrun ahead) o).2) o.key).isSome)), (12, .string ((aget ((ldo (lrun ahead) o).2) o.key).getD (⟨#[]⟩ : ByteArray))), (3, .pointer (some ⟨b1, 0, none⟩)), (4, .bool false)] (by kernel_rfl) rfl (ak (okp (by kernel_rfl) (oka (hs120.cells 5 0 rfl (by kernel_rfl)) ok0)) ak0) ?_
                      refine GoR.eqAgg rfl (by kernel_rfl) (b := true) (t := 34) (xs := RepV.cells ((ldo (lrun ahead) o).1)) (ys := RepV.cells (⟨0, (⟨#[]⟩ : ByteArray)⟩ : RepV)) (m := 2) (by kernel_rfl) (by kernel_rfl) (by decide) (by kernel_rfl) (r := decide ((ldo (lrun ahead) o).1 = (⟨0, (⟨#[]⟩ : ByteArray)⟩ : RepV))) (aggEq  (repEq ((ldo (lrun ahead) o).1) (⟨0, (⟨#[]⟩ : ByteArray)⟩ : RepV))) ?_
                      refine GoR.phaseK [(13, .gen []), (14, .gen [])] [143, 135, 13, 12, 3, 4] [] [(143, .bool (decide ((ldo (lrun ahead) o).1 = (⟨0, (⟨#[]⟩ : ByteArray)⟩ : RepV)))), (135, .bool false), (13, .bool ((aget ((ldo (lrun ahead) o).2) o.key).isSome)), (12, .string ((aget ((ldo (lrun ahead) o).2) o.key).getD (⟨#[]⟩ : ByteArray))), (3, .pointer (some ⟨b1, 0, none⟩)), (4, .bool false)] (by kernel_rfl) rfl ak0 ?_
                      rcases Bool.eq_false_or_eq_true (decide ((ldo (lrun ahead) o).1 = (⟨0, (⟨#[]⟩ : ByteArray)⟩ : RepV))) with h134 | h134
                      · refine GoR.setB 143 true (by decide) (by kernel_rfl) h134 ?_
                        have h134' : (ldo (lrun ahead) o).1 = (⟨0, (⟨#[]⟩ : ByteArray)⟩ : RepV) := of_decide_eq_true h134
                        refine GoR.phaseK [(15, .gen []), (16, .gen []), (17, .gen [])] [146, 135, 12, 3, 4] [] [(146, .bool ((aget ((ldo (lrun ahead) o).2) o.key).isSome)), (135, .bool false), (12, .string ((aget ((ldo (lrun ahead) o).2) o.key).getD (⟨#[]⟩ : ByteArray))), (3, .pointer (some ⟨b1, 0, none⟩)), (4, .bool false)] (by kernel_rfl) rfl ak0 ?_
                        rcases Bool.eq_false_or_eq_true ((aget ((ldo (lrun ahead) o).2) o.key).isSome) with h135 | h135
                        · refine GoR.setB 146 true (by decide) (by kernel_rfl) h135 ?_
                          refine GoR.phaseK [(18, .gen []), (19, .gen []), (20, .gen [.string o.value]), (21, .as_ (.bool (decide (((aget ((ldo (lrun ahead) o).2) o.key).getD (⟨#[]⟩ : ByteArray)) = o.value))) (.gen [])), (22, .gen []), (23, .gen []), (24, .gen [])] [153, 4] [(20, [.cell ⟨b1, 2, none⟩ (.string o.value)]), (21, [.prop (Value.bool (((aget ((ldo (lrun ahead) o).2) o.key).getD (⟨#[]⟩ : ByteArray)).toList == o.value.toList) = Value.bool (decide (((aget ((ldo (lrun ahead) o).2) o.key).getD (⟨#[]⟩ : ByteArray)) = o.value)))])] [(153, .bool (decide (((aget ((ldo (lrun ahead) o).2) o.key).getD (⟨#[]⟩ : ByteArray)) = o.value))), (4, .bool false)] (by kernel_rfl) rfl (ak (okc (hs120.cell 8 rfl (by kernel_rfl)) ok0) (ak (okp (seq _ _) ok0) ak0)) ?_
                          rcases Bool.eq_false_or_eq_true (decide (((aget ((ldo (lrun ahead) o).2) o.key).getD (⟨#[]⟩ : ByteArray)) = o.value)) with h136 | h136
                          · refine GoR.setB 153 true (by decide) (by kernel_rfl) h136 ?_
                            have h136' : ((aget ((ldo (lrun ahead) o).2) o.key).getD (⟨#[]⟩ : ByteArray)) = o.value := of_decide_eq_true h136
                            refine GoR.call rfl rfl (by kernel_rfl) (f := 21) (args := #[]) (by kernel_rfl) Tryd.call21 (works_spec (fun w h => hLW.base h 9 rfl) hs120) ?_
                            rintro v138 w139 ⟨rfl, hs137⟩
                            refine ⟨(opn (by kernel_rfl)), ?_⟩
                            refine GoR.phaseK [(26, .gen []), (27, .gen [])] [4] [] [(4, .bool true)] (by kernel_rfl) rfl ak0 ?_
                            refine GoR.done (GoQ.thn (GoC.ret (GoQ.blkR (GoQ.skipCR ?_))))
                            refine GoQ.done (.inl rfl) (v := .bool true) (fun a hf => results1 rfl (by kernel_rfl) a hf) ?_
                            have hr : effB (lrun ahead) o = true := by rw [effB, if_neg (ne_true_of_eq_false h84), if_neg (ne_true_of_eq_false h88), if_neg (ne_true_of_eq_false h97), if_pos h117, if_neg (ne_true_of_eq_false h121), if_pos h133, if_pos h134, if_pos h135, if_pos h136]
                            exact ⟨congrArg Value.bool (hr.symm.trans (effB_true (lrun_inv _) o)), hs137.below 9 rfl⟩
                          · refine GoR.setB 153 false (by decide) (by kernel_rfl) h136 ?_
                            have h136' : ¬ (((aget ((ldo (lrun ahead) o).2) o.key).getD (⟨#[]⟩ : ByteArray)) = o.value) := of_decide_eq_false h136
                            refine GoR.skip rfl (by kernel_rfl) (opn (by kernel_rfl)) ?_
                            refine GoR.phaseK [(26, .gen []), (27, .gen [])] [4] [] [(4, .bool false)] (by kernel_rfl) rfl ak0 ?_
                            refine GoR.done (GoQ.thn (GoC.ret (GoQ.blkR (GoQ.skipCR ?_))))
                            refine GoQ.done (.inl rfl) (v := .bool false) (fun a hf => results1 rfl (by kernel_rfl) a hf) ?_
                            have hr : effB (lrun ahead) o = false := by rw [effB, if_neg (ne_true_of_eq_false h84), if_neg (ne_true_of_eq_false h88), if_neg (ne_true_of_eq_false h97), if_pos h117, if_neg (ne_true_of_eq_false h121), if_pos h133, if_pos h134, if_pos h135, if_neg (ne_true_of_eq_false h136)]
                            exact ⟨congrArg Value.bool (hr.symm.trans (effB_true (lrun_inv _) o)), hs120.below 9 rfl⟩
                        · refine GoR.setB 146 false (by decide) (by kernel_rfl) h135 ?_
                          refine GoR.phaseK [(18, .gen []), (19, .gen []), (20, .gen []), (21, .gen []), (22, .gen []), (23, .gen []), (24, .gen [])] [153, 4] [] [(153, .bool false), (4, .bool false)] (by kernel_rfl) rfl ak0 ?_
                          refine GoR.skip rfl (by kernel_rfl) (opn (by kernel_rfl)) ?_
                          refine GoR.phaseK [(26, .gen []), (27, .gen [])] [4] [] [(4, .bool false)] (by kernel_rfl) rfl ak0 ?_
                          refine GoR.done (GoQ.thn (GoC.ret (GoQ.blkR (GoQ.skipCR ?_))))
                          refine GoQ.done (.inl rfl) (v := .bool false) (fun a hf => results1 rfl (by kernel_rfl) a hf) ?_
                          have hr : effB (lrun ahead) o = false := by rw [effB, if_neg (ne_true_of_eq_false h84), if_neg (ne_true_of_eq_false h88), if_neg (ne_true_of_eq_false h97), if_pos h117, if_neg (ne_true_of_eq_false h121), if_pos h133, if_pos h134, if_neg (ne_true_of_eq_false h135)]
                          exact ⟨congrArg Value.bool (hr.symm.trans (effB_true (lrun_inv _) o)), hs120.below 9 rfl⟩
                      · refine GoR.setB 143 false (by decide) (by kernel_rfl) h134 ?_
                        have h134' : ¬ ((ldo (lrun ahead) o).1 = (⟨0, (⟨#[]⟩ : ByteArray)⟩ : RepV)) := of_decide_eq_false h134
                        refine GoR.phaseK [(15, .gen []), (16, .gen []), (17, .gen []), (18, .gen []), (19, .gen []), (20, .gen []), (21, .gen []), (22, .gen []), (23, .gen []), (24, .gen [])] [153, 4] [] [(153, .bool false), (4, .bool false)] (by kernel_rfl) rfl ak0 ?_
                        refine GoR.skip rfl (by kernel_rfl) (opn (by kernel_rfl)) ?_
                        refine GoR.phaseK [(26, .gen []), (27, .gen [])] [4] [] [(4, .bool false)] (by kernel_rfl) rfl ak0 ?_
                        refine GoR.done (GoQ.thn (GoC.ret (GoQ.blkR (GoQ.skipCR ?_))))
                        refine GoQ.done (.inl rfl) (v := .bool false) (fun a hf => results1 rfl (by kernel_rfl) a hf) ?_
                        have hr : effB (lrun ahead) o = false := by rw [effB, if_neg (ne_true_of_eq_false h84), if_neg (ne_true_of_eq_false h88), if_neg (ne_true_of_eq_false h97), if_pos h117, if_neg (ne_true_of_eq_false h121), if_pos h133, if_neg (ne_true_of_eq_false h134)]
                        exact ⟨congrArg Value.bool (hr.symm.trans (effB_true (lrun_inv _) o)), hs120.below 9 rfl⟩
                    · refine GoR.setB 138 false (by decide) (by kernel_rfl) h133 ?_
                      have h133n : ((!((aget (lrun ahead) o.key).isSome)) && (decide ((((lst (lrun ahead)).length : Nat) : Int) ≥ 64))) = true := notF h133
                      have h133na : (!((aget (lrun ahead) o.key).isSome)) = true := (Bool.and_eq_true_iff.1 h133n).1
                      have h133nan : ((aget (lrun ahead) o.key).isSome) = false := notT h133na
                      have h133nb : (decide ((((lst (lrun ahead)).length : Nat) : Int) ≥ 64)) = true := (Bool.and_eq_true_iff.1 h133n).2
                      have h133nb' : (((lst (lrun ahead)).length : Nat) : Int) ≥ 64 := of_decide_eq_true h133nb
                      refine GoR.phaseK [(10, .gen []), (11, .gen []), (12, .gen []), (13, .gen []), (14, .gen []), (15, .gen []), (16, .gen []), (17, .gen []), (18, .gen []), (19, .gen []), (20, .gen []), (21, .gen []), (22, .gen []), (23, .gen []), (24, .gen [])] [153, 4] [] [(153, .bool false), (4, .bool false)] (by kernel_rfl) rfl ak0 ?_
                      refine GoR.skip rfl (by kernel_rfl) (opn (by kernel_rfl)) ?_
                      refine GoR.phaseK [(26, .gen []), (27, .gen [])] [4] [] [(4, .bool false)] (by kernel_rfl) rfl ak0 ?_
                      refine GoR.done (GoQ.thn (GoC.ret (GoQ.blkR (GoQ.skipCR ?_))))
                      refine GoQ.done (.inl rfl) (v := .bool false) (fun a hf => results1 rfl (by kernel_rfl) a hf) ?_
                      have hr : effB (lrun ahead) o = false := by rw [effB, if_neg (ne_true_of_eq_false h84), if_neg (ne_true_of_eq_false h88), if_neg (ne_true_of_eq_false h97), if_pos h117, if_neg (ne_true_of_eq_false h121), if_neg (ne_true_of_eq_false h133)]
                      exact ⟨congrArg Value.bool (hr.symm.trans (effB_true (lrun_inv _) o)), hs120.below 9 rfl⟩
                · have h117' : ¬ ((o.kind : Int) = 2) := ieqF h117
                  refine GoC.seq ?_
                  refine GoC.regT [3, 3] (.rd 0 (.rd 1 .done)) (by kernel_rfl) (by kernel_rfl) ?_
                  refine GoR.phaseK [(0, .gen []), (1, .gen [])] [156, 93, 13, 12, 11, 10, 9, 8, 7, 3, 4] [] [(156, .bool ((o.kind : Int) == 3)), (93, .int .u8 o.kind), (13, .bool ((aget ((ldo (lrun ahead) o).2) o.key).isSome)), (12, .string ((aget ((ldo (lrun ahead) o).2) o.key).getD (⟨#[]⟩ : ByteArray))), (11, .slice ad59 ((lst ((ldo (lrun ahead) o).2)).length) c60), (10, .pointer (some ⟨b53, 0, none⟩)), (9, .bool ((aget (lrun ahead) o.key).isSome)), (8, .string ((aget (lrun ahead) o.key).getD (⟨#[]⟩ : ByteArray))), (7, .slice ad41 ((lst (lrun ahead)).length) c42), (3, .pointer (some ⟨b1, 0, none⟩)), (4, .bool false)] (by kernel_rfl) rfl ak0 ?_
                  refine GoR.done (GoQ.thn ?_)
                  refine GoC.cond (t := (o.kind : Int) == 3) (by kernel_rfl) (fun h140 => ?_) (fun h140 => ?_)
                  · have h140' : (o.kind : Int) = 3 := ieqT h140
                    refine GoC.seq ?_
                    refine GoC.regT [16777215, 16777215, 16777215, 16777215, 16777215, 16777215, 16777215, 16777215, 16777215, 16777215, 16777215, 16777215, 16777215, 16777215, 16777215, 16777215, 16777215, 16777215, 16777215, 16777215, 16777215, 16777215, 16777215, 16777215] (.rd 0 (.rd 1 (.rd 2 (.rd 3 (.rd 4 (.rd 5 (.rd 6 (.rd 7 (.rd 8 (.rd 9 (.rd 10 (.rd 11 (.rd 12 (.rd 13 (.rd 14 (.rd 15 (.rd 16 (.rd 17 (.rd 18 (.rd 19 (.rd 20 (.ef 21 (.rd 22 (.rd 23 .done)))))))))))))))))))))))) (by kernel_rfl) (by kernel_rfl) ?_
                    refine GoR.phaseK [(0, .gen []), (1, .gen []), (2, .gen [])] [160, 10, 9, 8, 4] [] [(160, .bool (!((aget ((ldo (lrun ahead) o).2) o.key).isSome))), (10, .pointer (some ⟨b53, 0, none⟩)), (9, .bool ((aget (lrun ahead) o.key).isSome)), (8, .string ((aget (lrun ahead) o.key).getD (⟨#[]⟩ : ByteArray))), (4, .bool false)] (by kernel_rfl) rfl ak0 ?_
                    rcases Bool.eq_false_or_eq_true (!((aget ((ldo (lrun ahead) o).2) o.key).isSome)) with h141 | h141
                    · refine GoR.setB 160 true (by decide) (by kernel_rfl) h141 ?_
                      have h141n : ((aget ((ldo (lrun ahead) o).2) o.key).isSome) = false := notT h141
                      refine GoR.phaseK [(3, .gen []), (4, .gen [])] [162, 160, 10, 9, 8, 4] [] [(162, .bool ((aget (lrun ahead) o.key).isSome)), (160, .bool true), (10, .pointer (some ⟨b53, 0, none⟩)), (9, .bool ((aget (lrun ahead) o.key).isSome)), (8, .string ((aget (lrun ahead) o.key).getD (⟨#[]⟩ : ByteArray))), (4, .bool false)] (by kernel_rfl) rfl ak0 ?_
                      rcases Bool.eq_false_or_eq_true ((aget (lrun ahead) o.key).isSome) with h142 | h142
                      · refine GoR.setB 162 true (by decide) (by kernel_rfl) h142 ?_
                        refine GoR.phaseK [(5, .agg (RepV.cells ((ldo (lrun ahead) o).1))), (6, .gen []), (7, .gen [])] [165, 163, 162, 160, 10, 9, 4] [(5, [.prop (Array.size (RepV.cells ((ldo (lrun ahead) o).1)) = 2), .cells ⟨b53, 0, none⟩ (RepV.cells ((ldo (lrun ahead) o).1))])] [(165, .agg #[.int .i64 0, .string ((aget (lrun ahead) o.key).getD (⟨#[]⟩ : ByteArray))]), (163, .agg (RepV.cells ((ldo (lrun ahead) o).1))), (162, .bool true), (160, .bool true), (10, .pointer (some ⟨b53, 0, none⟩)), (9, .bool ((aget (lrun ahead) o.key).isSome)), (4, .bool false)] (by kernel_rfl) rfl (ak (okp (by kernel_rfl) (oka (hs85.cells 5 0 rfl (by kernel_rfl)) ok0)) ak0) ?_
                        refine GoR.eqAgg rfl (by kernel_rfl) (b := true) (t := 34) (xs := RepV.cells ((ldo (lrun ahead) o).1)) (ys := RepV.cells (⟨0, (aget (lrun ahead) o.key).getD (⟨#[]⟩ : ByteArray)⟩ : RepV)) (m := 2) (by kernel_rfl) (by kernel_rfl) (by decide) (by kernel_rfl) (r := decide ((ldo (lrun ahead) o).1 = (⟨0, (aget (lrun ahead) o.key).getD (⟨#[]⟩ : ByteArray)⟩ : RepV))) (aggEq  (repEq ((ldo (lrun ahead) o).1) (⟨0, (aget (lrun ahead) o.key).getD (⟨#[]⟩ : ByteArray)⟩ : RepV))) ?_
                        refine GoR.phaseK [(9, .gen []), (10, .gen [])] [168, 160, 10, 9, 4] [] [(168, .bool (decide ((ldo (lrun ahead) o).1 = (⟨0, (aget (lrun ahead) o.key).getD (⟨#[]⟩ : ByteArray)⟩ : RepV)))), (160, .bool true), (10, .pointer (some ⟨b53, 0, none⟩)), (9, .bool ((aget (lrun ahead) o.key).isSome)), (4, .bool false)] (by kernel_rfl) rfl ak0 ?_
                        rcases Bool.eq_false_or_eq_true (decide ((ldo (lrun ahead) o).1 = (⟨0, (aget (lrun ahead) o.key).getD (⟨#[]⟩ : ByteArray)⟩ : RepV))) with h143 | h143
                        · refine GoR.setB 168 true (by decide) (by kernel_rfl) h143 ?_
                          have h143' : (ldo (lrun ahead) o).1 = (⟨0, (aget (lrun ahead) o.key).getD (⟨#[]⟩ : ByteArray)⟩ : RepV) := of_decide_eq_true h143
                          refine GoR.phaseK [(11, .gen []), (12, .gen []), (13, .gen []), (14, .gen []), (15, .gen []), (16, .gen []), (17, .gen []), (18, .gen []), (19, .gen []), (20, .gen [])] [178, 4] [] [(178, .bool true), (4, .bool false)] (by kernel_rfl) rfl ak0 ?_
                          refine GoR.call rfl rfl (by kernel_rfl) (f := 21) (args := #[]) (by kernel_rfl) Tryd.call21 (works_spec (fun w h => hLW.base h 9 rfl) hs85) ?_
                          rintro v145 w146 ⟨rfl, hs144⟩
                          refine ⟨(opn (by kernel_rfl)), ?_⟩
                          refine GoR.phaseK [(22, .gen []), (23, .gen [])] [4] [] [(4, .bool true)] (by kernel_rfl) rfl ak0 ?_
                          refine GoR.done (GoQ.thn (GoC.ret (GoQ.blkR (GoQ.skipCR ?_))))
                          refine GoQ.done (.inl rfl) (v := .bool true) (fun a hf => results1 rfl (by kernel_rfl) a hf) ?_
                          have hr : effB (lrun ahead) o = true := by rw [effB, if_neg (ne_true_of_eq_false h84), if_neg (ne_true_of_eq_false h88), if_neg (ne_true_of_eq_false h97), if_neg (ne_true_of_eq_false h117), if_pos h140, if_pos h141, if_pos h142, if_pos h143]
                          exact ⟨congrArg Value.bool (hr.symm.trans (effB_true (lrun_inv _) o)), hs144.below 9 rfl⟩
                        · refine GoR.setB 168 false (by decide) (by kernel_rfl) h143 ?_
                          have h143' : ¬ ((ldo (lrun ahead) o).1 = (⟨0, (aget (lrun ahead) o.key).getD (⟨#[]⟩ : ByteArray)⟩ : RepV)) := of_decide_eq_false h143
                          refine GoR.phaseK [(11, .gen []), (12, .gen []), (13, .gen [])] [171, 168, 160, 10, 4] [] [(171, .bool (!((aget (lrun ahead) o.key).isSome))), (168, .bool false), (160, .bool true), (10, .pointer (some ⟨b53, 0, none⟩)), (4, .bool false)] (by kernel_rfl) rfl ak0 ?_
                          rcases Bool.eq_false_or_eq_true (!((aget (lrun ahead) o.key).isSome)) with h147 | h147
                          · refine GoR.setB 171 true (by decide) (by kernel_rfl) h147 ?_
                            have h147n : ((aget (lrun ahead) o.key).isSome) = false := notT h147
                            refine GoR.phaseK [(14, .agg (RepV.cells ((ldo (lrun ahead) o).1))), (15, .gen [])] [173, 172, 171, 168, 160, 4] [(14, [.prop (Array.size (RepV.cells ((ldo (lrun ahead) o).1)) = 2), .cells ⟨b53, 0, none⟩ (RepV.cells ((ldo (lrun ahead) o).1))])] [(173, .agg #[.int .i64 4, .string (⟨#[]⟩ : ByteArray)]), (172, .agg (RepV.cells ((ldo (lrun ahead) o).1))), (171, .bool true), (168, .bool false), (160, .bool true), (4, .bool false)] (by kernel_rfl) rfl (ak (okp (by kernel_rfl) (oka (hs85.cells 5 0 rfl (by kernel_rfl)) ok0)) ak0) ?_
                            refine GoR.eqAgg rfl (by kernel_rfl) (b := true) (t := 34) (xs := RepV.cells ((ldo (lrun ahead) o).1)) (ys := RepV.cells (⟨4, (⟨#[]⟩ : ByteArray)⟩ : RepV)) (m := 2) (by kernel_rfl) (by kernel_rfl) (by decide) (by kernel_rfl) (r := decide ((ldo (lrun ahead) o).1 = (⟨4, (⟨#[]⟩ : ByteArray)⟩ : RepV))) (aggEq  (repEq ((ldo (lrun ahead) o).1) (⟨4, (⟨#[]⟩ : ByteArray)⟩ : RepV))) ?_
                            refine GoR.phaseK [(17, .gen []), (18, .gen []), (19, .gen []), (20, .gen [])] [178, 4] [] [(178, .bool (decide ((ldo (lrun ahead) o).1 = (⟨4, (⟨#[]⟩ : ByteArray)⟩ : RepV)))), (4, .bool false)] (by kernel_rfl) rfl ak0 ?_
                            rcases Bool.eq_false_or_eq_true (decide ((ldo (lrun ahead) o).1 = (⟨4, (⟨#[]⟩ : ByteArray)⟩ : RepV))) with h148 | h148
                            · refine GoR.setB 178 true (by decide) (by kernel_rfl) h148 ?_
                              have h148' : (ldo (lrun ahead) o).1 = (⟨4, (⟨#[]⟩ : ByteArray)⟩ : RepV) := of_decide_eq_true h148
                              refine GoR.call rfl rfl (by kernel_rfl) (f := 21) (args := #[]) (by kernel_rfl) Tryd.call21 (works_spec (fun w h => hLW.base h 9 rfl) hs85) ?_
                              rintro v150 w151 ⟨rfl, hs149⟩
                              refine ⟨(opn (by kernel_rfl)), ?_⟩
                              refine GoR.phaseK [(22, .gen []), (23, .gen [])] [4] [] [(4, .bool true)] (by kernel_rfl) rfl ak0 ?_
                              refine GoR.done (GoQ.thn (GoC.ret (GoQ.blkR (GoQ.skipCR ?_))))
                              refine GoQ.done (.inl rfl) (v := .bool true) (fun a hf => results1 rfl (by kernel_rfl) a hf) ?_
                              have hr : effB (lrun ahead) o = true := by rw [effB, if_neg (ne_true_of_eq_false h84), if_neg (ne_true_of_eq_false h88), if_neg (ne_true_of_eq_false h97), if_neg (ne_true_of_eq_false h117), if_pos h140, if_pos h141, if_pos h142, if_neg (ne_true_of_eq_false h143), if_pos h147, if_pos h148]
                              exact ⟨congrArg Value.bool (hr.symm.trans (effB_true (lrun_inv _) o)), hs149.below 9 rfl⟩
                            · refine GoR.setB 178 false (by decide) (by kernel_rfl) h148 ?_
                              have h148' : ¬ ((ldo (lrun ahead) o).1 = (⟨4, (⟨#[]⟩ : ByteArray)⟩ : RepV)) := of_decide_eq_false h148
                              refine GoR.skip rfl (by kernel_rfl) (opn (by kernel_rfl)) ?_
                              refine GoR.phaseK [(22, .gen []), (23, .gen [])] [4] [] [(4, .bool false)] (by kernel_rfl) rfl ak0 ?_
                              refine GoR.done (GoQ.thn (GoC.ret (GoQ.blkR (GoQ.skipCR ?_))))
                              refine GoQ.done (.inl rfl) (v := .bool false) (fun a hf => results1 rfl (by kernel_rfl) a hf) ?_
                              have hr : effB (lrun ahead) o = false := by rw [effB, if_neg (ne_true_of_eq_false h84), if_neg (ne_true_of_eq_false h88), if_neg (ne_true_of_eq_false h97), if_neg (ne_true_of_eq_false h117), if_pos h140, if_pos h141, if_pos h142, if_neg (ne_true_of_eq_false h143), if_pos h147, if_neg (ne_true_of_eq_false h148)]
                              exact ⟨congrArg Value.bool (hr.symm.trans (effB_true (lrun_inv _) o)), hs85.below 9 rfl⟩
                          · refine GoR.setB 171 false (by decide) (by kernel_rfl) h147 ?_
                            have h147n : ((aget (lrun ahead) o.key).isSome) = true := notF h147
                            refine GoR.phaseK [(14, .gen []), (15, .gen []), (16, .gen []), (17, .gen []), (18, .gen []), (19, .gen []), (20, .gen [])] [178, 4] [] [(178, .bool false), (4, .bool false)] (by kernel_rfl) rfl ak0 ?_
                            refine GoR.skip rfl (by kernel_rfl) (opn (by kernel_rfl)) ?_
                            refine GoR.phaseK [(22, .gen []), (23, .gen [])] [4] [] [(4, .bool false)] (by kernel_rfl) rfl ak0 ?_
                            refine GoR.done (GoQ.thn (GoC.ret (GoQ.blkR (GoQ.skipCR ?_))))
                            refine GoQ.done (.inl rfl) (v := .bool false) (fun a hf => results1 rfl (by kernel_rfl) a hf) ?_
                            have hr : effB (lrun ahead) o = false := by rw [effB, if_neg (ne_true_of_eq_false h84), if_neg (ne_true_of_eq_false h88), if_neg (ne_true_of_eq_false h97), if_neg (ne_true_of_eq_false h117), if_pos h140, if_pos h141, if_pos h142, if_neg (ne_true_of_eq_false h143), if_neg (ne_true_of_eq_false h147)]
                            exact ⟨congrArg Value.bool (hr.symm.trans (effB_true (lrun_inv _) o)), hs85.below 9 rfl⟩
                      · refine GoR.setB 162 false (by decide) (by kernel_rfl) h142 ?_
                        refine GoR.phaseK [(5, .gen []), (6, .gen []), (7, .gen []), (8, .gen []), (9, .gen []), (10, .gen []), (11, .gen []), (12, .gen []), (13, .gen [])] [171, 168, 160, 10, 4] [] [(171, .bool (!((aget (lrun ahead) o.key).isSome))), (168, .bool false), (160, .bool true), (10, .pointer (some ⟨b53, 0, none⟩)), (4, .bool false)] (by kernel_rfl) rfl ak0 ?_
                        rcases Bool.eq_false_or_eq_true (!((aget (lrun ahead) o.key).isSome)) with h152 | h152
                        · refine GoR.setB 171 true (by decide) (by kernel_rfl) h152 ?_
                          have h152n : ((aget (lrun ahead) o.key).isSome) = false := notT h152
                          refine GoR.phaseK [(14, .agg (RepV.cells ((ldo (lrun ahead) o).1))), (15, .gen [])] [173, 172, 171, 168, 160, 4] [(14, [.prop (Array.size (RepV.cells ((ldo (lrun ahead) o).1)) = 2), .cells ⟨b53, 0, none⟩ (RepV.cells ((ldo (lrun ahead) o).1))])] [(173, .agg #[.int .i64 4, .string (⟨#[]⟩ : ByteArray)]), (172, .agg (RepV.cells ((ldo (lrun ahead) o).1))), (171, .bool true), (168, .bool false), (160, .bool true), (4, .bool false)] (by kernel_rfl) rfl (ak (okp (by kernel_rfl) (oka (hs85.cells 5 0 rfl (by kernel_rfl)) ok0)) ak0) ?_
                          refine GoR.eqAgg rfl (by kernel_rfl) (b := true) (t := 34) (xs := RepV.cells ((ldo (lrun ahead) o).1)) (ys := RepV.cells (⟨4, (⟨#[]⟩ : ByteArray)⟩ : RepV)) (m := 2) (by kernel_rfl) (by kernel_rfl) (by decide) (by kernel_rfl) (r := decide ((ldo (lrun ahead) o).1 = (⟨4, (⟨#[]⟩ : ByteArray)⟩ : RepV))) (aggEq  (repEq ((ldo (lrun ahead) o).1) (⟨4, (⟨#[]⟩ : ByteArray)⟩ : RepV))) ?_
                          refine GoR.phaseK [(17, .gen []), (18, .gen []), (19, .gen []), (20, .gen [])] [178, 4] [] [(178, .bool (decide ((ldo (lrun ahead) o).1 = (⟨4, (⟨#[]⟩ : ByteArray)⟩ : RepV)))), (4, .bool false)] (by kernel_rfl) rfl ak0 ?_
                          rcases Bool.eq_false_or_eq_true (decide ((ldo (lrun ahead) o).1 = (⟨4, (⟨#[]⟩ : ByteArray)⟩ : RepV))) with h153 | h153
                          · refine GoR.setB 178 true (by decide) (by kernel_rfl) h153 ?_
                            have h153' : (ldo (lrun ahead) o).1 = (⟨4, (⟨#[]⟩ : ByteArray)⟩ : RepV) := of_decide_eq_true h153
                            refine GoR.call rfl rfl (by kernel_rfl) (f := 21) (args := #[]) (by kernel_rfl) Tryd.call21 (works_spec (fun w h => hLW.base h 9 rfl) hs85) ?_
                            rintro v155 w156 ⟨rfl, hs154⟩
                            refine ⟨(opn (by kernel_rfl)), ?_⟩
                            refine GoR.phaseK [(22, .gen []), (23, .gen [])] [4] [] [(4, .bool true)] (by kernel_rfl) rfl ak0 ?_
                            refine GoR.done (GoQ.thn (GoC.ret (GoQ.blkR (GoQ.skipCR ?_))))
                            refine GoQ.done (.inl rfl) (v := .bool true) (fun a hf => results1 rfl (by kernel_rfl) a hf) ?_
                            have hr : effB (lrun ahead) o = true := by rw [effB, if_neg (ne_true_of_eq_false h84), if_neg (ne_true_of_eq_false h88), if_neg (ne_true_of_eq_false h97), if_neg (ne_true_of_eq_false h117), if_pos h140, if_pos h141, if_neg (ne_true_of_eq_false h142), if_pos h152, if_pos h153]
                            exact ⟨congrArg Value.bool (hr.symm.trans (effB_true (lrun_inv _) o)), hs154.below 9 rfl⟩
                          · refine GoR.setB 178 false (by decide) (by kernel_rfl) h153 ?_
                            have h153' : ¬ ((ldo (lrun ahead) o).1 = (⟨4, (⟨#[]⟩ : ByteArray)⟩ : RepV)) := of_decide_eq_false h153
                            refine GoR.skip rfl (by kernel_rfl) (opn (by kernel_rfl)) ?_
                            refine GoR.phaseK [(22, .gen []), (23, .gen [])] [4] [] [(4, .bool false)] (by kernel_rfl) rfl ak0 ?_
                            refine GoR.done (GoQ.thn (GoC.ret (GoQ.blkR (GoQ.skipCR ?_))))
                            refine GoQ.done (.inl rfl) (v := .bool false) (fun a hf => results1 rfl (by kernel_rfl) a hf) ?_
                            have hr : effB (lrun ahead) o = false := by rw [effB, if_neg (ne_true_of_eq_false h84), if_neg (ne_true_of_eq_false h88), if_neg (ne_true_of_eq_false h97), if_neg (ne_true_of_eq_false h117), if_pos h140, if_pos h141, if_neg (ne_true_of_eq_false h142), if_pos h152, if_neg (ne_true_of_eq_false h153)]
                            exact ⟨congrArg Value.bool (hr.symm.trans (effB_true (lrun_inv _) o)), hs85.below 9 rfl⟩
                        · refine GoR.setB 171 false (by decide) (by kernel_rfl) h152 ?_
                          have h152n : ((aget (lrun ahead) o.key).isSome) = true := notF h152
                          refine GoR.phaseK [(14, .gen []), (15, .gen []), (16, .gen []), (17, .gen []), (18, .gen []), (19, .gen []), (20, .gen [])] [178, 4] [] [(178, .bool false), (4, .bool false)] (by kernel_rfl) rfl ak0 ?_
                          refine GoR.skip rfl (by kernel_rfl) (opn (by kernel_rfl)) ?_
                          refine GoR.phaseK [(22, .gen []), (23, .gen [])] [4] [] [(4, .bool false)] (by kernel_rfl) rfl ak0 ?_
                          refine GoR.done (GoQ.thn (GoC.ret (GoQ.blkR (GoQ.skipCR ?_))))
                          refine GoQ.done (.inl rfl) (v := .bool false) (fun a hf => results1 rfl (by kernel_rfl) a hf) ?_
                          have hr : effB (lrun ahead) o = false := by rw [effB, if_neg (ne_true_of_eq_false h84), if_neg (ne_true_of_eq_false h88), if_neg (ne_true_of_eq_false h97), if_neg (ne_true_of_eq_false h117), if_pos h140, if_pos h141, if_neg (ne_true_of_eq_false h142), if_neg (ne_true_of_eq_false h152)]
                          exact ⟨congrArg Value.bool (hr.symm.trans (effB_true (lrun_inv _) o)), hs85.below 9 rfl⟩
                    · refine GoR.setB 160 false (by decide) (by kernel_rfl) h141 ?_
                      have h141n : ((aget ((ldo (lrun ahead) o).2) o.key).isSome) = true := notF h141
                      refine GoR.phaseK [(3, .gen []), (4, .gen []), (5, .gen []), (6, .gen []), (7, .gen []), (8, .gen []), (9, .gen []), (10, .gen []), (11, .gen []), (12, .gen []), (13, .gen []), (14, .gen []), (15, .gen []), (16, .gen []), (17, .gen []), (18, .gen []), (19, .gen []), (20, .gen [])] [178, 4] [] [(178, .bool false), (4, .bool false)] (by kernel_rfl) rfl ak0 ?_
                      refine GoR.skip rfl (by kernel_rfl) (opn (by kernel_rfl)) ?_
                      refine GoR.phaseK [(22, .gen []), (23, .gen [])] [4] [] [(4, .bool false)] (by kernel_rfl) rfl ak0 ?_
                      refine GoR.done (GoQ.thn (GoC.ret (GoQ.blkR (GoQ.skipCR ?_))))
                      refine GoQ.done (.inl rfl) (v := .bool false) (fun a hf => results1 rfl (by kernel_rfl) a hf) ?_
                      have hr : effB (lrun ahead) o = false := by rw [effB, if_neg (ne_true_of_eq_false h84), if_neg (ne_true_of_eq_false h88), if_neg (ne_true_of_eq_false h97), if_neg (ne_true_of_eq_false h117), if_pos h140, if_neg (ne_true_of_eq_false h141)]
                      exact ⟨congrArg Value.bool (hr.symm.trans (effB_true (lrun_inv _) o)), hs85.below 9 rfl⟩
                  · have h140' : ¬ ((o.kind : Int) = 3) := ieqF h140
                    refine GoC.seq ?_
                    refine GoC.regT [3, 3] (.rd 0 (.rd 1 .done)) (by kernel_rfl) (by kernel_rfl) ?_
                    refine GoR.phaseK [(0, .gen []), (1, .gen [])] [181, 13, 12, 11, 10, 9, 8, 7, 3, 4] [] [(181, .bool ((o.kind : Int) == 4)), (13, .bool ((aget ((ldo (lrun ahead) o).2) o.key).isSome)), (12, .string ((aget ((ldo (lrun ahead) o).2) o.key).getD (⟨#[]⟩ : ByteArray))), (11, .slice ad59 ((lst ((ldo (lrun ahead) o).2)).length) c60), (10, .pointer (some ⟨b53, 0, none⟩)), (9, .bool ((aget (lrun ahead) o.key).isSome)), (8, .string ((aget (lrun ahead) o.key).getD (⟨#[]⟩ : ByteArray))), (7, .slice ad41 ((lst (lrun ahead)).length) c42), (3, .pointer (some ⟨b1, 0, none⟩)), (4, .bool false)] (by kernel_rfl) rfl ak0 ?_
                    refine GoR.done (GoQ.thn ?_)
                    refine GoC.cond (t := (o.kind : Int) == 4) (by kernel_rfl) (fun h157 => ?_) (fun h157 => ?_)
                    · have h157' : (o.kind : Int) = 4 := ieqT h157
                      refine GoC.seq (GoC.seq ?_)
                      refine GoC.join (T := Unit) (E := fun _ => [(189, .bool (((aget (lrun ahead) o.key).isSome) && (decide (((aget (lrun ahead) o.key).getD (⟨#[]⟩ : ByteArray)) = o.old)))), (13, .bool ((aget ((ldo (lrun ahead) o).2) o.key).isSome)), (12, .string ((aget ((ldo (lrun ahead) o).2) o.key).getD (⟨#[]⟩ : ByteArray))), (11, .slice ad59 ((lst ((ldo (lrun ahead) o).2)).length) c60), (10, .pointer (some ⟨b53, 0, none⟩)), (7, .slice ad41 ((lst (lrun ahead)).length) c42), (3, .pointer (some ⟨b1, 0, none⟩)), (4, .bool false)]) (F := fun _ w => St W ((Sl ado76 co77 61 2 ItemV.cells ((lst ((ldo (lrun ahead) o).2)).filter (oth o.key o.dest))) :: (Sl ado71 co72 61 2 ItemV.cells ((lst (lrun ahead)).filter (oth o.key o.dest))) :: (Cel p27 #[.map (some r28)] 89) :: (MapA Value.string Value.string r28 ((ldo (lrun ahead) o).2)) :: (Sl ad59 c60 61 2 ItemV.cells (lst ((ldo (lrun ahead) o).2))) :: (Cel b53 (RepV.cells ((ldo (lrun ahead) o).1)) 34) :: (Sl ad41 c42 61 2 ItemV.cells (lst (lrun ahead))) :: (Sl (some ⟨b11, 0, none⟩) 1 24 6 OpV.cells ([(o : OpV)])) :: (Cel b1 (OpV.cells o) 24) :: (Base W) :: []) w) ?_ ?_
                      · refine GoC.regT [127, 127, 127, 127, 127, 127, 127] (.rd 0 (.rd 1 (.rd 2 (.rd 3 (.rd 4 (.rd 5 (.rd 6 .done))))))) (by kernel_rfl) (by kernel_rfl) ?_
                        refine GoR.phaseK [(0, .gen []), (1, .gen [])] [184, 13, 12, 11, 10, 8, 7, 3, 4] [] [(184, .bool ((aget (lrun ahead) o.key).isSome)), (13, .bool ((aget ((ldo (lrun ahead) o).2) o.key).isSome)), (12, .string ((aget ((ldo (lrun ahead) o).2) o.key).getD (⟨#[]⟩ : ByteArray))), (11, .slice ad59 ((lst ((ldo (lrun ahead) o).2)).length) c60), (10, .pointer (some ⟨b53, 0, none⟩)), (8, .string ((aget (lrun ahead) o.key).getD (⟨#[]⟩ : ByteArray))), (7, .slice ad41 ((lst (lrun ahead)).length) c42), (3, .pointer (some ⟨b1, 0, none⟩)), (4, .bool false)] (by kernel_rfl) rfl ak0 ?_
                        rcases Bool.eq_false_or_eq_true ((aget (lrun ahead) o.key).isSome) with h158 | h158
                        · refine GoR.setB 184 true (by decide) (by kernel_rfl) h158 ?_
                          refine GoR.phaseK [(2, .gen []), (3, .gen []), (4, .gen [.string o.old]), (5, .as_ (.bool (decide (((aget (lrun ahead) o.key).getD (⟨#[]⟩ : ByteArray)) = o.old))) (.gen [])), (6, .gen [])] [189, 13, 12, 11, 10, 7, 3, 4] [(4, [.cell ⟨b1, 3, none⟩ (.string o.old)]), (5, [.prop (Value.bool (((aget (lrun ahead) o.key).getD (⟨#[]⟩ : ByteArray)).toList == o.old.toList) = Value.bool (decide (((aget (lrun ahead) o.key).getD (⟨#[]⟩ : ByteArray)) = o.old)))])] [(189, .bool (decide (((aget (lrun ahead) o.key).getD (⟨#[]⟩ : ByteArray)) = o.old))), (13, .bool ((aget ((ldo (lrun ahead) o).2) o.key).isSome)), (12, .string ((aget ((ldo (lrun ahead) o).2) o.key).getD (⟨#[]⟩ : ByteArray))), (11, .slice ad59 ((lst ((ldo (lrun ahead) o).2)).length) c60), (10, .pointer (some ⟨b53, 0, none⟩)), (7, .slice ad41 ((lst (lrun ahead)).length) c42), (3, .pointer (some ⟨b1, 0, none⟩)), (4, .bool false)] (by kernel_rfl) rfl (ak (okc (hs85.cell 8 rfl (by kernel_rfl)) ok0) (ak (okp (seq _ _) ok0) ak0)) ?_
                          refine GoR.done ?_
                          refine GoQ.pick [189, 13, 12, 11, 10, 7, 3, 4] (S' := [(189, .bool (decide (((aget (lrun ahead) o.key).getD (⟨#[]⟩ : ByteArray)) = o.old))), (13, .bool ((aget ((ldo (lrun ahead) o).2) o.key).isSome)), (12, .string ((aget ((ldo (lrun ahead) o).2) o.key).getD (⟨#[]⟩ : ByteArray))), (11, .slice ad59 ((lst ((ldo (lrun ahead) o).2)).length) c60), (10, .pointer (some ⟨b53, 0, none⟩)), (7, .slice ad41 ((lst (lrun ahead)).length) c42), (3, .pointer (some ⟨b1, 0, none⟩)), (4, .bool false)]) (by kernel_rfl) ?_
                          exact GoQ.meet1 () (by first | rfl | (simp only [h7, h19, h158, Bool.true_or, Bool.false_or, Bool.true_and, Bool.false_and, Bool.or_true, Bool.or_false, Bool.and_true, Bool.and_false]; done) | (simp [h7, h19, h158]; done)) hs85
                        · refine GoR.setB 184 false (by decide) (by kernel_rfl) h158 ?_
                          refine GoR.phaseK [(2, .gen []), (3, .gen []), (4, .gen []), (5, .gen []), (6, .gen [])] [189, 13, 12, 11, 10, 7, 3, 4] [] [(189, .bool false), (13, .bool ((aget ((ldo (lrun ahead) o).2) o.key).isSome)), (12, .string ((aget ((ldo (lrun ahead) o).2) o.key).getD (⟨#[]⟩ : ByteArray))), (11, .slice ad59 ((lst ((ldo (lrun ahead) o).2)).length) c60), (10, .pointer (some ⟨b53, 0, none⟩)), (7, .slice ad41 ((lst (lrun ahead)).length) c42), (3, .pointer (some ⟨b1, 0, none⟩)), (4, .bool false)] (by kernel_rfl) rfl ak0 ?_
                          refine GoR.done ?_
                          refine GoQ.pick [189, 13, 12, 11, 10, 7, 3, 4] (S' := [(189, .bool false), (13, .bool ((aget ((ldo (lrun ahead) o).2) o.key).isSome)), (12, .string ((aget ((ldo (lrun ahead) o).2) o.key).getD (⟨#[]⟩ : ByteArray))), (11, .slice ad59 ((lst ((ldo (lrun ahead) o).2)).length) c60), (10, .pointer (some ⟨b53, 0, none⟩)), (7, .slice ad41 ((lst (lrun ahead)).length) c42), (3, .pointer (some ⟨b1, 0, none⟩)), (4, .bool false)]) (by kernel_rfl) ?_
                          exact GoQ.meet1 () (by first | rfl | (simp only [h7, h19, h158, Bool.true_or, Bool.false_or, Bool.true_and, Bool.false_and, Bool.or_true, Bool.or_false, Bool.and_true, Bool.and_false]; done) | (simp [h7, h19, h158]; done)) hs85
                      intro _ w159 hs160
                      refine GoQ.thn ?_
                      refine GoC.cond (t := ((aget (lrun ahead) o.key).isSome) && (decide (((aget (lrun ahead) o.key).getD (⟨#[]⟩ : ByteArray)) = o.old))) (by kernel_rfl) (fun h161 => ?_) (fun h161 => ?_)
                      · have h161a : ((aget (lrun ahead) o.key).isSome) = true := (Bool.and_eq_true_iff.1 h161).1
                        have h161b : (decide (((aget (lrun ahead) o.key).getD (⟨#[]⟩ : ByteArray)) = o.old)) = true := (Bool.and_eq_true_iff.1 h161).2
                        have h161b' : ((aget (lrun ahead) o.key).getD (⟨#[]⟩ : ByteArray)) = o.old := of_decide_eq_true h161b
                        refine GoC.seq ?_
                        refine GoC.regT [65535, 65535, 65535, 65535, 65535, 65535, 65535, 65535, 65535, 65535, 65535, 65535, 65535, 65535, 65535, 65535] (.rd 0 (.rd 1 (.rd 2 (.rd 3 (.rd 4 (.rd 5 (.rd 6 (.rd 7 (.rd 8 (.rd 9 (.rd 10 (.rd 11 (.rd 12 (.ef 13 (.rd 14 (.rd 15 .done)))))))))))))))) (by kernel_rfl) (by kernel_rfl) ?_
                        refine GoR.phaseK [(0, .gen []), (1, .gen [])] [191, 12, 11, 10, 7, 3, 4] [] [(191, .bool ((aget ((ldo (lrun ahead) o).2) o.key).isSome)), (12, .string ((aget ((ldo (lrun ahead) o).2) o.key).getD (⟨#[]⟩ : ByteArray))), (11, .slice ad59 ((lst ((ldo (lrun ahead) o).2)).length) c60), (10, .pointer (some ⟨b53, 0, none⟩)), (7, .slice ad41 ((lst (lrun ahead)).length) c42), (3, .pointer (some ⟨b1, 0, none⟩)), (4, .bool false)] (by kernel_rfl) rfl ak0 ?_
                        rcases Bool.eq_false_or_eq_true ((aget ((ldo (lrun ahead) o).2) o.key).isSome) with h162 | h162
                        · refine GoR.setB 191 true (by decide) (by kernel_rfl) h162 ?_
                          refine GoR.phaseK [(2, .gen []), (3, .gen []), (4, .gen [.string o.value]), (5, .as_ (.bool (decide (((aget ((ldo (lrun ahead) o).2) o.key).getD (⟨#[]⟩ : ByteArray)) = o.value))) (.gen [])), (6, .gen []), (7, .gen [])] [197, 11, 10, 7, 4] [(4, [.cell ⟨b1, 2, none⟩ (.string o.value)]), (5, [.prop (Value.bool (((aget ((ldo (lrun ahead) o).2) o.key).getD (⟨#[]⟩ : ByteArray)).toList == o.value.toList) = Value.bool (decide (((aget ((ldo (lrun ahead) o).2) o.key).getD (⟨#[]⟩ : ByteArray)) = o.value)))])] [(197, .bool (decide (((aget ((ldo (lrun ahead) o).2) o.key).getD (⟨#[]⟩ : ByteArray)) = o.value))), (11, .slice ad59 ((lst ((ldo (lrun ahead) o).2)).length) c60), (10, .pointer (some ⟨b53, 0, none⟩)), (7, .slice ad41 ((lst (lrun ahead)).length) c42), (4, .bool false)] (by kernel_rfl) rfl (ak (okc (hs160.cell 8 rfl (by kernel_rfl)) ok0) (ak (okp (seq _ _) ok0) ak0)) ?_
                          rcases Bool.eq_false_or_eq_true (decide (((aget ((ldo (lrun ahead) o).2) o.key).getD (⟨#[]⟩ : ByteArray)) = o.value)) with h163 | h163
                          · refine GoR.setB 197 true (by decide) (by kernel_rfl) h163 ?_
                            have h163' : ((aget ((ldo (lrun ahead) o).2) o.key).getD (⟨#[]⟩ : ByteArray)) = o.value := of_decide_eq_true h163
                            refine GoR.phaseK [(8, .agg (RepV.cells ((ldo (lrun ahead) o).1))), (9, .gen [])] [199, 198, 197, 11, 10, 7, 4] [(8, [.prop (Array.size (RepV.cells ((ldo (lrun ahead) o).1)) = 2), .cells ⟨b53, 0, none⟩ (RepV.cells ((ldo (lrun ahead) o).1))])] [(199, .agg #[.int .i64 0, .string (⟨#[]⟩ : ByteArray)]), (198, .agg (RepV.cells ((ldo (lrun ahead) o).1))), (197, .bool true), (11, .slice ad59 ((lst ((ldo (lrun ahead) o).2)).length) c60), (10, .pointer (some ⟨b53, 0, none⟩)), (7, .slice ad41 ((lst (lrun ahead)).length) c42), (4, .bool false)] (by kernel_rfl) rfl (ak (okp (by kernel_rfl) (oka (hs160.cells 5 0 rfl (by kernel_rfl)) ok0)) ak0) ?_
                            refine GoR.eqAgg rfl (by kernel_rfl) (b := true) (t := 34) (xs := RepV.cells ((ldo (lrun ahead) o).1)) (ys := RepV.cells (⟨0, (⟨#[]⟩ : ByteArray)⟩ : RepV)) (m := 2) (by kernel_rfl) (by kernel_rfl) (by decide) (by kernel_rfl) (r := decide ((ldo (lrun ahead) o).1 = (⟨0, (⟨#[]⟩ : ByteArray)⟩ : RepV))) (aggEq  (repEq ((ldo (lrun ahead) o).1) (⟨0, (⟨#[]⟩ : ByteArray)⟩ : RepV))) ?_
                            refine GoR.phaseK [(11, .gen []), (12, .gen [])] [202, 11, 10, 7, 4] [] [(202, .bool (decide ((ldo (lrun ahead) o).1 = (⟨0, (⟨#[]⟩ : ByteArray)⟩ : RepV)))), (11, .slice ad59 ((lst ((ldo (lrun ahead) o).2)).length) c60), (10, .pointer (some ⟨b53, 0, none⟩)), (7, .slice ad41 ((lst (lrun ahead)).length) c42), (4, .bool false)] (by kernel_rfl) rfl ak0 ?_
                            rcases Bool.eq_false_or_eq_true (decide ((ldo (lrun ahead) o).1 = (⟨0, (⟨#[]⟩ : ByteArray)⟩ : RepV))) with h164 | h164
                            · refine GoR.setB 202 true (by decide) (by kernel_rfl) h164 ?_
                              have h164' : (ldo (lrun ahead) o).1 = (⟨0, (⟨#[]⟩ : ByteArray)⟩ : RepV) := of_decide_eq_true h164
                              refine GoR.call rfl rfl (by kernel_rfl) (f := 21) (args := #[]) (by kernel_rfl) Tryd.call21 (works_spec (fun w h => hLW.base h 9 rfl) hs160) ?_
                              rintro v166 w167 ⟨rfl, hs165⟩
                              refine ⟨(opn (by kernel_rfl)), ?_⟩
                              refine GoR.phaseK [(14, .gen []), (15, .gen [])] [4, 11, 10, 7] [] [(4, .bool true), (11, .slice ad59 ((lst ((ldo (lrun ahead) o).2)).length) c60), (10, .pointer (some ⟨b53, 0, none⟩)), (7, .slice ad41 ((lst (lrun ahead)).length) c42)] (by kernel_rfl) rfl ak0 ?_
                              refine GoR.done (GoQ.thn (GoC.ret (GoQ.skipCR (GoQ.blkR (GoQ.skipCR ?_)))))
                              refine GoQ.done (.inl rfl) (v := .bool true) (fun a hf => results1 rfl (by kernel_rfl) a hf) ?_
                              have hr : effB (lrun ahead) o = true := by rw [effB, if_neg (ne_true_of_eq_false h84), if_neg (ne_true_of_eq_false h88), if_neg (ne_true_of_eq_false h97), if_neg (ne_true_of_eq_false h117), if_neg (ne_true_of_eq_false h140), if_pos h157, if_pos h161, if_pos h162, if_pos h163, if_pos h164]
                              exact ⟨congrArg Value.bool (hr.symm.trans (effB_true (lrun_inv _) o)), hs165.below 9 rfl⟩
                            · refine GoR.setB 202 false (by decide) (by kernel_rfl) h164 ?_
                              have h164' : ¬ ((ldo (lrun ahead) o).1 = (⟨0, (⟨#[]⟩ : ByteArray)⟩ : RepV)) := of_decide_eq_false h164
                              refine GoR.skip rfl (by kernel_rfl) (opn (by kernel_rfl)) ?_
                              refine GoR.phaseK [(14, .gen []), (15, .gen [])] [4, 11, 10, 7] [] [(4, .bool false), (11, .slice ad59 ((lst ((ldo (lrun ahead) o).2)).length) c60), (10, .pointer (some ⟨b53, 0, none⟩)), (7, .slice ad41 ((lst (lrun ahead)).length) c42)] (by kernel_rfl) rfl ak0 ?_
                              refine GoR.done (GoQ.thn (GoC.ret (GoQ.skipCR (GoQ.blkR (GoQ.skipCR ?_)))))
                              refine GoQ.done (.inl rfl) (v := .bool false) (fun a hf => results1 rfl (by kernel_rfl) a hf) ?_
                              have hr : effB (lrun ahead) o = false := by rw [effB, if_neg (ne_true_of_eq_false h84), if_neg (ne_true_of_eq_false h88), if_neg (ne_true_of_eq_false h97), if_neg (ne_true_of_eq_false h117), if_neg (ne_true_of_eq_false h140), if_pos h157, if_pos h161, if_pos h162, if_pos h163, if_neg (ne_true_of_eq_false h164)]
                              exact ⟨congrArg Value.bool (hr.symm.trans (effB_true (lrun_inv _) o)), hs160.below 9 rfl⟩
                          · refine GoR.setB 197 false (by decide) (by kernel_rfl) h163 ?_
                            have h163' : ¬ (((aget ((ldo (lrun ahead) o).2) o.key).getD (⟨#[]⟩ : ByteArray)) = o.value) := of_decide_eq_false h163
                            refine GoR.phaseK [(8, .gen []), (9, .gen []), (10, .gen []), (11, .gen []), (12, .gen [])] [202, 11, 10, 7, 4] [] [(202, .bool false), (11, .slice ad59 ((lst ((ldo (lrun ahead) o).2)).length) c60), (10, .pointer (some ⟨b53, 0, none⟩)), (7, .slice ad41 ((lst (lrun ahead)).length) c42), (4, .bool false)] (by kernel_rfl) rfl ak0 ?_
                            refine GoR.skip rfl (by kernel_rfl) (opn (by kernel_rfl)) ?_
                            refine GoR.phaseK [(14, .gen []), (15, .gen [])] [4, 11, 10, 7] [] [(4, .bool false), (11, .slice ad59 ((lst ((ldo (lrun ahead) o).2)).length) c60), (10, .pointer (some ⟨b53, 0, none⟩)), (7, .slice ad41 ((lst (lrun ahead)).length) c42)] (by kernel_rfl) rfl ak0 ?_
                            refine GoR.done (GoQ.thn (GoC.ret (GoQ.skipCR (GoQ.blkR (GoQ.skipCR ?_)))))
                            refine GoQ.done (.inl rfl) (v := .bool false) (fun a hf => results1 rfl (by kernel_rfl) a hf) ?_
                            have hr : effB (lrun ahead) o = false := by rw [effB, if_neg (ne_true_of_eq_false h84), if_neg (ne_true_of_eq_false h88), if_neg (ne_true_of_eq_false h97), if_neg (ne_true_of_eq_false h117), if_neg (ne_true_of_eq_false h140), if_pos h157, if_pos h161, if_pos h162, if_neg (ne_true_of_eq_false h163)]
                            exact ⟨congrArg Value.bool (hr.symm.trans (effB_true (lrun_inv _) o)), hs160.below 9 rfl⟩
                        · refine GoR.setB 191 false (by decide) (by kernel_rfl) h162 ?_
                          refine GoR.phaseK [(2, .gen []), (3, .gen []), (4, .gen []), (5, .gen []), (6, .gen []), (7, .gen []), (8, .gen []), (9, .gen []), (10, .gen []), (11, .gen []), (12, .gen [])] [202, 11, 10, 7, 4] [] [(202, .bool false), (11, .slice ad59 ((lst ((ldo (lrun ahead) o).2)).length) c60), (10, .pointer (some ⟨b53, 0, none⟩)), (7, .slice ad41 ((lst (lrun ahead)).length) c42), (4, .bool false)] (by kernel_rfl) rfl ak0 ?_
                          refine GoR.skip rfl (by kernel_rfl) (opn (by kernel_rfl)) ?_
                          refine GoR.phaseK [(14, .gen []), (15, .gen [])] [4, 11, 10, 7] [] [(4, .bool false), (11, .slice ad59 ((lst ((ldo (lrun ahead) o).2)).length) c60), (10, .pointer (some ⟨b53, 0, none⟩)), (7, .slice ad41 ((lst (lrun ahead)).length) c42)] (by kernel_rfl) rfl ak0 ?_
                          refine GoR.done (GoQ.thn (GoC.ret (GoQ.skipCR (GoQ.blkR (GoQ.skipCR ?_)))))
                          refine GoQ.done (.inl rfl) (v := .bool false) (fun a hf => results1 rfl (by kernel_rfl) a hf) ?_
                          have hr : effB (lrun ahead) o = false := by rw [effB, if_neg (ne_true_of_eq_false h84), if_neg (ne_true_of_eq_false h88), if_neg (ne_true_of_eq_false h97), if_neg (ne_true_of_eq_false h117), if_neg (ne_true_of_eq_false h140), if_pos h157, if_pos h161, if_neg (ne_true_of_eq_false h162)]
                          exact ⟨congrArg Value.bool (hr.symm.trans (effB_true (lrun_inv _) o)), hs160.below 9 rfl⟩
                      · refine GoC.skip (GoQ.thn (GoC.seq ?_))
                        refine GoC.regT [4095, 4095, 4095, 4095, 4095, 4095, 4095, 4095, 4095, 4095, 4095, 4095] (.rd 0 (.rd 1 (.ef 2 (.rd 3 (.rd 4 (.rd 5 (.rd 6 (.rd 7 (.rd 8 (.ef 9 (.rd 10 (.rd 11 .done)))))))))))) (by kernel_rfl) (by kernel_rfl) ?_
                        refine GoR.phaseK [(0, .gen []), (1, .gen [])] [206, 205, 10, 4] [] [(206, .slice ad59 ((lst ((ldo (lrun ahead) o).2)).length) c60), (205, .slice ad41 ((lst (lrun ahead)).length) c42), (10, .pointer (some ⟨b53, 0, none⟩)), (4, .bool false)] (by kernel_rfl) rfl ak0 ?_
                        refine GoR.call rfl rfl (by kernel_rfl) (f := 25) (args := #[.slice ad41 ((lst (lrun ahead)).length) c42, .slice ad59 ((lst ((ldo (lrun ahead) o).2)).length) c60]) (by kernel_rfl) Tryd.call25 (same_spec (lst (lrun ahead)) (lst ((ldo (lrun ahead) o).2)) (by rw [lst_length]; exact Nat.le_trans (lrun_inv _).len (by decide)) (by rw [lst_length]; exact Nat.le_trans (ldo_inv _ (lrun_inv _)).len (by decide)) (fun w h => h.rows 6 rfl (itemF).size _) (fun w h => h.rows 4 rfl (itemF).size _) hs160) ?_
                        rintro v169 w170 ⟨rfl, hs168⟩
                        refine ⟨(opn (by kernel_rfl)), ?_⟩
                        refine GoR.phaseK [(3, .gen [])] [208, 10, 4] [] [(208, .bool (decide ((lst (lrun ahead)) = (lst ((ldo (lrun ahead) o).2))))), (10, .pointer (some ⟨b53, 0, none⟩)), (4, .bool false)] (by kernel_rfl) rfl ak0 ?_
                        rcases Bool.eq_false_or_eq_true (decide ((lst (lrun ahead)) = (lst ((ldo (lrun ahead) o).2)))) with h171 | h171
                        · refine GoR.setB 208 true (by decide) (by kernel_rfl) h171 ?_
                          refine GoR.phaseK [(4, .gen []), (5, .gen [.int .i64 (((ldo (lrun ahead) o).1).err)]), (6, .gen []), (7, .gen []), (8, .gen [])] [213, 4] [(5, [.cell ⟨b53, 0, none⟩ (.int .i64 (((ldo (lrun ahead) o).1).err))])] [(213, .bool (((((ldo (lrun ahead) o).1).err) : Int) != 0)), (4, .bool false)] (by kernel_rfl) rfl (ak (okc (hs168.cell 5 rfl (by kernel_rfl)) ok0) ak0) ?_
                          rcases Bool.eq_false_or_eq_true (((((ldo (lrun ahead) o).1).err) : Int) != 0) with h172 | h172
                          · refine GoR.setB 213 true (by decide) (by kernel_rfl) h172 ?_
                            have h172' : ¬ ((((ldo (lrun ahead) o).1).err : Int) = 0) := ineT h172
                            refine GoR.call rfl rfl (by kernel_rfl) (f := 21) (args := #[]) (by kernel_rfl) Tryd.call21 (works_spec (fun w h => hLW.base h 9 rfl) hs168) ?_
                            rintro v174 w175 ⟨rfl, hs173⟩
                            refine ⟨(opn (by kernel_rfl)), ?_⟩
                            refine GoR.phaseK [(10, .gen []), (11, .gen [])] [4] [] [(4, .bool true)] (by kernel_rfl) rfl ak0 ?_
                            refine GoR.done (GoQ.thn (GoC.ret (GoQ.blkR (GoQ.skipCR ?_))))
                            refine GoQ.done (.inl rfl) (v := .bool true) (fun a hf => results1 rfl (by kernel_rfl) a hf) ?_
                            have hr : effB (lrun ahead) o = true := by rw [effB, if_neg (ne_true_of_eq_false h84), if_neg (ne_true_of_eq_false h88), if_neg (ne_true_of_eq_false h97), if_neg (ne_true_of_eq_false h117), if_neg (ne_true_of_eq_false h140), if_pos h157, if_neg (ne_true_of_eq_false h161), if_pos h171, if_pos h172]
                            exact ⟨congrArg Value.bool (hr.symm.trans (effB_true (lrun_inv _) o)), hs173.below 9 rfl⟩
                          · refine GoR.setB 213 false (by decide) (by kernel_rfl) h172 ?_
                            have h172' : (((ldo (lrun ahead) o).1).err : Int) = 0 := ineF h172
                            refine GoR.skip rfl (by kernel_rfl) (opn (by kernel_rfl)) ?_
                            refine GoR.phaseK [(10, .gen []), (11, .gen [])] [4] [] [(4, .bool false)] (by kernel_rfl) rfl ak0 ?_
                            refine GoR.done (GoQ.thn (GoC.ret (GoQ.blkR (GoQ.skipCR ?_))))
                            refine GoQ.done (.inl rfl) (v := .bool false) (fun a hf => results1 rfl (by kernel_rfl) a hf) ?_
                            have hr : effB (lrun ahead) o = false := by rw [effB, if_neg (ne_true_of_eq_false h84), if_neg (ne_true_of_eq_false h88), if_neg (ne_true_of_eq_false h97), if_neg (ne_true_of_eq_false h117), if_neg (ne_true_of_eq_false h140), if_pos h157, if_neg (ne_true_of_eq_false h161), if_pos h171, if_neg (ne_true_of_eq_false h172)]
                            exact ⟨congrArg Value.bool (hr.symm.trans (effB_true (lrun_inv _) o)), hs168.below 9 rfl⟩
                        · refine GoR.setB 208 false (by decide) (by kernel_rfl) h171 ?_
                          refine GoR.phaseK [(4, .gen []), (5, .gen []), (6, .gen []), (7, .gen []), (8, .gen [])] [213, 4] [] [(213, .bool false), (4, .bool false)] (by kernel_rfl) rfl ak0 ?_
                          refine GoR.skip rfl (by kernel_rfl) (opn (by kernel_rfl)) ?_
                          refine GoR.phaseK [(10, .gen []), (11, .gen [])] [4] [] [(4, .bool false)] (by kernel_rfl) rfl ak0 ?_
                          refine GoR.done (GoQ.thn (GoC.ret (GoQ.blkR (GoQ.skipCR ?_))))
                          refine GoQ.done (.inl rfl) (v := .bool false) (fun a hf => results1 rfl (by kernel_rfl) a hf) ?_
                          have hr : effB (lrun ahead) o = false := by rw [effB, if_neg (ne_true_of_eq_false h84), if_neg (ne_true_of_eq_false h88), if_neg (ne_true_of_eq_false h97), if_neg (ne_true_of_eq_false h117), if_neg (ne_true_of_eq_false h140), if_pos h157, if_neg (ne_true_of_eq_false h161), if_neg (ne_true_of_eq_false h171)]
                          exact ⟨congrArg Value.bool (hr.symm.trans (effB_true (lrun_inv _) o)), hs168.below 9 rfl⟩
                    · have h157' : ¬ ((o.kind : Int) = 4) := ieqF h157
                      refine GoC.skip (GoQ.blkN (GoQ.thn (GoC.seq ?_)))
                      refine GoC.regT [3, 3] (.ef 0 (.rd 1 .done)) (by kernel_rfl) (by kernel_rfl) ?_
                      refine GoR.call rfl rfl (by kernel_rfl) (f := 21) (args := #[]) (by kernel_rfl) Tryd.call21 (works_spec (fun w h => hLW.base h 9 rfl) hs85) ?_
                      rintro v177 w178 ⟨rfl, hs176⟩
                      refine ⟨(opn (by kernel_rfl)), ?_⟩
                      refine GoR.phaseK [(1, .gen [])] [4] [] [(4, .bool true)] (by kernel_rfl) rfl ak0 ?_
                      refine GoR.done (GoQ.thn (GoC.ret ?_))
                      refine GoQ.done (.inl rfl) (v := .bool true) (fun a hf => results1 rfl (by kernel_rfl) a hf) ?_
                      have hr : effB (lrun ahead) o = true := by rw [effB, if_neg (ne_true_of_eq_false h84), if_neg (ne_true_of_eq_false h88), if_neg (ne_true_of_eq_false h97), if_neg (ne_true_of_eq_false h117), if_neg (ne_true_of_eq_false h140), if_neg (ne_true_of_eq_false h157)]
                      exact ⟨congrArg Value.bool (hr.symm.trans (effB_true (lrun_inv _) o)), hs176.below 9 rfl⟩
end Go.Proofs.YtkeckbgkhpaofaaDoor
